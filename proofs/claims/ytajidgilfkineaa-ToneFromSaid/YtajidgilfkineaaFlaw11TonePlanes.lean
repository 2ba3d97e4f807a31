/- incunable/incunablelaw11.TonePlanes: its typed text, and that the machine does it. -/
import Derived.Test.YtajidgilfkineaaEvU
import Derived.Test.YtajidgilfkineaaFlaw11Sane
import Derived.Test.YtajidgilfkineaaFref01SameBytes
import Derived.Test.YtajidgilfkineaaFref01SameInts
import Derived.Test.YtajidgilfkineaaFref11Planes
import Derived.Test.YtajidgilfkineaaFtoneFromPlanes
import Derived.Test.YtajidgilfkineaaFtonePlanes
set_option linter.unusedVariables false
set_option linter.unusedSimpArgs false
set_option maxRecDepth 100000
namespace Go.Proofs.Ytajidgilfkineaa
open Go Ev
def kp4 (i : Nat) : Option (List Nat) := Ev.look i [(8, [0, 1, 5, 6, 7, 9]), (18, [1, 11]), (25, [1, 11, 12, 14, 15]), (100000, [0, 1, 5, 6]), (100002, []), (100004, [1, 11, 14]), (400000, [4]), (400002, [4]), (400004, [4])]
def Gg4 (f16 : YF16) (f17 : YF17) (f18 : YF18) (f19 : YF19) (f20 : YF20) (f21 : YF21) (f : Nat) : Option Ev.Spec := Ev.look f [(16, spg16 f16), (17, spg17 f17), (18, spg18 f18), (19, spg19 f19), (20, spg20 f20), (21, spg21 f21)]
def G4 (fuel : Nat) : Nat → Option Ev.Spec := Gg4 (F_tone_Planes fuel) (F_law11_Sane fuel) (F_ref11_Planes fuel) (F_ref01_SameBytes fuel) (F_tone_FromPlanes fuel) (F_ref01_SameInts fuel)
def S_law11_TonePlanes_0 (fuel : Nat) (v : (List Int) × Int × Int × Int × (List (List Int)) × (List (List Int))) (c : ((List Int) × Int × Int × Int × (List (List Int)) × (List (List Int))) → Option Ans) (B : (Bool → Option Ans) × ((List Int) × Int × Int × (List (List Int)) → Option Ans)) : Option Ans := match v, B with
  | (x0, x1, x2, x3, x4, x5), (ret, b) =>
   bif Decidable.decide (x3 < (↑x4.length : Int)) then
      bif Decidable.decide ((0 : Int) ≤ x3 ∧ x3 < (↑x4.length : Int)) then
      bif Decidable.decide ((0 : Int) ≤ x3 ∧ x3 < (↑x5.length : Int)) then
       both ((F_ref01_SameBytes fuel (x4.getD x3.toNat []) (x5.getD x3.toNat [])
            (fun y7 =>
              bif !y7 then
               ret Bool.false
              else
               c (x0, x1, x2, Go.IntKind.i64.wrap (x3 + (1 : Int)), x4, x5))))
         ((F_ref01_SameBytes fuel (x4.getD x3.toNat []) (x5.getD x3.toNat [])
            (fun y7 =>
              bif !y7 then
               ret Bool.false
              else
               c (x0, x1, x2, Go.IntKind.i64.wrap (x3 + (1 : Int)), x4, x5))))
       else none
      else none
     else
      b (x0, x1, x2, x4)
def L_law11_TonePlanes_0 (fuel : Nat) (v : (List Int) × Int × Int × Int × (List (List Int)) × (List (List Int))) (ret : (Bool → Option Ans)) (b : ((List Int) × Int × Int × (List (List Int)) → Option Ans)) : Option Ans := iter (S_law11_TonePlanes_0 fuel) fuel v (ret, b)
def J4_0 (fuel : Nat) (i : Nat) : Option Ev.Blk := Ev.look i []
def T4_0 (v : (List Int) × Int × Int × Int × (List (List Int)) × (List (List Int))) : Ev.St := match v with | (x0, x1, x2, x3, x4, x5) => ⟨[(0, .c (.sl (.int .i64) x0)), (1, .c (.int .i64 x1)), (5, .c (.own 0)), (6, .c (.int .i64 x2)), (7, .c (.own 1)), (9, .c (.int .i64 x3))], [(0, .vec 28 (.sl (.int .u8)) x4 true), (1, .vec 28 (.sl (.int .u8)) x5 true)], 2, 0⟩
def E4_0 (K : Ev.Ex → Ev.St → Option Ans) : (Bool → Option Ans) × ((List Int) × Int × Int × (List (List Int)) → Option Ans) := ((fun v => match v with | x0 => K .ret ⟨[(4, .c (.bool x0))], [], 0, 0⟩), (fun v => match v with | (x0, x1, x2, x3) => K .normal ⟨[(0, .c (.sl (.int .i64) x0)), (1, .c (.int .i64 x1)), (5, .c (.own 0)), (6, .c (.int .i64 x2))], [(0, .vec 28 (.sl (.int .u8)) x3 true)], 1, 0⟩))
theorem S4_0_okg (fuel : Nat) (f16 : YF16) (f17 : YF17) (f18 : YF18) (f19 : YF19) (f20 : YF20) (f21 : YF21) (R : Ev.St → Option Ans) (K : Ev.Ex → Ev.St → Option Ans) (x0 : (List Int)) (x1 : Int) (x2 : Int) (x3 : Int) (x4 : (List (List Int))) (x5 : (List (List Int))) : evalCode tab (Gg4 f16 f17 f18 f19 f20 f21) (J4_0 fuel) kp4 fuel (bodyOf 0 Try.f4) (T4_0 (x0, x1, x2, x3, x4, x5)) (lc kp4 8 0 R K) = (fun (c : ((List Int) × Int × Int × Int × (List (List Int)) × (List (List Int))) → Option Ans) (B : (Bool → Option Ans) × ((List Int) × Int × Int × (List (List Int)) → Option Ans)) => match B with
  | (ret, b) =>
   bif Decidable.decide (x3 < (↑x4.length : Int)) then
      bif Decidable.decide ((0 : Int) ≤ x3 ∧ x3 < (↑x4.length : Int)) then
      bif Decidable.decide ((0 : Int) ≤ x3 ∧ x3 < (↑x5.length : Int)) then
       both ((f19 (x4.getD x3.toNat []) (x5.getD x3.toNat [])
            (fun y7 =>
              bif !y7 then
               ret Bool.false
              else
               c (x0, x1, x2, Go.IntKind.i64.wrap (x3 + (1 : Int)), x4, x5))))
         ((f19 (x4.getD x3.toNat []) (x5.getD x3.toNat [])
            (fun y7 =>
              bif !y7 then
               ret Bool.false
              else
               c (x0, x1, x2, Go.IntKind.i64.wrap (x3 + (1 : Int)), x4, x5))))
       else none
      else none
     else
      b (x0, x1, x2, x4)) (fun v => R (T4_0 v)) (E4_0 K) := by
  kernel_rfl
theorem S4_0_ok (fuel : Nat) (R : Ev.St → Option Ans) (K : Ev.Ex → Ev.St → Option Ans) (x0 : (List Int)) (x1 : Int) (x2 : Int) (x3 : Int) (x4 : (List (List Int))) (x5 : (List (List Int))) : evalCode tab (G4 fuel) (J4_0 fuel) kp4 fuel (bodyOf 0 Try.f4) (T4_0 (x0, x1, x2, x3, x4, x5)) (lc kp4 8 0 R K) = S_law11_TonePlanes_0 fuel (x0, x1, x2, x3, x4, x5) (fun v => R (T4_0 v)) (E4_0 K) :=
  S4_0_okg fuel (F_tone_Planes fuel) (F_law11_Sane fuel) (F_ref11_Planes fuel) (F_ref01_SameBytes fuel) (F_tone_FromPlanes fuel) (F_ref01_SameInts fuel) R K x0 x1 x2 x3 x4 x5
def B4_0 (fuel : Nat) : Ev.Blk := fun st K => match canonO (kp4 8) st with
  | some s => (match s with
    | ⟨[(q0, .c (.sl (.int .i64) x0)), (q1, .c (.int .i64 x1)), (q2, .c (.own q3)), (q4, .c (.int .i64 x2)), (q5, .c (.own q6)), (q7, .c (.int .i64 x3))], [(q8, .vec q9 (.sl (.int .u8)) x4 true), (q10, .vec q11 (.sl (.int .u8)) x5 true)], q12, q13⟩ => bif Nat.beq q0 0 && Nat.beq q1 1 && Nat.beq q2 5 && Nat.beq q3 0 && Nat.beq q4 6 && Nat.beq q5 7 && Nat.beq q6 1 && Nat.beq q7 9 && Nat.beq q8 0 && Nat.beq q9 28 && Nat.beq q10 1 && Nat.beq q11 28 && Nat.beq q12 2 && Nat.beq q13 0 then iter (S_law11_TonePlanes_0 fuel) fuel (x0, x1, x2, x3, x4, x5) (E4_0 K) else none
    | _ => none)
  | none => none
theorem B4_0_ok (fuel : Nat) (st : Ev.St) (K : Ev.Ex → Ev.St → Option Ans) (r : Ans) (h : B4_0 fuel st K = some r) : evalCode tab (G4 fuel) (J4_0 fuel) kp4 fuel (.block 0 (.loop (bodyOf 0 Try.f4))) st K = some r := by
  unfold B4_0 at h
  split at h
  · rename_i s hs
    split at h
    · obtain ⟨hb, h⟩ := cond_some' h
      simp only [Bool.and_eq_true, Nat.beq_eq, decide_eq_true_eq] at hb
      obtain ⟨⟨⟨⟨⟨⟨⟨⟨⟨⟨⟨⟨⟨rfl, rfl⟩, rfl⟩, rfl⟩, rfl⟩, rfl⟩, rfl⟩, rfl⟩, rfl⟩, rfl⟩, rfl⟩, rfl⟩, rfl⟩, rfl⟩ := hb
      exact blk_loop (S := T4_0) (ks := E4_0) (step := S_law11_TonePlanes_0 fuel) (v := (_, _, _, _, _, _)) (by kernel_rfl) (by kernel_rfl) (fun R K v => by obtain ⟨x0, x1, x2, x3, x4, x5⟩ := v; exact S4_0_ok fuel R K x0 x1 x2 x3 x4 x5) hs h
    · cases h
  · cases h
def S_law11_TonePlanes_4 (fuel : Nat) (v : Int × Int × Int × Int × (List (List Int))) (c : (Int × Int × Int × Int × (List (List Int))) → Option Ans) (B : (Bool → Option Ans) × (Int × Int × Int → Option Ans)) : Option Ans := match v, B with
  | (x0, x1, x2, x3, x4), (ret, b) =>
   bif Decidable.decide (x3 < x0) then
      bif Decidable.decide ((0 : Int) ≤ x3 ∧ x3 < (↑x4.length : Int)) then
      bif (↑(List.length (x4.getD x3.toNat [])) : Int) != (2 : Int) then
        ret Bool.false
       else
        bif Decidable.decide ((0 : Int) ≤ x3 ∧ x3 < (↑x4.length : Int)) then
        bif Decidable.decide ((0 : Int) ≤ x3 ∧ x3 < (↑x4.length : Int)) then
         both (bif Decidable.decide ((0 : Int) ≤ (0 : Int) ∧ (0 : Int) < (↑(List.length (x4.getD x3.toNat [])) : Int)) then
            bif Decidable.decide ((0 : Int) ≤ (1 : Int) ∧ (1 : Int) < (↑(List.length (x4.getD x3.toNat [])) : Int)) then
             bif List.getD (x4.getD x3.toNat []) (Int.toNat (0 : Int)) (0 : Int) != List.getD (x4.getD x3.toNat []) (Int.toNat (1 : Int)) (0 : Int) then
               c (x0, x1, Go.IntKind.i64.wrap (x2 + (1 : Int)), Go.IntKind.i64.wrap (x3 + (1 : Int)), x4)
              else
               c (x0, x1, x2, Go.IntKind.i64.wrap (x3 + (1 : Int)), x4)
             else none
            else none)
           (bif Decidable.decide ((0 : Int) ≤ (1 : Int) ∧ (1 : Int) < (↑(List.length (x4.getD x3.toNat [])) : Int)) then
            bif Decidable.decide ((0 : Int) ≤ (0 : Int) ∧ (0 : Int) < (↑(List.length (x4.getD x3.toNat [])) : Int)) then
             bif List.getD (x4.getD x3.toNat []) (Int.toNat (0 : Int)) (0 : Int) != List.getD (x4.getD x3.toNat []) (Int.toNat (1 : Int)) (0 : Int) then
               c (x0, x1, Go.IntKind.i64.wrap (x2 + (1 : Int)), Go.IntKind.i64.wrap (x3 + (1 : Int)), x4)
              else
               c (x0, x1, x2, Go.IntKind.i64.wrap (x3 + (1 : Int)), x4)
             else none
            else none)
         else none
        else none
      else none
     else
      b (x0, x1, x2)
def L_law11_TonePlanes_4 (fuel : Nat) (v : Int × Int × Int × Int × (List (List Int))) (ret : (Bool → Option Ans)) (b : (Int × Int × Int → Option Ans)) : Option Ans := iter (S_law11_TonePlanes_4 fuel) fuel v (ret, b)
def J4_4 (fuel : Nat) (i : Nat) : Option Ev.Blk := Ev.look i [(100000, B4_0 fuel)]
def T4_4 (v : Int × Int × Int × Int × (List (List Int))) : Ev.St := match v with | (x0, x1, x2, x3, x4) => ⟨[(1, .c (.int .i64 x0)), (11, .c (.int .i64 x1)), (12, .c (.own 0)), (14, .c (.int .i64 x2)), (15, .c (.int .i64 x3))], [(0, .vec 28 (.sl (.int .u8)) x4 true)], 1, 0⟩
def E4_4 (K : Ev.Ex → Ev.St → Option Ans) : (Bool → Option Ans) × (Int × Int × Int → Option Ans) := ((fun v => match v with | x0 => K .ret ⟨[(4, .c (.bool x0))], [], 0, 0⟩), (fun v => match v with | (x0, x1, x2) => K .normal ⟨[(1, .c (.int .i64 x0)), (11, .c (.int .i64 x1)), (14, .c (.int .i64 x2))], [], 0, 0⟩))
theorem S4_4_okg (fuel : Nat) (f16 : YF16) (f17 : YF17) (f18 : YF18) (f19 : YF19) (f20 : YF20) (f21 : YF21) (R : Ev.St → Option Ans) (K : Ev.Ex → Ev.St → Option Ans) (x0 : Int) (x1 : Int) (x2 : Int) (x3 : Int) (x4 : (List (List Int))) : evalCode tab (Gg4 f16 f17 f18 f19 f20 f21) (J4_4 fuel) kp4 fuel (bodyOf 4 Try.f4) (T4_4 (x0, x1, x2, x3, x4)) (lc kp4 25 4 R K) = (fun (c : (Int × Int × Int × Int × (List (List Int))) → Option Ans) (B : (Bool → Option Ans) × (Int × Int × Int → Option Ans)) => match B with
  | (ret, b) =>
   bif Decidable.decide (x3 < x0) then
      bif Decidable.decide ((0 : Int) ≤ x3 ∧ x3 < (↑x4.length : Int)) then
      bif (↑(List.length (x4.getD x3.toNat [])) : Int) != (2 : Int) then
        ret Bool.false
       else
        bif Decidable.decide ((0 : Int) ≤ x3 ∧ x3 < (↑x4.length : Int)) then
        bif Decidable.decide ((0 : Int) ≤ x3 ∧ x3 < (↑x4.length : Int)) then
         both (bif Decidable.decide ((0 : Int) ≤ (0 : Int) ∧ (0 : Int) < (↑(List.length (x4.getD x3.toNat [])) : Int)) then
            bif Decidable.decide ((0 : Int) ≤ (1 : Int) ∧ (1 : Int) < (↑(List.length (x4.getD x3.toNat [])) : Int)) then
             bif List.getD (x4.getD x3.toNat []) (Int.toNat (0 : Int)) (0 : Int) != List.getD (x4.getD x3.toNat []) (Int.toNat (1 : Int)) (0 : Int) then
               c (x0, x1, Go.IntKind.i64.wrap (x2 + (1 : Int)), Go.IntKind.i64.wrap (x3 + (1 : Int)), x4)
              else
               c (x0, x1, x2, Go.IntKind.i64.wrap (x3 + (1 : Int)), x4)
             else none
            else none)
           (bif Decidable.decide ((0 : Int) ≤ (1 : Int) ∧ (1 : Int) < (↑(List.length (x4.getD x3.toNat [])) : Int)) then
            bif Decidable.decide ((0 : Int) ≤ (0 : Int) ∧ (0 : Int) < (↑(List.length (x4.getD x3.toNat [])) : Int)) then
             bif List.getD (x4.getD x3.toNat []) (Int.toNat (0 : Int)) (0 : Int) != List.getD (x4.getD x3.toNat []) (Int.toNat (1 : Int)) (0 : Int) then
               c (x0, x1, Go.IntKind.i64.wrap (x2 + (1 : Int)), Go.IntKind.i64.wrap (x3 + (1 : Int)), x4)
              else
               c (x0, x1, x2, Go.IntKind.i64.wrap (x3 + (1 : Int)), x4)
             else none
            else none)
         else none
        else none
      else none
     else
      b (x0, x1, x2)) (fun v => R (T4_4 v)) (E4_4 K) := by
  kernel_rfl
theorem S4_4_ok (fuel : Nat) (R : Ev.St → Option Ans) (K : Ev.Ex → Ev.St → Option Ans) (x0 : Int) (x1 : Int) (x2 : Int) (x3 : Int) (x4 : (List (List Int))) : evalCode tab (G4 fuel) (J4_4 fuel) kp4 fuel (bodyOf 4 Try.f4) (T4_4 (x0, x1, x2, x3, x4)) (lc kp4 25 4 R K) = S_law11_TonePlanes_4 fuel (x0, x1, x2, x3, x4) (fun v => R (T4_4 v)) (E4_4 K) :=
  S4_4_okg fuel (F_tone_Planes fuel) (F_law11_Sane fuel) (F_ref11_Planes fuel) (F_ref01_SameBytes fuel) (F_tone_FromPlanes fuel) (F_ref01_SameInts fuel) R K x0 x1 x2 x3 x4
def B4_4 (fuel : Nat) : Ev.Blk := fun st K => match canonO (kp4 25) st with
  | some s => (match s with
    | ⟨[(q0, .c (.int .i64 x0)), (q1, .c (.int .i64 x1)), (q2, .c (.own q3)), (q4, .c (.int .i64 x2)), (q5, .c (.int .i64 x3))], [(q6, .vec q7 (.sl (.int .u8)) x4 true)], q8, q9⟩ => bif Nat.beq q0 1 && Nat.beq q1 11 && Nat.beq q2 12 && Nat.beq q3 0 && Nat.beq q4 14 && Nat.beq q5 15 && Nat.beq q6 0 && Nat.beq q7 28 && Nat.beq q8 1 && Nat.beq q9 0 then iter (S_law11_TonePlanes_4 fuel) fuel (x0, x1, x2, x3, x4) (E4_4 K) else none
    | _ => none)
  | none => none
theorem B4_4_ok (fuel : Nat) (st : Ev.St) (K : Ev.Ex → Ev.St → Option Ans) (r : Ans) (h : B4_4 fuel st K = some r) : evalCode tab (G4 fuel) (J4_4 fuel) kp4 fuel (.block 4 (.loop (bodyOf 4 Try.f4))) st K = some r := by
  unfold B4_4 at h
  split at h
  · rename_i s hs
    split at h
    · obtain ⟨hb, h⟩ := cond_some' h
      simp only [Bool.and_eq_true, Nat.beq_eq, decide_eq_true_eq] at hb
      obtain ⟨⟨⟨⟨⟨⟨⟨⟨⟨rfl, rfl⟩, rfl⟩, rfl⟩, rfl⟩, rfl⟩, rfl⟩, rfl⟩, rfl⟩, rfl⟩ := hb
      exact blk_loop (S := T4_4) (ks := E4_4) (step := S_law11_TonePlanes_4 fuel) (v := (_, _, _, _, _)) (by kernel_rfl) (by kernel_rfl) (fun R K v => by obtain ⟨x0, x1, x2, x3, x4⟩ := v; exact S4_4_ok fuel R K x0 x1 x2 x3 x4) hs h
    · cases h
  · cases h
def S_law11_TonePlanes_2 (fuel : Nat) (v : Int × Int) (c : (Int × Int) → Option Ans) (B : (Bool → Option Ans) × (Unit → Option Ans)) : Option Ans := match v, B with
  | (x0, x1), (ret, b) =>
   bif Decidable.decide (x0 < (0 : Int)) then
      none
     else
      bif Decidable.decide (Go.IntKind.i64.wrap (x1 + (1 : Int)) < Ev.ishl Go.IntKind.i64 (1 : Int) x0) then
       (F_tone_Planes fuel ([x1, Go.IntKind.i64.wrap (x1 + (1 : Int))]) (x0)
         (fun (y4_0, y4_1) =>
           bif y4_0 != (0 : Int) then
            ret Bool.false
           else
            bif (↑y4_1.length : Int) != x0 then
             ret Bool.false
            else
             (L_law11_TonePlanes_4 fuel (x0, x1, (0 : Int), (0 : Int), y4_1)
               (fun ret4_0 =>
                 ret ret4_0)
               (fun (b4_0, b4_1, b4_2) =>
                 bif b4_2 != (1 : Int) then
                  ret Bool.false
                 else
                  c (b4_0, Go.IntKind.i64.wrap (b4_1 + (1 : Int)))))))
      else
       b ()
def L_law11_TonePlanes_2 (fuel : Nat) (v : Int × Int) (ret : (Bool → Option Ans)) (b : (Unit → Option Ans)) : Option Ans := iter (S_law11_TonePlanes_2 fuel) fuel v (ret, b)
def J4_2 (fuel : Nat) (i : Nat) : Option Ev.Blk := Ev.look i [(100000, B4_0 fuel), (100004, B4_4 fuel)]
def T4_2 (v : Int × Int) : Ev.St := match v with | (x0, x1) => ⟨[(1, .c (.int .i64 x0)), (11, .c (.int .i64 x1))], [], 0, 0⟩
def E4_2 (K : Ev.Ex → Ev.St → Option Ans) : (Bool → Option Ans) × (Unit → Option Ans) := ((fun v => match v with | x0 => K .ret ⟨[(4, .c (.bool x0))], [], 0, 0⟩), (fun v => match v with | () => K .normal ⟨[], [], 0, 0⟩))
theorem S4_2_okg (fuel : Nat) (f16 : YF16) (f17 : YF17) (f18 : YF18) (f19 : YF19) (f20 : YF20) (f21 : YF21) (R : Ev.St → Option Ans) (K : Ev.Ex → Ev.St → Option Ans) (x0 : Int) (x1 : Int) : evalCode tab (Gg4 f16 f17 f18 f19 f20 f21) (J4_2 fuel) kp4 fuel (bodyOf 2 Try.f4) (T4_2 (x0, x1)) (lc kp4 18 2 R K) = (fun (c : (Int × Int) → Option Ans) (B : (Bool → Option Ans) × (Unit → Option Ans)) => match B with
  | (ret, b) =>
   bif Decidable.decide (x0 < (0 : Int)) then
      none
     else
      bif Decidable.decide (Go.IntKind.i64.wrap (x1 + (1 : Int)) < Ev.ishl Go.IntKind.i64 (1 : Int) x0) then
       (f16 ([x1, Go.IntKind.i64.wrap (x1 + (1 : Int))]) (x0)
         (fun (y4_0, y4_1) =>
           bif y4_0 != (0 : Int) then
            ret Bool.false
           else
            bif (↑y4_1.length : Int) != x0 then
             ret Bool.false
            else
             (L_law11_TonePlanes_4 fuel (x0, x1, (0 : Int), (0 : Int), y4_1)
               (fun ret4_0 =>
                 ret ret4_0)
               (fun (b4_0, b4_1, b4_2) =>
                 bif b4_2 != (1 : Int) then
                  ret Bool.false
                 else
                  c (b4_0, Go.IntKind.i64.wrap (b4_1 + (1 : Int)))))))
      else
       b ()) (fun v => R (T4_2 v)) (E4_2 K) := by
  kernel_rfl
theorem S4_2_ok (fuel : Nat) (R : Ev.St → Option Ans) (K : Ev.Ex → Ev.St → Option Ans) (x0 : Int) (x1 : Int) : evalCode tab (G4 fuel) (J4_2 fuel) kp4 fuel (bodyOf 2 Try.f4) (T4_2 (x0, x1)) (lc kp4 18 2 R K) = S_law11_TonePlanes_2 fuel (x0, x1) (fun v => R (T4_2 v)) (E4_2 K) :=
  S4_2_okg fuel (F_tone_Planes fuel) (F_law11_Sane fuel) (F_ref11_Planes fuel) (F_ref01_SameBytes fuel) (F_tone_FromPlanes fuel) (F_ref01_SameInts fuel) R K x0 x1
def B4_2 (fuel : Nat) : Ev.Blk := fun st K => match canonO (kp4 18) st with
  | some s => (match s with
    | ⟨[(q0, .c (.int .i64 x0)), (q1, .c (.int .i64 x1))], [], q2, q3⟩ => bif Nat.beq q0 1 && Nat.beq q1 11 && Nat.beq q2 0 && Nat.beq q3 0 then iter (S_law11_TonePlanes_2 fuel) fuel (x0, x1) (E4_2 K) else none
    | _ => none)
  | none => none
theorem B4_2_ok (fuel : Nat) (st : Ev.St) (K : Ev.Ex → Ev.St → Option Ans) (r : Ans) (h : B4_2 fuel st K = some r) : evalCode tab (G4 fuel) (J4_2 fuel) kp4 fuel (.block 2 (.loop (bodyOf 2 Try.f4))) st K = some r := by
  unfold B4_2 at h
  split at h
  · rename_i s hs
    split at h
    · obtain ⟨hb, h⟩ := cond_some' h
      simp only [Bool.and_eq_true, Nat.beq_eq, decide_eq_true_eq] at hb
      obtain ⟨⟨⟨rfl, rfl⟩, rfl⟩, rfl⟩ := hb
      exact blk_loop (S := T4_2) (ks := E4_2) (step := S_law11_TonePlanes_2 fuel) (v := (_, _)) (by kernel_rfl) (by kernel_rfl) (fun R K v => by obtain ⟨x0, x1⟩ := v; exact S4_2_ok fuel R K x0 x1) hs h
    · cases h
  · cases h
def J4 (fuel : Nat) (i : Nat) : Option Ev.Blk := Ev.look i [(100000, B4_0 fuel), (100004, B4_4 fuel), (100002, B4_2 fuel)]
def F_law11_TonePlanes (fuel : Nat) (x0 : (List Int)) (x1 : Int) (k0 : (Bool) → Option Ans) : Option Ans :=
  bif Decidable.decide ((↑x0.length : Int) > (2000 : Int)) then
   (F_law11_Sane fuel
     (fun y3 =>
       k0 y3))
  else
   (F_tone_Planes fuel (x0) (x1)
     (fun (y3_0, y3_1) =>
       (F_ref11_Planes fuel (x0) (x1)
         (fun (y7_0, y7_1) =>
           bif y3_0 != y7_0 then
            k0 Bool.false
           else
            bif (↑y3_1.length : Int) != (↑y7_1.length : Int) then
             k0 Bool.false
            else
             (L_law11_TonePlanes_0 fuel (x0, x1, y3_0, (0 : Int), y3_1, y7_1)
               (fun ret0_0 =>
                 k0 ret0_0)
               (fun (b0_0, b0_1, b0_2, b0_3) =>
                 bif b0_2 != (0 : Int) then
                  (F_law11_Sane fuel
                    (fun y18 =>
                      k0 y18))
                 else
                  bif b0_1 == (0 : Int) then
                   (F_law11_Sane fuel
                     (fun y19 =>
                       k0 y19))
                  else
                   (F_tone_FromPlanes fuel (b0_3)
                     (fun (y19_0, y19_1) =>
                       bif y19_0 != (0 : Int) then
                        k0 Bool.false
                       else
                        (F_ref01_SameInts fuel (y19_1) (b0_0)
                          (fun y24 =>
                            bif !y24 then
                             k0 Bool.false
                            else
                             (L_law11_TonePlanes_2 fuel (b0_1, (0 : Int))
                               (fun ret2_0 =>
                                 k0 ret2_0)
                               (fun () =>
                                 (F_law11_Sane fuel
                                   (fun y33 =>
                                     k0 y33))))))))))))))
abbrev YF4 : Type := ((List Int)) → (Int) → ((Bool) → Option Ans) → Option Ans
theorem F4_eqg (fuel : Nat) (f16 : YF16) (f17 : YF17) (f18 : YF18) (f19 : YF19) (f20 : YF20) (f21 : YF21) (x0 : (List Int)) (x1 : Int) (k : Ev.Cont) : evalFn tab (Gg4 f16 f17 f18 f19 f20 f21) (J4 fuel) kp4 fuel Try.f4 [.c (.sl (.int .i64) x0), .c (.int .i64 x1)] [] k = (fun  (k0 : (Bool) → Option Ans) =>
  bif Decidable.decide ((↑x0.length : Int) > (2000 : Int)) then
   (f17
     (fun y3 =>
       k0 y3))
  else
   (f16 (x0) (x1)
     (fun (y3_0, y3_1) =>
       (f18 (x0) (x1)
         (fun (y7_0, y7_1) =>
           bif y3_0 != y7_0 then
            k0 Bool.false
           else
            bif (↑y3_1.length : Int) != (↑y7_1.length : Int) then
             k0 Bool.false
            else
             (L_law11_TonePlanes_0 fuel (x0, x1, y3_0, (0 : Int), y3_1, y7_1)
               (fun ret0_0 =>
                 k0 ret0_0)
               (fun (b0_0, b0_1, b0_2, b0_3) =>
                 bif b0_2 != (0 : Int) then
                  (f17
                    (fun y18 =>
                      k0 y18))
                 else
                  bif b0_1 == (0 : Int) then
                   (f17
                     (fun y19 =>
                       k0 y19))
                  else
                   (f20 (b0_3)
                     (fun (y19_0, y19_1) =>
                       bif y19_0 != (0 : Int) then
                        k0 Bool.false
                       else
                        (f21 (y19_1) (b0_0)
                          (fun y24 =>
                            bif !y24 then
                             k0 Bool.false
                            else
                             (L_law11_TonePlanes_2 fuel (b0_1, (0 : Int))
                               (fun ret2_0 =>
                                 k0 ret2_0)
                               (fun () =>
                                 (f17
                                   (fun y33 =>
                                     k0 y33))))))))))))))) (fun r => match r with | r0 => k (.c (.bool r0), [])) := by
  kernel_rfl
theorem F4_eq (fuel : Nat) (x0 : (List Int)) (x1 : Int) (k : Ev.Cont) : evalFn tab (G4 fuel) (J4 fuel) kp4 fuel Try.f4 [.c (.sl (.int .i64) x0), .c (.int .i64 x1)] [] k = F_law11_TonePlanes fuel x0 x1 (fun r => match r with | r0 => k (.c (.bool r0), [])) :=
  F4_eqg fuel (F_tone_Planes fuel) (F_law11_Sane fuel) (F_ref11_Planes fuel) (F_ref01_SameBytes fuel) (F_tone_FromPlanes fuel) (F_ref01_SameInts fuel) x0 x1 k
theorem hG4 (fuel : Nat) : GOK Try.prog (G4 fuel) :=
  gok_cons ⟨ok16 fuel, enters_of Try.func16 (by kernel_rfl) rfl⟩ <|
  gok_cons ⟨ok17 fuel, enters_of Try.func17 (by kernel_rfl) rfl⟩ <|
  gok_cons ⟨ok18 fuel, enters_of Try.func18 (by kernel_rfl) rfl⟩ <|
  gok_cons ⟨ok19 fuel, enters_of Try.func19 (by kernel_rfl) rfl⟩ <|
  gok_cons ⟨ok20 fuel, enters_of Try.func20 (by kernel_rfl) rfl⟩ <|
  gok_cons ⟨ok21 fuel, enters_of Try.func21 (by kernel_rfl) rfl⟩ <|
  gok_nil
theorem B4_0_blk (fuel : Nat) : BlkOK Try.prog Try.f4.ntmps (.block 0 (.loop (bodyOf 0 Try.f4))) (B4_0 fuel) :=
  blk_of (blk_of_code tab_ok (hG4 fuel) mixed (J := J4_0 fuel) (kp := kp4) (fuel := fuel) (by kernel_rfl) (fun q hq => by
    rw [(by kernel_rfl : obl (J4_0 fuel) (.block 0 (.loop (bodyOf 0 Try.f4))) = [])] at hq
    cases hq)) (B4_0_ok fuel)
theorem B4_4_blk (fuel : Nat) : BlkOK Try.prog Try.f4.ntmps (.block 4 (.loop (bodyOf 4 Try.f4))) (B4_4 fuel) :=
  blk_of (blk_of_code tab_ok (hG4 fuel) mixed (J := J4_4 fuel) (kp := kp4) (fuel := fuel) (by kernel_rfl) (fun q hq => by
    rw [(by kernel_rfl : obl (J4_4 fuel) (.block 4 (.loop (bodyOf 4 Try.f4))) = [])] at hq
    cases hq)) (B4_4_ok fuel)
theorem B4_2_blk (fuel : Nat) : BlkOK Try.prog Try.f4.ntmps (.block 2 (.loop (bodyOf 2 Try.f4))) (B4_2 fuel) :=
  blk_of (blk_of_code tab_ok (hG4 fuel) mixed (J := J4_2 fuel) (kp := kp4) (fuel := fuel) (by kernel_rfl) (fun q hq => by
    rw [(by kernel_rfl : obl (J4_2 fuel) (.block 2 (.loop (bodyOf 2 Try.f4))) = [(.block 4 (.loop (bodyOf 4 Try.f4)), B4_4 fuel)])] at hq
    simp only [List.mem_cons, List.not_mem_nil, or_false] at hq
    subst hq
    · exact B4_4_blk fuel)) (B4_2_ok fuel)
theorem fok4 (fuel : Nat) : FnOK Try.prog 4 (evalFn tab (G4 fuel) (J4 fuel) kp4 fuel Try.f4) :=
  fn_ok tab_ok (hG4 fuel) mixed Try.func4 (c := (Try.f4.body).getD .skip) rfl (fun q hq => by
    rw [(by kernel_rfl : obl (J4 fuel) ((Try.f4.body).getD .skip) = [(.block 0 (.loop (bodyOf 0 Try.f4)), B4_0 fuel), (.block 2 (.loop (bodyOf 2 Try.f4)), B4_2 fuel)])] at hq
    simp only [List.mem_cons, List.not_mem_nil, or_false] at hq
    rcases hq with rfl | rfl
    · exact B4_0_blk fuel
    · exact B4_2_blk fuel)
def mt4 : List Ev.SV → List Ev.Ob → Bool := fun args objs => match args, objs with
  | [.c (.sl (.int .i64) _), .c (.int .i64 _)], [] => true
  | _, _ => false
def spg4 (F : YF4) : Ev.Spec := fun args objs k => match args, objs with
  | [.c (.sl (.int .i64) x0), .c (.int .i64 x1)], [] => bif true then F x0 x1 (fun r => match r with | r0 => k (.c (.bool r0), [])) else none
  | _, _ => none
def spec4 (fuel : Nat) : Ev.Spec := spg4 (F_law11_TonePlanes fuel)
theorem ok4 (fuel : Nat) : FnOK Try.prog 4 (spec4 fuel) := by
  intro args objs kk r h
  unfold spec4 spg4 at h
  split at h
  · obtain ⟨hb, h⟩ := cond_some' h
    simp only [Bool.and_eq_true, Nat.beq_eq, decide_eq_true_eq] at hb
    clear hb
    exact fok4 fuel _ _ kk r ((F4_eq fuel _ _ kk).trans h)
  · cases h
end Go.Proofs.Ytajidgilfkineaa
