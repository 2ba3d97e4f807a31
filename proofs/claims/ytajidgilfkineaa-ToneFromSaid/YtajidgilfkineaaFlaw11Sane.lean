/- incunable/incunablelaw11.Sane: its typed text, and that the machine does it. -/
import Derived.Test.YtajidgilfkineaaEvU
import Derived.Test.YtajidgilfkineaaFtonePlanes
set_option linter.unusedVariables false
set_option linter.unusedSimpArgs false
set_option maxRecDepth 100000
namespace Go.Proofs.Ytajidgilfkineaa
open Go Ev
def kp17 (i : Nat) : Option (List Nat) := Ev.look i []
def Gg17 (f16 : YF16) (f : Nat) : Option Ev.Spec := Ev.look f [(16, spg16 f16)]
def G17 (fuel : Nat) : Nat → Option Ev.Spec := Gg17 (F_tone_Planes fuel)
def J17 (fuel : Nat) (i : Nat) : Option Ev.Blk := Ev.look i []
def F_law11_Sane (fuel : Nat)  (k0 : (Bool) → Option Ans) : Option Ans :=
  (F_tone_Planes fuel ([(0 : Int), (1 : Int), (2 : Int), (3 : Int)]) ((2 : Int))
    (fun (y2_0, y2_1) =>
      bif y2_0 == (0 : Int) then
       bif (↑y2_1.length : Int) == (2 : Int) then
        bif Decidable.decide ((0 : Int) ≤ (0 : Int) ∧ (0 : Int) < (↑y2_1.length : Int)) then
        both (both (bif (Go.strOfNums (y2_1.getD (Int.toNat (0 : Int)) [])).toList == (Go.strOfNums [(0 : Int), (0 : Int), (1 : Int), (1 : Int)]).toList then
              bif Decidable.decide ((0 : Int) ≤ (1 : Int) ∧ (1 : Int) < (↑y2_1.length : Int)) then
              both (both (k0 ((Go.strOfNums (y2_1.getD (Int.toNat (1 : Int)) [])).toList == (Go.strOfNums [(0 : Int), (1 : Int), (1 : Int), (0 : Int)]).toList))
                  (both (k0 ((Go.strOfNums (y2_1.getD (Int.toNat (1 : Int)) [])).toList == (Go.strOfNums [(0 : Int), (1 : Int), (1 : Int), (0 : Int)]).toList))
                    (k0 ((Go.strOfNums (y2_1.getD (Int.toNat (1 : Int)) [])).toList == (Go.strOfNums [(0 : Int), (1 : Int), (1 : Int), (0 : Int)]).toList))))
                (both (both (k0 ((Go.strOfNums (y2_1.getD (Int.toNat (1 : Int)) [])).toList == (Go.strOfNums [(0 : Int), (1 : Int), (1 : Int), (0 : Int)]).toList))
                    (k0 ((Go.strOfNums (y2_1.getD (Int.toNat (1 : Int)) [])).toList == (Go.strOfNums [(0 : Int), (1 : Int), (1 : Int), (0 : Int)]).toList)))
                  (k0 ((Go.strOfNums (y2_1.getD (Int.toNat (1 : Int)) [])).toList == (Go.strOfNums [(0 : Int), (1 : Int), (1 : Int), (0 : Int)]).toList)))
              else none
             else
              k0 Bool.false)
            (both (bif (Go.strOfNums (y2_1.getD (Int.toNat (0 : Int)) [])).toList == (Go.strOfNums [(0 : Int), (0 : Int), (1 : Int), (1 : Int)]).toList then
                bif Decidable.decide ((0 : Int) ≤ (1 : Int) ∧ (1 : Int) < (↑y2_1.length : Int)) then
                both (both (k0 ((Go.strOfNums (y2_1.getD (Int.toNat (1 : Int)) [])).toList == (Go.strOfNums [(0 : Int), (1 : Int), (1 : Int), (0 : Int)]).toList))
                    (both (k0 ((Go.strOfNums (y2_1.getD (Int.toNat (1 : Int)) [])).toList == (Go.strOfNums [(0 : Int), (1 : Int), (1 : Int), (0 : Int)]).toList))
                      (k0 ((Go.strOfNums (y2_1.getD (Int.toNat (1 : Int)) [])).toList == (Go.strOfNums [(0 : Int), (1 : Int), (1 : Int), (0 : Int)]).toList))))
                  (both (both (k0 ((Go.strOfNums (y2_1.getD (Int.toNat (1 : Int)) [])).toList == (Go.strOfNums [(0 : Int), (1 : Int), (1 : Int), (0 : Int)]).toList))
                      (k0 ((Go.strOfNums (y2_1.getD (Int.toNat (1 : Int)) [])).toList == (Go.strOfNums [(0 : Int), (1 : Int), (1 : Int), (0 : Int)]).toList)))
                    (k0 ((Go.strOfNums (y2_1.getD (Int.toNat (1 : Int)) [])).toList == (Go.strOfNums [(0 : Int), (1 : Int), (1 : Int), (0 : Int)]).toList)))
                else none
               else
                k0 Bool.false)
              (bif (Go.strOfNums (y2_1.getD (Int.toNat (0 : Int)) [])).toList == (Go.strOfNums [(0 : Int), (0 : Int), (1 : Int), (1 : Int)]).toList then
                bif Decidable.decide ((0 : Int) ≤ (1 : Int) ∧ (1 : Int) < (↑y2_1.length : Int)) then
                both (both (k0 ((Go.strOfNums (y2_1.getD (Int.toNat (1 : Int)) [])).toList == (Go.strOfNums [(0 : Int), (1 : Int), (1 : Int), (0 : Int)]).toList))
                    (both (k0 ((Go.strOfNums (y2_1.getD (Int.toNat (1 : Int)) [])).toList == (Go.strOfNums [(0 : Int), (1 : Int), (1 : Int), (0 : Int)]).toList))
                      (k0 ((Go.strOfNums (y2_1.getD (Int.toNat (1 : Int)) [])).toList == (Go.strOfNums [(0 : Int), (1 : Int), (1 : Int), (0 : Int)]).toList))))
                  (both (both (k0 ((Go.strOfNums (y2_1.getD (Int.toNat (1 : Int)) [])).toList == (Go.strOfNums [(0 : Int), (1 : Int), (1 : Int), (0 : Int)]).toList))
                      (k0 ((Go.strOfNums (y2_1.getD (Int.toNat (1 : Int)) [])).toList == (Go.strOfNums [(0 : Int), (1 : Int), (1 : Int), (0 : Int)]).toList)))
                    (k0 ((Go.strOfNums (y2_1.getD (Int.toNat (1 : Int)) [])).toList == (Go.strOfNums [(0 : Int), (1 : Int), (1 : Int), (0 : Int)]).toList)))
                else none
               else
                k0 Bool.false)))
          (both (both (bif (Go.strOfNums (y2_1.getD (Int.toNat (0 : Int)) [])).toList == (Go.strOfNums [(0 : Int), (0 : Int), (1 : Int), (1 : Int)]).toList then
                bif Decidable.decide ((0 : Int) ≤ (1 : Int) ∧ (1 : Int) < (↑y2_1.length : Int)) then
                both (both (k0 ((Go.strOfNums (y2_1.getD (Int.toNat (1 : Int)) [])).toList == (Go.strOfNums [(0 : Int), (1 : Int), (1 : Int), (0 : Int)]).toList))
                    (both (k0 ((Go.strOfNums (y2_1.getD (Int.toNat (1 : Int)) [])).toList == (Go.strOfNums [(0 : Int), (1 : Int), (1 : Int), (0 : Int)]).toList))
                      (k0 ((Go.strOfNums (y2_1.getD (Int.toNat (1 : Int)) [])).toList == (Go.strOfNums [(0 : Int), (1 : Int), (1 : Int), (0 : Int)]).toList))))
                  (both (both (k0 ((Go.strOfNums (y2_1.getD (Int.toNat (1 : Int)) [])).toList == (Go.strOfNums [(0 : Int), (1 : Int), (1 : Int), (0 : Int)]).toList))
                      (k0 ((Go.strOfNums (y2_1.getD (Int.toNat (1 : Int)) [])).toList == (Go.strOfNums [(0 : Int), (1 : Int), (1 : Int), (0 : Int)]).toList)))
                    (k0 ((Go.strOfNums (y2_1.getD (Int.toNat (1 : Int)) [])).toList == (Go.strOfNums [(0 : Int), (1 : Int), (1 : Int), (0 : Int)]).toList)))
                else none
               else
                k0 Bool.false)
              (bif (Go.strOfNums (y2_1.getD (Int.toNat (0 : Int)) [])).toList == (Go.strOfNums [(0 : Int), (0 : Int), (1 : Int), (1 : Int)]).toList then
                bif Decidable.decide ((0 : Int) ≤ (1 : Int) ∧ (1 : Int) < (↑y2_1.length : Int)) then
                both (both (k0 ((Go.strOfNums (y2_1.getD (Int.toNat (1 : Int)) [])).toList == (Go.strOfNums [(0 : Int), (1 : Int), (1 : Int), (0 : Int)]).toList))
                    (both (k0 ((Go.strOfNums (y2_1.getD (Int.toNat (1 : Int)) [])).toList == (Go.strOfNums [(0 : Int), (1 : Int), (1 : Int), (0 : Int)]).toList))
                      (k0 ((Go.strOfNums (y2_1.getD (Int.toNat (1 : Int)) [])).toList == (Go.strOfNums [(0 : Int), (1 : Int), (1 : Int), (0 : Int)]).toList))))
                  (both (both (k0 ((Go.strOfNums (y2_1.getD (Int.toNat (1 : Int)) [])).toList == (Go.strOfNums [(0 : Int), (1 : Int), (1 : Int), (0 : Int)]).toList))
                      (k0 ((Go.strOfNums (y2_1.getD (Int.toNat (1 : Int)) [])).toList == (Go.strOfNums [(0 : Int), (1 : Int), (1 : Int), (0 : Int)]).toList)))
                    (k0 ((Go.strOfNums (y2_1.getD (Int.toNat (1 : Int)) [])).toList == (Go.strOfNums [(0 : Int), (1 : Int), (1 : Int), (0 : Int)]).toList)))
                else none
               else
                k0 Bool.false))
            (bif (Go.strOfNums (y2_1.getD (Int.toNat (0 : Int)) [])).toList == (Go.strOfNums [(0 : Int), (0 : Int), (1 : Int), (1 : Int)]).toList then
              bif Decidable.decide ((0 : Int) ≤ (1 : Int) ∧ (1 : Int) < (↑y2_1.length : Int)) then
              both (both (k0 ((Go.strOfNums (y2_1.getD (Int.toNat (1 : Int)) [])).toList == (Go.strOfNums [(0 : Int), (1 : Int), (1 : Int), (0 : Int)]).toList))
                  (both (k0 ((Go.strOfNums (y2_1.getD (Int.toNat (1 : Int)) [])).toList == (Go.strOfNums [(0 : Int), (1 : Int), (1 : Int), (0 : Int)]).toList))
                    (k0 ((Go.strOfNums (y2_1.getD (Int.toNat (1 : Int)) [])).toList == (Go.strOfNums [(0 : Int), (1 : Int), (1 : Int), (0 : Int)]).toList))))
                (both (both (k0 ((Go.strOfNums (y2_1.getD (Int.toNat (1 : Int)) [])).toList == (Go.strOfNums [(0 : Int), (1 : Int), (1 : Int), (0 : Int)]).toList))
                    (k0 ((Go.strOfNums (y2_1.getD (Int.toNat (1 : Int)) [])).toList == (Go.strOfNums [(0 : Int), (1 : Int), (1 : Int), (0 : Int)]).toList)))
                  (k0 ((Go.strOfNums (y2_1.getD (Int.toNat (1 : Int)) [])).toList == (Go.strOfNums [(0 : Int), (1 : Int), (1 : Int), (0 : Int)]).toList)))
              else none
             else
              k0 Bool.false))
        else none
       else
        k0 Bool.false
      else
       k0 Bool.false))
abbrev YF17 : Type := ((Bool) → Option Ans) → Option Ans
theorem F17_eqg (fuel : Nat) (f16 : YF16)  (k : Ev.Cont) : evalFn tab (Gg17 f16) (J17 fuel) kp17 fuel Try.f17 [] [] k = (fun  (k0 : (Bool) → Option Ans) =>
  (f16 ([(0 : Int), (1 : Int), (2 : Int), (3 : Int)]) ((2 : Int))
    (fun (y2_0, y2_1) =>
      bif y2_0 == (0 : Int) then
       bif (↑y2_1.length : Int) == (2 : Int) then
        bif Decidable.decide ((0 : Int) ≤ (0 : Int) ∧ (0 : Int) < (↑y2_1.length : Int)) then
        both (both (bif (Go.strOfNums (y2_1.getD (Int.toNat (0 : Int)) [])).toList == (Go.strOfNums [(0 : Int), (0 : Int), (1 : Int), (1 : Int)]).toList then
              bif Decidable.decide ((0 : Int) ≤ (1 : Int) ∧ (1 : Int) < (↑y2_1.length : Int)) then
              both (both (k0 ((Go.strOfNums (y2_1.getD (Int.toNat (1 : Int)) [])).toList == (Go.strOfNums [(0 : Int), (1 : Int), (1 : Int), (0 : Int)]).toList))
                  (both (k0 ((Go.strOfNums (y2_1.getD (Int.toNat (1 : Int)) [])).toList == (Go.strOfNums [(0 : Int), (1 : Int), (1 : Int), (0 : Int)]).toList))
                    (k0 ((Go.strOfNums (y2_1.getD (Int.toNat (1 : Int)) [])).toList == (Go.strOfNums [(0 : Int), (1 : Int), (1 : Int), (0 : Int)]).toList))))
                (both (both (k0 ((Go.strOfNums (y2_1.getD (Int.toNat (1 : Int)) [])).toList == (Go.strOfNums [(0 : Int), (1 : Int), (1 : Int), (0 : Int)]).toList))
                    (k0 ((Go.strOfNums (y2_1.getD (Int.toNat (1 : Int)) [])).toList == (Go.strOfNums [(0 : Int), (1 : Int), (1 : Int), (0 : Int)]).toList)))
                  (k0 ((Go.strOfNums (y2_1.getD (Int.toNat (1 : Int)) [])).toList == (Go.strOfNums [(0 : Int), (1 : Int), (1 : Int), (0 : Int)]).toList)))
              else none
             else
              k0 Bool.false)
            (both (bif (Go.strOfNums (y2_1.getD (Int.toNat (0 : Int)) [])).toList == (Go.strOfNums [(0 : Int), (0 : Int), (1 : Int), (1 : Int)]).toList then
                bif Decidable.decide ((0 : Int) ≤ (1 : Int) ∧ (1 : Int) < (↑y2_1.length : Int)) then
                both (both (k0 ((Go.strOfNums (y2_1.getD (Int.toNat (1 : Int)) [])).toList == (Go.strOfNums [(0 : Int), (1 : Int), (1 : Int), (0 : Int)]).toList))
                    (both (k0 ((Go.strOfNums (y2_1.getD (Int.toNat (1 : Int)) [])).toList == (Go.strOfNums [(0 : Int), (1 : Int), (1 : Int), (0 : Int)]).toList))
                      (k0 ((Go.strOfNums (y2_1.getD (Int.toNat (1 : Int)) [])).toList == (Go.strOfNums [(0 : Int), (1 : Int), (1 : Int), (0 : Int)]).toList))))
                  (both (both (k0 ((Go.strOfNums (y2_1.getD (Int.toNat (1 : Int)) [])).toList == (Go.strOfNums [(0 : Int), (1 : Int), (1 : Int), (0 : Int)]).toList))
                      (k0 ((Go.strOfNums (y2_1.getD (Int.toNat (1 : Int)) [])).toList == (Go.strOfNums [(0 : Int), (1 : Int), (1 : Int), (0 : Int)]).toList)))
                    (k0 ((Go.strOfNums (y2_1.getD (Int.toNat (1 : Int)) [])).toList == (Go.strOfNums [(0 : Int), (1 : Int), (1 : Int), (0 : Int)]).toList)))
                else none
               else
                k0 Bool.false)
              (bif (Go.strOfNums (y2_1.getD (Int.toNat (0 : Int)) [])).toList == (Go.strOfNums [(0 : Int), (0 : Int), (1 : Int), (1 : Int)]).toList then
                bif Decidable.decide ((0 : Int) ≤ (1 : Int) ∧ (1 : Int) < (↑y2_1.length : Int)) then
                both (both (k0 ((Go.strOfNums (y2_1.getD (Int.toNat (1 : Int)) [])).toList == (Go.strOfNums [(0 : Int), (1 : Int), (1 : Int), (0 : Int)]).toList))
                    (both (k0 ((Go.strOfNums (y2_1.getD (Int.toNat (1 : Int)) [])).toList == (Go.strOfNums [(0 : Int), (1 : Int), (1 : Int), (0 : Int)]).toList))
                      (k0 ((Go.strOfNums (y2_1.getD (Int.toNat (1 : Int)) [])).toList == (Go.strOfNums [(0 : Int), (1 : Int), (1 : Int), (0 : Int)]).toList))))
                  (both (both (k0 ((Go.strOfNums (y2_1.getD (Int.toNat (1 : Int)) [])).toList == (Go.strOfNums [(0 : Int), (1 : Int), (1 : Int), (0 : Int)]).toList))
                      (k0 ((Go.strOfNums (y2_1.getD (Int.toNat (1 : Int)) [])).toList == (Go.strOfNums [(0 : Int), (1 : Int), (1 : Int), (0 : Int)]).toList)))
                    (k0 ((Go.strOfNums (y2_1.getD (Int.toNat (1 : Int)) [])).toList == (Go.strOfNums [(0 : Int), (1 : Int), (1 : Int), (0 : Int)]).toList)))
                else none
               else
                k0 Bool.false)))
          (both (both (bif (Go.strOfNums (y2_1.getD (Int.toNat (0 : Int)) [])).toList == (Go.strOfNums [(0 : Int), (0 : Int), (1 : Int), (1 : Int)]).toList then
                bif Decidable.decide ((0 : Int) ≤ (1 : Int) ∧ (1 : Int) < (↑y2_1.length : Int)) then
                both (both (k0 ((Go.strOfNums (y2_1.getD (Int.toNat (1 : Int)) [])).toList == (Go.strOfNums [(0 : Int), (1 : Int), (1 : Int), (0 : Int)]).toList))
                    (both (k0 ((Go.strOfNums (y2_1.getD (Int.toNat (1 : Int)) [])).toList == (Go.strOfNums [(0 : Int), (1 : Int), (1 : Int), (0 : Int)]).toList))
                      (k0 ((Go.strOfNums (y2_1.getD (Int.toNat (1 : Int)) [])).toList == (Go.strOfNums [(0 : Int), (1 : Int), (1 : Int), (0 : Int)]).toList))))
                  (both (both (k0 ((Go.strOfNums (y2_1.getD (Int.toNat (1 : Int)) [])).toList == (Go.strOfNums [(0 : Int), (1 : Int), (1 : Int), (0 : Int)]).toList))
                      (k0 ((Go.strOfNums (y2_1.getD (Int.toNat (1 : Int)) [])).toList == (Go.strOfNums [(0 : Int), (1 : Int), (1 : Int), (0 : Int)]).toList)))
                    (k0 ((Go.strOfNums (y2_1.getD (Int.toNat (1 : Int)) [])).toList == (Go.strOfNums [(0 : Int), (1 : Int), (1 : Int), (0 : Int)]).toList)))
                else none
               else
                k0 Bool.false)
              (bif (Go.strOfNums (y2_1.getD (Int.toNat (0 : Int)) [])).toList == (Go.strOfNums [(0 : Int), (0 : Int), (1 : Int), (1 : Int)]).toList then
                bif Decidable.decide ((0 : Int) ≤ (1 : Int) ∧ (1 : Int) < (↑y2_1.length : Int)) then
                both (both (k0 ((Go.strOfNums (y2_1.getD (Int.toNat (1 : Int)) [])).toList == (Go.strOfNums [(0 : Int), (1 : Int), (1 : Int), (0 : Int)]).toList))
                    (both (k0 ((Go.strOfNums (y2_1.getD (Int.toNat (1 : Int)) [])).toList == (Go.strOfNums [(0 : Int), (1 : Int), (1 : Int), (0 : Int)]).toList))
                      (k0 ((Go.strOfNums (y2_1.getD (Int.toNat (1 : Int)) [])).toList == (Go.strOfNums [(0 : Int), (1 : Int), (1 : Int), (0 : Int)]).toList))))
                  (both (both (k0 ((Go.strOfNums (y2_1.getD (Int.toNat (1 : Int)) [])).toList == (Go.strOfNums [(0 : Int), (1 : Int), (1 : Int), (0 : Int)]).toList))
                      (k0 ((Go.strOfNums (y2_1.getD (Int.toNat (1 : Int)) [])).toList == (Go.strOfNums [(0 : Int), (1 : Int), (1 : Int), (0 : Int)]).toList)))
                    (k0 ((Go.strOfNums (y2_1.getD (Int.toNat (1 : Int)) [])).toList == (Go.strOfNums [(0 : Int), (1 : Int), (1 : Int), (0 : Int)]).toList)))
                else none
               else
                k0 Bool.false))
            (bif (Go.strOfNums (y2_1.getD (Int.toNat (0 : Int)) [])).toList == (Go.strOfNums [(0 : Int), (0 : Int), (1 : Int), (1 : Int)]).toList then
              bif Decidable.decide ((0 : Int) ≤ (1 : Int) ∧ (1 : Int) < (↑y2_1.length : Int)) then
              both (both (k0 ((Go.strOfNums (y2_1.getD (Int.toNat (1 : Int)) [])).toList == (Go.strOfNums [(0 : Int), (1 : Int), (1 : Int), (0 : Int)]).toList))
                  (both (k0 ((Go.strOfNums (y2_1.getD (Int.toNat (1 : Int)) [])).toList == (Go.strOfNums [(0 : Int), (1 : Int), (1 : Int), (0 : Int)]).toList))
                    (k0 ((Go.strOfNums (y2_1.getD (Int.toNat (1 : Int)) [])).toList == (Go.strOfNums [(0 : Int), (1 : Int), (1 : Int), (0 : Int)]).toList))))
                (both (both (k0 ((Go.strOfNums (y2_1.getD (Int.toNat (1 : Int)) [])).toList == (Go.strOfNums [(0 : Int), (1 : Int), (1 : Int), (0 : Int)]).toList))
                    (k0 ((Go.strOfNums (y2_1.getD (Int.toNat (1 : Int)) [])).toList == (Go.strOfNums [(0 : Int), (1 : Int), (1 : Int), (0 : Int)]).toList)))
                  (k0 ((Go.strOfNums (y2_1.getD (Int.toNat (1 : Int)) [])).toList == (Go.strOfNums [(0 : Int), (1 : Int), (1 : Int), (0 : Int)]).toList)))
              else none
             else
              k0 Bool.false))
        else none
       else
        k0 Bool.false
      else
       k0 Bool.false))) (fun r => match r with | r0 => k (.c (.bool r0), [])) := by
  kernel_rfl
theorem F17_eq (fuel : Nat)  (k : Ev.Cont) : evalFn tab (G17 fuel) (J17 fuel) kp17 fuel Try.f17 [] [] k = F_law11_Sane fuel  (fun r => match r with | r0 => k (.c (.bool r0), [])) :=
  F17_eqg fuel (F_tone_Planes fuel)  k
theorem hG17 (fuel : Nat) : GOK Try.prog (G17 fuel) :=
  gok_cons ⟨ok16 fuel, enters_of Try.func16 (by kernel_rfl) rfl⟩ <|
  gok_nil
theorem fok17 (fuel : Nat) : FnOK Try.prog 17 (evalFn tab (G17 fuel) (J17 fuel) kp17 fuel Try.f17) :=
  fn_ok tab_ok (hG17 fuel) mixed Try.func17 (c := (Try.f17.body).getD .skip) rfl (fun q hq => by
    rw [(by kernel_rfl : obl (J17 fuel) ((Try.f17.body).getD .skip) = [])] at hq
    cases hq)
def mt17 : List Ev.SV → List Ev.Ob → Bool := fun args objs => match args, objs with
  | [], [] => true
  | _, _ => false
def spg17 (F : YF17) : Ev.Spec := fun args objs k => match args, objs with
  | [], [] => bif true then F  (fun r => match r with | r0 => k (.c (.bool r0), [])) else none
  | _, _ => none
def spec17 (fuel : Nat) : Ev.Spec := spg17 (F_law11_Sane fuel)
theorem ok17 (fuel : Nat) : FnOK Try.prog 17 (spec17 fuel) := by
  intro args objs kk r h
  unfold spec17 spg17 at h
  split at h
  · obtain ⟨hb, h⟩ := cond_some' h
    simp only [Bool.and_eq_true, Nat.beq_eq, decide_eq_true_eq] at hb
    clear hb
    exact fok17 fuel _ _ kk r ((F17_eq fuel kk).trans h)
  · cases h
end Go.Proofs.Ytajidgilfkineaa
