/- incunable/incunableref07.Context: its typed text, and that the machine does it. -/
import Derived.Test.YtajidgilfkineaaEvU
import Derived.Test.YtajidgilfkineaaFref05Valid
import Derived.Test.YtajidgilfkineaaFref07Valid
import Derived.Test.YtajidgilfkineaaFref07context
set_option linter.unusedVariables false
set_option linter.unusedSimpArgs false
set_option maxRecDepth 100000
namespace Go.Proofs.Ytajidgilfkineaa
open Go Ev
def kp32 (i : Nat) : Option (List Nat) := Ev.look i []
def Gg32 (f28 : YF28) (f38 : YF38) (f72 : YF72) (f : Nat) : Option Ev.Spec := Ev.look f [(28, spg28 f28), (38, spg38 f38), (72, spg72 f72)]
def G32 (fuel : Nat) : Nat → Option Ev.Spec := Gg32 (F_ref05_Valid fuel) (F_ref07_Valid fuel) (F_ref07_context fuel)
def J32 (fuel : Nat) (i : Nat) : Option Ev.Blk := Ev.look i []
def F_ref07_Context (fuel : Nat) (x0 : Int) (x1 : Int) (x2 : Int) (x3 : Bool) (x4 : Int) (x5 : Int) (x6 : Int) (x7 : (List Int)) (x8 : Int) (x9 : Int) (k0 : (Int × Int) → Option Ans) : Option Ans :=
  (F_ref07_Valid fuel (x0) (x1) (x2) (x3) (x4)
    (fun y2 =>
      bif !y2 then
       k0 ((0 : Int), (2 : Int))
      else
       (F_ref05_Valid fuel (x5) (x6) (x7)
         (fun y7 =>
           bif !y7 then
            k0 ((0 : Int), (30 : Int))
           else
            bif Decidable.decide (x8 < (0 : Int)) then
             k0 ((0 : Int), (2 : Int))
            else
             bif Decidable.decide (x9 < (0 : Int)) then
              k0 ((0 : Int), (2 : Int))
             else
              bif Decidable.decide (x8 ≥ x5) then
               k0 ((0 : Int), (2 : Int))
              else
               bif Decidable.decide (x9 ≥ x6) then
                k0 ((0 : Int), (2 : Int))
               else
                (F_ref07_context fuel (x0) (x1) (x2) (x3) (x4) (x5) (x6) (x7) (x8) (x9)
                  (fun y16 =>
                    k0 (y16, (0 : Int))))))))
abbrev YF32 : Type := (Int) → (Int) → (Int) → (Bool) → (Int) → (Int) → (Int) → ((List Int)) → (Int) → (Int) → ((Int × Int) → Option Ans) → Option Ans
theorem F32_eqg (fuel : Nat) (f28 : YF28) (f38 : YF38) (f72 : YF72) (x0 : Int) (x1 : Int) (x2 : Int) (x3 : Bool) (x4 : Int) (x5 : Int) (x6 : Int) (x7 : (List Int)) (x8 : Int) (x9 : Int) (k : Ev.Cont) : evalFn tab (Gg32 f28 f38 f72) (J32 fuel) kp32 fuel Try.f32 [.agg [.int .i64 x0, .int .i64 x1, .int .i64 x2, .bool x3, .int .i64 x4], .agg [.int .i64 x5, .int .i64 x6, .sl (.int .u8) x7], .c (.int .i64 x8), .c (.int .i64 x9)] [] k = (fun  (k0 : (Int × Int) → Option Ans) =>
  (f38 (x0) (x1) (x2) (x3) (x4)
    (fun y2 =>
      bif !y2 then
       k0 ((0 : Int), (2 : Int))
      else
       (f28 (x5) (x6) (x7)
         (fun y7 =>
           bif !y7 then
            k0 ((0 : Int), (30 : Int))
           else
            bif Decidable.decide (x8 < (0 : Int)) then
             k0 ((0 : Int), (2 : Int))
            else
             bif Decidable.decide (x9 < (0 : Int)) then
              k0 ((0 : Int), (2 : Int))
             else
              bif Decidable.decide (x8 ≥ x5) then
               k0 ((0 : Int), (2 : Int))
              else
               bif Decidable.decide (x9 ≥ x6) then
                k0 ((0 : Int), (2 : Int))
               else
                (f72 (x0) (x1) (x2) (x3) (x4) (x5) (x6) (x7) (x8) (x9)
                  (fun y16 =>
                    k0 (y16, (0 : Int))))))))) (fun r => match r with | (r0, r1) => k (.tup [(false, [.int .i64 r0]), (false, [.int .i64 r1])], [])) := by
  kernel_rfl
theorem F32_eq (fuel : Nat) (x0 : Int) (x1 : Int) (x2 : Int) (x3 : Bool) (x4 : Int) (x5 : Int) (x6 : Int) (x7 : (List Int)) (x8 : Int) (x9 : Int) (k : Ev.Cont) : evalFn tab (G32 fuel) (J32 fuel) kp32 fuel Try.f32 [.agg [.int .i64 x0, .int .i64 x1, .int .i64 x2, .bool x3, .int .i64 x4], .agg [.int .i64 x5, .int .i64 x6, .sl (.int .u8) x7], .c (.int .i64 x8), .c (.int .i64 x9)] [] k = F_ref07_Context fuel x0 x1 x2 x3 x4 x5 x6 x7 x8 x9 (fun r => match r with | (r0, r1) => k (.tup [(false, [.int .i64 r0]), (false, [.int .i64 r1])], [])) :=
  F32_eqg fuel (F_ref05_Valid fuel) (F_ref07_Valid fuel) (F_ref07_context fuel) x0 x1 x2 x3 x4 x5 x6 x7 x8 x9 k
theorem hG32 (fuel : Nat) : GOK Try.prog (G32 fuel) :=
  gok_cons ⟨ok28 fuel, enters_of Try.func28 (by kernel_rfl) rfl⟩ <|
  gok_cons ⟨ok38 fuel, enters_of Try.func38 (by kernel_rfl) rfl⟩ <|
  gok_cons ⟨ok72 fuel, enters_of Try.func72 (by kernel_rfl) rfl⟩ <|
  gok_nil
theorem fok32 (fuel : Nat) : FnOK Try.prog 32 (evalFn tab (G32 fuel) (J32 fuel) kp32 fuel Try.f32) :=
  fn_ok tab_ok (hG32 fuel) mixed Try.func32 (c := (Try.f32.body).getD .skip) rfl (fun q hq => by
    rw [(by kernel_rfl : obl (J32 fuel) ((Try.f32.body).getD .skip) = [])] at hq
    cases hq)
def mt32 : List Ev.SV → List Ev.Ob → Bool := fun args objs => match args, objs with
  | [.agg [.int .i64 _, .int .i64 _, .int .i64 _, .bool _, .int .i64 _], .agg [.int .i64 _, .int .i64 _, .sl (.int .u8) _], .c (.int .i64 _), .c (.int .i64 _)], [] => true
  | _, _ => false
def spg32 (F : YF32) : Ev.Spec := fun args objs k => match args, objs with
  | [.agg [.int .i64 x0, .int .i64 x1, .int .i64 x2, .bool x3, .int .i64 x4], .agg [.int .i64 x5, .int .i64 x6, .sl (.int .u8) x7], .c (.int .i64 x8), .c (.int .i64 x9)], [] => bif true then F x0 x1 x2 x3 x4 x5 x6 x7 x8 x9 (fun r => match r with | (r0, r1) => k (.tup [(false, [.int .i64 r0]), (false, [.int .i64 r1])], [])) else none
  | _, _ => none
def spec32 (fuel : Nat) : Ev.Spec := spg32 (F_ref07_Context fuel)
theorem ok32 (fuel : Nat) : FnOK Try.prog 32 (spec32 fuel) := by
  intro args objs kk r h
  unfold spec32 spg32 at h
  split at h
  · obtain ⟨hb, h⟩ := cond_some' h
    simp only [Bool.and_eq_true, Nat.beq_eq, decide_eq_true_eq] at hb
    clear hb
    exact fok32 fuel _ _ kk r ((F32_eq fuel _ _ _ _ _ _ _ _ _ _ kk).trans h)
  · cases h
end Go.Proofs.Ytajidgilfkineaa
