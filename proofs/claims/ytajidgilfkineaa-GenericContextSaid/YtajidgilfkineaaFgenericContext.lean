/- incunable/generic.Context: its typed text, and that the machine does it. -/
import Derived.Test.YtajidgilfkineaaEvU
import Derived.Test.YtajidgilfkineaaFbitmapValid
import Derived.Test.YtajidgilfkineaaFgenericValid
import Derived.Test.YtajidgilfkineaaFgenericnewPlane
import Derived.Test.YtajidgilfkineaaFgenericplanecontexta34
set_option linter.unusedVariables false
set_option linter.unusedSimpArgs false
set_option maxRecDepth 100000
namespace Go.Proofs.Ytajidgilfkineaa
open Go Ev
def kp31 (i : Nat) : Option (List Nat) := Ev.look i []
def Gg31 (f37 : YF37) (f69 : YF69) (f70 : YF70) (f71_a34 : YF71_a34) (f : Nat) : Option Ev.Spec := Ev.look f [(37, spg37 f37), (69, spg69 f69), (70, spg70 f70), (71, spg71_a34 f71_a34)]
def G31 (fuel : Nat) : Nat → Option Ev.Spec := Gg31 (F_generic_Valid fuel) (F_bitmap_Valid fuel) (F_generic_newPlane fuel) (F_generic_plane_context_a34 fuel)
def J31 (fuel : Nat) (i : Nat) : Option Ev.Blk := Ev.look i []
def F_generic_Context (fuel : Nat) (x0 : Int) (x1 : Int) (x2 : Int) (x3 : Bool) (x4 : Int) (x5 : Int) (x6 : Int) (x7 : (List Int)) (x8 : Int) (x9 : Int) (k0 : (Int × Int) → Option Ans) : Option Ans :=
  (F_generic_Valid fuel (x0) (x1) (x2) (x3) (x4)
    (fun y2 =>
      bif !y2 then
       k0 ((0 : Int), (2 : Int))
      else
       (F_bitmap_Valid fuel (x5) (x6) (x7)
         (fun y7 =>
           bif !y7 then
            k0 ((0 : Int), (30 : Int))
           else
            bif Decidable.decide (x8 < (0 : Int)) then
             k0 ((0 : Int), (2 : Int))
            else
             bif Decidable.decide (x9 < (0 : Int)) then
              k0 ((0 : Int), (2 : Int))
             else
              bif Decidable.decide (x8 ≥ x5) then
               k0 ((0 : Int), (2 : Int))
              else
               bif Decidable.decide (x9 ≥ x6) then
                k0 ((0 : Int), (2 : Int))
               else
                (F_generic_newPlane fuel (x0) (x1) (x2) (x3) (x4) (x5) (x6)
                  (fun (y16_0, y16_1, y16_2, y16_3) =>
                    (F_generic_plane_context_a34 fuel (x8) (x9) (y16_0) (y16_1) (x7) (y16_3)
                      (fun (y20_0, y20_1, y20_2, y20_3, y20_4) =>
                        k0 (y20_0, (0 : Int))))))))))
abbrev YF31 : Type := (Int) → (Int) → (Int) → (Bool) → (Int) → (Int) → (Int) → ((List Int)) → (Int) → (Int) → ((Int × Int) → Option Ans) → Option Ans
theorem F31_eqg (fuel : Nat) (f37 : YF37) (f69 : YF69) (f70 : YF70) (f71_a34 : YF71_a34) (x0 : Int) (x1 : Int) (x2 : Int) (x3 : Bool) (x4 : Int) (x5 : Int) (x6 : Int) (x7 : (List Int)) (x8 : Int) (x9 : Int) (k : Ev.Cont) : evalFn tab (Gg31 f37 f69 f70 f71_a34) (J31 fuel) kp31 fuel Try.f31 [.agg [.int .i64 x0, .int .i64 x1, .int .i64 x2, .bool x3, .int .i64 x4], .agg [.int .i64 x5, .int .i64 x6, .sl (.int .u8) x7], .c (.int .i64 x8), .c (.int .i64 x9)] [] k = (fun  (k0 : (Int × Int) → Option Ans) =>
  (f37 (x0) (x1) (x2) (x3) (x4)
    (fun y2 =>
      bif !y2 then
       k0 ((0 : Int), (2 : Int))
      else
       (f69 (x5) (x6) (x7)
         (fun y7 =>
           bif !y7 then
            k0 ((0 : Int), (30 : Int))
           else
            bif Decidable.decide (x8 < (0 : Int)) then
             k0 ((0 : Int), (2 : Int))
            else
             bif Decidable.decide (x9 < (0 : Int)) then
              k0 ((0 : Int), (2 : Int))
             else
              bif Decidable.decide (x8 ≥ x5) then
               k0 ((0 : Int), (2 : Int))
              else
               bif Decidable.decide (x9 ≥ x6) then
                k0 ((0 : Int), (2 : Int))
               else
                (f70 (x0) (x1) (x2) (x3) (x4) (x5) (x6)
                  (fun (y16_0, y16_1, y16_2, y16_3) =>
                    (f71_a34 (x8) (x9) (y16_0) (y16_1) (x7) (y16_3)
                      (fun (y20_0, y20_1, y20_2, y20_3, y20_4) =>
                        k0 (y20_0, (0 : Int))))))))))) (fun r => match r with | (r0, r1) => k (.tup [(false, [.int .i64 r0]), (false, [.int .i64 r1])], [])) := by
  kernel_rfl
theorem F31_eq (fuel : Nat) (x0 : Int) (x1 : Int) (x2 : Int) (x3 : Bool) (x4 : Int) (x5 : Int) (x6 : Int) (x7 : (List Int)) (x8 : Int) (x9 : Int) (k : Ev.Cont) : evalFn tab (G31 fuel) (J31 fuel) kp31 fuel Try.f31 [.agg [.int .i64 x0, .int .i64 x1, .int .i64 x2, .bool x3, .int .i64 x4], .agg [.int .i64 x5, .int .i64 x6, .sl (.int .u8) x7], .c (.int .i64 x8), .c (.int .i64 x9)] [] k = F_generic_Context fuel x0 x1 x2 x3 x4 x5 x6 x7 x8 x9 (fun r => match r with | (r0, r1) => k (.tup [(false, [.int .i64 r0]), (false, [.int .i64 r1])], [])) :=
  F31_eqg fuel (F_generic_Valid fuel) (F_bitmap_Valid fuel) (F_generic_newPlane fuel) (F_generic_plane_context_a34 fuel) x0 x1 x2 x3 x4 x5 x6 x7 x8 x9 k
theorem hG31 (fuel : Nat) : GOK Try.prog (G31 fuel) :=
  gok_cons ⟨ok37 fuel, enters_of Try.func37 (by kernel_rfl) rfl⟩ <|
  gok_cons ⟨ok69 fuel, enters_of Try.func69 (by kernel_rfl) rfl⟩ <|
  gok_cons ⟨ok70 fuel, enters_of Try.func70 (by kernel_rfl) rfl⟩ <|
  gok_cons ⟨ok71_a34 fuel, enters_of Try.func71 (by kernel_rfl) rfl⟩ <|
  gok_nil
theorem fok31 (fuel : Nat) : FnOK Try.prog 31 (evalFn tab (G31 fuel) (J31 fuel) kp31 fuel Try.f31) :=
  fn_ok tab_ok (hG31 fuel) mixed Try.func31 (c := (Try.f31.body).getD .skip) rfl (fun q hq => by
    rw [(by kernel_rfl : obl (J31 fuel) ((Try.f31.body).getD .skip) = [])] at hq
    cases hq)
def mt31 : List Ev.SV → List Ev.Ob → Bool := fun args objs => match args, objs with
  | [.agg [.int .i64 _, .int .i64 _, .int .i64 _, .bool _, .int .i64 _], .agg [.int .i64 _, .int .i64 _, .sl (.int .u8) _], .c (.int .i64 _), .c (.int .i64 _)], [] => true
  | _, _ => false
def spg31 (F : YF31) : Ev.Spec := fun args objs k => match args, objs with
  | [.agg [.int .i64 x0, .int .i64 x1, .int .i64 x2, .bool x3, .int .i64 x4], .agg [.int .i64 x5, .int .i64 x6, .sl (.int .u8) x7], .c (.int .i64 x8), .c (.int .i64 x9)], [] => bif true then F x0 x1 x2 x3 x4 x5 x6 x7 x8 x9 (fun r => match r with | (r0, r1) => k (.tup [(false, [.int .i64 r0]), (false, [.int .i64 r1])], [])) else none
  | _, _ => none
def spec31 (fuel : Nat) : Ev.Spec := spg31 (F_generic_Context fuel)
theorem ok31 (fuel : Nat) : FnOK Try.prog 31 (spec31 fuel) := by
  intro args objs kk r h
  unfold spec31 spg31 at h
  split at h
  · obtain ⟨hb, h⟩ := cond_some' h
    simp only [Bool.and_eq_true, Nat.beq_eq, decide_eq_true_eq] at hb
    clear hb
    exact fok31 fuel _ _ kk r ((F31_eq fuel _ _ _ _ _ _ _ _ _ _ kk).trans h)
  · cases h
end Go.Proofs.Ytajidgilfkineaa
