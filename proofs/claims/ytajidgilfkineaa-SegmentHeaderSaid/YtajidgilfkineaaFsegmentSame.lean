/- incunable/segment.Same: its typed text, and that the machine does it. -/
import Derived.Test.YtajidgilfkineaaEvU
import Derived.Test.YtajidgilfkineaaFbytesEqual
import Derived.Test.YtajidgilfkineaaFslicesEqualboolbool
import Derived.Test.YtajidgilfkineaaFslicesEqualintint
set_option linter.unusedVariables false
set_option linter.unusedSimpArgs false
set_option maxRecDepth 100000
namespace Go.Proofs.Ytajidgilfkineaa
open Go Ev
def kp46 (i : Nat) : Option (List Nat) := Ev.look i []
def Gg46 (f80 : YF80) (f81 : YF81) (f82 : YF82) (f : Nat) : Option Ev.Spec := Ev.look f [(80, spg80 f80), (81, spg81 f81), (82, spg82 f82)]
def G46 (fuel : Nat) : Nat → Option Ev.Spec := Gg46 (F_slices_Equal_int_int fuel) (F_slices_Equal_bool_bool fuel) (F_bytes_Equal fuel)
def J46 (fuel : Nat) (i : Nat) : Option Ev.Blk := Ev.look i []
def F_segment_Same (fuel : Nat) (x0 : Int) (x1 : Int) (x2 : Int) (x3 : (List Int)) (x4 : (List Bool)) (x5 : (List Int)) (x6 : Int) (x7 : Int) (x8 : Int) (x9 : (List Int)) (x10 : (List Bool)) (x11 : (List Int)) (k0 : (Bool) → Option Ans) : Option Ans :=
  bif x0 == x6 then
   bif x1 == x7 then
    bif x2 == x8 then
     (F_slices_Equal_int_int fuel (x3) (x9)
       (fun y5 =>
         bif y5 then
          (F_slices_Equal_bool_bool fuel (x4) (x10)
            (fun y10 =>
              bif y10 then
               (F_bytes_Equal fuel (x5) (x11)
                 (fun y15 =>
                   k0 y15))
              else
               k0 Bool.false))
         else
          k0 Bool.false))
    else
     k0 Bool.false
   else
    k0 Bool.false
  else
   k0 Bool.false
abbrev YF46 : Type := (Int) → (Int) → (Int) → ((List Int)) → ((List Bool)) → ((List Int)) → (Int) → (Int) → (Int) → ((List Int)) → ((List Bool)) → ((List Int)) → ((Bool) → Option Ans) → Option Ans
theorem F46_eqg (fuel : Nat) (f80 : YF80) (f81 : YF81) (f82 : YF82) (x0 : Int) (x1 : Int) (x2 : Int) (x3 : (List Int)) (x4 : (List Bool)) (x5 : (List Int)) (x6 : Int) (x7 : Int) (x8 : Int) (x9 : (List Int)) (x10 : (List Bool)) (x11 : (List Int)) (k : Ev.Cont) : evalFn tab (Gg46 f80 f81 f82) (J46 fuel) kp46 fuel Try.f46 [.agg [.int .i64 x0, .int .i64 x1, .int .i64 x2, .sl (.int .i64) x3, .sl .bool x4, .sl (.int .u8) x5], .agg [.int .i64 x6, .int .i64 x7, .int .i64 x8, .sl (.int .i64) x9, .sl .bool x10, .sl (.int .u8) x11]] [] k = (fun  (k0 : (Bool) → Option Ans) =>
  bif x0 == x6 then
   bif x1 == x7 then
    bif x2 == x8 then
     (f80 (x3) (x9)
       (fun y5 =>
         bif y5 then
          (f81 (x4) (x10)
            (fun y10 =>
              bif y10 then
               (f82 (x5) (x11)
                 (fun y15 =>
                   k0 y15))
              else
               k0 Bool.false))
         else
          k0 Bool.false))
    else
     k0 Bool.false
   else
    k0 Bool.false
  else
   k0 Bool.false) (fun r => match r with | r0 => k (.c (.bool r0), [])) := by
  kernel_rfl
theorem F46_eq (fuel : Nat) (x0 : Int) (x1 : Int) (x2 : Int) (x3 : (List Int)) (x4 : (List Bool)) (x5 : (List Int)) (x6 : Int) (x7 : Int) (x8 : Int) (x9 : (List Int)) (x10 : (List Bool)) (x11 : (List Int)) (k : Ev.Cont) : evalFn tab (G46 fuel) (J46 fuel) kp46 fuel Try.f46 [.agg [.int .i64 x0, .int .i64 x1, .int .i64 x2, .sl (.int .i64) x3, .sl .bool x4, .sl (.int .u8) x5], .agg [.int .i64 x6, .int .i64 x7, .int .i64 x8, .sl (.int .i64) x9, .sl .bool x10, .sl (.int .u8) x11]] [] k = F_segment_Same fuel x0 x1 x2 x3 x4 x5 x6 x7 x8 x9 x10 x11 (fun r => match r with | r0 => k (.c (.bool r0), [])) :=
  F46_eqg fuel (F_slices_Equal_int_int fuel) (F_slices_Equal_bool_bool fuel) (F_bytes_Equal fuel) x0 x1 x2 x3 x4 x5 x6 x7 x8 x9 x10 x11 k
theorem hG46 (fuel : Nat) : GOK Try.prog (G46 fuel) :=
  gok_cons ⟨ok80 fuel, enters_of Try.func80 (by kernel_rfl) rfl⟩ <|
  gok_cons ⟨ok81 fuel, enters_of Try.func81 (by kernel_rfl) rfl⟩ <|
  gok_cons ⟨ok82 fuel, enters_of Try.func82 (by kernel_rfl) rfl⟩ <|
  gok_nil
theorem fok46 (fuel : Nat) : FnOK Try.prog 46 (evalFn tab (G46 fuel) (J46 fuel) kp46 fuel Try.f46) :=
  fn_ok tab_ok (hG46 fuel) mixed Try.func46 (c := (Try.f46.body).getD .skip) rfl (fun q hq => by
    rw [(by kernel_rfl : obl (J46 fuel) ((Try.f46.body).getD .skip) = [])] at hq
    cases hq)
def mt46 : List Ev.SV → List Ev.Ob → Bool := fun args objs => match args, objs with
  | [.agg [.int .i64 _, .int .i64 _, .int .i64 _, .sl (.int .i64) _, .sl .bool _, .sl (.int .u8) _], .agg [.int .i64 _, .int .i64 _, .int .i64 _, .sl (.int .i64) _, .sl .bool _, .sl (.int .u8) _]], [] => true
  | _, _ => false
def spg46 (F : YF46) : Ev.Spec := fun args objs k => match args, objs with
  | [.agg [.int .i64 x0, .int .i64 x1, .int .i64 x2, .sl (.int .i64) x3, .sl .bool x4, .sl (.int .u8) x5], .agg [.int .i64 x6, .int .i64 x7, .int .i64 x8, .sl (.int .i64) x9, .sl .bool x10, .sl (.int .u8) x11]], [] => bif true then F x0 x1 x2 x3 x4 x5 x6 x7 x8 x9 x10 x11 (fun r => match r with | r0 => k (.c (.bool r0), [])) else none
  | _, _ => none
def spec46 (fuel : Nat) : Ev.Spec := spg46 (F_segment_Same fuel)
theorem ok46 (fuel : Nat) : FnOK Try.prog 46 (spec46 fuel) := by
  intro args objs kk r h
  unfold spec46 spg46 at h
  split at h
  · obtain ⟨hb, h⟩ := cond_some' h
    simp only [Bool.and_eq_true, Nat.beq_eq, decide_eq_true_eq] at hb
    clear hb
    exact fok46 fuel _ _ kk r ((F46_eq fuel _ _ _ _ _ _ _ _ _ _ _ _ kk).trans h)
  · cases h
end Go.Proofs.Ytajidgilfkineaa
