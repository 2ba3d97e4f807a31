/- incunable/incunablelaw12.SegmentHeader: its typed text, and that the machine does it. -/
import Derived.Test.YtajidgilfkineaaEvU
import Derived.Test.YtajidgilfkineaaFlaw12Awake
import Derived.Test.YtajidgilfkineaaFlaw12large
import Derived.Test.YtajidgilfkineaaFref02SameBytes
import Derived.Test.YtajidgilfkineaaFref12Header
import Derived.Test.YtajidgilfkineaaFref12Same
import Derived.Test.YtajidgilfkineaaFref12Valid
import Derived.Test.YtajidgilfkineaaFsegmentHeader
import Derived.Test.YtajidgilfkineaaFsegmentSame
import Derived.Test.YtajidgilfkineaaFsegmentValid
set_option linter.unusedVariables false
set_option linter.unusedSimpArgs false
set_option maxRecDepth 100000
namespace Go.Proofs.Ytajidgilfkineaa
open Go Ev
def kp9 (i : Nat) : Option (List Nat) := Ev.look i [(200005, [2, 3])]
def Gg9 (f39 : YF39) (f40 : YF40) (f41 : YF41) (f42 : YF42) (f43 : YF43) (f44 : YF44) (f45 : YF45) (f46 : YF46) (f47 : YF47) (f : Nat) : Option Ev.Spec := Ev.look f [(39, spg39 f39), (40, spg40 f40), (41, spg41 f41), (42, spg42 f42), (43, spg43 f43), (44, spg44 f44), (45, spg45 f45), (46, spg46 f46), (47, spg47 f47)]
def G9 (fuel : Nat) : Nat → Option Ev.Spec := Gg9 (F_law12_large fuel) (F_law12_Awake fuel) (F_segment_Header fuel) (F_ref12_Header fuel) (F_segment_Valid fuel) (F_ref12_Valid fuel) (F_ref02_SameBytes fuel) (F_segment_Same fuel) (F_ref12_Same fuel)
def J9 (fuel : Nat) (i : Nat) : Option Ev.Blk := Ev.look i []
def F_law12_SegmentHeader (fuel : Nat) (x0 : Int) (x1 : Int) (x2 : Int) (x3 : (List Int)) (x4 : (List Bool)) (x5 : (List Int)) (x6 : Int) (x7 : Int) (x8 : Int) (x9 : (List Int)) (x10 : (List Bool)) (x11 : (List Int)) (k0 : (Bool) → Option Ans) : Option Ans :=
  (F_law12_large fuel ([(x0, x1, x2, x3, x4, x5), (x6, x7, x8, x9, x10, x11)])
    (fun y2 =>
      bif y2 then
       (F_law12_Awake fuel
         (fun y7 =>
           k0 y7))
      else
       (F_segment_Header fuel (x0) (x1) (x2) (x3) (x4) (x5)
         (fun (y7_0, y7_1) =>
           (F_ref12_Header fuel (x0) (x1) (x2) (x3) (x4) (x5)
             (fun (y11_0, y11_1) =>
               (F_segment_Valid fuel (x0) (x1) (x2) (x3) (x4) (x5)
                 (fun y15 =>
                   (F_ref12_Valid fuel (x0) (x1) (x2) (x3) (x4) (x5)
                     (fun y19 =>
                       bif y15 == y19 then
                        bif y7_0 == y11_0 then
                         (F_ref02_SameBytes fuel (y7_1) (y11_1)
                           (fun y25 =>
                             bif y25 then
                              (F_segment_Same fuel (x0) (x1) (x2) (x3) (x4) (x5) (x6) (x7) (x8) (x9) (x10) (x11)
                                (fun y30 =>
                                  (F_ref12_Same fuel (x0) (x1) (x2) (x3) (x4) (x5) (x6) (x7) (x8) (x9) (x10) (x11)
                                    (fun y34 =>
                                      bif y30 == y34 then
                                       (F_segment_Same fuel (x0) (x1) (x2) (x3) (x4) (x5) (x0) (x1) (x2) (x3) (x4) (x5)
                                         (fun y39 =>
                                           bif y39 then
                                            (F_law12_Awake fuel
                                              (fun y44 =>
                                                k0 y44))
                                           else
                                            k0 Bool.false))
                                      else
                                       k0 Bool.false))))
                             else
                              k0 Bool.false))
                        else
                         k0 Bool.false
                       else
                        k0 Bool.false))))))))))
abbrev YF9 : Type := (Int) → (Int) → (Int) → ((List Int)) → ((List Bool)) → ((List Int)) → (Int) → (Int) → (Int) → ((List Int)) → ((List Bool)) → ((List Int)) → ((Bool) → Option Ans) → Option Ans
theorem F9_eqg (fuel : Nat) (f39 : YF39) (f40 : YF40) (f41 : YF41) (f42 : YF42) (f43 : YF43) (f44 : YF44) (f45 : YF45) (f46 : YF46) (f47 : YF47) (x0 : Int) (x1 : Int) (x2 : Int) (x3 : (List Int)) (x4 : (List Bool)) (x5 : (List Int)) (x6 : Int) (x7 : Int) (x8 : Int) (x9 : (List Int)) (x10 : (List Bool)) (x11 : (List Int)) (k : Ev.Cont) : evalFn tab (Gg9 f39 f40 f41 f42 f43 f44 f45 f46 f47) (J9 fuel) kp9 fuel Try.f9 [.agg [.int .i64 x0, .int .i64 x1, .int .i64 x2, .sl (.int .i64) x3, .sl .bool x4, .sl (.int .u8) x5], .agg [.int .i64 x6, .int .i64 x7, .int .i64 x8, .sl (.int .i64) x9, .sl .bool x10, .sl (.int .u8) x11]] [] k = (fun  (k0 : (Bool) → Option Ans) =>
  (f39 ([(x0, x1, x2, x3, x4, x5), (x6, x7, x8, x9, x10, x11)])
    (fun y2 =>
      bif y2 then
       (f40
         (fun y7 =>
           k0 y7))
      else
       (f41 (x0) (x1) (x2) (x3) (x4) (x5)
         (fun (y7_0, y7_1) =>
           (f42 (x0) (x1) (x2) (x3) (x4) (x5)
             (fun (y11_0, y11_1) =>
               (f43 (x0) (x1) (x2) (x3) (x4) (x5)
                 (fun y15 =>
                   (f44 (x0) (x1) (x2) (x3) (x4) (x5)
                     (fun y19 =>
                       bif y15 == y19 then
                        bif y7_0 == y11_0 then
                         (f45 (y7_1) (y11_1)
                           (fun y25 =>
                             bif y25 then
                              (f46 (x0) (x1) (x2) (x3) (x4) (x5) (x6) (x7) (x8) (x9) (x10) (x11)
                                (fun y30 =>
                                  (f47 (x0) (x1) (x2) (x3) (x4) (x5) (x6) (x7) (x8) (x9) (x10) (x11)
                                    (fun y34 =>
                                      bif y30 == y34 then
                                       (f46 (x0) (x1) (x2) (x3) (x4) (x5) (x0) (x1) (x2) (x3) (x4) (x5)
                                         (fun y39 =>
                                           bif y39 then
                                            (f40
                                              (fun y44 =>
                                                k0 y44))
                                           else
                                            k0 Bool.false))
                                      else
                                       k0 Bool.false))))
                             else
                              k0 Bool.false))
                        else
                         k0 Bool.false
                       else
                        k0 Bool.false))))))))))) (fun r => match r with | r0 => k (.c (.bool r0), [])) := by
  kernel_rfl
theorem F9_eq (fuel : Nat) (x0 : Int) (x1 : Int) (x2 : Int) (x3 : (List Int)) (x4 : (List Bool)) (x5 : (List Int)) (x6 : Int) (x7 : Int) (x8 : Int) (x9 : (List Int)) (x10 : (List Bool)) (x11 : (List Int)) (k : Ev.Cont) : evalFn tab (G9 fuel) (J9 fuel) kp9 fuel Try.f9 [.agg [.int .i64 x0, .int .i64 x1, .int .i64 x2, .sl (.int .i64) x3, .sl .bool x4, .sl (.int .u8) x5], .agg [.int .i64 x6, .int .i64 x7, .int .i64 x8, .sl (.int .i64) x9, .sl .bool x10, .sl (.int .u8) x11]] [] k = F_law12_SegmentHeader fuel x0 x1 x2 x3 x4 x5 x6 x7 x8 x9 x10 x11 (fun r => match r with | r0 => k (.c (.bool r0), [])) :=
  F9_eqg fuel (F_law12_large fuel) (F_law12_Awake fuel) (F_segment_Header fuel) (F_ref12_Header fuel) (F_segment_Valid fuel) (F_ref12_Valid fuel) (F_ref02_SameBytes fuel) (F_segment_Same fuel) (F_ref12_Same fuel) x0 x1 x2 x3 x4 x5 x6 x7 x8 x9 x10 x11 k
theorem hG9 (fuel : Nat) : GOK Try.prog (G9 fuel) :=
  gok_cons ⟨ok39 fuel, enters_of Try.func39 (by kernel_rfl) rfl⟩ <|
  gok_cons ⟨ok40 fuel, enters_of Try.func40 (by kernel_rfl) rfl⟩ <|
  gok_cons ⟨ok41 fuel, enters_of Try.func41 (by kernel_rfl) rfl⟩ <|
  gok_cons ⟨ok42 fuel, enters_of Try.func42 (by kernel_rfl) rfl⟩ <|
  gok_cons ⟨ok43 fuel, enters_of Try.func43 (by kernel_rfl) rfl⟩ <|
  gok_cons ⟨ok44 fuel, enters_of Try.func44 (by kernel_rfl) rfl⟩ <|
  gok_cons ⟨ok45 fuel, enters_of Try.func45 (by kernel_rfl) rfl⟩ <|
  gok_cons ⟨ok46 fuel, enters_of Try.func46 (by kernel_rfl) rfl⟩ <|
  gok_cons ⟨ok47 fuel, enters_of Try.func47 (by kernel_rfl) rfl⟩ <|
  gok_nil
theorem fok9 (fuel : Nat) : FnOK Try.prog 9 (evalFn tab (G9 fuel) (J9 fuel) kp9 fuel Try.f9) :=
  fn_ok tab_ok (hG9 fuel) mixed Try.func9 (c := (Try.f9.body).getD .skip) rfl (fun q hq => by
    rw [(by kernel_rfl : obl (J9 fuel) ((Try.f9.body).getD .skip) = [])] at hq
    cases hq)
def mt9 : List Ev.SV → List Ev.Ob → Bool := fun args objs => match args, objs with
  | [.agg [.int .i64 _, .int .i64 _, .int .i64 _, .sl (.int .i64) _, .sl .bool _, .sl (.int .u8) _], .agg [.int .i64 _, .int .i64 _, .int .i64 _, .sl (.int .i64) _, .sl .bool _, .sl (.int .u8) _]], [] => true
  | _, _ => false
def spg9 (F : YF9) : Ev.Spec := fun args objs k => match args, objs with
  | [.agg [.int .i64 x0, .int .i64 x1, .int .i64 x2, .sl (.int .i64) x3, .sl .bool x4, .sl (.int .u8) x5], .agg [.int .i64 x6, .int .i64 x7, .int .i64 x8, .sl (.int .i64) x9, .sl .bool x10, .sl (.int .u8) x11]], [] => bif true then F x0 x1 x2 x3 x4 x5 x6 x7 x8 x9 x10 x11 (fun r => match r with | r0 => k (.c (.bool r0), [])) else none
  | _, _ => none
def spec9 (fuel : Nat) : Ev.Spec := spg9 (F_law12_SegmentHeader fuel)
theorem ok9 (fuel : Nat) : FnOK Try.prog 9 (spec9 fuel) := by
  intro args objs kk r h
  unfold spec9 spg9 at h
  split at h
  · obtain ⟨hb, h⟩ := cond_some' h
    simp only [Bool.and_eq_true, Nat.beq_eq, decide_eq_true_eq] at hb
    clear hb
    exact fok9 fuel _ _ kk r ((F9_eq fuel _ _ _ _ _ _ _ _ _ _ _ _ kk).trans h)
  · cases h
end Go.Proofs.Ytajidgilfkineaa
