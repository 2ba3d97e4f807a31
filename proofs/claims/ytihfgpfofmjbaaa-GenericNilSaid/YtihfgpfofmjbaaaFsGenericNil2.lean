/- What the functions that GenericNil reaches do: their typed texts, each with the proof that the machine does it. No condition. -/
import Derived.Test.YtihfgpfofmjbaaaEvX
import Derived.Test.YtihfgpfofmjbaaaFsGenericNil1
set_option linter.unusedVariables false
set_option linter.unusedSimpArgs false
set_option linter.unusedVariables false
set_option linter.unusedSimpArgs false
set_option maxRecDepth 100000
set_option maxHeartbeats 2000000
namespace Go.Proofs.Ytihfgpfofmjbaaa
open Go Ev
def kp85 (i : Nat) : Option (List Nat) := Ev.look i []
noncomputable def Gg85 (f88 : YF88) (f89 : YF89) (f97 : YF97) (f158_a34 : YF158_a34) (f : Nat) : Option Ev.Spec := Ev.look f [(88, spg88 f88), (89, spg89 f89), (97, spg97 f97), (158, spg158_a34 f158_a34)]
noncomputable def G85 (fuel : Nat) : Nat → Option Ev.Spec := Gg85 (F_generic_Valid fuel) (F_bitmap_Valid fuel) (F_generic_newPlane fuel) (F_generic_plane_context_a34 fuel)
noncomputable def J85 (fuel : Nat) (i : Nat) : Option Ev.Blk := Ev.look i []
noncomputable def F_generic_Context (fuel : Nat) (x0 : Int) (x1 : Int) (x2 : Int) (x3 : Bool) (x4 : Int) (x5 : Int) (x6 : Int) (x7 : (List Int)) (x8 : Int) (x9 : Int) (k0 : (Int × Int) → Option Ans) : Option Ans :=
  (F_generic_Valid fuel (x0) (x1) (x2) (x3) (x4)
    (fun y2 =>
      bif !y2 then
       k0 ((0 : Int), (2 : Int))
      else
       (F_bitmap_Valid fuel (x5) (x6) (x7)
         (fun y7 =>
           bif !y7 then
            k0 ((0 : Int), (30 : Int))
           else
            bif Decidable.decide (x8 < (0 : Int)) then
             k0 ((0 : Int), (2 : Int))
            else
             bif Decidable.decide (x9 < (0 : Int)) then
              k0 ((0 : Int), (2 : Int))
             else
              bif Decidable.decide (x8 ≥ x5) then
               k0 ((0 : Int), (2 : Int))
              else
               bif Decidable.decide (x9 ≥ x6) then
                k0 ((0 : Int), (2 : Int))
               else
                (F_generic_newPlane fuel (x0) (x1) (x2) (x3) (x4) (x5) (x6)
                  (fun (y16_0, y16_1, y16_2, y16_3) =>
                    (F_generic_plane_context_a34 fuel (x8) (x9) (y16_0) (y16_1) (x7) (y16_3)
                      (fun (y20_0, y20_1, y20_2, y20_3, y20_4) =>
                        k0 (y20_0, (0 : Int))))))))))
abbrev YF85 : Type := (Int) → (Int) → (Int) → (Bool) → (Int) → (Int) → (Int) → ((List Int)) → (Int) → (Int) → ((Int × Int) → Option Ans) → Option Ans
theorem F85_eqg (fuel : Nat) (f88 : YF88) (f89 : YF89) (f97 : YF97) (f158_a34 : YF158_a34) (x0 : Int) (x1 : Int) (x2 : Int) (x3 : Bool) (x4 : Int) (x5 : Int) (x6 : Int) (x7 : (List Int)) (x8 : Int) (x9 : Int) (k : Ev.Cont) : evalFn tab (Gg85 f88 f89 f97 f158_a34) (J85 fuel) kp85 fuel Try.f85 [.agg [.int .i64 x0, .int .i64 x1, .int .i64 x2, .bool x3, .int .i64 x4], .agg [.int .i64 x5, .int .i64 x6, .sl (.int .u8) x7], .c (.int .i64 x8), .c (.int .i64 x9)] [] k = (fun  (k0 : (Int × Int) → Option Ans) =>
  (f88 (x0) (x1) (x2) (x3) (x4)
    (fun y2 =>
      bif !y2 then
       k0 ((0 : Int), (2 : Int))
      else
       (f89 (x5) (x6) (x7)
         (fun y7 =>
           bif !y7 then
            k0 ((0 : Int), (30 : Int))
           else
            bif Decidable.decide (x8 < (0 : Int)) then
             k0 ((0 : Int), (2 : Int))
            else
             bif Decidable.decide (x9 < (0 : Int)) then
              k0 ((0 : Int), (2 : Int))
             else
              bif Decidable.decide (x8 ≥ x5) then
               k0 ((0 : Int), (2 : Int))
              else
               bif Decidable.decide (x9 ≥ x6) then
                k0 ((0 : Int), (2 : Int))
               else
                (f97 (x0) (x1) (x2) (x3) (x4) (x5) (x6)
                  (fun (y16_0, y16_1, y16_2, y16_3) =>
                    (f158_a34 (x8) (x9) (y16_0) (y16_1) (x7) (y16_3)
                      (fun (y20_0, y20_1, y20_2, y20_3, y20_4) =>
                        k0 (y20_0, (0 : Int))))))))))) (fun r => match r with | (r0, r1) => k (.tup [(false, [.int .i64 r0]), (false, [.int .i64 r1])], [])) := by
  kernel_rfl
theorem F85_eq (fuel : Nat) (x0 : Int) (x1 : Int) (x2 : Int) (x3 : Bool) (x4 : Int) (x5 : Int) (x6 : Int) (x7 : (List Int)) (x8 : Int) (x9 : Int) (k : Ev.Cont) : evalFn tab (G85 fuel) (J85 fuel) kp85 fuel Try.f85 [.agg [.int .i64 x0, .int .i64 x1, .int .i64 x2, .bool x3, .int .i64 x4], .agg [.int .i64 x5, .int .i64 x6, .sl (.int .u8) x7], .c (.int .i64 x8), .c (.int .i64 x9)] [] k = F_generic_Context fuel x0 x1 x2 x3 x4 x5 x6 x7 x8 x9 (fun r => match r with | (r0, r1) => k (.tup [(false, [.int .i64 r0]), (false, [.int .i64 r1])], [])) :=
  F85_eqg fuel (F_generic_Valid fuel) (F_bitmap_Valid fuel) (F_generic_newPlane fuel) (F_generic_plane_context_a34 fuel) x0 x1 x2 x3 x4 x5 x6 x7 x8 x9 k
theorem hG85 (fuel : Nat) : GOK Try.prog (G85 fuel) :=
  gok_cons ⟨ok88 fuel, enters_of Try.func88 (by kernel_rfl) rfl⟩ <|
  gok_cons ⟨ok89 fuel, enters_of Try.func89 (by kernel_rfl) rfl⟩ <|
  gok_cons ⟨ok97 fuel, enters_of Try.func97 (by kernel_rfl) rfl⟩ <|
  gok_cons ⟨ok158_a34 fuel, enters_of Try.func158 (by kernel_rfl) rfl⟩ <|
  gok_nil
theorem fok85 (fuel : Nat) : FnOK Try.prog 85 (evalFn tab (G85 fuel) (J85 fuel) kp85 fuel Try.f85) :=
  fn_ok tab_ok (hG85 fuel) mixed Try.func85 (c := (Try.f85.body).getD .skip) rfl (fun q hq => by
    rw [(by kernel_rfl : obl (J85 fuel) ((Try.f85.body).getD .skip) = [])] at hq
    cases hq)
noncomputable def mt85 : List Ev.SV → List Ev.Ob → Bool := fun args objs => match args, objs with
  | [.agg [.int .i64 _, .int .i64 _, .int .i64 _, .bool _, .int .i64 _], .agg [.int .i64 _, .int .i64 _, .sl (.int .u8) _], .c (.int .i64 _), .c (.int .i64 _)], [] => true
  | _, _ => false
noncomputable def spg85 (F : YF85) : Ev.Spec := fun args objs k => match args, objs with
  | [.agg [.int .i64 x0, .int .i64 x1, .int .i64 x2, .bool x3, .int .i64 x4], .agg [.int .i64 x5, .int .i64 x6, .sl (.int .u8) x7], .c (.int .i64 x8), .c (.int .i64 x9)], [] => bif true then F x0 x1 x2 x3 x4 x5 x6 x7 x8 x9 (fun r => match r with | (r0, r1) => k (.tup [(false, [.int .i64 r0]), (false, [.int .i64 r1])], [])) else none
  | _, _ => none
noncomputable def spec85 (fuel : Nat) : Ev.Spec := spg85 (F_generic_Context fuel)
theorem ok85 (fuel : Nat) : FnOK Try.prog 85 (spec85 fuel) := by
  intro args objs kk r h
  unfold spec85 spg85 at h
  split at h
  · skip
    obtain ⟨hb, h⟩ := cond_some' h
    simp only [Bool.and_eq_true, Nat.beq_eq, decide_eq_true_eq] at hb
    clear hb
    exact fok85 fuel _ _ kk r ((F85_eq fuel _ _ _ _ _ _ _ _ _ _ kk).trans h)
  · cases h
end Go.Proofs.Ytihfgpfofmjbaaa

set_option linter.unusedVariables false
set_option linter.unusedSimpArgs false
set_option maxRecDepth 100000
set_option maxHeartbeats 2000000
namespace Go.Proofs.Ytihfgpfofmjbaaa
open Go Ev
def kp84 (i : Nat) : Option (List Nat) := Ev.look i []
noncomputable def Gg84 (f88 : YF88) (f90 : YF90) (f : Nat) : Option Ev.Spec := Ev.look f [(88, spg88 f88), (90, spg90 f90)]
noncomputable def G84 (fuel : Nat) : Nat → Option Ev.Spec := Gg84 (F_generic_Valid fuel) (F_generic_contexts fuel)
noncomputable def J84 (fuel : Nat) (i : Nat) : Option Ev.Blk := Ev.look i []
noncomputable def F_generic_Size (fuel : Nat) (x0 : Int) (x1 : Int) (x2 : Int) (x3 : Bool) (x4 : Int) (k0 : (Int × Int) → Option Ans) : Option Ans :=
  (F_generic_Valid fuel (x0) (x1) (x2) (x3) (x4)
    (fun y2 =>
      bif !y2 then
       k0 ((0 : Int), (2 : Int))
      else
       (F_generic_contexts fuel (x0) (x1) (x2) (x3) (x4)
         (fun y7 =>
           k0 (Go.IntKind.i64.wrap (y7 + (1 : Int)), (0 : Int))))))
abbrev YF84 : Type := (Int) → (Int) → (Int) → (Bool) → (Int) → ((Int × Int) → Option Ans) → Option Ans
theorem F84_eqg (fuel : Nat) (f88 : YF88) (f90 : YF90) (x0 : Int) (x1 : Int) (x2 : Int) (x3 : Bool) (x4 : Int) (k : Ev.Cont) : evalFn tab (Gg84 f88 f90) (J84 fuel) kp84 fuel Try.f84 [.agg [.int .i64 x0, .int .i64 x1, .int .i64 x2, .bool x3, .int .i64 x4]] [] k = (fun  (k0 : (Int × Int) → Option Ans) =>
  (f88 (x0) (x1) (x2) (x3) (x4)
    (fun y2 =>
      bif !y2 then
       k0 ((0 : Int), (2 : Int))
      else
       (f90 (x0) (x1) (x2) (x3) (x4)
         (fun y7 =>
           k0 (Go.IntKind.i64.wrap (y7 + (1 : Int)), (0 : Int))))))) (fun r => match r with | (r0, r1) => k (.tup [(false, [.int .i64 r0]), (false, [.int .i64 r1])], [])) := by
  kernel_rfl
theorem F84_eq (fuel : Nat) (x0 : Int) (x1 : Int) (x2 : Int) (x3 : Bool) (x4 : Int) (k : Ev.Cont) : evalFn tab (G84 fuel) (J84 fuel) kp84 fuel Try.f84 [.agg [.int .i64 x0, .int .i64 x1, .int .i64 x2, .bool x3, .int .i64 x4]] [] k = F_generic_Size fuel x0 x1 x2 x3 x4 (fun r => match r with | (r0, r1) => k (.tup [(false, [.int .i64 r0]), (false, [.int .i64 r1])], [])) :=
  F84_eqg fuel (F_generic_Valid fuel) (F_generic_contexts fuel) x0 x1 x2 x3 x4 k
theorem hG84 (fuel : Nat) : GOK Try.prog (G84 fuel) :=
  gok_cons ⟨ok88 fuel, enters_of Try.func88 (by kernel_rfl) rfl⟩ <|
  gok_cons ⟨ok90 fuel, enters_of Try.func90 (by kernel_rfl) rfl⟩ <|
  gok_nil
theorem fok84 (fuel : Nat) : FnOK Try.prog 84 (evalFn tab (G84 fuel) (J84 fuel) kp84 fuel Try.f84) :=
  fn_ok tab_ok (hG84 fuel) mixed Try.func84 (c := (Try.f84.body).getD .skip) rfl (fun q hq => by
    rw [(by kernel_rfl : obl (J84 fuel) ((Try.f84.body).getD .skip) = [])] at hq
    cases hq)
noncomputable def mt84 : List Ev.SV → List Ev.Ob → Bool := fun args objs => match args, objs with
  | [.agg [.int .i64 _, .int .i64 _, .int .i64 _, .bool _, .int .i64 _]], [] => true
  | _, _ => false
noncomputable def spg84 (F : YF84) : Ev.Spec := fun args objs k => match args, objs with
  | [.agg [.int .i64 x0, .int .i64 x1, .int .i64 x2, .bool x3, .int .i64 x4]], [] => bif true then F x0 x1 x2 x3 x4 (fun r => match r with | (r0, r1) => k (.tup [(false, [.int .i64 r0]), (false, [.int .i64 r1])], [])) else none
  | _, _ => none
noncomputable def spec84 (fuel : Nat) : Ev.Spec := spg84 (F_generic_Size fuel)
theorem ok84 (fuel : Nat) : FnOK Try.prog 84 (spec84 fuel) := by
  intro args objs kk r h
  unfold spec84 spg84 at h
  split at h
  · skip
    obtain ⟨hb, h⟩ := cond_some' h
    simp only [Bool.and_eq_true, Nat.beq_eq, decide_eq_true_eq] at hb
    clear hb
    exact fok84 fuel _ _ kk r ((F84_eq fuel _ _ _ _ _ kk).trans h)
  · cases h
end Go.Proofs.Ytihfgpfofmjbaaa

set_option linter.unusedVariables false
set_option linter.unusedSimpArgs false
set_option maxRecDepth 100000
set_option maxHeartbeats 2000000
namespace Go.Proofs.Ytihfgpfofmjbaaa
open Go Ev
def kp27 (i : Nat) : Option (List Nat) := Ev.look i []
noncomputable def Gg27 (f84 : YF84) (f85 : YF85) (f : Nat) : Option Ev.Spec := Ev.look f [(84, spg84 f84), (85, spg85 f85)]
noncomputable def G27 (fuel : Nat) : Nat → Option Ev.Spec := Gg27 (F_generic_Size fuel) (F_generic_Context fuel)
noncomputable def J27 (fuel : Nat) (i : Nat) : Option Ev.Blk := Ev.look i []
noncomputable def F_law07_Sane (fuel : Nat)  (k0 : (Bool) → Option Ans) : Option Ans :=
  (F_generic_Size fuel ((3 : Int)) ((2 : Int)) ((-1 : Int)) (Bool.false) ((0 : Int))
    (fun (y2_0, y2_1) =>
      (F_generic_Context fuel ((3 : Int)) ((-2 : Int)) ((0 : Int)) (Bool.false) ((0 : Int)) ((4 : Int)) ((1 : Int)) ([(1 : Int), (0 : Int), (1 : Int), (1 : Int)]) ((2 : Int)) ((0 : Int))
        (fun (y6_0, y6_1) =>
          bif y2_1 == (0 : Int) then
           bif y2_0 == (33 : Int) then
            bif y6_1 == (0 : Int) then
             k0 (y6_0 == (1 : Int))
            else
             k0 Bool.false
           else
            k0 Bool.false
          else
           k0 Bool.false))))
abbrev YF27 : Type := ((Bool) → Option Ans) → Option Ans
theorem F27_eqg (fuel : Nat) (f84 : YF84) (f85 : YF85)  (k : Ev.Cont) : evalFn tab (Gg27 f84 f85) (J27 fuel) kp27 fuel Try.f27 [] [] k = (fun  (k0 : (Bool) → Option Ans) =>
  (f84 ((3 : Int)) ((2 : Int)) ((-1 : Int)) (Bool.false) ((0 : Int))
    (fun (y2_0, y2_1) =>
      (f85 ((3 : Int)) ((-2 : Int)) ((0 : Int)) (Bool.false) ((0 : Int)) ((4 : Int)) ((1 : Int)) ([(1 : Int), (0 : Int), (1 : Int), (1 : Int)]) ((2 : Int)) ((0 : Int))
        (fun (y6_0, y6_1) =>
          bif y2_1 == (0 : Int) then
           bif y2_0 == (33 : Int) then
            bif y6_1 == (0 : Int) then
             k0 (y6_0 == (1 : Int))
            else
             k0 Bool.false
           else
            k0 Bool.false
          else
           k0 Bool.false))))) (fun r => match r with | r0 => k (.c (.bool r0), [])) := by
  kernel_rfl
theorem F27_eq (fuel : Nat)  (k : Ev.Cont) : evalFn tab (G27 fuel) (J27 fuel) kp27 fuel Try.f27 [] [] k = F_law07_Sane fuel  (fun r => match r with | r0 => k (.c (.bool r0), [])) :=
  F27_eqg fuel (F_generic_Size fuel) (F_generic_Context fuel)  k
theorem hG27 (fuel : Nat) : GOK Try.prog (G27 fuel) :=
  gok_cons ⟨ok84 fuel, enters_of Try.func84 (by kernel_rfl) rfl⟩ <|
  gok_cons ⟨ok85 fuel, enters_of Try.func85 (by kernel_rfl) rfl⟩ <|
  gok_nil
theorem fok27 (fuel : Nat) : FnOK Try.prog 27 (evalFn tab (G27 fuel) (J27 fuel) kp27 fuel Try.f27) :=
  fn_ok tab_ok (hG27 fuel) mixed Try.func27 (c := (Try.f27.body).getD .skip) rfl (fun q hq => by
    rw [(by kernel_rfl : obl (J27 fuel) ((Try.f27.body).getD .skip) = [])] at hq
    cases hq)
noncomputable def mt27 : List Ev.SV → List Ev.Ob → Bool := fun args objs => match args, objs with
  | [], [] => true
  | _, _ => false
noncomputable def spg27 (F : YF27) : Ev.Spec := fun args objs k => match args, objs with
  | [], [] => bif true then F  (fun r => match r with | r0 => k (.c (.bool r0), [])) else none
  | _, _ => none
noncomputable def spec27 (fuel : Nat) : Ev.Spec := spg27 (F_law07_Sane fuel)
theorem ok27 (fuel : Nat) : FnOK Try.prog 27 (spec27 fuel) := by
  intro args objs kk r h
  unfold spec27 spg27 at h
  split at h
  · skip
    obtain ⟨hb, h⟩ := cond_some' h
    simp only [Bool.and_eq_true, Nat.beq_eq, decide_eq_true_eq] at hb
    clear hb
    exact fok27 fuel _ _ kk r ((F27_eq fuel kk).trans h)
  · cases h
end Go.Proofs.Ytihfgpfofmjbaaa

set_option linter.unusedVariables false
set_option linter.unusedSimpArgs false
set_option maxRecDepth 100000
set_option maxHeartbeats 2000000
namespace Go.Proofs.Ytihfgpfofmjbaaa
open Go Ev
def kp6 (i : Nat) : Option (List Nat) := Ev.look i [(200001, [1])]
noncomputable def Gg6 (f27 : YF27) (f32_4be : YF32_4be) (f33_f4f : YF33_f4f) (f : Nat) : Option Ev.Spec := Ev.look f [(27, spg27 f27), (32, spg32_4be f32_4be), (33, spg33_f4f f33_f4f)]
noncomputable def G6 (fuel : Nat) : Nat → Option Ev.Spec := Gg6 (F_law07_Sane fuel) (F_generic_Get_4be fuel) (F_generic_Put_f4f fuel)
noncomputable def J6 (fuel : Nat) (i : Nat) : Option Ev.Blk := Ev.look i []
noncomputable def F_law07_GenericNil (fuel : Nat) (x0 : Int) (x1 : Int) (x2 : Int) (x3 : Int) (x4 : Bool) (x5 : Int) (x6 : Int) (x7 : Int) (x8 : (List Int)) (x9 : Int) (x10 : Int) (k0 : (Bool) → Option Ans) : Option Ans :=
  both (bif Decidable.decide ((↑x8.length : Int) > (20000 : Int)) then
     (F_law07_Sane fuel
       (fun y5 =>
         k0 y5))
    else
     (F_generic_Get_4be fuel (x0) (x1) (x2) (x3) (x4) (x5) (x9) (x10) (x6) (x7) (x8)
       (fun (y5_0, y5_1, y5_2, y5_3) =>
         bif y5_2 == (7 : Int) then
          (F_generic_Put_f4f fuel (x0) (x1) (x2) (x3) (x4) (x5) (x6) (x7) (x8) (x6) (x7) (x8)
            (fun y10 =>
              bif y10 == (7 : Int) then
               (F_law07_Sane fuel
                 (fun y15 =>
                   k0 y15))
              else
               k0 Bool.false))
         else
          k0 Bool.false)))
   (bif Decidable.decide ((↑x8.length : Int) > (20000 : Int)) then
     (F_law07_Sane fuel
       (fun y5 =>
         k0 y5))
    else
     (F_generic_Get_4be fuel (x0) (x1) (x2) (x3) (x4) (x5) (x9) (x10) (x6) (x7) (x8)
       (fun (y5_0, y5_1, y5_2, y5_3) =>
         bif y5_2 == (7 : Int) then
          (F_generic_Put_f4f fuel (x0) (x1) (x2) (x3) (x4) (x5) (x6) (x7) (x8) (x6) (x7) (x8)
            (fun y10 =>
              bif y10 == (7 : Int) then
               (F_law07_Sane fuel
                 (fun y15 =>
                   k0 y15))
              else
               k0 Bool.false))
         else
          k0 Bool.false)))
abbrev YF6 : Type := (Int) → (Int) → (Int) → (Int) → (Bool) → (Int) → (Int) → (Int) → ((List Int)) → (Int) → (Int) → ((Bool) → Option Ans) → Option Ans
theorem F6_eqg (fuel : Nat) (f27 : YF27) (f32_4be : YF32_4be) (f33_f4f : YF33_f4f) (x0 : Int) (x1 : Int) (x2 : Int) (x3 : Int) (x4 : Bool) (x5 : Int) (x6 : Int) (x7 : Int) (x8 : (List Int)) (x9 : Int) (x10 : Int) (k : Ev.Cont) : evalFn tab (Gg6 f27 f32_4be f33_f4f) (J6 fuel) kp6 fuel Try.f6 [.agg [.int .i64 x0, .int .i64 x1, .int .i64 x2, .int .i64 x3, .bool x4, .int .i64 x5, .int .i64 x6, .int .i64 x7, .sl (.int .u8) x8, .int .i64 x9, .int .i64 x10]] [] k = (fun  (k0 : (Bool) → Option Ans) =>
  both (bif Decidable.decide ((↑x8.length : Int) > (20000 : Int)) then
     (f27
       (fun y5 =>
         k0 y5))
    else
     (f32_4be (x0) (x1) (x2) (x3) (x4) (x5) (x9) (x10) (x6) (x7) (x8)
       (fun (y5_0, y5_1, y5_2, y5_3) =>
         bif y5_2 == (7 : Int) then
          (f33_f4f (x0) (x1) (x2) (x3) (x4) (x5) (x6) (x7) (x8) (x6) (x7) (x8)
            (fun y10 =>
              bif y10 == (7 : Int) then
               (f27
                 (fun y15 =>
                   k0 y15))
              else
               k0 Bool.false))
         else
          k0 Bool.false)))
   (bif Decidable.decide ((↑x8.length : Int) > (20000 : Int)) then
     (f27
       (fun y5 =>
         k0 y5))
    else
     (f32_4be (x0) (x1) (x2) (x3) (x4) (x5) (x9) (x10) (x6) (x7) (x8)
       (fun (y5_0, y5_1, y5_2, y5_3) =>
         bif y5_2 == (7 : Int) then
          (f33_f4f (x0) (x1) (x2) (x3) (x4) (x5) (x6) (x7) (x8) (x6) (x7) (x8)
            (fun y10 =>
              bif y10 == (7 : Int) then
               (f27
                 (fun y15 =>
                   k0 y15))
              else
               k0 Bool.false))
         else
          k0 Bool.false)))) (fun r => match r with | r0 => k (.c (.bool r0), [])) := by
  kernel_rfl
theorem F6_eq (fuel : Nat) (x0 : Int) (x1 : Int) (x2 : Int) (x3 : Int) (x4 : Bool) (x5 : Int) (x6 : Int) (x7 : Int) (x8 : (List Int)) (x9 : Int) (x10 : Int) (k : Ev.Cont) : evalFn tab (G6 fuel) (J6 fuel) kp6 fuel Try.f6 [.agg [.int .i64 x0, .int .i64 x1, .int .i64 x2, .int .i64 x3, .bool x4, .int .i64 x5, .int .i64 x6, .int .i64 x7, .sl (.int .u8) x8, .int .i64 x9, .int .i64 x10]] [] k = F_law07_GenericNil fuel x0 x1 x2 x3 x4 x5 x6 x7 x8 x9 x10 (fun r => match r with | r0 => k (.c (.bool r0), [])) :=
  F6_eqg fuel (F_law07_Sane fuel) (F_generic_Get_4be fuel) (F_generic_Put_f4f fuel) x0 x1 x2 x3 x4 x5 x6 x7 x8 x9 x10 k
theorem hG6 (fuel : Nat) : GOK Try.prog (G6 fuel) :=
  gok_cons ⟨ok27 fuel, enters_of Try.func27 (by kernel_rfl) rfl⟩ <|
  gok_cons ⟨ok32_4be fuel, enters_of Try.func32 (by kernel_rfl) rfl⟩ <|
  gok_cons ⟨ok33_f4f fuel, enters_of Try.func33 (by kernel_rfl) rfl⟩ <|
  gok_nil
theorem fok6 (fuel : Nat) : FnOK Try.prog 6 (evalFn tab (G6 fuel) (J6 fuel) kp6 fuel Try.f6) :=
  fn_ok tab_ok (hG6 fuel) mixed Try.func6 (c := (Try.f6.body).getD .skip) rfl (fun q hq => by
    rw [(by kernel_rfl : obl (J6 fuel) ((Try.f6.body).getD .skip) = [])] at hq
    cases hq)
noncomputable def mt6 : List Ev.SV → List Ev.Ob → Bool := fun args objs => match args, objs with
  | [.agg [.int .i64 _, .int .i64 _, .int .i64 _, .int .i64 _, .bool _, .int .i64 _, .int .i64 _, .int .i64 _, .sl (.int .u8) _, .int .i64 _, .int .i64 _]], [] => true
  | _, _ => false
noncomputable def spg6 (F : YF6) : Ev.Spec := fun args objs k => match args, objs with
  | [.agg [.int .i64 x0, .int .i64 x1, .int .i64 x2, .int .i64 x3, .bool x4, .int .i64 x5, .int .i64 x6, .int .i64 x7, .sl (.int .u8) x8, .int .i64 x9, .int .i64 x10]], [] => bif true then F x0 x1 x2 x3 x4 x5 x6 x7 x8 x9 x10 (fun r => match r with | r0 => k (.c (.bool r0), [])) else none
  | _, _ => none
noncomputable def spec6 (fuel : Nat) : Ev.Spec := spg6 (F_law07_GenericNil fuel)
theorem ok6 (fuel : Nat) : FnOK Try.prog 6 (spec6 fuel) := by
  intro args objs kk r h
  unfold spec6 spg6 at h
  split at h
  · skip
    obtain ⟨hb, h⟩ := cond_some' h
    simp only [Bool.and_eq_true, Nat.beq_eq, decide_eq_true_eq] at hb
    clear hb
    exact fok6 fuel _ _ kk r ((F6_eq fuel _ _ _ _ _ _ _ _ _ _ _ kk).trans h)
  · cases h
end Go.Proofs.Ytihfgpfofmjbaaa

set_option linter.unusedVariables false
set_option linter.unusedSimpArgs false
set_option maxRecDepth 100000
set_option maxHeartbeats 2000000
namespace Go.Proofs.Ytihfgpfofmjbaaa
open Go Ev
def kp112 (i : Nat) : Option (List Nat) := Ev.look i []
noncomputable def Gg112 (f : Nat) : Option Ev.Spec := Ev.look f []
noncomputable def G112 (fuel : Nat) : Nat → Option Ev.Spec := Gg112
noncomputable def J112 (fuel : Nat) (i : Nat) : Option Ev.Blk := Ev.look i []
noncomputable def F_ref05_Sides (fuel : Nat) (x0 : Int) (x1 : Int) (k0 : (Bool) → Option Ans) : Option Ans :=
  bif Decidable.decide (x0 ≥ (0 : Int)) then
   bif Decidable.decide (x1 ≥ (0 : Int)) then
    bif Decidable.decide (x0 ≤ (200 : Int)) then
     bif Decidable.decide (x1 ≤ (200 : Int)) then
      k0 (Decidable.decide (Go.IntKind.i64.wrap (x0 * x1) ≤ (8192 : Int)))
     else
      k0 Bool.false
    else
     k0 Bool.false
   else
    k0 Bool.false
  else
   k0 Bool.false
abbrev YF112 : Type := (Int) → (Int) → ((Bool) → Option Ans) → Option Ans
theorem F112_eq (fuel : Nat) (x0 : Int) (x1 : Int) (k : Ev.Cont) : evalFn tab (G112 fuel) (J112 fuel) kp112 fuel Try.f112 [.c (.int .i64 x0), .c (.int .i64 x1)] [] k = F_ref05_Sides fuel x0 x1 (fun r => match r with | r0 => k (.c (.bool r0), [])) := by
  kernel_rfl
theorem hG112 (fuel : Nat) : GOK Try.prog (G112 fuel) :=
  gok_nil
theorem fok112 (fuel : Nat) : FnOK Try.prog 112 (evalFn tab (G112 fuel) (J112 fuel) kp112 fuel Try.f112) :=
  fn_ok tab_ok (hG112 fuel) mixed Try.func112 (c := (Try.f112.body).getD .skip) rfl (fun q hq => by
    rw [(by kernel_rfl : obl (J112 fuel) ((Try.f112.body).getD .skip) = [])] at hq
    cases hq)
noncomputable def mt112 : List Ev.SV → List Ev.Ob → Bool := fun args objs => match args, objs with
  | [.c (.int .i64 _), .c (.int .i64 _)], [] => true
  | _, _ => false
noncomputable def spg112 (F : YF112) : Ev.Spec := fun args objs k => match args, objs with
  | [.c (.int .i64 x0), .c (.int .i64 x1)], [] => bif true then F x0 x1 (fun r => match r with | r0 => k (.c (.bool r0), [])) else none
  | _, _ => none
noncomputable def spec112 (fuel : Nat) : Ev.Spec := spg112 (F_ref05_Sides fuel)
theorem ok112 (fuel : Nat) : FnOK Try.prog 112 (spec112 fuel) := by
  intro args objs kk r h
  unfold spec112 spg112 at h
  split at h
  · skip
    obtain ⟨hb, h⟩ := cond_some' h
    simp only [Bool.and_eq_true, Nat.beq_eq, decide_eq_true_eq] at hb
    clear hb
    exact fok112 fuel _ _ kk r ((F112_eq fuel _ _ kk).trans h)
  · cases h
end Go.Proofs.Ytihfgpfofmjbaaa

set_option linter.unusedVariables false
set_option linter.unusedSimpArgs false
set_option maxRecDepth 100000
set_option maxHeartbeats 2000000
namespace Go.Proofs.Ytihfgpfofmjbaaa
open Go Ev
def kp86 (i : Nat) : Option (List Nat) := Ev.look i [(4, [1, 3]), (100000, []), (400000, [2])]
noncomputable def Gg86 (f112 : YF112) (f : Nat) : Option Ev.Spec := Ev.look f [(112, spg112 f112)]
noncomputable def G86 (fuel : Nat) : Nat → Option Ev.Spec := Gg86 (F_ref05_Sides fuel)
noncomputable def S_ref05_Valid_0 (fuel : Nat) (v : Int × Int × Int × (List Int)) (c : (Int × Int × Int × (List Int)) → Option Ans) (B : (Bool → Option Ans) × (Unit → Option Ans)) : Option Ans := match v, B with
  | (x0, x1, x2, x3), (ret, b) =>
   bif Decidable.decide (x0 < (↑x3.length : Int)) then
      bif Decidable.decide ((0 : Int) ≤ x0 ∧ x0 < (↑x3.length : Int)) then
      bif Decidable.decide (x3.getD x0.toNat (0 : Int) > (1 : Int)) then
        ret Bool.false
       else
        c (Go.IntKind.i64.wrap (x0 + (1 : Int)), x1, x2, x3)
      else none
     else
      b ()
noncomputable def L_ref05_Valid_0 (fuel : Nat) (v : Int × Int × Int × (List Int)) (ret : (Bool → Option Ans)) (b : (Unit → Option Ans)) : Option Ans := iter (S_ref05_Valid_0 fuel) fuel v (ret, b)
noncomputable def J86_0 (fuel : Nat) (i : Nat) : Option Ev.Blk := Ev.look i []
noncomputable def T86_0 (v : Int × Int × Int × (List Int)) : Ev.St := match v with | (x0, x1, x2, x3) => ⟨[(1, .c (.ptr 0 0)), (3, .c (.int .i64 x0))], [(0, .cells 39 [.int .i64 x1, .int .i64 x2, .sl (.int .u8) x3])], 1, 0⟩
noncomputable def E86_0 (K : Ev.Ex → Ev.St → Option Ans) : (Bool → Option Ans) × (Unit → Option Ans) := ((fun v => match v with | x0 => K .ret ⟨[(2, .c (.bool x0))], [], 0, 0⟩), (fun v => match v with | () => K .normal ⟨[], [], 0, 0⟩))
theorem S86_0_okg (fuel : Nat) (f112 : YF112) (R : Ev.St → Option Ans) (K : Ev.Ex → Ev.St → Option Ans) (x0 : Int) (x1 : Int) (x2 : Int) (x3 : (List Int)) : evalCode tab (Gg86 f112) (J86_0 fuel) kp86 fuel (bodyOf 0 Try.f86) (T86_0 (x0, x1, x2, x3)) (lc kp86 4 0 R K) = (fun (c : (Int × Int × Int × (List Int)) → Option Ans) (B : (Bool → Option Ans) × (Unit → Option Ans)) => match B with
  | (ret, b) =>
   bif Decidable.decide (x0 < (↑x3.length : Int)) then
      bif Decidable.decide ((0 : Int) ≤ x0 ∧ x0 < (↑x3.length : Int)) then
      bif Decidable.decide (x3.getD x0.toNat (0 : Int) > (1 : Int)) then
        ret Bool.false
       else
        c (Go.IntKind.i64.wrap (x0 + (1 : Int)), x1, x2, x3)
      else none
     else
      b ()) (fun v => R (T86_0 v)) (E86_0 K) := by
  kernel_rfl
theorem S86_0_ok (fuel : Nat) (R : Ev.St → Option Ans) (K : Ev.Ex → Ev.St → Option Ans) (x0 : Int) (x1 : Int) (x2 : Int) (x3 : (List Int)) : evalCode tab (G86 fuel) (J86_0 fuel) kp86 fuel (bodyOf 0 Try.f86) (T86_0 (x0, x1, x2, x3)) (lc kp86 4 0 R K) = S_ref05_Valid_0 fuel (x0, x1, x2, x3) (fun v => R (T86_0 v)) (E86_0 K) :=
  S86_0_okg fuel (F_ref05_Sides fuel) R K x0 x1 x2 x3
noncomputable def B86_0 (fuel : Nat) : Ev.Blk := fun st K => match canonO (kp86 4) st with
  | some s => (match s with
    | ⟨[(q0, .c (.ptr q1 q2)), (q3, .c (.int .i64 x0))], [(q4, .cells q5 [.int .i64 x1, .int .i64 x2, .sl (.int .u8) x3])], q6, q7⟩ => bif Nat.beq q0 1 && Nat.beq q1 0 && Nat.beq q2 0 && Nat.beq q3 3 && Nat.beq q4 0 && Nat.beq q5 39 && Nat.beq q6 1 && Nat.beq q7 0 then iter (S_ref05_Valid_0 fuel) fuel (x0, x1, x2, x3) (E86_0 K) else none
    | _ => none)
  | none => none
theorem B86_0_ok (fuel : Nat) (st : Ev.St) (K : Ev.Ex → Ev.St → Option Ans) (r : Ans) (h : B86_0 fuel st K = some r) : evalCode tab (G86 fuel) (J86_0 fuel) kp86 fuel (.block 0 (.loop (bodyOf 0 Try.f86))) st K = some r := by
  unfold B86_0 at h
  split at h
  · rename_i s hs
    split at h
    · skip
      obtain ⟨hb, h⟩ := cond_some' h
      simp only [Bool.and_eq_true, Nat.beq_eq, decide_eq_true_eq] at hb
      obtain ⟨⟨⟨⟨⟨⟨⟨rfl, rfl⟩, rfl⟩, rfl⟩, rfl⟩, rfl⟩, rfl⟩, rfl⟩ := hb
      exact blk_loop (S := T86_0) (ks := E86_0) (step := S_ref05_Valid_0 fuel) (v := (_, _, _, _)) (by kernel_rfl) (by kernel_rfl) (fun R K v => by obtain ⟨x0, x1, x2, x3⟩ := v; exact S86_0_ok fuel R K x0 x1 x2 x3) hs h
    · cases h
  · cases h
noncomputable def J86 (fuel : Nat) (i : Nat) : Option Ev.Blk := Ev.look i [(100000, B86_0 fuel)]
noncomputable def F_ref05_Valid (fuel : Nat) (x0 : Int) (x1 : Int) (x2 : (List Int)) (k0 : (Bool) → Option Ans) : Option Ans :=
  (F_ref05_Sides fuel (x0) (x1)
    (fun y2 =>
      bif !y2 then
       k0 Bool.false
      else
       bif (↑x2.length : Int) != Go.IntKind.i64.wrap (x0 * x1) then
        k0 Bool.false
       else
        (L_ref05_Valid_0 fuel ((0 : Int), x0, x1, x2)
          (fun ret0_0 =>
            k0 ret0_0)
          (fun () =>
            k0 Bool.true))))
abbrev YF86 : Type := (Int) → (Int) → ((List Int)) → ((Bool) → Option Ans) → Option Ans
theorem F86_eqg (fuel : Nat) (f112 : YF112) (x0 : Int) (x1 : Int) (x2 : (List Int)) (k : Ev.Cont) : evalFn tab (Gg86 f112) (J86 fuel) kp86 fuel Try.f86 [.agg [.int .i64 x0, .int .i64 x1, .sl (.int .u8) x2]] [] k = (fun  (k0 : (Bool) → Option Ans) =>
  (f112 (x0) (x1)
    (fun y2 =>
      bif !y2 then
       k0 Bool.false
      else
       bif (↑x2.length : Int) != Go.IntKind.i64.wrap (x0 * x1) then
        k0 Bool.false
       else
        (L_ref05_Valid_0 fuel ((0 : Int), x0, x1, x2)
          (fun ret0_0 =>
            k0 ret0_0)
          (fun () =>
            k0 Bool.true))))) (fun r => match r with | r0 => k (.c (.bool r0), [])) := by
  kernel_rfl
theorem F86_eq (fuel : Nat) (x0 : Int) (x1 : Int) (x2 : (List Int)) (k : Ev.Cont) : evalFn tab (G86 fuel) (J86 fuel) kp86 fuel Try.f86 [.agg [.int .i64 x0, .int .i64 x1, .sl (.int .u8) x2]] [] k = F_ref05_Valid fuel x0 x1 x2 (fun r => match r with | r0 => k (.c (.bool r0), [])) :=
  F86_eqg fuel (F_ref05_Sides fuel) x0 x1 x2 k
theorem hG86 (fuel : Nat) : GOK Try.prog (G86 fuel) :=
  gok_cons ⟨ok112 fuel, enters_of Try.func112 (by kernel_rfl) rfl⟩ <|
  gok_nil
theorem B86_0_blk (fuel : Nat) : BlkOK Try.prog Try.f86.ntmps (.block 0 (.loop (bodyOf 0 Try.f86))) (B86_0 fuel) :=
  blk_of (blk_of_code tab_ok (hG86 fuel) mixed (J := J86_0 fuel) (kp := kp86) (fuel := fuel) (by kernel_rfl) (fun q hq => by
    rw [(by kernel_rfl : obl (J86_0 fuel) (.block 0 (.loop (bodyOf 0 Try.f86))) = [])] at hq
    cases hq)) (B86_0_ok fuel)
theorem fok86 (fuel : Nat) : FnOK Try.prog 86 (evalFn tab (G86 fuel) (J86 fuel) kp86 fuel Try.f86) :=
  fn_ok tab_ok (hG86 fuel) mixed Try.func86 (c := (Try.f86.body).getD .skip) rfl (fun q hq => by
    rw [(by kernel_rfl : obl (J86 fuel) ((Try.f86.body).getD .skip) = [(.block 0 (.loop (bodyOf 0 Try.f86)), B86_0 fuel)])] at hq
    simp only [List.mem_cons, List.not_mem_nil, or_false] at hq
    subst hq
    · exact B86_0_blk fuel)
noncomputable def mt86 : List Ev.SV → List Ev.Ob → Bool := fun args objs => match args, objs with
  | [.agg [.int .i64 _, .int .i64 _, .sl (.int .u8) _]], [] => true
  | _, _ => false
noncomputable def spg86 (F : YF86) : Ev.Spec := fun args objs k => match args, objs with
  | [.agg [.int .i64 x0, .int .i64 x1, .sl (.int .u8) x2]], [] => bif true then F x0 x1 x2 (fun r => match r with | r0 => k (.c (.bool r0), [])) else none
  | _, _ => none
noncomputable def spec86 (fuel : Nat) : Ev.Spec := spg86 (F_ref05_Valid fuel)
theorem ok86 (fuel : Nat) : FnOK Try.prog 86 (spec86 fuel) := by
  intro args objs kk r h
  unfold spec86 spg86 at h
  split at h
  · skip
    obtain ⟨hb, h⟩ := cond_some' h
    simp only [Bool.and_eq_true, Nat.beq_eq, decide_eq_true_eq] at hb
    clear hb
    exact fok86 fuel _ _ kk r ((F86_eq fuel _ _ _ kk).trans h)
  · cases h
end Go.Proofs.Ytihfgpfofmjbaaa

set_option linter.unusedVariables false
set_option linter.unusedSimpArgs false
set_option maxRecDepth 100000
set_option maxHeartbeats 2000000
namespace Go.Proofs.Ytihfgpfofmjbaaa
open Go Ev
def kp156 (i : Nat) : Option (List Nat) := Ev.look i []
noncomputable def Gg156 (f : Nat) : Option Ev.Spec := Ev.look f []
noncomputable def G156 (fuel : Nat) : Nat → Option Ev.Spec := Gg156
noncomputable def J156 (fuel : Nat) (i : Nat) : Option Ev.Blk := Ev.look i []
noncomputable def F_ref05_inside (fuel : Nat) (x0 : Int) (x1 : Int) (x2 : (List Int)) (x3 : Int) (x4 : Int) (k0 : (Bool) → Option Ans) : Option Ans :=
  bif Decidable.decide (x3 ≥ (0 : Int)) then
   bif Decidable.decide (x4 ≥ (0 : Int)) then
    bif Decidable.decide (x3 < x0) then
     k0 (Decidable.decide (x4 < x1))
    else
     k0 Bool.false
   else
    k0 Bool.false
  else
   k0 Bool.false
abbrev YF156 : Type := (Int) → (Int) → ((List Int)) → (Int) → (Int) → ((Bool) → Option Ans) → Option Ans
theorem F156_eq (fuel : Nat) (x0 : Int) (x1 : Int) (x2 : (List Int)) (x3 : Int) (x4 : Int) (k : Ev.Cont) : evalFn tab (G156 fuel) (J156 fuel) kp156 fuel Try.f156 [.agg [.int .i64 x0, .int .i64 x1, .sl (.int .u8) x2], .c (.int .i64 x3), .c (.int .i64 x4)] [] k = F_ref05_inside fuel x0 x1 x2 x3 x4 (fun r => match r with | r0 => k (.c (.bool r0), [])) := by
  kernel_rfl
theorem hG156 (fuel : Nat) : GOK Try.prog (G156 fuel) :=
  gok_nil
theorem fok156 (fuel : Nat) : FnOK Try.prog 156 (evalFn tab (G156 fuel) (J156 fuel) kp156 fuel Try.f156) :=
  fn_ok tab_ok (hG156 fuel) mixed Try.func156 (c := (Try.f156.body).getD .skip) rfl (fun q hq => by
    rw [(by kernel_rfl : obl (J156 fuel) ((Try.f156.body).getD .skip) = [])] at hq
    cases hq)
noncomputable def mt156 : List Ev.SV → List Ev.Ob → Bool := fun args objs => match args, objs with
  | [.agg [.int .i64 _, .int .i64 _, .sl (.int .u8) _], .c (.int .i64 _), .c (.int .i64 _)], [] => true
  | _, _ => false
noncomputable def spg156 (F : YF156) : Ev.Spec := fun args objs k => match args, objs with
  | [.agg [.int .i64 x0, .int .i64 x1, .sl (.int .u8) x2], .c (.int .i64 x3), .c (.int .i64 x4)], [] => bif true then F x0 x1 x2 x3 x4 (fun r => match r with | r0 => k (.c (.bool r0), [])) else none
  | _, _ => none
noncomputable def spec156 (fuel : Nat) : Ev.Spec := spg156 (F_ref05_inside fuel)
theorem ok156 (fuel : Nat) : FnOK Try.prog 156 (spec156 fuel) := by
  intro args objs kk r h
  unfold spec156 spg156 at h
  split at h
  · skip
    obtain ⟨hb, h⟩ := cond_some' h
    simp only [Bool.and_eq_true, Nat.beq_eq, decide_eq_true_eq] at hb
    clear hb
    exact fok156 fuel _ _ kk r ((F156_eq fuel _ _ _ _ _ kk).trans h)
  · cases h
end Go.Proofs.Ytihfgpfofmjbaaa

set_option linter.unusedVariables false
set_option linter.unusedSimpArgs false
set_option maxRecDepth 100000
set_option maxHeartbeats 2000000
namespace Go.Proofs.Ytihfgpfofmjbaaa
open Go Ev
def kp125 (i : Nat) : Option (List Nat) := Ev.look i []
noncomputable def Gg125 (f156 : YF156) (f : Nat) : Option Ev.Spec := Ev.look f [(156, spg156 f156)]
noncomputable def G125 (fuel : Nat) : Nat → Option Ev.Spec := Gg125 (F_ref05_inside fuel)
noncomputable def J125 (fuel : Nat) (i : Nat) : Option Ev.Blk := Ev.look i []
noncomputable def F_ref05_At (fuel : Nat) (x0 : Int) (x1 : Int) (x2 : (List Int)) (x3 : Int) (x4 : Int) (k0 : (Int) → Option Ans) : Option Ans :=
  (F_ref05_inside fuel (x0) (x1) (x2) (x3) (x4)
    (fun y2 =>
      bif !y2 then
       k0 ((0 : Int))
      else
       bif Decidable.decide ((0 : Int) ≤ Go.IntKind.i64.wrap (Go.IntKind.i64.wrap (x4 * x0) + x3) ∧ Go.IntKind.i64.wrap (Go.IntKind.i64.wrap (x4 * x0) + x3) < (↑x2.length : Int)) then
       k0 (Go.IntKind.i64.wrap (x2.getD (Go.IntKind.i64.wrap (Go.IntKind.i64.wrap (x4 * x0) + x3)).toNat (0 : Int)))
       else none))
abbrev YF125 : Type := (Int) → (Int) → ((List Int)) → (Int) → (Int) → ((Int) → Option Ans) → Option Ans
theorem F125_eqg (fuel : Nat) (f156 : YF156) (x0 : Int) (x1 : Int) (x2 : (List Int)) (x3 : Int) (x4 : Int) (k : Ev.Cont) : evalFn tab (Gg125 f156) (J125 fuel) kp125 fuel Try.f125 [.agg [.int .i64 x0, .int .i64 x1, .sl (.int .u8) x2], .c (.int .i64 x3), .c (.int .i64 x4)] [] k = (fun  (k0 : (Int) → Option Ans) =>
  (f156 (x0) (x1) (x2) (x3) (x4)
    (fun y2 =>
      bif !y2 then
       k0 ((0 : Int))
      else
       bif Decidable.decide ((0 : Int) ≤ Go.IntKind.i64.wrap (Go.IntKind.i64.wrap (x4 * x0) + x3) ∧ Go.IntKind.i64.wrap (Go.IntKind.i64.wrap (x4 * x0) + x3) < (↑x2.length : Int)) then
       k0 (Go.IntKind.i64.wrap (x2.getD (Go.IntKind.i64.wrap (Go.IntKind.i64.wrap (x4 * x0) + x3)).toNat (0 : Int)))
       else none))) (fun r => match r with | r0 => k (.c (.int .i64 r0), [])) := by
  kernel_rfl
theorem F125_eq (fuel : Nat) (x0 : Int) (x1 : Int) (x2 : (List Int)) (x3 : Int) (x4 : Int) (k : Ev.Cont) : evalFn tab (G125 fuel) (J125 fuel) kp125 fuel Try.f125 [.agg [.int .i64 x0, .int .i64 x1, .sl (.int .u8) x2], .c (.int .i64 x3), .c (.int .i64 x4)] [] k = F_ref05_At fuel x0 x1 x2 x3 x4 (fun r => match r with | r0 => k (.c (.int .i64 r0), [])) :=
  F125_eqg fuel (F_ref05_inside fuel) x0 x1 x2 x3 x4 k
theorem hG125 (fuel : Nat) : GOK Try.prog (G125 fuel) :=
  gok_cons ⟨ok156 fuel, enters_of Try.func156 (by kernel_rfl) rfl⟩ <|
  gok_nil
theorem fok125 (fuel : Nat) : FnOK Try.prog 125 (evalFn tab (G125 fuel) (J125 fuel) kp125 fuel Try.f125) :=
  fn_ok tab_ok (hG125 fuel) mixed Try.func125 (c := (Try.f125.body).getD .skip) rfl (fun q hq => by
    rw [(by kernel_rfl : obl (J125 fuel) ((Try.f125.body).getD .skip) = [])] at hq
    cases hq)
noncomputable def mt125 : List Ev.SV → List Ev.Ob → Bool := fun args objs => match args, objs with
  | [.agg [.int .i64 _, .int .i64 _, .sl (.int .u8) _], .c (.int .i64 _), .c (.int .i64 _)], [] => true
  | _, _ => false
noncomputable def spg125 (F : YF125) : Ev.Spec := fun args objs k => match args, objs with
  | [.agg [.int .i64 x0, .int .i64 x1, .sl (.int .u8) x2], .c (.int .i64 x3), .c (.int .i64 x4)], [] => bif true then F x0 x1 x2 x3 x4 (fun r => match r with | r0 => k (.c (.int .i64 r0), [])) else none
  | _, _ => none
noncomputable def spec125 (fuel : Nat) : Ev.Spec := spg125 (F_ref05_At fuel)
theorem ok125 (fuel : Nat) : FnOK Try.prog 125 (spec125 fuel) := by
  intro args objs kk r h
  unfold spec125 spg125 at h
  split at h
  · skip
    obtain ⟨hb, h⟩ := cond_some' h
    simp only [Bool.and_eq_true, Nat.beq_eq, decide_eq_true_eq] at hb
    clear hb
    exact fok125 fuel _ _ kk r ((F125_eq fuel _ _ _ _ _ kk).trans h)
  · cases h
end Go.Proofs.Ytihfgpfofmjbaaa

set_option linter.unusedVariables false
set_option linter.unusedSimpArgs false
set_option maxRecDepth 100000
set_option maxHeartbeats 2000000
namespace Go.Proofs.Ytihfgpfofmjbaaa
open Go Ev
def kp109 (i : Nat) : Option (List Nat) := Ev.look i []
noncomputable def Gg109 (f : Nat) : Option Ev.Spec := Ev.look f []
noncomputable def G109 (fuel : Nat) : Nat → Option Ev.Spec := Gg109
noncomputable def J109 (fuel : Nat) (i : Nat) : Option Ev.Blk := Ev.look i []
noncomputable def F_ref07_Valid (fuel : Nat) (x0 : Int) (x1 : Int) (x2 : Int) (x3 : Bool) (x4 : Int) (k0 : (Bool) → Option Ans) : Option Ans :=
  bif Decidable.decide (x0 < (0 : Int)) then
   k0 Bool.false
  else
   bif Decidable.decide (x0 > (3 : Int)) then
    k0 Bool.false
   else
    bif Decidable.decide (x4 < (0 : Int)) then
     k0 Bool.false
    else
     bif Decidable.decide (x4 > (1 : Int)) then
      k0 Bool.false
     else
      bif Decidable.decide (x1 < (-8 : Int)) then
       k0 Bool.false
      else
       bif Decidable.decide (x1 > (8 : Int)) then
        k0 Bool.false
       else
        bif Decidable.decide (x2 < (-8 : Int)) then
         k0 Bool.false
        else
         bif Decidable.decide (x2 > (0 : Int)) then
          k0 Bool.false
         else
          bif Decidable.decide (x2 < (0 : Int)) then
           k0 Bool.true
          else
           k0 (Decidable.decide (x1 < (0 : Int)))
abbrev YF109 : Type := (Int) → (Int) → (Int) → (Bool) → (Int) → ((Bool) → Option Ans) → Option Ans
theorem F109_eq (fuel : Nat) (x0 : Int) (x1 : Int) (x2 : Int) (x3 : Bool) (x4 : Int) (k : Ev.Cont) : evalFn tab (G109 fuel) (J109 fuel) kp109 fuel Try.f109 [.agg [.int .i64 x0, .int .i64 x1, .int .i64 x2, .bool x3, .int .i64 x4]] [] k = F_ref07_Valid fuel x0 x1 x2 x3 x4 (fun r => match r with | r0 => k (.c (.bool r0), [])) := by
  kernel_rfl
theorem hG109 (fuel : Nat) : GOK Try.prog (G109 fuel) :=
  gok_nil
theorem fok109 (fuel : Nat) : FnOK Try.prog 109 (evalFn tab (G109 fuel) (J109 fuel) kp109 fuel Try.f109) :=
  fn_ok tab_ok (hG109 fuel) mixed Try.func109 (c := (Try.f109.body).getD .skip) rfl (fun q hq => by
    rw [(by kernel_rfl : obl (J109 fuel) ((Try.f109.body).getD .skip) = [])] at hq
    cases hq)
noncomputable def mt109 : List Ev.SV → List Ev.Ob → Bool := fun args objs => match args, objs with
  | [.agg [.int .i64 _, .int .i64 _, .int .i64 _, .bool _, .int .i64 _]], [] => true
  | _, _ => false
noncomputable def spg109 (F : YF109) : Ev.Spec := fun args objs k => match args, objs with
  | [.agg [.int .i64 x0, .int .i64 x1, .int .i64 x2, .bool x3, .int .i64 x4]], [] => bif true then F x0 x1 x2 x3 x4 (fun r => match r with | r0 => k (.c (.bool r0), [])) else none
  | _, _ => none
noncomputable def spec109 (fuel : Nat) : Ev.Spec := spg109 (F_ref07_Valid fuel)
theorem ok109 (fuel : Nat) : FnOK Try.prog 109 (spec109 fuel) := by
  intro args objs kk r h
  unfold spec109 spg109 at h
  split at h
  · skip
    obtain ⟨hb, h⟩ := cond_some' h
    simp only [Bool.and_eq_true, Nat.beq_eq, decide_eq_true_eq] at hb
    clear hb
    exact fok109 fuel _ _ kk r ((F109_eq fuel _ _ _ _ _ kk).trans h)
  · cases h
end Go.Proofs.Ytihfgpfofmjbaaa

set_option linter.unusedVariables false
set_option linter.unusedSimpArgs false
set_option maxRecDepth 100000
set_option maxHeartbeats 2000000
namespace Go.Proofs.Ytihfgpfofmjbaaa
open Go Ev
def kp205 (i : Nat) : Option (List Nat) := Ev.look i []
noncomputable def Gg205 (f : Nat) : Option Ev.Spec := Ev.look f []
noncomputable def G205 (fuel : Nat) : Nat → Option Ev.Spec := Gg205
noncomputable def J205 (fuel : Nat) (i : Nat) : Option Ev.Blk := Ev.look i []
noncomputable def F_ref07_template (fuel : Nat) (x0 : Int) (k0 : ((List (Int × Int))) → Option Ans) : Option Ans :=
  bif x0 == (0 : Int) then
   k0 ([((-1 : Int), (-2 : Int)), ((0 : Int), (-2 : Int)), ((1 : Int), (-2 : Int)), ((-2 : Int), (-1 : Int)), ((-1 : Int), (-1 : Int)), ((0 : Int), (-1 : Int)), ((1 : Int), (-1 : Int)), ((2 : Int), (-1 : Int)), ((-2 : Int), (0 : Int)), ((-1 : Int), (0 : Int))])
  else
   bif x0 == (1 : Int) then
    k0 ([((-1 : Int), (-2 : Int)), ((0 : Int), (-2 : Int)), ((-1 : Int), (-1 : Int)), ((0 : Int), (-1 : Int)), ((1 : Int), (-1 : Int)), ((-2 : Int), (0 : Int)), ((-1 : Int), (0 : Int))])
   else
    bif x0 == (2 : Int) then
     k0 ([((-2 : Int), (-1 : Int)), ((-1 : Int), (-1 : Int)), ((0 : Int), (-1 : Int)), ((1 : Int), (-1 : Int)), ((2 : Int), (-1 : Int)), ((-2 : Int), (0 : Int)), ((-1 : Int), (0 : Int))])
    else
     k0 ([((-1 : Int), (-1 : Int)), ((0 : Int), (-1 : Int)), ((1 : Int), (-1 : Int)), ((-1 : Int), (0 : Int))])
abbrev YF205 : Type := (Int) → (((List (Int × Int))) → Option Ans) → Option Ans
theorem F205_eq (fuel : Nat) (x0 : Int) (k : Ev.Cont) : evalFn tab (G205 fuel) (J205 fuel) kp205 fuel Try.f205 [.c (.int .i64 x0)] [] k = F_ref07_template fuel x0 (fun r => match r with | r0 => k (.c (.own 0), [.vec 223 (.pair (.int .i64) (.int .i64)) r0 true])) := by
  kernel_rfl
theorem hG205 (fuel : Nat) : GOK Try.prog (G205 fuel) :=
  gok_nil
theorem fok205 (fuel : Nat) : FnOK Try.prog 205 (evalFn tab (G205 fuel) (J205 fuel) kp205 fuel Try.f205) :=
  fn_ok tab_ok (hG205 fuel) mixed Try.func205 (c := (Try.f205.body).getD .skip) rfl (fun q hq => by
    rw [(by kernel_rfl : obl (J205 fuel) ((Try.f205.body).getD .skip) = [])] at hq
    cases hq)
noncomputable def mt205 : List Ev.SV → List Ev.Ob → Bool := fun args objs => match args, objs with
  | [.c (.int .i64 _)], [] => true
  | _, _ => false
noncomputable def spg205 (F : YF205) : Ev.Spec := fun args objs k => match args, objs with
  | [.c (.int .i64 x0)], [] => bif true then F x0 (fun r => match r with | r0 => k (.c (.own 0), [.vec 223 (.pair (.int .i64) (.int .i64)) r0 true])) else none
  | _, _ => none
noncomputable def spec205 (fuel : Nat) : Ev.Spec := spg205 (F_ref07_template fuel)
theorem ok205 (fuel : Nat) : FnOK Try.prog 205 (spec205 fuel) := by
  intro args objs kk r h
  unfold spec205 spg205 at h
  split at h
  · skip
    obtain ⟨hb, h⟩ := cond_some' h
    simp only [Bool.and_eq_true, Nat.beq_eq, decide_eq_true_eq] at hb
    clear hb
    exact fok205 fuel _ _ kk r ((F205_eq fuel _ kk).trans h)
  · cases h
end Go.Proofs.Ytihfgpfofmjbaaa

set_option linter.unusedVariables false
set_option linter.unusedSimpArgs false
set_option maxRecDepth 100000
set_option maxHeartbeats 2000000
namespace Go.Proofs.Ytihfgpfofmjbaaa
open Go Ev
def kp180 (i : Nat) : Option (List Nat) := Ev.look i [(200001, [1])]
noncomputable def Gg180 (f205 : YF205) (f : Nat) : Option Ev.Spec := Ev.look f [(205, spg205 f205)]
noncomputable def G180 (fuel : Nat) : Nat → Option Ev.Spec := Gg180 (F_ref07_template fuel)
noncomputable def J180 (fuel : Nat) (i : Nat) : Option Ev.Blk := Ev.look i []
noncomputable def F_ref07_pixels (fuel : Nat) (x0 : Int) (x1 : Int) (x2 : Int) (x3 : Bool) (x4 : Int) (k0 : ((List (Int × Int))) → Option Ans) : Option Ans :=
  both ((F_ref07_template fuel (x0)
      (fun y4 =>
        bif Decidable.decide ((y4.length + [(x1, x2)].length) * (16 : Nat) ≤ (140737488355328 : Nat) ∧ y4.length + [(x1, x2)].length ≤ (140737488355328 : Nat)) then
        k0 (y4 ++ [(x1, x2)])
        else none)))
   (both ((F_ref07_template fuel (x0)
        (fun y6 =>
          bif Decidable.decide ((y6.length + [(x1, x2)].length) * (16 : Nat) ≤ (140737488355328 : Nat) ∧ y6.length + [(x1, x2)].length ≤ (140737488355328 : Nat)) then
          k0 (y6 ++ [(x1, x2)])
          else none)))
     ((F_ref07_template fuel (x0)
        (fun y6 =>
          bif Decidable.decide ((y6.length + [(x1, x2)].length) * (16 : Nat) ≤ (140737488355328 : Nat) ∧ y6.length + [(x1, x2)].length ≤ (140737488355328 : Nat)) then
          k0 (y6 ++ [(x1, x2)])
          else none))))
abbrev YF180 : Type := (Int) → (Int) → (Int) → (Bool) → (Int) → (((List (Int × Int))) → Option Ans) → Option Ans
theorem F180_eqg (fuel : Nat) (f205 : YF205) (x0 : Int) (x1 : Int) (x2 : Int) (x3 : Bool) (x4 : Int) (k : Ev.Cont) : evalFn tab (Gg180 f205) (J180 fuel) kp180 fuel Try.f180 [.agg [.int .i64 x0, .int .i64 x1, .int .i64 x2, .bool x3, .int .i64 x4]] [] k = (fun  (k0 : ((List (Int × Int))) → Option Ans) =>
  both ((f205 (x0)
      (fun y4 =>
        bif Decidable.decide ((y4.length + [(x1, x2)].length) * (16 : Nat) ≤ (140737488355328 : Nat) ∧ y4.length + [(x1, x2)].length ≤ (140737488355328 : Nat)) then
        k0 (y4 ++ [(x1, x2)])
        else none)))
   (both ((f205 (x0)
        (fun y6 =>
          bif Decidable.decide ((y6.length + [(x1, x2)].length) * (16 : Nat) ≤ (140737488355328 : Nat) ∧ y6.length + [(x1, x2)].length ≤ (140737488355328 : Nat)) then
          k0 (y6 ++ [(x1, x2)])
          else none)))
     ((f205 (x0)
        (fun y6 =>
          bif Decidable.decide ((y6.length + [(x1, x2)].length) * (16 : Nat) ≤ (140737488355328 : Nat) ∧ y6.length + [(x1, x2)].length ≤ (140737488355328 : Nat)) then
          k0 (y6 ++ [(x1, x2)])
          else none))))) (fun r => match r with | r0 => k (.c (.own 0), [.vec 223 (.pair (.int .i64) (.int .i64)) r0 true])) := by
  kernel_rfl
theorem F180_eq (fuel : Nat) (x0 : Int) (x1 : Int) (x2 : Int) (x3 : Bool) (x4 : Int) (k : Ev.Cont) : evalFn tab (G180 fuel) (J180 fuel) kp180 fuel Try.f180 [.agg [.int .i64 x0, .int .i64 x1, .int .i64 x2, .bool x3, .int .i64 x4]] [] k = F_ref07_pixels fuel x0 x1 x2 x3 x4 (fun r => match r with | r0 => k (.c (.own 0), [.vec 223 (.pair (.int .i64) (.int .i64)) r0 true])) :=
  F180_eqg fuel (F_ref07_template fuel) x0 x1 x2 x3 x4 k
theorem hG180 (fuel : Nat) : GOK Try.prog (G180 fuel) :=
  gok_cons ⟨ok205 fuel, enters_of Try.func205 (by kernel_rfl) rfl⟩ <|
  gok_nil
theorem fok180 (fuel : Nat) : FnOK Try.prog 180 (evalFn tab (G180 fuel) (J180 fuel) kp180 fuel Try.f180) :=
  fn_ok tab_ok (hG180 fuel) mixed Try.func180 (c := (Try.f180.body).getD .skip) rfl (fun q hq => by
    rw [(by kernel_rfl : obl (J180 fuel) ((Try.f180.body).getD .skip) = [])] at hq
    cases hq)
noncomputable def mt180 : List Ev.SV → List Ev.Ob → Bool := fun args objs => match args, objs with
  | [.agg [.int .i64 _, .int .i64 _, .int .i64 _, .bool _, .int .i64 _]], [] => true
  | _, _ => false
noncomputable def spg180 (F : YF180) : Ev.Spec := fun args objs k => match args, objs with
  | [.agg [.int .i64 x0, .int .i64 x1, .int .i64 x2, .bool x3, .int .i64 x4]], [] => bif true then F x0 x1 x2 x3 x4 (fun r => match r with | r0 => k (.c (.own 0), [.vec 223 (.pair (.int .i64) (.int .i64)) r0 true])) else none
  | _, _ => none
noncomputable def spec180 (fuel : Nat) : Ev.Spec := spg180 (F_ref07_pixels fuel)
theorem ok180 (fuel : Nat) : FnOK Try.prog 180 (spec180 fuel) := by
  intro args objs kk r h
  unfold spec180 spg180 at h
  split at h
  · skip
    obtain ⟨hb, h⟩ := cond_some' h
    simp only [Bool.and_eq_true, Nat.beq_eq, decide_eq_true_eq] at hb
    clear hb
    exact fok180 fuel _ _ kk r ((F180_eq fuel _ _ _ _ _ kk).trans h)
  · cases h
end Go.Proofs.Ytihfgpfofmjbaaa

set_option linter.unusedVariables false
set_option linter.unusedSimpArgs false
set_option maxRecDepth 100000
set_option maxHeartbeats 2000000
namespace Go.Proofs.Ytihfgpfofmjbaaa
open Go Ev
def kp122 (i : Nat) : Option (List Nat) := Ev.look i []
noncomputable def Gg122 (f109 : YF109) (f180 : YF180) (f : Nat) : Option Ev.Spec := Ev.look f [(109, spg109 f109), (180, spg180 f180)]
noncomputable def G122 (fuel : Nat) : Nat → Option Ev.Spec := Gg122 (F_ref07_Valid fuel) (F_ref07_pixels fuel)
noncomputable def J122 (fuel : Nat) (i : Nat) : Option Ev.Blk := Ev.look i []
noncomputable def F_ref07_Size (fuel : Nat) (x0 : Int) (x1 : Int) (x2 : Int) (x3 : Bool) (x4 : Int) (k0 : (Int × Int) → Option Ans) : Option Ans :=
  (F_ref07_Valid fuel (x0) (x1) (x2) (x3) (x4)
    (fun y2 =>
      bif !y2 then
       k0 ((0 : Int), (2 : Int))
      else
       (F_ref07_pixels fuel (x0) (x1) (x2) (x3) (x4)
         (fun y7 =>
           k0 (Go.IntKind.i64.wrap (Ev.ishl Go.IntKind.i64 (1 : Int) (↑y7.length : Int) + (1 : Int)), (0 : Int))))))
abbrev YF122 : Type := (Int) → (Int) → (Int) → (Bool) → (Int) → ((Int × Int) → Option Ans) → Option Ans
theorem F122_eqg (fuel : Nat) (f109 : YF109) (f180 : YF180) (x0 : Int) (x1 : Int) (x2 : Int) (x3 : Bool) (x4 : Int) (k : Ev.Cont) : evalFn tab (Gg122 f109 f180) (J122 fuel) kp122 fuel Try.f122 [.agg [.int .i64 x0, .int .i64 x1, .int .i64 x2, .bool x3, .int .i64 x4]] [] k = (fun  (k0 : (Int × Int) → Option Ans) =>
  (f109 (x0) (x1) (x2) (x3) (x4)
    (fun y2 =>
      bif !y2 then
       k0 ((0 : Int), (2 : Int))
      else
       (f180 (x0) (x1) (x2) (x3) (x4)
         (fun y7 =>
           k0 (Go.IntKind.i64.wrap (Ev.ishl Go.IntKind.i64 (1 : Int) (↑y7.length : Int) + (1 : Int)), (0 : Int))))))) (fun r => match r with | (r0, r1) => k (.tup [(false, [.int .i64 r0]), (false, [.int .i64 r1])], [])) := by
  kernel_rfl
theorem F122_eq (fuel : Nat) (x0 : Int) (x1 : Int) (x2 : Int) (x3 : Bool) (x4 : Int) (k : Ev.Cont) : evalFn tab (G122 fuel) (J122 fuel) kp122 fuel Try.f122 [.agg [.int .i64 x0, .int .i64 x1, .int .i64 x2, .bool x3, .int .i64 x4]] [] k = F_ref07_Size fuel x0 x1 x2 x3 x4 (fun r => match r with | (r0, r1) => k (.tup [(false, [.int .i64 r0]), (false, [.int .i64 r1])], [])) :=
  F122_eqg fuel (F_ref07_Valid fuel) (F_ref07_pixels fuel) x0 x1 x2 x3 x4 k
theorem hG122 (fuel : Nat) : GOK Try.prog (G122 fuel) :=
  gok_cons ⟨ok109 fuel, enters_of Try.func109 (by kernel_rfl) rfl⟩ <|
  gok_cons ⟨ok180 fuel, enters_of Try.func180 (by kernel_rfl) rfl⟩ <|
  gok_nil
theorem fok122 (fuel : Nat) : FnOK Try.prog 122 (evalFn tab (G122 fuel) (J122 fuel) kp122 fuel Try.f122) :=
  fn_ok tab_ok (hG122 fuel) mixed Try.func122 (c := (Try.f122.body).getD .skip) rfl (fun q hq => by
    rw [(by kernel_rfl : obl (J122 fuel) ((Try.f122.body).getD .skip) = [])] at hq
    cases hq)
noncomputable def mt122 : List Ev.SV → List Ev.Ob → Bool := fun args objs => match args, objs with
  | [.agg [.int .i64 _, .int .i64 _, .int .i64 _, .bool _, .int .i64 _]], [] => true
  | _, _ => false
noncomputable def spg122 (F : YF122) : Ev.Spec := fun args objs k => match args, objs with
  | [.agg [.int .i64 x0, .int .i64 x1, .int .i64 x2, .bool x3, .int .i64 x4]], [] => bif true then F x0 x1 x2 x3 x4 (fun r => match r with | (r0, r1) => k (.tup [(false, [.int .i64 r0]), (false, [.int .i64 r1])], [])) else none
  | _, _ => none
noncomputable def spec122 (fuel : Nat) : Ev.Spec := spg122 (F_ref07_Size fuel)
theorem ok122 (fuel : Nat) : FnOK Try.prog 122 (spec122 fuel) := by
  intro args objs kk r h
  unfold spec122 spg122 at h
  split at h
  · skip
    obtain ⟨hb, h⟩ := cond_some' h
    simp only [Bool.and_eq_true, Nat.beq_eq, decide_eq_true_eq] at hb
    clear hb
    exact fok122 fuel _ _ kk r ((F122_eq fuel _ _ _ _ _ kk).trans h)
  · cases h
end Go.Proofs.Ytihfgpfofmjbaaa

set_option linter.unusedVariables false
set_option linter.unusedSimpArgs false
set_option maxRecDepth 100000
set_option maxHeartbeats 2000000
namespace Go.Proofs.Ytihfgpfofmjbaaa
open Go Ev
def kp126 (i : Nat) : Option (List Nat) := Ev.look i [(4, [2, 3, 5, 9, 10, 11]), (100000, [10]), (200006, [5, 9]), (400000, [8])]
noncomputable def Gg126 (f125 : YF125) (f180 : YF180) (f : Nat) : Option Ev.Spec := Ev.look f [(125, spg125 f125), (180, spg180 f180)]
noncomputable def G126 (fuel : Nat) : Nat → Option Ev.Spec := Gg126 (F_ref05_At fuel) (F_ref07_pixels fuel)
noncomputable def S_ref07_context_0 (fuel : Nat) (v : Int × Int × Int × Int × Int × Int × (List Int) × (List (Int × Int))) (c : (Int × Int × Int × Int × Int × Int × (List Int) × (List (Int × Int))) → Option Ans) (B : (Int → Option Ans)) : Option Ans := match v, B with
  | (x0, x1, x2, x3, x4, x5, x6, x7), b =>
   bif Decidable.decide (x3 < (↑x7.length : Int)) then
      bif Decidable.decide ((0 : Int) ≤ x3 ∧ x3 < (↑x7.length : Int)) then
      bif Decidable.decide ((0 : Int) ≤ x3 ∧ x3 < (↑x7.length : Int)) then
       both ((F_ref05_At fuel (x4) (x5) (x6) (Go.IntKind.i64.wrap (x0 + (x7.getD x3.toNat ((0 : Int), (0 : Int))).fst)) (Go.IntKind.i64.wrap (x1 + (x7.getD x3.toNat ((0 : Int), (0 : Int))).snd))
            (fun y7 =>
              c (x0, x1, Go.IntKind.i64.wrap (Go.IntKind.i64.wrap ((2 : Int) * x2) + y7), Go.IntKind.i64.wrap (x3 + (1 : Int)), x4, x5, x6, x7))))
         ((F_ref05_At fuel (x4) (x5) (x6) (Go.IntKind.i64.wrap (x0 + (x7.getD x3.toNat ((0 : Int), (0 : Int))).fst)) (Go.IntKind.i64.wrap (x1 + (x7.getD x3.toNat ((0 : Int), (0 : Int))).snd))
            (fun y7 =>
              c (x0, x1, Go.IntKind.i64.wrap (Go.IntKind.i64.wrap ((2 : Int) * x2) + y7), Go.IntKind.i64.wrap (x3 + (1 : Int)), x4, x5, x6, x7))))
       else none
      else none
     else
      b x2
noncomputable def L_ref07_context_0 (fuel : Nat) (v : Int × Int × Int × Int × Int × Int × (List Int) × (List (Int × Int))) (b : (Int → Option Ans)) : Option Ans := iter (S_ref07_context_0 fuel) fuel v b
noncomputable def J126_0 (fuel : Nat) (i : Nat) : Option Ev.Blk := Ev.look i []
noncomputable def T126_0 (v : Int × Int × Int × Int × Int × Int × (List Int) × (List (Int × Int))) : Ev.St := match v with | (x0, x1, x2, x3, x4, x5, x6, x7) => ⟨[(2, .c (.int .i64 x0)), (3, .c (.int .i64 x1)), (5, .c (.ptr 0 0)), (9, .c (.own 1)), (10, .c (.int .i64 x2)), (11, .c (.int .i64 x3))], [(0, .cells 39 [.int .i64 x4, .int .i64 x5, .sl (.int .u8) x6]), (1, .vec 223 (.pair (.int .i64) (.int .i64)) x7 true)], 2, 0⟩
noncomputable def E126_0 (K : Ev.Ex → Ev.St → Option Ans) : (Int → Option Ans) := (fun v => match v with | x0 => K .normal ⟨[(10, .c (.int .i64 x0))], [], 0, 0⟩)
theorem S126_0_okg (fuel : Nat) (f125 : YF125) (f180 : YF180) (R : Ev.St → Option Ans) (K : Ev.Ex → Ev.St → Option Ans) (x0 : Int) (x1 : Int) (x2 : Int) (x3 : Int) (x4 : Int) (x5 : Int) (x6 : (List Int)) (x7 : (List (Int × Int))) : evalCode tab (Gg126 f125 f180) (J126_0 fuel) kp126 fuel (bodyOf 0 Try.f126) (T126_0 (x0, x1, x2, x3, x4, x5, x6, x7)) (lc kp126 4 0 R K) = (fun (c : (Int × Int × Int × Int × Int × Int × (List Int) × (List (Int × Int))) → Option Ans) (B : (Int → Option Ans)) => match B with
  | b =>
   bif Decidable.decide (x3 < (↑x7.length : Int)) then
      bif Decidable.decide ((0 : Int) ≤ x3 ∧ x3 < (↑x7.length : Int)) then
      bif Decidable.decide ((0 : Int) ≤ x3 ∧ x3 < (↑x7.length : Int)) then
       both ((f125 (x4) (x5) (x6) (Go.IntKind.i64.wrap (x0 + (x7.getD x3.toNat ((0 : Int), (0 : Int))).fst)) (Go.IntKind.i64.wrap (x1 + (x7.getD x3.toNat ((0 : Int), (0 : Int))).snd))
            (fun y7 =>
              c (x0, x1, Go.IntKind.i64.wrap (Go.IntKind.i64.wrap ((2 : Int) * x2) + y7), Go.IntKind.i64.wrap (x3 + (1 : Int)), x4, x5, x6, x7))))
         ((f125 (x4) (x5) (x6) (Go.IntKind.i64.wrap (x0 + (x7.getD x3.toNat ((0 : Int), (0 : Int))).fst)) (Go.IntKind.i64.wrap (x1 + (x7.getD x3.toNat ((0 : Int), (0 : Int))).snd))
            (fun y7 =>
              c (x0, x1, Go.IntKind.i64.wrap (Go.IntKind.i64.wrap ((2 : Int) * x2) + y7), Go.IntKind.i64.wrap (x3 + (1 : Int)), x4, x5, x6, x7))))
       else none
      else none
     else
      b x2) (fun v => R (T126_0 v)) (E126_0 K) := by
  kernel_rfl
theorem S126_0_ok (fuel : Nat) (R : Ev.St → Option Ans) (K : Ev.Ex → Ev.St → Option Ans) (x0 : Int) (x1 : Int) (x2 : Int) (x3 : Int) (x4 : Int) (x5 : Int) (x6 : (List Int)) (x7 : (List (Int × Int))) : evalCode tab (G126 fuel) (J126_0 fuel) kp126 fuel (bodyOf 0 Try.f126) (T126_0 (x0, x1, x2, x3, x4, x5, x6, x7)) (lc kp126 4 0 R K) = S_ref07_context_0 fuel (x0, x1, x2, x3, x4, x5, x6, x7) (fun v => R (T126_0 v)) (E126_0 K) :=
  S126_0_okg fuel (F_ref05_At fuel) (F_ref07_pixels fuel) R K x0 x1 x2 x3 x4 x5 x6 x7
noncomputable def B126_0 (fuel : Nat) : Ev.Blk := fun st K => match canonO (kp126 4) st with
  | some s => (match s with
    | ⟨[(q0, .c (.int .i64 x0)), (q1, .c (.int .i64 x1)), (q2, .c (.ptr q3 q4)), (q5, .c (.own q6)), (q7, .c (.int .i64 x2)), (q8, .c (.int .i64 x3))], [(q9, .cells q10 [.int .i64 x4, .int .i64 x5, .sl (.int .u8) x6]), (q11, .vec q12 (.pair (.int .i64) (.int .i64)) x7 true)], q13, q14⟩ => bif Nat.beq q0 2 && Nat.beq q1 3 && Nat.beq q2 5 && Nat.beq q3 0 && Nat.beq q4 0 && Nat.beq q5 9 && Nat.beq q6 1 && Nat.beq q7 10 && Nat.beq q8 11 && Nat.beq q9 0 && Nat.beq q10 39 && Nat.beq q11 1 && Nat.beq q12 223 && Nat.beq q13 2 && Nat.beq q14 0 then iter (S_ref07_context_0 fuel) fuel (x0, x1, x2, x3, x4, x5, x6, x7) (E126_0 K) else none
    | _ => none)
  | none => none
theorem B126_0_ok (fuel : Nat) (st : Ev.St) (K : Ev.Ex → Ev.St → Option Ans) (r : Ans) (h : B126_0 fuel st K = some r) : evalCode tab (G126 fuel) (J126_0 fuel) kp126 fuel (.block 0 (.loop (bodyOf 0 Try.f126))) st K = some r := by
  unfold B126_0 at h
  split at h
  · rename_i s hs
    split at h
    · skip
      obtain ⟨hb, h⟩ := cond_some' h
      simp only [Bool.and_eq_true, Nat.beq_eq, decide_eq_true_eq] at hb
      obtain ⟨⟨⟨⟨⟨⟨⟨⟨⟨⟨⟨⟨⟨⟨rfl, rfl⟩, rfl⟩, rfl⟩, rfl⟩, rfl⟩, rfl⟩, rfl⟩, rfl⟩, rfl⟩, rfl⟩, rfl⟩, rfl⟩, rfl⟩, rfl⟩ := hb
      exact blk_loop (S := T126_0) (ks := E126_0) (step := S_ref07_context_0 fuel) (v := (_, _, _, _, _, _, _, _)) (by kernel_rfl) (by kernel_rfl) (fun R K v => by obtain ⟨x0, x1, x2, x3, x4, x5, x6, x7⟩ := v; exact S126_0_ok fuel R K x0 x1 x2 x3 x4 x5 x6 x7) hs h
    · cases h
  · cases h
noncomputable def J126 (fuel : Nat) (i : Nat) : Option Ev.Blk := Ev.look i [(100000, B126_0 fuel)]
noncomputable def F_ref07_context (fuel : Nat) (x0 : Int) (x1 : Int) (x2 : Int) (x3 : Bool) (x4 : Int) (x5 : Int) (x6 : Int) (x7 : (List Int)) (x8 : Int) (x9 : Int) (k0 : (Int) → Option Ans) : Option Ans :=
  (F_ref07_pixels fuel (x0) (x1) (x2) (x3) (x4)
    (fun y2 =>
      (L_ref07_context_0 fuel (x8, x9, (0 : Int), (0 : Int), x5, x6, x7, y2)
        (fun b0_0 =>
          k0 b0_0))))
abbrev YF126 : Type := (Int) → (Int) → (Int) → (Bool) → (Int) → (Int) → (Int) → ((List Int)) → (Int) → (Int) → ((Int) → Option Ans) → Option Ans
theorem F126_eqg (fuel : Nat) (f125 : YF125) (f180 : YF180) (x0 : Int) (x1 : Int) (x2 : Int) (x3 : Bool) (x4 : Int) (x5 : Int) (x6 : Int) (x7 : (List Int)) (x8 : Int) (x9 : Int) (k : Ev.Cont) : evalFn tab (Gg126 f125 f180) (J126 fuel) kp126 fuel Try.f126 [.agg [.int .i64 x0, .int .i64 x1, .int .i64 x2, .bool x3, .int .i64 x4], .agg [.int .i64 x5, .int .i64 x6, .sl (.int .u8) x7], .c (.int .i64 x8), .c (.int .i64 x9)] [] k = (fun  (k0 : (Int) → Option Ans) =>
  (f180 (x0) (x1) (x2) (x3) (x4)
    (fun y2 =>
      (L_ref07_context_0 fuel (x8, x9, (0 : Int), (0 : Int), x5, x6, x7, y2)
        (fun b0_0 =>
          k0 b0_0))))) (fun r => match r with | r0 => k (.c (.int .i64 r0), [])) := by
  kernel_rfl
theorem F126_eq (fuel : Nat) (x0 : Int) (x1 : Int) (x2 : Int) (x3 : Bool) (x4 : Int) (x5 : Int) (x6 : Int) (x7 : (List Int)) (x8 : Int) (x9 : Int) (k : Ev.Cont) : evalFn tab (G126 fuel) (J126 fuel) kp126 fuel Try.f126 [.agg [.int .i64 x0, .int .i64 x1, .int .i64 x2, .bool x3, .int .i64 x4], .agg [.int .i64 x5, .int .i64 x6, .sl (.int .u8) x7], .c (.int .i64 x8), .c (.int .i64 x9)] [] k = F_ref07_context fuel x0 x1 x2 x3 x4 x5 x6 x7 x8 x9 (fun r => match r with | r0 => k (.c (.int .i64 r0), [])) :=
  F126_eqg fuel (F_ref05_At fuel) (F_ref07_pixels fuel) x0 x1 x2 x3 x4 x5 x6 x7 x8 x9 k
theorem hG126 (fuel : Nat) : GOK Try.prog (G126 fuel) :=
  gok_cons ⟨ok125 fuel, enters_of Try.func125 (by kernel_rfl) rfl⟩ <|
  gok_cons ⟨ok180 fuel, enters_of Try.func180 (by kernel_rfl) rfl⟩ <|
  gok_nil
theorem B126_0_blk (fuel : Nat) : BlkOK Try.prog Try.f126.ntmps (.block 0 (.loop (bodyOf 0 Try.f126))) (B126_0 fuel) :=
  blk_of (blk_of_code tab_ok (hG126 fuel) mixed (J := J126_0 fuel) (kp := kp126) (fuel := fuel) (by kernel_rfl) (fun q hq => by
    rw [(by kernel_rfl : obl (J126_0 fuel) (.block 0 (.loop (bodyOf 0 Try.f126))) = [])] at hq
    cases hq)) (B126_0_ok fuel)
theorem fok126 (fuel : Nat) : FnOK Try.prog 126 (evalFn tab (G126 fuel) (J126 fuel) kp126 fuel Try.f126) :=
  fn_ok tab_ok (hG126 fuel) mixed Try.func126 (c := (Try.f126.body).getD .skip) rfl (fun q hq => by
    rw [(by kernel_rfl : obl (J126 fuel) ((Try.f126.body).getD .skip) = [(.block 0 (.loop (bodyOf 0 Try.f126)), B126_0 fuel)])] at hq
    simp only [List.mem_cons, List.not_mem_nil, or_false] at hq
    subst hq
    · exact B126_0_blk fuel)
noncomputable def mt126 : List Ev.SV → List Ev.Ob → Bool := fun args objs => match args, objs with
  | [.agg [.int .i64 _, .int .i64 _, .int .i64 _, .bool _, .int .i64 _], .agg [.int .i64 _, .int .i64 _, .sl (.int .u8) _], .c (.int .i64 _), .c (.int .i64 _)], [] => true
  | _, _ => false
noncomputable def spg126 (F : YF126) : Ev.Spec := fun args objs k => match args, objs with
  | [.agg [.int .i64 x0, .int .i64 x1, .int .i64 x2, .bool x3, .int .i64 x4], .agg [.int .i64 x5, .int .i64 x6, .sl (.int .u8) x7], .c (.int .i64 x8), .c (.int .i64 x9)], [] => bif true then F x0 x1 x2 x3 x4 x5 x6 x7 x8 x9 (fun r => match r with | r0 => k (.c (.int .i64 r0), [])) else none
  | _, _ => none
noncomputable def spec126 (fuel : Nat) : Ev.Spec := spg126 (F_ref07_context fuel)
theorem ok126 (fuel : Nat) : FnOK Try.prog 126 (spec126 fuel) := by
  intro args objs kk r h
  unfold spec126 spg126 at h
  split at h
  · skip
    obtain ⟨hb, h⟩ := cond_some' h
    simp only [Bool.and_eq_true, Nat.beq_eq, decide_eq_true_eq] at hb
    clear hb
    exact fok126 fuel _ _ kk r ((F126_eq fuel _ _ _ _ _ _ _ _ _ _ kk).trans h)
  · cases h
end Go.Proofs.Ytihfgpfofmjbaaa

