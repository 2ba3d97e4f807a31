/- What the functions that TextAt reaches do: their typed texts, each with the proof that the machine does it. No condition. -/
import Derived.Test.YtipdidpalcmlhaaGreatEvX
import Derived.Test.YtipdidpalcmlhaaGreatFsTextAt3
set_option linter.unusedVariables false
set_option linter.unusedSimpArgs false
set_option linter.unusedSectionVars false
set_option linter.unusedVariables false
set_option linter.unusedSimpArgs false
set_option maxRecDepth 100000
set_option maxHeartbeats 2000000
namespace Go.Proofs.YtipdidpalcmlhaaGreat
open Go Ev
def kp33 (i : Nat) : Option (List Nat) := Ev.look i []
noncomputable def Gg33 (f73 : YF73) (f93 : YF93) (f103 : YF103) (f104 : YF104) (f : Nat) : Option Ev.Spec := Ev.look f [(73, spg73 f73), (93, spg93 f93), (103, spg103 f103), (104, spg104 f104)]
noncomputable def G33 (fuel : Nat) : Nat → Option Ev.Spec := Gg33 (F_text_begun fuel) (F_text_near fuel) (F_text_corner fuel) (F_text_rightItem fuel)
noncomputable def J33 (fuel : Nat) (i : Nat) : Option Ev.Blk := Ev.look i []
noncomputable def F_text_At (fuel : Nat) (x0 : Int) (x1 : Int) (x2 : Bool) (x3 : Int) (x4 : Int) (x5 : Int) (x6 : Bool) (x7 : Int) (x8 : Int) (x9 : Int) (x10 : (List Int)) (x11 : Int) (x12 : Int) (x13 : Int) (k0 : (Int × Int × Int × Bool × Int × Int × Int × Int × Int × (List Int)) → Option Ans) : Option Ans :=
  (F_text_begun fuel (x0) (x1) (x2) (x3) (x4) (x5) (x6) (x7) ([(x8, x9, x10)]) ([])
    (fun y2 =>
      bif y2 != (0 : Int) then
       k0 ((0 : Int), (0 : Int), (0 : Int), Bool.false, (0 : Int), (0 : Int), (0 : Int), (0 : Int), y2, [])
      else
       (F_text_corner fuel (x0) (x1) (x2) (x3) (x4) (x5) (x6) (x7) (x8) (x9) (x10)
         (fun (y7_0, y7_1) =>
           (F_text_near fuel (x12) ((200000 : Int))
             (fun y11 =>
               bif !y11 then
                k0 ((0 : Int), (0 : Int), (0 : Int), Bool.false, (0 : Int), (0 : Int), (0 : Int), (0 : Int), (2 : Int), [])
               else
                (F_text_near fuel (x13) ((200000 : Int))
                  (fun y16 =>
                    bif !y16 then
                     k0 ((0 : Int), (0 : Int), (0 : Int), Bool.false, (0 : Int), (0 : Int), (0 : Int), (0 : Int), (2 : Int), [])
                    else
                     bif x2 then
                      (F_text_rightItem fuel (x0) (x1) (x2) (x3) (x4) (x5) (x6) (x7) ((60 : Int)) (x11) (Go.IntKind.i64.wrap (x13 + y7_1)) (Go.IntKind.i64.wrap (x12 + y7_0)) (Bool.false) ((0 : Int)) ((0 : Int)) ((0 : Int)) ((0 : Int)) ([])
                        (fun y22 =>
                          bif !y22 then
                           k0 ((0 : Int), (0 : Int), (0 : Int), Bool.false, (0 : Int), (0 : Int), (0 : Int), (0 : Int), (2 : Int), [])
                          else
                           k0 (x11, Go.IntKind.i64.wrap (x13 + y7_1), Go.IntKind.i64.wrap (x12 + y7_0), Bool.false, (0 : Int), (0 : Int), (0 : Int), (0 : Int), (0 : Int), [])))
                     else
                      (F_text_rightItem fuel (x0) (x1) (x2) (x3) (x4) (x5) (x6) (x7) ((60 : Int)) (x11) (Go.IntKind.i64.wrap (x12 + y7_0)) (Go.IntKind.i64.wrap (x13 + y7_1)) (Bool.false) ((0 : Int)) ((0 : Int)) ((0 : Int)) ((0 : Int)) ([])
                        (fun y22 =>
                          bif !y22 then
                           k0 ((0 : Int), (0 : Int), (0 : Int), Bool.false, (0 : Int), (0 : Int), (0 : Int), (0 : Int), (2 : Int), [])
                          else
                           k0 (x11, Go.IntKind.i64.wrap (x12 + y7_0), Go.IntKind.i64.wrap (x13 + y7_1), Bool.false, (0 : Int), (0 : Int), (0 : Int), (0 : Int), (0 : Int), [])))))))))))
abbrev YF33 : Type := (Int) → (Int) → (Bool) → (Int) → (Int) → (Int) → (Bool) → (Int) → (Int) → (Int) → ((List Int)) → (Int) → (Int) → (Int) → ((Int × Int × Int × Bool × Int × Int × Int × Int × Int × (List Int)) → Option Ans) → Option Ans
theorem F33_eqg (fuel : Nat) (f73 : YF73) (f93 : YF93) (f103 : YF103) (f104 : YF104) (x0 : Int) (x1 : Int) (x2 : Bool) (x3 : Int) (x4 : Int) (x5 : Int) (x6 : Bool) (x7 : Int) (x8 : Int) (x9 : Int) (x10 : (List Int)) (x11 : Int) (x12 : Int) (x13 : Int) (k : Ev.Cont) : evalFn tab (Gg33 f73 f93 f103 f104) (J33 fuel) kp33 fuel Tryz.f33 [.agg [.int .i64 x0, .int .i64 x1, .bool x2, .int .i64 x3, .int .i64 x4, .int .i64 x5, .bool x6, .int .i64 x7], .agg [.int .i64 x8, .int .i64 x9, .sl (.int .u8) x10], .c (.int .i64 x11), .c (.int .i64 x12), .c (.int .i64 x13)] [] k = (fun  (k0 : (Int × Int × Int × Bool × Int × Int × Int × Int × Int × (List Int)) → Option Ans) =>
  (f73 (x0) (x1) (x2) (x3) (x4) (x5) (x6) (x7) ([(x8, x9, x10)]) ([])
    (fun y2 =>
      bif y2 != (0 : Int) then
       k0 ((0 : Int), (0 : Int), (0 : Int), Bool.false, (0 : Int), (0 : Int), (0 : Int), (0 : Int), y2, [])
      else
       (f103 (x0) (x1) (x2) (x3) (x4) (x5) (x6) (x7) (x8) (x9) (x10)
         (fun (y7_0, y7_1) =>
           (f93 (x12) ((200000 : Int))
             (fun y11 =>
               bif !y11 then
                k0 ((0 : Int), (0 : Int), (0 : Int), Bool.false, (0 : Int), (0 : Int), (0 : Int), (0 : Int), (2 : Int), [])
               else
                (f93 (x13) ((200000 : Int))
                  (fun y16 =>
                    bif !y16 then
                     k0 ((0 : Int), (0 : Int), (0 : Int), Bool.false, (0 : Int), (0 : Int), (0 : Int), (0 : Int), (2 : Int), [])
                    else
                     bif x2 then
                      (f104 (x0) (x1) (x2) (x3) (x4) (x5) (x6) (x7) ((60 : Int)) (x11) (Go.IntKind.i64.wrap (x13 + y7_1)) (Go.IntKind.i64.wrap (x12 + y7_0)) (Bool.false) ((0 : Int)) ((0 : Int)) ((0 : Int)) ((0 : Int)) ([])
                        (fun y22 =>
                          bif !y22 then
                           k0 ((0 : Int), (0 : Int), (0 : Int), Bool.false, (0 : Int), (0 : Int), (0 : Int), (0 : Int), (2 : Int), [])
                          else
                           k0 (x11, Go.IntKind.i64.wrap (x13 + y7_1), Go.IntKind.i64.wrap (x12 + y7_0), Bool.false, (0 : Int), (0 : Int), (0 : Int), (0 : Int), (0 : Int), [])))
                     else
                      (f104 (x0) (x1) (x2) (x3) (x4) (x5) (x6) (x7) ((60 : Int)) (x11) (Go.IntKind.i64.wrap (x12 + y7_0)) (Go.IntKind.i64.wrap (x13 + y7_1)) (Bool.false) ((0 : Int)) ((0 : Int)) ((0 : Int)) ((0 : Int)) ([])
                        (fun y22 =>
                          bif !y22 then
                           k0 ((0 : Int), (0 : Int), (0 : Int), Bool.false, (0 : Int), (0 : Int), (0 : Int), (0 : Int), (2 : Int), [])
                          else
                           k0 (x11, Go.IntKind.i64.wrap (x12 + y7_0), Go.IntKind.i64.wrap (x13 + y7_1), Bool.false, (0 : Int), (0 : Int), (0 : Int), (0 : Int), (0 : Int), [])))))))))))) (fun r => match r with | (r0, r1, r2, r3, r4, r5, r6, r7, r8, r9) => k (.tup [(true, [.int .i64 r0, .int .i64 r1, .int .i64 r2, .bool r3, .int .i64 r4, .int .i64 r5, .int .i64 r6, .int .i64 r7, .own 0]), (false, [.int .i64 r8])], [.vec 5 (.int .u8) r9 true])) := by
  kernel_rfl
theorem F33_eq (fuel : Nat) (x0 : Int) (x1 : Int) (x2 : Bool) (x3 : Int) (x4 : Int) (x5 : Int) (x6 : Bool) (x7 : Int) (x8 : Int) (x9 : Int) (x10 : (List Int)) (x11 : Int) (x12 : Int) (x13 : Int) (k : Ev.Cont) : evalFn tab (G33 fuel) (J33 fuel) kp33 fuel Tryz.f33 [.agg [.int .i64 x0, .int .i64 x1, .bool x2, .int .i64 x3, .int .i64 x4, .int .i64 x5, .bool x6, .int .i64 x7], .agg [.int .i64 x8, .int .i64 x9, .sl (.int .u8) x10], .c (.int .i64 x11), .c (.int .i64 x12), .c (.int .i64 x13)] [] k = F_text_At fuel x0 x1 x2 x3 x4 x5 x6 x7 x8 x9 x10 x11 x12 x13 (fun r => match r with | (r0, r1, r2, r3, r4, r5, r6, r7, r8, r9) => k (.tup [(true, [.int .i64 r0, .int .i64 r1, .int .i64 r2, .bool r3, .int .i64 r4, .int .i64 r5, .int .i64 r6, .int .i64 r7, .own 0]), (false, [.int .i64 r8])], [.vec 5 (.int .u8) r9 true])) :=
  F33_eqg fuel (F_text_begun fuel) (F_text_near fuel) (F_text_corner fuel) (F_text_rightItem fuel) x0 x1 x2 x3 x4 x5 x6 x7 x8 x9 x10 x11 x12 x13 k
theorem hG33 (fuel : Nat) : GOK Tryz.prog (G33 fuel) :=
  gok_cons ⟨ok73 fuel, enters_of Tryz.func73 (by kernel_rfl) rfl⟩ <|
  gok_cons ⟨ok93 fuel, enters_of Tryz.func93 (by kernel_rfl) rfl⟩ <|
  gok_cons ⟨ok103 fuel, enters_of Tryz.func103 (by kernel_rfl) rfl⟩ <|
  gok_cons ⟨ok104 fuel, enters_of Tryz.func104 (by kernel_rfl) rfl⟩ <|
  gok_nil
theorem fok33 (fuel : Nat) : FnOK Tryz.prog 33 (evalFn tab (G33 fuel) (J33 fuel) kp33 fuel Tryz.f33) :=
  fn_ok tab_ok (hG33 fuel) mixed Tryz.func33 (c := (Tryz.f33.body).getD .skip) rfl (fun q hq => by
    rw [(by kernel_rfl : obl (J33 fuel) ((Tryz.f33.body).getD .skip) = [])] at hq
    cases hq)
noncomputable def mt33 : List Ev.SV → List Ev.Ob → Bool := fun args objs => match args, objs with
  | [.agg [.int .i64 _, .int .i64 _, .bool _, .int .i64 _, .int .i64 _, .int .i64 _, .bool _, .int .i64 _], .agg [.int .i64 _, .int .i64 _, .sl (.int .u8) _], .c (.int .i64 _), .c (.int .i64 _), .c (.int .i64 _)], [] => true
  | _, _ => false
noncomputable def spg33 (F : YF33) : Ev.Spec := fun args objs k => match args, objs with
  | [.agg [.int .i64 x0, .int .i64 x1, .bool x2, .int .i64 x3, .int .i64 x4, .int .i64 x5, .bool x6, .int .i64 x7], .agg [.int .i64 x8, .int .i64 x9, .sl (.int .u8) x10], .c (.int .i64 x11), .c (.int .i64 x12), .c (.int .i64 x13)], [] => bif true then F x0 x1 x2 x3 x4 x5 x6 x7 x8 x9 x10 x11 x12 x13 (fun r => match r with | (r0, r1, r2, r3, r4, r5, r6, r7, r8, r9) => k (.tup [(true, [.int .i64 r0, .int .i64 r1, .int .i64 r2, .bool r3, .int .i64 r4, .int .i64 r5, .int .i64 r6, .int .i64 r7, .own 0]), (false, [.int .i64 r8])], [.vec 5 (.int .u8) r9 true])) else none
  | _, _ => none
noncomputable def spec33 (fuel : Nat) : Ev.Spec := spg33 (F_text_At fuel)
theorem ok33 (fuel : Nat) : FnOK Tryz.prog 33 (spec33 fuel) := by
  intro args objs kk r h
  unfold spec33 spg33 at h
  split at h
  · skip
    obtain ⟨hb, h⟩ := cond_some' h
    simp only [Bool.and_eq_true, Nat.beq_eq, decide_eq_true_eq] at hb
    clear hb
    exact fok33 fuel _ _ kk r ((F33_eq fuel _ _ _ _ _ _ _ _ _ _ _ _ _ _ kk).trans h)
  · cases h
end Go.Proofs.YtipdidpalcmlhaaGreat

set_option linter.unusedVariables false
set_option linter.unusedSimpArgs false
set_option maxRecDepth 100000
set_option maxHeartbeats 2000000
namespace Go.Proofs.YtipdidpalcmlhaaGreat
open Go Ev
def kp107 (i : Nat) : Option (List Nat) := Ev.look i []
noncomputable def Gg107 (f : Nat) : Option Ev.Spec := Ev.look f []
noncomputable def G107 (fuel : Nat) : Nat → Option Ev.Spec := Gg107
noncomputable def J107 (fuel : Nat) (i : Nat) : Option Ev.Blk := Ev.look i []
noncomputable def F_text_drawn (fuel : Nat) (x0 : (List (Int × Int × (List Int)))) (x1 : Int) (x2 : Int) (x3 : Int) (x4 : Bool) (x5 : Int) (x6 : Int) (x7 : Int) (x8 : Int) (x9 : (List Int)) (k0 : (Int × Int × (List Int)) → Option Ans) : Option Ans :=
  bif x4 then
   k0 (x7, x8, x9)
  else
   bif Decidable.decide ((0 : Int) ≤ x1 ∧ x1 < (↑x0.length : Int)) then
   k0 ((x0.getD x1.toNat ((0 : Int), (0 : Int), [])).fst, (x0.getD x1.toNat ((0 : Int), (0 : Int), [])).snd.fst, (x0.getD x1.toNat ((0 : Int), (0 : Int), [])).snd.snd)
   else none
abbrev YF107 : Type := ((List (Int × Int × (List Int)))) → (Int) → (Int) → (Int) → (Bool) → (Int) → (Int) → (Int) → (Int) → ((List Int)) → ((Int × Int × (List Int)) → Option Ans) → Option Ans
theorem F107_eq (fuel : Nat) (x0 : (List (Int × Int × (List Int)))) (x1 : Int) (x2 : Int) (x3 : Int) (x4 : Bool) (x5 : Int) (x6 : Int) (x7 : Int) (x8 : Int) (x9 : (List Int)) (k : Ev.Cont) : evalFn tab (G107 fuel) (J107 fuel) kp107 fuel Tryz.f107 [.c (.sl (.pair (.int .i64) (.pair (.int .i64) (.sl (.int .u8)))) x0), .agg [.int .i64 x1, .int .i64 x2, .int .i64 x3, .bool x4, .int .i64 x5, .int .i64 x6, .int .i64 x7, .int .i64 x8, .sl (.int .u8) x9]] [] k = F_text_drawn fuel x0 x1 x2 x3 x4 x5 x6 x7 x8 x9 (fun r => match r with | (r0, r1, r2) => k (.agg [.int .i64 r0, .int .i64 r1, .sl (.int .u8) r2], [])) := by
  kernel_rfl
theorem hG107 (fuel : Nat) : GOK Tryz.prog (G107 fuel) :=
  gok_nil
theorem fok107 (fuel : Nat) : FnOK Tryz.prog 107 (evalFn tab (G107 fuel) (J107 fuel) kp107 fuel Tryz.f107) :=
  fn_ok tab_ok (hG107 fuel) mixed Tryz.func107 (c := (Tryz.f107.body).getD .skip) rfl (fun q hq => by
    rw [(by kernel_rfl : obl (J107 fuel) ((Tryz.f107.body).getD .skip) = [])] at hq
    cases hq)
noncomputable def mt107 : List Ev.SV → List Ev.Ob → Bool := fun args objs => match args, objs with
  | [.c (.sl (.pair (.int .i64) (.pair (.int .i64) (.sl (.int .u8)))) _), .agg [.int .i64 _, .int .i64 _, .int .i64 _, .bool _, .int .i64 _, .int .i64 _, .int .i64 _, .int .i64 _, .sl (.int .u8) _]], [] => true
  | _, _ => false
noncomputable def spg107 (F : YF107) : Ev.Spec := fun args objs k => match args, objs with
  | [.c (.sl (.pair (.int .i64) (.pair (.int .i64) (.sl (.int .u8)))) x0), .agg [.int .i64 x1, .int .i64 x2, .int .i64 x3, .bool x4, .int .i64 x5, .int .i64 x6, .int .i64 x7, .int .i64 x8, .sl (.int .u8) x9]], [] => bif true then F x0 x1 x2 x3 x4 x5 x6 x7 x8 x9 (fun r => match r with | (r0, r1, r2) => k (.agg [.int .i64 r0, .int .i64 r1, .sl (.int .u8) r2], [])) else none
  | _, _ => none
noncomputable def spec107 (fuel : Nat) : Ev.Spec := spg107 (F_text_drawn fuel)
theorem ok107 (fuel : Nat) : FnOK Tryz.prog 107 (spec107 fuel) := by
  intro args objs kk r h
  unfold spec107 spg107 at h
  split at h
  · skip
    obtain ⟨hb, h⟩ := cond_some' h
    simp only [Bool.and_eq_true, Nat.beq_eq, decide_eq_true_eq] at hb
    clear hb
    exact fok107 fuel _ _ kk r ((F107_eq fuel _ _ _ _ _ _ _ _ _ _ kk).trans h)
  · cases h
end Go.Proofs.YtipdidpalcmlhaaGreat

set_option linter.unusedVariables false
set_option linter.unusedSimpArgs false
set_option maxRecDepth 100000
set_option maxHeartbeats 2000000
namespace Go.Proofs.YtipdidpalcmlhaaGreat
open Go Ev
def kp99 (i : Nat) : Option (List Nat) := Ev.look i [(200001, [5]), (200004, [3, 5])]
noncomputable def Gg99 (f103 : YF103) (f107 : YF107) (f : Nat) : Option Ev.Spec := Ev.look f [(103, spg103 f103), (107, spg107 f107)]
noncomputable def G99 (fuel : Nat) : Nat → Option Ev.Spec := Gg99 (F_text_corner fuel) (F_text_drawn fuel)
noncomputable def J99 (fuel : Nat) (i : Nat) : Option Ev.Blk := Ev.look i []
noncomputable def F_text_place (fuel : Nat) (x0 : Int) (x1 : Int) (x2 : Bool) (x3 : Int) (x4 : Int) (x5 : Int) (x6 : Bool) (x7 : Int) (x8 : (List (Int × Int × (List Int)))) (x9 : Int) (x10 : Int) (x11 : Int) (x12 : Bool) (x13 : Int) (x14 : Int) (x15 : Int) (x16 : Int) (x17 : (List Int)) (k0 : (Int × Int) → Option Ans) : Option Ans :=
  bif x2 then
   (F_text_drawn fuel (x8) (x9) (x10) (x11) (x12) (x13) (x14) (x15) (x16) (x17)
     (fun (y3_0, y3_1, y3_2) =>
       (F_text_corner fuel (x0) (x1) (x2) (x3) (x4) (x5) (x6) (x7) (y3_0) (y3_1) (y3_2)
         (fun (y7_0, y7_1) =>
           k0 (Go.IntKind.i64.wrap (x11 - y7_0), Go.IntKind.i64.wrap (x10 - y7_1))))))
  else
   (F_text_drawn fuel (x8) (x9) (x10) (x11) (x12) (x13) (x14) (x15) (x16) (x17)
     (fun (y3_0, y3_1, y3_2) =>
       (F_text_corner fuel (x0) (x1) (x2) (x3) (x4) (x5) (x6) (x7) (y3_0) (y3_1) (y3_2)
         (fun (y7_0, y7_1) =>
           k0 (Go.IntKind.i64.wrap (x10 - y7_0), Go.IntKind.i64.wrap (x11 - y7_1))))))
abbrev YF99 : Type := (Int) → (Int) → (Bool) → (Int) → (Int) → (Int) → (Bool) → (Int) → ((List (Int × Int × (List Int)))) → (Int) → (Int) → (Int) → (Bool) → (Int) → (Int) → (Int) → (Int) → ((List Int)) → ((Int × Int) → Option Ans) → Option Ans
theorem F99_eqg (fuel : Nat) (f103 : YF103) (f107 : YF107) (x0 : Int) (x1 : Int) (x2 : Bool) (x3 : Int) (x4 : Int) (x5 : Int) (x6 : Bool) (x7 : Int) (x8 : (List (Int × Int × (List Int)))) (x9 : Int) (x10 : Int) (x11 : Int) (x12 : Bool) (x13 : Int) (x14 : Int) (x15 : Int) (x16 : Int) (x17 : (List Int)) (k : Ev.Cont) : evalFn tab (Gg99 f103 f107) (J99 fuel) kp99 fuel Tryz.f99 [.agg [.int .i64 x0, .int .i64 x1, .bool x2, .int .i64 x3, .int .i64 x4, .int .i64 x5, .bool x6, .int .i64 x7], .c (.sl (.pair (.int .i64) (.pair (.int .i64) (.sl (.int .u8)))) x8), .agg [.int .i64 x9, .int .i64 x10, .int .i64 x11, .bool x12, .int .i64 x13, .int .i64 x14, .int .i64 x15, .int .i64 x16, .sl (.int .u8) x17]] [] k = (fun  (k0 : (Int × Int) → Option Ans) =>
  bif x2 then
   (f107 (x8) (x9) (x10) (x11) (x12) (x13) (x14) (x15) (x16) (x17)
     (fun (y3_0, y3_1, y3_2) =>
       (f103 (x0) (x1) (x2) (x3) (x4) (x5) (x6) (x7) (y3_0) (y3_1) (y3_2)
         (fun (y7_0, y7_1) =>
           k0 (Go.IntKind.i64.wrap (x11 - y7_0), Go.IntKind.i64.wrap (x10 - y7_1))))))
  else
   (f107 (x8) (x9) (x10) (x11) (x12) (x13) (x14) (x15) (x16) (x17)
     (fun (y3_0, y3_1, y3_2) =>
       (f103 (x0) (x1) (x2) (x3) (x4) (x5) (x6) (x7) (y3_0) (y3_1) (y3_2)
         (fun (y7_0, y7_1) =>
           k0 (Go.IntKind.i64.wrap (x10 - y7_0), Go.IntKind.i64.wrap (x11 - y7_1))))))) (fun r => match r with | (r0, r1) => k (.tup [(false, [.int .i64 r0]), (false, [.int .i64 r1])], [])) := by
  kernel_rfl
theorem F99_eq (fuel : Nat) (x0 : Int) (x1 : Int) (x2 : Bool) (x3 : Int) (x4 : Int) (x5 : Int) (x6 : Bool) (x7 : Int) (x8 : (List (Int × Int × (List Int)))) (x9 : Int) (x10 : Int) (x11 : Int) (x12 : Bool) (x13 : Int) (x14 : Int) (x15 : Int) (x16 : Int) (x17 : (List Int)) (k : Ev.Cont) : evalFn tab (G99 fuel) (J99 fuel) kp99 fuel Tryz.f99 [.agg [.int .i64 x0, .int .i64 x1, .bool x2, .int .i64 x3, .int .i64 x4, .int .i64 x5, .bool x6, .int .i64 x7], .c (.sl (.pair (.int .i64) (.pair (.int .i64) (.sl (.int .u8)))) x8), .agg [.int .i64 x9, .int .i64 x10, .int .i64 x11, .bool x12, .int .i64 x13, .int .i64 x14, .int .i64 x15, .int .i64 x16, .sl (.int .u8) x17]] [] k = F_text_place fuel x0 x1 x2 x3 x4 x5 x6 x7 x8 x9 x10 x11 x12 x13 x14 x15 x16 x17 (fun r => match r with | (r0, r1) => k (.tup [(false, [.int .i64 r0]), (false, [.int .i64 r1])], [])) :=
  F99_eqg fuel (F_text_corner fuel) (F_text_drawn fuel) x0 x1 x2 x3 x4 x5 x6 x7 x8 x9 x10 x11 x12 x13 x14 x15 x16 x17 k
theorem hG99 (fuel : Nat) : GOK Tryz.prog (G99 fuel) :=
  gok_cons ⟨ok103 fuel, enters_of Tryz.func103 (by kernel_rfl) rfl⟩ <|
  gok_cons ⟨ok107 fuel, enters_of Tryz.func107 (by kernel_rfl) rfl⟩ <|
  gok_nil
theorem fok99 (fuel : Nat) : FnOK Tryz.prog 99 (evalFn tab (G99 fuel) (J99 fuel) kp99 fuel Tryz.f99) :=
  fn_ok tab_ok (hG99 fuel) mixed Tryz.func99 (c := (Tryz.f99.body).getD .skip) rfl (fun q hq => by
    rw [(by kernel_rfl : obl (J99 fuel) ((Tryz.f99.body).getD .skip) = [])] at hq
    cases hq)
noncomputable def mt99 : List Ev.SV → List Ev.Ob → Bool := fun args objs => match args, objs with
  | [.agg [.int .i64 _, .int .i64 _, .bool _, .int .i64 _, .int .i64 _, .int .i64 _, .bool _, .int .i64 _], .c (.sl (.pair (.int .i64) (.pair (.int .i64) (.sl (.int .u8)))) _), .agg [.int .i64 _, .int .i64 _, .int .i64 _, .bool _, .int .i64 _, .int .i64 _, .int .i64 _, .int .i64 _, .sl (.int .u8) _]], [] => true
  | _, _ => false
noncomputable def spg99 (F : YF99) : Ev.Spec := fun args objs k => match args, objs with
  | [.agg [.int .i64 x0, .int .i64 x1, .bool x2, .int .i64 x3, .int .i64 x4, .int .i64 x5, .bool x6, .int .i64 x7], .c (.sl (.pair (.int .i64) (.pair (.int .i64) (.sl (.int .u8)))) x8), .agg [.int .i64 x9, .int .i64 x10, .int .i64 x11, .bool x12, .int .i64 x13, .int .i64 x14, .int .i64 x15, .int .i64 x16, .sl (.int .u8) x17]], [] => bif true then F x0 x1 x2 x3 x4 x5 x6 x7 x8 x9 x10 x11 x12 x13 x14 x15 x16 x17 (fun r => match r with | (r0, r1) => k (.tup [(false, [.int .i64 r0]), (false, [.int .i64 r1])], [])) else none
  | _, _ => none
noncomputable def spec99 (fuel : Nat) : Ev.Spec := spg99 (F_text_place fuel)
theorem ok99 (fuel : Nat) : FnOK Tryz.prog 99 (spec99 fuel) := by
  intro args objs kk r h
  unfold spec99 spg99 at h
  split at h
  · skip
    obtain ⟨hb, h⟩ := cond_some' h
    simp only [Bool.and_eq_true, Nat.beq_eq, decide_eq_true_eq] at hb
    clear hb
    exact fok99 fuel _ _ kk r ((F99_eq fuel _ _ _ _ _ _ _ _ _ _ _ _ _ _ _ _ _ _ kk).trans h)
  · cases h
end Go.Proofs.YtipdidpalcmlhaaGreat

set_option linter.unusedVariables false
set_option linter.unusedSimpArgs false
set_option maxRecDepth 100000
set_option maxHeartbeats 2000000
namespace Go.Proofs.YtipdidpalcmlhaaGreat
open Go Ev
def kp164_e36 (i : Nat) : Option (List Nat) := Ev.look i []
noncomputable def Gg164_e36 (f104 : YF104) (f : Nat) : Option Ev.Spec := Ev.look f [(104, spg104 f104)]
noncomputable def G164_e36 (fuel : Nat) : Nat → Option Ev.Spec := Gg164_e36 (F_text_rightItem fuel)
noncomputable def J164_e36 (fuel : Nat) (i : Nat) : Option Ev.Blk := Ev.look i []
noncomputable def F_text_right_1_e36 (fuel : Nat) (x0 : Int) (x1 : Int) (x2 : Int) (x3 : Bool) (x4 : Int) (x5 : Int) (x6 : Int) (x7 : Int) (x8 : (List Int)) (x9 : Int) (x10 : Int) (x11 : Bool) (x12 : Int) (x13 : Int) (x14 : Int) (x15 : Bool) (x16 : Int) (x17 : Int) (k0 : (Bool × Int × Int × Bool × Int × Int × Int × Bool × Int × Int) → Option Ans) : Option Ans :=
  (F_text_rightItem fuel (x9) (x10) (x11) (x12) (x13) (x14) (x15) (x16) (x17) (x0) (x1) (x2) (x3) (x4) (x5) (x6) (x7) (x8)
    (fun y2 =>
      k0 (!y2, x9, x10, x11, x12, x13, x14, x15, x16, x17)))
abbrev YF164_e36 : Type := (Int) → (Int) → (Int) → (Bool) → (Int) → (Int) → (Int) → (Int) → ((List Int)) → (Int) → (Int) → (Bool) → (Int) → (Int) → (Int) → (Bool) → (Int) → (Int) → ((Bool × Int × Int × Bool × Int × Int × Int × Bool × Int × Int) → Option Ans) → Option Ans
theorem F164_e36_eqg (fuel : Nat) (f104 : YF104) (x0 : Int) (x1 : Int) (x2 : Int) (x3 : Bool) (x4 : Int) (x5 : Int) (x6 : Int) (x7 : Int) (x8 : (List Int)) (x9 : Int) (x10 : Int) (x11 : Bool) (x12 : Int) (x13 : Int) (x14 : Int) (x15 : Bool) (x16 : Int) (x17 : Int) (k : Ev.Cont) : evalFn tab (Gg164_e36 f104) (J164_e36 fuel) kp164_e36 fuel Tryz.f164 [.agg [.int .i64 x0, .int .i64 x1, .int .i64 x2, .bool x3, .int .i64 x4, .int .i64 x5, .int .i64 x6, .int .i64 x7, .sl (.int .u8) x8], .c (.ptr 0 0), .c (.ptr 1 0)] [.cells 40 [.int .i64 x9, .int .i64 x10, .bool x11, .int .i64 x12, .int .i64 x13, .int .i64 x14, .bool x15, .int .i64 x16], .cells 3 [.int .i64 x17]] k = (fun  (k0 : (Bool × Int × Int × Bool × Int × Int × Int × Bool × Int × Int) → Option Ans) =>
  (f104 (x9) (x10) (x11) (x12) (x13) (x14) (x15) (x16) (x17) (x0) (x1) (x2) (x3) (x4) (x5) (x6) (x7) (x8)
    (fun y2 =>
      k0 (!y2, x9, x10, x11, x12, x13, x14, x15, x16, x17)))) (fun r => match r with | (r0, r1, r2, r3, r4, r5, r6, r7, r8, r9) => k (.c (.bool r0), [.cells 40 [.int .i64 r1, .int .i64 r2, .bool r3, .int .i64 r4, .int .i64 r5, .int .i64 r6, .bool r7, .int .i64 r8], .cells 3 [.int .i64 r9]])) := by
  kernel_rfl
theorem F164_e36_eq (fuel : Nat) (x0 : Int) (x1 : Int) (x2 : Int) (x3 : Bool) (x4 : Int) (x5 : Int) (x6 : Int) (x7 : Int) (x8 : (List Int)) (x9 : Int) (x10 : Int) (x11 : Bool) (x12 : Int) (x13 : Int) (x14 : Int) (x15 : Bool) (x16 : Int) (x17 : Int) (k : Ev.Cont) : evalFn tab (G164_e36 fuel) (J164_e36 fuel) kp164_e36 fuel Tryz.f164 [.agg [.int .i64 x0, .int .i64 x1, .int .i64 x2, .bool x3, .int .i64 x4, .int .i64 x5, .int .i64 x6, .int .i64 x7, .sl (.int .u8) x8], .c (.ptr 0 0), .c (.ptr 1 0)] [.cells 40 [.int .i64 x9, .int .i64 x10, .bool x11, .int .i64 x12, .int .i64 x13, .int .i64 x14, .bool x15, .int .i64 x16], .cells 3 [.int .i64 x17]] k = F_text_right_1_e36 fuel x0 x1 x2 x3 x4 x5 x6 x7 x8 x9 x10 x11 x12 x13 x14 x15 x16 x17 (fun r => match r with | (r0, r1, r2, r3, r4, r5, r6, r7, r8, r9) => k (.c (.bool r0), [.cells 40 [.int .i64 r1, .int .i64 r2, .bool r3, .int .i64 r4, .int .i64 r5, .int .i64 r6, .bool r7, .int .i64 r8], .cells 3 [.int .i64 r9]])) :=
  F164_e36_eqg fuel (F_text_rightItem fuel) x0 x1 x2 x3 x4 x5 x6 x7 x8 x9 x10 x11 x12 x13 x14 x15 x16 x17 k
theorem hG164_e36 (fuel : Nat) : GOK Tryz.prog (G164_e36 fuel) :=
  gok_cons ⟨ok104 fuel, enters_of Tryz.func104 (by kernel_rfl) rfl⟩ <|
  gok_nil
theorem fok164_e36 (fuel : Nat) : FnOK Tryz.prog 164 (evalFn tab (G164_e36 fuel) (J164_e36 fuel) kp164_e36 fuel Tryz.f164) :=
  fn_ok tab_ok (hG164_e36 fuel) mixed Tryz.func164 (c := (Tryz.f164.body).getD .skip) rfl (fun q hq => by
    rw [(by kernel_rfl : obl (J164_e36 fuel) ((Tryz.f164.body).getD .skip) = [])] at hq
    cases hq)
noncomputable def mt164_e36 : List Ev.SV → List Ev.Ob → Bool := fun args objs => match args, objs with
  | [.agg [.int .i64 _, .int .i64 _, .int .i64 _, .bool _, .int .i64 _, .int .i64 _, .int .i64 _, .int .i64 _, .sl (.int .u8) _], .c (.ptr q0 q1), .c (.ptr q2 q3)], [.cells q4 [.int .i64 _, .int .i64 _, .bool _, .int .i64 _, .int .i64 _, .int .i64 _, .bool _, .int .i64 _], .cells q5 [.int .i64 _]] => Nat.beq q0 0 && Nat.beq q1 0 && Nat.beq q2 1 && Nat.beq q3 0 && Nat.beq q4 40 && Nat.beq q5 3
  | _, _ => false
noncomputable def spg164_e36 (F : YF164_e36) : Ev.Spec := fun args objs k => match args, objs with
  | [.agg [.int .i64 x0, .int .i64 x1, .int .i64 x2, .bool x3, .int .i64 x4, .int .i64 x5, .int .i64 x6, .int .i64 x7, .sl (.int .u8) x8], .c (.ptr q0 q1), .c (.ptr q2 q3)], [.cells q4 [.int .i64 x9, .int .i64 x10, .bool x11, .int .i64 x12, .int .i64 x13, .int .i64 x14, .bool x15, .int .i64 x16], .cells q5 [.int .i64 x17]] => bif Nat.beq q0 0 && Nat.beq q1 0 && Nat.beq q2 1 && Nat.beq q3 0 && Nat.beq q4 40 && Nat.beq q5 3 then F x0 x1 x2 x3 x4 x5 x6 x7 x8 x9 x10 x11 x12 x13 x14 x15 x16 x17 (fun r => match r with | (r0, r1, r2, r3, r4, r5, r6, r7, r8, r9) => k (.c (.bool r0), [.cells 40 [.int .i64 r1, .int .i64 r2, .bool r3, .int .i64 r4, .int .i64 r5, .int .i64 r6, .bool r7, .int .i64 r8], .cells 3 [.int .i64 r9]])) else none
  | _, _ => none
noncomputable def spec164_e36 (fuel : Nat) : Ev.Spec := spg164_e36 (F_text_right_1_e36 fuel)
theorem ok164_e36 (fuel : Nat) : FnOK Tryz.prog 164 (spec164_e36 fuel) := by
  intro args objs kk r h
  unfold spec164_e36 spg164_e36 at h
  split at h
  · skip
    obtain ⟨hb, h⟩ := cond_some' h
    simp only [Bool.and_eq_true, Nat.beq_eq, decide_eq_true_eq] at hb
    obtain ⟨⟨⟨⟨⟨rfl, rfl⟩, rfl⟩, rfl⟩, rfl⟩, rfl⟩ := hb
    exact fok164_e36 fuel _ _ kk r ((F164_e36_eq fuel _ _ _ _ _ _ _ _ _ _ _ _ _ _ _ _ _ _ kk).trans h)
  · cases h
end Go.Proofs.YtipdidpalcmlhaaGreat

set_option linter.unusedVariables false
set_option linter.unusedSimpArgs false
set_option maxRecDepth 100000
set_option maxHeartbeats 2000000
namespace Go.Proofs.YtipdidpalcmlhaaGreat
open Go Ev
def kp227_766 (i : Nat) : Option (List Nat) := Ev.look i [(2, [0, 1, 7, 8]), (100000, []), (400000, [4])]
noncomputable def Gg227_766 (f164_e36 : YF164_e36) (f : Nat) : Option Ev.Spec := Ev.look f [(164, spg164_e36 f164_e36)]
noncomputable def G227_766 (fuel : Nat) : Nat → Option Ev.Spec := Gg227_766 (F_text_right_1_e36 fuel)
noncomputable def S_slices_IndexFunc_api_Item_api_Item_766_0 (fuel : Nat) (v : (List (Int × (Int × (Int × (Bool × (Int × (Int × (Int × (Int × (List Int)))))))))) × Int × Int × Int × Int × Bool × Int × Int × Int × Bool × Int × Int) (c : ((List (Int × (Int × (Int × (Bool × (Int × (Int × (Int × (Int × (List Int)))))))))) × Int × Int × Int × Int × Bool × Int × Int × Int × Bool × Int × Int) → Option Ans) (B : (Int × Int × Int × Bool × Int × Int × Int × Bool × Int × Int → Option Ans) × (Int × Int × Bool × Int × Int × Int × Bool × Int × Int → Option Ans)) : Option Ans := match v, B with
  | (x0, x1, x2, x3, x4, x5, x6, x7, x8, x9, x10, x11), (ret, b) =>
   bif Decidable.decide (x2 < x1) then
      bif Decidable.decide ((0 : Int) ≤ x2 ∧ x2 < (↑x0.length : Int)) then
      (F_text_right_1_e36 fuel ((x0.getD x2.toNat ((0 : Int), (0 : Int), (0 : Int), Bool.false, (0 : Int), (0 : Int), (0 : Int), (0 : Int), [])).fst) ((x0.getD x2.toNat ((0 : Int), (0 : Int), (0 : Int), Bool.false, (0 : Int), (0 : Int), (0 : Int), (0 : Int), [])).snd.fst) ((x0.getD x2.toNat ((0 : Int), (0 : Int), (0 : Int), Bool.false, (0 : Int), (0 : Int), (0 : Int), (0 : Int), [])).snd.snd.fst) ((x0.getD x2.toNat ((0 : Int), (0 : Int), (0 : Int), Bool.false, (0 : Int), (0 : Int), (0 : Int), (0 : Int), [])).snd.snd.snd.fst) ((x0.getD x2.toNat ((0 : Int), (0 : Int), (0 : Int), Bool.false, (0 : Int), (0 : Int), (0 : Int), (0 : Int), [])).snd.snd.snd.snd.fst) ((x0.getD x2.toNat ((0 : Int), (0 : Int), (0 : Int), Bool.false, (0 : Int), (0 : Int), (0 : Int), (0 : Int), [])).snd.snd.snd.snd.snd.fst) ((x0.getD x2.toNat ((0 : Int), (0 : Int), (0 : Int), Bool.false, (0 : Int), (0 : Int), (0 : Int), (0 : Int), [])).snd.snd.snd.snd.snd.snd.fst) ((x0.getD x2.toNat ((0 : Int), (0 : Int), (0 : Int), Bool.false, (0 : Int), (0 : Int), (0 : Int), (0 : Int), [])).snd.snd.snd.snd.snd.snd.snd.fst) ((x0.getD x2.toNat ((0 : Int), (0 : Int), (0 : Int), Bool.false, (0 : Int), (0 : Int), (0 : Int), (0 : Int), [])).snd.snd.snd.snd.snd.snd.snd.snd) (x3) (x4) (x5) (x6) (x7) (x8) (x9) (x10) (x11)
         (fun (y4_0, y4_1, y4_2, y4_3, y4_4, y4_5, y4_6, y4_7, y4_8, y4_9) =>
           bif y4_0 then
            ret (x2, y4_1, y4_2, y4_3, y4_4, y4_5, y4_6, y4_7, y4_8, y4_9)
           else
            c (x0, x1, Go.IntKind.i64.wrap (x2 + (1 : Int)), y4_1, y4_2, y4_3, y4_4, y4_5, y4_6, y4_7, y4_8, y4_9)))
      else none
     else
      b (x3, x4, x5, x6, x7, x8, x9, x10, x11)
noncomputable def L_slices_IndexFunc_api_Item_api_Item_766_0 (fuel : Nat) (v : (List (Int × (Int × (Int × (Bool × (Int × (Int × (Int × (Int × (List Int)))))))))) × Int × Int × Int × Int × Bool × Int × Int × Int × Bool × Int × Int) (ret : (Int × Int × Int × Bool × Int × Int × Int × Bool × Int × Int → Option Ans)) (b : (Int × Int × Bool × Int × Int × Int × Bool × Int × Int → Option Ans)) : Option Ans := iter (S_slices_IndexFunc_api_Item_api_Item_766_0 fuel) fuel v (ret, b)
noncomputable def J227_766_0 (fuel : Nat) (i : Nat) : Option Ev.Blk := Ev.look i []
noncomputable def T227_766_0 (v : (List (Int × (Int × (Int × (Bool × (Int × (Int × (Int × (Int × (List Int)))))))))) × Int × Int × Int × Int × Bool × Int × Int × Int × Bool × Int × Int) : Ev.St := match v with | (x0, x1, x2, x3, x4, x5, x6, x7, x8, x9, x10, x11) => ⟨[(0, .c (.sl (.pair (.int .i64) (.pair (.int .i64) (.pair (.int .i64) (.pair .bool (.pair (.int .i64) (.pair (.int .i64) (.pair (.int .i64) (.pair (.int .i64) (.sl (.int .u8)))))))))) x0)), (1, .c (.clo 164 [0, 1])), (7, .c (.int .i64 x1)), (8, .c (.int .i64 x2))], [(0, .cells 40 [.int .i64 x3, .int .i64 x4, .bool x5, .int .i64 x6, .int .i64 x7, .int .i64 x8, .bool x9, .int .i64 x10]), (1, .cells 3 [.int .i64 x11])], 2, 2⟩
noncomputable def E227_766_0 (K : Ev.Ex → Ev.St → Option Ans) : (Int × Int × Int × Bool × Int × Int × Int × Bool × Int × Int → Option Ans) × (Int × Int × Bool × Int × Int × Int × Bool × Int × Int → Option Ans) := ((fun v => match v with | (x0, x1, x2, x3, x4, x5, x6, x7, x8, x9) => K .ret ⟨[(4, .c (.int .i64 x0))], [(0, .cells 40 [.int .i64 x1, .int .i64 x2, .bool x3, .int .i64 x4, .int .i64 x5, .int .i64 x6, .bool x7, .int .i64 x8]), (1, .cells 3 [.int .i64 x9])], 2, 2⟩), (fun v => match v with | (x0, x1, x2, x3, x4, x5, x6, x7, x8) => K .normal ⟨[], [(0, .cells 40 [.int .i64 x0, .int .i64 x1, .bool x2, .int .i64 x3, .int .i64 x4, .int .i64 x5, .bool x6, .int .i64 x7]), (1, .cells 3 [.int .i64 x8])], 2, 2⟩))
theorem S227_766_0_okg (fuel : Nat) (f164_e36 : YF164_e36) (R : Ev.St → Option Ans) (K : Ev.Ex → Ev.St → Option Ans) (x0 : (List (Int × (Int × (Int × (Bool × (Int × (Int × (Int × (Int × (List Int))))))))))) (x1 : Int) (x2 : Int) (x3 : Int) (x4 : Int) (x5 : Bool) (x6 : Int) (x7 : Int) (x8 : Int) (x9 : Bool) (x10 : Int) (x11 : Int) : evalCode tab (Gg227_766 f164_e36) (J227_766_0 fuel) kp227_766 fuel (bodyOf 0 Tryz.f227) (T227_766_0 (x0, x1, x2, x3, x4, x5, x6, x7, x8, x9, x10, x11)) (lc kp227_766 2 0 R K) = (fun (c : ((List (Int × (Int × (Int × (Bool × (Int × (Int × (Int × (Int × (List Int)))))))))) × Int × Int × Int × Int × Bool × Int × Int × Int × Bool × Int × Int) → Option Ans) (B : (Int × Int × Int × Bool × Int × Int × Int × Bool × Int × Int → Option Ans) × (Int × Int × Bool × Int × Int × Int × Bool × Int × Int → Option Ans)) => match B with
  | (ret, b) =>
   bif Decidable.decide (x2 < x1) then
      bif Decidable.decide ((0 : Int) ≤ x2 ∧ x2 < (↑x0.length : Int)) then
      (f164_e36 ((x0.getD x2.toNat ((0 : Int), (0 : Int), (0 : Int), Bool.false, (0 : Int), (0 : Int), (0 : Int), (0 : Int), [])).fst) ((x0.getD x2.toNat ((0 : Int), (0 : Int), (0 : Int), Bool.false, (0 : Int), (0 : Int), (0 : Int), (0 : Int), [])).snd.fst) ((x0.getD x2.toNat ((0 : Int), (0 : Int), (0 : Int), Bool.false, (0 : Int), (0 : Int), (0 : Int), (0 : Int), [])).snd.snd.fst) ((x0.getD x2.toNat ((0 : Int), (0 : Int), (0 : Int), Bool.false, (0 : Int), (0 : Int), (0 : Int), (0 : Int), [])).snd.snd.snd.fst) ((x0.getD x2.toNat ((0 : Int), (0 : Int), (0 : Int), Bool.false, (0 : Int), (0 : Int), (0 : Int), (0 : Int), [])).snd.snd.snd.snd.fst) ((x0.getD x2.toNat ((0 : Int), (0 : Int), (0 : Int), Bool.false, (0 : Int), (0 : Int), (0 : Int), (0 : Int), [])).snd.snd.snd.snd.snd.fst) ((x0.getD x2.toNat ((0 : Int), (0 : Int), (0 : Int), Bool.false, (0 : Int), (0 : Int), (0 : Int), (0 : Int), [])).snd.snd.snd.snd.snd.snd.fst) ((x0.getD x2.toNat ((0 : Int), (0 : Int), (0 : Int), Bool.false, (0 : Int), (0 : Int), (0 : Int), (0 : Int), [])).snd.snd.snd.snd.snd.snd.snd.fst) ((x0.getD x2.toNat ((0 : Int), (0 : Int), (0 : Int), Bool.false, (0 : Int), (0 : Int), (0 : Int), (0 : Int), [])).snd.snd.snd.snd.snd.snd.snd.snd) (x3) (x4) (x5) (x6) (x7) (x8) (x9) (x10) (x11)
         (fun (y4_0, y4_1, y4_2, y4_3, y4_4, y4_5, y4_6, y4_7, y4_8, y4_9) =>
           bif y4_0 then
            ret (x2, y4_1, y4_2, y4_3, y4_4, y4_5, y4_6, y4_7, y4_8, y4_9)
           else
            c (x0, x1, Go.IntKind.i64.wrap (x2 + (1 : Int)), y4_1, y4_2, y4_3, y4_4, y4_5, y4_6, y4_7, y4_8, y4_9)))
      else none
     else
      b (x3, x4, x5, x6, x7, x8, x9, x10, x11)) (fun v => R (T227_766_0 v)) (E227_766_0 K) := by
  kernel_rfl
theorem S227_766_0_ok (fuel : Nat) (R : Ev.St → Option Ans) (K : Ev.Ex → Ev.St → Option Ans) (x0 : (List (Int × (Int × (Int × (Bool × (Int × (Int × (Int × (Int × (List Int))))))))))) (x1 : Int) (x2 : Int) (x3 : Int) (x4 : Int) (x5 : Bool) (x6 : Int) (x7 : Int) (x8 : Int) (x9 : Bool) (x10 : Int) (x11 : Int) : evalCode tab (G227_766 fuel) (J227_766_0 fuel) kp227_766 fuel (bodyOf 0 Tryz.f227) (T227_766_0 (x0, x1, x2, x3, x4, x5, x6, x7, x8, x9, x10, x11)) (lc kp227_766 2 0 R K) = S_slices_IndexFunc_api_Item_api_Item_766_0 fuel (x0, x1, x2, x3, x4, x5, x6, x7, x8, x9, x10, x11) (fun v => R (T227_766_0 v)) (E227_766_0 K) :=
  S227_766_0_okg fuel (F_text_right_1_e36 fuel) R K x0 x1 x2 x3 x4 x5 x6 x7 x8 x9 x10 x11
noncomputable def B227_766_0 (fuel : Nat) : Ev.Blk := fun st K => match canonO (kp227_766 2) st with
  | some s => (match s with
    | ⟨[(q0, .c (.sl (.pair (.int .i64) (.pair (.int .i64) (.pair (.int .i64) (.pair .bool (.pair (.int .i64) (.pair (.int .i64) (.pair (.int .i64) (.pair (.int .i64) (.sl (.int .u8)))))))))) x0)), (q1, .c (.clo q2 [q3, q4])), (q5, .c (.int .i64 x1)), (q6, .c (.int .i64 x2))], [(q7, .cells q8 [.int .i64 x3, .int .i64 x4, .bool x5, .int .i64 x6, .int .i64 x7, .int .i64 x8, .bool x9, .int .i64 x10]), (q9, .cells q10 [.int .i64 x11])], q11, q12⟩ => bif Nat.beq q0 0 && Nat.beq q1 1 && Nat.beq q2 164 && Nat.beq q3 0 && Nat.beq q4 1 && Nat.beq q5 7 && Nat.beq q6 8 && Nat.beq q7 0 && Nat.beq q8 40 && Nat.beq q9 1 && Nat.beq q10 3 && Nat.beq q11 2 && Nat.beq q12 2 then iter (S_slices_IndexFunc_api_Item_api_Item_766_0 fuel) fuel (x0, x1, x2, x3, x4, x5, x6, x7, x8, x9, x10, x11) (E227_766_0 K) else none
    | _ => none)
  | none => none
theorem B227_766_0_ok (fuel : Nat) (st : Ev.St) (K : Ev.Ex → Ev.St → Option Ans) (r : Ans) (h : B227_766_0 fuel st K = some r) : evalCode tab (G227_766 fuel) (J227_766_0 fuel) kp227_766 fuel (.block 0 (.loop (bodyOf 0 Tryz.f227))) st K = some r := by
  unfold B227_766_0 at h
  split at h
  · rename_i s hs
    split at h
    · skip
      obtain ⟨hb, h⟩ := cond_some' h
      simp only [Bool.and_eq_true, Nat.beq_eq, decide_eq_true_eq] at hb
      obtain ⟨⟨⟨⟨⟨⟨⟨⟨⟨⟨⟨⟨rfl, rfl⟩, rfl⟩, rfl⟩, rfl⟩, rfl⟩, rfl⟩, rfl⟩, rfl⟩, rfl⟩, rfl⟩, rfl⟩, rfl⟩ := hb
      exact blk_loop (S := T227_766_0) (ks := E227_766_0) (step := S_slices_IndexFunc_api_Item_api_Item_766_0 fuel) (v := (_, _, _, _, _, _, _, _, _, _, _, _)) (by kernel_rfl) (by kernel_rfl) (fun R K v => by obtain ⟨x0, x1, x2, x3, x4, x5, x6, x7, x8, x9, x10, x11⟩ := v; exact S227_766_0_ok fuel R K x0 x1 x2 x3 x4 x5 x6 x7 x8 x9 x10 x11) hs h
    · cases h
  · cases h
noncomputable def J227_766 (fuel : Nat) (i : Nat) : Option Ev.Blk := Ev.look i [(100000, B227_766_0 fuel)]
noncomputable def F_slices_IndexFunc_api_Item_api_Item_766 (fuel : Nat) (x0 : (List (Int × (Int × (Int × (Bool × (Int × (Int × (Int × (Int × (List Int))))))))))) (x1 : Int) (x2 : Int) (x3 : Bool) (x4 : Int) (x5 : Int) (x6 : Int) (x7 : Bool) (x8 : Int) (x9 : Int) (k0 : (Int × Int × Int × Bool × Int × Int × Int × Bool × Int × Int) → Option Ans) : Option Ans :=
  (L_slices_IndexFunc_api_Item_api_Item_766_0 fuel (x0, (↑x0.length : Int), (0 : Int), x1, x2, x3, x4, x5, x6, x7, x8, x9)
    (fun (ret0_0, ret0_1, ret0_2, ret0_3, ret0_4, ret0_5, ret0_6, ret0_7, ret0_8, ret0_9) =>
      k0 (ret0_0, ret0_1, ret0_2, ret0_3, ret0_4, ret0_5, ret0_6, ret0_7, ret0_8, ret0_9))
    (fun (b0_0, b0_1, b0_2, b0_3, b0_4, b0_5, b0_6, b0_7, b0_8) =>
      k0 ((-1 : Int), b0_0, b0_1, b0_2, b0_3, b0_4, b0_5, b0_6, b0_7, b0_8)))
abbrev YF227_766 : Type := ((List (Int × (Int × (Int × (Bool × (Int × (Int × (Int × (Int × (List Int))))))))))) → (Int) → (Int) → (Bool) → (Int) → (Int) → (Int) → (Bool) → (Int) → (Int) → ((Int × Int × Int × Bool × Int × Int × Int × Bool × Int × Int) → Option Ans) → Option Ans
theorem F227_766_eqg (fuel : Nat) (f164_e36 : YF164_e36) (x0 : (List (Int × (Int × (Int × (Bool × (Int × (Int × (Int × (Int × (List Int))))))))))) (x1 : Int) (x2 : Int) (x3 : Bool) (x4 : Int) (x5 : Int) (x6 : Int) (x7 : Bool) (x8 : Int) (x9 : Int) (k : Ev.Cont) : evalFn tab (Gg227_766 f164_e36) (J227_766 fuel) kp227_766 fuel Tryz.f227 [.c (.sl (.pair (.int .i64) (.pair (.int .i64) (.pair (.int .i64) (.pair .bool (.pair (.int .i64) (.pair (.int .i64) (.pair (.int .i64) (.pair (.int .i64) (.sl (.int .u8)))))))))) x0), .c (.clo 164 [0, 1])] [.cells 40 [.int .i64 x1, .int .i64 x2, .bool x3, .int .i64 x4, .int .i64 x5, .int .i64 x6, .bool x7, .int .i64 x8], .cells 3 [.int .i64 x9]] k = (fun  (k0 : (Int × Int × Int × Bool × Int × Int × Int × Bool × Int × Int) → Option Ans) =>
  (L_slices_IndexFunc_api_Item_api_Item_766_0 fuel (x0, (↑x0.length : Int), (0 : Int), x1, x2, x3, x4, x5, x6, x7, x8, x9)
    (fun (ret0_0, ret0_1, ret0_2, ret0_3, ret0_4, ret0_5, ret0_6, ret0_7, ret0_8, ret0_9) =>
      k0 (ret0_0, ret0_1, ret0_2, ret0_3, ret0_4, ret0_5, ret0_6, ret0_7, ret0_8, ret0_9))
    (fun (b0_0, b0_1, b0_2, b0_3, b0_4, b0_5, b0_6, b0_7, b0_8) =>
      k0 ((-1 : Int), b0_0, b0_1, b0_2, b0_3, b0_4, b0_5, b0_6, b0_7, b0_8)))) (fun r => match r with | (r0, r1, r2, r3, r4, r5, r6, r7, r8, r9) => k (.c (.int .i64 r0), [.cells 40 [.int .i64 r1, .int .i64 r2, .bool r3, .int .i64 r4, .int .i64 r5, .int .i64 r6, .bool r7, .int .i64 r8], .cells 3 [.int .i64 r9]])) := by
  kernel_rfl
theorem F227_766_eq (fuel : Nat) (x0 : (List (Int × (Int × (Int × (Bool × (Int × (Int × (Int × (Int × (List Int))))))))))) (x1 : Int) (x2 : Int) (x3 : Bool) (x4 : Int) (x5 : Int) (x6 : Int) (x7 : Bool) (x8 : Int) (x9 : Int) (k : Ev.Cont) : evalFn tab (G227_766 fuel) (J227_766 fuel) kp227_766 fuel Tryz.f227 [.c (.sl (.pair (.int .i64) (.pair (.int .i64) (.pair (.int .i64) (.pair .bool (.pair (.int .i64) (.pair (.int .i64) (.pair (.int .i64) (.pair (.int .i64) (.sl (.int .u8)))))))))) x0), .c (.clo 164 [0, 1])] [.cells 40 [.int .i64 x1, .int .i64 x2, .bool x3, .int .i64 x4, .int .i64 x5, .int .i64 x6, .bool x7, .int .i64 x8], .cells 3 [.int .i64 x9]] k = F_slices_IndexFunc_api_Item_api_Item_766 fuel x0 x1 x2 x3 x4 x5 x6 x7 x8 x9 (fun r => match r with | (r0, r1, r2, r3, r4, r5, r6, r7, r8, r9) => k (.c (.int .i64 r0), [.cells 40 [.int .i64 r1, .int .i64 r2, .bool r3, .int .i64 r4, .int .i64 r5, .int .i64 r6, .bool r7, .int .i64 r8], .cells 3 [.int .i64 r9]])) :=
  F227_766_eqg fuel (F_text_right_1_e36 fuel) x0 x1 x2 x3 x4 x5 x6 x7 x8 x9 k
theorem hG227_766 (fuel : Nat) : GOK Tryz.prog (G227_766 fuel) :=
  gok_cons ⟨ok164_e36 fuel, enters_of Tryz.func164 (by kernel_rfl) rfl⟩ <|
  gok_nil
theorem B227_766_0_blk (fuel : Nat) : BlkOK Tryz.prog Tryz.f227.ntmps (.block 0 (.loop (bodyOf 0 Tryz.f227))) (B227_766_0 fuel) :=
  blk_of (blk_of_code tab_ok (hG227_766 fuel) mixed (J := J227_766_0 fuel) (kp := kp227_766) (fuel := fuel) (by kernel_rfl) (fun q hq => by
    rw [(by kernel_rfl : obl (J227_766_0 fuel) (.block 0 (.loop (bodyOf 0 Tryz.f227))) = [])] at hq
    cases hq)) (B227_766_0_ok fuel)
theorem fok227_766 (fuel : Nat) : FnOK Tryz.prog 227 (evalFn tab (G227_766 fuel) (J227_766 fuel) kp227_766 fuel Tryz.f227) :=
  fn_ok tab_ok (hG227_766 fuel) mixed Tryz.func227 (c := (Tryz.f227.body).getD .skip) rfl (fun q hq => by
    rw [(by kernel_rfl : obl (J227_766 fuel) ((Tryz.f227.body).getD .skip) = [(.block 0 (.loop (bodyOf 0 Tryz.f227)), B227_766_0 fuel)])] at hq
    simp only [List.mem_cons, List.not_mem_nil, or_false] at hq
    subst hq
    · exact B227_766_0_blk fuel)
noncomputable def mt227_766 : List Ev.SV → List Ev.Ob → Bool := fun args objs => match args, objs with
  | [.c (.sl (.pair (.int .i64) (.pair (.int .i64) (.pair (.int .i64) (.pair .bool (.pair (.int .i64) (.pair (.int .i64) (.pair (.int .i64) (.pair (.int .i64) (.sl (.int .u8)))))))))) _), .c (.clo q0 [q1, q2])], [.cells q3 [.int .i64 _, .int .i64 _, .bool _, .int .i64 _, .int .i64 _, .int .i64 _, .bool _, .int .i64 _], .cells q4 [.int .i64 _]] => Nat.beq q0 164 && Nat.beq q1 0 && Nat.beq q2 1 && Nat.beq q3 40 && Nat.beq q4 3
  | _, _ => false
noncomputable def spg227_766 (F : YF227_766) : Ev.Spec := fun args objs k => match args, objs with
  | [.c (.sl (.pair (.int .i64) (.pair (.int .i64) (.pair (.int .i64) (.pair .bool (.pair (.int .i64) (.pair (.int .i64) (.pair (.int .i64) (.pair (.int .i64) (.sl (.int .u8)))))))))) x0), .c (.clo q0 [q1, q2])], [.cells q3 [.int .i64 x1, .int .i64 x2, .bool x3, .int .i64 x4, .int .i64 x5, .int .i64 x6, .bool x7, .int .i64 x8], .cells q4 [.int .i64 x9]] => bif Nat.beq q0 164 && Nat.beq q1 0 && Nat.beq q2 1 && Nat.beq q3 40 && Nat.beq q4 3 then F x0 x1 x2 x3 x4 x5 x6 x7 x8 x9 (fun r => match r with | (r0, r1, r2, r3, r4, r5, r6, r7, r8, r9) => k (.c (.int .i64 r0), [.cells 40 [.int .i64 r1, .int .i64 r2, .bool r3, .int .i64 r4, .int .i64 r5, .int .i64 r6, .bool r7, .int .i64 r8], .cells 3 [.int .i64 r9]])) else none
  | _, _ => none
noncomputable def spec227_766 (fuel : Nat) : Ev.Spec := spg227_766 (F_slices_IndexFunc_api_Item_api_Item_766 fuel)
theorem ok227_766 (fuel : Nat) : FnOK Tryz.prog 227 (spec227_766 fuel) := by
  intro args objs kk r h
  unfold spec227_766 spg227_766 at h
  split at h
  · skip
    obtain ⟨hb, h⟩ := cond_some' h
    simp only [Bool.and_eq_true, Nat.beq_eq, decide_eq_true_eq] at hb
    obtain ⟨⟨⟨⟨rfl, rfl⟩, rfl⟩, rfl⟩, rfl⟩ := hb
    exact fok227_766 fuel _ _ kk r ((F227_766_eq fuel _ _ _ _ _ _ _ _ _ _ kk).trans h)
  · cases h
end Go.Proofs.YtipdidpalcmlhaaGreat

set_option linter.unusedVariables false
set_option linter.unusedSimpArgs false
set_option maxRecDepth 100000
set_option maxHeartbeats 2000000
namespace Go.Proofs.YtipdidpalcmlhaaGreat
open Go Ev
def kp161_766 (i : Nat) : Option (List Nat) := Ev.look i []
noncomputable def Gg161_766 (f227_766 : YF227_766) (f : Nat) : Option Ev.Spec := Ev.look f [(227, spg227_766 f227_766)]
noncomputable def G161_766 (fuel : Nat) : Nat → Option Ev.Spec := Gg161_766 (F_slices_IndexFunc_api_Item_api_Item_766 fuel)
noncomputable def J161_766 (fuel : Nat) (i : Nat) : Option Ev.Blk := Ev.look i []
noncomputable def F_slices_ContainsFunc_api_Item_api_Item_766 (fuel : Nat) (x0 : (List (Int × (Int × (Int × (Bool × (Int × (Int × (Int × (Int × (List Int))))))))))) (x1 : Int) (x2 : Int) (x3 : Bool) (x4 : Int) (x5 : Int) (x6 : Int) (x7 : Bool) (x8 : Int) (x9 : Int) (k0 : (Bool × Int × Int × Bool × Int × Int × Int × Bool × Int × Int) → Option Ans) : Option Ans :=
  (F_slices_IndexFunc_api_Item_api_Item_766 fuel (x0) (x1) (x2) (x3) (x4) (x5) (x6) (x7) (x8) (x9)
    (fun (y2_0, y2_1, y2_2, y2_3, y2_4, y2_5, y2_6, y2_7, y2_8, y2_9) =>
      k0 (Decidable.decide (y2_0 ≥ (0 : Int)), y2_1, y2_2, y2_3, y2_4, y2_5, y2_6, y2_7, y2_8, y2_9)))
abbrev YF161_766 : Type := ((List (Int × (Int × (Int × (Bool × (Int × (Int × (Int × (Int × (List Int))))))))))) → (Int) → (Int) → (Bool) → (Int) → (Int) → (Int) → (Bool) → (Int) → (Int) → ((Bool × Int × Int × Bool × Int × Int × Int × Bool × Int × Int) → Option Ans) → Option Ans
theorem F161_766_eqg (fuel : Nat) (f227_766 : YF227_766) (x0 : (List (Int × (Int × (Int × (Bool × (Int × (Int × (Int × (Int × (List Int))))))))))) (x1 : Int) (x2 : Int) (x3 : Bool) (x4 : Int) (x5 : Int) (x6 : Int) (x7 : Bool) (x8 : Int) (x9 : Int) (k : Ev.Cont) : evalFn tab (Gg161_766 f227_766) (J161_766 fuel) kp161_766 fuel Tryz.f161 [.c (.sl (.pair (.int .i64) (.pair (.int .i64) (.pair (.int .i64) (.pair .bool (.pair (.int .i64) (.pair (.int .i64) (.pair (.int .i64) (.pair (.int .i64) (.sl (.int .u8)))))))))) x0), .c (.clo 164 [0, 1])] [.cells 40 [.int .i64 x1, .int .i64 x2, .bool x3, .int .i64 x4, .int .i64 x5, .int .i64 x6, .bool x7, .int .i64 x8], .cells 3 [.int .i64 x9]] k = (fun  (k0 : (Bool × Int × Int × Bool × Int × Int × Int × Bool × Int × Int) → Option Ans) =>
  (f227_766 (x0) (x1) (x2) (x3) (x4) (x5) (x6) (x7) (x8) (x9)
    (fun (y2_0, y2_1, y2_2, y2_3, y2_4, y2_5, y2_6, y2_7, y2_8, y2_9) =>
      k0 (Decidable.decide (y2_0 ≥ (0 : Int)), y2_1, y2_2, y2_3, y2_4, y2_5, y2_6, y2_7, y2_8, y2_9)))) (fun r => match r with | (r0, r1, r2, r3, r4, r5, r6, r7, r8, r9) => k (.c (.bool r0), [.cells 40 [.int .i64 r1, .int .i64 r2, .bool r3, .int .i64 r4, .int .i64 r5, .int .i64 r6, .bool r7, .int .i64 r8], .cells 3 [.int .i64 r9]])) := by
  kernel_rfl
theorem F161_766_eq (fuel : Nat) (x0 : (List (Int × (Int × (Int × (Bool × (Int × (Int × (Int × (Int × (List Int))))))))))) (x1 : Int) (x2 : Int) (x3 : Bool) (x4 : Int) (x5 : Int) (x6 : Int) (x7 : Bool) (x8 : Int) (x9 : Int) (k : Ev.Cont) : evalFn tab (G161_766 fuel) (J161_766 fuel) kp161_766 fuel Tryz.f161 [.c (.sl (.pair (.int .i64) (.pair (.int .i64) (.pair (.int .i64) (.pair .bool (.pair (.int .i64) (.pair (.int .i64) (.pair (.int .i64) (.pair (.int .i64) (.sl (.int .u8)))))))))) x0), .c (.clo 164 [0, 1])] [.cells 40 [.int .i64 x1, .int .i64 x2, .bool x3, .int .i64 x4, .int .i64 x5, .int .i64 x6, .bool x7, .int .i64 x8], .cells 3 [.int .i64 x9]] k = F_slices_ContainsFunc_api_Item_api_Item_766 fuel x0 x1 x2 x3 x4 x5 x6 x7 x8 x9 (fun r => match r with | (r0, r1, r2, r3, r4, r5, r6, r7, r8, r9) => k (.c (.bool r0), [.cells 40 [.int .i64 r1, .int .i64 r2, .bool r3, .int .i64 r4, .int .i64 r5, .int .i64 r6, .bool r7, .int .i64 r8], .cells 3 [.int .i64 r9]])) :=
  F161_766_eqg fuel (F_slices_IndexFunc_api_Item_api_Item_766 fuel) x0 x1 x2 x3 x4 x5 x6 x7 x8 x9 k
theorem hG161_766 (fuel : Nat) : GOK Tryz.prog (G161_766 fuel) :=
  gok_cons ⟨ok227_766 fuel, enters_of Tryz.func227 (by kernel_rfl) rfl⟩ <|
  gok_nil
theorem fok161_766 (fuel : Nat) : FnOK Tryz.prog 161 (evalFn tab (G161_766 fuel) (J161_766 fuel) kp161_766 fuel Tryz.f161) :=
  fn_ok tab_ok (hG161_766 fuel) mixed Tryz.func161 (c := (Tryz.f161.body).getD .skip) rfl (fun q hq => by
    rw [(by kernel_rfl : obl (J161_766 fuel) ((Tryz.f161.body).getD .skip) = [])] at hq
    cases hq)
noncomputable def mt161_766 : List Ev.SV → List Ev.Ob → Bool := fun args objs => match args, objs with
  | [.c (.sl (.pair (.int .i64) (.pair (.int .i64) (.pair (.int .i64) (.pair .bool (.pair (.int .i64) (.pair (.int .i64) (.pair (.int .i64) (.pair (.int .i64) (.sl (.int .u8)))))))))) _), .c (.clo q0 [q1, q2])], [.cells q3 [.int .i64 _, .int .i64 _, .bool _, .int .i64 _, .int .i64 _, .int .i64 _, .bool _, .int .i64 _], .cells q4 [.int .i64 _]] => Nat.beq q0 164 && Nat.beq q1 0 && Nat.beq q2 1 && Nat.beq q3 40 && Nat.beq q4 3
  | _, _ => false
noncomputable def spg161_766 (F : YF161_766) : Ev.Spec := fun args objs k => match args, objs with
  | [.c (.sl (.pair (.int .i64) (.pair (.int .i64) (.pair (.int .i64) (.pair .bool (.pair (.int .i64) (.pair (.int .i64) (.pair (.int .i64) (.pair (.int .i64) (.sl (.int .u8)))))))))) x0), .c (.clo q0 [q1, q2])], [.cells q3 [.int .i64 x1, .int .i64 x2, .bool x3, .int .i64 x4, .int .i64 x5, .int .i64 x6, .bool x7, .int .i64 x8], .cells q4 [.int .i64 x9]] => bif Nat.beq q0 164 && Nat.beq q1 0 && Nat.beq q2 1 && Nat.beq q3 40 && Nat.beq q4 3 then F x0 x1 x2 x3 x4 x5 x6 x7 x8 x9 (fun r => match r with | (r0, r1, r2, r3, r4, r5, r6, r7, r8, r9) => k (.c (.bool r0), [.cells 40 [.int .i64 r1, .int .i64 r2, .bool r3, .int .i64 r4, .int .i64 r5, .int .i64 r6, .bool r7, .int .i64 r8], .cells 3 [.int .i64 r9]])) else none
  | _, _ => none
noncomputable def spec161_766 (fuel : Nat) : Ev.Spec := spg161_766 (F_slices_ContainsFunc_api_Item_api_Item_766 fuel)
theorem ok161_766 (fuel : Nat) : FnOK Tryz.prog 161 (spec161_766 fuel) := by
  intro args objs kk r h
  unfold spec161_766 spg161_766 at h
  split at h
  · skip
    obtain ⟨hb, h⟩ := cond_some' h
    simp only [Bool.and_eq_true, Nat.beq_eq, decide_eq_true_eq] at hb
    obtain ⟨⟨⟨⟨rfl, rfl⟩, rfl⟩, rfl⟩, rfl⟩ := hb
    exact fok161_766 fuel _ _ kk r ((F161_766_eq fuel _ _ _ _ _ _ _ _ _ _ kk).trans h)
  · cases h
end Go.Proofs.YtipdidpalcmlhaaGreat

set_option linter.unusedVariables false
set_option linter.unusedSimpArgs false
set_option maxRecDepth 100000
set_option maxHeartbeats 2000000
namespace Go.Proofs.YtipdidpalcmlhaaGreat
open Go Ev
def kp77 (i : Nat) : Option (List Nat) := Ev.look i []
noncomputable def Gg77 (f161_766 : YF161_766) (f : Nat) : Option Ev.Spec := Ev.look f [(161, spg161_766 f161_766)]
noncomputable def G77 (fuel : Nat) : Nat → Option Ev.Spec := Gg77 (F_slices_ContainsFunc_api_Item_api_Item_766 fuel)
noncomputable def J77 (fuel : Nat) (i : Nat) : Option Ev.Blk := Ev.look i []
noncomputable def F_text_right (fuel : Nat) (x0 : Int) (x1 : Int) (x2 : Bool) (x3 : Int) (x4 : Int) (x5 : Int) (x6 : Bool) (x7 : Int) (x8 : Int) (x9 : (List (Int × Int × Int × Bool × Int × Int × (Int × Int × (List Int))))) (k0 : (Bool) → Option Ans) : Option Ans :=
  bif Decidable.decide (x8 ≤ (60 : Int)) then
   bif Decidable.decide ((↑x9.length : Int) ≤ (300 : Int)) then
    (F_slices_ContainsFunc_api_Item_api_Item_766 fuel (x9) (x0) (x1) (x2) (x3) (x4) (x5) (x6) (x7) (x8)
      (fun (y4_0, y4_1, y4_2, y4_3, y4_4, y4_5, y4_6, y4_7, y4_8, y4_9) =>
        k0 !y4_0))
   else
    k0 Bool.false
  else
   k0 Bool.false
abbrev YF77 : Type := (Int) → (Int) → (Bool) → (Int) → (Int) → (Int) → (Bool) → (Int) → (Int) → ((List (Int × Int × Int × Bool × Int × Int × (Int × Int × (List Int))))) → ((Bool) → Option Ans) → Option Ans
theorem F77_eqg (fuel : Nat) (f161_766 : YF161_766) (x0 : Int) (x1 : Int) (x2 : Bool) (x3 : Int) (x4 : Int) (x5 : Int) (x6 : Bool) (x7 : Int) (x8 : Int) (x9 : (List (Int × Int × Int × Bool × Int × Int × (Int × Int × (List Int))))) (k : Ev.Cont) : evalFn tab (Gg77 f161_766) (J77 fuel) kp77 fuel Tryz.f77 [.agg [.int .i64 x0, .int .i64 x1, .bool x2, .int .i64 x3, .int .i64 x4, .int .i64 x5, .bool x6, .int .i64 x7], .c (.int .i64 x8), .c (.sl (.pair (.int .i64) (.pair (.int .i64) (.pair (.int .i64) (.pair .bool (.pair (.int .i64) (.pair (.int .i64) (.pair (.int .i64) (.pair (.int .i64) (.sl (.int .u8)))))))))) x9)] [] k = (fun  (k0 : (Bool) → Option Ans) =>
  bif Decidable.decide (x8 ≤ (60 : Int)) then
   bif Decidable.decide ((↑x9.length : Int) ≤ (300 : Int)) then
    (f161_766 (x9) (x0) (x1) (x2) (x3) (x4) (x5) (x6) (x7) (x8)
      (fun (y4_0, y4_1, y4_2, y4_3, y4_4, y4_5, y4_6, y4_7, y4_8, y4_9) =>
        k0 !y4_0))
   else
    k0 Bool.false
  else
   k0 Bool.false) (fun r => match r with | r0 => k (.c (.bool r0), [])) := by
  kernel_rfl
theorem F77_eq (fuel : Nat) (x0 : Int) (x1 : Int) (x2 : Bool) (x3 : Int) (x4 : Int) (x5 : Int) (x6 : Bool) (x7 : Int) (x8 : Int) (x9 : (List (Int × Int × Int × Bool × Int × Int × (Int × Int × (List Int))))) (k : Ev.Cont) : evalFn tab (G77 fuel) (J77 fuel) kp77 fuel Tryz.f77 [.agg [.int .i64 x0, .int .i64 x1, .bool x2, .int .i64 x3, .int .i64 x4, .int .i64 x5, .bool x6, .int .i64 x7], .c (.int .i64 x8), .c (.sl (.pair (.int .i64) (.pair (.int .i64) (.pair (.int .i64) (.pair .bool (.pair (.int .i64) (.pair (.int .i64) (.pair (.int .i64) (.pair (.int .i64) (.sl (.int .u8)))))))))) x9)] [] k = F_text_right fuel x0 x1 x2 x3 x4 x5 x6 x7 x8 x9 (fun r => match r with | r0 => k (.c (.bool r0), [])) :=
  F77_eqg fuel (F_slices_ContainsFunc_api_Item_api_Item_766 fuel) x0 x1 x2 x3 x4 x5 x6 x7 x8 x9 k
theorem hG77 (fuel : Nat) : GOK Tryz.prog (G77 fuel) :=
  gok_cons ⟨ok161_766 fuel, enters_of Tryz.func161 (by kernel_rfl) rfl⟩ <|
  gok_nil
theorem fok77 (fuel : Nat) : FnOK Tryz.prog 77 (evalFn tab (G77 fuel) (J77 fuel) kp77 fuel Tryz.f77) :=
  fn_ok tab_ok (hG77 fuel) mixed Tryz.func77 (c := (Tryz.f77.body).getD .skip) rfl (fun q hq => by
    rw [(by kernel_rfl : obl (J77 fuel) ((Tryz.f77.body).getD .skip) = [])] at hq
    cases hq)
noncomputable def mt77 : List Ev.SV → List Ev.Ob → Bool := fun args objs => match args, objs with
  | [.agg [.int .i64 _, .int .i64 _, .bool _, .int .i64 _, .int .i64 _, .int .i64 _, .bool _, .int .i64 _], .c (.int .i64 _), .c (.sl (.pair (.int .i64) (.pair (.int .i64) (.pair (.int .i64) (.pair .bool (.pair (.int .i64) (.pair (.int .i64) (.pair (.int .i64) (.pair (.int .i64) (.sl (.int .u8)))))))))) _)], [] => true
  | _, _ => false
noncomputable def spg77 (F : YF77) : Ev.Spec := fun args objs k => match args, objs with
  | [.agg [.int .i64 x0, .int .i64 x1, .bool x2, .int .i64 x3, .int .i64 x4, .int .i64 x5, .bool x6, .int .i64 x7], .c (.int .i64 x8), .c (.sl (.pair (.int .i64) (.pair (.int .i64) (.pair (.int .i64) (.pair .bool (.pair (.int .i64) (.pair (.int .i64) (.pair (.int .i64) (.pair (.int .i64) (.sl (.int .u8)))))))))) x9)], [] => bif true then F x0 x1 x2 x3 x4 x5 x6 x7 x8 x9 (fun r => match r with | r0 => k (.c (.bool r0), [])) else none
  | _, _ => none
noncomputable def spec77 (fuel : Nat) : Ev.Spec := spg77 (F_text_right fuel)
theorem ok77 (fuel : Nat) : FnOK Tryz.prog 77 (spec77 fuel) := by
  intro args objs kk r h
  unfold spec77 spg77 at h
  split at h
  · skip
    obtain ⟨hb, h⟩ := cond_some' h
    simp only [Bool.and_eq_true, Nat.beq_eq, decide_eq_true_eq] at hb
    clear hb
    exact fok77 fuel _ _ kk r ((F77_eq fuel _ _ _ _ _ _ _ _ _ _ kk).trans h)
  · cases h
end Go.Proofs.YtipdidpalcmlhaaGreat

set_option linter.unusedVariables false
set_option linter.unusedSimpArgs false
set_option maxRecDepth 100000
set_option maxHeartbeats 2000000
namespace Go.Proofs.YtipdidpalcmlhaaGreat
open Go Ev
def kp29 (i : Nat) : Option (List Nat) := Ev.look i []
noncomputable def Gg29 (f73 : YF73) (f77 : YF77) (f99 : YF99) (f : Nat) : Option Ev.Spec := Ev.look f [(73, spg73 f73), (77, spg77 f77), (99, spg99 f99)]
noncomputable def G29 (fuel : Nat) : Nat → Option Ev.Spec := Gg29 (F_text_begun fuel) (F_text_right fuel) (F_text_place fuel)
noncomputable def J29 (fuel : Nat) (i : Nat) : Option Ev.Blk := Ev.look i []
noncomputable def F_text_Place (fuel : Nat) (x0 : Int) (x1 : Int) (x2 : Bool) (x3 : Int) (x4 : Int) (x5 : Int) (x6 : Bool) (x7 : Int) (x8 : (List (Int × Int × (List Int)))) (x9 : Int) (x10 : Int) (x11 : Int) (x12 : Bool) (x13 : Int) (x14 : Int) (x15 : Int) (x16 : Int) (x17 : (List Int)) (k0 : (Int × Int × Int) → Option Ans) : Option Ans :=
  (F_text_begun fuel (x0) (x1) (x2) (x3) (x4) (x5) (x6) (x7) (x8) ([(x9, x10, x11, x12, x13, x14, x15, x16, x17)])
    (fun y2 =>
      bif y2 != (0 : Int) then
       k0 ((0 : Int), (0 : Int), y2)
      else
       (F_text_right fuel (x0) (x1) (x2) (x3) (x4) (x5) (x6) (x7) ((↑x8.length : Int)) ([(x9, x10, x11, x12, x13, x14, x15, x16, x17)])
         (fun y7 =>
           bif !y7 then
            k0 ((0 : Int), (0 : Int), (2 : Int))
           else
            (F_text_place fuel (x0) (x1) (x2) (x3) (x4) (x5) (x6) (x7) (x8) (x9) (x10) (x11) (x12) (x13) (x14) (x15) (x16) (x17)
              (fun (y12_0, y12_1) =>
                k0 (y12_0, y12_1, (0 : Int))))))))
abbrev YF29 : Type := (Int) → (Int) → (Bool) → (Int) → (Int) → (Int) → (Bool) → (Int) → ((List (Int × Int × (List Int)))) → (Int) → (Int) → (Int) → (Bool) → (Int) → (Int) → (Int) → (Int) → ((List Int)) → ((Int × Int × Int) → Option Ans) → Option Ans
theorem F29_eqg (fuel : Nat) (f73 : YF73) (f77 : YF77) (f99 : YF99) (x0 : Int) (x1 : Int) (x2 : Bool) (x3 : Int) (x4 : Int) (x5 : Int) (x6 : Bool) (x7 : Int) (x8 : (List (Int × Int × (List Int)))) (x9 : Int) (x10 : Int) (x11 : Int) (x12 : Bool) (x13 : Int) (x14 : Int) (x15 : Int) (x16 : Int) (x17 : (List Int)) (k : Ev.Cont) : evalFn tab (Gg29 f73 f77 f99) (J29 fuel) kp29 fuel Tryz.f29 [.agg [.int .i64 x0, .int .i64 x1, .bool x2, .int .i64 x3, .int .i64 x4, .int .i64 x5, .bool x6, .int .i64 x7], .c (.sl (.pair (.int .i64) (.pair (.int .i64) (.sl (.int .u8)))) x8), .agg [.int .i64 x9, .int .i64 x10, .int .i64 x11, .bool x12, .int .i64 x13, .int .i64 x14, .int .i64 x15, .int .i64 x16, .sl (.int .u8) x17]] [] k = (fun  (k0 : (Int × Int × Int) → Option Ans) =>
  (f73 (x0) (x1) (x2) (x3) (x4) (x5) (x6) (x7) (x8) ([(x9, x10, x11, x12, x13, x14, x15, x16, x17)])
    (fun y2 =>
      bif y2 != (0 : Int) then
       k0 ((0 : Int), (0 : Int), y2)
      else
       (f77 (x0) (x1) (x2) (x3) (x4) (x5) (x6) (x7) ((↑x8.length : Int)) ([(x9, x10, x11, x12, x13, x14, x15, x16, x17)])
         (fun y7 =>
           bif !y7 then
            k0 ((0 : Int), (0 : Int), (2 : Int))
           else
            (f99 (x0) (x1) (x2) (x3) (x4) (x5) (x6) (x7) (x8) (x9) (x10) (x11) (x12) (x13) (x14) (x15) (x16) (x17)
              (fun (y12_0, y12_1) =>
                k0 (y12_0, y12_1, (0 : Int))))))))) (fun r => match r with | (r0, r1, r2) => k (.tup [(false, [.int .i64 r0]), (false, [.int .i64 r1]), (false, [.int .i64 r2])], [])) := by
  kernel_rfl
theorem F29_eq (fuel : Nat) (x0 : Int) (x1 : Int) (x2 : Bool) (x3 : Int) (x4 : Int) (x5 : Int) (x6 : Bool) (x7 : Int) (x8 : (List (Int × Int × (List Int)))) (x9 : Int) (x10 : Int) (x11 : Int) (x12 : Bool) (x13 : Int) (x14 : Int) (x15 : Int) (x16 : Int) (x17 : (List Int)) (k : Ev.Cont) : evalFn tab (G29 fuel) (J29 fuel) kp29 fuel Tryz.f29 [.agg [.int .i64 x0, .int .i64 x1, .bool x2, .int .i64 x3, .int .i64 x4, .int .i64 x5, .bool x6, .int .i64 x7], .c (.sl (.pair (.int .i64) (.pair (.int .i64) (.sl (.int .u8)))) x8), .agg [.int .i64 x9, .int .i64 x10, .int .i64 x11, .bool x12, .int .i64 x13, .int .i64 x14, .int .i64 x15, .int .i64 x16, .sl (.int .u8) x17]] [] k = F_text_Place fuel x0 x1 x2 x3 x4 x5 x6 x7 x8 x9 x10 x11 x12 x13 x14 x15 x16 x17 (fun r => match r with | (r0, r1, r2) => k (.tup [(false, [.int .i64 r0]), (false, [.int .i64 r1]), (false, [.int .i64 r2])], [])) :=
  F29_eqg fuel (F_text_begun fuel) (F_text_right fuel) (F_text_place fuel) x0 x1 x2 x3 x4 x5 x6 x7 x8 x9 x10 x11 x12 x13 x14 x15 x16 x17 k
theorem hG29 (fuel : Nat) : GOK Tryz.prog (G29 fuel) :=
  gok_cons ⟨ok73 fuel, enters_of Tryz.func73 (by kernel_rfl) rfl⟩ <|
  gok_cons ⟨ok77 fuel, enters_of Tryz.func77 (by kernel_rfl) rfl⟩ <|
  gok_cons ⟨ok99 fuel, enters_of Tryz.func99 (by kernel_rfl) rfl⟩ <|
  gok_nil
theorem fok29 (fuel : Nat) : FnOK Tryz.prog 29 (evalFn tab (G29 fuel) (J29 fuel) kp29 fuel Tryz.f29) :=
  fn_ok tab_ok (hG29 fuel) mixed Tryz.func29 (c := (Tryz.f29.body).getD .skip) rfl (fun q hq => by
    rw [(by kernel_rfl : obl (J29 fuel) ((Tryz.f29.body).getD .skip) = [])] at hq
    cases hq)
noncomputable def mt29 : List Ev.SV → List Ev.Ob → Bool := fun args objs => match args, objs with
  | [.agg [.int .i64 _, .int .i64 _, .bool _, .int .i64 _, .int .i64 _, .int .i64 _, .bool _, .int .i64 _], .c (.sl (.pair (.int .i64) (.pair (.int .i64) (.sl (.int .u8)))) _), .agg [.int .i64 _, .int .i64 _, .int .i64 _, .bool _, .int .i64 _, .int .i64 _, .int .i64 _, .int .i64 _, .sl (.int .u8) _]], [] => true
  | _, _ => false
noncomputable def spg29 (F : YF29) : Ev.Spec := fun args objs k => match args, objs with
  | [.agg [.int .i64 x0, .int .i64 x1, .bool x2, .int .i64 x3, .int .i64 x4, .int .i64 x5, .bool x6, .int .i64 x7], .c (.sl (.pair (.int .i64) (.pair (.int .i64) (.sl (.int .u8)))) x8), .agg [.int .i64 x9, .int .i64 x10, .int .i64 x11, .bool x12, .int .i64 x13, .int .i64 x14, .int .i64 x15, .int .i64 x16, .sl (.int .u8) x17]], [] => bif true then F x0 x1 x2 x3 x4 x5 x6 x7 x8 x9 x10 x11 x12 x13 x14 x15 x16 x17 (fun r => match r with | (r0, r1, r2) => k (.tup [(false, [.int .i64 r0]), (false, [.int .i64 r1]), (false, [.int .i64 r2])], [])) else none
  | _, _ => none
noncomputable def spec29 (fuel : Nat) : Ev.Spec := spg29 (F_text_Place fuel)
theorem ok29 (fuel : Nat) : FnOK Tryz.prog 29 (spec29 fuel) := by
  intro args objs kk r h
  unfold spec29 spg29 at h
  split at h
  · skip
    obtain ⟨hb, h⟩ := cond_some' h
    simp only [Bool.and_eq_true, Nat.beq_eq, decide_eq_true_eq] at hb
    clear hb
    exact fok29 fuel _ _ kk r ((F29_eq fuel _ _ _ _ _ _ _ _ _ _ _ _ _ _ _ _ _ _ kk).trans h)
  · cases h
end Go.Proofs.YtipdidpalcmlhaaGreat

set_option linter.unusedVariables false
set_option linter.unusedSimpArgs false
set_option maxRecDepth 100000
set_option maxHeartbeats 2000000
namespace Go.Proofs.YtipdidpalcmlhaaGreat
open Go Ev
def kp8 (i : Nat) : Option (List Nat) := Ev.look i [(9, [3, 4, 5, 6, 11, 15, 49, 50]), (100000, [3, 4, 5, 11, 15]), (400000, [10])]
noncomputable def Gg8 (f22 : YF22) (f29 : YF29) (f33 : YF33) (f34 : YF34) (f35 : YF35) (f : Nat) : Option Ev.Spec := Ev.look f [(22, spg22 f22), (29, spg29 f29), (33, spg33 f33), (34, spg34 f34), (35, spg35 f35)]
noncomputable def G8 (fuel : Nat) : Nat → Option Ev.Spec := Gg8 (F_law10_Awake fuel) (F_text_Place fuel) (F_text_At fuel) (F_ref10_At fuel) (F_ref10_SameItem fuel)
noncomputable def S_law10_TextAt_0 (fuel : Nat) (v : Int × Int × Int × Int × Int × Int × Bool × Int × Int × Int × Bool × Int × Int × Int × (List Int) × Int × Int × Int × Bool × Int × Int × Int × Int × (List (Int × (Int × (List Int)))) × (List Int)) (c : (Int × Int × Int × Int × Int × Int × Bool × Int × Int × Int × Bool × Int × Int × Int × (List Int) × Int × Int × Int × Bool × Int × Int × Int × Int × (List (Int × (Int × (List Int)))) × (List Int)) → Option Ans) (B : (Int × Int × Int × Int × Bool × Int × Int × Int × Bool × Int × Int × Int × Int × Bool × Int × Int × Int × Int × (List (Int × (Int × (List Int)))) × (List Int) → Option Ans)) : Option Ans := match v, B with
  | (x0, x1, x2, x3, x4, x5, x6, x7, x8, x9, x10, x11, x12, x13, x14, x15, x16, x17, x18, x19, x20, x21, x22, x23, x24), b =>
   bif Decidable.decide (x3 < x2) then
      bif Decidable.decide ((x23.length + (1 : Nat)) * (40 : Nat) ≤ (140737488355328 : Nat) ∧ x23.length + (1 : Nat) ≤ (140737488355328 : Nat)) then
      c (x0, x1, x2, Go.IntKind.i64.wrap (x3 + (1 : Int)), x4, x5, x6, x7, x8, x9, x10, x11, x12, x13, x14, x15, x16, x17, x18, x19, x20, x21, x22, x23 ++ [(x12, x13, x14)], x24)
      else none
     else
      b (x0, x1, x4, x5, x6, x7, x8, x9, x10, x11, x15, x16, x17, x18, x19, x20, x21, x22, x23, x24)
noncomputable def L_law10_TextAt_0 (fuel : Nat) (v : Int × Int × Int × Int × Int × Int × Bool × Int × Int × Int × Bool × Int × Int × Int × (List Int) × Int × Int × Int × Bool × Int × Int × Int × Int × (List (Int × (Int × (List Int)))) × (List Int)) (b : (Int × Int × Int × Int × Bool × Int × Int × Int × Bool × Int × Int × Int × Int × Bool × Int × Int × Int × Int × (List (Int × (Int × (List Int)))) × (List Int) → Option Ans)) : Option Ans := iter (S_law10_TextAt_0 fuel) fuel v b
noncomputable def J8_0 (fuel : Nat) (i : Nat) : Option Ev.Blk := Ev.look i []
noncomputable def T8_0 (v : Int × Int × Int × Int × Int × Int × Bool × Int × Int × Int × Bool × Int × Int × Int × (List Int) × Int × Int × Int × Bool × Int × Int × Int × Int × (List (Int × (Int × (List Int)))) × (List Int)) : Ev.St := match v with | (x0, x1, x2, x3, x4, x5, x6, x7, x8, x9, x10, x11, x12, x13, x14, x15, x16, x17, x18, x19, x20, x21, x22, x23, x24) => ⟨[(3, .c (.int .i64 x0)), (4, .c (.int .i64 x1)), (5, .c (.ptr 0 0)), (6, .c (.ptr 1 0)), (11, .c (.ptr 2 0)), (15, .c (.own 3)), (49, .c (.int .i64 x2)), (50, .c (.int .i64 x3))], [(0, .cells 40 [.int .i64 x4, .int .i64 x5, .bool x6, .int .i64 x7, .int .i64 x8, .int .i64 x9, .bool x10, .int .i64 x11]), (1, .cells 51 [.int .i64 x12, .int .i64 x13, .sl (.int .u8) x14]), (2, .cells 53 [.int .i64 x15, .int .i64 x16, .int .i64 x17, .bool x18, .int .i64 x19, .int .i64 x20, .int .i64 x21, .int .i64 x22, .own 4]), (3, .vec 51 (.pair (.int .i64) (.pair (.int .i64) (.sl (.int .u8)))) x23 true), (4, .vec 5 (.int .u8) x24 true)], 5, 0⟩
noncomputable def E8_0 (K : Ev.Ex → Ev.St → Option Ans) : (Int × Int × Int × Int × Bool × Int × Int × Int × Bool × Int × Int × Int × Int × Bool × Int × Int × Int × Int × (List (Int × (Int × (List Int)))) × (List Int) → Option Ans) := (fun v => match v with | (x0, x1, x2, x3, x4, x5, x6, x7, x8, x9, x10, x11, x12, x13, x14, x15, x16, x17, x18, x19) => K .normal ⟨[(3, .c (.int .i64 x0)), (4, .c (.int .i64 x1)), (5, .c (.ptr 0 0)), (11, .c (.ptr 1 0)), (15, .c (.own 2))], [(0, .cells 40 [.int .i64 x2, .int .i64 x3, .bool x4, .int .i64 x5, .int .i64 x6, .int .i64 x7, .bool x8, .int .i64 x9]), (1, .cells 53 [.int .i64 x10, .int .i64 x11, .int .i64 x12, .bool x13, .int .i64 x14, .int .i64 x15, .int .i64 x16, .int .i64 x17, .own 3]), (2, .vec 51 (.pair (.int .i64) (.pair (.int .i64) (.sl (.int .u8)))) x18 true), (3, .vec 5 (.int .u8) x19 true)], 4, 0⟩)
theorem S8_0_okg (fuel : Nat) (f22 : YF22) (f29 : YF29) (f33 : YF33) (f34 : YF34) (f35 : YF35) (R : Ev.St → Option Ans) (K : Ev.Ex → Ev.St → Option Ans) (x0 : Int) (x1 : Int) (x2 : Int) (x3 : Int) (x4 : Int) (x5 : Int) (x6 : Bool) (x7 : Int) (x8 : Int) (x9 : Int) (x10 : Bool) (x11 : Int) (x12 : Int) (x13 : Int) (x14 : (List Int)) (x15 : Int) (x16 : Int) (x17 : Int) (x18 : Bool) (x19 : Int) (x20 : Int) (x21 : Int) (x22 : Int) (x23 : (List (Int × (Int × (List Int))))) (x24 : (List Int)) : evalCode tab (Gg8 f22 f29 f33 f34 f35) (J8_0 fuel) kp8 fuel (bodyOf 0 Tryz.f8) (T8_0 (x0, x1, x2, x3, x4, x5, x6, x7, x8, x9, x10, x11, x12, x13, x14, x15, x16, x17, x18, x19, x20, x21, x22, x23, x24)) (lc kp8 9 0 R K) = (fun (c : (Int × Int × Int × Int × Int × Int × Bool × Int × Int × Int × Bool × Int × Int × Int × (List Int) × Int × Int × Int × Bool × Int × Int × Int × Int × (List (Int × (Int × (List Int)))) × (List Int)) → Option Ans) (B : (Int × Int × Int × Int × Bool × Int × Int × Int × Bool × Int × Int × Int × Int × Bool × Int × Int × Int × Int × (List (Int × (Int × (List Int)))) × (List Int) → Option Ans)) => match B with
  | b =>
   bif Decidable.decide (x3 < x2) then
      bif Decidable.decide ((x23.length + (1 : Nat)) * (40 : Nat) ≤ (140737488355328 : Nat) ∧ x23.length + (1 : Nat) ≤ (140737488355328 : Nat)) then
      c (x0, x1, x2, Go.IntKind.i64.wrap (x3 + (1 : Int)), x4, x5, x6, x7, x8, x9, x10, x11, x12, x13, x14, x15, x16, x17, x18, x19, x20, x21, x22, x23 ++ [(x12, x13, x14)], x24)
      else none
     else
      b (x0, x1, x4, x5, x6, x7, x8, x9, x10, x11, x15, x16, x17, x18, x19, x20, x21, x22, x23, x24)) (fun v => R (T8_0 v)) (E8_0 K) := by
  kernel_rfl
theorem S8_0_ok (fuel : Nat) (R : Ev.St → Option Ans) (K : Ev.Ex → Ev.St → Option Ans) (x0 : Int) (x1 : Int) (x2 : Int) (x3 : Int) (x4 : Int) (x5 : Int) (x6 : Bool) (x7 : Int) (x8 : Int) (x9 : Int) (x10 : Bool) (x11 : Int) (x12 : Int) (x13 : Int) (x14 : (List Int)) (x15 : Int) (x16 : Int) (x17 : Int) (x18 : Bool) (x19 : Int) (x20 : Int) (x21 : Int) (x22 : Int) (x23 : (List (Int × (Int × (List Int))))) (x24 : (List Int)) : evalCode tab (G8 fuel) (J8_0 fuel) kp8 fuel (bodyOf 0 Tryz.f8) (T8_0 (x0, x1, x2, x3, x4, x5, x6, x7, x8, x9, x10, x11, x12, x13, x14, x15, x16, x17, x18, x19, x20, x21, x22, x23, x24)) (lc kp8 9 0 R K) = S_law10_TextAt_0 fuel (x0, x1, x2, x3, x4, x5, x6, x7, x8, x9, x10, x11, x12, x13, x14, x15, x16, x17, x18, x19, x20, x21, x22, x23, x24) (fun v => R (T8_0 v)) (E8_0 K) :=
  S8_0_okg fuel (F_law10_Awake fuel) (F_text_Place fuel) (F_text_At fuel) (F_ref10_At fuel) (F_ref10_SameItem fuel) R K x0 x1 x2 x3 x4 x5 x6 x7 x8 x9 x10 x11 x12 x13 x14 x15 x16 x17 x18 x19 x20 x21 x22 x23 x24
noncomputable def B8_0 (fuel : Nat) : Ev.Blk := fun st K => match canonO (kp8 9) st with
  | some s => (match s with
    | ⟨[(q0, .c (.int .i64 x0)), (q1, .c (.int .i64 x1)), (q2, .c (.ptr q3 q4)), (q5, .c (.ptr q6 q7)), (q8, .c (.ptr q9 q10)), (q11, .c (.own q12)), (q13, .c (.int .i64 x2)), (q14, .c (.int .i64 x3))], [(q15, .cells q16 [.int .i64 x4, .int .i64 x5, .bool x6, .int .i64 x7, .int .i64 x8, .int .i64 x9, .bool x10, .int .i64 x11]), (q17, .cells q18 [.int .i64 x12, .int .i64 x13, .sl (.int .u8) x14]), (q19, .cells q20 [.int .i64 x15, .int .i64 x16, .int .i64 x17, .bool x18, .int .i64 x19, .int .i64 x20, .int .i64 x21, .int .i64 x22, .own q21]), (q22, .vec q23 (.pair (.int .i64) (.pair (.int .i64) (.sl (.int .u8)))) x23 true), (q24, .vec q25 (.int .u8) x24 true)], q26, q27⟩ => bif Nat.beq q0 3 && Nat.beq q1 4 && Nat.beq q2 5 && Nat.beq q3 0 && Nat.beq q4 0 && Nat.beq q5 6 && Nat.beq q6 1 && Nat.beq q7 0 && Nat.beq q8 11 && Nat.beq q9 2 && Nat.beq q10 0 && Nat.beq q11 15 && Nat.beq q12 3 && Nat.beq q13 49 && Nat.beq q14 50 && Nat.beq q15 0 && Nat.beq q16 40 && Nat.beq q17 1 && Nat.beq q18 51 && Nat.beq q19 2 && Nat.beq q20 53 && Nat.beq q21 4 && Nat.beq q22 3 && Nat.beq q23 51 && Nat.beq q24 4 && Nat.beq q25 5 && Nat.beq q26 5 && Nat.beq q27 0 then iter (S_law10_TextAt_0 fuel) fuel (x0, x1, x2, x3, x4, x5, x6, x7, x8, x9, x10, x11, x12, x13, x14, x15, x16, x17, x18, x19, x20, x21, x22, x23, x24) (E8_0 K) else none
    | _ => none)
  | none => none
theorem B8_0_ok (fuel : Nat) (st : Ev.St) (K : Ev.Ex → Ev.St → Option Ans) (r : Ans) (h : B8_0 fuel st K = some r) : evalCode tab (G8 fuel) (J8_0 fuel) kp8 fuel (.block 0 (.loop (bodyOf 0 Tryz.f8))) st K = some r := by
  unfold B8_0 at h
  split at h
  · rename_i s hs
    split at h
    · skip
      obtain ⟨hb, h⟩ := cond_some' h
      simp only [Bool.and_eq_true, Nat.beq_eq, decide_eq_true_eq] at hb
      obtain ⟨⟨⟨⟨⟨⟨⟨⟨⟨⟨⟨⟨⟨⟨⟨⟨⟨⟨⟨⟨⟨⟨⟨⟨⟨⟨⟨rfl, rfl⟩, rfl⟩, rfl⟩, rfl⟩, rfl⟩, rfl⟩, rfl⟩, rfl⟩, rfl⟩, rfl⟩, rfl⟩, rfl⟩, rfl⟩, rfl⟩, rfl⟩, rfl⟩, rfl⟩, rfl⟩, rfl⟩, rfl⟩, rfl⟩, rfl⟩, rfl⟩, rfl⟩, rfl⟩, rfl⟩, rfl⟩ := hb
      exact blk_loop (S := T8_0) (ks := E8_0) (step := S_law10_TextAt_0 fuel) (v := (_, _, _, _, _, _, _, _, _, _, _, _, _, _, _, _, _, _, _, _, _, _, _, _, _)) (by kernel_rfl) (by kernel_rfl) (fun R K v => by obtain ⟨x0, x1, x2, x3, x4, x5, x6, x7, x8, x9, x10, x11, x12, x13, x14, x15, x16, x17, x18, x19, x20, x21, x22, x23, x24⟩ := v; exact S8_0_ok fuel R K x0 x1 x2 x3 x4 x5 x6 x7 x8 x9 x10 x11 x12 x13 x14 x15 x16 x17 x18 x19 x20 x21 x22 x23 x24) hs h
    · cases h
  · cases h
noncomputable def J8 (fuel : Nat) (i : Nat) : Option Ev.Blk := Ev.look i [(100000, B8_0 fuel)]
noncomputable def F_law10_TextAt (fuel : Nat) (x0 : Int) (x1 : Int) (x2 : Bool) (x3 : Int) (x4 : Int) (x5 : Int) (x6 : Bool) (x7 : Int) (x8 : Int) (x9 : Int) (x10 : (List Int)) (x11 : Int) (x12 : Int) (x13 : Int) (k0 : (Bool) → Option Ans) : Option Ans :=
  (F_text_At fuel (x0) (x1) (x2) (x3) (x4) (x5) (x6) (x7) (x8) (x9) (x10) (x11) (x12) (x13)
    (fun (y2_0, y2_1, y2_2, y2_3, y2_4, y2_5, y2_6, y2_7, y2_8, y2_9) =>
      (F_ref10_At fuel (x0) (x1) (x2) (x3) (x4) (x5) (x6) (x7) (x8) (x9) (x10) (x11) (x12) (x13)
        (fun (y6_0, y6_1, y6_2, y6_3, y6_4, y6_5, y6_6, y6_7, y6_8, y6_9) =>
          bif y2_8 != y6_8 then
           k0 Bool.false
          else
           (F_ref10_SameItem fuel (y2_0) (y2_1) (y2_2) (y2_3) (y2_4) (y2_5) (y2_6) (y2_7) (y2_9) (y6_0) (y6_1) (y6_2) (y6_3) (y6_4) (y6_5) (y6_6) (y6_7) (y6_9)
             (fun y11 =>
               bif !y11 then
                k0 Bool.false
               else
                bif y2_8 != (0 : Int) then
                 (F_law10_Awake fuel
                   (fun y17 =>
                     k0 y17))
                else
                 (L_law10_TextAt_0 fuel (x12, x13, Go.IntKind.i64.wrap (x11 + (1 : Int)), (0 : Int), x0, x1, x2, x3, x4, x5, x6, x7, x8, x9, x10, y2_0, y2_1, y2_2, y2_3, y2_4, y2_5, y2_6, y2_7, [], y2_9)
                   (fun (b0_0, b0_1, b0_2, b0_3, b0_4, b0_5, b0_6, b0_7, b0_8, b0_9, b0_10, b0_11, b0_12, b0_13, b0_14, b0_15, b0_16, b0_17, b0_18, b0_19) =>
                     (F_text_Place fuel (b0_2) (b0_3) (b0_4) (b0_5) (b0_6) (b0_7) (b0_8) (b0_9) (b0_18) (b0_10) (b0_11) (b0_12) (b0_13) (b0_14) (b0_15) (b0_16) (b0_17) (b0_19)
                       (fun (y21_0, y21_1, y21_2) =>
                         bif y21_2 == (0 : Int) then
                          bif y21_0 == b0_0 then
                           bif y21_1 == b0_1 then
                            (F_law10_Awake fuel
                              (fun y28 =>
                                k0 y28))
                           else
                            k0 Bool.false
                          else
                           k0 Bool.false
                         else
                          k0 Bool.false))))))))))
abbrev YF8 : Type := (Int) → (Int) → (Bool) → (Int) → (Int) → (Int) → (Bool) → (Int) → (Int) → (Int) → ((List Int)) → (Int) → (Int) → (Int) → ((Bool) → Option Ans) → Option Ans
theorem F8_eqg (fuel : Nat) (f22 : YF22) (f29 : YF29) (f33 : YF33) (f34 : YF34) (f35 : YF35) (x0 : Int) (x1 : Int) (x2 : Bool) (x3 : Int) (x4 : Int) (x5 : Int) (x6 : Bool) (x7 : Int) (x8 : Int) (x9 : Int) (x10 : (List Int)) (x11 : Int) (x12 : Int) (x13 : Int) (k : Ev.Cont) : evalFn tab (Gg8 f22 f29 f33 f34 f35) (J8 fuel) kp8 fuel Tryz.f8 [.agg [.int .i64 x0, .int .i64 x1, .bool x2, .int .i64 x3, .int .i64 x4, .int .i64 x5, .bool x6, .int .i64 x7], .agg [.int .i64 x8, .int .i64 x9, .sl (.int .u8) x10], .c (.int .i64 x11), .c (.int .i64 x12), .c (.int .i64 x13)] [] k = (fun  (k0 : (Bool) → Option Ans) =>
  (f33 (x0) (x1) (x2) (x3) (x4) (x5) (x6) (x7) (x8) (x9) (x10) (x11) (x12) (x13)
    (fun (y2_0, y2_1, y2_2, y2_3, y2_4, y2_5, y2_6, y2_7, y2_8, y2_9) =>
      (f34 (x0) (x1) (x2) (x3) (x4) (x5) (x6) (x7) (x8) (x9) (x10) (x11) (x12) (x13)
        (fun (y6_0, y6_1, y6_2, y6_3, y6_4, y6_5, y6_6, y6_7, y6_8, y6_9) =>
          bif y2_8 != y6_8 then
           k0 Bool.false
          else
           (f35 (y2_0) (y2_1) (y2_2) (y2_3) (y2_4) (y2_5) (y2_6) (y2_7) (y2_9) (y6_0) (y6_1) (y6_2) (y6_3) (y6_4) (y6_5) (y6_6) (y6_7) (y6_9)
             (fun y11 =>
               bif !y11 then
                k0 Bool.false
               else
                bif y2_8 != (0 : Int) then
                 (f22
                   (fun y17 =>
                     k0 y17))
                else
                 (L_law10_TextAt_0 fuel (x12, x13, Go.IntKind.i64.wrap (x11 + (1 : Int)), (0 : Int), x0, x1, x2, x3, x4, x5, x6, x7, x8, x9, x10, y2_0, y2_1, y2_2, y2_3, y2_4, y2_5, y2_6, y2_7, [], y2_9)
                   (fun (b0_0, b0_1, b0_2, b0_3, b0_4, b0_5, b0_6, b0_7, b0_8, b0_9, b0_10, b0_11, b0_12, b0_13, b0_14, b0_15, b0_16, b0_17, b0_18, b0_19) =>
                     (f29 (b0_2) (b0_3) (b0_4) (b0_5) (b0_6) (b0_7) (b0_8) (b0_9) (b0_18) (b0_10) (b0_11) (b0_12) (b0_13) (b0_14) (b0_15) (b0_16) (b0_17) (b0_19)
                       (fun (y21_0, y21_1, y21_2) =>
                         bif y21_2 == (0 : Int) then
                          bif y21_0 == b0_0 then
                           bif y21_1 == b0_1 then
                            (f22
                              (fun y28 =>
                                k0 y28))
                           else
                            k0 Bool.false
                          else
                           k0 Bool.false
                         else
                          k0 Bool.false))))))))))) (fun r => match r with | r0 => k (.c (.bool r0), [])) := by
  kernel_rfl
theorem F8_eq (fuel : Nat) (x0 : Int) (x1 : Int) (x2 : Bool) (x3 : Int) (x4 : Int) (x5 : Int) (x6 : Bool) (x7 : Int) (x8 : Int) (x9 : Int) (x10 : (List Int)) (x11 : Int) (x12 : Int) (x13 : Int) (k : Ev.Cont) : evalFn tab (G8 fuel) (J8 fuel) kp8 fuel Tryz.f8 [.agg [.int .i64 x0, .int .i64 x1, .bool x2, .int .i64 x3, .int .i64 x4, .int .i64 x5, .bool x6, .int .i64 x7], .agg [.int .i64 x8, .int .i64 x9, .sl (.int .u8) x10], .c (.int .i64 x11), .c (.int .i64 x12), .c (.int .i64 x13)] [] k = F_law10_TextAt fuel x0 x1 x2 x3 x4 x5 x6 x7 x8 x9 x10 x11 x12 x13 (fun r => match r with | r0 => k (.c (.bool r0), [])) :=
  F8_eqg fuel (F_law10_Awake fuel) (F_text_Place fuel) (F_text_At fuel) (F_ref10_At fuel) (F_ref10_SameItem fuel) x0 x1 x2 x3 x4 x5 x6 x7 x8 x9 x10 x11 x12 x13 k
theorem hG8 (fuel : Nat) : GOK Tryz.prog (G8 fuel) :=
  gok_cons ⟨ok22 fuel, enters_of Tryz.func22 (by kernel_rfl) rfl⟩ <|
  gok_cons ⟨ok29 fuel, enters_of Tryz.func29 (by kernel_rfl) rfl⟩ <|
  gok_cons ⟨ok33 fuel, enters_of Tryz.func33 (by kernel_rfl) rfl⟩ <|
  gok_cons ⟨ok34 fuel, enters_of Tryz.func34 (by kernel_rfl) rfl⟩ <|
  gok_cons ⟨ok35 fuel, enters_of Tryz.func35 (by kernel_rfl) rfl⟩ <|
  gok_nil
theorem B8_0_blk (fuel : Nat) : BlkOK Tryz.prog Tryz.f8.ntmps (.block 0 (.loop (bodyOf 0 Tryz.f8))) (B8_0 fuel) :=
  blk_of (blk_of_code tab_ok (hG8 fuel) mixed (J := J8_0 fuel) (kp := kp8) (fuel := fuel) (by kernel_rfl) (fun q hq => by
    rw [(by kernel_rfl : obl (J8_0 fuel) (.block 0 (.loop (bodyOf 0 Tryz.f8))) = [])] at hq
    cases hq)) (B8_0_ok fuel)
theorem fok8 (fuel : Nat) : FnOK Tryz.prog 8 (evalFn tab (G8 fuel) (J8 fuel) kp8 fuel Tryz.f8) :=
  fn_ok tab_ok (hG8 fuel) mixed Tryz.func8 (c := (Tryz.f8.body).getD .skip) rfl (fun q hq => by
    rw [(by kernel_rfl : obl (J8 fuel) ((Tryz.f8.body).getD .skip) = [(.block 0 (.loop (bodyOf 0 Tryz.f8)), B8_0 fuel)])] at hq
    simp only [List.mem_cons, List.not_mem_nil, or_false] at hq
    subst hq
    · exact B8_0_blk fuel)
noncomputable def mt8 : List Ev.SV → List Ev.Ob → Bool := fun args objs => match args, objs with
  | [.agg [.int .i64 _, .int .i64 _, .bool _, .int .i64 _, .int .i64 _, .int .i64 _, .bool _, .int .i64 _], .agg [.int .i64 _, .int .i64 _, .sl (.int .u8) _], .c (.int .i64 _), .c (.int .i64 _), .c (.int .i64 _)], [] => true
  | _, _ => false
noncomputable def spg8 (F : YF8) : Ev.Spec := fun args objs k => match args, objs with
  | [.agg [.int .i64 x0, .int .i64 x1, .bool x2, .int .i64 x3, .int .i64 x4, .int .i64 x5, .bool x6, .int .i64 x7], .agg [.int .i64 x8, .int .i64 x9, .sl (.int .u8) x10], .c (.int .i64 x11), .c (.int .i64 x12), .c (.int .i64 x13)], [] => bif true then F x0 x1 x2 x3 x4 x5 x6 x7 x8 x9 x10 x11 x12 x13 (fun r => match r with | r0 => k (.c (.bool r0), [])) else none
  | _, _ => none
noncomputable def spec8 (fuel : Nat) : Ev.Spec := spg8 (F_law10_TextAt fuel)
theorem ok8 (fuel : Nat) : FnOK Tryz.prog 8 (spec8 fuel) := by
  intro args objs kk r h
  unfold spec8 spg8 at h
  split at h
  · skip
    obtain ⟨hb, h⟩ := cond_some' h
    simp only [Bool.and_eq_true, Nat.beq_eq, decide_eq_true_eq] at hb
    clear hb
    exact fok8 fuel _ _ kk r ((F8_eq fuel _ _ _ _ _ _ _ _ _ _ _ _ _ _ kk).trans h)
  · cases h
end Go.Proofs.YtipdidpalcmlhaaGreat

