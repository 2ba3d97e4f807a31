/- What the functions that ToneRenders reaches do: their typed texts, each with the proof that the machine does it. No condition. -/
import Derived.Test.YtihfgpfofmjbaaaEvX
import Derived.Test.YtihfgpfofmjbaaaFsToneRenders1
set_option linter.unusedVariables false
set_option linter.unusedSimpArgs false
set_option linter.unusedVariables false
set_option linter.unusedSimpArgs false
set_option maxRecDepth 100000
set_option maxHeartbeats 2000000
namespace Go.Proofs.Ytihfgpfofmjbaaa
open Go Ev
def kp198 (i : Nat) : Option (List Nat) := Ev.look i []
noncomputable def Gg198 (f : Nat) : Option Ev.Spec := Ev.look f []
noncomputable def G198 (fuel : Nat) : Nat → Option Ev.Spec := Gg198
noncomputable def J198 (fuel : Nat) (i : Nat) : Option Ev.Blk := Ev.look i []
noncomputable def F_bytes_Clone (fuel : Nat) (x0 : (List Int)) (k0 : ((List Int)) → Option Ans) : Option Ans :=
  bif Decidable.decide ((↑x0.length : Int) = (0 : Int)) then
   both (k0 [])
    (bif Decidable.decide (((0 : Nat) + x0.length) * (1 : Nat) ≤ (140737488355328 : Nat) ∧ (0 : Nat) + x0.length ≤ (140737488355328 : Nat)) then
     k0 ([] ++ x0)
     else none)
  else
   bif Decidable.decide (((0 : Nat) + x0.length) * (1 : Nat) ≤ (140737488355328 : Nat) ∧ (0 : Nat) + x0.length ≤ (140737488355328 : Nat)) then
   k0 ([] ++ x0)
   else none
abbrev YF198 : Type := ((List Int)) → (((List Int)) → Option Ans) → Option Ans
theorem F198_eq (fuel : Nat) (x0 : (List Int)) (k : Ev.Cont) : evalFn tab (G198 fuel) (J198 fuel) kp198 fuel Try.f198 [.c (.sl (.int .u8) x0)] [] k = F_bytes_Clone fuel x0 (fun r => match r with | r0 => k (.c (.own 0), [.vec 5 (.int .u8) r0 true])) := by
  kernel_rfl
theorem hG198 (fuel : Nat) : GOK Try.prog (G198 fuel) :=
  gok_nil
theorem fok198 (fuel : Nat) : FnOK Try.prog 198 (evalFn tab (G198 fuel) (J198 fuel) kp198 fuel Try.f198) :=
  fn_ok tab_ok (hG198 fuel) mixed Try.func198 (c := (Try.f198.body).getD .skip) rfl (fun q hq => by
    rw [(by kernel_rfl : obl (J198 fuel) ((Try.f198.body).getD .skip) = [])] at hq
    cases hq)
noncomputable def mt198 : List Ev.SV → List Ev.Ob → Bool := fun args objs => match args, objs with
  | [.c (.sl (.int .u8) _)], [] => true
  | _, _ => false
noncomputable def spg198 (F : YF198) : Ev.Spec := fun args objs k => match args, objs with
  | [.c (.sl (.int .u8) x0)], [] => bif true then F x0 (fun r => match r with | r0 => k (.c (.own 0), [.vec 5 (.int .u8) r0 true])) else none
  | _, _ => none
noncomputable def spec198 (fuel : Nat) : Ev.Spec := spg198 (F_bytes_Clone fuel)
theorem ok198 (fuel : Nat) : FnOK Try.prog 198 (spec198 fuel) := by
  intro args objs kk r h
  unfold spec198 spg198 at h
  split at h
  · skip
    obtain ⟨hb, h⟩ := cond_some' h
    simp only [Bool.and_eq_true, Nat.beq_eq, decide_eq_true_eq] at hb
    clear hb
    exact fok198 fuel _ _ kk r ((F198_eq fuel _ kk).trans h)
  · cases h
end Go.Proofs.Ytihfgpfofmjbaaa

set_option linter.unusedVariables false
set_option linter.unusedSimpArgs false
set_option maxRecDepth 100000
set_option maxHeartbeats 2000000
namespace Go.Proofs.Ytihfgpfofmjbaaa
open Go Ev
def kp151 (i : Nat) : Option (List Nat) := Ev.look i [(200001, [1])]
noncomputable def Gg151 (f198 : YF198) (f : Nat) : Option Ev.Spec := Ev.look f [(198, spg198 f198)]
noncomputable def G151 (fuel : Nat) : Nat → Option Ev.Spec := Gg151 (F_bytes_Clone fuel)
noncomputable def J151 (fuel : Nat) (i : Nat) : Option Ev.Blk := Ev.look i []
noncomputable def F_bitmap_clone (fuel : Nat) (x0 : Int) (x1 : Int) (x2 : (List Int)) (k0 : (Int × Int × (List Int)) → Option Ans) : Option Ans :=
  (F_bytes_Clone fuel (x2)
    (fun y2 =>
      k0 (x0, x1, y2)))
abbrev YF151 : Type := (Int) → (Int) → ((List Int)) → ((Int × Int × (List Int)) → Option Ans) → Option Ans
theorem F151_eqg (fuel : Nat) (f198 : YF198) (x0 : Int) (x1 : Int) (x2 : (List Int)) (k : Ev.Cont) : evalFn tab (Gg151 f198) (J151 fuel) kp151 fuel Try.f151 [.agg [.int .i64 x0, .int .i64 x1, .sl (.int .u8) x2]] [] k = (fun  (k0 : (Int × Int × (List Int)) → Option Ans) =>
  (f198 (x2)
    (fun y2 =>
      k0 (x0, x1, y2)))) (fun r => match r with | (r0, r1, r2) => k (.agg [.int .i64 r0, .int .i64 r1, .own 0], [.vec 5 (.int .u8) r2 true])) := by
  kernel_rfl
theorem F151_eq (fuel : Nat) (x0 : Int) (x1 : Int) (x2 : (List Int)) (k : Ev.Cont) : evalFn tab (G151 fuel) (J151 fuel) kp151 fuel Try.f151 [.agg [.int .i64 x0, .int .i64 x1, .sl (.int .u8) x2]] [] k = F_bitmap_clone fuel x0 x1 x2 (fun r => match r with | (r0, r1, r2) => k (.agg [.int .i64 r0, .int .i64 r1, .own 0], [.vec 5 (.int .u8) r2 true])) :=
  F151_eqg fuel (F_bytes_Clone fuel) x0 x1 x2 k
theorem hG151 (fuel : Nat) : GOK Try.prog (G151 fuel) :=
  gok_cons ⟨ok198 fuel, enters_of Try.func198 (by kernel_rfl) rfl⟩ <|
  gok_nil
theorem fok151 (fuel : Nat) : FnOK Try.prog 151 (evalFn tab (G151 fuel) (J151 fuel) kp151 fuel Try.f151) :=
  fn_ok tab_ok (hG151 fuel) mixed Try.func151 (c := (Try.f151.body).getD .skip) rfl (fun q hq => by
    rw [(by kernel_rfl : obl (J151 fuel) ((Try.f151.body).getD .skip) = [])] at hq
    cases hq)
noncomputable def mt151 : List Ev.SV → List Ev.Ob → Bool := fun args objs => match args, objs with
  | [.agg [.int .i64 _, .int .i64 _, .sl (.int .u8) _]], [] => true
  | _, _ => false
noncomputable def spg151 (F : YF151) : Ev.Spec := fun args objs k => match args, objs with
  | [.agg [.int .i64 x0, .int .i64 x1, .sl (.int .u8) x2]], [] => bif true then F x0 x1 x2 (fun r => match r with | (r0, r1, r2) => k (.agg [.int .i64 r0, .int .i64 r1, .own 0], [.vec 5 (.int .u8) r2 true])) else none
  | _, _ => none
noncomputable def spec151 (fuel : Nat) : Ev.Spec := spg151 (F_bitmap_clone fuel)
theorem ok151 (fuel : Nat) : FnOK Try.prog 151 (spec151 fuel) := by
  intro args objs kk r h
  unfold spec151 spg151 at h
  split at h
  · skip
    obtain ⟨hb, h⟩ := cond_some' h
    simp only [Bool.and_eq_true, Nat.beq_eq, decide_eq_true_eq] at hb
    clear hb
    exact fok151 fuel _ _ kk r ((F151_eq fuel _ _ _ kk).trans h)
  · cases h
end Go.Proofs.Ytihfgpfofmjbaaa

set_option linter.unusedVariables false
set_option linter.unusedSimpArgs false
set_option maxRecDepth 100000
set_option maxHeartbeats 2000000
namespace Go.Proofs.Ytihfgpfofmjbaaa
open Go Ev
def kp152 (i : Nat) : Option (List Nat) := Ev.look i []
noncomputable def Gg152 (f : Nat) : Option Ev.Spec := Ev.look f []
noncomputable def G152 (fuel : Nat) : Nat → Option Ev.Spec := Gg152
noncomputable def J152 (fuel : Nat) (i : Nat) : Option Ev.Blk := Ev.look i []
noncomputable def F_bitmap_combine (fuel : Nat) (x0 : Int) (x1 : Int) (x2 : Int) (k0 : (Int) → Option Ans) : Option Ans :=
  bif x2 == (1 : Int) then
   k0 (Ev.ior Go.IntKind.u8 x0 x1)
  else
   bif x2 == (2 : Int) then
    k0 (Ev.iand Go.IntKind.u8 x0 x1)
   else
    bif x2 == (3 : Int) then
     k0 (Ev.ixor Go.IntKind.u8 x0 x1)
    else
     bif x2 == (4 : Int) then
      k0 (Ev.ixor Go.IntKind.u8 (Go.IntKind.u8.wrap ((1 : Int) - x0)) x1)
     else
      k0 x1
abbrev YF152 : Type := (Int) → (Int) → (Int) → ((Int) → Option Ans) → Option Ans
theorem F152_eq (fuel : Nat) (x0 : Int) (x1 : Int) (x2 : Int) (k : Ev.Cont) : evalFn tab (G152 fuel) (J152 fuel) kp152 fuel Try.f152 [.c (.int .u8 x0), .c (.int .u8 x1), .c (.int .i64 x2)] [] k = F_bitmap_combine fuel x0 x1 x2 (fun r => match r with | r0 => k (.c (.int .u8 r0), [])) := by
  kernel_rfl
theorem hG152 (fuel : Nat) : GOK Try.prog (G152 fuel) :=
  gok_nil
theorem fok152 (fuel : Nat) : FnOK Try.prog 152 (evalFn tab (G152 fuel) (J152 fuel) kp152 fuel Try.f152) :=
  fn_ok tab_ok (hG152 fuel) mixed Try.func152 (c := (Try.f152.body).getD .skip) rfl (fun q hq => by
    rw [(by kernel_rfl : obl (J152 fuel) ((Try.f152.body).getD .skip) = [])] at hq
    cases hq)
noncomputable def mt152 : List Ev.SV → List Ev.Ob → Bool := fun args objs => match args, objs with
  | [.c (.int .u8 _), .c (.int .u8 _), .c (.int .i64 _)], [] => true
  | _, _ => false
noncomputable def spg152 (F : YF152) : Ev.Spec := fun args objs k => match args, objs with
  | [.c (.int .u8 x0), .c (.int .u8 x1), .c (.int .i64 x2)], [] => bif true then F x0 x1 x2 (fun r => match r with | r0 => k (.c (.int .u8 r0), [])) else none
  | _, _ => none
noncomputable def spec152 (fuel : Nat) : Ev.Spec := spg152 (F_bitmap_combine fuel)
theorem ok152 (fuel : Nat) : FnOK Try.prog 152 (spec152 fuel) := by
  intro args objs kk r h
  unfold spec152 spg152 at h
  split at h
  · skip
    obtain ⟨hb, h⟩ := cond_some' h
    simp only [Bool.and_eq_true, Nat.beq_eq, decide_eq_true_eq] at hb
    clear hb
    exact fok152 fuel _ _ kk r ((F152_eq fuel _ _ _ kk).trans h)
  · cases h
end Go.Proofs.Ytihfgpfofmjbaaa

set_option linter.unusedVariables false
set_option linter.unusedSimpArgs false
set_option maxRecDepth 100000
set_option maxHeartbeats 2000000
namespace Go.Proofs.Ytihfgpfofmjbaaa
open Go Ev
def kp150 (i : Nat) : Option (List Nat) := Ev.look i []
noncomputable def Gg150 (f : Nat) : Option Ev.Spec := Ev.look f []
noncomputable def G150 (fuel : Nat) : Nat → Option Ev.Spec := Gg150
noncomputable def J150 (fuel : Nat) (i : Nat) : Option Ev.Blk := Ev.look i []
noncomputable def F_bitmap_isShift (fuel : Nat) (x0 : Int) (x1 : Int) (k0 : (Bool) → Option Ans) : Option Ans :=
  bif Decidable.decide ((bif Decidable.decide (x1 < x0) then x1 else x0) ≥ (-100000 : Int)) then
   k0 (Decidable.decide ((bif Decidable.decide (x1 > x0) then x1 else x0) ≤ (100000 : Int)))
  else
   k0 Bool.false
abbrev YF150 : Type := (Int) → (Int) → ((Bool) → Option Ans) → Option Ans
theorem F150_eq (fuel : Nat) (x0 : Int) (x1 : Int) (k : Ev.Cont) : evalFn tab (G150 fuel) (J150 fuel) kp150 fuel Try.f150 [.c (.int .i64 x0), .c (.int .i64 x1)] [] k = F_bitmap_isShift fuel x0 x1 (fun r => match r with | r0 => k (.c (.bool r0), [])) := by
  kernel_rfl
theorem hG150 (fuel : Nat) : GOK Try.prog (G150 fuel) :=
  gok_nil
theorem fok150 (fuel : Nat) : FnOK Try.prog 150 (evalFn tab (G150 fuel) (J150 fuel) kp150 fuel Try.f150) :=
  fn_ok tab_ok (hG150 fuel) mixed Try.func150 (c := (Try.f150.body).getD .skip) rfl (fun q hq => by
    rw [(by kernel_rfl : obl (J150 fuel) ((Try.f150.body).getD .skip) = [])] at hq
    cases hq)
noncomputable def mt150 : List Ev.SV → List Ev.Ob → Bool := fun args objs => match args, objs with
  | [.c (.int .i64 _), .c (.int .i64 _)], [] => true
  | _, _ => false
noncomputable def spg150 (F : YF150) : Ev.Spec := fun args objs k => match args, objs with
  | [.c (.int .i64 x0), .c (.int .i64 x1)], [] => bif true then F x0 x1 (fun r => match r with | r0 => k (.c (.bool r0), [])) else none
  | _, _ => none
noncomputable def spec150 (fuel : Nat) : Ev.Spec := spg150 (F_bitmap_isShift fuel)
theorem ok150 (fuel : Nat) : FnOK Try.prog 150 (spec150 fuel) := by
  intro args objs kk r h
  unfold spec150 spg150 at h
  split at h
  · skip
    obtain ⟨hb, h⟩ := cond_some' h
    simp only [Bool.and_eq_true, Nat.beq_eq, decide_eq_true_eq] at hb
    clear hb
    exact fok150 fuel _ _ kk r ((F150_eq fuel _ _ kk).trans h)
  · cases h
end Go.Proofs.Ytihfgpfofmjbaaa

set_option linter.unusedVariables false
set_option linter.unusedSimpArgs false
set_option maxRecDepth 100000
set_option maxHeartbeats 2000000
namespace Go.Proofs.Ytihfgpfofmjbaaa
open Go Ev
def kp79 (i : Nat) : Option (List Nat) := Ev.look i [(7, [2, 3, 4, 5, 6, 10, 12, 45, 46]), (10, [2, 3, 4, 5, 6, 10, 12, 13, 45, 46, 50, 51]), (100001, [10, 12]), (100003, [2, 3, 4, 5, 6, 10, 12, 45, 46]), (200015, [6]), (400001, [10, 11]), (400003, [10, 11])]
noncomputable def Gg79 (f89 : YF89) (f150 : YF150) (f151 : YF151) (f152 : YF152) (f153 : YF153) (f : Nat) : Option Ev.Spec := Ev.look f [(89, spg89 f89), (150, spg150 f150), (151, spg151 f151), (152, spg152 f152), (153, spg153 f153)]
noncomputable def G79 (fuel : Nat) : Nat → Option Ev.Spec := Gg79 (F_bitmap_Valid fuel) (F_bitmap_isShift fuel) (F_bitmap_clone fuel) (F_bitmap_combine fuel) (F_bitmap_at fuel)
noncomputable def S_bitmap_Draw_3 (fuel : Nat) (v : Int × Int × Int × Int × Int × Int × Int × Int × Int × Int × (List Int) × Int × Int × (List Int) × Int × Int × Int × Int × (List Int) × (List Int)) (c : (Int × Int × Int × Int × Int × Int × Int × Int × Int × Int × (List Int) × Int × Int × (List Int) × Int × Int × Int × Int × (List Int) × (List Int)) → Option Ans) (B : (Int × Int × Int × Int × Int × Int × Int × (List Int) × Int × Int × (List Int) × Int × Int × Int × Int × (List Int) × (List Int) → Option Ans)) : Option Ans := match v, B with
  | (x0, x1, x2, x3, x4, x5, x6, x7, x8, x9, x10, x11, x12, x13, x14, x15, x16, x17, x18, x19), b =>
   bif Decidable.decide (x7 < x6) then
      bif Decidable.decide (Go.IntKind.i64.wrap (x0 + x7) ≥ (0 : Int)) then
       bif Decidable.decide (Go.IntKind.i64.wrap (x1 + x3) ≥ (0 : Int)) then
        bif Decidable.decide (Go.IntKind.i64.wrap (x0 + x7) < x8) then
         bif Decidable.decide (Go.IntKind.i64.wrap (x1 + x3) < x9) then
          bif Decidable.decide ((0 : Int) ≤ Go.IntKind.i64.wrap (Go.IntKind.i64.wrap (Go.IntKind.i64.wrap (x1 + x3) * x8) + Go.IntKind.i64.wrap (x0 + x7)) ∧ Go.IntKind.i64.wrap (Go.IntKind.i64.wrap (Go.IntKind.i64.wrap (x1 + x3) * x8) + Go.IntKind.i64.wrap (x0 + x7)) < (↑x19.length : Int)) then
          both ((F_bitmap_at fuel (x11) (x12) (x13) (x7) (x3)
               (fun y10 =>
                 (F_bitmap_combine fuel (x19.getD (Go.IntKind.i64.wrap (Go.IntKind.i64.wrap (Go.IntKind.i64.wrap (x1 + x3) * x8) + Go.IntKind.i64.wrap (x0 + x7))).toNat (0 : Int)) (y10) (x2)
                   (fun y14 =>
                     c (x0, x1, x2, x3, x4, x5, x6, Go.IntKind.i64.wrap (x7 + (1 : Int)), x8, x9, x10, x11, x12, x13, x14, x15, x16, x17, x18, x19.set (Go.IntKind.i64.wrap (Go.IntKind.i64.wrap (Go.IntKind.i64.wrap (x1 + x3) * x8) + Go.IntKind.i64.wrap (x0 + x7))).toNat y14))))))
            ((F_bitmap_at fuel (x11) (x12) (x13) (x7) (x3)
               (fun y10 =>
                 (F_bitmap_combine fuel (x19.getD (Go.IntKind.i64.wrap (Go.IntKind.i64.wrap (Go.IntKind.i64.wrap (x1 + x3) * x8) + Go.IntKind.i64.wrap (x0 + x7))).toNat (0 : Int)) (y10) (x2)
                   (fun y14 =>
                     c (x0, x1, x2, x3, x4, x5, x6, Go.IntKind.i64.wrap (x7 + (1 : Int)), x8, x9, x10, x11, x12, x13, x14, x15, x16, x17, x18, x19.set (Go.IntKind.i64.wrap (Go.IntKind.i64.wrap (Go.IntKind.i64.wrap (x1 + x3) * x8) + Go.IntKind.i64.wrap (x0 + x7))).toNat y14))))))
          else none
         else
          c (x0, x1, x2, x3, x4, x5, x6, Go.IntKind.i64.wrap (x7 + (1 : Int)), x8, x9, x10, x11, x12, x13, x14, x15, x16, x17, x18, x19)
        else
         c (x0, x1, x2, x3, x4, x5, x6, Go.IntKind.i64.wrap (x7 + (1 : Int)), x8, x9, x10, x11, x12, x13, x14, x15, x16, x17, x18, x19)
       else
        c (x0, x1, x2, x3, x4, x5, x6, Go.IntKind.i64.wrap (x7 + (1 : Int)), x8, x9, x10, x11, x12, x13, x14, x15, x16, x17, x18, x19)
      else
       c (x0, x1, x2, x3, x4, x5, x6, Go.IntKind.i64.wrap (x7 + (1 : Int)), x8, x9, x10, x11, x12, x13, x14, x15, x16, x17, x18, x19)
     else
      b (x0, x1, x2, x4, x5, x8, x9, x10, x11, x12, x13, x14, x15, x16, x17, x18, x19)
noncomputable def L_bitmap_Draw_3 (fuel : Nat) (v : Int × Int × Int × Int × Int × Int × Int × Int × Int × Int × (List Int) × Int × Int × (List Int) × Int × Int × Int × Int × (List Int) × (List Int)) (b : (Int × Int × Int × Int × Int × Int × Int × (List Int) × Int × Int × (List Int) × Int × Int × Int × Int × (List Int) × (List Int) → Option Ans)) : Option Ans := iter (S_bitmap_Draw_3 fuel) fuel v b
noncomputable def J79_3 (fuel : Nat) (i : Nat) : Option Ev.Blk := Ev.look i []
noncomputable def T79_3 (v : Int × Int × Int × Int × Int × Int × Int × Int × Int × Int × (List Int) × Int × Int × (List Int) × Int × Int × Int × Int × (List Int) × (List Int)) : Ev.St := match v with | (x0, x1, x2, x3, x4, x5, x6, x7, x8, x9, x10, x11, x12, x13, x14, x15, x16, x17, x18, x19) => ⟨[(2, .c (.int .i64 x0)), (3, .c (.int .i64 x1)), (4, .c (.int .i64 x2)), (5, .c (.ptr 0 0)), (6, .c (.ptr 1 0)), (10, .c (.ptr 2 0)), (12, .c (.ptr 3 0)), (13, .c (.int .i64 x3)), (45, .c (.int .i64 x4)), (46, .c (.int .i64 x5)), (50, .c (.int .i64 x6)), (51, .c (.int .i64 x7))], [(0, .cells 39 [.int .i64 x8, .int .i64 x9, .sl (.int .u8) x10]), (1, .cells 39 [.int .i64 x11, .int .i64 x12, .sl (.int .u8) x13]), (2, .cells 39 [.int .i64 x14, .int .i64 x15, .own 4]), (3, .cells 39 [.int .i64 x16, .int .i64 x17, .own 5]), (4, .vec 5 (.int .u8) x18 true), (5, .vec 5 (.int .u8) x19 true)], 6, 0⟩
noncomputable def E79_3 (K : Ev.Ex → Ev.St → Option Ans) : (Int × Int × Int × Int × Int × Int × Int × (List Int) × Int × Int × (List Int) × Int × Int × Int × Int × (List Int) × (List Int) → Option Ans) := (fun v => match v with | (x0, x1, x2, x3, x4, x5, x6, x7, x8, x9, x10, x11, x12, x13, x14, x15, x16) => K .normal ⟨[(2, .c (.int .i64 x0)), (3, .c (.int .i64 x1)), (4, .c (.int .i64 x2)), (5, .c (.ptr 0 0)), (6, .c (.ptr 1 0)), (10, .c (.ptr 2 0)), (12, .c (.ptr 3 0)), (45, .c (.int .i64 x3)), (46, .c (.int .i64 x4))], [(0, .cells 39 [.int .i64 x5, .int .i64 x6, .sl (.int .u8) x7]), (1, .cells 39 [.int .i64 x8, .int .i64 x9, .sl (.int .u8) x10]), (2, .cells 39 [.int .i64 x11, .int .i64 x12, .own 4]), (3, .cells 39 [.int .i64 x13, .int .i64 x14, .own 5]), (4, .vec 5 (.int .u8) x15 true), (5, .vec 5 (.int .u8) x16 true)], 6, 0⟩)
theorem S79_3_okg (fuel : Nat) (f89 : YF89) (f150 : YF150) (f151 : YF151) (f152 : YF152) (f153 : YF153) (R : Ev.St → Option Ans) (K : Ev.Ex → Ev.St → Option Ans) (x0 : Int) (x1 : Int) (x2 : Int) (x3 : Int) (x4 : Int) (x5 : Int) (x6 : Int) (x7 : Int) (x8 : Int) (x9 : Int) (x10 : (List Int)) (x11 : Int) (x12 : Int) (x13 : (List Int)) (x14 : Int) (x15 : Int) (x16 : Int) (x17 : Int) (x18 : (List Int)) (x19 : (List Int)) : evalCode tab (Gg79 f89 f150 f151 f152 f153) (J79_3 fuel) kp79 fuel (bodyOf 3 Try.f79) (T79_3 (x0, x1, x2, x3, x4, x5, x6, x7, x8, x9, x10, x11, x12, x13, x14, x15, x16, x17, x18, x19)) (lc kp79 10 3 R K) = (fun (c : (Int × Int × Int × Int × Int × Int × Int × Int × Int × Int × (List Int) × Int × Int × (List Int) × Int × Int × Int × Int × (List Int) × (List Int)) → Option Ans) (B : (Int × Int × Int × Int × Int × Int × Int × (List Int) × Int × Int × (List Int) × Int × Int × Int × Int × (List Int) × (List Int) → Option Ans)) => match B with
  | b =>
   bif Decidable.decide (x7 < x6) then
      bif Decidable.decide (Go.IntKind.i64.wrap (x0 + x7) ≥ (0 : Int)) then
       bif Decidable.decide (Go.IntKind.i64.wrap (x1 + x3) ≥ (0 : Int)) then
        bif Decidable.decide (Go.IntKind.i64.wrap (x0 + x7) < x8) then
         bif Decidable.decide (Go.IntKind.i64.wrap (x1 + x3) < x9) then
          bif Decidable.decide ((0 : Int) ≤ Go.IntKind.i64.wrap (Go.IntKind.i64.wrap (Go.IntKind.i64.wrap (x1 + x3) * x8) + Go.IntKind.i64.wrap (x0 + x7)) ∧ Go.IntKind.i64.wrap (Go.IntKind.i64.wrap (Go.IntKind.i64.wrap (x1 + x3) * x8) + Go.IntKind.i64.wrap (x0 + x7)) < (↑x19.length : Int)) then
          both ((f153 (x11) (x12) (x13) (x7) (x3)
               (fun y10 =>
                 (f152 (x19.getD (Go.IntKind.i64.wrap (Go.IntKind.i64.wrap (Go.IntKind.i64.wrap (x1 + x3) * x8) + Go.IntKind.i64.wrap (x0 + x7))).toNat (0 : Int)) (y10) (x2)
                   (fun y14 =>
                     c (x0, x1, x2, x3, x4, x5, x6, Go.IntKind.i64.wrap (x7 + (1 : Int)), x8, x9, x10, x11, x12, x13, x14, x15, x16, x17, x18, x19.set (Go.IntKind.i64.wrap (Go.IntKind.i64.wrap (Go.IntKind.i64.wrap (x1 + x3) * x8) + Go.IntKind.i64.wrap (x0 + x7))).toNat y14))))))
            ((f153 (x11) (x12) (x13) (x7) (x3)
               (fun y10 =>
                 (f152 (x19.getD (Go.IntKind.i64.wrap (Go.IntKind.i64.wrap (Go.IntKind.i64.wrap (x1 + x3) * x8) + Go.IntKind.i64.wrap (x0 + x7))).toNat (0 : Int)) (y10) (x2)
                   (fun y14 =>
                     c (x0, x1, x2, x3, x4, x5, x6, Go.IntKind.i64.wrap (x7 + (1 : Int)), x8, x9, x10, x11, x12, x13, x14, x15, x16, x17, x18, x19.set (Go.IntKind.i64.wrap (Go.IntKind.i64.wrap (Go.IntKind.i64.wrap (x1 + x3) * x8) + Go.IntKind.i64.wrap (x0 + x7))).toNat y14))))))
          else none
         else
          c (x0, x1, x2, x3, x4, x5, x6, Go.IntKind.i64.wrap (x7 + (1 : Int)), x8, x9, x10, x11, x12, x13, x14, x15, x16, x17, x18, x19)
        else
         c (x0, x1, x2, x3, x4, x5, x6, Go.IntKind.i64.wrap (x7 + (1 : Int)), x8, x9, x10, x11, x12, x13, x14, x15, x16, x17, x18, x19)
       else
        c (x0, x1, x2, x3, x4, x5, x6, Go.IntKind.i64.wrap (x7 + (1 : Int)), x8, x9, x10, x11, x12, x13, x14, x15, x16, x17, x18, x19)
      else
       c (x0, x1, x2, x3, x4, x5, x6, Go.IntKind.i64.wrap (x7 + (1 : Int)), x8, x9, x10, x11, x12, x13, x14, x15, x16, x17, x18, x19)
     else
      b (x0, x1, x2, x4, x5, x8, x9, x10, x11, x12, x13, x14, x15, x16, x17, x18, x19)) (fun v => R (T79_3 v)) (E79_3 K) := by
  kernel_rfl
theorem S79_3_ok (fuel : Nat) (R : Ev.St → Option Ans) (K : Ev.Ex → Ev.St → Option Ans) (x0 : Int) (x1 : Int) (x2 : Int) (x3 : Int) (x4 : Int) (x5 : Int) (x6 : Int) (x7 : Int) (x8 : Int) (x9 : Int) (x10 : (List Int)) (x11 : Int) (x12 : Int) (x13 : (List Int)) (x14 : Int) (x15 : Int) (x16 : Int) (x17 : Int) (x18 : (List Int)) (x19 : (List Int)) : evalCode tab (G79 fuel) (J79_3 fuel) kp79 fuel (bodyOf 3 Try.f79) (T79_3 (x0, x1, x2, x3, x4, x5, x6, x7, x8, x9, x10, x11, x12, x13, x14, x15, x16, x17, x18, x19)) (lc kp79 10 3 R K) = S_bitmap_Draw_3 fuel (x0, x1, x2, x3, x4, x5, x6, x7, x8, x9, x10, x11, x12, x13, x14, x15, x16, x17, x18, x19) (fun v => R (T79_3 v)) (E79_3 K) :=
  S79_3_okg fuel (F_bitmap_Valid fuel) (F_bitmap_isShift fuel) (F_bitmap_clone fuel) (F_bitmap_combine fuel) (F_bitmap_at fuel) R K x0 x1 x2 x3 x4 x5 x6 x7 x8 x9 x10 x11 x12 x13 x14 x15 x16 x17 x18 x19
noncomputable def B79_3 (fuel : Nat) : Ev.Blk := fun st K => match canonO (kp79 10) st with
  | some s => (match s with
    | ⟨[(q0, .c (.int .i64 x0)), (q1, .c (.int .i64 x1)), (q2, .c (.int .i64 x2)), (q3, .c (.ptr q4 q5)), (q6, .c (.ptr q7 q8)), (q9, .c (.ptr q10 q11)), (q12, .c (.ptr q13 q14)), (q15, .c (.int .i64 x3)), (q16, .c (.int .i64 x4)), (q17, .c (.int .i64 x5)), (q18, .c (.int .i64 x6)), (q19, .c (.int .i64 x7))], [(q20, .cells q21 [.int .i64 x8, .int .i64 x9, .sl (.int .u8) x10]), (q22, .cells q23 [.int .i64 x11, .int .i64 x12, .sl (.int .u8) x13]), (q24, .cells q25 [.int .i64 x14, .int .i64 x15, .own q26]), (q27, .cells q28 [.int .i64 x16, .int .i64 x17, .own q29]), (q30, .vec q31 (.int .u8) x18 true), (q32, .vec q33 (.int .u8) x19 true)], q34, q35⟩ => bif Nat.beq q0 2 && Nat.beq q1 3 && Nat.beq q2 4 && Nat.beq q3 5 && Nat.beq q4 0 && Nat.beq q5 0 && Nat.beq q6 6 && Nat.beq q7 1 && Nat.beq q8 0 && Nat.beq q9 10 && Nat.beq q10 2 && Nat.beq q11 0 && Nat.beq q12 12 && Nat.beq q13 3 && Nat.beq q14 0 && Nat.beq q15 13 && Nat.beq q16 45 && Nat.beq q17 46 && Nat.beq q18 50 && Nat.beq q19 51 && Nat.beq q20 0 && Nat.beq q21 39 && Nat.beq q22 1 && Nat.beq q23 39 && Nat.beq q24 2 && Nat.beq q25 39 && Nat.beq q26 4 && Nat.beq q27 3 && Nat.beq q28 39 && Nat.beq q29 5 && Nat.beq q30 4 && Nat.beq q31 5 && Nat.beq q32 5 && Nat.beq q33 5 && Nat.beq q34 6 && Nat.beq q35 0 then iter (S_bitmap_Draw_3 fuel) fuel (x0, x1, x2, x3, x4, x5, x6, x7, x8, x9, x10, x11, x12, x13, x14, x15, x16, x17, x18, x19) (E79_3 K) else none
    | _ => none)
  | none => none
theorem B79_3_ok (fuel : Nat) (st : Ev.St) (K : Ev.Ex → Ev.St → Option Ans) (r : Ans) (h : B79_3 fuel st K = some r) : evalCode tab (G79 fuel) (J79_3 fuel) kp79 fuel (.block 3 (.loop (bodyOf 3 Try.f79))) st K = some r := by
  unfold B79_3 at h
  split at h
  · rename_i s hs
    split at h
    · skip
      obtain ⟨hb, h⟩ := cond_some' h
      simp only [Bool.and_eq_true, Nat.beq_eq, decide_eq_true_eq] at hb
      obtain ⟨⟨⟨⟨⟨⟨⟨⟨⟨⟨⟨⟨⟨⟨⟨⟨⟨⟨⟨⟨⟨⟨⟨⟨⟨⟨⟨⟨⟨⟨⟨⟨⟨⟨⟨rfl, rfl⟩, rfl⟩, rfl⟩, rfl⟩, rfl⟩, rfl⟩, rfl⟩, rfl⟩, rfl⟩, rfl⟩, rfl⟩, rfl⟩, rfl⟩, rfl⟩, rfl⟩, rfl⟩, rfl⟩, rfl⟩, rfl⟩, rfl⟩, rfl⟩, rfl⟩, rfl⟩, rfl⟩, rfl⟩, rfl⟩, rfl⟩, rfl⟩, rfl⟩, rfl⟩, rfl⟩, rfl⟩, rfl⟩, rfl⟩, rfl⟩ := hb
      exact blk_loop (S := T79_3) (ks := E79_3) (step := S_bitmap_Draw_3 fuel) (v := (_, _, _, _, _, _, _, _, _, _, _, _, _, _, _, _, _, _, _, _)) (by kernel_rfl) (by kernel_rfl) (fun R K v => by obtain ⟨x0, x1, x2, x3, x4, x5, x6, x7, x8, x9, x10, x11, x12, x13, x14, x15, x16, x17, x18, x19⟩ := v; exact S79_3_ok fuel R K x0 x1 x2 x3 x4 x5 x6 x7 x8 x9 x10 x11 x12 x13 x14 x15 x16 x17 x18 x19) hs h
    · cases h
  · cases h
noncomputable def S_bitmap_Draw_1 (fuel : Nat) (v : Int × Int × Int × Int × Int × Int × Int × (List Int) × Int × Int × (List Int) × Int × Int × Int × Int × (List Int) × (List Int)) (c : (Int × Int × Int × Int × Int × Int × Int × (List Int) × Int × Int × (List Int) × Int × Int × Int × Int × (List Int) × (List Int)) → Option Ans) (B : (Int × Int × Int × Int × (List Int) × (List Int) → Option Ans)) : Option Ans := match v, B with
  | (x0, x1, x2, x3, x4, x5, x6, x7, x8, x9, x10, x11, x12, x13, x14, x15, x16), b =>
   bif Decidable.decide (x4 < x3) then
      (L_bitmap_Draw_3 fuel (x0, x1, x2, x4, x3, x4, x8, (0 : Int), x5, x6, x7, x8, x9, x10, x11, x12, x13, x14, x15, x16)
        (fun (b3_0, b3_1, b3_2, b3_3, b3_4, b3_5, b3_6, b3_7, b3_8, b3_9, b3_10, b3_11, b3_12, b3_13, b3_14, b3_15, b3_16) =>
          c (b3_0, b3_1, b3_2, b3_3, Go.IntKind.i64.wrap (b3_4 + (1 : Int)), b3_5, b3_6, b3_7, b3_8, b3_9, b3_10, b3_11, b3_12, b3_13, b3_14, b3_15, b3_16)))
     else
      b (x11, x12, x13, x14, x15, x16)
noncomputable def L_bitmap_Draw_1 (fuel : Nat) (v : Int × Int × Int × Int × Int × Int × Int × (List Int) × Int × Int × (List Int) × Int × Int × Int × Int × (List Int) × (List Int)) (b : (Int × Int × Int × Int × (List Int) × (List Int) → Option Ans)) : Option Ans := iter (S_bitmap_Draw_1 fuel) fuel v b
noncomputable def J79_1 (fuel : Nat) (i : Nat) : Option Ev.Blk := Ev.look i [(100003, B79_3 fuel)]
noncomputable def T79_1 (v : Int × Int × Int × Int × Int × Int × Int × (List Int) × Int × Int × (List Int) × Int × Int × Int × Int × (List Int) × (List Int)) : Ev.St := match v with | (x0, x1, x2, x3, x4, x5, x6, x7, x8, x9, x10, x11, x12, x13, x14, x15, x16) => ⟨[(2, .c (.int .i64 x0)), (3, .c (.int .i64 x1)), (4, .c (.int .i64 x2)), (5, .c (.ptr 0 0)), (6, .c (.ptr 1 0)), (10, .c (.ptr 2 0)), (12, .c (.ptr 3 0)), (45, .c (.int .i64 x3)), (46, .c (.int .i64 x4))], [(0, .cells 39 [.int .i64 x5, .int .i64 x6, .sl (.int .u8) x7]), (1, .cells 39 [.int .i64 x8, .int .i64 x9, .sl (.int .u8) x10]), (2, .cells 39 [.int .i64 x11, .int .i64 x12, .own 4]), (3, .cells 39 [.int .i64 x13, .int .i64 x14, .own 5]), (4, .vec 5 (.int .u8) x15 true), (5, .vec 5 (.int .u8) x16 true)], 6, 0⟩
noncomputable def E79_1 (K : Ev.Ex → Ev.St → Option Ans) : (Int × Int × Int × Int × (List Int) × (List Int) → Option Ans) := (fun v => match v with | (x0, x1, x2, x3, x4, x5) => K .normal ⟨[(10, .c (.ptr 0 0)), (12, .c (.ptr 1 0))], [(0, .cells 39 [.int .i64 x0, .int .i64 x1, .own 2]), (1, .cells 39 [.int .i64 x2, .int .i64 x3, .own 3]), (2, .vec 5 (.int .u8) x4 true), (3, .vec 5 (.int .u8) x5 true)], 4, 0⟩)
theorem S79_1_okg (fuel : Nat) (f89 : YF89) (f150 : YF150) (f151 : YF151) (f152 : YF152) (f153 : YF153) (R : Ev.St → Option Ans) (K : Ev.Ex → Ev.St → Option Ans) (x0 : Int) (x1 : Int) (x2 : Int) (x3 : Int) (x4 : Int) (x5 : Int) (x6 : Int) (x7 : (List Int)) (x8 : Int) (x9 : Int) (x10 : (List Int)) (x11 : Int) (x12 : Int) (x13 : Int) (x14 : Int) (x15 : (List Int)) (x16 : (List Int)) : evalCode tab (Gg79 f89 f150 f151 f152 f153) (J79_1 fuel) kp79 fuel (bodyOf 1 Try.f79) (T79_1 (x0, x1, x2, x3, x4, x5, x6, x7, x8, x9, x10, x11, x12, x13, x14, x15, x16)) (lc kp79 7 1 R K) = (fun (c : (Int × Int × Int × Int × Int × Int × Int × (List Int) × Int × Int × (List Int) × Int × Int × Int × Int × (List Int) × (List Int)) → Option Ans) (B : (Int × Int × Int × Int × (List Int) × (List Int) → Option Ans)) => match B with
  | b =>
   bif Decidable.decide (x4 < x3) then
      (L_bitmap_Draw_3 fuel (x0, x1, x2, x4, x3, x4, x8, (0 : Int), x5, x6, x7, x8, x9, x10, x11, x12, x13, x14, x15, x16)
        (fun (b3_0, b3_1, b3_2, b3_3, b3_4, b3_5, b3_6, b3_7, b3_8, b3_9, b3_10, b3_11, b3_12, b3_13, b3_14, b3_15, b3_16) =>
          c (b3_0, b3_1, b3_2, b3_3, Go.IntKind.i64.wrap (b3_4 + (1 : Int)), b3_5, b3_6, b3_7, b3_8, b3_9, b3_10, b3_11, b3_12, b3_13, b3_14, b3_15, b3_16)))
     else
      b (x11, x12, x13, x14, x15, x16)) (fun v => R (T79_1 v)) (E79_1 K) := by
  kernel_rfl
theorem S79_1_ok (fuel : Nat) (R : Ev.St → Option Ans) (K : Ev.Ex → Ev.St → Option Ans) (x0 : Int) (x1 : Int) (x2 : Int) (x3 : Int) (x4 : Int) (x5 : Int) (x6 : Int) (x7 : (List Int)) (x8 : Int) (x9 : Int) (x10 : (List Int)) (x11 : Int) (x12 : Int) (x13 : Int) (x14 : Int) (x15 : (List Int)) (x16 : (List Int)) : evalCode tab (G79 fuel) (J79_1 fuel) kp79 fuel (bodyOf 1 Try.f79) (T79_1 (x0, x1, x2, x3, x4, x5, x6, x7, x8, x9, x10, x11, x12, x13, x14, x15, x16)) (lc kp79 7 1 R K) = S_bitmap_Draw_1 fuel (x0, x1, x2, x3, x4, x5, x6, x7, x8, x9, x10, x11, x12, x13, x14, x15, x16) (fun v => R (T79_1 v)) (E79_1 K) :=
  S79_1_okg fuel (F_bitmap_Valid fuel) (F_bitmap_isShift fuel) (F_bitmap_clone fuel) (F_bitmap_combine fuel) (F_bitmap_at fuel) R K x0 x1 x2 x3 x4 x5 x6 x7 x8 x9 x10 x11 x12 x13 x14 x15 x16
noncomputable def B79_1 (fuel : Nat) : Ev.Blk := fun st K => match canonO (kp79 7) st with
  | some s => (match s with
    | ⟨[(q0, .c (.int .i64 x0)), (q1, .c (.int .i64 x1)), (q2, .c (.int .i64 x2)), (q3, .c (.ptr q4 q5)), (q6, .c (.ptr q7 q8)), (q9, .c (.ptr q10 q11)), (q12, .c (.ptr q13 q14)), (q15, .c (.int .i64 x3)), (q16, .c (.int .i64 x4))], [(q17, .cells q18 [.int .i64 x5, .int .i64 x6, .sl (.int .u8) x7]), (q19, .cells q20 [.int .i64 x8, .int .i64 x9, .sl (.int .u8) x10]), (q21, .cells q22 [.int .i64 x11, .int .i64 x12, .own q23]), (q24, .cells q25 [.int .i64 x13, .int .i64 x14, .own q26]), (q27, .vec q28 (.int .u8) x15 true), (q29, .vec q30 (.int .u8) x16 true)], q31, q32⟩ => bif Nat.beq q0 2 && Nat.beq q1 3 && Nat.beq q2 4 && Nat.beq q3 5 && Nat.beq q4 0 && Nat.beq q5 0 && Nat.beq q6 6 && Nat.beq q7 1 && Nat.beq q8 0 && Nat.beq q9 10 && Nat.beq q10 2 && Nat.beq q11 0 && Nat.beq q12 12 && Nat.beq q13 3 && Nat.beq q14 0 && Nat.beq q15 45 && Nat.beq q16 46 && Nat.beq q17 0 && Nat.beq q18 39 && Nat.beq q19 1 && Nat.beq q20 39 && Nat.beq q21 2 && Nat.beq q22 39 && Nat.beq q23 4 && Nat.beq q24 3 && Nat.beq q25 39 && Nat.beq q26 5 && Nat.beq q27 4 && Nat.beq q28 5 && Nat.beq q29 5 && Nat.beq q30 5 && Nat.beq q31 6 && Nat.beq q32 0 then iter (S_bitmap_Draw_1 fuel) fuel (x0, x1, x2, x3, x4, x5, x6, x7, x8, x9, x10, x11, x12, x13, x14, x15, x16) (E79_1 K) else none
    | _ => none)
  | none => none
theorem B79_1_ok (fuel : Nat) (st : Ev.St) (K : Ev.Ex → Ev.St → Option Ans) (r : Ans) (h : B79_1 fuel st K = some r) : evalCode tab (G79 fuel) (J79_1 fuel) kp79 fuel (.block 1 (.loop (bodyOf 1 Try.f79))) st K = some r := by
  unfold B79_1 at h
  split at h
  · rename_i s hs
    split at h
    · skip
      obtain ⟨hb, h⟩ := cond_some' h
      simp only [Bool.and_eq_true, Nat.beq_eq, decide_eq_true_eq] at hb
      obtain ⟨⟨⟨⟨⟨⟨⟨⟨⟨⟨⟨⟨⟨⟨⟨⟨⟨⟨⟨⟨⟨⟨⟨⟨⟨⟨⟨⟨⟨⟨⟨⟨rfl, rfl⟩, rfl⟩, rfl⟩, rfl⟩, rfl⟩, rfl⟩, rfl⟩, rfl⟩, rfl⟩, rfl⟩, rfl⟩, rfl⟩, rfl⟩, rfl⟩, rfl⟩, rfl⟩, rfl⟩, rfl⟩, rfl⟩, rfl⟩, rfl⟩, rfl⟩, rfl⟩, rfl⟩, rfl⟩, rfl⟩, rfl⟩, rfl⟩, rfl⟩, rfl⟩, rfl⟩, rfl⟩ := hb
      exact blk_loop (S := T79_1) (ks := E79_1) (step := S_bitmap_Draw_1 fuel) (v := (_, _, _, _, _, _, _, _, _, _, _, _, _, _, _, _, _)) (by kernel_rfl) (by kernel_rfl) (fun R K v => by obtain ⟨x0, x1, x2, x3, x4, x5, x6, x7, x8, x9, x10, x11, x12, x13, x14, x15, x16⟩ := v; exact S79_1_ok fuel R K x0 x1 x2 x3 x4 x5 x6 x7 x8 x9 x10 x11 x12 x13 x14 x15 x16) hs h
    · cases h
  · cases h
noncomputable def J79 (fuel : Nat) (i : Nat) : Option Ev.Blk := Ev.look i [(100003, B79_3 fuel), (100001, B79_1 fuel)]
noncomputable def F_bitmap_Draw (fuel : Nat) (x0 : Int) (x1 : Int) (x2 : (List Int)) (x3 : Int) (x4 : Int) (x5 : (List Int)) (x6 : Int) (x7 : Int) (x8 : Int) (k0 : (Int × Int × Int × (List Int)) → Option Ans) : Option Ans :=
  (F_bitmap_Valid fuel (x0) (x1) (x2)
    (fun y2 =>
      bif !y2 then
       k0 ((0 : Int), (0 : Int), (30 : Int), [])
      else
       (F_bitmap_Valid fuel (x3) (x4) (x5)
         (fun y7 =>
           bif !y7 then
            k0 ((0 : Int), (0 : Int), (30 : Int), [])
           else
            bif Decidable.decide (x8 < (0 : Int)) then
             k0 ((0 : Int), (0 : Int), (2 : Int), [])
            else
             bif Decidable.decide (x8 > (4 : Int)) then
              k0 ((0 : Int), (0 : Int), (2 : Int), [])
             else
              (F_bitmap_isShift fuel (x6) (x7)
                (fun y14 =>
                  bif !y14 then
                   k0 ((0 : Int), (0 : Int), (2 : Int), [])
                  else
                   (F_bitmap_clone fuel (x0) (x1) (x2)
                     (fun (y19_0, y19_1, y19_2) =>
                       (L_bitmap_Draw_1 fuel (x6, x7, x8, x4, (0 : Int), x0, x1, x2, x3, x4, x5, (0 : Int), (0 : Int), y19_0, y19_1, [], y19_2)
                         (fun (b1_0, b1_1, b1_2, b1_3, b1_4, b1_5) =>
                           k0 (b1_2, b1_3, (0 : Int), b1_5)))))))))))
abbrev YF79 : Type := (Int) → (Int) → ((List Int)) → (Int) → (Int) → ((List Int)) → (Int) → (Int) → (Int) → ((Int × Int × Int × (List Int)) → Option Ans) → Option Ans
theorem F79_eqg (fuel : Nat) (f89 : YF89) (f150 : YF150) (f151 : YF151) (f152 : YF152) (f153 : YF153) (x0 : Int) (x1 : Int) (x2 : (List Int)) (x3 : Int) (x4 : Int) (x5 : (List Int)) (x6 : Int) (x7 : Int) (x8 : Int) (k : Ev.Cont) : evalFn tab (Gg79 f89 f150 f151 f152 f153) (J79 fuel) kp79 fuel Try.f79 [.agg [.int .i64 x0, .int .i64 x1, .sl (.int .u8) x2], .agg [.int .i64 x3, .int .i64 x4, .sl (.int .u8) x5], .c (.int .i64 x6), .c (.int .i64 x7), .c (.int .i64 x8)] [] k = (fun  (k0 : (Int × Int × Int × (List Int)) → Option Ans) =>
  (f89 (x0) (x1) (x2)
    (fun y2 =>
      bif !y2 then
       k0 ((0 : Int), (0 : Int), (30 : Int), [])
      else
       (f89 (x3) (x4) (x5)
         (fun y7 =>
           bif !y7 then
            k0 ((0 : Int), (0 : Int), (30 : Int), [])
           else
            bif Decidable.decide (x8 < (0 : Int)) then
             k0 ((0 : Int), (0 : Int), (2 : Int), [])
            else
             bif Decidable.decide (x8 > (4 : Int)) then
              k0 ((0 : Int), (0 : Int), (2 : Int), [])
             else
              (f150 (x6) (x7)
                (fun y14 =>
                  bif !y14 then
                   k0 ((0 : Int), (0 : Int), (2 : Int), [])
                  else
                   (f151 (x0) (x1) (x2)
                     (fun (y19_0, y19_1, y19_2) =>
                       (L_bitmap_Draw_1 fuel (x6, x7, x8, x4, (0 : Int), x0, x1, x2, x3, x4, x5, (0 : Int), (0 : Int), y19_0, y19_1, [], y19_2)
                         (fun (b1_0, b1_1, b1_2, b1_3, b1_4, b1_5) =>
                           k0 (b1_2, b1_3, (0 : Int), b1_5)))))))))))) (fun r => match r with | (r0, r1, r2, r3) => k (.tup [(true, [.int .i64 r0, .int .i64 r1, .own 0]), (false, [.int .i64 r2])], [.vec 5 (.int .u8) r3 true])) := by
  kernel_rfl
theorem F79_eq (fuel : Nat) (x0 : Int) (x1 : Int) (x2 : (List Int)) (x3 : Int) (x4 : Int) (x5 : (List Int)) (x6 : Int) (x7 : Int) (x8 : Int) (k : Ev.Cont) : evalFn tab (G79 fuel) (J79 fuel) kp79 fuel Try.f79 [.agg [.int .i64 x0, .int .i64 x1, .sl (.int .u8) x2], .agg [.int .i64 x3, .int .i64 x4, .sl (.int .u8) x5], .c (.int .i64 x6), .c (.int .i64 x7), .c (.int .i64 x8)] [] k = F_bitmap_Draw fuel x0 x1 x2 x3 x4 x5 x6 x7 x8 (fun r => match r with | (r0, r1, r2, r3) => k (.tup [(true, [.int .i64 r0, .int .i64 r1, .own 0]), (false, [.int .i64 r2])], [.vec 5 (.int .u8) r3 true])) :=
  F79_eqg fuel (F_bitmap_Valid fuel) (F_bitmap_isShift fuel) (F_bitmap_clone fuel) (F_bitmap_combine fuel) (F_bitmap_at fuel) x0 x1 x2 x3 x4 x5 x6 x7 x8 k
theorem hG79 (fuel : Nat) : GOK Try.prog (G79 fuel) :=
  gok_cons ⟨ok89 fuel, enters_of Try.func89 (by kernel_rfl) rfl⟩ <|
  gok_cons ⟨ok150 fuel, enters_of Try.func150 (by kernel_rfl) rfl⟩ <|
  gok_cons ⟨ok151 fuel, enters_of Try.func151 (by kernel_rfl) rfl⟩ <|
  gok_cons ⟨ok152 fuel, enters_of Try.func152 (by kernel_rfl) rfl⟩ <|
  gok_cons ⟨ok153 fuel, enters_of Try.func153 (by kernel_rfl) rfl⟩ <|
  gok_nil
theorem B79_3_blk (fuel : Nat) : BlkOK Try.prog Try.f79.ntmps (.block 3 (.loop (bodyOf 3 Try.f79))) (B79_3 fuel) :=
  blk_of (blk_of_code tab_ok (hG79 fuel) mixed (J := J79_3 fuel) (kp := kp79) (fuel := fuel) (by kernel_rfl) (fun q hq => by
    rw [(by kernel_rfl : obl (J79_3 fuel) (.block 3 (.loop (bodyOf 3 Try.f79))) = [])] at hq
    cases hq)) (B79_3_ok fuel)
theorem B79_1_blk (fuel : Nat) : BlkOK Try.prog Try.f79.ntmps (.block 1 (.loop (bodyOf 1 Try.f79))) (B79_1 fuel) :=
  blk_of (blk_of_code tab_ok (hG79 fuel) mixed (J := J79_1 fuel) (kp := kp79) (fuel := fuel) (by kernel_rfl) (fun q hq => by
    rw [(by kernel_rfl : obl (J79_1 fuel) (.block 1 (.loop (bodyOf 1 Try.f79))) = [(.block 3 (.loop (bodyOf 3 Try.f79)), B79_3 fuel)])] at hq
    simp only [List.mem_cons, List.not_mem_nil, or_false] at hq
    subst hq
    · exact B79_3_blk fuel)) (B79_1_ok fuel)
theorem fok79 (fuel : Nat) : FnOK Try.prog 79 (evalFn tab (G79 fuel) (J79 fuel) kp79 fuel Try.f79) :=
  fn_ok tab_ok (hG79 fuel) mixed Try.func79 (c := (Try.f79.body).getD .skip) rfl (fun q hq => by
    rw [(by kernel_rfl : obl (J79 fuel) ((Try.f79.body).getD .skip) = [(.block 1 (.loop (bodyOf 1 Try.f79)), B79_1 fuel)])] at hq
    simp only [List.mem_cons, List.not_mem_nil, or_false] at hq
    subst hq
    · exact B79_1_blk fuel)
noncomputable def mt79 : List Ev.SV → List Ev.Ob → Bool := fun args objs => match args, objs with
  | [.agg [.int .i64 _, .int .i64 _, .sl (.int .u8) _], .agg [.int .i64 _, .int .i64 _, .sl (.int .u8) _], .c (.int .i64 _), .c (.int .i64 _), .c (.int .i64 _)], [] => true
  | _, _ => false
noncomputable def spg79 (F : YF79) : Ev.Spec := fun args objs k => match args, objs with
  | [.agg [.int .i64 x0, .int .i64 x1, .sl (.int .u8) x2], .agg [.int .i64 x3, .int .i64 x4, .sl (.int .u8) x5], .c (.int .i64 x6), .c (.int .i64 x7), .c (.int .i64 x8)], [] => bif true then F x0 x1 x2 x3 x4 x5 x6 x7 x8 (fun r => match r with | (r0, r1, r2, r3) => k (.tup [(true, [.int .i64 r0, .int .i64 r1, .own 0]), (false, [.int .i64 r2])], [.vec 5 (.int .u8) r3 true])) else none
  | _, _ => none
noncomputable def spec79 (fuel : Nat) : Ev.Spec := spg79 (F_bitmap_Draw fuel)
theorem ok79 (fuel : Nat) : FnOK Try.prog 79 (spec79 fuel) := by
  intro args objs kk r h
  unfold spec79 spg79 at h
  split at h
  · skip
    obtain ⟨hb, h⟩ := cond_some' h
    simp only [Bool.and_eq_true, Nat.beq_eq, decide_eq_true_eq] at hb
    clear hb
    exact fok79 fuel _ _ kk r ((F79_eq fuel _ _ _ _ _ _ _ _ _ kk).trans h)
  · cases h
end Go.Proofs.Ytihfgpfofmjbaaa

set_option linter.unusedVariables false
set_option linter.unusedSimpArgs false
set_option maxRecDepth 100000
set_option maxHeartbeats 2000000
namespace Go.Proofs.Ytihfgpfofmjbaaa
open Go Ev
def kp149 (i : Nat) : Option (List Nat) := Ev.look i []
noncomputable def Gg149 (f159 : YF159) (f : Nat) : Option Ev.Spec := Ev.look f [(159, spg159 f159)]
noncomputable def G149 (fuel : Nat) : Nat → Option Ev.Spec := Gg149 (F_bitmap_fits fuel)
noncomputable def J149 (fuel : Nat) (i : Nat) : Option Ev.Blk := Ev.look i []
noncomputable def F_bitmap_blank (fuel : Nat) (x0 : Int) (x1 : Int) (k0 : (Int × Int × Int × (List Int)) → Option Ans) : Option Ans :=
  (F_bitmap_fits fuel (x0) (x1)
    (fun y2 =>
      bif !y2 then
       k0 ((0 : Int), (0 : Int), (4 : Int), [])
      else
       bif Decidable.decide ((0 : Int) ≤ Go.IntKind.i64.wrap (x0 * x1) ∧ Go.IntKind.i64.wrap (x0 * x1) = Go.IntKind.i64.wrap (x0 * x1) ∧ (↑(1 : Nat) : Int) * Go.IntKind.i64.wrap (x0 * x1) ≤ (281474976710656 : Int) ∧ Go.IntKind.i64.wrap (x0 * x1) ≤ (281474976710656 : Int)) then
       k0 (x0, x1, (0 : Int), List.replicate (Go.IntKind.i64.wrap (x0 * x1)).toNat (0 : Int))
       else none))
abbrev YF149 : Type := (Int) → (Int) → ((Int × Int × Int × (List Int)) → Option Ans) → Option Ans
theorem F149_eqg (fuel : Nat) (f159 : YF159) (x0 : Int) (x1 : Int) (k : Ev.Cont) : evalFn tab (Gg149 f159) (J149 fuel) kp149 fuel Try.f149 [.c (.int .i64 x0), .c (.int .i64 x1)] [] k = (fun  (k0 : (Int × Int × Int × (List Int)) → Option Ans) =>
  (f159 (x0) (x1)
    (fun y2 =>
      bif !y2 then
       k0 ((0 : Int), (0 : Int), (4 : Int), [])
      else
       bif Decidable.decide ((0 : Int) ≤ Go.IntKind.i64.wrap (x0 * x1) ∧ Go.IntKind.i64.wrap (x0 * x1) = Go.IntKind.i64.wrap (x0 * x1) ∧ (↑(1 : Nat) : Int) * Go.IntKind.i64.wrap (x0 * x1) ≤ (281474976710656 : Int) ∧ Go.IntKind.i64.wrap (x0 * x1) ≤ (281474976710656 : Int)) then
       k0 (x0, x1, (0 : Int), List.replicate (Go.IntKind.i64.wrap (x0 * x1)).toNat (0 : Int))
       else none))) (fun r => match r with | (r0, r1, r2, r3) => k (.tup [(true, [.int .i64 r0, .int .i64 r1, .own 0]), (false, [.int .i64 r2])], [.vec 5 (.int .u8) r3 true])) := by
  kernel_rfl
theorem F149_eq (fuel : Nat) (x0 : Int) (x1 : Int) (k : Ev.Cont) : evalFn tab (G149 fuel) (J149 fuel) kp149 fuel Try.f149 [.c (.int .i64 x0), .c (.int .i64 x1)] [] k = F_bitmap_blank fuel x0 x1 (fun r => match r with | (r0, r1, r2, r3) => k (.tup [(true, [.int .i64 r0, .int .i64 r1, .own 0]), (false, [.int .i64 r2])], [.vec 5 (.int .u8) r3 true])) :=
  F149_eqg fuel (F_bitmap_fits fuel) x0 x1 k
theorem hG149 (fuel : Nat) : GOK Try.prog (G149 fuel) :=
  gok_cons ⟨ok159 fuel, enters_of Try.func159 (by kernel_rfl) rfl⟩ <|
  gok_nil
theorem fok149 (fuel : Nat) : FnOK Try.prog 149 (evalFn tab (G149 fuel) (J149 fuel) kp149 fuel Try.f149) :=
  fn_ok tab_ok (hG149 fuel) mixed Try.func149 (c := (Try.f149.body).getD .skip) rfl (fun q hq => by
    rw [(by kernel_rfl : obl (J149 fuel) ((Try.f149.body).getD .skip) = [])] at hq
    cases hq)
noncomputable def mt149 : List Ev.SV → List Ev.Ob → Bool := fun args objs => match args, objs with
  | [.c (.int .i64 _), .c (.int .i64 _)], [] => true
  | _, _ => false
noncomputable def spg149 (F : YF149) : Ev.Spec := fun args objs k => match args, objs with
  | [.c (.int .i64 x0), .c (.int .i64 x1)], [] => bif true then F x0 x1 (fun r => match r with | (r0, r1, r2, r3) => k (.tup [(true, [.int .i64 r0, .int .i64 r1, .own 0]), (false, [.int .i64 r2])], [.vec 5 (.int .u8) r3 true])) else none
  | _, _ => none
noncomputable def spec149 (fuel : Nat) : Ev.Spec := spg149 (F_bitmap_blank fuel)
theorem ok149 (fuel : Nat) : FnOK Try.prog 149 (spec149 fuel) := by
  intro args objs kk r h
  unfold spec149 spg149 at h
  split at h
  · skip
    obtain ⟨hb, h⟩ := cond_some' h
    simp only [Bool.and_eq_true, Nat.beq_eq, decide_eq_true_eq] at hb
    clear hb
    exact fok149 fuel _ _ kk r ((F149_eq fuel _ _ kk).trans h)
  · cases h
end Go.Proofs.Ytihfgpfofmjbaaa

set_option linter.unusedVariables false
set_option linter.unusedSimpArgs false
set_option maxRecDepth 100000
set_option maxHeartbeats 2000000
namespace Go.Proofs.Ytihfgpfofmjbaaa
open Go Ev
def kp76 (i : Nat) : Option (List Nat) := Ev.look i [(5, [2, 6, 8, 9, 34, 35]), (100000, [6, 8, 9]), (400000, [6, 7])]
noncomputable def Gg76 (f149 : YF149) (f : Nat) : Option Ev.Spec := Ev.look f [(149, spg149 f149)]
noncomputable def G76 (fuel : Nat) : Nat → Option Ev.Spec := Gg76 (F_bitmap_blank fuel)
noncomputable def S_bitmap_New_0 (fuel : Nat) (v : Int × Int × Int × Int × Int × Int × Int × Int × (List Int) × (List Int)) (c : (Int × Int × Int × Int × Int × Int × Int × Int × (List Int) × (List Int)) → Option Ans) (B : (Int × Int × Int × Int × Int × (List Int) × (List Int) → Option Ans)) : Option Ans := match v, B with
  | (x0, x1, x2, x3, x4, x5, x6, x7, x8, x9), b =>
   bif Decidable.decide (x3 < x2) then
      bif Decidable.decide ((0 : Int) ≤ x3 ∧ x3 < (↑x9.length : Int)) then
      c (x0, x1, x2, Go.IntKind.i64.wrap (x3 + (1 : Int)), x4, x5, x6, x7, x8, x9.set x3.toNat (Go.IntKind.u8.wrap x0))
      else none
     else
      b (x1, x4, x5, x6, x7, x8, x9)
noncomputable def L_bitmap_New_0 (fuel : Nat) (v : Int × Int × Int × Int × Int × Int × Int × Int × (List Int) × (List Int)) (b : (Int × Int × Int × Int × Int × (List Int) × (List Int) → Option Ans)) : Option Ans := iter (S_bitmap_New_0 fuel) fuel v b
noncomputable def J76_0 (fuel : Nat) (i : Nat) : Option Ev.Blk := Ev.look i []
noncomputable def T76_0 (v : Int × Int × Int × Int × Int × Int × Int × Int × (List Int) × (List Int)) : Ev.St := match v with | (x0, x1, x2, x3, x4, x5, x6, x7, x8, x9) => ⟨[(2, .c (.int .i64 x0)), (6, .c (.ptr 0 0)), (8, .c (.ptr 1 0)), (9, .c (.int .i64 x1)), (34, .c (.int .i64 x2)), (35, .c (.int .i64 x3))], [(0, .cells 39 [.int .i64 x4, .int .i64 x5, .own 2]), (1, .cells 39 [.int .i64 x6, .int .i64 x7, .own 3]), (2, .vec 5 (.int .u8) x8 true), (3, .vec 5 (.int .u8) x9 true)], 4, 0⟩
noncomputable def E76_0 (K : Ev.Ex → Ev.St → Option Ans) : (Int × Int × Int × Int × Int × (List Int) × (List Int) → Option Ans) := (fun v => match v with | (x0, x1, x2, x3, x4, x5, x6) => K .normal ⟨[(6, .c (.ptr 0 0)), (8, .c (.ptr 1 0)), (9, .c (.int .i64 x0))], [(0, .cells 39 [.int .i64 x1, .int .i64 x2, .own 2]), (1, .cells 39 [.int .i64 x3, .int .i64 x4, .own 3]), (2, .vec 5 (.int .u8) x5 true), (3, .vec 5 (.int .u8) x6 true)], 4, 0⟩)
theorem S76_0_okg (fuel : Nat) (f149 : YF149) (R : Ev.St → Option Ans) (K : Ev.Ex → Ev.St → Option Ans) (x0 : Int) (x1 : Int) (x2 : Int) (x3 : Int) (x4 : Int) (x5 : Int) (x6 : Int) (x7 : Int) (x8 : (List Int)) (x9 : (List Int)) : evalCode tab (Gg76 f149) (J76_0 fuel) kp76 fuel (bodyOf 0 Try.f76) (T76_0 (x0, x1, x2, x3, x4, x5, x6, x7, x8, x9)) (lc kp76 5 0 R K) = (fun (c : (Int × Int × Int × Int × Int × Int × Int × Int × (List Int) × (List Int)) → Option Ans) (B : (Int × Int × Int × Int × Int × (List Int) × (List Int) → Option Ans)) => match B with
  | b =>
   bif Decidable.decide (x3 < x2) then
      bif Decidable.decide ((0 : Int) ≤ x3 ∧ x3 < (↑x9.length : Int)) then
      c (x0, x1, x2, Go.IntKind.i64.wrap (x3 + (1 : Int)), x4, x5, x6, x7, x8, x9.set x3.toNat (Go.IntKind.u8.wrap x0))
      else none
     else
      b (x1, x4, x5, x6, x7, x8, x9)) (fun v => R (T76_0 v)) (E76_0 K) := by
  kernel_rfl
theorem S76_0_ok (fuel : Nat) (R : Ev.St → Option Ans) (K : Ev.Ex → Ev.St → Option Ans) (x0 : Int) (x1 : Int) (x2 : Int) (x3 : Int) (x4 : Int) (x5 : Int) (x6 : Int) (x7 : Int) (x8 : (List Int)) (x9 : (List Int)) : evalCode tab (G76 fuel) (J76_0 fuel) kp76 fuel (bodyOf 0 Try.f76) (T76_0 (x0, x1, x2, x3, x4, x5, x6, x7, x8, x9)) (lc kp76 5 0 R K) = S_bitmap_New_0 fuel (x0, x1, x2, x3, x4, x5, x6, x7, x8, x9) (fun v => R (T76_0 v)) (E76_0 K) :=
  S76_0_okg fuel (F_bitmap_blank fuel) R K x0 x1 x2 x3 x4 x5 x6 x7 x8 x9
noncomputable def B76_0 (fuel : Nat) : Ev.Blk := fun st K => match canonO (kp76 5) st with
  | some s => (match s with
    | ⟨[(q0, .c (.int .i64 x0)), (q1, .c (.ptr q2 q3)), (q4, .c (.ptr q5 q6)), (q7, .c (.int .i64 x1)), (q8, .c (.int .i64 x2)), (q9, .c (.int .i64 x3))], [(q10, .cells q11 [.int .i64 x4, .int .i64 x5, .own q12]), (q13, .cells q14 [.int .i64 x6, .int .i64 x7, .own q15]), (q16, .vec q17 (.int .u8) x8 true), (q18, .vec q19 (.int .u8) x9 true)], q20, q21⟩ => bif Nat.beq q0 2 && Nat.beq q1 6 && Nat.beq q2 0 && Nat.beq q3 0 && Nat.beq q4 8 && Nat.beq q5 1 && Nat.beq q6 0 && Nat.beq q7 9 && Nat.beq q8 34 && Nat.beq q9 35 && Nat.beq q10 0 && Nat.beq q11 39 && Nat.beq q12 2 && Nat.beq q13 1 && Nat.beq q14 39 && Nat.beq q15 3 && Nat.beq q16 2 && Nat.beq q17 5 && Nat.beq q18 3 && Nat.beq q19 5 && Nat.beq q20 4 && Nat.beq q21 0 then iter (S_bitmap_New_0 fuel) fuel (x0, x1, x2, x3, x4, x5, x6, x7, x8, x9) (E76_0 K) else none
    | _ => none)
  | none => none
theorem B76_0_ok (fuel : Nat) (st : Ev.St) (K : Ev.Ex → Ev.St → Option Ans) (r : Ans) (h : B76_0 fuel st K = some r) : evalCode tab (G76 fuel) (J76_0 fuel) kp76 fuel (.block 0 (.loop (bodyOf 0 Try.f76))) st K = some r := by
  unfold B76_0 at h
  split at h
  · rename_i s hs
    split at h
    · skip
      obtain ⟨hb, h⟩ := cond_some' h
      simp only [Bool.and_eq_true, Nat.beq_eq, decide_eq_true_eq] at hb
      obtain ⟨⟨⟨⟨⟨⟨⟨⟨⟨⟨⟨⟨⟨⟨⟨⟨⟨⟨⟨⟨⟨rfl, rfl⟩, rfl⟩, rfl⟩, rfl⟩, rfl⟩, rfl⟩, rfl⟩, rfl⟩, rfl⟩, rfl⟩, rfl⟩, rfl⟩, rfl⟩, rfl⟩, rfl⟩, rfl⟩, rfl⟩, rfl⟩, rfl⟩, rfl⟩, rfl⟩ := hb
      exact blk_loop (S := T76_0) (ks := E76_0) (step := S_bitmap_New_0 fuel) (v := (_, _, _, _, _, _, _, _, _, _)) (by kernel_rfl) (by kernel_rfl) (fun R K v => by obtain ⟨x0, x1, x2, x3, x4, x5, x6, x7, x8, x9⟩ := v; exact S76_0_ok fuel R K x0 x1 x2 x3 x4 x5 x6 x7 x8 x9) hs h
    · cases h
  · cases h
noncomputable def J76 (fuel : Nat) (i : Nat) : Option Ev.Blk := Ev.look i [(100000, B76_0 fuel)]
noncomputable def F_bitmap_New (fuel : Nat) (x0 : Int) (x1 : Int) (x2 : Int) (k0 : (Int × Int × Int × (List Int)) → Option Ans) : Option Ans :=
  bif Decidable.decide (x0 < (0 : Int)) then
   k0 ((0 : Int), (0 : Int), (2 : Int), [])
  else
   bif Decidable.decide (x1 < (0 : Int)) then
    k0 ((0 : Int), (0 : Int), (2 : Int), [])
   else
    bif x2 != (0 : Int) then
     bif x2 != (1 : Int) then
      k0 ((0 : Int), (0 : Int), (2 : Int), [])
     else
      (F_bitmap_blank fuel (x0) (x1)
        (fun (y6_0, y6_1, y6_2, y6_3) =>
          (L_bitmap_New_0 fuel (x2, y6_2, (↑y6_3.length : Int), (0 : Int), (0 : Int), (0 : Int), y6_0, y6_1, [], y6_3)
            (fun (b0_0, b0_1, b0_2, b0_3, b0_4, b0_5, b0_6) =>
              k0 (b0_3, b0_4, b0_0, b0_6)))))
    else
     (F_bitmap_blank fuel (x0) (x1)
       (fun (y5_0, y5_1, y5_2, y5_3) =>
         (L_bitmap_New_0 fuel (x2, y5_2, (↑y5_3.length : Int), (0 : Int), (0 : Int), (0 : Int), y5_0, y5_1, [], y5_3)
           (fun (b0_0, b0_1, b0_2, b0_3, b0_4, b0_5, b0_6) =>
             k0 (b0_3, b0_4, b0_0, b0_6)))))
abbrev YF76 : Type := (Int) → (Int) → (Int) → ((Int × Int × Int × (List Int)) → Option Ans) → Option Ans
theorem F76_eqg (fuel : Nat) (f149 : YF149) (x0 : Int) (x1 : Int) (x2 : Int) (k : Ev.Cont) : evalFn tab (Gg76 f149) (J76 fuel) kp76 fuel Try.f76 [.c (.int .i64 x0), .c (.int .i64 x1), .c (.int .i64 x2)] [] k = (fun  (k0 : (Int × Int × Int × (List Int)) → Option Ans) =>
  bif Decidable.decide (x0 < (0 : Int)) then
   k0 ((0 : Int), (0 : Int), (2 : Int), [])
  else
   bif Decidable.decide (x1 < (0 : Int)) then
    k0 ((0 : Int), (0 : Int), (2 : Int), [])
   else
    bif x2 != (0 : Int) then
     bif x2 != (1 : Int) then
      k0 ((0 : Int), (0 : Int), (2 : Int), [])
     else
      (f149 (x0) (x1)
        (fun (y6_0, y6_1, y6_2, y6_3) =>
          (L_bitmap_New_0 fuel (x2, y6_2, (↑y6_3.length : Int), (0 : Int), (0 : Int), (0 : Int), y6_0, y6_1, [], y6_3)
            (fun (b0_0, b0_1, b0_2, b0_3, b0_4, b0_5, b0_6) =>
              k0 (b0_3, b0_4, b0_0, b0_6)))))
    else
     (f149 (x0) (x1)
       (fun (y5_0, y5_1, y5_2, y5_3) =>
         (L_bitmap_New_0 fuel (x2, y5_2, (↑y5_3.length : Int), (0 : Int), (0 : Int), (0 : Int), y5_0, y5_1, [], y5_3)
           (fun (b0_0, b0_1, b0_2, b0_3, b0_4, b0_5, b0_6) =>
             k0 (b0_3, b0_4, b0_0, b0_6)))))) (fun r => match r with | (r0, r1, r2, r3) => k (.tup [(true, [.int .i64 r0, .int .i64 r1, .own 0]), (false, [.int .i64 r2])], [.vec 5 (.int .u8) r3 true])) := by
  kernel_rfl
theorem F76_eq (fuel : Nat) (x0 : Int) (x1 : Int) (x2 : Int) (k : Ev.Cont) : evalFn tab (G76 fuel) (J76 fuel) kp76 fuel Try.f76 [.c (.int .i64 x0), .c (.int .i64 x1), .c (.int .i64 x2)] [] k = F_bitmap_New fuel x0 x1 x2 (fun r => match r with | (r0, r1, r2, r3) => k (.tup [(true, [.int .i64 r0, .int .i64 r1, .own 0]), (false, [.int .i64 r2])], [.vec 5 (.int .u8) r3 true])) :=
  F76_eqg fuel (F_bitmap_blank fuel) x0 x1 x2 k
theorem hG76 (fuel : Nat) : GOK Try.prog (G76 fuel) :=
  gok_cons ⟨ok149 fuel, enters_of Try.func149 (by kernel_rfl) rfl⟩ <|
  gok_nil
theorem B76_0_blk (fuel : Nat) : BlkOK Try.prog Try.f76.ntmps (.block 0 (.loop (bodyOf 0 Try.f76))) (B76_0 fuel) :=
  blk_of (blk_of_code tab_ok (hG76 fuel) mixed (J := J76_0 fuel) (kp := kp76) (fuel := fuel) (by kernel_rfl) (fun q hq => by
    rw [(by kernel_rfl : obl (J76_0 fuel) (.block 0 (.loop (bodyOf 0 Try.f76))) = [])] at hq
    cases hq)) (B76_0_ok fuel)
theorem fok76 (fuel : Nat) : FnOK Try.prog 76 (evalFn tab (G76 fuel) (J76 fuel) kp76 fuel Try.f76) :=
  fn_ok tab_ok (hG76 fuel) mixed Try.func76 (c := (Try.f76.body).getD .skip) rfl (fun q hq => by
    rw [(by kernel_rfl : obl (J76 fuel) ((Try.f76.body).getD .skip) = [(.block 0 (.loop (bodyOf 0 Try.f76)), B76_0 fuel)])] at hq
    simp only [List.mem_cons, List.not_mem_nil, or_false] at hq
    subst hq
    · exact B76_0_blk fuel)
noncomputable def mt76 : List Ev.SV → List Ev.Ob → Bool := fun args objs => match args, objs with
  | [.c (.int .i64 _), .c (.int .i64 _), .c (.int .i64 _)], [] => true
  | _, _ => false
noncomputable def spg76 (F : YF76) : Ev.Spec := fun args objs k => match args, objs with
  | [.c (.int .i64 x0), .c (.int .i64 x1), .c (.int .i64 x2)], [] => bif true then F x0 x1 x2 (fun r => match r with | (r0, r1, r2, r3) => k (.tup [(true, [.int .i64 r0, .int .i64 r1, .own 0]), (false, [.int .i64 r2])], [.vec 5 (.int .u8) r3 true])) else none
  | _, _ => none
noncomputable def spec76 (fuel : Nat) : Ev.Spec := spg76 (F_bitmap_New fuel)
theorem ok76 (fuel : Nat) : FnOK Try.prog 76 (spec76 fuel) := by
  intro args objs kk r h
  unfold spec76 spg76 at h
  split at h
  · skip
    obtain ⟨hb, h⟩ := cond_some' h
    simp only [Bool.and_eq_true, Nat.beq_eq, decide_eq_true_eq] at hb
    clear hb
    exact fok76 fuel _ _ kk r ((F76_eq fuel _ _ _ kk).trans h)
  · cases h
end Go.Proofs.Ytihfgpfofmjbaaa

set_option linter.unusedVariables false
set_option linter.unusedSimpArgs false
set_option maxRecDepth 100000
set_option maxHeartbeats 2000000
namespace Go.Proofs.Ytihfgpfofmjbaaa
open Go Ev
def kp78 (i : Nat) : Option (List Nat) := Ev.look i []
noncomputable def Gg78 (f : Nat) : Option Ev.Spec := Ev.look f []
noncomputable def G78 (fuel : Nat) : Nat → Option Ev.Spec := Gg78
noncomputable def J78 (fuel : Nat) (i : Nat) : Option Ev.Blk := Ev.look i []
noncomputable def F_tone_near (fuel : Nat) (x0 : Int) (x1 : Int) (k0 : (Bool) → Option Ans) : Option Ans :=
  bif Decidable.decide (x0 ≥ Go.IntKind.i64.wrap ((0 : Int) - x1)) then
   k0 (Decidable.decide (x0 ≤ x1))
  else
   k0 Bool.false
abbrev YF78 : Type := (Int) → (Int) → ((Bool) → Option Ans) → Option Ans
theorem F78_eq (fuel : Nat) (x0 : Int) (x1 : Int) (k : Ev.Cont) : evalFn tab (G78 fuel) (J78 fuel) kp78 fuel Try.f78 [.c (.int .i64 x0), .c (.int .i64 x1)] [] k = F_tone_near fuel x0 x1 (fun r => match r with | r0 => k (.c (.bool r0), [])) := by
  kernel_rfl
theorem hG78 (fuel : Nat) : GOK Try.prog (G78 fuel) :=
  gok_nil
theorem fok78 (fuel : Nat) : FnOK Try.prog 78 (evalFn tab (G78 fuel) (J78 fuel) kp78 fuel Try.f78) :=
  fn_ok tab_ok (hG78 fuel) mixed Try.func78 (c := (Try.f78.body).getD .skip) rfl (fun q hq => by
    rw [(by kernel_rfl : obl (J78 fuel) ((Try.f78.body).getD .skip) = [])] at hq
    cases hq)
noncomputable def mt78 : List Ev.SV → List Ev.Ob → Bool := fun args objs => match args, objs with
  | [.c (.int .i64 _), .c (.int .i64 _)], [] => true
  | _, _ => false
noncomputable def spg78 (F : YF78) : Ev.Spec := fun args objs k => match args, objs with
  | [.c (.int .i64 x0), .c (.int .i64 x1)], [] => bif true then F x0 x1 (fun r => match r with | r0 => k (.c (.bool r0), [])) else none
  | _, _ => none
noncomputable def spec78 (fuel : Nat) : Ev.Spec := spg78 (F_tone_near fuel)
theorem ok78 (fuel : Nat) : FnOK Try.prog 78 (spec78 fuel) := by
  intro args objs kk r h
  unfold spec78 spg78 at h
  split at h
  · skip
    obtain ⟨hb, h⟩ := cond_some' h
    simp only [Bool.and_eq_true, Nat.beq_eq, decide_eq_true_eq] at hb
    clear hb
    exact fok78 fuel _ _ kk r ((F78_eq fuel _ _ kk).trans h)
  · cases h
end Go.Proofs.Ytihfgpfofmjbaaa

set_option linter.unusedVariables false
set_option linter.unusedSimpArgs false
set_option maxRecDepth 100000
set_option maxHeartbeats 2000000
namespace Go.Proofs.Ytihfgpfofmjbaaa
open Go Ev
def kp144 (i : Nat) : Option (List Nat) := Ev.look i []
noncomputable def Gg144 (f78 : YF78) (f : Nat) : Option Ev.Spec := Ev.look f [(78, spg78 f78)]
noncomputable def G144 (fuel : Nat) : Nat → Option Ev.Spec := Gg144 (F_tone_near fuel)
noncomputable def J144 (fuel : Nat) (i : Nat) : Option Ev.Blk := Ev.look i []
noncomputable def F_tone_Valid (fuel : Nat) (x0 : Int) (x1 : Int) (x2 : Int) (x3 : Int) (x4 : Int) (x5 : Int) (x6 : Int) (x7 : Int) (x8 : Bool) (x9 : Int) (k0 : (Bool) → Option Ans) : Option Ans :=
  bif Decidable.decide (x0 ≥ (0 : Int)) then
   bif Decidable.decide (x0 ≤ (64 : Int)) then
    bif Decidable.decide (x1 ≥ (0 : Int)) then
     bif Decidable.decide (x1 ≤ (64 : Int)) then
      bif Decidable.decide (Go.IntKind.i64.wrap (x0 * x1) ≤ (8192 : Int)) then
       (F_tone_near fuel (x2) ((1048576 : Int))
         (fun y7 =>
           bif y7 then
            (F_tone_near fuel (x3) ((1048576 : Int))
              (fun y12 =>
                bif y12 then
                 (F_tone_near fuel (x4) ((1048576 : Int))
                   (fun y17 =>
                     bif y17 then
                      (F_tone_near fuel (x5) ((1048576 : Int))
                        (fun y22 =>
                          bif y22 then
                           bif Decidable.decide (x6 ≥ (0 : Int)) then
                            bif Decidable.decide (x6 ≤ (3 : Int)) then
                             bif x7 == (0 : Int) then
                              bif Decidable.decide (x9 ≥ (0 : Int)) then
                               k0 (Decidable.decide (x9 ≤ (4 : Int)))
                              else
                               k0 Bool.false
                             else
                              bif x7 == (1 : Int) then
                               bif Decidable.decide (x9 ≥ (0 : Int)) then
                                k0 (Decidable.decide (x9 ≤ (4 : Int)))
                               else
                                k0 Bool.false
                              else
                               k0 Bool.false
                            else
                             k0 Bool.false
                           else
                            k0 Bool.false
                          else
                           k0 Bool.false))
                     else
                      k0 Bool.false))
                else
                 k0 Bool.false))
           else
            k0 Bool.false))
      else
       k0 Bool.false
     else
      k0 Bool.false
    else
     k0 Bool.false
   else
    k0 Bool.false
  else
   k0 Bool.false
abbrev YF144 : Type := (Int) → (Int) → (Int) → (Int) → (Int) → (Int) → (Int) → (Int) → (Bool) → (Int) → ((Bool) → Option Ans) → Option Ans
theorem F144_eqg (fuel : Nat) (f78 : YF78) (x0 : Int) (x1 : Int) (x2 : Int) (x3 : Int) (x4 : Int) (x5 : Int) (x6 : Int) (x7 : Int) (x8 : Bool) (x9 : Int) (k : Ev.Cont) : evalFn tab (Gg144 f78) (J144 fuel) kp144 fuel Try.f144 [.agg [.int .i64 x0, .int .i64 x1, .int .i64 x2, .int .i64 x3, .int .i64 x4, .int .i64 x5, .int .i64 x6, .int .i64 x7, .bool x8, .int .i64 x9]] [] k = (fun  (k0 : (Bool) → Option Ans) =>
  bif Decidable.decide (x0 ≥ (0 : Int)) then
   bif Decidable.decide (x0 ≤ (64 : Int)) then
    bif Decidable.decide (x1 ≥ (0 : Int)) then
     bif Decidable.decide (x1 ≤ (64 : Int)) then
      bif Decidable.decide (Go.IntKind.i64.wrap (x0 * x1) ≤ (8192 : Int)) then
       (f78 (x2) ((1048576 : Int))
         (fun y7 =>
           bif y7 then
            (f78 (x3) ((1048576 : Int))
              (fun y12 =>
                bif y12 then
                 (f78 (x4) ((1048576 : Int))
                   (fun y17 =>
                     bif y17 then
                      (f78 (x5) ((1048576 : Int))
                        (fun y22 =>
                          bif y22 then
                           bif Decidable.decide (x6 ≥ (0 : Int)) then
                            bif Decidable.decide (x6 ≤ (3 : Int)) then
                             bif x7 == (0 : Int) then
                              bif Decidable.decide (x9 ≥ (0 : Int)) then
                               k0 (Decidable.decide (x9 ≤ (4 : Int)))
                              else
                               k0 Bool.false
                             else
                              bif x7 == (1 : Int) then
                               bif Decidable.decide (x9 ≥ (0 : Int)) then
                                k0 (Decidable.decide (x9 ≤ (4 : Int)))
                               else
                                k0 Bool.false
                              else
                               k0 Bool.false
                            else
                             k0 Bool.false
                           else
                            k0 Bool.false
                          else
                           k0 Bool.false))
                     else
                      k0 Bool.false))
                else
                 k0 Bool.false))
           else
            k0 Bool.false))
      else
       k0 Bool.false
     else
      k0 Bool.false
    else
     k0 Bool.false
   else
    k0 Bool.false
  else
   k0 Bool.false) (fun r => match r with | r0 => k (.c (.bool r0), [])) := by
  kernel_rfl
theorem F144_eq (fuel : Nat) (x0 : Int) (x1 : Int) (x2 : Int) (x3 : Int) (x4 : Int) (x5 : Int) (x6 : Int) (x7 : Int) (x8 : Bool) (x9 : Int) (k : Ev.Cont) : evalFn tab (G144 fuel) (J144 fuel) kp144 fuel Try.f144 [.agg [.int .i64 x0, .int .i64 x1, .int .i64 x2, .int .i64 x3, .int .i64 x4, .int .i64 x5, .int .i64 x6, .int .i64 x7, .bool x8, .int .i64 x9]] [] k = F_tone_Valid fuel x0 x1 x2 x3 x4 x5 x6 x7 x8 x9 (fun r => match r with | r0 => k (.c (.bool r0), [])) :=
  F144_eqg fuel (F_tone_near fuel) x0 x1 x2 x3 x4 x5 x6 x7 x8 x9 k
theorem hG144 (fuel : Nat) : GOK Try.prog (G144 fuel) :=
  gok_cons ⟨ok78 fuel, enters_of Try.func78 (by kernel_rfl) rfl⟩ <|
  gok_nil
theorem fok144 (fuel : Nat) : FnOK Try.prog 144 (evalFn tab (G144 fuel) (J144 fuel) kp144 fuel Try.f144) :=
  fn_ok tab_ok (hG144 fuel) mixed Try.func144 (c := (Try.f144.body).getD .skip) rfl (fun q hq => by
    rw [(by kernel_rfl : obl (J144 fuel) ((Try.f144.body).getD .skip) = [])] at hq
    cases hq)
noncomputable def mt144 : List Ev.SV → List Ev.Ob → Bool := fun args objs => match args, objs with
  | [.agg [.int .i64 _, .int .i64 _, .int .i64 _, .int .i64 _, .int .i64 _, .int .i64 _, .int .i64 _, .int .i64 _, .bool _, .int .i64 _]], [] => true
  | _, _ => false
noncomputable def spg144 (F : YF144) : Ev.Spec := fun args objs k => match args, objs with
  | [.agg [.int .i64 x0, .int .i64 x1, .int .i64 x2, .int .i64 x3, .int .i64 x4, .int .i64 x5, .int .i64 x6, .int .i64 x7, .bool x8, .int .i64 x9]], [] => bif true then F x0 x1 x2 x3 x4 x5 x6 x7 x8 x9 (fun r => match r with | r0 => k (.c (.bool r0), [])) else none
  | _, _ => none
noncomputable def spec144 (fuel : Nat) : Ev.Spec := spg144 (F_tone_Valid fuel)
theorem ok144 (fuel : Nat) : FnOK Try.prog 144 (spec144 fuel) := by
  intro args objs kk r h
  unfold spec144 spg144 at h
  split at h
  · skip
    obtain ⟨hb, h⟩ := cond_some' h
    simp only [Bool.and_eq_true, Nat.beq_eq, decide_eq_true_eq] at hb
    clear hb
    exact fok144 fuel _ _ kk r ((F144_eq fuel _ _ _ _ _ _ _ _ _ _ kk).trans h)
  · cases h
end Go.Proofs.Ytihfgpfofmjbaaa

set_option linter.unusedVariables false
set_option linter.unusedSimpArgs false
set_option maxRecDepth 100000
set_option maxHeartbeats 2000000
namespace Go.Proofs.Ytihfgpfofmjbaaa
open Go Ev
def kp107 (i : Nat) : Option (List Nat) := Ev.look i []
noncomputable def Gg107 (f : Nat) : Option Ev.Spec := Ev.look f []
noncomputable def G107 (fuel : Nat) : Nat → Option Ev.Spec := Gg107
noncomputable def J107 (fuel : Nat) (i : Nat) : Option Ev.Blk := Ev.look i []
noncomputable def F_tone_rightSides (fuel : Nat) (x0 : Int) (x1 : Int) (k0 : (Bool) → Option Ans) : Option Ans :=
  bif Decidable.decide (x0 ≥ (1 : Int)) then
   bif Decidable.decide (x0 ≤ (16 : Int)) then
    bif Decidable.decide (x1 ≥ (1 : Int)) then
     k0 (Decidable.decide (x1 ≤ (16 : Int)))
    else
     k0 Bool.false
   else
    k0 Bool.false
  else
   k0 Bool.false
abbrev YF107 : Type := (Int) → (Int) → ((Bool) → Option Ans) → Option Ans
theorem F107_eq (fuel : Nat) (x0 : Int) (x1 : Int) (k : Ev.Cont) : evalFn tab (G107 fuel) (J107 fuel) kp107 fuel Try.f107 [.c (.int .i64 x0), .c (.int .i64 x1)] [] k = F_tone_rightSides fuel x0 x1 (fun r => match r with | r0 => k (.c (.bool r0), [])) := by
  kernel_rfl
theorem hG107 (fuel : Nat) : GOK Try.prog (G107 fuel) :=
  gok_nil
theorem fok107 (fuel : Nat) : FnOK Try.prog 107 (evalFn tab (G107 fuel) (J107 fuel) kp107 fuel Try.f107) :=
  fn_ok tab_ok (hG107 fuel) mixed Try.func107 (c := (Try.f107.body).getD .skip) rfl (fun q hq => by
    rw [(by kernel_rfl : obl (J107 fuel) ((Try.f107.body).getD .skip) = [])] at hq
    cases hq)
noncomputable def mt107 : List Ev.SV → List Ev.Ob → Bool := fun args objs => match args, objs with
  | [.c (.int .i64 _), .c (.int .i64 _)], [] => true
  | _, _ => false
noncomputable def spg107 (F : YF107) : Ev.Spec := fun args objs k => match args, objs with
  | [.c (.int .i64 x0), .c (.int .i64 x1)], [] => bif true then F x0 x1 (fun r => match r with | r0 => k (.c (.bool r0), [])) else none
  | _, _ => none
noncomputable def spec107 (fuel : Nat) : Ev.Spec := spg107 (F_tone_rightSides fuel)
theorem ok107 (fuel : Nat) : FnOK Try.prog 107 (spec107 fuel) := by
  intro args objs kk r h
  unfold spec107 spg107 at h
  split at h
  · skip
    obtain ⟨hb, h⟩ := cond_some' h
    simp only [Bool.and_eq_true, Nat.beq_eq, decide_eq_true_eq] at hb
    clear hb
    exact fok107 fuel _ _ kk r ((F107_eq fuel _ _ kk).trans h)
  · cases h
end Go.Proofs.Ytihfgpfofmjbaaa

set_option linter.unusedVariables false
set_option linter.unusedSimpArgs false
set_option maxRecDepth 100000
set_option maxHeartbeats 2000000
namespace Go.Proofs.Ytihfgpfofmjbaaa
open Go Ev
def kp145 (i : Nat) : Option (List Nat) := Ev.look i [(2, [0, 7, 8, 9]), (100000, [0]), (200004, [0, 4]), (400000, [2])]
noncomputable def Gg145 (f76 : YF76) (f89 : YF89) (f107 : YF107) (f : Nat) : Option Ev.Spec := Ev.look f [(76, spg76 f76), (89, spg89 f89), (107, spg107 f107)]
noncomputable def G145 (fuel : Nat) : Nat → Option Ev.Spec := Gg145 (F_bitmap_New fuel) (F_bitmap_Valid fuel) (F_tone_rightSides fuel)
noncomputable def S_tone_rightPatterns_0 (fuel : Nat) (v : (List (Int × (Int × (List Int)))) × (List (Int × (Int × (List Int)))) × Int × Int) (c : ((List (Int × (Int × (List Int)))) × (List (Int × (Int × (List Int)))) × Int × Int) → Option Ans) (B : (Int → Option Ans) × ((List (Int × (Int × (List Int)))) → Option Ans)) : Option Ans := match v, B with
  | (x0, x1, x2, x3), (ret, b) =>
   bif Decidable.decide (x3 < x2) then
      bif Decidable.decide ((0 : Int) ≤ x3 ∧ x3 < (↑x1.length : Int)) then
      (F_bitmap_Valid fuel ((x1.getD x3.toNat ((0 : Int), (0 : Int), [])).fst) ((x1.getD x3.toNat ((0 : Int), (0 : Int), [])).snd.fst) ((x1.getD x3.toNat ((0 : Int), (0 : Int), [])).snd.snd)
         (fun y4 =>
           bif !y4 then
            ret ((30 : Int))
           else
            bif Decidable.decide ((0 : Int) ≤ (0 : Int) ∧ (0 : Int) < (↑x0.length : Int)) then
            bif (x1.getD x3.toNat ((0 : Int), (0 : Int), [])).fst != (x0.getD (Int.toNat (0 : Int)) ((0 : Int), (0 : Int), [])).fst then
              ret ((30 : Int))
             else
              bif Decidable.decide ((0 : Int) ≤ (0 : Int) ∧ (0 : Int) < (↑x0.length : Int)) then
              bif (x1.getD x3.toNat ((0 : Int), (0 : Int), [])).snd.fst != (x0.getD (Int.toNat (0 : Int)) ((0 : Int), (0 : Int), [])).snd.fst then
                ret ((30 : Int))
               else
                c (x0, x1, x2, Go.IntKind.i64.wrap (x3 + (1 : Int)))
              else none
            else none))
      else none
     else
      b x0
noncomputable def L_tone_rightPatterns_0 (fuel : Nat) (v : (List (Int × (Int × (List Int)))) × (List (Int × (Int × (List Int)))) × Int × Int) (ret : (Int → Option Ans)) (b : ((List (Int × (Int × (List Int)))) → Option Ans)) : Option Ans := iter (S_tone_rightPatterns_0 fuel) fuel v (ret, b)
noncomputable def J145_0 (fuel : Nat) (i : Nat) : Option Ev.Blk := Ev.look i []
noncomputable def T145_0 (v : (List (Int × (Int × (List Int)))) × (List (Int × (Int × (List Int)))) × Int × Int) : Ev.St := match v with | (x0, x1, x2, x3) => ⟨[(0, .c (.sl (.pair (.int .i64) (.pair (.int .i64) (.sl (.int .u8)))) x0)), (7, .c (.sl (.pair (.int .i64) (.pair (.int .i64) (.sl (.int .u8)))) x1)), (8, .c (.int .i64 x2)), (9, .c (.int .i64 x3))], [], 0, 0⟩
noncomputable def E145_0 (K : Ev.Ex → Ev.St → Option Ans) : (Int → Option Ans) × ((List (Int × (Int × (List Int)))) → Option Ans) := ((fun v => match v with | x0 => K .ret ⟨[(2, .c (.int .i64 x0))], [], 0, 0⟩), (fun v => match v with | x0 => K .normal ⟨[(0, .c (.sl (.pair (.int .i64) (.pair (.int .i64) (.sl (.int .u8)))) x0))], [], 0, 0⟩))
theorem S145_0_okg (fuel : Nat) (f76 : YF76) (f89 : YF89) (f107 : YF107) (R : Ev.St → Option Ans) (K : Ev.Ex → Ev.St → Option Ans) (x0 : (List (Int × (Int × (List Int))))) (x1 : (List (Int × (Int × (List Int))))) (x2 : Int) (x3 : Int) : evalCode tab (Gg145 f76 f89 f107) (J145_0 fuel) kp145 fuel (bodyOf 0 Try.f145) (T145_0 (x0, x1, x2, x3)) (lc kp145 2 0 R K) = (fun (c : ((List (Int × (Int × (List Int)))) × (List (Int × (Int × (List Int)))) × Int × Int) → Option Ans) (B : (Int → Option Ans) × ((List (Int × (Int × (List Int)))) → Option Ans)) => match B with
  | (ret, b) =>
   bif Decidable.decide (x3 < x2) then
      bif Decidable.decide ((0 : Int) ≤ x3 ∧ x3 < (↑x1.length : Int)) then
      (f89 ((x1.getD x3.toNat ((0 : Int), (0 : Int), [])).fst) ((x1.getD x3.toNat ((0 : Int), (0 : Int), [])).snd.fst) ((x1.getD x3.toNat ((0 : Int), (0 : Int), [])).snd.snd)
         (fun y4 =>
           bif !y4 then
            ret ((30 : Int))
           else
            bif Decidable.decide ((0 : Int) ≤ (0 : Int) ∧ (0 : Int) < (↑x0.length : Int)) then
            bif (x1.getD x3.toNat ((0 : Int), (0 : Int), [])).fst != (x0.getD (Int.toNat (0 : Int)) ((0 : Int), (0 : Int), [])).fst then
              ret ((30 : Int))
             else
              bif Decidable.decide ((0 : Int) ≤ (0 : Int) ∧ (0 : Int) < (↑x0.length : Int)) then
              bif (x1.getD x3.toNat ((0 : Int), (0 : Int), [])).snd.fst != (x0.getD (Int.toNat (0 : Int)) ((0 : Int), (0 : Int), [])).snd.fst then
                ret ((30 : Int))
               else
                c (x0, x1, x2, Go.IntKind.i64.wrap (x3 + (1 : Int)))
              else none
            else none))
      else none
     else
      b x0) (fun v => R (T145_0 v)) (E145_0 K) := by
  kernel_rfl
theorem S145_0_ok (fuel : Nat) (R : Ev.St → Option Ans) (K : Ev.Ex → Ev.St → Option Ans) (x0 : (List (Int × (Int × (List Int))))) (x1 : (List (Int × (Int × (List Int))))) (x2 : Int) (x3 : Int) : evalCode tab (G145 fuel) (J145_0 fuel) kp145 fuel (bodyOf 0 Try.f145) (T145_0 (x0, x1, x2, x3)) (lc kp145 2 0 R K) = S_tone_rightPatterns_0 fuel (x0, x1, x2, x3) (fun v => R (T145_0 v)) (E145_0 K) :=
  S145_0_okg fuel (F_bitmap_New fuel) (F_bitmap_Valid fuel) (F_tone_rightSides fuel) R K x0 x1 x2 x3
noncomputable def B145_0 (fuel : Nat) : Ev.Blk := fun st K => match canonO (kp145 2) st with
  | some s => (match s with
    | ⟨[(q0, .c (.sl (.pair (.int .i64) (.pair (.int .i64) (.sl (.int .u8)))) x0)), (q1, .c (.sl (.pair (.int .i64) (.pair (.int .i64) (.sl (.int .u8)))) x1)), (q2, .c (.int .i64 x2)), (q3, .c (.int .i64 x3))], [], q4, q5⟩ => bif Nat.beq q0 0 && Nat.beq q1 7 && Nat.beq q2 8 && Nat.beq q3 9 && Nat.beq q4 0 && Nat.beq q5 0 then iter (S_tone_rightPatterns_0 fuel) fuel (x0, x1, x2, x3) (E145_0 K) else none
    | _ => none)
  | none => none
theorem B145_0_ok (fuel : Nat) (st : Ev.St) (K : Ev.Ex → Ev.St → Option Ans) (r : Ans) (h : B145_0 fuel st K = some r) : evalCode tab (G145 fuel) (J145_0 fuel) kp145 fuel (.block 0 (.loop (bodyOf 0 Try.f145))) st K = some r := by
  unfold B145_0 at h
  split at h
  · rename_i s hs
    split at h
    · skip
      obtain ⟨hb, h⟩ := cond_some' h
      simp only [Bool.and_eq_true, Nat.beq_eq, decide_eq_true_eq] at hb
      obtain ⟨⟨⟨⟨⟨rfl, rfl⟩, rfl⟩, rfl⟩, rfl⟩, rfl⟩ := hb
      exact blk_loop (S := T145_0) (ks := E145_0) (step := S_tone_rightPatterns_0 fuel) (v := (_, _, _, _)) (by kernel_rfl) (by kernel_rfl) (fun R K v => by obtain ⟨x0, x1, x2, x3⟩ := v; exact S145_0_ok fuel R K x0 x1 x2 x3) hs h
    · cases h
  · cases h
noncomputable def J145 (fuel : Nat) (i : Nat) : Option Ev.Blk := Ev.look i [(100000, B145_0 fuel)]
noncomputable def F_tone_rightPatterns (fuel : Nat) (x0 : (List (Int × Int × (List Int)))) (k0 : (Int) → Option Ans) : Option Ans :=
  (L_tone_rightPatterns_0 fuel (x0, x0, (↑x0.length : Int), (0 : Int))
    (fun ret0_0 =>
      k0 ret0_0)
    (fun b0_0 =>
      bif (↑b0_0.length : Int) == (0 : Int) then
       k0 ((2 : Int))
      else
       bif Decidable.decide ((↑b0_0.length : Int) > (64 : Int)) then
        k0 ((2 : Int))
       else
        bif Decidable.decide ((0 : Int) ≤ (0 : Int) ∧ (0 : Int) < (↑b0_0.length : Int)) then
        bif Decidable.decide ((0 : Int) ≤ (0 : Int) ∧ (0 : Int) < (↑b0_0.length : Int)) then
         (F_tone_rightSides fuel ((b0_0.getD (Int.toNat (0 : Int)) ((0 : Int), (0 : Int), [])).fst) ((b0_0.getD (Int.toNat (0 : Int)) ((0 : Int), (0 : Int), [])).snd.fst)
            (fun y10 =>
              bif !y10 then
               k0 ((2 : Int))
              else
               bif Decidable.decide ((0 : Int) ≤ (0 : Int) ∧ (0 : Int) < (↑b0_0.length : Int)) then
               bif Decidable.decide ((0 : Int) ≤ (0 : Int) ∧ (0 : Int) < (↑b0_0.length : Int)) then
                both ((F_bitmap_New fuel (Go.IntKind.i64.wrap ((b0_0.getD (Int.toNat (0 : Int)) ((0 : Int), (0 : Int), [])).fst * (↑b0_0.length : Int))) ((b0_0.getD (Int.toNat (0 : Int)) ((0 : Int), (0 : Int), [])).snd.fst) ((0 : Int))
                     (fun (y19_0, y19_1, y19_2, y19_3) =>
                       bif y19_2 != (0 : Int) then
                        k0 ((2 : Int))
                       else
                        k0 ((0 : Int)))))
                  ((F_bitmap_New fuel (Go.IntKind.i64.wrap ((b0_0.getD (Int.toNat (0 : Int)) ((0 : Int), (0 : Int), [])).fst * (↑b0_0.length : Int))) ((b0_0.getD (Int.toNat (0 : Int)) ((0 : Int), (0 : Int), [])).snd.fst) ((0 : Int))
                     (fun (y19_0, y19_1, y19_2, y19_3) =>
                       bif y19_2 != (0 : Int) then
                        k0 ((2 : Int))
                       else
                        k0 ((0 : Int)))))
                else none
               else none))
         else none
        else none))
abbrev YF145 : Type := ((List (Int × Int × (List Int)))) → ((Int) → Option Ans) → Option Ans
theorem F145_eqg (fuel : Nat) (f76 : YF76) (f89 : YF89) (f107 : YF107) (x0 : (List (Int × Int × (List Int)))) (k : Ev.Cont) : evalFn tab (Gg145 f76 f89 f107) (J145 fuel) kp145 fuel Try.f145 [.c (.sl (.pair (.int .i64) (.pair (.int .i64) (.sl (.int .u8)))) x0)] [] k = (fun  (k0 : (Int) → Option Ans) =>
  (L_tone_rightPatterns_0 fuel (x0, x0, (↑x0.length : Int), (0 : Int))
    (fun ret0_0 =>
      k0 ret0_0)
    (fun b0_0 =>
      bif (↑b0_0.length : Int) == (0 : Int) then
       k0 ((2 : Int))
      else
       bif Decidable.decide ((↑b0_0.length : Int) > (64 : Int)) then
        k0 ((2 : Int))
       else
        bif Decidable.decide ((0 : Int) ≤ (0 : Int) ∧ (0 : Int) < (↑b0_0.length : Int)) then
        bif Decidable.decide ((0 : Int) ≤ (0 : Int) ∧ (0 : Int) < (↑b0_0.length : Int)) then
         (f107 ((b0_0.getD (Int.toNat (0 : Int)) ((0 : Int), (0 : Int), [])).fst) ((b0_0.getD (Int.toNat (0 : Int)) ((0 : Int), (0 : Int), [])).snd.fst)
            (fun y10 =>
              bif !y10 then
               k0 ((2 : Int))
              else
               bif Decidable.decide ((0 : Int) ≤ (0 : Int) ∧ (0 : Int) < (↑b0_0.length : Int)) then
               bif Decidable.decide ((0 : Int) ≤ (0 : Int) ∧ (0 : Int) < (↑b0_0.length : Int)) then
                both ((f76 (Go.IntKind.i64.wrap ((b0_0.getD (Int.toNat (0 : Int)) ((0 : Int), (0 : Int), [])).fst * (↑b0_0.length : Int))) ((b0_0.getD (Int.toNat (0 : Int)) ((0 : Int), (0 : Int), [])).snd.fst) ((0 : Int))
                     (fun (y19_0, y19_1, y19_2, y19_3) =>
                       bif y19_2 != (0 : Int) then
                        k0 ((2 : Int))
                       else
                        k0 ((0 : Int)))))
                  ((f76 (Go.IntKind.i64.wrap ((b0_0.getD (Int.toNat (0 : Int)) ((0 : Int), (0 : Int), [])).fst * (↑b0_0.length : Int))) ((b0_0.getD (Int.toNat (0 : Int)) ((0 : Int), (0 : Int), [])).snd.fst) ((0 : Int))
                     (fun (y19_0, y19_1, y19_2, y19_3) =>
                       bif y19_2 != (0 : Int) then
                        k0 ((2 : Int))
                       else
                        k0 ((0 : Int)))))
                else none
               else none))
         else none
        else none))) (fun r => match r with | r0 => k (.c (.int .i64 r0), [])) := by
  kernel_rfl
theorem F145_eq (fuel : Nat) (x0 : (List (Int × Int × (List Int)))) (k : Ev.Cont) : evalFn tab (G145 fuel) (J145 fuel) kp145 fuel Try.f145 [.c (.sl (.pair (.int .i64) (.pair (.int .i64) (.sl (.int .u8)))) x0)] [] k = F_tone_rightPatterns fuel x0 (fun r => match r with | r0 => k (.c (.int .i64 r0), [])) :=
  F145_eqg fuel (F_bitmap_New fuel) (F_bitmap_Valid fuel) (F_tone_rightSides fuel) x0 k
theorem hG145 (fuel : Nat) : GOK Try.prog (G145 fuel) :=
  gok_cons ⟨ok76 fuel, enters_of Try.func76 (by kernel_rfl) rfl⟩ <|
  gok_cons ⟨ok89 fuel, enters_of Try.func89 (by kernel_rfl) rfl⟩ <|
  gok_cons ⟨ok107 fuel, enters_of Try.func107 (by kernel_rfl) rfl⟩ <|
  gok_nil
theorem B145_0_blk (fuel : Nat) : BlkOK Try.prog Try.f145.ntmps (.block 0 (.loop (bodyOf 0 Try.f145))) (B145_0 fuel) :=
  blk_of (blk_of_code tab_ok (hG145 fuel) mixed (J := J145_0 fuel) (kp := kp145) (fuel := fuel) (by kernel_rfl) (fun q hq => by
    rw [(by kernel_rfl : obl (J145_0 fuel) (.block 0 (.loop (bodyOf 0 Try.f145))) = [])] at hq
    cases hq)) (B145_0_ok fuel)
theorem fok145 (fuel : Nat) : FnOK Try.prog 145 (evalFn tab (G145 fuel) (J145 fuel) kp145 fuel Try.f145) :=
  fn_ok tab_ok (hG145 fuel) mixed Try.func145 (c := (Try.f145.body).getD .skip) rfl (fun q hq => by
    rw [(by kernel_rfl : obl (J145 fuel) ((Try.f145.body).getD .skip) = [(.block 0 (.loop (bodyOf 0 Try.f145)), B145_0 fuel)])] at hq
    simp only [List.mem_cons, List.not_mem_nil, or_false] at hq
    subst hq
    · exact B145_0_blk fuel)
noncomputable def mt145 : List Ev.SV → List Ev.Ob → Bool := fun args objs => match args, objs with
  | [.c (.sl (.pair (.int .i64) (.pair (.int .i64) (.sl (.int .u8)))) _)], [] => true
  | _, _ => false
noncomputable def spg145 (F : YF145) : Ev.Spec := fun args objs k => match args, objs with
  | [.c (.sl (.pair (.int .i64) (.pair (.int .i64) (.sl (.int .u8)))) x0)], [] => bif true then F x0 (fun r => match r with | r0 => k (.c (.int .i64 r0), [])) else none
  | _, _ => none
noncomputable def spec145 (fuel : Nat) : Ev.Spec := spg145 (F_tone_rightPatterns fuel)
theorem ok145 (fuel : Nat) : FnOK Try.prog 145 (spec145 fuel) := by
  intro args objs kk r h
  unfold spec145 spg145 at h
  split at h
  · skip
    obtain ⟨hb, h⟩ := cond_some' h
    simp only [Bool.and_eq_true, Nat.beq_eq, decide_eq_true_eq] at hb
    clear hb
    exact fok145 fuel _ _ kk r ((F145_eq fuel _ kk).trans h)
  · cases h
end Go.Proofs.Ytihfgpfofmjbaaa

set_option linter.unusedVariables false
set_option linter.unusedSimpArgs false
set_option maxRecDepth 100000
set_option maxHeartbeats 2000000
namespace Go.Proofs.Ytihfgpfofmjbaaa
open Go Ev
def kp71 (i : Nat) : Option (List Nat) := Ev.look i []
noncomputable def Gg71 (f76 : YF76) (f144 : YF144) (f145 : YF145) (f : Nat) : Option Ev.Spec := Ev.look f [(76, spg76 f76), (144, spg144 f144), (145, spg145 f145)]
noncomputable def G71 (fuel : Nat) : Nat → Option Ev.Spec := Gg71 (F_bitmap_New fuel) (F_tone_Valid fuel) (F_tone_rightPatterns fuel)
noncomputable def J71 (fuel : Nat) (i : Nat) : Option Ev.Blk := Ev.look i []
noncomputable def F_tone_begun (fuel : Nat) (x0 : Int) (x1 : Int) (x2 : Int) (x3 : Int) (x4 : Int) (x5 : Int) (x6 : Int) (x7 : Int) (x8 : Bool) (x9 : Int) (x10 : (List (Int × Int × (List Int)))) (x11 : Int) (x12 : Int) (k0 : (Int) → Option Ans) : Option Ans :=
  (F_tone_Valid fuel (x0) (x1) (x2) (x3) (x4) (x5) (x6) (x7) (x8) (x9)
    (fun y2 =>
      bif !y2 then
       k0 ((2 : Int))
      else
       (F_tone_rightPatterns fuel (x10)
         (fun y7 =>
           bif y7 == (30 : Int) then
            k0 y7
           else
            (F_bitmap_New fuel (x11) (x12) ((0 : Int))
              (fun (y12_0, y12_1, y12_2, y12_3) =>
                bif y12_2 != (0 : Int) then
                 k0 ((30 : Int))
                else
                 k0 y7))))))
abbrev YF71 : Type := (Int) → (Int) → (Int) → (Int) → (Int) → (Int) → (Int) → (Int) → (Bool) → (Int) → ((List (Int × Int × (List Int)))) → (Int) → (Int) → ((Int) → Option Ans) → Option Ans
theorem F71_eqg (fuel : Nat) (f76 : YF76) (f144 : YF144) (f145 : YF145) (x0 : Int) (x1 : Int) (x2 : Int) (x3 : Int) (x4 : Int) (x5 : Int) (x6 : Int) (x7 : Int) (x8 : Bool) (x9 : Int) (x10 : (List (Int × Int × (List Int)))) (x11 : Int) (x12 : Int) (k : Ev.Cont) : evalFn tab (Gg71 f76 f144 f145) (J71 fuel) kp71 fuel Try.f71 [.agg [.int .i64 x0, .int .i64 x1, .int .i64 x2, .int .i64 x3, .int .i64 x4, .int .i64 x5, .int .i64 x6, .int .i64 x7, .bool x8, .int .i64 x9], .c (.sl (.pair (.int .i64) (.pair (.int .i64) (.sl (.int .u8)))) x10), .c (.int .i64 x11), .c (.int .i64 x12)] [] k = (fun  (k0 : (Int) → Option Ans) =>
  (f144 (x0) (x1) (x2) (x3) (x4) (x5) (x6) (x7) (x8) (x9)
    (fun y2 =>
      bif !y2 then
       k0 ((2 : Int))
      else
       (f145 (x10)
         (fun y7 =>
           bif y7 == (30 : Int) then
            k0 y7
           else
            (f76 (x11) (x12) ((0 : Int))
              (fun (y12_0, y12_1, y12_2, y12_3) =>
                bif y12_2 != (0 : Int) then
                 k0 ((30 : Int))
                else
                 k0 y7))))))) (fun r => match r with | r0 => k (.c (.int .i64 r0), [])) := by
  kernel_rfl
theorem F71_eq (fuel : Nat) (x0 : Int) (x1 : Int) (x2 : Int) (x3 : Int) (x4 : Int) (x5 : Int) (x6 : Int) (x7 : Int) (x8 : Bool) (x9 : Int) (x10 : (List (Int × Int × (List Int)))) (x11 : Int) (x12 : Int) (k : Ev.Cont) : evalFn tab (G71 fuel) (J71 fuel) kp71 fuel Try.f71 [.agg [.int .i64 x0, .int .i64 x1, .int .i64 x2, .int .i64 x3, .int .i64 x4, .int .i64 x5, .int .i64 x6, .int .i64 x7, .bool x8, .int .i64 x9], .c (.sl (.pair (.int .i64) (.pair (.int .i64) (.sl (.int .u8)))) x10), .c (.int .i64 x11), .c (.int .i64 x12)] [] k = F_tone_begun fuel x0 x1 x2 x3 x4 x5 x6 x7 x8 x9 x10 x11 x12 (fun r => match r with | r0 => k (.c (.int .i64 r0), [])) :=
  F71_eqg fuel (F_bitmap_New fuel) (F_tone_Valid fuel) (F_tone_rightPatterns fuel) x0 x1 x2 x3 x4 x5 x6 x7 x8 x9 x10 x11 x12 k
theorem hG71 (fuel : Nat) : GOK Try.prog (G71 fuel) :=
  gok_cons ⟨ok76 fuel, enters_of Try.func76 (by kernel_rfl) rfl⟩ <|
  gok_cons ⟨ok144 fuel, enters_of Try.func144 (by kernel_rfl) rfl⟩ <|
  gok_cons ⟨ok145 fuel, enters_of Try.func145 (by kernel_rfl) rfl⟩ <|
  gok_nil
theorem fok71 (fuel : Nat) : FnOK Try.prog 71 (evalFn tab (G71 fuel) (J71 fuel) kp71 fuel Try.f71) :=
  fn_ok tab_ok (hG71 fuel) mixed Try.func71 (c := (Try.f71.body).getD .skip) rfl (fun q hq => by
    rw [(by kernel_rfl : obl (J71 fuel) ((Try.f71.body).getD .skip) = [])] at hq
    cases hq)
noncomputable def mt71 : List Ev.SV → List Ev.Ob → Bool := fun args objs => match args, objs with
  | [.agg [.int .i64 _, .int .i64 _, .int .i64 _, .int .i64 _, .int .i64 _, .int .i64 _, .int .i64 _, .int .i64 _, .bool _, .int .i64 _], .c (.sl (.pair (.int .i64) (.pair (.int .i64) (.sl (.int .u8)))) _), .c (.int .i64 _), .c (.int .i64 _)], [] => true
  | _, _ => false
noncomputable def spg71 (F : YF71) : Ev.Spec := fun args objs k => match args, objs with
  | [.agg [.int .i64 x0, .int .i64 x1, .int .i64 x2, .int .i64 x3, .int .i64 x4, .int .i64 x5, .int .i64 x6, .int .i64 x7, .bool x8, .int .i64 x9], .c (.sl (.pair (.int .i64) (.pair (.int .i64) (.sl (.int .u8)))) x10), .c (.int .i64 x11), .c (.int .i64 x12)], [] => bif true then F x0 x1 x2 x3 x4 x5 x6 x7 x8 x9 x10 x11 x12 (fun r => match r with | r0 => k (.c (.int .i64 r0), [])) else none
  | _, _ => none
noncomputable def spec71 (fuel : Nat) : Ev.Spec := spg71 (F_tone_begun fuel)
theorem ok71 (fuel : Nat) : FnOK Try.prog 71 (spec71 fuel) := by
  intro args objs kk r h
  unfold spec71 spg71 at h
  split at h
  · skip
    obtain ⟨hb, h⟩ := cond_some' h
    simp only [Bool.and_eq_true, Nat.beq_eq, decide_eq_true_eq] at hb
    clear hb
    exact fok71 fuel _ _ kk r ((F71_eq fuel _ _ _ _ _ _ _ _ _ _ _ _ _ kk).trans h)
  · cases h
end Go.Proofs.Ytihfgpfofmjbaaa

set_option linter.unusedVariables false
set_option linter.unusedSimpArgs false
set_option maxRecDepth 100000
set_option maxHeartbeats 2000000
namespace Go.Proofs.Ytihfgpfofmjbaaa
open Go Ev
def kp77 (i : Nat) : Option (List Nat) := Ev.look i [(200001, [3])]
noncomputable def Gg77 (f : Nat) : Option Ev.Spec := Ev.look f []
noncomputable def G77 (fuel : Nat) : Nat → Option Ev.Spec := Gg77
noncomputable def J77 (fuel : Nat) (i : Nat) : Option Ev.Blk := Ev.look i []
noncomputable def F_tone_cell (fuel : Nat) (x0 : Int) (x1 : Int) (x2 : Int) (x3 : Int) (x4 : Int) (x5 : Int) (x6 : Int) (x7 : Int) (x8 : Bool) (x9 : Int) (x10 : Int) (x11 : Int) (k0 : (Int × Int) → Option Ans) : Option Ans :=
  k0 (Ev.ishr Go.IntKind.i64 (Go.IntKind.i64.wrap (Go.IntKind.i64.wrap (x2 + Go.IntKind.i64.wrap (x10 * x5)) + Go.IntKind.i64.wrap (x11 * x4))) (8 : Int), Ev.ishr Go.IntKind.i64 (Go.IntKind.i64.wrap (Go.IntKind.i64.wrap (x3 + Go.IntKind.i64.wrap (x10 * x4)) - Go.IntKind.i64.wrap (x11 * x5))) (8 : Int))
abbrev YF77 : Type := (Int) → (Int) → (Int) → (Int) → (Int) → (Int) → (Int) → (Int) → (Bool) → (Int) → (Int) → (Int) → ((Int × Int) → Option Ans) → Option Ans
theorem F77_eq (fuel : Nat) (x0 : Int) (x1 : Int) (x2 : Int) (x3 : Int) (x4 : Int) (x5 : Int) (x6 : Int) (x7 : Int) (x8 : Bool) (x9 : Int) (x10 : Int) (x11 : Int) (k : Ev.Cont) : evalFn tab (G77 fuel) (J77 fuel) kp77 fuel Try.f77 [.agg [.int .i64 x0, .int .i64 x1, .int .i64 x2, .int .i64 x3, .int .i64 x4, .int .i64 x5, .int .i64 x6, .int .i64 x7, .bool x8, .int .i64 x9], .c (.int .i64 x10), .c (.int .i64 x11)] [] k = F_tone_cell fuel x0 x1 x2 x3 x4 x5 x6 x7 x8 x9 x10 x11 (fun r => match r with | (r0, r1) => k (.tup [(false, [.int .i64 r0]), (false, [.int .i64 r1])], [])) := by
  kernel_rfl
theorem hG77 (fuel : Nat) : GOK Try.prog (G77 fuel) :=
  gok_nil
theorem fok77 (fuel : Nat) : FnOK Try.prog 77 (evalFn tab (G77 fuel) (J77 fuel) kp77 fuel Try.f77) :=
  fn_ok tab_ok (hG77 fuel) mixed Try.func77 (c := (Try.f77.body).getD .skip) rfl (fun q hq => by
    rw [(by kernel_rfl : obl (J77 fuel) ((Try.f77.body).getD .skip) = [])] at hq
    cases hq)
noncomputable def mt77 : List Ev.SV → List Ev.Ob → Bool := fun args objs => match args, objs with
  | [.agg [.int .i64 _, .int .i64 _, .int .i64 _, .int .i64 _, .int .i64 _, .int .i64 _, .int .i64 _, .int .i64 _, .bool _, .int .i64 _], .c (.int .i64 _), .c (.int .i64 _)], [] => true
  | _, _ => false
noncomputable def spg77 (F : YF77) : Ev.Spec := fun args objs k => match args, objs with
  | [.agg [.int .i64 x0, .int .i64 x1, .int .i64 x2, .int .i64 x3, .int .i64 x4, .int .i64 x5, .int .i64 x6, .int .i64 x7, .bool x8, .int .i64 x9], .c (.int .i64 x10), .c (.int .i64 x11)], [] => bif true then F x0 x1 x2 x3 x4 x5 x6 x7 x8 x9 x10 x11 (fun r => match r with | (r0, r1) => k (.tup [(false, [.int .i64 r0]), (false, [.int .i64 r1])], [])) else none
  | _, _ => none
noncomputable def spec77 (fuel : Nat) : Ev.Spec := spg77 (F_tone_cell fuel)
theorem ok77 (fuel : Nat) : FnOK Try.prog 77 (spec77 fuel) := by
  intro args objs kk r h
  unfold spec77 spg77 at h
  split at h
  · skip
    obtain ⟨hb, h⟩ := cond_some' h
    simp only [Bool.and_eq_true, Nat.beq_eq, decide_eq_true_eq] at hb
    clear hb
    exact fok77 fuel _ _ kk r ((F77_eq fuel _ _ _ _ _ _ _ _ _ _ _ _ kk).trans h)
  · cases h
end Go.Proofs.Ytihfgpfofmjbaaa

set_option linter.unusedVariables false
set_option linter.unusedSimpArgs false
set_option maxRecDepth 100000
set_option maxHeartbeats 2000000
namespace Go.Proofs.Ytihfgpfofmjbaaa
open Go Ev
def kp75 (i : Nat) : Option (List Nat) := Ev.look i [(4, [1, 6, 19, 20, 21]), (100000, []), (400000, [8])]
noncomputable def Gg75 (f : Nat) : Option Ev.Spec := Ev.look f []
noncomputable def G75 (fuel : Nat) : Nat → Option Ev.Spec := Gg75
noncomputable def S_tone_rightValues_0 (fuel : Nat) (v : Int × (List Int) × Int × Int × Int × Int × (List Int)) (c : (Int × (List Int) × Int × Int × Int × Int × (List Int)) → Option Ans) (B : (Bool → Option Ans) × (Unit → Option Ans)) : Option Ans := match v, B with
  | (x0, x1, x2, x3, x4, x5, x6), (ret, b) =>
   bif Decidable.decide (x3 < x2) then
      bif Decidable.decide ((0 : Int) ≤ x3 ∧ x3 < (↑x1.length : Int)) then
      bif Decidable.decide (x1.getD x3.toNat (0 : Int) < (0 : Int)) then
        ret Bool.false
       else
        bif Decidable.decide (x1.getD x3.toNat (0 : Int) ≥ x0) then
         ret Bool.false
        else
         bif x1.getD x3.toNat (0 : Int) != (0 : Int) then
          bif Decidable.decide ((0 : Int) ≤ x3 ∧ x3 < (↑x6.length : Int)) then
          bif x6.getD x3.toNat (0 : Int) == (1 : Int) then
            ret Bool.false
           else
            c (x0, x1, x2, Go.IntKind.i64.wrap (x3 + (1 : Int)), x4, x5, x6)
          else none
         else
          c (x0, x1, x2, Go.IntKind.i64.wrap (x3 + (1 : Int)), x4, x5, x6)
      else none
     else
      b ()
noncomputable def L_tone_rightValues_0 (fuel : Nat) (v : Int × (List Int) × Int × Int × Int × Int × (List Int)) (ret : (Bool → Option Ans)) (b : (Unit → Option Ans)) : Option Ans := iter (S_tone_rightValues_0 fuel) fuel v (ret, b)
noncomputable def J75_0 (fuel : Nat) (i : Nat) : Option Ev.Blk := Ev.look i []
noncomputable def T75_0 (v : Int × (List Int) × Int × Int × Int × Int × (List Int)) : Ev.St := match v with | (x0, x1, x2, x3, x4, x5, x6) => ⟨[(1, .c (.int .i64 x0)), (6, .c (.ptr 0 0)), (19, .c (.sl (.int .i64) x1)), (20, .c (.int .i64 x2)), (21, .c (.int .i64 x3))], [(0, .cells 39 [.int .i64 x4, .int .i64 x5, .sl (.int .u8) x6])], 1, 0⟩
noncomputable def E75_0 (K : Ev.Ex → Ev.St → Option Ans) : (Bool → Option Ans) × (Unit → Option Ans) := ((fun v => match v with | x0 => K .ret ⟨[(8, .c (.bool x0))], [], 0, 0⟩), (fun v => match v with | () => K .normal ⟨[], [], 0, 0⟩))
theorem S75_0_ok (fuel : Nat) (R : Ev.St → Option Ans) (K : Ev.Ex → Ev.St → Option Ans) (x0 : Int) (x1 : (List Int)) (x2 : Int) (x3 : Int) (x4 : Int) (x5 : Int) (x6 : (List Int)) : evalCode tab (G75 fuel) (J75_0 fuel) kp75 fuel (bodyOf 0 Try.f75) (T75_0 (x0, x1, x2, x3, x4, x5, x6)) (lc kp75 4 0 R K) = S_tone_rightValues_0 fuel (x0, x1, x2, x3, x4, x5, x6) (fun v => R (T75_0 v)) (E75_0 K) := by
  kernel_rfl
noncomputable def B75_0 (fuel : Nat) : Ev.Blk := fun st K => match canonO (kp75 4) st with
  | some s => (match s with
    | ⟨[(q0, .c (.int .i64 x0)), (q1, .c (.ptr q2 q3)), (q4, .c (.sl (.int .i64) x1)), (q5, .c (.int .i64 x2)), (q6, .c (.int .i64 x3))], [(q7, .cells q8 [.int .i64 x4, .int .i64 x5, .sl (.int .u8) x6])], q9, q10⟩ => bif Nat.beq q0 1 && Nat.beq q1 6 && Nat.beq q2 0 && Nat.beq q3 0 && Nat.beq q4 19 && Nat.beq q5 20 && Nat.beq q6 21 && Nat.beq q7 0 && Nat.beq q8 39 && Nat.beq q9 1 && Nat.beq q10 0 then iter (S_tone_rightValues_0 fuel) fuel (x0, x1, x2, x3, x4, x5, x6) (E75_0 K) else none
    | _ => none)
  | none => none
theorem B75_0_ok (fuel : Nat) (st : Ev.St) (K : Ev.Ex → Ev.St → Option Ans) (r : Ans) (h : B75_0 fuel st K = some r) : evalCode tab (G75 fuel) (J75_0 fuel) kp75 fuel (.block 0 (.loop (bodyOf 0 Try.f75))) st K = some r := by
  unfold B75_0 at h
  split at h
  · rename_i s hs
    split at h
    · skip
      obtain ⟨hb, h⟩ := cond_some' h
      simp only [Bool.and_eq_true, Nat.beq_eq, decide_eq_true_eq] at hb
      obtain ⟨⟨⟨⟨⟨⟨⟨⟨⟨⟨rfl, rfl⟩, rfl⟩, rfl⟩, rfl⟩, rfl⟩, rfl⟩, rfl⟩, rfl⟩, rfl⟩, rfl⟩ := hb
      exact blk_loop (S := T75_0) (ks := E75_0) (step := S_tone_rightValues_0 fuel) (v := (_, _, _, _, _, _, _)) (by kernel_rfl) (by kernel_rfl) (fun R K v => by obtain ⟨x0, x1, x2, x3, x4, x5, x6⟩ := v; exact S75_0_ok fuel R K x0 x1 x2 x3 x4 x5 x6) hs h
    · cases h
  · cases h
noncomputable def J75 (fuel : Nat) (i : Nat) : Option Ev.Blk := Ev.look i [(100000, B75_0 fuel)]
noncomputable def F_tone_rightValues (fuel : Nat) (x0 : Int) (x1 : Int) (x2 : Int) (x3 : Int) (x4 : Int) (x5 : Int) (x6 : Int) (x7 : Int) (x8 : Bool) (x9 : Int) (x10 : Int) (x11 : Int) (x12 : Int) (x13 : (List Int)) (x14 : (List Int)) (k0 : (Bool) → Option Ans) : Option Ans :=
  bif (↑x14.length : Int) != Go.IntKind.i64.wrap (x0 * x1) then
   k0 Bool.false
  else
   (L_tone_rightValues_0 fuel (x10, x14, (↑x14.length : Int), (0 : Int), x11, x12, x13)
     (fun ret0_0 =>
       k0 ret0_0)
     (fun () =>
       k0 Bool.true))
abbrev YF75 : Type := (Int) → (Int) → (Int) → (Int) → (Int) → (Int) → (Int) → (Int) → (Bool) → (Int) → (Int) → (Int) → (Int) → ((List Int)) → ((List Int)) → ((Bool) → Option Ans) → Option Ans
theorem F75_eq (fuel : Nat) (x0 : Int) (x1 : Int) (x2 : Int) (x3 : Int) (x4 : Int) (x5 : Int) (x6 : Int) (x7 : Int) (x8 : Bool) (x9 : Int) (x10 : Int) (x11 : Int) (x12 : Int) (x13 : (List Int)) (x14 : (List Int)) (k : Ev.Cont) : evalFn tab (G75 fuel) (J75 fuel) kp75 fuel Try.f75 [.agg [.int .i64 x0, .int .i64 x1, .int .i64 x2, .int .i64 x3, .int .i64 x4, .int .i64 x5, .int .i64 x6, .int .i64 x7, .bool x8, .int .i64 x9], .c (.int .i64 x10), .agg [.int .i64 x11, .int .i64 x12, .sl (.int .u8) x13], .c (.sl (.int .i64) x14)] [] k = F_tone_rightValues fuel x0 x1 x2 x3 x4 x5 x6 x7 x8 x9 x10 x11 x12 x13 x14 (fun r => match r with | r0 => k (.c (.bool r0), [])) := by
  kernel_rfl
theorem hG75 (fuel : Nat) : GOK Try.prog (G75 fuel) :=
  gok_nil
theorem B75_0_blk (fuel : Nat) : BlkOK Try.prog Try.f75.ntmps (.block 0 (.loop (bodyOf 0 Try.f75))) (B75_0 fuel) :=
  blk_of (blk_of_code tab_ok (hG75 fuel) mixed (J := J75_0 fuel) (kp := kp75) (fuel := fuel) (by kernel_rfl) (fun q hq => by
    rw [(by kernel_rfl : obl (J75_0 fuel) (.block 0 (.loop (bodyOf 0 Try.f75))) = [])] at hq
    cases hq)) (B75_0_ok fuel)
theorem fok75 (fuel : Nat) : FnOK Try.prog 75 (evalFn tab (G75 fuel) (J75 fuel) kp75 fuel Try.f75) :=
  fn_ok tab_ok (hG75 fuel) mixed Try.func75 (c := (Try.f75.body).getD .skip) rfl (fun q hq => by
    rw [(by kernel_rfl : obl (J75 fuel) ((Try.f75.body).getD .skip) = [(.block 0 (.loop (bodyOf 0 Try.f75)), B75_0 fuel)])] at hq
    simp only [List.mem_cons, List.not_mem_nil, or_false] at hq
    subst hq
    · exact B75_0_blk fuel)
noncomputable def mt75 : List Ev.SV → List Ev.Ob → Bool := fun args objs => match args, objs with
  | [.agg [.int .i64 _, .int .i64 _, .int .i64 _, .int .i64 _, .int .i64 _, .int .i64 _, .int .i64 _, .int .i64 _, .bool _, .int .i64 _], .c (.int .i64 _), .agg [.int .i64 _, .int .i64 _, .sl (.int .u8) _], .c (.sl (.int .i64) _)], [] => true
  | _, _ => false
noncomputable def spg75 (F : YF75) : Ev.Spec := fun args objs k => match args, objs with
  | [.agg [.int .i64 x0, .int .i64 x1, .int .i64 x2, .int .i64 x3, .int .i64 x4, .int .i64 x5, .int .i64 x6, .int .i64 x7, .bool x8, .int .i64 x9], .c (.int .i64 x10), .agg [.int .i64 x11, .int .i64 x12, .sl (.int .u8) x13], .c (.sl (.int .i64) x14)], [] => bif true then F x0 x1 x2 x3 x4 x5 x6 x7 x8 x9 x10 x11 x12 x13 x14 (fun r => match r with | r0 => k (.c (.bool r0), [])) else none
  | _, _ => none
noncomputable def spec75 (fuel : Nat) : Ev.Spec := spg75 (F_tone_rightValues fuel)
theorem ok75 (fuel : Nat) : FnOK Try.prog 75 (spec75 fuel) := by
  intro args objs kk r h
  unfold spec75 spg75 at h
  split at h
  · skip
    obtain ⟨hb, h⟩ := cond_some' h
    simp only [Bool.and_eq_true, Nat.beq_eq, decide_eq_true_eq] at hb
    clear hb
    exact fok75 fuel _ _ kk r ((F75_eq fuel _ _ _ _ _ _ _ _ _ _ _ _ _ _ _ kk).trans h)
  · cases h
end Go.Proofs.Ytihfgpfofmjbaaa

set_option linter.unusedVariables false
set_option linter.unusedSimpArgs false
set_option maxRecDepth 100000
set_option maxHeartbeats 2000000
namespace Go.Proofs.Ytihfgpfofmjbaaa
open Go Ev
def kp72 (i : Nat) : Option (List Nat) := Ev.look i [(5, [1, 2, 3, 4, 8, 9, 28, 29]), (8, [1, 2, 3, 4, 8, 9, 11, 28, 29, 33, 34]), (100000, [8, 9]), (100002, [1, 2, 3, 4, 8, 9, 28, 29]), (400000, [8]), (400002, [8])]
noncomputable def Gg72 (f76 : YF76) (f77 : YF77) (f : Nat) : Option Ev.Spec := Ev.look f [(76, spg76 f76), (77, spg77 f77)]
noncomputable def G72 (fuel : Nat) : Nat → Option Ev.Spec := Gg72 (F_bitmap_New fuel) (F_tone_cell fuel)
noncomputable def S_tone_skipped_2 (fuel : Nat) (v : (List (Int × (Int × (List Int)))) × Int × Int × Int × Int × Int × Int × Int × Int × Int × Int × Int × Int × Int × Int × Int × Bool × Int × Int × Int × Int × Int × (List Int) × (List Int)) (c : ((List (Int × (Int × (List Int)))) × Int × Int × Int × Int × Int × Int × Int × Int × Int × Int × Int × Int × Int × Int × Int × Bool × Int × Int × Int × Int × Int × (List Int) × (List Int)) → Option Ans) (B : ((List (Int × (Int × (List Int)))) × Int × Int × Int × Int × Int × Int × Int × Int × Int × Int × Int × Int × Bool × Int × Int × Int × Int × Int × (List Int) × (List Int) → Option Ans)) : Option Ans := match v, B with
  | (x0, x1, x2, x3, x4, x5, x6, x7, x8, x9, x10, x11, x12, x13, x14, x15, x16, x17, x18, x19, x20, x21, x22, x23), b =>
   bif Decidable.decide (x7 < x6) then
      (F_tone_cell fuel (x8) (x9) (x10) (x11) (x12) (x13) (x14) (x15) (x16) (x17) (x3) (x7)
        (fun (y3_0, y3_1) =>
          bif Decidable.decide (y3_0 ≥ x1) then
           bif Decidable.decide ((0 : Int) ≤ Go.IntKind.i64.wrap (Go.IntKind.i64.wrap (x3 * x8) + x7) ∧ Go.IntKind.i64.wrap (Go.IntKind.i64.wrap (x3 * x8) + x7) < (↑x23.length : Int)) then
           c (x0, x1, x2, x3, x4, x5, x6, Go.IntKind.i64.wrap (x7 + (1 : Int)), x8, x9, x10, x11, x12, x13, x14, x15, x16, x17, x18, x19, x20, x21, x22, x23.set (Go.IntKind.i64.wrap (Go.IntKind.i64.wrap (x3 * x8) + x7)).toNat (1 : Int))
           else none
          else
           bif Decidable.decide (y3_1 ≥ x2) then
            bif Decidable.decide ((0 : Int) ≤ Go.IntKind.i64.wrap (Go.IntKind.i64.wrap (x3 * x8) + x7) ∧ Go.IntKind.i64.wrap (Go.IntKind.i64.wrap (x3 * x8) + x7) < (↑x23.length : Int)) then
            c (x0, x1, x2, x3, x4, x5, x6, Go.IntKind.i64.wrap (x7 + (1 : Int)), x8, x9, x10, x11, x12, x13, x14, x15, x16, x17, x18, x19, x20, x21, x22, x23.set (Go.IntKind.i64.wrap (Go.IntKind.i64.wrap (x3 * x8) + x7)).toNat (1 : Int))
            else none
           else
            bif Decidable.decide ((0 : Int) ≤ (0 : Int) ∧ (0 : Int) < (↑x0.length : Int)) then
            bif Decidable.decide (Go.IntKind.i64.wrap (y3_0 + (x0.getD (Int.toNat (0 : Int)) ((0 : Int), (0 : Int), [])).fst) ≤ (0 : Int)) then
              bif Decidable.decide ((0 : Int) ≤ Go.IntKind.i64.wrap (Go.IntKind.i64.wrap (x3 * x8) + x7) ∧ Go.IntKind.i64.wrap (Go.IntKind.i64.wrap (x3 * x8) + x7) < (↑x23.length : Int)) then
              c (x0, x1, x2, x3, x4, x5, x6, Go.IntKind.i64.wrap (x7 + (1 : Int)), x8, x9, x10, x11, x12, x13, x14, x15, x16, x17, x18, x19, x20, x21, x22, x23.set (Go.IntKind.i64.wrap (Go.IntKind.i64.wrap (x3 * x8) + x7)).toNat (1 : Int))
              else none
             else
              bif Decidable.decide ((0 : Int) ≤ (0 : Int) ∧ (0 : Int) < (↑x0.length : Int)) then
              bif Decidable.decide (Go.IntKind.i64.wrap (y3_1 + (x0.getD (Int.toNat (0 : Int)) ((0 : Int), (0 : Int), [])).snd.fst) ≤ (0 : Int)) then
                bif Decidable.decide ((0 : Int) ≤ Go.IntKind.i64.wrap (Go.IntKind.i64.wrap (x3 * x8) + x7) ∧ Go.IntKind.i64.wrap (Go.IntKind.i64.wrap (x3 * x8) + x7) < (↑x23.length : Int)) then
                c (x0, x1, x2, x3, x4, x5, x6, Go.IntKind.i64.wrap (x7 + (1 : Int)), x8, x9, x10, x11, x12, x13, x14, x15, x16, x17, x18, x19, x20, x21, x22, x23.set (Go.IntKind.i64.wrap (Go.IntKind.i64.wrap (x3 * x8) + x7)).toNat (1 : Int))
                else none
               else
                c (x0, x1, x2, x3, x4, x5, x6, Go.IntKind.i64.wrap (x7 + (1 : Int)), x8, x9, x10, x11, x12, x13, x14, x15, x16, x17, x18, x19, x20, x21, x22, x23)
              else none
            else none))
     else
      b (x0, x1, x2, x4, x5, x8, x9, x10, x11, x12, x13, x14, x15, x16, x17, x18, x19, x20, x21, x22, x23)
noncomputable def L_tone_skipped_2 (fuel : Nat) (v : (List (Int × (Int × (List Int)))) × Int × Int × Int × Int × Int × Int × Int × Int × Int × Int × Int × Int × Int × Int × Int × Bool × Int × Int × Int × Int × Int × (List Int) × (List Int)) (b : ((List (Int × (Int × (List Int)))) × Int × Int × Int × Int × Int × Int × Int × Int × Int × Int × Int × Int × Bool × Int × Int × Int × Int × Int × (List Int) × (List Int) → Option Ans)) : Option Ans := iter (S_tone_skipped_2 fuel) fuel v b
noncomputable def J72_2 (fuel : Nat) (i : Nat) : Option Ev.Blk := Ev.look i []
noncomputable def T72_2 (v : (List (Int × (Int × (List Int)))) × Int × Int × Int × Int × Int × Int × Int × Int × Int × Int × Int × Int × Int × Int × Int × Bool × Int × Int × Int × Int × Int × (List Int) × (List Int)) : Ev.St := match v with | (x0, x1, x2, x3, x4, x5, x6, x7, x8, x9, x10, x11, x12, x13, x14, x15, x16, x17, x18, x19, x20, x21, x22, x23) => ⟨[(1, .c (.sl (.pair (.int .i64) (.pair (.int .i64) (.sl (.int .u8)))) x0)), (2, .c (.int .i64 x1)), (3, .c (.int .i64 x2)), (4, .c (.ptr 0 0)), (8, .c (.ptr 1 0)), (9, .c (.ptr 2 0)), (11, .c (.int .i64 x3)), (28, .c (.int .i64 x4)), (29, .c (.int .i64 x5)), (33, .c (.int .i64 x6)), (34, .c (.int .i64 x7))], [(0, .cells 32 [.int .i64 x8, .int .i64 x9, .int .i64 x10, .int .i64 x11, .int .i64 x12, .int .i64 x13, .int .i64 x14, .int .i64 x15, .bool x16, .int .i64 x17]), (1, .cells 39 [.int .i64 x18, .int .i64 x19, .own 3]), (2, .cells 39 [.int .i64 x20, .int .i64 x21, .own 4]), (3, .vec 5 (.int .u8) x22 true), (4, .vec 5 (.int .u8) x23 true)], 5, 0⟩
noncomputable def E72_2 (K : Ev.Ex → Ev.St → Option Ans) : ((List (Int × (Int × (List Int)))) × Int × Int × Int × Int × Int × Int × Int × Int × Int × Int × Int × Int × Bool × Int × Int × Int × Int × Int × (List Int) × (List Int) → Option Ans) := (fun v => match v with | (x0, x1, x2, x3, x4, x5, x6, x7, x8, x9, x10, x11, x12, x13, x14, x15, x16, x17, x18, x19, x20) => K .normal ⟨[(1, .c (.sl (.pair (.int .i64) (.pair (.int .i64) (.sl (.int .u8)))) x0)), (2, .c (.int .i64 x1)), (3, .c (.int .i64 x2)), (4, .c (.ptr 0 0)), (8, .c (.ptr 1 0)), (9, .c (.ptr 2 0)), (28, .c (.int .i64 x3)), (29, .c (.int .i64 x4))], [(0, .cells 32 [.int .i64 x5, .int .i64 x6, .int .i64 x7, .int .i64 x8, .int .i64 x9, .int .i64 x10, .int .i64 x11, .int .i64 x12, .bool x13, .int .i64 x14]), (1, .cells 39 [.int .i64 x15, .int .i64 x16, .own 3]), (2, .cells 39 [.int .i64 x17, .int .i64 x18, .own 4]), (3, .vec 5 (.int .u8) x19 true), (4, .vec 5 (.int .u8) x20 true)], 5, 0⟩)
theorem S72_2_okg (fuel : Nat) (f76 : YF76) (f77 : YF77) (R : Ev.St → Option Ans) (K : Ev.Ex → Ev.St → Option Ans) (x0 : (List (Int × (Int × (List Int))))) (x1 : Int) (x2 : Int) (x3 : Int) (x4 : Int) (x5 : Int) (x6 : Int) (x7 : Int) (x8 : Int) (x9 : Int) (x10 : Int) (x11 : Int) (x12 : Int) (x13 : Int) (x14 : Int) (x15 : Int) (x16 : Bool) (x17 : Int) (x18 : Int) (x19 : Int) (x20 : Int) (x21 : Int) (x22 : (List Int)) (x23 : (List Int)) : evalCode tab (Gg72 f76 f77) (J72_2 fuel) kp72 fuel (bodyOf 2 Try.f72) (T72_2 (x0, x1, x2, x3, x4, x5, x6, x7, x8, x9, x10, x11, x12, x13, x14, x15, x16, x17, x18, x19, x20, x21, x22, x23)) (lc kp72 8 2 R K) = (fun (c : ((List (Int × (Int × (List Int)))) × Int × Int × Int × Int × Int × Int × Int × Int × Int × Int × Int × Int × Int × Int × Int × Bool × Int × Int × Int × Int × Int × (List Int) × (List Int)) → Option Ans) (B : ((List (Int × (Int × (List Int)))) × Int × Int × Int × Int × Int × Int × Int × Int × Int × Int × Int × Int × Bool × Int × Int × Int × Int × Int × (List Int) × (List Int) → Option Ans)) => match B with
  | b =>
   bif Decidable.decide (x7 < x6) then
      (f77 (x8) (x9) (x10) (x11) (x12) (x13) (x14) (x15) (x16) (x17) (x3) (x7)
        (fun (y3_0, y3_1) =>
          bif Decidable.decide (y3_0 ≥ x1) then
           bif Decidable.decide ((0 : Int) ≤ Go.IntKind.i64.wrap (Go.IntKind.i64.wrap (x3 * x8) + x7) ∧ Go.IntKind.i64.wrap (Go.IntKind.i64.wrap (x3 * x8) + x7) < (↑x23.length : Int)) then
           c (x0, x1, x2, x3, x4, x5, x6, Go.IntKind.i64.wrap (x7 + (1 : Int)), x8, x9, x10, x11, x12, x13, x14, x15, x16, x17, x18, x19, x20, x21, x22, x23.set (Go.IntKind.i64.wrap (Go.IntKind.i64.wrap (x3 * x8) + x7)).toNat (1 : Int))
           else none
          else
           bif Decidable.decide (y3_1 ≥ x2) then
            bif Decidable.decide ((0 : Int) ≤ Go.IntKind.i64.wrap (Go.IntKind.i64.wrap (x3 * x8) + x7) ∧ Go.IntKind.i64.wrap (Go.IntKind.i64.wrap (x3 * x8) + x7) < (↑x23.length : Int)) then
            c (x0, x1, x2, x3, x4, x5, x6, Go.IntKind.i64.wrap (x7 + (1 : Int)), x8, x9, x10, x11, x12, x13, x14, x15, x16, x17, x18, x19, x20, x21, x22, x23.set (Go.IntKind.i64.wrap (Go.IntKind.i64.wrap (x3 * x8) + x7)).toNat (1 : Int))
            else none
           else
            bif Decidable.decide ((0 : Int) ≤ (0 : Int) ∧ (0 : Int) < (↑x0.length : Int)) then
            bif Decidable.decide (Go.IntKind.i64.wrap (y3_0 + (x0.getD (Int.toNat (0 : Int)) ((0 : Int), (0 : Int), [])).fst) ≤ (0 : Int)) then
              bif Decidable.decide ((0 : Int) ≤ Go.IntKind.i64.wrap (Go.IntKind.i64.wrap (x3 * x8) + x7) ∧ Go.IntKind.i64.wrap (Go.IntKind.i64.wrap (x3 * x8) + x7) < (↑x23.length : Int)) then
              c (x0, x1, x2, x3, x4, x5, x6, Go.IntKind.i64.wrap (x7 + (1 : Int)), x8, x9, x10, x11, x12, x13, x14, x15, x16, x17, x18, x19, x20, x21, x22, x23.set (Go.IntKind.i64.wrap (Go.IntKind.i64.wrap (x3 * x8) + x7)).toNat (1 : Int))
              else none
             else
              bif Decidable.decide ((0 : Int) ≤ (0 : Int) ∧ (0 : Int) < (↑x0.length : Int)) then
              bif Decidable.decide (Go.IntKind.i64.wrap (y3_1 + (x0.getD (Int.toNat (0 : Int)) ((0 : Int), (0 : Int), [])).snd.fst) ≤ (0 : Int)) then
                bif Decidable.decide ((0 : Int) ≤ Go.IntKind.i64.wrap (Go.IntKind.i64.wrap (x3 * x8) + x7) ∧ Go.IntKind.i64.wrap (Go.IntKind.i64.wrap (x3 * x8) + x7) < (↑x23.length : Int)) then
                c (x0, x1, x2, x3, x4, x5, x6, Go.IntKind.i64.wrap (x7 + (1 : Int)), x8, x9, x10, x11, x12, x13, x14, x15, x16, x17, x18, x19, x20, x21, x22, x23.set (Go.IntKind.i64.wrap (Go.IntKind.i64.wrap (x3 * x8) + x7)).toNat (1 : Int))
                else none
               else
                c (x0, x1, x2, x3, x4, x5, x6, Go.IntKind.i64.wrap (x7 + (1 : Int)), x8, x9, x10, x11, x12, x13, x14, x15, x16, x17, x18, x19, x20, x21, x22, x23)
              else none
            else none))
     else
      b (x0, x1, x2, x4, x5, x8, x9, x10, x11, x12, x13, x14, x15, x16, x17, x18, x19, x20, x21, x22, x23)) (fun v => R (T72_2 v)) (E72_2 K) := by
  kernel_rfl
theorem S72_2_ok (fuel : Nat) (R : Ev.St → Option Ans) (K : Ev.Ex → Ev.St → Option Ans) (x0 : (List (Int × (Int × (List Int))))) (x1 : Int) (x2 : Int) (x3 : Int) (x4 : Int) (x5 : Int) (x6 : Int) (x7 : Int) (x8 : Int) (x9 : Int) (x10 : Int) (x11 : Int) (x12 : Int) (x13 : Int) (x14 : Int) (x15 : Int) (x16 : Bool) (x17 : Int) (x18 : Int) (x19 : Int) (x20 : Int) (x21 : Int) (x22 : (List Int)) (x23 : (List Int)) : evalCode tab (G72 fuel) (J72_2 fuel) kp72 fuel (bodyOf 2 Try.f72) (T72_2 (x0, x1, x2, x3, x4, x5, x6, x7, x8, x9, x10, x11, x12, x13, x14, x15, x16, x17, x18, x19, x20, x21, x22, x23)) (lc kp72 8 2 R K) = S_tone_skipped_2 fuel (x0, x1, x2, x3, x4, x5, x6, x7, x8, x9, x10, x11, x12, x13, x14, x15, x16, x17, x18, x19, x20, x21, x22, x23) (fun v => R (T72_2 v)) (E72_2 K) :=
  S72_2_okg fuel (F_bitmap_New fuel) (F_tone_cell fuel) R K x0 x1 x2 x3 x4 x5 x6 x7 x8 x9 x10 x11 x12 x13 x14 x15 x16 x17 x18 x19 x20 x21 x22 x23
noncomputable def B72_2 (fuel : Nat) : Ev.Blk := fun st K => match canonO (kp72 8) st with
  | some s => (match s with
    | ⟨[(q0, .c (.sl (.pair (.int .i64) (.pair (.int .i64) (.sl (.int .u8)))) x0)), (q1, .c (.int .i64 x1)), (q2, .c (.int .i64 x2)), (q3, .c (.ptr q4 q5)), (q6, .c (.ptr q7 q8)), (q9, .c (.ptr q10 q11)), (q12, .c (.int .i64 x3)), (q13, .c (.int .i64 x4)), (q14, .c (.int .i64 x5)), (q15, .c (.int .i64 x6)), (q16, .c (.int .i64 x7))], [(q17, .cells q18 [.int .i64 x8, .int .i64 x9, .int .i64 x10, .int .i64 x11, .int .i64 x12, .int .i64 x13, .int .i64 x14, .int .i64 x15, .bool x16, .int .i64 x17]), (q19, .cells q20 [.int .i64 x18, .int .i64 x19, .own q21]), (q22, .cells q23 [.int .i64 x20, .int .i64 x21, .own q24]), (q25, .vec q26 (.int .u8) x22 true), (q27, .vec q28 (.int .u8) x23 true)], q29, q30⟩ => bif Nat.beq q0 1 && Nat.beq q1 2 && Nat.beq q2 3 && Nat.beq q3 4 && Nat.beq q4 0 && Nat.beq q5 0 && Nat.beq q6 8 && Nat.beq q7 1 && Nat.beq q8 0 && Nat.beq q9 9 && Nat.beq q10 2 && Nat.beq q11 0 && Nat.beq q12 11 && Nat.beq q13 28 && Nat.beq q14 29 && Nat.beq q15 33 && Nat.beq q16 34 && Nat.beq q17 0 && Nat.beq q18 32 && Nat.beq q19 1 && Nat.beq q20 39 && Nat.beq q21 3 && Nat.beq q22 2 && Nat.beq q23 39 && Nat.beq q24 4 && Nat.beq q25 3 && Nat.beq q26 5 && Nat.beq q27 4 && Nat.beq q28 5 && Nat.beq q29 5 && Nat.beq q30 0 then iter (S_tone_skipped_2 fuel) fuel (x0, x1, x2, x3, x4, x5, x6, x7, x8, x9, x10, x11, x12, x13, x14, x15, x16, x17, x18, x19, x20, x21, x22, x23) (E72_2 K) else none
    | _ => none)
  | none => none
theorem B72_2_ok (fuel : Nat) (st : Ev.St) (K : Ev.Ex → Ev.St → Option Ans) (r : Ans) (h : B72_2 fuel st K = some r) : evalCode tab (G72 fuel) (J72_2 fuel) kp72 fuel (.block 2 (.loop (bodyOf 2 Try.f72))) st K = some r := by
  unfold B72_2 at h
  split at h
  · rename_i s hs
    split at h
    · skip
      obtain ⟨hb, h⟩ := cond_some' h
      simp only [Bool.and_eq_true, Nat.beq_eq, decide_eq_true_eq] at hb
      obtain ⟨⟨⟨⟨⟨⟨⟨⟨⟨⟨⟨⟨⟨⟨⟨⟨⟨⟨⟨⟨⟨⟨⟨⟨⟨⟨⟨⟨⟨⟨rfl, rfl⟩, rfl⟩, rfl⟩, rfl⟩, rfl⟩, rfl⟩, rfl⟩, rfl⟩, rfl⟩, rfl⟩, rfl⟩, rfl⟩, rfl⟩, rfl⟩, rfl⟩, rfl⟩, rfl⟩, rfl⟩, rfl⟩, rfl⟩, rfl⟩, rfl⟩, rfl⟩, rfl⟩, rfl⟩, rfl⟩, rfl⟩, rfl⟩, rfl⟩, rfl⟩ := hb
      exact blk_loop (S := T72_2) (ks := E72_2) (step := S_tone_skipped_2 fuel) (v := (_, _, _, _, _, _, _, _, _, _, _, _, _, _, _, _, _, _, _, _, _, _, _, _)) (by kernel_rfl) (by kernel_rfl) (fun R K v => by obtain ⟨x0, x1, x2, x3, x4, x5, x6, x7, x8, x9, x10, x11, x12, x13, x14, x15, x16, x17, x18, x19, x20, x21, x22, x23⟩ := v; exact S72_2_ok fuel R K x0 x1 x2 x3 x4 x5 x6 x7 x8 x9 x10 x11 x12 x13 x14 x15 x16 x17 x18 x19 x20 x21 x22 x23) hs h
    · cases h
  · cases h
noncomputable def S_tone_skipped_0 (fuel : Nat) (v : (List (Int × (Int × (List Int)))) × Int × Int × Int × Int × Int × Int × Int × Int × Int × Int × Int × Int × Bool × Int × Int × Int × Int × Int × (List Int) × (List Int)) (c : ((List (Int × (Int × (List Int)))) × Int × Int × Int × Int × Int × Int × Int × Int × Int × Int × Int × Int × Bool × Int × Int × Int × Int × Int × (List Int) × (List Int)) → Option Ans) (B : (Int × Int × Int × Int × (List Int) × (List Int) → Option Ans)) : Option Ans := match v, B with
  | (x0, x1, x2, x3, x4, x5, x6, x7, x8, x9, x10, x11, x12, x13, x14, x15, x16, x17, x18, x19, x20), b =>
   bif Decidable.decide (x4 < x3) then
      (L_tone_skipped_2 fuel (x0, x1, x2, x4, x3, x4, x5, (0 : Int), x5, x6, x7, x8, x9, x10, x11, x12, x13, x14, x15, x16, x17, x18, x19, x20)
        (fun (b2_0, b2_1, b2_2, b2_3, b2_4, b2_5, b2_6, b2_7, b2_8, b2_9, b2_10, b2_11, b2_12, b2_13, b2_14, b2_15, b2_16, b2_17, b2_18, b2_19, b2_20) =>
          c (b2_0, b2_1, b2_2, b2_3, Go.IntKind.i64.wrap (b2_4 + (1 : Int)), b2_5, b2_6, b2_7, b2_8, b2_9, b2_10, b2_11, b2_12, b2_13, b2_14, b2_15, b2_16, b2_17, b2_18, b2_19, b2_20)))
     else
      b (x15, x16, x17, x18, x19, x20)
noncomputable def L_tone_skipped_0 (fuel : Nat) (v : (List (Int × (Int × (List Int)))) × Int × Int × Int × Int × Int × Int × Int × Int × Int × Int × Int × Int × Bool × Int × Int × Int × Int × Int × (List Int) × (List Int)) (b : (Int × Int × Int × Int × (List Int) × (List Int) → Option Ans)) : Option Ans := iter (S_tone_skipped_0 fuel) fuel v b
noncomputable def J72_0 (fuel : Nat) (i : Nat) : Option Ev.Blk := Ev.look i [(100002, B72_2 fuel)]
noncomputable def T72_0 (v : (List (Int × (Int × (List Int)))) × Int × Int × Int × Int × Int × Int × Int × Int × Int × Int × Int × Int × Bool × Int × Int × Int × Int × Int × (List Int) × (List Int)) : Ev.St := match v with | (x0, x1, x2, x3, x4, x5, x6, x7, x8, x9, x10, x11, x12, x13, x14, x15, x16, x17, x18, x19, x20) => ⟨[(1, .c (.sl (.pair (.int .i64) (.pair (.int .i64) (.sl (.int .u8)))) x0)), (2, .c (.int .i64 x1)), (3, .c (.int .i64 x2)), (4, .c (.ptr 0 0)), (8, .c (.ptr 1 0)), (9, .c (.ptr 2 0)), (28, .c (.int .i64 x3)), (29, .c (.int .i64 x4))], [(0, .cells 32 [.int .i64 x5, .int .i64 x6, .int .i64 x7, .int .i64 x8, .int .i64 x9, .int .i64 x10, .int .i64 x11, .int .i64 x12, .bool x13, .int .i64 x14]), (1, .cells 39 [.int .i64 x15, .int .i64 x16, .own 3]), (2, .cells 39 [.int .i64 x17, .int .i64 x18, .own 4]), (3, .vec 5 (.int .u8) x19 true), (4, .vec 5 (.int .u8) x20 true)], 5, 0⟩
noncomputable def E72_0 (K : Ev.Ex → Ev.St → Option Ans) : (Int × Int × Int × Int × (List Int) × (List Int) → Option Ans) := (fun v => match v with | (x0, x1, x2, x3, x4, x5) => K .normal ⟨[(8, .c (.ptr 0 0)), (9, .c (.ptr 1 0))], [(0, .cells 39 [.int .i64 x0, .int .i64 x1, .own 2]), (1, .cells 39 [.int .i64 x2, .int .i64 x3, .own 3]), (2, .vec 5 (.int .u8) x4 true), (3, .vec 5 (.int .u8) x5 true)], 4, 0⟩)
theorem S72_0_okg (fuel : Nat) (f76 : YF76) (f77 : YF77) (R : Ev.St → Option Ans) (K : Ev.Ex → Ev.St → Option Ans) (x0 : (List (Int × (Int × (List Int))))) (x1 : Int) (x2 : Int) (x3 : Int) (x4 : Int) (x5 : Int) (x6 : Int) (x7 : Int) (x8 : Int) (x9 : Int) (x10 : Int) (x11 : Int) (x12 : Int) (x13 : Bool) (x14 : Int) (x15 : Int) (x16 : Int) (x17 : Int) (x18 : Int) (x19 : (List Int)) (x20 : (List Int)) : evalCode tab (Gg72 f76 f77) (J72_0 fuel) kp72 fuel (bodyOf 0 Try.f72) (T72_0 (x0, x1, x2, x3, x4, x5, x6, x7, x8, x9, x10, x11, x12, x13, x14, x15, x16, x17, x18, x19, x20)) (lc kp72 5 0 R K) = (fun (c : ((List (Int × (Int × (List Int)))) × Int × Int × Int × Int × Int × Int × Int × Int × Int × Int × Int × Int × Bool × Int × Int × Int × Int × Int × (List Int) × (List Int)) → Option Ans) (B : (Int × Int × Int × Int × (List Int) × (List Int) → Option Ans)) => match B with
  | b =>
   bif Decidable.decide (x4 < x3) then
      (L_tone_skipped_2 fuel (x0, x1, x2, x4, x3, x4, x5, (0 : Int), x5, x6, x7, x8, x9, x10, x11, x12, x13, x14, x15, x16, x17, x18, x19, x20)
        (fun (b2_0, b2_1, b2_2, b2_3, b2_4, b2_5, b2_6, b2_7, b2_8, b2_9, b2_10, b2_11, b2_12, b2_13, b2_14, b2_15, b2_16, b2_17, b2_18, b2_19, b2_20) =>
          c (b2_0, b2_1, b2_2, b2_3, Go.IntKind.i64.wrap (b2_4 + (1 : Int)), b2_5, b2_6, b2_7, b2_8, b2_9, b2_10, b2_11, b2_12, b2_13, b2_14, b2_15, b2_16, b2_17, b2_18, b2_19, b2_20)))
     else
      b (x15, x16, x17, x18, x19, x20)) (fun v => R (T72_0 v)) (E72_0 K) := by
  kernel_rfl
theorem S72_0_ok (fuel : Nat) (R : Ev.St → Option Ans) (K : Ev.Ex → Ev.St → Option Ans) (x0 : (List (Int × (Int × (List Int))))) (x1 : Int) (x2 : Int) (x3 : Int) (x4 : Int) (x5 : Int) (x6 : Int) (x7 : Int) (x8 : Int) (x9 : Int) (x10 : Int) (x11 : Int) (x12 : Int) (x13 : Bool) (x14 : Int) (x15 : Int) (x16 : Int) (x17 : Int) (x18 : Int) (x19 : (List Int)) (x20 : (List Int)) : evalCode tab (G72 fuel) (J72_0 fuel) kp72 fuel (bodyOf 0 Try.f72) (T72_0 (x0, x1, x2, x3, x4, x5, x6, x7, x8, x9, x10, x11, x12, x13, x14, x15, x16, x17, x18, x19, x20)) (lc kp72 5 0 R K) = S_tone_skipped_0 fuel (x0, x1, x2, x3, x4, x5, x6, x7, x8, x9, x10, x11, x12, x13, x14, x15, x16, x17, x18, x19, x20) (fun v => R (T72_0 v)) (E72_0 K) :=
  S72_0_okg fuel (F_bitmap_New fuel) (F_tone_cell fuel) R K x0 x1 x2 x3 x4 x5 x6 x7 x8 x9 x10 x11 x12 x13 x14 x15 x16 x17 x18 x19 x20
noncomputable def B72_0 (fuel : Nat) : Ev.Blk := fun st K => match canonO (kp72 5) st with
  | some s => (match s with
    | ⟨[(q0, .c (.sl (.pair (.int .i64) (.pair (.int .i64) (.sl (.int .u8)))) x0)), (q1, .c (.int .i64 x1)), (q2, .c (.int .i64 x2)), (q3, .c (.ptr q4 q5)), (q6, .c (.ptr q7 q8)), (q9, .c (.ptr q10 q11)), (q12, .c (.int .i64 x3)), (q13, .c (.int .i64 x4))], [(q14, .cells q15 [.int .i64 x5, .int .i64 x6, .int .i64 x7, .int .i64 x8, .int .i64 x9, .int .i64 x10, .int .i64 x11, .int .i64 x12, .bool x13, .int .i64 x14]), (q16, .cells q17 [.int .i64 x15, .int .i64 x16, .own q18]), (q19, .cells q20 [.int .i64 x17, .int .i64 x18, .own q21]), (q22, .vec q23 (.int .u8) x19 true), (q24, .vec q25 (.int .u8) x20 true)], q26, q27⟩ => bif Nat.beq q0 1 && Nat.beq q1 2 && Nat.beq q2 3 && Nat.beq q3 4 && Nat.beq q4 0 && Nat.beq q5 0 && Nat.beq q6 8 && Nat.beq q7 1 && Nat.beq q8 0 && Nat.beq q9 9 && Nat.beq q10 2 && Nat.beq q11 0 && Nat.beq q12 28 && Nat.beq q13 29 && Nat.beq q14 0 && Nat.beq q15 32 && Nat.beq q16 1 && Nat.beq q17 39 && Nat.beq q18 3 && Nat.beq q19 2 && Nat.beq q20 39 && Nat.beq q21 4 && Nat.beq q22 3 && Nat.beq q23 5 && Nat.beq q24 4 && Nat.beq q25 5 && Nat.beq q26 5 && Nat.beq q27 0 then iter (S_tone_skipped_0 fuel) fuel (x0, x1, x2, x3, x4, x5, x6, x7, x8, x9, x10, x11, x12, x13, x14, x15, x16, x17, x18, x19, x20) (E72_0 K) else none
    | _ => none)
  | none => none
theorem B72_0_ok (fuel : Nat) (st : Ev.St) (K : Ev.Ex → Ev.St → Option Ans) (r : Ans) (h : B72_0 fuel st K = some r) : evalCode tab (G72 fuel) (J72_0 fuel) kp72 fuel (.block 0 (.loop (bodyOf 0 Try.f72))) st K = some r := by
  unfold B72_0 at h
  split at h
  · rename_i s hs
    split at h
    · skip
      obtain ⟨hb, h⟩ := cond_some' h
      simp only [Bool.and_eq_true, Nat.beq_eq, decide_eq_true_eq] at hb
      obtain ⟨⟨⟨⟨⟨⟨⟨⟨⟨⟨⟨⟨⟨⟨⟨⟨⟨⟨⟨⟨⟨⟨⟨⟨⟨⟨⟨rfl, rfl⟩, rfl⟩, rfl⟩, rfl⟩, rfl⟩, rfl⟩, rfl⟩, rfl⟩, rfl⟩, rfl⟩, rfl⟩, rfl⟩, rfl⟩, rfl⟩, rfl⟩, rfl⟩, rfl⟩, rfl⟩, rfl⟩, rfl⟩, rfl⟩, rfl⟩, rfl⟩, rfl⟩, rfl⟩, rfl⟩, rfl⟩ := hb
      exact blk_loop (S := T72_0) (ks := E72_0) (step := S_tone_skipped_0 fuel) (v := (_, _, _, _, _, _, _, _, _, _, _, _, _, _, _, _, _, _, _, _, _)) (by kernel_rfl) (by kernel_rfl) (fun R K v => by obtain ⟨x0, x1, x2, x3, x4, x5, x6, x7, x8, x9, x10, x11, x12, x13, x14, x15, x16, x17, x18, x19, x20⟩ := v; exact S72_0_ok fuel R K x0 x1 x2 x3 x4 x5 x6 x7 x8 x9 x10 x11 x12 x13 x14 x15 x16 x17 x18 x19 x20) hs h
    · cases h
  · cases h
noncomputable def J72 (fuel : Nat) (i : Nat) : Option Ev.Blk := Ev.look i [(100002, B72_2 fuel), (100000, B72_0 fuel)]
noncomputable def F_tone_skipped (fuel : Nat) (x0 : Int) (x1 : Int) (x2 : Int) (x3 : Int) (x4 : Int) (x5 : Int) (x6 : Int) (x7 : Int) (x8 : Bool) (x9 : Int) (x10 : (List (Int × Int × (List Int)))) (x11 : Int) (x12 : Int) (k0 : (Int × Int × (List Int)) → Option Ans) : Option Ans :=
  (F_bitmap_New fuel (x0) (x1) ((0 : Int))
    (fun (y2_0, y2_1, y2_2, y2_3) =>
      bif !x8 then
       k0 (y2_0, y2_1, y2_3)
      else
       (L_tone_skipped_0 fuel (x10, x11, x12, x1, (0 : Int), x0, x1, x2, x3, x4, x5, x6, x7, x8, x9, (0 : Int), (0 : Int), y2_0, y2_1, [], y2_3)
         (fun (b0_0, b0_1, b0_2, b0_3, b0_4, b0_5) =>
           k0 (b0_2, b0_3, b0_5)))))
abbrev YF72 : Type := (Int) → (Int) → (Int) → (Int) → (Int) → (Int) → (Int) → (Int) → (Bool) → (Int) → ((List (Int × Int × (List Int)))) → (Int) → (Int) → ((Int × Int × (List Int)) → Option Ans) → Option Ans
theorem F72_eqg (fuel : Nat) (f76 : YF76) (f77 : YF77) (x0 : Int) (x1 : Int) (x2 : Int) (x3 : Int) (x4 : Int) (x5 : Int) (x6 : Int) (x7 : Int) (x8 : Bool) (x9 : Int) (x10 : (List (Int × Int × (List Int)))) (x11 : Int) (x12 : Int) (k : Ev.Cont) : evalFn tab (Gg72 f76 f77) (J72 fuel) kp72 fuel Try.f72 [.agg [.int .i64 x0, .int .i64 x1, .int .i64 x2, .int .i64 x3, .int .i64 x4, .int .i64 x5, .int .i64 x6, .int .i64 x7, .bool x8, .int .i64 x9], .c (.sl (.pair (.int .i64) (.pair (.int .i64) (.sl (.int .u8)))) x10), .c (.int .i64 x11), .c (.int .i64 x12)] [] k = (fun  (k0 : (Int × Int × (List Int)) → Option Ans) =>
  (f76 (x0) (x1) ((0 : Int))
    (fun (y2_0, y2_1, y2_2, y2_3) =>
      bif !x8 then
       k0 (y2_0, y2_1, y2_3)
      else
       (L_tone_skipped_0 fuel (x10, x11, x12, x1, (0 : Int), x0, x1, x2, x3, x4, x5, x6, x7, x8, x9, (0 : Int), (0 : Int), y2_0, y2_1, [], y2_3)
         (fun (b0_0, b0_1, b0_2, b0_3, b0_4, b0_5) =>
           k0 (b0_2, b0_3, b0_5)))))) (fun r => match r with | (r0, r1, r2) => k (.agg [.int .i64 r0, .int .i64 r1, .own 0], [.vec 5 (.int .u8) r2 true])) := by
  kernel_rfl
theorem F72_eq (fuel : Nat) (x0 : Int) (x1 : Int) (x2 : Int) (x3 : Int) (x4 : Int) (x5 : Int) (x6 : Int) (x7 : Int) (x8 : Bool) (x9 : Int) (x10 : (List (Int × Int × (List Int)))) (x11 : Int) (x12 : Int) (k : Ev.Cont) : evalFn tab (G72 fuel) (J72 fuel) kp72 fuel Try.f72 [.agg [.int .i64 x0, .int .i64 x1, .int .i64 x2, .int .i64 x3, .int .i64 x4, .int .i64 x5, .int .i64 x6, .int .i64 x7, .bool x8, .int .i64 x9], .c (.sl (.pair (.int .i64) (.pair (.int .i64) (.sl (.int .u8)))) x10), .c (.int .i64 x11), .c (.int .i64 x12)] [] k = F_tone_skipped fuel x0 x1 x2 x3 x4 x5 x6 x7 x8 x9 x10 x11 x12 (fun r => match r with | (r0, r1, r2) => k (.agg [.int .i64 r0, .int .i64 r1, .own 0], [.vec 5 (.int .u8) r2 true])) :=
  F72_eqg fuel (F_bitmap_New fuel) (F_tone_cell fuel) x0 x1 x2 x3 x4 x5 x6 x7 x8 x9 x10 x11 x12 k
theorem hG72 (fuel : Nat) : GOK Try.prog (G72 fuel) :=
  gok_cons ⟨ok76 fuel, enters_of Try.func76 (by kernel_rfl) rfl⟩ <|
  gok_cons ⟨ok77 fuel, enters_of Try.func77 (by kernel_rfl) rfl⟩ <|
  gok_nil
theorem B72_2_blk (fuel : Nat) : BlkOK Try.prog Try.f72.ntmps (.block 2 (.loop (bodyOf 2 Try.f72))) (B72_2 fuel) :=
  blk_of (blk_of_code tab_ok (hG72 fuel) mixed (J := J72_2 fuel) (kp := kp72) (fuel := fuel) (by kernel_rfl) (fun q hq => by
    rw [(by kernel_rfl : obl (J72_2 fuel) (.block 2 (.loop (bodyOf 2 Try.f72))) = [])] at hq
    cases hq)) (B72_2_ok fuel)
theorem B72_0_blk (fuel : Nat) : BlkOK Try.prog Try.f72.ntmps (.block 0 (.loop (bodyOf 0 Try.f72))) (B72_0 fuel) :=
  blk_of (blk_of_code tab_ok (hG72 fuel) mixed (J := J72_0 fuel) (kp := kp72) (fuel := fuel) (by kernel_rfl) (fun q hq => by
    rw [(by kernel_rfl : obl (J72_0 fuel) (.block 0 (.loop (bodyOf 0 Try.f72))) = [(.block 2 (.loop (bodyOf 2 Try.f72)), B72_2 fuel)])] at hq
    simp only [List.mem_cons, List.not_mem_nil, or_false] at hq
    subst hq
    · exact B72_2_blk fuel)) (B72_0_ok fuel)
theorem fok72 (fuel : Nat) : FnOK Try.prog 72 (evalFn tab (G72 fuel) (J72 fuel) kp72 fuel Try.f72) :=
  fn_ok tab_ok (hG72 fuel) mixed Try.func72 (c := (Try.f72.body).getD .skip) rfl (fun q hq => by
    rw [(by kernel_rfl : obl (J72 fuel) ((Try.f72.body).getD .skip) = [(.block 0 (.loop (bodyOf 0 Try.f72)), B72_0 fuel)])] at hq
    simp only [List.mem_cons, List.not_mem_nil, or_false] at hq
    subst hq
    · exact B72_0_blk fuel)
noncomputable def mt72 : List Ev.SV → List Ev.Ob → Bool := fun args objs => match args, objs with
  | [.agg [.int .i64 _, .int .i64 _, .int .i64 _, .int .i64 _, .int .i64 _, .int .i64 _, .int .i64 _, .int .i64 _, .bool _, .int .i64 _], .c (.sl (.pair (.int .i64) (.pair (.int .i64) (.sl (.int .u8)))) _), .c (.int .i64 _), .c (.int .i64 _)], [] => true
  | _, _ => false
noncomputable def spg72 (F : YF72) : Ev.Spec := fun args objs k => match args, objs with
  | [.agg [.int .i64 x0, .int .i64 x1, .int .i64 x2, .int .i64 x3, .int .i64 x4, .int .i64 x5, .int .i64 x6, .int .i64 x7, .bool x8, .int .i64 x9], .c (.sl (.pair (.int .i64) (.pair (.int .i64) (.sl (.int .u8)))) x10), .c (.int .i64 x11), .c (.int .i64 x12)], [] => bif true then F x0 x1 x2 x3 x4 x5 x6 x7 x8 x9 x10 x11 x12 (fun r => match r with | (r0, r1, r2) => k (.agg [.int .i64 r0, .int .i64 r1, .own 0], [.vec 5 (.int .u8) r2 true])) else none
  | _, _ => none
noncomputable def spec72 (fuel : Nat) : Ev.Spec := spg72 (F_tone_skipped fuel)
theorem ok72 (fuel : Nat) : FnOK Try.prog 72 (spec72 fuel) := by
  intro args objs kk r h
  unfold spec72 spg72 at h
  split at h
  · skip
    obtain ⟨hb, h⟩ := cond_some' h
    simp only [Bool.and_eq_true, Nat.beq_eq, decide_eq_true_eq] at hb
    clear hb
    exact fok72 fuel _ _ kk r ((F72_eq fuel _ _ _ _ _ _ _ _ _ _ _ _ _ kk).trans h)
  · cases h
end Go.Proofs.Ytihfgpfofmjbaaa

set_option linter.unusedVariables false
set_option linter.unusedSimpArgs false
set_option maxRecDepth 100000
set_option maxHeartbeats 2000000
namespace Go.Proofs.Ytihfgpfofmjbaaa
open Go Ev
def kp24 (i : Nat) : Option (List Nat) := Ev.look i [(9, [1, 4, 5, 10, 13, 14, 50, 51]), (12, [1, 4, 5, 10, 13, 14, 16, 50, 51, 55, 56]), (100000, [10, 14]), (100002, [1, 4, 5, 10, 13, 14, 50, 51]), (200017, [1, 4, 5]), (400000, [10, 11]), (400002, [10, 11])]
noncomputable def Gg24 (f71 : YF71) (f72 : YF72) (f75 : YF75) (f76 : YF76) (f77 : YF77) (f78 : YF78) (f79 : YF79) (f : Nat) : Option Ev.Spec := Ev.look f [(71, spg71 f71), (72, spg72 f72), (75, spg75 f75), (76, spg76 f76), (77, spg77 f77), (78, spg78 f78), (79, spg79 f79)]
noncomputable def G24 (fuel : Nat) : Nat → Option Ev.Spec := Gg24 (F_tone_begun fuel) (F_tone_skipped fuel) (F_tone_rightValues fuel) (F_bitmap_New fuel) (F_tone_cell fuel) (F_tone_near fuel) (F_bitmap_Draw fuel)
noncomputable def S_tone_Render_2 (fuel : Nat) (v : (List (Int × (Int × (List Int)))) × (List Int) × Int × Int × Int × Int × Int × Int × Int × Int × Int × Int × Int × Int × Int × Bool × Int × Int × Int × Int × Int × Int × Int × (List Int) × (List Int) × (List Int)) (c : ((List (Int × (Int × (List Int)))) × (List Int) × Int × Int × Int × Int × Int × Int × Int × Int × Int × Int × Int × Int × Int × Bool × Int × Int × Int × Int × Int × Int × Int × (List Int) × (List Int) × (List Int)) → Option Ans) (B : ((List (Int × (Int × (List Int)))) × (List Int) × Int × Int × Int × Int × Int × Int × Int × Int × Int × Int × Bool × Int × Int × Int × Int × Int × Int × Int × (List Int) × (List Int) × (List Int) → Option Ans)) : Option Ans := match v, B with
  | (x0, x1, x2, x3, x4, x5, x6, x7, x8, x9, x10, x11, x12, x13, x14, x15, x16, x17, x18, x19, x20, x21, x22, x23, x24, x25), b =>
   bif Decidable.decide (x6 < x5) then
      (F_tone_cell fuel (x7) (x8) (x9) (x10) (x11) (x12) (x13) (x14) (x15) (x16) (x2) (x6)
        (fun (y3_0, y3_1) =>
          bif Decidable.decide ((0 : Int) ≤ Go.IntKind.i64.wrap (Go.IntKind.i64.wrap (x2 * x7) + x6) ∧ Go.IntKind.i64.wrap (Go.IntKind.i64.wrap (x2 * x7) + x6) < (↑x24.length : Int)) then
          bif x24.getD (Go.IntKind.i64.wrap (Go.IntKind.i64.wrap (x2 * x7) + x6)).toNat (0 : Int) == (0 : Int) then
            (F_tone_near fuel (y3_0) ((100000 : Int))
              (fun y9 =>
                bif y9 then
                 (F_tone_near fuel (y3_1) ((100000 : Int))
                   (fun y14 =>
                     bif y14 then
                      bif Decidable.decide ((0 : Int) ≤ Go.IntKind.i64.wrap (Go.IntKind.i64.wrap (x2 * x7) + x6) ∧ Go.IntKind.i64.wrap (Go.IntKind.i64.wrap (x2 * x7) + x6) < (↑x1.length : Int)) then
                      bif Decidable.decide ((0 : Int) ≤ x1.getD (Go.IntKind.i64.wrap (Go.IntKind.i64.wrap (x2 * x7) + x6)).toNat (0 : Int) ∧ x1.getD (Go.IntKind.i64.wrap (Go.IntKind.i64.wrap (x2 * x7) + x6)).toNat (0 : Int) < (↑x0.length : Int)) then
                       (F_bitmap_Draw fuel (x21) (x22) (x25) ((x0.getD (Int.toNat (x1.getD (Go.IntKind.i64.wrap (Go.IntKind.i64.wrap (x2 * x7) + x6)).toNat (0 : Int))) ((0 : Int), (0 : Int), [])).fst) ((x0.getD (Int.toNat (x1.getD (Go.IntKind.i64.wrap (Go.IntKind.i64.wrap (x2 * x7) + x6)).toNat (0 : Int))) ((0 : Int), (0 : Int), [])).snd.fst) ((x0.getD (Int.toNat (x1.getD (Go.IntKind.i64.wrap (Go.IntKind.i64.wrap (x2 * x7) + x6)).toNat (0 : Int))) ((0 : Int), (0 : Int), [])).snd.snd) (y3_0) (y3_1) (x16)
                          (fun (y21_0, y21_1, y21_2, y21_3) =>
                            c (x0, x1, x2, x3, x4, x5, Go.IntKind.i64.wrap (x6 + (1 : Int)), x7, x8, x9, x10, x11, x12, x13, x14, x15, x16, x17, x18, x19, x20, y21_0, y21_1, x23, x24, y21_3)))
                       else none
                      else none
                     else
                      c (x0, x1, x2, x3, x4, x5, Go.IntKind.i64.wrap (x6 + (1 : Int)), x7, x8, x9, x10, x11, x12, x13, x14, x15, x16, x17, x18, x19, x20, x21, x22, x23, x24, x25)))
                else
                 c (x0, x1, x2, x3, x4, x5, Go.IntKind.i64.wrap (x6 + (1 : Int)), x7, x8, x9, x10, x11, x12, x13, x14, x15, x16, x17, x18, x19, x20, x21, x22, x23, x24, x25)))
           else
            c (x0, x1, x2, x3, x4, x5, Go.IntKind.i64.wrap (x6 + (1 : Int)), x7, x8, x9, x10, x11, x12, x13, x14, x15, x16, x17, x18, x19, x20, x21, x22, x23, x24, x25)
          else none))
     else
      b (x0, x1, x3, x4, x7, x8, x9, x10, x11, x12, x13, x14, x15, x16, x17, x18, x19, x20, x21, x22, x23, x24, x25)
noncomputable def L_tone_Render_2 (fuel : Nat) (v : (List (Int × (Int × (List Int)))) × (List Int) × Int × Int × Int × Int × Int × Int × Int × Int × Int × Int × Int × Int × Int × Bool × Int × Int × Int × Int × Int × Int × Int × (List Int) × (List Int) × (List Int)) (b : ((List (Int × (Int × (List Int)))) × (List Int) × Int × Int × Int × Int × Int × Int × Int × Int × Int × Int × Bool × Int × Int × Int × Int × Int × Int × Int × (List Int) × (List Int) × (List Int) → Option Ans)) : Option Ans := iter (S_tone_Render_2 fuel) fuel v b
noncomputable def J24_2 (fuel : Nat) (i : Nat) : Option Ev.Blk := Ev.look i []
noncomputable def T24_2 (v : (List (Int × (Int × (List Int)))) × (List Int) × Int × Int × Int × Int × Int × Int × Int × Int × Int × Int × Int × Int × Int × Bool × Int × Int × Int × Int × Int × Int × Int × (List Int) × (List Int) × (List Int)) : Ev.St := match v with | (x0, x1, x2, x3, x4, x5, x6, x7, x8, x9, x10, x11, x12, x13, x14, x15, x16, x17, x18, x19, x20, x21, x22, x23, x24, x25) => ⟨[(1, .c (.sl (.pair (.int .i64) (.pair (.int .i64) (.sl (.int .u8)))) x0)), (4, .c (.sl (.int .i64) x1)), (5, .c (.ptr 0 0)), (10, .c (.ptr 1 0)), (13, .c (.ptr 2 0)), (14, .c (.ptr 3 0)), (16, .c (.int .i64 x2)), (50, .c (.int .i64 x3)), (51, .c (.int .i64 x4)), (55, .c (.int .i64 x5)), (56, .c (.int .i64 x6))], [(0, .cells 32 [.int .i64 x7, .int .i64 x8, .int .i64 x9, .int .i64 x10, .int .i64 x11, .int .i64 x12, .int .i64 x13, .int .i64 x14, .bool x15, .int .i64 x16]), (1, .cells 39 [.int .i64 x17, .int .i64 x18, .own 4]), (2, .cells 39 [.int .i64 x19, .int .i64 x20, .own 5]), (3, .cells 39 [.int .i64 x21, .int .i64 x22, .own 6]), (4, .vec 5 (.int .u8) x23 true), (5, .vec 5 (.int .u8) x24 true), (6, .vec 5 (.int .u8) x25 true)], 7, 0⟩
noncomputable def E24_2 (K : Ev.Ex → Ev.St → Option Ans) : ((List (Int × (Int × (List Int)))) × (List Int) × Int × Int × Int × Int × Int × Int × Int × Int × Int × Int × Bool × Int × Int × Int × Int × Int × Int × Int × (List Int) × (List Int) × (List Int) → Option Ans) := (fun v => match v with | (x0, x1, x2, x3, x4, x5, x6, x7, x8, x9, x10, x11, x12, x13, x14, x15, x16, x17, x18, x19, x20, x21, x22) => K .normal ⟨[(1, .c (.sl (.pair (.int .i64) (.pair (.int .i64) (.sl (.int .u8)))) x0)), (4, .c (.sl (.int .i64) x1)), (5, .c (.ptr 0 0)), (10, .c (.ptr 1 0)), (13, .c (.ptr 2 0)), (14, .c (.ptr 3 0)), (50, .c (.int .i64 x2)), (51, .c (.int .i64 x3))], [(0, .cells 32 [.int .i64 x4, .int .i64 x5, .int .i64 x6, .int .i64 x7, .int .i64 x8, .int .i64 x9, .int .i64 x10, .int .i64 x11, .bool x12, .int .i64 x13]), (1, .cells 39 [.int .i64 x14, .int .i64 x15, .own 4]), (2, .cells 39 [.int .i64 x16, .int .i64 x17, .own 5]), (3, .cells 39 [.int .i64 x18, .int .i64 x19, .own 6]), (4, .vec 5 (.int .u8) x20 true), (5, .vec 5 (.int .u8) x21 true), (6, .vec 5 (.int .u8) x22 true)], 7, 0⟩)
theorem S24_2_okg (fuel : Nat) (f71 : YF71) (f72 : YF72) (f75 : YF75) (f76 : YF76) (f77 : YF77) (f78 : YF78) (f79 : YF79) (R : Ev.St → Option Ans) (K : Ev.Ex → Ev.St → Option Ans) (x0 : (List (Int × (Int × (List Int))))) (x1 : (List Int)) (x2 : Int) (x3 : Int) (x4 : Int) (x5 : Int) (x6 : Int) (x7 : Int) (x8 : Int) (x9 : Int) (x10 : Int) (x11 : Int) (x12 : Int) (x13 : Int) (x14 : Int) (x15 : Bool) (x16 : Int) (x17 : Int) (x18 : Int) (x19 : Int) (x20 : Int) (x21 : Int) (x22 : Int) (x23 : (List Int)) (x24 : (List Int)) (x25 : (List Int)) : evalCode tab (Gg24 f71 f72 f75 f76 f77 f78 f79) (J24_2 fuel) kp24 fuel (bodyOf 2 Try.f24) (T24_2 (x0, x1, x2, x3, x4, x5, x6, x7, x8, x9, x10, x11, x12, x13, x14, x15, x16, x17, x18, x19, x20, x21, x22, x23, x24, x25)) (lc kp24 12 2 R K) = (fun (c : ((List (Int × (Int × (List Int)))) × (List Int) × Int × Int × Int × Int × Int × Int × Int × Int × Int × Int × Int × Int × Int × Bool × Int × Int × Int × Int × Int × Int × Int × (List Int) × (List Int) × (List Int)) → Option Ans) (B : ((List (Int × (Int × (List Int)))) × (List Int) × Int × Int × Int × Int × Int × Int × Int × Int × Int × Int × Bool × Int × Int × Int × Int × Int × Int × Int × (List Int) × (List Int) × (List Int) → Option Ans)) => match B with
  | b =>
   bif Decidable.decide (x6 < x5) then
      (f77 (x7) (x8) (x9) (x10) (x11) (x12) (x13) (x14) (x15) (x16) (x2) (x6)
        (fun (y3_0, y3_1) =>
          bif Decidable.decide ((0 : Int) ≤ Go.IntKind.i64.wrap (Go.IntKind.i64.wrap (x2 * x7) + x6) ∧ Go.IntKind.i64.wrap (Go.IntKind.i64.wrap (x2 * x7) + x6) < (↑x24.length : Int)) then
          bif x24.getD (Go.IntKind.i64.wrap (Go.IntKind.i64.wrap (x2 * x7) + x6)).toNat (0 : Int) == (0 : Int) then
            (f78 (y3_0) ((100000 : Int))
              (fun y9 =>
                bif y9 then
                 (f78 (y3_1) ((100000 : Int))
                   (fun y14 =>
                     bif y14 then
                      bif Decidable.decide ((0 : Int) ≤ Go.IntKind.i64.wrap (Go.IntKind.i64.wrap (x2 * x7) + x6) ∧ Go.IntKind.i64.wrap (Go.IntKind.i64.wrap (x2 * x7) + x6) < (↑x1.length : Int)) then
                      bif Decidable.decide ((0 : Int) ≤ x1.getD (Go.IntKind.i64.wrap (Go.IntKind.i64.wrap (x2 * x7) + x6)).toNat (0 : Int) ∧ x1.getD (Go.IntKind.i64.wrap (Go.IntKind.i64.wrap (x2 * x7) + x6)).toNat (0 : Int) < (↑x0.length : Int)) then
                       (f79 (x21) (x22) (x25) ((x0.getD (Int.toNat (x1.getD (Go.IntKind.i64.wrap (Go.IntKind.i64.wrap (x2 * x7) + x6)).toNat (0 : Int))) ((0 : Int), (0 : Int), [])).fst) ((x0.getD (Int.toNat (x1.getD (Go.IntKind.i64.wrap (Go.IntKind.i64.wrap (x2 * x7) + x6)).toNat (0 : Int))) ((0 : Int), (0 : Int), [])).snd.fst) ((x0.getD (Int.toNat (x1.getD (Go.IntKind.i64.wrap (Go.IntKind.i64.wrap (x2 * x7) + x6)).toNat (0 : Int))) ((0 : Int), (0 : Int), [])).snd.snd) (y3_0) (y3_1) (x16)
                          (fun (y21_0, y21_1, y21_2, y21_3) =>
                            c (x0, x1, x2, x3, x4, x5, Go.IntKind.i64.wrap (x6 + (1 : Int)), x7, x8, x9, x10, x11, x12, x13, x14, x15, x16, x17, x18, x19, x20, y21_0, y21_1, x23, x24, y21_3)))
                       else none
                      else none
                     else
                      c (x0, x1, x2, x3, x4, x5, Go.IntKind.i64.wrap (x6 + (1 : Int)), x7, x8, x9, x10, x11, x12, x13, x14, x15, x16, x17, x18, x19, x20, x21, x22, x23, x24, x25)))
                else
                 c (x0, x1, x2, x3, x4, x5, Go.IntKind.i64.wrap (x6 + (1 : Int)), x7, x8, x9, x10, x11, x12, x13, x14, x15, x16, x17, x18, x19, x20, x21, x22, x23, x24, x25)))
           else
            c (x0, x1, x2, x3, x4, x5, Go.IntKind.i64.wrap (x6 + (1 : Int)), x7, x8, x9, x10, x11, x12, x13, x14, x15, x16, x17, x18, x19, x20, x21, x22, x23, x24, x25)
          else none))
     else
      b (x0, x1, x3, x4, x7, x8, x9, x10, x11, x12, x13, x14, x15, x16, x17, x18, x19, x20, x21, x22, x23, x24, x25)) (fun v => R (T24_2 v)) (E24_2 K) := by
  kernel_rfl
theorem S24_2_ok (fuel : Nat) (R : Ev.St → Option Ans) (K : Ev.Ex → Ev.St → Option Ans) (x0 : (List (Int × (Int × (List Int))))) (x1 : (List Int)) (x2 : Int) (x3 : Int) (x4 : Int) (x5 : Int) (x6 : Int) (x7 : Int) (x8 : Int) (x9 : Int) (x10 : Int) (x11 : Int) (x12 : Int) (x13 : Int) (x14 : Int) (x15 : Bool) (x16 : Int) (x17 : Int) (x18 : Int) (x19 : Int) (x20 : Int) (x21 : Int) (x22 : Int) (x23 : (List Int)) (x24 : (List Int)) (x25 : (List Int)) : evalCode tab (G24 fuel) (J24_2 fuel) kp24 fuel (bodyOf 2 Try.f24) (T24_2 (x0, x1, x2, x3, x4, x5, x6, x7, x8, x9, x10, x11, x12, x13, x14, x15, x16, x17, x18, x19, x20, x21, x22, x23, x24, x25)) (lc kp24 12 2 R K) = S_tone_Render_2 fuel (x0, x1, x2, x3, x4, x5, x6, x7, x8, x9, x10, x11, x12, x13, x14, x15, x16, x17, x18, x19, x20, x21, x22, x23, x24, x25) (fun v => R (T24_2 v)) (E24_2 K) :=
  S24_2_okg fuel (F_tone_begun fuel) (F_tone_skipped fuel) (F_tone_rightValues fuel) (F_bitmap_New fuel) (F_tone_cell fuel) (F_tone_near fuel) (F_bitmap_Draw fuel) R K x0 x1 x2 x3 x4 x5 x6 x7 x8 x9 x10 x11 x12 x13 x14 x15 x16 x17 x18 x19 x20 x21 x22 x23 x24 x25
noncomputable def B24_2 (fuel : Nat) : Ev.Blk := fun st K => match canonO (kp24 12) st with
  | some s => (match s with
    | ⟨[(q0, .c (.sl (.pair (.int .i64) (.pair (.int .i64) (.sl (.int .u8)))) x0)), (q1, .c (.sl (.int .i64) x1)), (q2, .c (.ptr q3 q4)), (q5, .c (.ptr q6 q7)), (q8, .c (.ptr q9 q10)), (q11, .c (.ptr q12 q13)), (q14, .c (.int .i64 x2)), (q15, .c (.int .i64 x3)), (q16, .c (.int .i64 x4)), (q17, .c (.int .i64 x5)), (q18, .c (.int .i64 x6))], [(q19, .cells q20 [.int .i64 x7, .int .i64 x8, .int .i64 x9, .int .i64 x10, .int .i64 x11, .int .i64 x12, .int .i64 x13, .int .i64 x14, .bool x15, .int .i64 x16]), (q21, .cells q22 [.int .i64 x17, .int .i64 x18, .own q23]), (q24, .cells q25 [.int .i64 x19, .int .i64 x20, .own q26]), (q27, .cells q28 [.int .i64 x21, .int .i64 x22, .own q29]), (q30, .vec q31 (.int .u8) x23 true), (q32, .vec q33 (.int .u8) x24 true), (q34, .vec q35 (.int .u8) x25 true)], q36, q37⟩ => bif Nat.beq q0 1 && Nat.beq q1 4 && Nat.beq q2 5 && Nat.beq q3 0 && Nat.beq q4 0 && Nat.beq q5 10 && Nat.beq q6 1 && Nat.beq q7 0 && Nat.beq q8 13 && Nat.beq q9 2 && Nat.beq q10 0 && Nat.beq q11 14 && Nat.beq q12 3 && Nat.beq q13 0 && Nat.beq q14 16 && Nat.beq q15 50 && Nat.beq q16 51 && Nat.beq q17 55 && Nat.beq q18 56 && Nat.beq q19 0 && Nat.beq q20 32 && Nat.beq q21 1 && Nat.beq q22 39 && Nat.beq q23 4 && Nat.beq q24 2 && Nat.beq q25 39 && Nat.beq q26 5 && Nat.beq q27 3 && Nat.beq q28 39 && Nat.beq q29 6 && Nat.beq q30 4 && Nat.beq q31 5 && Nat.beq q32 5 && Nat.beq q33 5 && Nat.beq q34 6 && Nat.beq q35 5 && Nat.beq q36 7 && Nat.beq q37 0 then iter (S_tone_Render_2 fuel) fuel (x0, x1, x2, x3, x4, x5, x6, x7, x8, x9, x10, x11, x12, x13, x14, x15, x16, x17, x18, x19, x20, x21, x22, x23, x24, x25) (E24_2 K) else none
    | _ => none)
  | none => none
theorem B24_2_ok (fuel : Nat) (st : Ev.St) (K : Ev.Ex → Ev.St → Option Ans) (r : Ans) (h : B24_2 fuel st K = some r) : evalCode tab (G24 fuel) (J24_2 fuel) kp24 fuel (.block 2 (.loop (bodyOf 2 Try.f24))) st K = some r := by
  unfold B24_2 at h
  split at h
  · rename_i s hs
    split at h
    · skip
      obtain ⟨hb, h⟩ := cond_some' h
      simp only [Bool.and_eq_true, Nat.beq_eq, decide_eq_true_eq] at hb
      obtain ⟨⟨⟨⟨⟨⟨⟨⟨⟨⟨⟨⟨⟨⟨⟨⟨⟨⟨⟨⟨⟨⟨⟨⟨⟨⟨⟨⟨⟨⟨⟨⟨⟨⟨⟨⟨⟨rfl, rfl⟩, rfl⟩, rfl⟩, rfl⟩, rfl⟩, rfl⟩, rfl⟩, rfl⟩, rfl⟩, rfl⟩, rfl⟩, rfl⟩, rfl⟩, rfl⟩, rfl⟩, rfl⟩, rfl⟩, rfl⟩, rfl⟩, rfl⟩, rfl⟩, rfl⟩, rfl⟩, rfl⟩, rfl⟩, rfl⟩, rfl⟩, rfl⟩, rfl⟩, rfl⟩, rfl⟩, rfl⟩, rfl⟩, rfl⟩, rfl⟩, rfl⟩, rfl⟩ := hb
      exact blk_loop (S := T24_2) (ks := E24_2) (step := S_tone_Render_2 fuel) (v := (_, _, _, _, _, _, _, _, _, _, _, _, _, _, _, _, _, _, _, _, _, _, _, _, _, _)) (by kernel_rfl) (by kernel_rfl) (fun R K v => by obtain ⟨x0, x1, x2, x3, x4, x5, x6, x7, x8, x9, x10, x11, x12, x13, x14, x15, x16, x17, x18, x19, x20, x21, x22, x23, x24, x25⟩ := v; exact S24_2_ok fuel R K x0 x1 x2 x3 x4 x5 x6 x7 x8 x9 x10 x11 x12 x13 x14 x15 x16 x17 x18 x19 x20 x21 x22 x23 x24 x25) hs h
    · cases h
  · cases h
noncomputable def S_tone_Render_0 (fuel : Nat) (v : (List (Int × (Int × (List Int)))) × (List Int) × Int × Int × Int × Int × Int × Int × Int × Int × Int × Int × Bool × Int × Int × Int × Int × Int × Int × Int × (List Int) × (List Int) × (List Int)) (c : ((List (Int × (Int × (List Int)))) × (List Int) × Int × Int × Int × Int × Int × Int × Int × Int × Int × Int × Bool × Int × Int × Int × Int × Int × Int × Int × (List Int) × (List Int) × (List Int)) → Option Ans) (B : (Int × Int × Int × Int × (List Int) × (List Int) → Option Ans)) : Option Ans := match v, B with
  | (x0, x1, x2, x3, x4, x5, x6, x7, x8, x9, x10, x11, x12, x13, x14, x15, x16, x17, x18, x19, x20, x21, x22), b =>
   bif Decidable.decide (x3 < x2) then
      (L_tone_Render_2 fuel (x0, x1, x3, x2, x3, x4, (0 : Int), x4, x5, x6, x7, x8, x9, x10, x11, x12, x13, x14, x15, x16, x17, x18, x19, x20, x21, x22)
        (fun (b2_0, b2_1, b2_2, b2_3, b2_4, b2_5, b2_6, b2_7, b2_8, b2_9, b2_10, b2_11, b2_12, b2_13, b2_14, b2_15, b2_16, b2_17, b2_18, b2_19, b2_20, b2_21, b2_22) =>
          c (b2_0, b2_1, b2_2, Go.IntKind.i64.wrap (b2_3 + (1 : Int)), b2_4, b2_5, b2_6, b2_7, b2_8, b2_9, b2_10, b2_11, b2_12, b2_13, b2_14, b2_15, b2_16, b2_17, b2_18, b2_19, b2_20, b2_21, b2_22)))
     else
      b (x14, x15, x18, x19, x20, x22)
noncomputable def L_tone_Render_0 (fuel : Nat) (v : (List (Int × (Int × (List Int)))) × (List Int) × Int × Int × Int × Int × Int × Int × Int × Int × Int × Int × Bool × Int × Int × Int × Int × Int × Int × Int × (List Int) × (List Int) × (List Int)) (b : (Int × Int × Int × Int × (List Int) × (List Int) → Option Ans)) : Option Ans := iter (S_tone_Render_0 fuel) fuel v b
noncomputable def J24_0 (fuel : Nat) (i : Nat) : Option Ev.Blk := Ev.look i [(100002, B24_2 fuel)]
noncomputable def T24_0 (v : (List (Int × (Int × (List Int)))) × (List Int) × Int × Int × Int × Int × Int × Int × Int × Int × Int × Int × Bool × Int × Int × Int × Int × Int × Int × Int × (List Int) × (List Int) × (List Int)) : Ev.St := match v with | (x0, x1, x2, x3, x4, x5, x6, x7, x8, x9, x10, x11, x12, x13, x14, x15, x16, x17, x18, x19, x20, x21, x22) => ⟨[(1, .c (.sl (.pair (.int .i64) (.pair (.int .i64) (.sl (.int .u8)))) x0)), (4, .c (.sl (.int .i64) x1)), (5, .c (.ptr 0 0)), (10, .c (.ptr 1 0)), (13, .c (.ptr 2 0)), (14, .c (.ptr 3 0)), (50, .c (.int .i64 x2)), (51, .c (.int .i64 x3))], [(0, .cells 32 [.int .i64 x4, .int .i64 x5, .int .i64 x6, .int .i64 x7, .int .i64 x8, .int .i64 x9, .int .i64 x10, .int .i64 x11, .bool x12, .int .i64 x13]), (1, .cells 39 [.int .i64 x14, .int .i64 x15, .own 4]), (2, .cells 39 [.int .i64 x16, .int .i64 x17, .own 5]), (3, .cells 39 [.int .i64 x18, .int .i64 x19, .own 6]), (4, .vec 5 (.int .u8) x20 true), (5, .vec 5 (.int .u8) x21 true), (6, .vec 5 (.int .u8) x22 true)], 7, 0⟩
noncomputable def E24_0 (K : Ev.Ex → Ev.St → Option Ans) : (Int × Int × Int × Int × (List Int) × (List Int) → Option Ans) := (fun v => match v with | (x0, x1, x2, x3, x4, x5) => K .normal ⟨[(10, .c (.ptr 0 0)), (14, .c (.ptr 1 0))], [(0, .cells 39 [.int .i64 x0, .int .i64 x1, .own 2]), (1, .cells 39 [.int .i64 x2, .int .i64 x3, .own 3]), (2, .vec 5 (.int .u8) x4 true), (3, .vec 5 (.int .u8) x5 true)], 4, 0⟩)
theorem S24_0_okg (fuel : Nat) (f71 : YF71) (f72 : YF72) (f75 : YF75) (f76 : YF76) (f77 : YF77) (f78 : YF78) (f79 : YF79) (R : Ev.St → Option Ans) (K : Ev.Ex → Ev.St → Option Ans) (x0 : (List (Int × (Int × (List Int))))) (x1 : (List Int)) (x2 : Int) (x3 : Int) (x4 : Int) (x5 : Int) (x6 : Int) (x7 : Int) (x8 : Int) (x9 : Int) (x10 : Int) (x11 : Int) (x12 : Bool) (x13 : Int) (x14 : Int) (x15 : Int) (x16 : Int) (x17 : Int) (x18 : Int) (x19 : Int) (x20 : (List Int)) (x21 : (List Int)) (x22 : (List Int)) : evalCode tab (Gg24 f71 f72 f75 f76 f77 f78 f79) (J24_0 fuel) kp24 fuel (bodyOf 0 Try.f24) (T24_0 (x0, x1, x2, x3, x4, x5, x6, x7, x8, x9, x10, x11, x12, x13, x14, x15, x16, x17, x18, x19, x20, x21, x22)) (lc kp24 9 0 R K) = (fun (c : ((List (Int × (Int × (List Int)))) × (List Int) × Int × Int × Int × Int × Int × Int × Int × Int × Int × Int × Bool × Int × Int × Int × Int × Int × Int × Int × (List Int) × (List Int) × (List Int)) → Option Ans) (B : (Int × Int × Int × Int × (List Int) × (List Int) → Option Ans)) => match B with
  | b =>
   bif Decidable.decide (x3 < x2) then
      (L_tone_Render_2 fuel (x0, x1, x3, x2, x3, x4, (0 : Int), x4, x5, x6, x7, x8, x9, x10, x11, x12, x13, x14, x15, x16, x17, x18, x19, x20, x21, x22)
        (fun (b2_0, b2_1, b2_2, b2_3, b2_4, b2_5, b2_6, b2_7, b2_8, b2_9, b2_10, b2_11, b2_12, b2_13, b2_14, b2_15, b2_16, b2_17, b2_18, b2_19, b2_20, b2_21, b2_22) =>
          c (b2_0, b2_1, b2_2, Go.IntKind.i64.wrap (b2_3 + (1 : Int)), b2_4, b2_5, b2_6, b2_7, b2_8, b2_9, b2_10, b2_11, b2_12, b2_13, b2_14, b2_15, b2_16, b2_17, b2_18, b2_19, b2_20, b2_21, b2_22)))
     else
      b (x14, x15, x18, x19, x20, x22)) (fun v => R (T24_0 v)) (E24_0 K) := by
  kernel_rfl
theorem S24_0_ok (fuel : Nat) (R : Ev.St → Option Ans) (K : Ev.Ex → Ev.St → Option Ans) (x0 : (List (Int × (Int × (List Int))))) (x1 : (List Int)) (x2 : Int) (x3 : Int) (x4 : Int) (x5 : Int) (x6 : Int) (x7 : Int) (x8 : Int) (x9 : Int) (x10 : Int) (x11 : Int) (x12 : Bool) (x13 : Int) (x14 : Int) (x15 : Int) (x16 : Int) (x17 : Int) (x18 : Int) (x19 : Int) (x20 : (List Int)) (x21 : (List Int)) (x22 : (List Int)) : evalCode tab (G24 fuel) (J24_0 fuel) kp24 fuel (bodyOf 0 Try.f24) (T24_0 (x0, x1, x2, x3, x4, x5, x6, x7, x8, x9, x10, x11, x12, x13, x14, x15, x16, x17, x18, x19, x20, x21, x22)) (lc kp24 9 0 R K) = S_tone_Render_0 fuel (x0, x1, x2, x3, x4, x5, x6, x7, x8, x9, x10, x11, x12, x13, x14, x15, x16, x17, x18, x19, x20, x21, x22) (fun v => R (T24_0 v)) (E24_0 K) :=
  S24_0_okg fuel (F_tone_begun fuel) (F_tone_skipped fuel) (F_tone_rightValues fuel) (F_bitmap_New fuel) (F_tone_cell fuel) (F_tone_near fuel) (F_bitmap_Draw fuel) R K x0 x1 x2 x3 x4 x5 x6 x7 x8 x9 x10 x11 x12 x13 x14 x15 x16 x17 x18 x19 x20 x21 x22
noncomputable def B24_0 (fuel : Nat) : Ev.Blk := fun st K => match canonO (kp24 9) st with
  | some s => (match s with
    | ⟨[(q0, .c (.sl (.pair (.int .i64) (.pair (.int .i64) (.sl (.int .u8)))) x0)), (q1, .c (.sl (.int .i64) x1)), (q2, .c (.ptr q3 q4)), (q5, .c (.ptr q6 q7)), (q8, .c (.ptr q9 q10)), (q11, .c (.ptr q12 q13)), (q14, .c (.int .i64 x2)), (q15, .c (.int .i64 x3))], [(q16, .cells q17 [.int .i64 x4, .int .i64 x5, .int .i64 x6, .int .i64 x7, .int .i64 x8, .int .i64 x9, .int .i64 x10, .int .i64 x11, .bool x12, .int .i64 x13]), (q18, .cells q19 [.int .i64 x14, .int .i64 x15, .own q20]), (q21, .cells q22 [.int .i64 x16, .int .i64 x17, .own q23]), (q24, .cells q25 [.int .i64 x18, .int .i64 x19, .own q26]), (q27, .vec q28 (.int .u8) x20 true), (q29, .vec q30 (.int .u8) x21 true), (q31, .vec q32 (.int .u8) x22 true)], q33, q34⟩ => bif Nat.beq q0 1 && Nat.beq q1 4 && Nat.beq q2 5 && Nat.beq q3 0 && Nat.beq q4 0 && Nat.beq q5 10 && Nat.beq q6 1 && Nat.beq q7 0 && Nat.beq q8 13 && Nat.beq q9 2 && Nat.beq q10 0 && Nat.beq q11 14 && Nat.beq q12 3 && Nat.beq q13 0 && Nat.beq q14 50 && Nat.beq q15 51 && Nat.beq q16 0 && Nat.beq q17 32 && Nat.beq q18 1 && Nat.beq q19 39 && Nat.beq q20 4 && Nat.beq q21 2 && Nat.beq q22 39 && Nat.beq q23 5 && Nat.beq q24 3 && Nat.beq q25 39 && Nat.beq q26 6 && Nat.beq q27 4 && Nat.beq q28 5 && Nat.beq q29 5 && Nat.beq q30 5 && Nat.beq q31 6 && Nat.beq q32 5 && Nat.beq q33 7 && Nat.beq q34 0 then iter (S_tone_Render_0 fuel) fuel (x0, x1, x2, x3, x4, x5, x6, x7, x8, x9, x10, x11, x12, x13, x14, x15, x16, x17, x18, x19, x20, x21, x22) (E24_0 K) else none
    | _ => none)
  | none => none
theorem B24_0_ok (fuel : Nat) (st : Ev.St) (K : Ev.Ex → Ev.St → Option Ans) (r : Ans) (h : B24_0 fuel st K = some r) : evalCode tab (G24 fuel) (J24_0 fuel) kp24 fuel (.block 0 (.loop (bodyOf 0 Try.f24))) st K = some r := by
  unfold B24_0 at h
  split at h
  · rename_i s hs
    split at h
    · skip
      obtain ⟨hb, h⟩ := cond_some' h
      simp only [Bool.and_eq_true, Nat.beq_eq, decide_eq_true_eq] at hb
      obtain ⟨⟨⟨⟨⟨⟨⟨⟨⟨⟨⟨⟨⟨⟨⟨⟨⟨⟨⟨⟨⟨⟨⟨⟨⟨⟨⟨⟨⟨⟨⟨⟨⟨⟨rfl, rfl⟩, rfl⟩, rfl⟩, rfl⟩, rfl⟩, rfl⟩, rfl⟩, rfl⟩, rfl⟩, rfl⟩, rfl⟩, rfl⟩, rfl⟩, rfl⟩, rfl⟩, rfl⟩, rfl⟩, rfl⟩, rfl⟩, rfl⟩, rfl⟩, rfl⟩, rfl⟩, rfl⟩, rfl⟩, rfl⟩, rfl⟩, rfl⟩, rfl⟩, rfl⟩, rfl⟩, rfl⟩, rfl⟩, rfl⟩ := hb
      exact blk_loop (S := T24_0) (ks := E24_0) (step := S_tone_Render_0 fuel) (v := (_, _, _, _, _, _, _, _, _, _, _, _, _, _, _, _, _, _, _, _, _, _, _)) (by kernel_rfl) (by kernel_rfl) (fun R K v => by obtain ⟨x0, x1, x2, x3, x4, x5, x6, x7, x8, x9, x10, x11, x12, x13, x14, x15, x16, x17, x18, x19, x20, x21, x22⟩ := v; exact S24_0_ok fuel R K x0 x1 x2 x3 x4 x5 x6 x7 x8 x9 x10 x11 x12 x13 x14 x15 x16 x17 x18 x19 x20 x21 x22) hs h
    · cases h
  · cases h
noncomputable def J24 (fuel : Nat) (i : Nat) : Option Ev.Blk := Ev.look i [(100002, B24_2 fuel), (100000, B24_0 fuel)]
noncomputable def F_tone_Render (fuel : Nat) (x0 : Int) (x1 : Int) (x2 : Int) (x3 : Int) (x4 : Int) (x5 : Int) (x6 : Int) (x7 : Int) (x8 : Bool) (x9 : Int) (x10 : (List (Int × Int × (List Int)))) (x11 : Int) (x12 : Int) (x13 : (List Int)) (k0 : (Int × Int × Int × (List Int)) → Option Ans) : Option Ans :=
  (F_tone_begun fuel (x0) (x1) (x2) (x3) (x4) (x5) (x6) (x7) (x8) (x9) (x10) (x11) (x12)
    (fun y2 =>
      bif y2 != (0 : Int) then
       k0 ((0 : Int), (0 : Int), y2, [])
      else
       (F_tone_skipped fuel (x0) (x1) (x2) (x3) (x4) (x5) (x6) (x7) (x8) (x9) (x10) (x11) (x12)
         (fun (y7_0, y7_1, y7_2) =>
           (F_tone_rightValues fuel (x0) (x1) (x2) (x3) (x4) (x5) (x6) (x7) (x8) (x9) ((↑x10.length : Int)) (y7_0) (y7_1) (y7_2) (x13)
             (fun y11 =>
               bif !y11 then
                k0 ((0 : Int), (0 : Int), (2 : Int), [])
               else
                (F_bitmap_New fuel (x11) (x12) ((0 : Int))
                  (fun (y16_0, y16_1, y16_2, y16_3) =>
                    (L_tone_Render_0 fuel (x10, x13, x1, (0 : Int), x0, x1, x2, x3, x4, x5, x6, x7, x8, x9, (0 : Int), (0 : Int), y7_0, y7_1, y16_0, y16_1, [], y7_2, y16_3)
                      (fun (b0_0, b0_1, b0_2, b0_3, b0_4, b0_5) =>
                        k0 (b0_2, b0_3, (0 : Int), b0_5)))))))))))
abbrev YF24 : Type := (Int) → (Int) → (Int) → (Int) → (Int) → (Int) → (Int) → (Int) → (Bool) → (Int) → ((List (Int × Int × (List Int)))) → (Int) → (Int) → ((List Int)) → ((Int × Int × Int × (List Int)) → Option Ans) → Option Ans
theorem F24_eqg (fuel : Nat) (f71 : YF71) (f72 : YF72) (f75 : YF75) (f76 : YF76) (f77 : YF77) (f78 : YF78) (f79 : YF79) (x0 : Int) (x1 : Int) (x2 : Int) (x3 : Int) (x4 : Int) (x5 : Int) (x6 : Int) (x7 : Int) (x8 : Bool) (x9 : Int) (x10 : (List (Int × Int × (List Int)))) (x11 : Int) (x12 : Int) (x13 : (List Int)) (k : Ev.Cont) : evalFn tab (Gg24 f71 f72 f75 f76 f77 f78 f79) (J24 fuel) kp24 fuel Try.f24 [.agg [.int .i64 x0, .int .i64 x1, .int .i64 x2, .int .i64 x3, .int .i64 x4, .int .i64 x5, .int .i64 x6, .int .i64 x7, .bool x8, .int .i64 x9], .c (.sl (.pair (.int .i64) (.pair (.int .i64) (.sl (.int .u8)))) x10), .c (.int .i64 x11), .c (.int .i64 x12), .c (.sl (.int .i64) x13)] [] k = (fun  (k0 : (Int × Int × Int × (List Int)) → Option Ans) =>
  (f71 (x0) (x1) (x2) (x3) (x4) (x5) (x6) (x7) (x8) (x9) (x10) (x11) (x12)
    (fun y2 =>
      bif y2 != (0 : Int) then
       k0 ((0 : Int), (0 : Int), y2, [])
      else
       (f72 (x0) (x1) (x2) (x3) (x4) (x5) (x6) (x7) (x8) (x9) (x10) (x11) (x12)
         (fun (y7_0, y7_1, y7_2) =>
           (f75 (x0) (x1) (x2) (x3) (x4) (x5) (x6) (x7) (x8) (x9) ((↑x10.length : Int)) (y7_0) (y7_1) (y7_2) (x13)
             (fun y11 =>
               bif !y11 then
                k0 ((0 : Int), (0 : Int), (2 : Int), [])
               else
                (f76 (x11) (x12) ((0 : Int))
                  (fun (y16_0, y16_1, y16_2, y16_3) =>
                    (L_tone_Render_0 fuel (x10, x13, x1, (0 : Int), x0, x1, x2, x3, x4, x5, x6, x7, x8, x9, (0 : Int), (0 : Int), y7_0, y7_1, y16_0, y16_1, [], y7_2, y16_3)
                      (fun (b0_0, b0_1, b0_2, b0_3, b0_4, b0_5) =>
                        k0 (b0_2, b0_3, (0 : Int), b0_5)))))))))))) (fun r => match r with | (r0, r1, r2, r3) => k (.tup [(true, [.int .i64 r0, .int .i64 r1, .own 0]), (false, [.int .i64 r2])], [.vec 5 (.int .u8) r3 true])) := by
  kernel_rfl
theorem F24_eq (fuel : Nat) (x0 : Int) (x1 : Int) (x2 : Int) (x3 : Int) (x4 : Int) (x5 : Int) (x6 : Int) (x7 : Int) (x8 : Bool) (x9 : Int) (x10 : (List (Int × Int × (List Int)))) (x11 : Int) (x12 : Int) (x13 : (List Int)) (k : Ev.Cont) : evalFn tab (G24 fuel) (J24 fuel) kp24 fuel Try.f24 [.agg [.int .i64 x0, .int .i64 x1, .int .i64 x2, .int .i64 x3, .int .i64 x4, .int .i64 x5, .int .i64 x6, .int .i64 x7, .bool x8, .int .i64 x9], .c (.sl (.pair (.int .i64) (.pair (.int .i64) (.sl (.int .u8)))) x10), .c (.int .i64 x11), .c (.int .i64 x12), .c (.sl (.int .i64) x13)] [] k = F_tone_Render fuel x0 x1 x2 x3 x4 x5 x6 x7 x8 x9 x10 x11 x12 x13 (fun r => match r with | (r0, r1, r2, r3) => k (.tup [(true, [.int .i64 r0, .int .i64 r1, .own 0]), (false, [.int .i64 r2])], [.vec 5 (.int .u8) r3 true])) :=
  F24_eqg fuel (F_tone_begun fuel) (F_tone_skipped fuel) (F_tone_rightValues fuel) (F_bitmap_New fuel) (F_tone_cell fuel) (F_tone_near fuel) (F_bitmap_Draw fuel) x0 x1 x2 x3 x4 x5 x6 x7 x8 x9 x10 x11 x12 x13 k
theorem hG24 (fuel : Nat) : GOK Try.prog (G24 fuel) :=
  gok_cons ⟨ok71 fuel, enters_of Try.func71 (by kernel_rfl) rfl⟩ <|
  gok_cons ⟨ok72 fuel, enters_of Try.func72 (by kernel_rfl) rfl⟩ <|
  gok_cons ⟨ok75 fuel, enters_of Try.func75 (by kernel_rfl) rfl⟩ <|
  gok_cons ⟨ok76 fuel, enters_of Try.func76 (by kernel_rfl) rfl⟩ <|
  gok_cons ⟨ok77 fuel, enters_of Try.func77 (by kernel_rfl) rfl⟩ <|
  gok_cons ⟨ok78 fuel, enters_of Try.func78 (by kernel_rfl) rfl⟩ <|
  gok_cons ⟨ok79 fuel, enters_of Try.func79 (by kernel_rfl) rfl⟩ <|
  gok_nil
theorem B24_2_blk (fuel : Nat) : BlkOK Try.prog Try.f24.ntmps (.block 2 (.loop (bodyOf 2 Try.f24))) (B24_2 fuel) :=
  blk_of (blk_of_code tab_ok (hG24 fuel) mixed (J := J24_2 fuel) (kp := kp24) (fuel := fuel) (by kernel_rfl) (fun q hq => by
    rw [(by kernel_rfl : obl (J24_2 fuel) (.block 2 (.loop (bodyOf 2 Try.f24))) = [])] at hq
    cases hq)) (B24_2_ok fuel)
theorem B24_0_blk (fuel : Nat) : BlkOK Try.prog Try.f24.ntmps (.block 0 (.loop (bodyOf 0 Try.f24))) (B24_0 fuel) :=
  blk_of (blk_of_code tab_ok (hG24 fuel) mixed (J := J24_0 fuel) (kp := kp24) (fuel := fuel) (by kernel_rfl) (fun q hq => by
    rw [(by kernel_rfl : obl (J24_0 fuel) (.block 0 (.loop (bodyOf 0 Try.f24))) = [(.block 2 (.loop (bodyOf 2 Try.f24)), B24_2 fuel)])] at hq
    simp only [List.mem_cons, List.not_mem_nil, or_false] at hq
    subst hq
    · exact B24_2_blk fuel)) (B24_0_ok fuel)
theorem fok24 (fuel : Nat) : FnOK Try.prog 24 (evalFn tab (G24 fuel) (J24 fuel) kp24 fuel Try.f24) :=
  fn_ok tab_ok (hG24 fuel) mixed Try.func24 (c := (Try.f24.body).getD .skip) rfl (fun q hq => by
    rw [(by kernel_rfl : obl (J24 fuel) ((Try.f24.body).getD .skip) = [(.block 0 (.loop (bodyOf 0 Try.f24)), B24_0 fuel)])] at hq
    simp only [List.mem_cons, List.not_mem_nil, or_false] at hq
    subst hq
    · exact B24_0_blk fuel)
noncomputable def mt24 : List Ev.SV → List Ev.Ob → Bool := fun args objs => match args, objs with
  | [.agg [.int .i64 _, .int .i64 _, .int .i64 _, .int .i64 _, .int .i64 _, .int .i64 _, .int .i64 _, .int .i64 _, .bool _, .int .i64 _], .c (.sl (.pair (.int .i64) (.pair (.int .i64) (.sl (.int .u8)))) _), .c (.int .i64 _), .c (.int .i64 _), .c (.sl (.int .i64) _)], [] => true
  | _, _ => false
noncomputable def spg24 (F : YF24) : Ev.Spec := fun args objs k => match args, objs with
  | [.agg [.int .i64 x0, .int .i64 x1, .int .i64 x2, .int .i64 x3, .int .i64 x4, .int .i64 x5, .int .i64 x6, .int .i64 x7, .bool x8, .int .i64 x9], .c (.sl (.pair (.int .i64) (.pair (.int .i64) (.sl (.int .u8)))) x10), .c (.int .i64 x11), .c (.int .i64 x12), .c (.sl (.int .i64) x13)], [] => bif true then F x0 x1 x2 x3 x4 x5 x6 x7 x8 x9 x10 x11 x12 x13 (fun r => match r with | (r0, r1, r2, r3) => k (.tup [(true, [.int .i64 r0, .int .i64 r1, .own 0]), (false, [.int .i64 r2])], [.vec 5 (.int .u8) r3 true])) else none
  | _, _ => none
noncomputable def spec24 (fuel : Nat) : Ev.Spec := spg24 (F_tone_Render fuel)
theorem ok24 (fuel : Nat) : FnOK Try.prog 24 (spec24 fuel) := by
  intro args objs kk r h
  unfold spec24 spg24 at h
  split at h
  · skip
    obtain ⟨hb, h⟩ := cond_some' h
    simp only [Bool.and_eq_true, Nat.beq_eq, decide_eq_true_eq] at hb
    clear hb
    exact fok24 fuel _ _ kk r ((F24_eq fuel _ _ _ _ _ _ _ _ _ _ _ _ _ _ kk).trans h)
  · cases h
end Go.Proofs.Ytihfgpfofmjbaaa

set_option linter.unusedVariables false
set_option linter.unusedSimpArgs false
set_option maxRecDepth 100000
set_option maxHeartbeats 2000000
namespace Go.Proofs.Ytihfgpfofmjbaaa
open Go Ev
def kp22 (i : Nat) : Option (List Nat) := Ev.look i []
noncomputable def Gg22 (f71 : YF71) (f72 : YF72) (f : Nat) : Option Ev.Spec := Ev.look f [(71, spg71 f71), (72, spg72 f72)]
noncomputable def G22 (fuel : Nat) : Nat → Option Ev.Spec := Gg22 (F_tone_begun fuel) (F_tone_skipped fuel)
noncomputable def J22 (fuel : Nat) (i : Nat) : Option Ev.Blk := Ev.look i []
noncomputable def F_tone_Skipped (fuel : Nat) (x0 : Int) (x1 : Int) (x2 : Int) (x3 : Int) (x4 : Int) (x5 : Int) (x6 : Int) (x7 : Int) (x8 : Bool) (x9 : Int) (x10 : (List (Int × Int × (List Int)))) (x11 : Int) (x12 : Int) (k0 : (Int × Int × Int × (List Int)) → Option Ans) : Option Ans :=
  (F_tone_begun fuel (x0) (x1) (x2) (x3) (x4) (x5) (x6) (x7) (x8) (x9) (x10) (x11) (x12)
    (fun y2 =>
      bif y2 != (0 : Int) then
       k0 ((0 : Int), (0 : Int), y2, [])
      else
       (F_tone_skipped fuel (x0) (x1) (x2) (x3) (x4) (x5) (x6) (x7) (x8) (x9) (x10) (x11) (x12)
         (fun (y7_0, y7_1, y7_2) =>
           k0 (y7_0, y7_1, (0 : Int), y7_2)))))
abbrev YF22 : Type := (Int) → (Int) → (Int) → (Int) → (Int) → (Int) → (Int) → (Int) → (Bool) → (Int) → ((List (Int × Int × (List Int)))) → (Int) → (Int) → ((Int × Int × Int × (List Int)) → Option Ans) → Option Ans
theorem F22_eqg (fuel : Nat) (f71 : YF71) (f72 : YF72) (x0 : Int) (x1 : Int) (x2 : Int) (x3 : Int) (x4 : Int) (x5 : Int) (x6 : Int) (x7 : Int) (x8 : Bool) (x9 : Int) (x10 : (List (Int × Int × (List Int)))) (x11 : Int) (x12 : Int) (k : Ev.Cont) : evalFn tab (Gg22 f71 f72) (J22 fuel) kp22 fuel Try.f22 [.agg [.int .i64 x0, .int .i64 x1, .int .i64 x2, .int .i64 x3, .int .i64 x4, .int .i64 x5, .int .i64 x6, .int .i64 x7, .bool x8, .int .i64 x9], .c (.sl (.pair (.int .i64) (.pair (.int .i64) (.sl (.int .u8)))) x10), .c (.int .i64 x11), .c (.int .i64 x12)] [] k = (fun  (k0 : (Int × Int × Int × (List Int)) → Option Ans) =>
  (f71 (x0) (x1) (x2) (x3) (x4) (x5) (x6) (x7) (x8) (x9) (x10) (x11) (x12)
    (fun y2 =>
      bif y2 != (0 : Int) then
       k0 ((0 : Int), (0 : Int), y2, [])
      else
       (f72 (x0) (x1) (x2) (x3) (x4) (x5) (x6) (x7) (x8) (x9) (x10) (x11) (x12)
         (fun (y7_0, y7_1, y7_2) =>
           k0 (y7_0, y7_1, (0 : Int), y7_2)))))) (fun r => match r with | (r0, r1, r2, r3) => k (.tup [(true, [.int .i64 r0, .int .i64 r1, .own 0]), (false, [.int .i64 r2])], [.vec 5 (.int .u8) r3 true])) := by
  kernel_rfl
theorem F22_eq (fuel : Nat) (x0 : Int) (x1 : Int) (x2 : Int) (x3 : Int) (x4 : Int) (x5 : Int) (x6 : Int) (x7 : Int) (x8 : Bool) (x9 : Int) (x10 : (List (Int × Int × (List Int)))) (x11 : Int) (x12 : Int) (k : Ev.Cont) : evalFn tab (G22 fuel) (J22 fuel) kp22 fuel Try.f22 [.agg [.int .i64 x0, .int .i64 x1, .int .i64 x2, .int .i64 x3, .int .i64 x4, .int .i64 x5, .int .i64 x6, .int .i64 x7, .bool x8, .int .i64 x9], .c (.sl (.pair (.int .i64) (.pair (.int .i64) (.sl (.int .u8)))) x10), .c (.int .i64 x11), .c (.int .i64 x12)] [] k = F_tone_Skipped fuel x0 x1 x2 x3 x4 x5 x6 x7 x8 x9 x10 x11 x12 (fun r => match r with | (r0, r1, r2, r3) => k (.tup [(true, [.int .i64 r0, .int .i64 r1, .own 0]), (false, [.int .i64 r2])], [.vec 5 (.int .u8) r3 true])) :=
  F22_eqg fuel (F_tone_begun fuel) (F_tone_skipped fuel) x0 x1 x2 x3 x4 x5 x6 x7 x8 x9 x10 x11 x12 k
theorem hG22 (fuel : Nat) : GOK Try.prog (G22 fuel) :=
  gok_cons ⟨ok71 fuel, enters_of Try.func71 (by kernel_rfl) rfl⟩ <|
  gok_cons ⟨ok72 fuel, enters_of Try.func72 (by kernel_rfl) rfl⟩ <|
  gok_nil
theorem fok22 (fuel : Nat) : FnOK Try.prog 22 (evalFn tab (G22 fuel) (J22 fuel) kp22 fuel Try.f22) :=
  fn_ok tab_ok (hG22 fuel) mixed Try.func22 (c := (Try.f22.body).getD .skip) rfl (fun q hq => by
    rw [(by kernel_rfl : obl (J22 fuel) ((Try.f22.body).getD .skip) = [])] at hq
    cases hq)
noncomputable def mt22 : List Ev.SV → List Ev.Ob → Bool := fun args objs => match args, objs with
  | [.agg [.int .i64 _, .int .i64 _, .int .i64 _, .int .i64 _, .int .i64 _, .int .i64 _, .int .i64 _, .int .i64 _, .bool _, .int .i64 _], .c (.sl (.pair (.int .i64) (.pair (.int .i64) (.sl (.int .u8)))) _), .c (.int .i64 _), .c (.int .i64 _)], [] => true
  | _, _ => false
noncomputable def spg22 (F : YF22) : Ev.Spec := fun args objs k => match args, objs with
  | [.agg [.int .i64 x0, .int .i64 x1, .int .i64 x2, .int .i64 x3, .int .i64 x4, .int .i64 x5, .int .i64 x6, .int .i64 x7, .bool x8, .int .i64 x9], .c (.sl (.pair (.int .i64) (.pair (.int .i64) (.sl (.int .u8)))) x10), .c (.int .i64 x11), .c (.int .i64 x12)], [] => bif true then F x0 x1 x2 x3 x4 x5 x6 x7 x8 x9 x10 x11 x12 (fun r => match r with | (r0, r1, r2, r3) => k (.tup [(true, [.int .i64 r0, .int .i64 r1, .own 0]), (false, [.int .i64 r2])], [.vec 5 (.int .u8) r3 true])) else none
  | _, _ => none
noncomputable def spec22 (fuel : Nat) : Ev.Spec := spg22 (F_tone_Skipped fuel)
theorem ok22 (fuel : Nat) : FnOK Try.prog 22 (spec22 fuel) := by
  intro args objs kk r h
  unfold spec22 spg22 at h
  split at h
  · skip
    obtain ⟨hb, h⟩ := cond_some' h
    simp only [Bool.and_eq_true, Nat.beq_eq, decide_eq_true_eq] at hb
    clear hb
    exact fok22 fuel _ _ kk r ((F22_eq fuel _ _ _ _ _ _ _ _ _ _ _ _ _ kk).trans h)
  · cases h
end Go.Proofs.Ytihfgpfofmjbaaa

set_option linter.unusedVariables false
set_option linter.unusedSimpArgs false
set_option maxRecDepth 100000
set_option maxHeartbeats 2000000
namespace Go.Proofs.Ytihfgpfofmjbaaa
open Go Ev
def kp4 (i : Nat) : Option (List Nat) := Ev.look i []
noncomputable def Gg4 (f20 : YF20) (f21 : YF21) (f22 : YF22) (f23 : YF23) (f24 : YF24) (f25 : YF25) (f26 : YF26) (f : Nat) : Option Ev.Spec := Ev.look f [(20, spg20 f20), (21, spg21 f21), (22, spg22 f22), (23, spg23 f23), (24, spg24 f24), (25, spg25 f25), (26, spg26 f26)]
noncomputable def G4 (fuel : Nat) : Nat → Option Ev.Spec := Gg4 (F_law11_Large fuel) (F_law11_Sane fuel) (F_tone_Skipped fuel) (F_ref11_Skipped fuel) (F_tone_Render fuel) (F_ref11_Render fuel) (F_ref05_Same fuel)
noncomputable def J4 (fuel : Nat) (i : Nat) : Option Ev.Blk := Ev.look i []
noncomputable def F_law11_ToneRenders (fuel : Nat) (x0 : Int) (x1 : Int) (x2 : Int) (x3 : Int) (x4 : Int) (x5 : Int) (x6 : Int) (x7 : Int) (x8 : Bool) (x9 : Int) (x10 : (List (Int × Int × (List Int)))) (x11 : Int) (x12 : Int) (x13 : (List Int)) (k0 : (Bool) → Option Ans) : Option Ans :=
  (F_law11_Large fuel (x0) (x1) (x2) (x3) (x4) (x5) (x6) (x7) (x8) (x9) (x10) (x11) (x12) (x13)
    (fun y2 =>
      bif y2 then
       (F_law11_Sane fuel
         (fun y7 =>
           k0 y7))
      else
       (F_tone_Skipped fuel (x0) (x1) (x2) (x3) (x4) (x5) (x6) (x7) (x8) (x9) (x10) (x11) (x12)
         (fun (y7_0, y7_1, y7_2, y7_3) =>
           (F_ref11_Skipped fuel (x0) (x1) (x2) (x3) (x4) (x5) (x6) (x7) (x8) (x9) (x10) (x11) (x12)
             (fun (y11_0, y11_1, y11_2, y11_3) =>
               (F_tone_Render fuel (x0) (x1) (x2) (x3) (x4) (x5) (x6) (x7) (x8) (x9) (x10) (x11) (x12) (x13)
                 (fun (y15_0, y15_1, y15_2, y15_3) =>
                   (F_ref11_Render fuel (x0) (x1) (x2) (x3) (x4) (x5) (x6) (x7) (x8) (x9) (x10) (x11) (x12) (x13)
                     (fun (y19_0, y19_1, y19_2, y19_3) =>
                       bif y7_2 != y11_2 then
                        k0 Bool.false
                       else
                        bif y15_2 != y19_2 then
                         k0 Bool.false
                        else
                         (F_ref05_Same fuel (y7_0) (y7_1) (y7_3) (y11_0) (y11_1) (y11_3)
                           (fun y25 =>
                             bif !y25 then
                              k0 Bool.false
                             else
                              (F_ref05_Same fuel (y15_0) (y15_1) (y15_3) (y19_0) (y19_1) (y19_3)
                                (fun y30 =>
                                  bif !y30 then
                                   k0 Bool.false
                                  else
                                   bif y15_2 != (0 : Int) then
                                    (F_law11_Sane fuel
                                      (fun y36 =>
                                        k0 y36))
                                   else
                                    bif !x8 then
                                     (F_law11_Sane fuel
                                       (fun y37 =>
                                         k0 y37))
                                    else
                                     (F_tone_Render fuel (x0) (x1) (x2) (x3) (x4) (x5) (x6) (x7) (Bool.false) (x9) (x10) (x11) (x12) (x13)
                                       (fun (y37_0, y37_1, y37_2, y37_3) =>
                                         bif y37_2 == (0 : Int) then
                                          (F_ref05_Same fuel (y37_0) (y37_1) (y37_3) (y15_0) (y15_1) (y15_3)
                                            (fun y42 =>
                                              bif y42 then
                                               (F_law11_Sane fuel
                                                 (fun y47 =>
                                                   k0 y47))
                                              else
                                               k0 Bool.false))
                                         else
                                          k0 Bool.false))))))))))))))))
abbrev YF4 : Type := (Int) → (Int) → (Int) → (Int) → (Int) → (Int) → (Int) → (Int) → (Bool) → (Int) → ((List (Int × Int × (List Int)))) → (Int) → (Int) → ((List Int)) → ((Bool) → Option Ans) → Option Ans
theorem F4_eqg (fuel : Nat) (f20 : YF20) (f21 : YF21) (f22 : YF22) (f23 : YF23) (f24 : YF24) (f25 : YF25) (f26 : YF26) (x0 : Int) (x1 : Int) (x2 : Int) (x3 : Int) (x4 : Int) (x5 : Int) (x6 : Int) (x7 : Int) (x8 : Bool) (x9 : Int) (x10 : (List (Int × Int × (List Int)))) (x11 : Int) (x12 : Int) (x13 : (List Int)) (k : Ev.Cont) : evalFn tab (Gg4 f20 f21 f22 f23 f24 f25 f26) (J4 fuel) kp4 fuel Try.f4 [.agg [.int .i64 x0, .int .i64 x1, .int .i64 x2, .int .i64 x3, .int .i64 x4, .int .i64 x5, .int .i64 x6, .int .i64 x7, .bool x8, .int .i64 x9, .sl (.pair (.int .i64) (.pair (.int .i64) (.sl (.int .u8)))) x10, .int .i64 x11, .int .i64 x12, .sl (.int .i64) x13]] [] k = (fun  (k0 : (Bool) → Option Ans) =>
  (f20 (x0) (x1) (x2) (x3) (x4) (x5) (x6) (x7) (x8) (x9) (x10) (x11) (x12) (x13)
    (fun y2 =>
      bif y2 then
       (f21
         (fun y7 =>
           k0 y7))
      else
       (f22 (x0) (x1) (x2) (x3) (x4) (x5) (x6) (x7) (x8) (x9) (x10) (x11) (x12)
         (fun (y7_0, y7_1, y7_2, y7_3) =>
           (f23 (x0) (x1) (x2) (x3) (x4) (x5) (x6) (x7) (x8) (x9) (x10) (x11) (x12)
             (fun (y11_0, y11_1, y11_2, y11_3) =>
               (f24 (x0) (x1) (x2) (x3) (x4) (x5) (x6) (x7) (x8) (x9) (x10) (x11) (x12) (x13)
                 (fun (y15_0, y15_1, y15_2, y15_3) =>
                   (f25 (x0) (x1) (x2) (x3) (x4) (x5) (x6) (x7) (x8) (x9) (x10) (x11) (x12) (x13)
                     (fun (y19_0, y19_1, y19_2, y19_3) =>
                       bif y7_2 != y11_2 then
                        k0 Bool.false
                       else
                        bif y15_2 != y19_2 then
                         k0 Bool.false
                        else
                         (f26 (y7_0) (y7_1) (y7_3) (y11_0) (y11_1) (y11_3)
                           (fun y25 =>
                             bif !y25 then
                              k0 Bool.false
                             else
                              (f26 (y15_0) (y15_1) (y15_3) (y19_0) (y19_1) (y19_3)
                                (fun y30 =>
                                  bif !y30 then
                                   k0 Bool.false
                                  else
                                   bif y15_2 != (0 : Int) then
                                    (f21
                                      (fun y36 =>
                                        k0 y36))
                                   else
                                    bif !x8 then
                                     (f21
                                       (fun y37 =>
                                         k0 y37))
                                    else
                                     (f24 (x0) (x1) (x2) (x3) (x4) (x5) (x6) (x7) (Bool.false) (x9) (x10) (x11) (x12) (x13)
                                       (fun (y37_0, y37_1, y37_2, y37_3) =>
                                         bif y37_2 == (0 : Int) then
                                          (f26 (y37_0) (y37_1) (y37_3) (y15_0) (y15_1) (y15_3)
                                            (fun y42 =>
                                              bif y42 then
                                               (f21
                                                 (fun y47 =>
                                                   k0 y47))
                                              else
                                               k0 Bool.false))
                                         else
                                          k0 Bool.false))))))))))))))))) (fun r => match r with | r0 => k (.c (.bool r0), [])) := by
  kernel_rfl
theorem F4_eq (fuel : Nat) (x0 : Int) (x1 : Int) (x2 : Int) (x3 : Int) (x4 : Int) (x5 : Int) (x6 : Int) (x7 : Int) (x8 : Bool) (x9 : Int) (x10 : (List (Int × Int × (List Int)))) (x11 : Int) (x12 : Int) (x13 : (List Int)) (k : Ev.Cont) : evalFn tab (G4 fuel) (J4 fuel) kp4 fuel Try.f4 [.agg [.int .i64 x0, .int .i64 x1, .int .i64 x2, .int .i64 x3, .int .i64 x4, .int .i64 x5, .int .i64 x6, .int .i64 x7, .bool x8, .int .i64 x9, .sl (.pair (.int .i64) (.pair (.int .i64) (.sl (.int .u8)))) x10, .int .i64 x11, .int .i64 x12, .sl (.int .i64) x13]] [] k = F_law11_ToneRenders fuel x0 x1 x2 x3 x4 x5 x6 x7 x8 x9 x10 x11 x12 x13 (fun r => match r with | r0 => k (.c (.bool r0), [])) :=
  F4_eqg fuel (F_law11_Large fuel) (F_law11_Sane fuel) (F_tone_Skipped fuel) (F_ref11_Skipped fuel) (F_tone_Render fuel) (F_ref11_Render fuel) (F_ref05_Same fuel) x0 x1 x2 x3 x4 x5 x6 x7 x8 x9 x10 x11 x12 x13 k
theorem hG4 (fuel : Nat) : GOK Try.prog (G4 fuel) :=
  gok_cons ⟨ok20 fuel, enters_of Try.func20 (by kernel_rfl) rfl⟩ <|
  gok_cons ⟨ok21 fuel, enters_of Try.func21 (by kernel_rfl) rfl⟩ <|
  gok_cons ⟨ok22 fuel, enters_of Try.func22 (by kernel_rfl) rfl⟩ <|
  gok_cons ⟨ok23 fuel, enters_of Try.func23 (by kernel_rfl) rfl⟩ <|
  gok_cons ⟨ok24 fuel, enters_of Try.func24 (by kernel_rfl) rfl⟩ <|
  gok_cons ⟨ok25 fuel, enters_of Try.func25 (by kernel_rfl) rfl⟩ <|
  gok_cons ⟨ok26 fuel, enters_of Try.func26 (by kernel_rfl) rfl⟩ <|
  gok_nil
theorem fok4 (fuel : Nat) : FnOK Try.prog 4 (evalFn tab (G4 fuel) (J4 fuel) kp4 fuel Try.f4) :=
  fn_ok tab_ok (hG4 fuel) mixed Try.func4 (c := (Try.f4.body).getD .skip) rfl (fun q hq => by
    rw [(by kernel_rfl : obl (J4 fuel) ((Try.f4.body).getD .skip) = [])] at hq
    cases hq)
noncomputable def mt4 : List Ev.SV → List Ev.Ob → Bool := fun args objs => match args, objs with
  | [.agg [.int .i64 _, .int .i64 _, .int .i64 _, .int .i64 _, .int .i64 _, .int .i64 _, .int .i64 _, .int .i64 _, .bool _, .int .i64 _, .sl (.pair (.int .i64) (.pair (.int .i64) (.sl (.int .u8)))) _, .int .i64 _, .int .i64 _, .sl (.int .i64) _]], [] => true
  | _, _ => false
noncomputable def spg4 (F : YF4) : Ev.Spec := fun args objs k => match args, objs with
  | [.agg [.int .i64 x0, .int .i64 x1, .int .i64 x2, .int .i64 x3, .int .i64 x4, .int .i64 x5, .int .i64 x6, .int .i64 x7, .bool x8, .int .i64 x9, .sl (.pair (.int .i64) (.pair (.int .i64) (.sl (.int .u8)))) x10, .int .i64 x11, .int .i64 x12, .sl (.int .i64) x13]], [] => bif true then F x0 x1 x2 x3 x4 x5 x6 x7 x8 x9 x10 x11 x12 x13 (fun r => match r with | r0 => k (.c (.bool r0), [])) else none
  | _, _ => none
noncomputable def spec4 (fuel : Nat) : Ev.Spec := spg4 (F_law11_ToneRenders fuel)
theorem ok4 (fuel : Nat) : FnOK Try.prog 4 (spec4 fuel) := by
  intro args objs kk r h
  unfold spec4 spg4 at h
  split at h
  · skip
    obtain ⟨hb, h⟩ := cond_some' h
    simp only [Bool.and_eq_true, Nat.beq_eq, decide_eq_true_eq] at hb
    clear hb
    exact fok4 fuel _ _ kk r ((F4_eq fuel _ _ _ _ _ _ _ _ _ _ _ _ _ _ kk).trans h)
  · cases h
end Go.Proofs.Ytihfgpfofmjbaaa

set_option linter.unusedVariables false
set_option linter.unusedSimpArgs false
set_option maxRecDepth 100000
set_option maxHeartbeats 2000000
namespace Go.Proofs.Ytihfgpfofmjbaaa
open Go Ev
def kp88 (i : Nat) : Option (List Nat) := Ev.look i [(200001, [1])]
noncomputable def Gg88 (f : Nat) : Option Ev.Spec := Ev.look f []
noncomputable def G88 (fuel : Nat) : Nat → Option Ev.Spec := Gg88
noncomputable def J88 (fuel : Nat) (i : Nat) : Option Ev.Blk := Ev.look i []
noncomputable def F_generic_Valid (fuel : Nat) (x0 : Int) (x1 : Int) (x2 : Int) (x3 : Bool) (x4 : Int) (k0 : (Bool) → Option Ans) : Option Ans :=
  bif Decidable.decide (x0 ≥ (0 : Int)) then
   bif Decidable.decide (x0 ≤ (3 : Int)) then
    bif x4 == (0 : Int) then
     bif Decidable.decide (x1 ≥ (-8 : Int)) then
      bif Decidable.decide (x1 ≤ (8 : Int)) then
       bif Decidable.decide (x2 ≥ (-8 : Int)) then
        bif Decidable.decide (x2 ≤ (0 : Int)) then
         bif Decidable.decide (x2 < (0 : Int)) then
          k0 Bool.true
         else
          k0 (Decidable.decide (x1 < (0 : Int)))
        else
         k0 Bool.false
       else
        k0 Bool.false
      else
       k0 Bool.false
     else
      k0 Bool.false
    else
     bif x4 == (1 : Int) then
      bif Decidable.decide (x1 ≥ (-8 : Int)) then
       bif Decidable.decide (x1 ≤ (8 : Int)) then
        bif Decidable.decide (x2 ≥ (-8 : Int)) then
         bif Decidable.decide (x2 ≤ (0 : Int)) then
          bif Decidable.decide (x2 < (0 : Int)) then
           k0 Bool.true
          else
           k0 (Decidable.decide (x1 < (0 : Int)))
         else
          k0 Bool.false
        else
         k0 Bool.false
       else
        k0 Bool.false
      else
       k0 Bool.false
     else
      k0 Bool.false
   else
    k0 Bool.false
  else
   k0 Bool.false
abbrev YF88 : Type := (Int) → (Int) → (Int) → (Bool) → (Int) → ((Bool) → Option Ans) → Option Ans
theorem F88_eq (fuel : Nat) (x0 : Int) (x1 : Int) (x2 : Int) (x3 : Bool) (x4 : Int) (k : Ev.Cont) : evalFn tab (G88 fuel) (J88 fuel) kp88 fuel Try.f88 [.agg [.int .i64 x0, .int .i64 x1, .int .i64 x2, .bool x3, .int .i64 x4]] [] k = F_generic_Valid fuel x0 x1 x2 x3 x4 (fun r => match r with | r0 => k (.c (.bool r0), [])) := by
  kernel_rfl
theorem hG88 (fuel : Nat) : GOK Try.prog (G88 fuel) :=
  gok_nil
theorem fok88 (fuel : Nat) : FnOK Try.prog 88 (evalFn tab (G88 fuel) (J88 fuel) kp88 fuel Try.f88) :=
  fn_ok tab_ok (hG88 fuel) mixed Try.func88 (c := (Try.f88.body).getD .skip) rfl (fun q hq => by
    rw [(by kernel_rfl : obl (J88 fuel) ((Try.f88.body).getD .skip) = [])] at hq
    cases hq)
noncomputable def mt88 : List Ev.SV → List Ev.Ob → Bool := fun args objs => match args, objs with
  | [.agg [.int .i64 _, .int .i64 _, .int .i64 _, .bool _, .int .i64 _]], [] => true
  | _, _ => false
noncomputable def spg88 (F : YF88) : Ev.Spec := fun args objs k => match args, objs with
  | [.agg [.int .i64 x0, .int .i64 x1, .int .i64 x2, .bool x3, .int .i64 x4]], [] => bif true then F x0 x1 x2 x3 x4 (fun r => match r with | r0 => k (.c (.bool r0), [])) else none
  | _, _ => none
noncomputable def spec88 (fuel : Nat) : Ev.Spec := spg88 (F_generic_Valid fuel)
theorem ok88 (fuel : Nat) : FnOK Try.prog 88 (spec88 fuel) := by
  intro args objs kk r h
  unfold spec88 spg88 at h
  split at h
  · skip
    obtain ⟨hb, h⟩ := cond_some' h
    simp only [Bool.and_eq_true, Nat.beq_eq, decide_eq_true_eq] at hb
    clear hb
    exact fok88 fuel _ _ kk r ((F88_eq fuel _ _ _ _ _ kk).trans h)
  · cases h
end Go.Proofs.Ytihfgpfofmjbaaa

set_option linter.unusedVariables false
set_option linter.unusedSimpArgs false
set_option maxRecDepth 100000
set_option maxHeartbeats 2000000
namespace Go.Proofs.Ytihfgpfofmjbaaa
open Go Ev
def kp160 (i : Nat) : Option (List Nat) := Ev.look i []
noncomputable def Gg160 (f : Nat) : Option Ev.Spec := Ev.look f []
noncomputable def G160 (fuel : Nat) : Nat → Option Ev.Spec := Gg160
noncomputable def J160 (fuel : Nat) (i : Nat) : Option Ev.Blk := Ev.look i []
noncomputable def F_generic_pixels (fuel : Nat) (x0 : Int) (k0 : ((List (Int × Int))) → Option Ans) : Option Ans :=
  bif x0 == (0 : Int) then
   k0 ([((-1 : Int), (-2 : Int)), ((0 : Int), (-2 : Int)), ((1 : Int), (-2 : Int)), ((-2 : Int), (-1 : Int)), ((-1 : Int), (-1 : Int)), ((0 : Int), (-1 : Int)), ((1 : Int), (-1 : Int)), ((2 : Int), (-1 : Int)), ((-2 : Int), (0 : Int)), ((-1 : Int), (0 : Int))])
  else
   bif x0 == (1 : Int) then
    k0 ([((-1 : Int), (-2 : Int)), ((0 : Int), (-2 : Int)), ((-1 : Int), (-1 : Int)), ((0 : Int), (-1 : Int)), ((1 : Int), (-1 : Int)), ((-2 : Int), (0 : Int)), ((-1 : Int), (0 : Int))])
   else
    bif x0 == (2 : Int) then
     k0 ([((-2 : Int), (-1 : Int)), ((-1 : Int), (-1 : Int)), ((0 : Int), (-1 : Int)), ((1 : Int), (-1 : Int)), ((2 : Int), (-1 : Int)), ((-2 : Int), (0 : Int)), ((-1 : Int), (0 : Int))])
    else
     k0 ([((-1 : Int), (-1 : Int)), ((0 : Int), (-1 : Int)), ((1 : Int), (-1 : Int)), ((-1 : Int), (0 : Int))])
abbrev YF160 : Type := (Int) → (((List (Int × Int))) → Option Ans) → Option Ans
theorem F160_eq (fuel : Nat) (x0 : Int) (k : Ev.Cont) : evalFn tab (G160 fuel) (J160 fuel) kp160 fuel Try.f160 [.c (.int .i64 x0)] [] k = F_generic_pixels fuel x0 (fun r => match r with | r0 => k (.c (.own 0), [.vec 44 (.pair (.int .i64) (.int .i64)) r0 true])) := by
  kernel_rfl
theorem hG160 (fuel : Nat) : GOK Try.prog (G160 fuel) :=
  gok_nil
theorem fok160 (fuel : Nat) : FnOK Try.prog 160 (evalFn tab (G160 fuel) (J160 fuel) kp160 fuel Try.f160) :=
  fn_ok tab_ok (hG160 fuel) mixed Try.func160 (c := (Try.f160.body).getD .skip) rfl (fun q hq => by
    rw [(by kernel_rfl : obl (J160 fuel) ((Try.f160.body).getD .skip) = [])] at hq
    cases hq)
noncomputable def mt160 : List Ev.SV → List Ev.Ob → Bool := fun args objs => match args, objs with
  | [.c (.int .i64 _)], [] => true
  | _, _ => false
noncomputable def spg160 (F : YF160) : Ev.Spec := fun args objs k => match args, objs with
  | [.c (.int .i64 x0)], [] => bif true then F x0 (fun r => match r with | r0 => k (.c (.own 0), [.vec 44 (.pair (.int .i64) (.int .i64)) r0 true])) else none
  | _, _ => none
noncomputable def spec160 (fuel : Nat) : Ev.Spec := spg160 (F_generic_pixels fuel)
theorem ok160 (fuel : Nat) : FnOK Try.prog 160 (spec160 fuel) := by
  intro args objs kk r h
  unfold spec160 spg160 at h
  split at h
  · skip
    obtain ⟨hb, h⟩ := cond_some' h
    simp only [Bool.and_eq_true, Nat.beq_eq, decide_eq_true_eq] at hb
    clear hb
    exact fok160 fuel _ _ kk r ((F160_eq fuel _ kk).trans h)
  · cases h
end Go.Proofs.Ytihfgpfofmjbaaa

set_option linter.unusedVariables false
set_option linter.unusedSimpArgs false
set_option maxRecDepth 100000
set_option maxHeartbeats 2000000
namespace Go.Proofs.Ytihfgpfofmjbaaa
open Go Ev
def kp90 (i : Nat) : Option (List Nat) := Ev.look i []
noncomputable def Gg90 (f160 : YF160) (f : Nat) : Option Ev.Spec := Ev.look f [(160, spg160 f160)]
noncomputable def G90 (fuel : Nat) : Nat → Option Ev.Spec := Gg90 (F_generic_pixels fuel)
noncomputable def J90 (fuel : Nat) (i : Nat) : Option Ev.Blk := Ev.look i []
noncomputable def F_generic_contexts (fuel : Nat) (x0 : Int) (x1 : Int) (x2 : Int) (x3 : Bool) (x4 : Int) (k0 : (Int) → Option Ans) : Option Ans :=
  (F_generic_pixels fuel (x0)
    (fun y2 =>
      k0 (Ev.ishl Go.IntKind.i64 (2 : Int) (↑y2.length : Int))))
abbrev YF90 : Type := (Int) → (Int) → (Int) → (Bool) → (Int) → ((Int) → Option Ans) → Option Ans
theorem F90_eqg (fuel : Nat) (f160 : YF160) (x0 : Int) (x1 : Int) (x2 : Int) (x3 : Bool) (x4 : Int) (k : Ev.Cont) : evalFn tab (Gg90 f160) (J90 fuel) kp90 fuel Try.f90 [.agg [.int .i64 x0, .int .i64 x1, .int .i64 x2, .bool x3, .int .i64 x4]] [] k = (fun  (k0 : (Int) → Option Ans) =>
  (f160 (x0)
    (fun y2 =>
      k0 (Ev.ishl Go.IntKind.i64 (2 : Int) (↑y2.length : Int))))) (fun r => match r with | r0 => k (.c (.int .i64 r0), [])) := by
  kernel_rfl
theorem F90_eq (fuel : Nat) (x0 : Int) (x1 : Int) (x2 : Int) (x3 : Bool) (x4 : Int) (k : Ev.Cont) : evalFn tab (G90 fuel) (J90 fuel) kp90 fuel Try.f90 [.agg [.int .i64 x0, .int .i64 x1, .int .i64 x2, .bool x3, .int .i64 x4]] [] k = F_generic_contexts fuel x0 x1 x2 x3 x4 (fun r => match r with | r0 => k (.c (.int .i64 r0), [])) :=
  F90_eqg fuel (F_generic_pixels fuel) x0 x1 x2 x3 x4 k
theorem hG90 (fuel : Nat) : GOK Try.prog (G90 fuel) :=
  gok_cons ⟨ok160 fuel, enters_of Try.func160 (by kernel_rfl) rfl⟩ <|
  gok_nil
theorem fok90 (fuel : Nat) : FnOK Try.prog 90 (evalFn tab (G90 fuel) (J90 fuel) kp90 fuel Try.f90) :=
  fn_ok tab_ok (hG90 fuel) mixed Try.func90 (c := (Try.f90.body).getD .skip) rfl (fun q hq => by
    rw [(by kernel_rfl : obl (J90 fuel) ((Try.f90.body).getD .skip) = [])] at hq
    cases hq)
noncomputable def mt90 : List Ev.SV → List Ev.Ob → Bool := fun args objs => match args, objs with
  | [.agg [.int .i64 _, .int .i64 _, .int .i64 _, .bool _, .int .i64 _]], [] => true
  | _, _ => false
noncomputable def spg90 (F : YF90) : Ev.Spec := fun args objs k => match args, objs with
  | [.agg [.int .i64 x0, .int .i64 x1, .int .i64 x2, .bool x3, .int .i64 x4]], [] => bif true then F x0 x1 x2 x3 x4 (fun r => match r with | r0 => k (.c (.int .i64 r0), [])) else none
  | _, _ => none
noncomputable def spec90 (fuel : Nat) : Ev.Spec := spg90 (F_generic_contexts fuel)
theorem ok90 (fuel : Nat) : FnOK Try.prog 90 (spec90 fuel) := by
  intro args objs kk r h
  unfold spec90 spg90 at h
  split at h
  · skip
    obtain ⟨hb, h⟩ := cond_some' h
    simp only [Bool.and_eq_true, Nat.beq_eq, decide_eq_true_eq] at hb
    clear hb
    exact fok90 fuel _ _ kk r ((F90_eq fuel _ _ _ _ _ kk).trans h)
  · cases h
end Go.Proofs.Ytihfgpfofmjbaaa

set_option linter.unusedVariables false
set_option linter.unusedSimpArgs false
set_option maxRecDepth 100000
set_option maxHeartbeats 2000000
namespace Go.Proofs.Ytihfgpfofmjbaaa
open Go Ev
def kp84 (i : Nat) : Option (List Nat) := Ev.look i []
noncomputable def Gg84 (f88 : YF88) (f90 : YF90) (f : Nat) : Option Ev.Spec := Ev.look f [(88, spg88 f88), (90, spg90 f90)]
noncomputable def G84 (fuel : Nat) : Nat → Option Ev.Spec := Gg84 (F_generic_Valid fuel) (F_generic_contexts fuel)
noncomputable def J84 (fuel : Nat) (i : Nat) : Option Ev.Blk := Ev.look i []
noncomputable def F_generic_Size (fuel : Nat) (x0 : Int) (x1 : Int) (x2 : Int) (x3 : Bool) (x4 : Int) (k0 : (Int × Int) → Option Ans) : Option Ans :=
  (F_generic_Valid fuel (x0) (x1) (x2) (x3) (x4)
    (fun y2 =>
      bif !y2 then
       k0 ((0 : Int), (2 : Int))
      else
       (F_generic_contexts fuel (x0) (x1) (x2) (x3) (x4)
         (fun y7 =>
           k0 (Go.IntKind.i64.wrap (y7 + (1 : Int)), (0 : Int))))))
abbrev YF84 : Type := (Int) → (Int) → (Int) → (Bool) → (Int) → ((Int × Int) → Option Ans) → Option Ans
theorem F84_eqg (fuel : Nat) (f88 : YF88) (f90 : YF90) (x0 : Int) (x1 : Int) (x2 : Int) (x3 : Bool) (x4 : Int) (k : Ev.Cont) : evalFn tab (Gg84 f88 f90) (J84 fuel) kp84 fuel Try.f84 [.agg [.int .i64 x0, .int .i64 x1, .int .i64 x2, .bool x3, .int .i64 x4]] [] k = (fun  (k0 : (Int × Int) → Option Ans) =>
  (f88 (x0) (x1) (x2) (x3) (x4)
    (fun y2 =>
      bif !y2 then
       k0 ((0 : Int), (2 : Int))
      else
       (f90 (x0) (x1) (x2) (x3) (x4)
         (fun y7 =>
           k0 (Go.IntKind.i64.wrap (y7 + (1 : Int)), (0 : Int))))))) (fun r => match r with | (r0, r1) => k (.tup [(false, [.int .i64 r0]), (false, [.int .i64 r1])], [])) := by
  kernel_rfl
theorem F84_eq (fuel : Nat) (x0 : Int) (x1 : Int) (x2 : Int) (x3 : Bool) (x4 : Int) (k : Ev.Cont) : evalFn tab (G84 fuel) (J84 fuel) kp84 fuel Try.f84 [.agg [.int .i64 x0, .int .i64 x1, .int .i64 x2, .bool x3, .int .i64 x4]] [] k = F_generic_Size fuel x0 x1 x2 x3 x4 (fun r => match r with | (r0, r1) => k (.tup [(false, [.int .i64 r0]), (false, [.int .i64 r1])], [])) :=
  F84_eqg fuel (F_generic_Valid fuel) (F_generic_contexts fuel) x0 x1 x2 x3 x4 k
theorem hG84 (fuel : Nat) : GOK Try.prog (G84 fuel) :=
  gok_cons ⟨ok88 fuel, enters_of Try.func88 (by kernel_rfl) rfl⟩ <|
  gok_cons ⟨ok90 fuel, enters_of Try.func90 (by kernel_rfl) rfl⟩ <|
  gok_nil
theorem fok84 (fuel : Nat) : FnOK Try.prog 84 (evalFn tab (G84 fuel) (J84 fuel) kp84 fuel Try.f84) :=
  fn_ok tab_ok (hG84 fuel) mixed Try.func84 (c := (Try.f84.body).getD .skip) rfl (fun q hq => by
    rw [(by kernel_rfl : obl (J84 fuel) ((Try.f84.body).getD .skip) = [])] at hq
    cases hq)
noncomputable def mt84 : List Ev.SV → List Ev.Ob → Bool := fun args objs => match args, objs with
  | [.agg [.int .i64 _, .int .i64 _, .int .i64 _, .bool _, .int .i64 _]], [] => true
  | _, _ => false
noncomputable def spg84 (F : YF84) : Ev.Spec := fun args objs k => match args, objs with
  | [.agg [.int .i64 x0, .int .i64 x1, .int .i64 x2, .bool x3, .int .i64 x4]], [] => bif true then F x0 x1 x2 x3 x4 (fun r => match r with | (r0, r1) => k (.tup [(false, [.int .i64 r0]), (false, [.int .i64 r1])], [])) else none
  | _, _ => none
noncomputable def spec84 (fuel : Nat) : Ev.Spec := spg84 (F_generic_Size fuel)
theorem ok84 (fuel : Nat) : FnOK Try.prog 84 (spec84 fuel) := by
  intro args objs kk r h
  unfold spec84 spg84 at h
  split at h
  · skip
    obtain ⟨hb, h⟩ := cond_some' h
    simp only [Bool.and_eq_true, Nat.beq_eq, decide_eq_true_eq] at hb
    clear hb
    exact fok84 fuel _ _ kk r ((F84_eq fuel _ _ _ _ _ kk).trans h)
  · cases h
end Go.Proofs.Ytihfgpfofmjbaaa

set_option linter.unusedVariables false
set_option linter.unusedSimpArgs false
set_option maxRecDepth 100000
set_option maxHeartbeats 2000000
namespace Go.Proofs.Ytihfgpfofmjbaaa
open Go Ev
def kp109 (i : Nat) : Option (List Nat) := Ev.look i []
noncomputable def Gg109 (f : Nat) : Option Ev.Spec := Ev.look f []
noncomputable def G109 (fuel : Nat) : Nat → Option Ev.Spec := Gg109
noncomputable def J109 (fuel : Nat) (i : Nat) : Option Ev.Blk := Ev.look i []
noncomputable def F_ref07_Valid (fuel : Nat) (x0 : Int) (x1 : Int) (x2 : Int) (x3 : Bool) (x4 : Int) (k0 : (Bool) → Option Ans) : Option Ans :=
  bif Decidable.decide (x0 < (0 : Int)) then
   k0 Bool.false
  else
   bif Decidable.decide (x0 > (3 : Int)) then
    k0 Bool.false
   else
    bif Decidable.decide (x4 < (0 : Int)) then
     k0 Bool.false
    else
     bif Decidable.decide (x4 > (1 : Int)) then
      k0 Bool.false
     else
      bif Decidable.decide (x1 < (-8 : Int)) then
       k0 Bool.false
      else
       bif Decidable.decide (x1 > (8 : Int)) then
        k0 Bool.false
       else
        bif Decidable.decide (x2 < (-8 : Int)) then
         k0 Bool.false
        else
         bif Decidable.decide (x2 > (0 : Int)) then
          k0 Bool.false
         else
          bif Decidable.decide (x2 < (0 : Int)) then
           k0 Bool.true
          else
           k0 (Decidable.decide (x1 < (0 : Int)))
abbrev YF109 : Type := (Int) → (Int) → (Int) → (Bool) → (Int) → ((Bool) → Option Ans) → Option Ans
theorem F109_eq (fuel : Nat) (x0 : Int) (x1 : Int) (x2 : Int) (x3 : Bool) (x4 : Int) (k : Ev.Cont) : evalFn tab (G109 fuel) (J109 fuel) kp109 fuel Try.f109 [.agg [.int .i64 x0, .int .i64 x1, .int .i64 x2, .bool x3, .int .i64 x4]] [] k = F_ref07_Valid fuel x0 x1 x2 x3 x4 (fun r => match r with | r0 => k (.c (.bool r0), [])) := by
  kernel_rfl
theorem hG109 (fuel : Nat) : GOK Try.prog (G109 fuel) :=
  gok_nil
theorem fok109 (fuel : Nat) : FnOK Try.prog 109 (evalFn tab (G109 fuel) (J109 fuel) kp109 fuel Try.f109) :=
  fn_ok tab_ok (hG109 fuel) mixed Try.func109 (c := (Try.f109.body).getD .skip) rfl (fun q hq => by
    rw [(by kernel_rfl : obl (J109 fuel) ((Try.f109.body).getD .skip) = [])] at hq
    cases hq)
noncomputable def mt109 : List Ev.SV → List Ev.Ob → Bool := fun args objs => match args, objs with
  | [.agg [.int .i64 _, .int .i64 _, .int .i64 _, .bool _, .int .i64 _]], [] => true
  | _, _ => false
noncomputable def spg109 (F : YF109) : Ev.Spec := fun args objs k => match args, objs with
  | [.agg [.int .i64 x0, .int .i64 x1, .int .i64 x2, .bool x3, .int .i64 x4]], [] => bif true then F x0 x1 x2 x3 x4 (fun r => match r with | r0 => k (.c (.bool r0), [])) else none
  | _, _ => none
noncomputable def spec109 (fuel : Nat) : Ev.Spec := spg109 (F_ref07_Valid fuel)
theorem ok109 (fuel : Nat) : FnOK Try.prog 109 (spec109 fuel) := by
  intro args objs kk r h
  unfold spec109 spg109 at h
  split at h
  · skip
    obtain ⟨hb, h⟩ := cond_some' h
    simp only [Bool.and_eq_true, Nat.beq_eq, decide_eq_true_eq] at hb
    clear hb
    exact fok109 fuel _ _ kk r ((F109_eq fuel _ _ _ _ _ kk).trans h)
  · cases h
end Go.Proofs.Ytihfgpfofmjbaaa

set_option linter.unusedVariables false
set_option linter.unusedSimpArgs false
set_option maxRecDepth 100000
set_option maxHeartbeats 2000000
namespace Go.Proofs.Ytihfgpfofmjbaaa
open Go Ev
def kp205 (i : Nat) : Option (List Nat) := Ev.look i []
noncomputable def Gg205 (f : Nat) : Option Ev.Spec := Ev.look f []
noncomputable def G205 (fuel : Nat) : Nat → Option Ev.Spec := Gg205
noncomputable def J205 (fuel : Nat) (i : Nat) : Option Ev.Blk := Ev.look i []
noncomputable def F_ref07_template (fuel : Nat) (x0 : Int) (k0 : ((List (Int × Int))) → Option Ans) : Option Ans :=
  bif x0 == (0 : Int) then
   k0 ([((-1 : Int), (-2 : Int)), ((0 : Int), (-2 : Int)), ((1 : Int), (-2 : Int)), ((-2 : Int), (-1 : Int)), ((-1 : Int), (-1 : Int)), ((0 : Int), (-1 : Int)), ((1 : Int), (-1 : Int)), ((2 : Int), (-1 : Int)), ((-2 : Int), (0 : Int)), ((-1 : Int), (0 : Int))])
  else
   bif x0 == (1 : Int) then
    k0 ([((-1 : Int), (-2 : Int)), ((0 : Int), (-2 : Int)), ((-1 : Int), (-1 : Int)), ((0 : Int), (-1 : Int)), ((1 : Int), (-1 : Int)), ((-2 : Int), (0 : Int)), ((-1 : Int), (0 : Int))])
   else
    bif x0 == (2 : Int) then
     k0 ([((-2 : Int), (-1 : Int)), ((-1 : Int), (-1 : Int)), ((0 : Int), (-1 : Int)), ((1 : Int), (-1 : Int)), ((2 : Int), (-1 : Int)), ((-2 : Int), (0 : Int)), ((-1 : Int), (0 : Int))])
    else
     k0 ([((-1 : Int), (-1 : Int)), ((0 : Int), (-1 : Int)), ((1 : Int), (-1 : Int)), ((-1 : Int), (0 : Int))])
abbrev YF205 : Type := (Int) → (((List (Int × Int))) → Option Ans) → Option Ans
theorem F205_eq (fuel : Nat) (x0 : Int) (k : Ev.Cont) : evalFn tab (G205 fuel) (J205 fuel) kp205 fuel Try.f205 [.c (.int .i64 x0)] [] k = F_ref07_template fuel x0 (fun r => match r with | r0 => k (.c (.own 0), [.vec 223 (.pair (.int .i64) (.int .i64)) r0 true])) := by
  kernel_rfl
theorem hG205 (fuel : Nat) : GOK Try.prog (G205 fuel) :=
  gok_nil
theorem fok205 (fuel : Nat) : FnOK Try.prog 205 (evalFn tab (G205 fuel) (J205 fuel) kp205 fuel Try.f205) :=
  fn_ok tab_ok (hG205 fuel) mixed Try.func205 (c := (Try.f205.body).getD .skip) rfl (fun q hq => by
    rw [(by kernel_rfl : obl (J205 fuel) ((Try.f205.body).getD .skip) = [])] at hq
    cases hq)
noncomputable def mt205 : List Ev.SV → List Ev.Ob → Bool := fun args objs => match args, objs with
  | [.c (.int .i64 _)], [] => true
  | _, _ => false
noncomputable def spg205 (F : YF205) : Ev.Spec := fun args objs k => match args, objs with
  | [.c (.int .i64 x0)], [] => bif true then F x0 (fun r => match r with | r0 => k (.c (.own 0), [.vec 223 (.pair (.int .i64) (.int .i64)) r0 true])) else none
  | _, _ => none
noncomputable def spec205 (fuel : Nat) : Ev.Spec := spg205 (F_ref07_template fuel)
theorem ok205 (fuel : Nat) : FnOK Try.prog 205 (spec205 fuel) := by
  intro args objs kk r h
  unfold spec205 spg205 at h
  split at h
  · skip
    obtain ⟨hb, h⟩ := cond_some' h
    simp only [Bool.and_eq_true, Nat.beq_eq, decide_eq_true_eq] at hb
    clear hb
    exact fok205 fuel _ _ kk r ((F205_eq fuel _ kk).trans h)
  · cases h
end Go.Proofs.Ytihfgpfofmjbaaa

set_option linter.unusedVariables false
set_option linter.unusedSimpArgs false
set_option maxRecDepth 100000
set_option maxHeartbeats 2000000
namespace Go.Proofs.Ytihfgpfofmjbaaa
open Go Ev
def kp180 (i : Nat) : Option (List Nat) := Ev.look i [(200001, [1])]
noncomputable def Gg180 (f205 : YF205) (f : Nat) : Option Ev.Spec := Ev.look f [(205, spg205 f205)]
noncomputable def G180 (fuel : Nat) : Nat → Option Ev.Spec := Gg180 (F_ref07_template fuel)
noncomputable def J180 (fuel : Nat) (i : Nat) : Option Ev.Blk := Ev.look i []
noncomputable def F_ref07_pixels (fuel : Nat) (x0 : Int) (x1 : Int) (x2 : Int) (x3 : Bool) (x4 : Int) (k0 : ((List (Int × Int))) → Option Ans) : Option Ans :=
  both ((F_ref07_template fuel (x0)
      (fun y4 =>
        bif Decidable.decide ((y4.length + [(x1, x2)].length) * (16 : Nat) ≤ (140737488355328 : Nat) ∧ y4.length + [(x1, x2)].length ≤ (140737488355328 : Nat)) then
        k0 (y4 ++ [(x1, x2)])
        else none)))
   (both ((F_ref07_template fuel (x0)
        (fun y6 =>
          bif Decidable.decide ((y6.length + [(x1, x2)].length) * (16 : Nat) ≤ (140737488355328 : Nat) ∧ y6.length + [(x1, x2)].length ≤ (140737488355328 : Nat)) then
          k0 (y6 ++ [(x1, x2)])
          else none)))
     ((F_ref07_template fuel (x0)
        (fun y6 =>
          bif Decidable.decide ((y6.length + [(x1, x2)].length) * (16 : Nat) ≤ (140737488355328 : Nat) ∧ y6.length + [(x1, x2)].length ≤ (140737488355328 : Nat)) then
          k0 (y6 ++ [(x1, x2)])
          else none))))
abbrev YF180 : Type := (Int) → (Int) → (Int) → (Bool) → (Int) → (((List (Int × Int))) → Option Ans) → Option Ans
theorem F180_eqg (fuel : Nat) (f205 : YF205) (x0 : Int) (x1 : Int) (x2 : Int) (x3 : Bool) (x4 : Int) (k : Ev.Cont) : evalFn tab (Gg180 f205) (J180 fuel) kp180 fuel Try.f180 [.agg [.int .i64 x0, .int .i64 x1, .int .i64 x2, .bool x3, .int .i64 x4]] [] k = (fun  (k0 : ((List (Int × Int))) → Option Ans) =>
  both ((f205 (x0)
      (fun y4 =>
        bif Decidable.decide ((y4.length + [(x1, x2)].length) * (16 : Nat) ≤ (140737488355328 : Nat) ∧ y4.length + [(x1, x2)].length ≤ (140737488355328 : Nat)) then
        k0 (y4 ++ [(x1, x2)])
        else none)))
   (both ((f205 (x0)
        (fun y6 =>
          bif Decidable.decide ((y6.length + [(x1, x2)].length) * (16 : Nat) ≤ (140737488355328 : Nat) ∧ y6.length + [(x1, x2)].length ≤ (140737488355328 : Nat)) then
          k0 (y6 ++ [(x1, x2)])
          else none)))
     ((f205 (x0)
        (fun y6 =>
          bif Decidable.decide ((y6.length + [(x1, x2)].length) * (16 : Nat) ≤ (140737488355328 : Nat) ∧ y6.length + [(x1, x2)].length ≤ (140737488355328 : Nat)) then
          k0 (y6 ++ [(x1, x2)])
          else none))))) (fun r => match r with | r0 => k (.c (.own 0), [.vec 223 (.pair (.int .i64) (.int .i64)) r0 true])) := by
  kernel_rfl
theorem F180_eq (fuel : Nat) (x0 : Int) (x1 : Int) (x2 : Int) (x3 : Bool) (x4 : Int) (k : Ev.Cont) : evalFn tab (G180 fuel) (J180 fuel) kp180 fuel Try.f180 [.agg [.int .i64 x0, .int .i64 x1, .int .i64 x2, .bool x3, .int .i64 x4]] [] k = F_ref07_pixels fuel x0 x1 x2 x3 x4 (fun r => match r with | r0 => k (.c (.own 0), [.vec 223 (.pair (.int .i64) (.int .i64)) r0 true])) :=
  F180_eqg fuel (F_ref07_template fuel) x0 x1 x2 x3 x4 k
theorem hG180 (fuel : Nat) : GOK Try.prog (G180 fuel) :=
  gok_cons ⟨ok205 fuel, enters_of Try.func205 (by kernel_rfl) rfl⟩ <|
  gok_nil
theorem fok180 (fuel : Nat) : FnOK Try.prog 180 (evalFn tab (G180 fuel) (J180 fuel) kp180 fuel Try.f180) :=
  fn_ok tab_ok (hG180 fuel) mixed Try.func180 (c := (Try.f180.body).getD .skip) rfl (fun q hq => by
    rw [(by kernel_rfl : obl (J180 fuel) ((Try.f180.body).getD .skip) = [])] at hq
    cases hq)
noncomputable def mt180 : List Ev.SV → List Ev.Ob → Bool := fun args objs => match args, objs with
  | [.agg [.int .i64 _, .int .i64 _, .int .i64 _, .bool _, .int .i64 _]], [] => true
  | _, _ => false
noncomputable def spg180 (F : YF180) : Ev.Spec := fun args objs k => match args, objs with
  | [.agg [.int .i64 x0, .int .i64 x1, .int .i64 x2, .bool x3, .int .i64 x4]], [] => bif true then F x0 x1 x2 x3 x4 (fun r => match r with | r0 => k (.c (.own 0), [.vec 223 (.pair (.int .i64) (.int .i64)) r0 true])) else none
  | _, _ => none
noncomputable def spec180 (fuel : Nat) : Ev.Spec := spg180 (F_ref07_pixels fuel)
theorem ok180 (fuel : Nat) : FnOK Try.prog 180 (spec180 fuel) := by
  intro args objs kk r h
  unfold spec180 spg180 at h
  split at h
  · skip
    obtain ⟨hb, h⟩ := cond_some' h
    simp only [Bool.and_eq_true, Nat.beq_eq, decide_eq_true_eq] at hb
    clear hb
    exact fok180 fuel _ _ kk r ((F180_eq fuel _ _ _ _ _ kk).trans h)
  · cases h
end Go.Proofs.Ytihfgpfofmjbaaa

set_option linter.unusedVariables false
set_option linter.unusedSimpArgs false
set_option maxRecDepth 100000
set_option maxHeartbeats 2000000
namespace Go.Proofs.Ytihfgpfofmjbaaa
open Go Ev
def kp122 (i : Nat) : Option (List Nat) := Ev.look i []
noncomputable def Gg122 (f109 : YF109) (f180 : YF180) (f : Nat) : Option Ev.Spec := Ev.look f [(109, spg109 f109), (180, spg180 f180)]
noncomputable def G122 (fuel : Nat) : Nat → Option Ev.Spec := Gg122 (F_ref07_Valid fuel) (F_ref07_pixels fuel)
noncomputable def J122 (fuel : Nat) (i : Nat) : Option Ev.Blk := Ev.look i []
noncomputable def F_ref07_Size (fuel : Nat) (x0 : Int) (x1 : Int) (x2 : Int) (x3 : Bool) (x4 : Int) (k0 : (Int × Int) → Option Ans) : Option Ans :=
  (F_ref07_Valid fuel (x0) (x1) (x2) (x3) (x4)
    (fun y2 =>
      bif !y2 then
       k0 ((0 : Int), (2 : Int))
      else
       (F_ref07_pixels fuel (x0) (x1) (x2) (x3) (x4)
         (fun y7 =>
           k0 (Go.IntKind.i64.wrap (Ev.ishl Go.IntKind.i64 (1 : Int) (↑y7.length : Int) + (1 : Int)), (0 : Int))))))
abbrev YF122 : Type := (Int) → (Int) → (Int) → (Bool) → (Int) → ((Int × Int) → Option Ans) → Option Ans
theorem F122_eqg (fuel : Nat) (f109 : YF109) (f180 : YF180) (x0 : Int) (x1 : Int) (x2 : Int) (x3 : Bool) (x4 : Int) (k : Ev.Cont) : evalFn tab (Gg122 f109 f180) (J122 fuel) kp122 fuel Try.f122 [.agg [.int .i64 x0, .int .i64 x1, .int .i64 x2, .bool x3, .int .i64 x4]] [] k = (fun  (k0 : (Int × Int) → Option Ans) =>
  (f109 (x0) (x1) (x2) (x3) (x4)
    (fun y2 =>
      bif !y2 then
       k0 ((0 : Int), (2 : Int))
      else
       (f180 (x0) (x1) (x2) (x3) (x4)
         (fun y7 =>
           k0 (Go.IntKind.i64.wrap (Ev.ishl Go.IntKind.i64 (1 : Int) (↑y7.length : Int) + (1 : Int)), (0 : Int))))))) (fun r => match r with | (r0, r1) => k (.tup [(false, [.int .i64 r0]), (false, [.int .i64 r1])], [])) := by
  kernel_rfl
theorem F122_eq (fuel : Nat) (x0 : Int) (x1 : Int) (x2 : Int) (x3 : Bool) (x4 : Int) (k : Ev.Cont) : evalFn tab (G122 fuel) (J122 fuel) kp122 fuel Try.f122 [.agg [.int .i64 x0, .int .i64 x1, .int .i64 x2, .bool x3, .int .i64 x4]] [] k = F_ref07_Size fuel x0 x1 x2 x3 x4 (fun r => match r with | (r0, r1) => k (.tup [(false, [.int .i64 r0]), (false, [.int .i64 r1])], [])) :=
  F122_eqg fuel (F_ref07_Valid fuel) (F_ref07_pixels fuel) x0 x1 x2 x3 x4 k
theorem hG122 (fuel : Nat) : GOK Try.prog (G122 fuel) :=
  gok_cons ⟨ok109 fuel, enters_of Try.func109 (by kernel_rfl) rfl⟩ <|
  gok_cons ⟨ok180 fuel, enters_of Try.func180 (by kernel_rfl) rfl⟩ <|
  gok_nil
theorem fok122 (fuel : Nat) : FnOK Try.prog 122 (evalFn tab (G122 fuel) (J122 fuel) kp122 fuel Try.f122) :=
  fn_ok tab_ok (hG122 fuel) mixed Try.func122 (c := (Try.f122.body).getD .skip) rfl (fun q hq => by
    rw [(by kernel_rfl : obl (J122 fuel) ((Try.f122.body).getD .skip) = [])] at hq
    cases hq)
noncomputable def mt122 : List Ev.SV → List Ev.Ob → Bool := fun args objs => match args, objs with
  | [.agg [.int .i64 _, .int .i64 _, .int .i64 _, .bool _, .int .i64 _]], [] => true
  | _, _ => false
noncomputable def spg122 (F : YF122) : Ev.Spec := fun args objs k => match args, objs with
  | [.agg [.int .i64 x0, .int .i64 x1, .int .i64 x2, .bool x3, .int .i64 x4]], [] => bif true then F x0 x1 x2 x3 x4 (fun r => match r with | (r0, r1) => k (.tup [(false, [.int .i64 r0]), (false, [.int .i64 r1])], [])) else none
  | _, _ => none
noncomputable def spec122 (fuel : Nat) : Ev.Spec := spg122 (F_ref07_Size fuel)
theorem ok122 (fuel : Nat) : FnOK Try.prog 122 (spec122 fuel) := by
  intro args objs kk r h
  unfold spec122 spg122 at h
  split at h
  · skip
    obtain ⟨hb, h⟩ := cond_some' h
    simp only [Bool.and_eq_true, Nat.beq_eq, decide_eq_true_eq] at hb
    clear hb
    exact fok122 fuel _ _ kk r ((F122_eq fuel _ _ _ _ _ kk).trans h)
  · cases h
end Go.Proofs.Ytihfgpfofmjbaaa

set_option linter.unusedVariables false
set_option linter.unusedSimpArgs false
set_option maxRecDepth 100000
set_option maxHeartbeats 2000000
namespace Go.Proofs.Ytihfgpfofmjbaaa
open Go Ev
def kp97 (i : Nat) : Option (List Nat) := Ev.look i [(200001, [3])]
noncomputable def Gg97 (f160 : YF160) (f : Nat) : Option Ev.Spec := Ev.look f [(160, spg160 f160)]
noncomputable def G97 (fuel : Nat) : Nat → Option Ev.Spec := Gg97 (F_generic_pixels fuel)
noncomputable def J97 (fuel : Nat) (i : Nat) : Option Ev.Blk := Ev.look i []
noncomputable def F_generic_newPlane (fuel : Nat) (x0 : Int) (x1 : Int) (x2 : Int) (x3 : Bool) (x4 : Int) (x5 : Int) (x6 : Int) (k0 : (Int × Int × (List Int) × (List (Int × Int))) → Option Ans) : Option Ans :=
  both (bif Decidable.decide ((0 : Int) ≤ Go.IntKind.i64.wrap (x5 * x6) ∧ Go.IntKind.i64.wrap (x5 * x6) = Go.IntKind.i64.wrap (x5 * x6) ∧ (↑(1 : Nat) : Int) * Go.IntKind.i64.wrap (x5 * x6) ≤ (281474976710656 : Int) ∧ Go.IntKind.i64.wrap (x5 * x6) ≤ (281474976710656 : Int)) then
    both ((F_generic_pixels fuel (x0)
         (fun y7 =>
           bif Decidable.decide ((y7.length + [(x1, x2)].length) * (16 : Nat) ≤ (140737488355328 : Nat) ∧ y7.length + [(x1, x2)].length ≤ (140737488355328 : Nat)) then
           k0 (x5, x6, List.replicate (Go.IntKind.i64.wrap (x5 * x6)).toNat (0 : Int), y7 ++ [(x1, x2)])
           else none)))
      ((F_generic_pixels fuel (x0)
         (fun y7 =>
           bif Decidable.decide ((y7.length + [(x1, x2)].length) * (16 : Nat) ≤ (140737488355328 : Nat) ∧ y7.length + [(x1, x2)].length ≤ (140737488355328 : Nat)) then
           k0 (x5, x6, List.replicate (Go.IntKind.i64.wrap (x5 * x6)).toNat (0 : Int), y7 ++ [(x1, x2)])
           else none)))
    else none)
   (both ((F_generic_pixels fuel (x0)
        (fun y6 =>
          both (bif Decidable.decide ((0 : Int) ≤ Go.IntKind.i64.wrap (x5 * x6) ∧ Go.IntKind.i64.wrap (x5 * x6) = Go.IntKind.i64.wrap (x5 * x6) ∧ (↑(1 : Nat) : Int) * Go.IntKind.i64.wrap (x5 * x6) ≤ (281474976710656 : Int) ∧ Go.IntKind.i64.wrap (x5 * x6) ≤ (281474976710656 : Int)) then
            bif Decidable.decide ((y6.length + [(x1, x2)].length) * (16 : Nat) ≤ (140737488355328 : Nat) ∧ y6.length + [(x1, x2)].length ≤ (140737488355328 : Nat)) then
             k0 (x5, x6, List.replicate (Go.IntKind.i64.wrap (x5 * x6)).toNat (0 : Int), y6 ++ [(x1, x2)])
             else none
            else none)
           (both (bif Decidable.decide ((0 : Int) ≤ Go.IntKind.i64.wrap (x5 * x6) ∧ Go.IntKind.i64.wrap (x5 * x6) = Go.IntKind.i64.wrap (x5 * x6) ∧ (↑(1 : Nat) : Int) * Go.IntKind.i64.wrap (x5 * x6) ≤ (281474976710656 : Int) ∧ Go.IntKind.i64.wrap (x5 * x6) ≤ (281474976710656 : Int)) then
              bif Decidable.decide ((y6.length + [(x1, x2)].length) * (16 : Nat) ≤ (140737488355328 : Nat) ∧ y6.length + [(x1, x2)].length ≤ (140737488355328 : Nat)) then
               k0 (x5, x6, List.replicate (Go.IntKind.i64.wrap (x5 * x6)).toNat (0 : Int), y6 ++ [(x1, x2)])
               else none
              else none)
             (bif Decidable.decide ((y6.length + [(x1, x2)].length) * (16 : Nat) ≤ (140737488355328 : Nat) ∧ y6.length + [(x1, x2)].length ≤ (140737488355328 : Nat)) then
              bif Decidable.decide ((0 : Int) ≤ Go.IntKind.i64.wrap (x5 * x6) ∧ Go.IntKind.i64.wrap (x5 * x6) = Go.IntKind.i64.wrap (x5 * x6) ∧ (↑(1 : Nat) : Int) * Go.IntKind.i64.wrap (x5 * x6) ≤ (281474976710656 : Int) ∧ Go.IntKind.i64.wrap (x5 * x6) ≤ (281474976710656 : Int)) then
               k0 (x5, x6, List.replicate (Go.IntKind.i64.wrap (x5 * x6)).toNat (0 : Int), y6 ++ [(x1, x2)])
               else none
              else none)))))
     (both (bif Decidable.decide ((0 : Int) ≤ Go.IntKind.i64.wrap (x5 * x6) ∧ Go.IntKind.i64.wrap (x5 * x6) = Go.IntKind.i64.wrap (x5 * x6) ∧ (↑(1 : Nat) : Int) * Go.IntKind.i64.wrap (x5 * x6) ≤ (281474976710656 : Int) ∧ Go.IntKind.i64.wrap (x5 * x6) ≤ (281474976710656 : Int)) then
        (F_generic_pixels fuel (x0)
           (fun y9 =>
             bif Decidable.decide ((y9.length + [(x1, x2)].length) * (16 : Nat) ≤ (140737488355328 : Nat) ∧ y9.length + [(x1, x2)].length ≤ (140737488355328 : Nat)) then
             k0 (x5, x6, List.replicate (Go.IntKind.i64.wrap (x5 * x6)).toNat (0 : Int), y9 ++ [(x1, x2)])
             else none))
        else none)
       ((F_generic_pixels fuel (x0)
          (fun y8 =>
            both (bif Decidable.decide ((0 : Int) ≤ Go.IntKind.i64.wrap (x5 * x6) ∧ Go.IntKind.i64.wrap (x5 * x6) = Go.IntKind.i64.wrap (x5 * x6) ∧ (↑(1 : Nat) : Int) * Go.IntKind.i64.wrap (x5 * x6) ≤ (281474976710656 : Int) ∧ Go.IntKind.i64.wrap (x5 * x6) ≤ (281474976710656 : Int)) then
              bif Decidable.decide ((y8.length + [(x1, x2)].length) * (16 : Nat) ≤ (140737488355328 : Nat) ∧ y8.length + [(x1, x2)].length ≤ (140737488355328 : Nat)) then
               k0 (x5, x6, List.replicate (Go.IntKind.i64.wrap (x5 * x6)).toNat (0 : Int), y8 ++ [(x1, x2)])
               else none
              else none)
             (bif Decidable.decide ((y8.length + [(x1, x2)].length) * (16 : Nat) ≤ (140737488355328 : Nat) ∧ y8.length + [(x1, x2)].length ≤ (140737488355328 : Nat)) then
              bif Decidable.decide ((0 : Int) ≤ Go.IntKind.i64.wrap (x5 * x6) ∧ Go.IntKind.i64.wrap (x5 * x6) = Go.IntKind.i64.wrap (x5 * x6) ∧ (↑(1 : Nat) : Int) * Go.IntKind.i64.wrap (x5 * x6) ≤ (281474976710656 : Int) ∧ Go.IntKind.i64.wrap (x5 * x6) ≤ (281474976710656 : Int)) then
               k0 (x5, x6, List.replicate (Go.IntKind.i64.wrap (x5 * x6)).toNat (0 : Int), y8 ++ [(x1, x2)])
               else none
              else none))))))
abbrev YF97 : Type := (Int) → (Int) → (Int) → (Bool) → (Int) → (Int) → (Int) → ((Int × Int × (List Int) × (List (Int × Int))) → Option Ans) → Option Ans
theorem F97_eqg (fuel : Nat) (f160 : YF160) (x0 : Int) (x1 : Int) (x2 : Int) (x3 : Bool) (x4 : Int) (x5 : Int) (x6 : Int) (k : Ev.Cont) : evalFn tab (Gg97 f160) (J97 fuel) kp97 fuel Try.f97 [.agg [.int .i64 x0, .int .i64 x1, .int .i64 x2, .bool x3, .int .i64 x4], .c (.int .i64 x5), .c (.int .i64 x6)] [] k = (fun  (k0 : (Int × Int × (List Int) × (List (Int × Int))) → Option Ans) =>
  both (bif Decidable.decide ((0 : Int) ≤ Go.IntKind.i64.wrap (x5 * x6) ∧ Go.IntKind.i64.wrap (x5 * x6) = Go.IntKind.i64.wrap (x5 * x6) ∧ (↑(1 : Nat) : Int) * Go.IntKind.i64.wrap (x5 * x6) ≤ (281474976710656 : Int) ∧ Go.IntKind.i64.wrap (x5 * x6) ≤ (281474976710656 : Int)) then
    both ((f160 (x0)
         (fun y7 =>
           bif Decidable.decide ((y7.length + [(x1, x2)].length) * (16 : Nat) ≤ (140737488355328 : Nat) ∧ y7.length + [(x1, x2)].length ≤ (140737488355328 : Nat)) then
           k0 (x5, x6, List.replicate (Go.IntKind.i64.wrap (x5 * x6)).toNat (0 : Int), y7 ++ [(x1, x2)])
           else none)))
      ((f160 (x0)
         (fun y7 =>
           bif Decidable.decide ((y7.length + [(x1, x2)].length) * (16 : Nat) ≤ (140737488355328 : Nat) ∧ y7.length + [(x1, x2)].length ≤ (140737488355328 : Nat)) then
           k0 (x5, x6, List.replicate (Go.IntKind.i64.wrap (x5 * x6)).toNat (0 : Int), y7 ++ [(x1, x2)])
           else none)))
    else none)
   (both ((f160 (x0)
        (fun y6 =>
          both (bif Decidable.decide ((0 : Int) ≤ Go.IntKind.i64.wrap (x5 * x6) ∧ Go.IntKind.i64.wrap (x5 * x6) = Go.IntKind.i64.wrap (x5 * x6) ∧ (↑(1 : Nat) : Int) * Go.IntKind.i64.wrap (x5 * x6) ≤ (281474976710656 : Int) ∧ Go.IntKind.i64.wrap (x5 * x6) ≤ (281474976710656 : Int)) then
            bif Decidable.decide ((y6.length + [(x1, x2)].length) * (16 : Nat) ≤ (140737488355328 : Nat) ∧ y6.length + [(x1, x2)].length ≤ (140737488355328 : Nat)) then
             k0 (x5, x6, List.replicate (Go.IntKind.i64.wrap (x5 * x6)).toNat (0 : Int), y6 ++ [(x1, x2)])
             else none
            else none)
           (both (bif Decidable.decide ((0 : Int) ≤ Go.IntKind.i64.wrap (x5 * x6) ∧ Go.IntKind.i64.wrap (x5 * x6) = Go.IntKind.i64.wrap (x5 * x6) ∧ (↑(1 : Nat) : Int) * Go.IntKind.i64.wrap (x5 * x6) ≤ (281474976710656 : Int) ∧ Go.IntKind.i64.wrap (x5 * x6) ≤ (281474976710656 : Int)) then
              bif Decidable.decide ((y6.length + [(x1, x2)].length) * (16 : Nat) ≤ (140737488355328 : Nat) ∧ y6.length + [(x1, x2)].length ≤ (140737488355328 : Nat)) then
               k0 (x5, x6, List.replicate (Go.IntKind.i64.wrap (x5 * x6)).toNat (0 : Int), y6 ++ [(x1, x2)])
               else none
              else none)
             (bif Decidable.decide ((y6.length + [(x1, x2)].length) * (16 : Nat) ≤ (140737488355328 : Nat) ∧ y6.length + [(x1, x2)].length ≤ (140737488355328 : Nat)) then
              bif Decidable.decide ((0 : Int) ≤ Go.IntKind.i64.wrap (x5 * x6) ∧ Go.IntKind.i64.wrap (x5 * x6) = Go.IntKind.i64.wrap (x5 * x6) ∧ (↑(1 : Nat) : Int) * Go.IntKind.i64.wrap (x5 * x6) ≤ (281474976710656 : Int) ∧ Go.IntKind.i64.wrap (x5 * x6) ≤ (281474976710656 : Int)) then
               k0 (x5, x6, List.replicate (Go.IntKind.i64.wrap (x5 * x6)).toNat (0 : Int), y6 ++ [(x1, x2)])
               else none
              else none)))))
     (both (bif Decidable.decide ((0 : Int) ≤ Go.IntKind.i64.wrap (x5 * x6) ∧ Go.IntKind.i64.wrap (x5 * x6) = Go.IntKind.i64.wrap (x5 * x6) ∧ (↑(1 : Nat) : Int) * Go.IntKind.i64.wrap (x5 * x6) ≤ (281474976710656 : Int) ∧ Go.IntKind.i64.wrap (x5 * x6) ≤ (281474976710656 : Int)) then
        (f160 (x0)
           (fun y9 =>
             bif Decidable.decide ((y9.length + [(x1, x2)].length) * (16 : Nat) ≤ (140737488355328 : Nat) ∧ y9.length + [(x1, x2)].length ≤ (140737488355328 : Nat)) then
             k0 (x5, x6, List.replicate (Go.IntKind.i64.wrap (x5 * x6)).toNat (0 : Int), y9 ++ [(x1, x2)])
             else none))
        else none)
       ((f160 (x0)
          (fun y8 =>
            both (bif Decidable.decide ((0 : Int) ≤ Go.IntKind.i64.wrap (x5 * x6) ∧ Go.IntKind.i64.wrap (x5 * x6) = Go.IntKind.i64.wrap (x5 * x6) ∧ (↑(1 : Nat) : Int) * Go.IntKind.i64.wrap (x5 * x6) ≤ (281474976710656 : Int) ∧ Go.IntKind.i64.wrap (x5 * x6) ≤ (281474976710656 : Int)) then
              bif Decidable.decide ((y8.length + [(x1, x2)].length) * (16 : Nat) ≤ (140737488355328 : Nat) ∧ y8.length + [(x1, x2)].length ≤ (140737488355328 : Nat)) then
               k0 (x5, x6, List.replicate (Go.IntKind.i64.wrap (x5 * x6)).toNat (0 : Int), y8 ++ [(x1, x2)])
               else none
              else none)
             (bif Decidable.decide ((y8.length + [(x1, x2)].length) * (16 : Nat) ≤ (140737488355328 : Nat) ∧ y8.length + [(x1, x2)].length ≤ (140737488355328 : Nat)) then
              bif Decidable.decide ((0 : Int) ≤ Go.IntKind.i64.wrap (x5 * x6) ∧ Go.IntKind.i64.wrap (x5 * x6) = Go.IntKind.i64.wrap (x5 * x6) ∧ (↑(1 : Nat) : Int) * Go.IntKind.i64.wrap (x5 * x6) ≤ (281474976710656 : Int) ∧ Go.IntKind.i64.wrap (x5 * x6) ≤ (281474976710656 : Int)) then
               k0 (x5, x6, List.replicate (Go.IntKind.i64.wrap (x5 * x6)).toNat (0 : Int), y8 ++ [(x1, x2)])
               else none
              else none))))))) (fun r => match r with | (r0, r1, r2, r3) => k (.c (.ptr 0 0), [.cells 137 [.int .i64 r0, .int .i64 r1, .own 1, .own 2], .vec 5 (.int .u8) r2 true, .vec 44 (.pair (.int .i64) (.int .i64)) r3 true])) := by
  kernel_rfl
theorem F97_eq (fuel : Nat) (x0 : Int) (x1 : Int) (x2 : Int) (x3 : Bool) (x4 : Int) (x5 : Int) (x6 : Int) (k : Ev.Cont) : evalFn tab (G97 fuel) (J97 fuel) kp97 fuel Try.f97 [.agg [.int .i64 x0, .int .i64 x1, .int .i64 x2, .bool x3, .int .i64 x4], .c (.int .i64 x5), .c (.int .i64 x6)] [] k = F_generic_newPlane fuel x0 x1 x2 x3 x4 x5 x6 (fun r => match r with | (r0, r1, r2, r3) => k (.c (.ptr 0 0), [.cells 137 [.int .i64 r0, .int .i64 r1, .own 1, .own 2], .vec 5 (.int .u8) r2 true, .vec 44 (.pair (.int .i64) (.int .i64)) r3 true])) :=
  F97_eqg fuel (F_generic_pixels fuel) x0 x1 x2 x3 x4 x5 x6 k
theorem hG97 (fuel : Nat) : GOK Try.prog (G97 fuel) :=
  gok_cons ⟨ok160 fuel, enters_of Try.func160 (by kernel_rfl) rfl⟩ <|
  gok_nil
theorem fok97 (fuel : Nat) : FnOK Try.prog 97 (evalFn tab (G97 fuel) (J97 fuel) kp97 fuel Try.f97) :=
  fn_ok tab_ok (hG97 fuel) mixed Try.func97 (c := (Try.f97.body).getD .skip) rfl (fun q hq => by
    rw [(by kernel_rfl : obl (J97 fuel) ((Try.f97.body).getD .skip) = [])] at hq
    cases hq)
noncomputable def mt97 : List Ev.SV → List Ev.Ob → Bool := fun args objs => match args, objs with
  | [.agg [.int .i64 _, .int .i64 _, .int .i64 _, .bool _, .int .i64 _], .c (.int .i64 _), .c (.int .i64 _)], [] => true
  | _, _ => false
noncomputable def spg97 (F : YF97) : Ev.Spec := fun args objs k => match args, objs with
  | [.agg [.int .i64 x0, .int .i64 x1, .int .i64 x2, .bool x3, .int .i64 x4], .c (.int .i64 x5), .c (.int .i64 x6)], [] => bif true then F x0 x1 x2 x3 x4 x5 x6 (fun r => match r with | (r0, r1, r2, r3) => k (.c (.ptr 0 0), [.cells 137 [.int .i64 r0, .int .i64 r1, .own 1, .own 2], .vec 5 (.int .u8) r2 true, .vec 44 (.pair (.int .i64) (.int .i64)) r3 true])) else none
  | _, _ => none
noncomputable def spec97 (fuel : Nat) : Ev.Spec := spg97 (F_generic_newPlane fuel)
theorem ok97 (fuel : Nat) : FnOK Try.prog 97 (spec97 fuel) := by
  intro args objs kk r h
  unfold spec97 spg97 at h
  split at h
  · skip
    obtain ⟨hb, h⟩ := cond_some' h
    simp only [Bool.and_eq_true, Nat.beq_eq, decide_eq_true_eq] at hb
    clear hb
    exact fok97 fuel _ _ kk r ((F97_eq fuel _ _ _ _ _ _ _ kk).trans h)
  · cases h
end Go.Proofs.Ytihfgpfofmjbaaa

set_option linter.unusedVariables false
set_option linter.unusedSimpArgs false
set_option maxRecDepth 100000
set_option maxHeartbeats 2000000
namespace Go.Proofs.Ytihfgpfofmjbaaa
open Go Ev
def kp199_a34 (i : Nat) : Option (List Nat) := Ev.look i [(200003, [0])]
noncomputable def Gg199_a34 (f : Nat) : Option Ev.Spec := Ev.look f []
noncomputable def G199_a34 (fuel : Nat) : Nat → Option Ev.Spec := Gg199_a34
noncomputable def J199_a34 (fuel : Nat) (i : Nat) : Option Ev.Blk := Ev.look i []
noncomputable def F_generic_plane_at_a34 (fuel : Nat) (x0 : Int) (x1 : Int) (x2 : Int) (x3 : Int) (x4 : (List Int)) (x5 : (List (Int × Int))) (k0 : (Int × Int × Int × (List Int) × (List (Int × Int))) → Option Ans) : Option Ans :=
  bif Decidable.decide (x0 < (0 : Int)) then
   k0 ((0 : Int), x2, x3, x4, x5)
  else
   bif Decidable.decide (x1 < (0 : Int)) then
    k0 ((0 : Int), x2, x3, x4, x5)
   else
    bif Decidable.decide (x0 ≥ x2) then
     k0 ((0 : Int), x2, x3, x4, x5)
    else
     bif Decidable.decide (x1 ≥ x3) then
      k0 ((0 : Int), x2, x3, x4, x5)
     else
      bif Decidable.decide ((0 : Int) ≤ Go.IntKind.i64.wrap (Go.IntKind.i64.wrap (x1 * x2) + x0) ∧ Go.IntKind.i64.wrap (Go.IntKind.i64.wrap (x1 * x2) + x0) < (↑x4.length : Int)) then
      k0 (x4.getD (Go.IntKind.i64.wrap (Go.IntKind.i64.wrap (x1 * x2) + x0)).toNat (0 : Int), x2, x3, x4, x5)
      else none
abbrev YF199_a34 : Type := (Int) → (Int) → (Int) → (Int) → ((List Int)) → ((List (Int × Int))) → ((Int × Int × Int × (List Int) × (List (Int × Int))) → Option Ans) → Option Ans
theorem F199_a34_eq (fuel : Nat) (x0 : Int) (x1 : Int) (x2 : Int) (x3 : Int) (x4 : (List Int)) (x5 : (List (Int × Int))) (k : Ev.Cont) : evalFn tab (G199_a34 fuel) (J199_a34 fuel) kp199_a34 fuel Try.f199 [.c (.ptr 0 0), .c (.int .i64 x0), .c (.int .i64 x1)] [.cells 137 [.int .i64 x2, .int .i64 x3, .sl (.int .u8) x4, .own 1], .vec 44 (.pair (.int .i64) (.int .i64)) x5 false] k = F_generic_plane_at_a34 fuel x0 x1 x2 x3 x4 x5 (fun r => match r with | (r0, r1, r2, r3, r4) => k (.c (.int .u8 r0), [.cells 137 [.int .i64 r1, .int .i64 r2, .sl (.int .u8) r3, .own 1], .vec 44 (.pair (.int .i64) (.int .i64)) r4 false])) := by
  kernel_rfl
theorem hG199_a34 (fuel : Nat) : GOK Try.prog (G199_a34 fuel) :=
  gok_nil
theorem fok199_a34 (fuel : Nat) : FnOK Try.prog 199 (evalFn tab (G199_a34 fuel) (J199_a34 fuel) kp199_a34 fuel Try.f199) :=
  fn_ok tab_ok (hG199_a34 fuel) mixed Try.func199 (c := (Try.f199.body).getD .skip) rfl (fun q hq => by
    rw [(by kernel_rfl : obl (J199_a34 fuel) ((Try.f199.body).getD .skip) = [])] at hq
    cases hq)
noncomputable def mt199_a34 : List Ev.SV → List Ev.Ob → Bool := fun args objs => match args, objs with
  | [.c (.ptr q0 q1), .c (.int .i64 _), .c (.int .i64 _)], [.cells q2 [.int .i64 _, .int .i64 _, .sl (.int .u8) _, .own q3], .vec q4 (.pair (.int .i64) (.int .i64)) _ false] => Nat.beq q0 0 && Nat.beq q1 0 && Nat.beq q2 137 && Nat.beq q3 1 && Nat.beq q4 44
  | _, _ => false
noncomputable def spg199_a34 (F : YF199_a34) : Ev.Spec := fun args objs k => match args, objs with
  | [.c (.ptr q0 q1), .c (.int .i64 x0), .c (.int .i64 x1)], [.cells q2 [.int .i64 x2, .int .i64 x3, .sl (.int .u8) x4, .own q3], .vec q4 (.pair (.int .i64) (.int .i64)) x5 false] => bif Nat.beq q0 0 && Nat.beq q1 0 && Nat.beq q2 137 && Nat.beq q3 1 && Nat.beq q4 44 then F x0 x1 x2 x3 x4 x5 (fun r => match r with | (r0, r1, r2, r3, r4) => k (.c (.int .u8 r0), [.cells 137 [.int .i64 r1, .int .i64 r2, .sl (.int .u8) r3, .own 1], .vec 44 (.pair (.int .i64) (.int .i64)) r4 false])) else none
  | _, _ => none
noncomputable def spec199_a34 (fuel : Nat) : Ev.Spec := spg199_a34 (F_generic_plane_at_a34 fuel)
theorem ok199_a34 (fuel : Nat) : FnOK Try.prog 199 (spec199_a34 fuel) := by
  intro args objs kk r h
  unfold spec199_a34 spg199_a34 at h
  split at h
  · skip
    obtain ⟨hb, h⟩ := cond_some' h
    simp only [Bool.and_eq_true, Nat.beq_eq, decide_eq_true_eq] at hb
    obtain ⟨⟨⟨⟨rfl, rfl⟩, rfl⟩, rfl⟩, rfl⟩ := hb
    exact fok199_a34 fuel _ _ kk r ((F199_a34_eq fuel _ _ _ _ _ _ kk).trans h)
  · cases h
end Go.Proofs.Ytihfgpfofmjbaaa

set_option linter.unusedVariables false
set_option linter.unusedSimpArgs false
set_option maxRecDepth 100000
set_option maxHeartbeats 2000000
namespace Go.Proofs.Ytihfgpfofmjbaaa
open Go Ev
def kp158_a34 (i : Nat) : Option (List Nat) := Ev.look i [(3, [0, 1, 2, 7, 13, 14, 15]), (100000, [7]), (400000, [6])]
noncomputable def Gg158_a34 (f199_a34 : YF199_a34) (f : Nat) : Option Ev.Spec := Ev.look f [(199, spg199_a34 f199_a34)]
noncomputable def G158_a34 (fuel : Nat) : Nat → Option Ev.Spec := Gg158_a34 (F_generic_plane_at_a34 fuel)
noncomputable def S_generic_plane_context_a34_0 (fuel : Nat) (v : Int × Int × Int × Int × Int × Int × Int × (List Int) × (List (Int × Int))) (c : (Int × Int × Int × Int × Int × Int × Int × (List Int) × (List (Int × Int))) → Option Ans) (B : (Int × Int × Int × (List Int) × (List (Int × Int)) → Option Ans)) : Option Ans := match v, B with
  | (x0, x1, x2, x3, x4, x5, x6, x7, x8), b =>
   bif Decidable.decide (x4 < x3) then
      bif Decidable.decide ((0 : Int) ≤ x4 ∧ x4 < (↑x8.length : Int)) then
      (F_generic_plane_at_a34 fuel (Go.IntKind.i64.wrap (x0 + (x8.getD x4.toNat ((0 : Int), (0 : Int))).fst)) (Go.IntKind.i64.wrap (x1 + (x8.getD x4.toNat ((0 : Int), (0 : Int))).snd)) (x5) (x6) (x7) (x8)
         (fun (y4_0, y4_1, y4_2, y4_3, y4_4) =>
           c (x0, x1, Go.IntKind.i64.wrap (Go.IntKind.i64.wrap ((2 : Int) * x2) + Go.IntKind.i64.wrap y4_0), x3, Go.IntKind.i64.wrap (x4 + (1 : Int)), y4_1, y4_2, y4_3, y4_4)))
      else none
     else
      b (x2, x5, x6, x7, x8)
noncomputable def L_generic_plane_context_a34_0 (fuel : Nat) (v : Int × Int × Int × Int × Int × Int × Int × (List Int) × (List (Int × Int))) (b : (Int × Int × Int × (List Int) × (List (Int × Int)) → Option Ans)) : Option Ans := iter (S_generic_plane_context_a34_0 fuel) fuel v b
noncomputable def J158_a34_0 (fuel : Nat) (i : Nat) : Option Ev.Blk := Ev.look i []
noncomputable def T158_a34_0 (v : Int × Int × Int × Int × Int × Int × Int × (List Int) × (List (Int × Int))) : Ev.St := match v with | (x0, x1, x2, x3, x4, x5, x6, x7, x8) => ⟨[(0, .c (.ptr 0 0)), (1, .c (.int .i64 x0)), (2, .c (.int .i64 x1)), (7, .c (.int .i64 x2)), (13, .c (.own 1)), (14, .c (.int .i64 x3)), (15, .c (.int .i64 x4))], [(0, .cells 137 [.int .i64 x5, .int .i64 x6, .sl (.int .u8) x7, .own 1]), (1, .vec 44 (.pair (.int .i64) (.int .i64)) x8 false)], 2, 2⟩
noncomputable def E158_a34_0 (K : Ev.Ex → Ev.St → Option Ans) : (Int × Int × Int × (List Int) × (List (Int × Int)) → Option Ans) := (fun v => match v with | (x0, x1, x2, x3, x4) => K .normal ⟨[(7, .c (.int .i64 x0))], [(0, .cells 137 [.int .i64 x1, .int .i64 x2, .sl (.int .u8) x3, .own 1]), (1, .vec 44 (.pair (.int .i64) (.int .i64)) x4 false)], 2, 2⟩)
theorem S158_a34_0_okg (fuel : Nat) (f199_a34 : YF199_a34) (R : Ev.St → Option Ans) (K : Ev.Ex → Ev.St → Option Ans) (x0 : Int) (x1 : Int) (x2 : Int) (x3 : Int) (x4 : Int) (x5 : Int) (x6 : Int) (x7 : (List Int)) (x8 : (List (Int × Int))) : evalCode tab (Gg158_a34 f199_a34) (J158_a34_0 fuel) kp158_a34 fuel (bodyOf 0 Try.f158) (T158_a34_0 (x0, x1, x2, x3, x4, x5, x6, x7, x8)) (lc kp158_a34 3 0 R K) = (fun (c : (Int × Int × Int × Int × Int × Int × Int × (List Int) × (List (Int × Int))) → Option Ans) (B : (Int × Int × Int × (List Int) × (List (Int × Int)) → Option Ans)) => match B with
  | b =>
   bif Decidable.decide (x4 < x3) then
      bif Decidable.decide ((0 : Int) ≤ x4 ∧ x4 < (↑x8.length : Int)) then
      (f199_a34 (Go.IntKind.i64.wrap (x0 + (x8.getD x4.toNat ((0 : Int), (0 : Int))).fst)) (Go.IntKind.i64.wrap (x1 + (x8.getD x4.toNat ((0 : Int), (0 : Int))).snd)) (x5) (x6) (x7) (x8)
         (fun (y4_0, y4_1, y4_2, y4_3, y4_4) =>
           c (x0, x1, Go.IntKind.i64.wrap (Go.IntKind.i64.wrap ((2 : Int) * x2) + Go.IntKind.i64.wrap y4_0), x3, Go.IntKind.i64.wrap (x4 + (1 : Int)), y4_1, y4_2, y4_3, y4_4)))
      else none
     else
      b (x2, x5, x6, x7, x8)) (fun v => R (T158_a34_0 v)) (E158_a34_0 K) := by
  kernel_rfl
theorem S158_a34_0_ok (fuel : Nat) (R : Ev.St → Option Ans) (K : Ev.Ex → Ev.St → Option Ans) (x0 : Int) (x1 : Int) (x2 : Int) (x3 : Int) (x4 : Int) (x5 : Int) (x6 : Int) (x7 : (List Int)) (x8 : (List (Int × Int))) : evalCode tab (G158_a34 fuel) (J158_a34_0 fuel) kp158_a34 fuel (bodyOf 0 Try.f158) (T158_a34_0 (x0, x1, x2, x3, x4, x5, x6, x7, x8)) (lc kp158_a34 3 0 R K) = S_generic_plane_context_a34_0 fuel (x0, x1, x2, x3, x4, x5, x6, x7, x8) (fun v => R (T158_a34_0 v)) (E158_a34_0 K) :=
  S158_a34_0_okg fuel (F_generic_plane_at_a34 fuel) R K x0 x1 x2 x3 x4 x5 x6 x7 x8
noncomputable def B158_a34_0 (fuel : Nat) : Ev.Blk := fun st K => match canonO (kp158_a34 3) st with
  | some s => (match s with
    | ⟨[(q0, .c (.ptr q1 q2)), (q3, .c (.int .i64 x0)), (q4, .c (.int .i64 x1)), (q5, .c (.int .i64 x2)), (q6, .c (.own q7)), (q8, .c (.int .i64 x3)), (q9, .c (.int .i64 x4))], [(q10, .cells q11 [.int .i64 x5, .int .i64 x6, .sl (.int .u8) x7, .own q12]), (q13, .vec q14 (.pair (.int .i64) (.int .i64)) x8 false)], q15, q16⟩ => bif Nat.beq q0 0 && Nat.beq q1 0 && Nat.beq q2 0 && Nat.beq q3 1 && Nat.beq q4 2 && Nat.beq q5 7 && Nat.beq q6 13 && Nat.beq q7 1 && Nat.beq q8 14 && Nat.beq q9 15 && Nat.beq q10 0 && Nat.beq q11 137 && Nat.beq q12 1 && Nat.beq q13 1 && Nat.beq q14 44 && Nat.beq q15 2 && Nat.beq q16 2 then iter (S_generic_plane_context_a34_0 fuel) fuel (x0, x1, x2, x3, x4, x5, x6, x7, x8) (E158_a34_0 K) else none
    | _ => none)
  | none => none
theorem B158_a34_0_ok (fuel : Nat) (st : Ev.St) (K : Ev.Ex → Ev.St → Option Ans) (r : Ans) (h : B158_a34_0 fuel st K = some r) : evalCode tab (G158_a34 fuel) (J158_a34_0 fuel) kp158_a34 fuel (.block 0 (.loop (bodyOf 0 Try.f158))) st K = some r := by
  unfold B158_a34_0 at h
  split at h
  · rename_i s hs
    split at h
    · skip
      obtain ⟨hb, h⟩ := cond_some' h
      simp only [Bool.and_eq_true, Nat.beq_eq, decide_eq_true_eq] at hb
      obtain ⟨⟨⟨⟨⟨⟨⟨⟨⟨⟨⟨⟨⟨⟨⟨⟨rfl, rfl⟩, rfl⟩, rfl⟩, rfl⟩, rfl⟩, rfl⟩, rfl⟩, rfl⟩, rfl⟩, rfl⟩, rfl⟩, rfl⟩, rfl⟩, rfl⟩, rfl⟩, rfl⟩ := hb
      exact blk_loop (S := T158_a34_0) (ks := E158_a34_0) (step := S_generic_plane_context_a34_0 fuel) (v := (_, _, _, _, _, _, _, _, _)) (by kernel_rfl) (by kernel_rfl) (fun R K v => by obtain ⟨x0, x1, x2, x3, x4, x5, x6, x7, x8⟩ := v; exact S158_a34_0_ok fuel R K x0 x1 x2 x3 x4 x5 x6 x7 x8) hs h
    · cases h
  · cases h
noncomputable def J158_a34 (fuel : Nat) (i : Nat) : Option Ev.Blk := Ev.look i [(100000, B158_a34_0 fuel)]
noncomputable def F_generic_plane_context_a34 (fuel : Nat) (x0 : Int) (x1 : Int) (x2 : Int) (x3 : Int) (x4 : (List Int)) (x5 : (List (Int × Int))) (k0 : (Int × Int × Int × (List Int) × (List (Int × Int))) → Option Ans) : Option Ans :=
  (L_generic_plane_context_a34_0 fuel (x0, x1, (0 : Int), (↑x5.length : Int), (0 : Int), x2, x3, x4, x5)
    (fun (b0_0, b0_1, b0_2, b0_3, b0_4) =>
      k0 (b0_0, b0_1, b0_2, b0_3, b0_4)))
abbrev YF158_a34 : Type := (Int) → (Int) → (Int) → (Int) → ((List Int)) → ((List (Int × Int))) → ((Int × Int × Int × (List Int) × (List (Int × Int))) → Option Ans) → Option Ans
theorem F158_a34_eqg (fuel : Nat) (f199_a34 : YF199_a34) (x0 : Int) (x1 : Int) (x2 : Int) (x3 : Int) (x4 : (List Int)) (x5 : (List (Int × Int))) (k : Ev.Cont) : evalFn tab (Gg158_a34 f199_a34) (J158_a34 fuel) kp158_a34 fuel Try.f158 [.c (.ptr 0 0), .c (.int .i64 x0), .c (.int .i64 x1)] [.cells 137 [.int .i64 x2, .int .i64 x3, .sl (.int .u8) x4, .own 1], .vec 44 (.pair (.int .i64) (.int .i64)) x5 false] k = (fun  (k0 : (Int × Int × Int × (List Int) × (List (Int × Int))) → Option Ans) =>
  (L_generic_plane_context_a34_0 fuel (x0, x1, (0 : Int), (↑x5.length : Int), (0 : Int), x2, x3, x4, x5)
    (fun (b0_0, b0_1, b0_2, b0_3, b0_4) =>
      k0 (b0_0, b0_1, b0_2, b0_3, b0_4)))) (fun r => match r with | (r0, r1, r2, r3, r4) => k (.c (.int .i64 r0), [.cells 137 [.int .i64 r1, .int .i64 r2, .sl (.int .u8) r3, .own 1], .vec 44 (.pair (.int .i64) (.int .i64)) r4 false])) := by
  kernel_rfl
theorem F158_a34_eq (fuel : Nat) (x0 : Int) (x1 : Int) (x2 : Int) (x3 : Int) (x4 : (List Int)) (x5 : (List (Int × Int))) (k : Ev.Cont) : evalFn tab (G158_a34 fuel) (J158_a34 fuel) kp158_a34 fuel Try.f158 [.c (.ptr 0 0), .c (.int .i64 x0), .c (.int .i64 x1)] [.cells 137 [.int .i64 x2, .int .i64 x3, .sl (.int .u8) x4, .own 1], .vec 44 (.pair (.int .i64) (.int .i64)) x5 false] k = F_generic_plane_context_a34 fuel x0 x1 x2 x3 x4 x5 (fun r => match r with | (r0, r1, r2, r3, r4) => k (.c (.int .i64 r0), [.cells 137 [.int .i64 r1, .int .i64 r2, .sl (.int .u8) r3, .own 1], .vec 44 (.pair (.int .i64) (.int .i64)) r4 false])) :=
  F158_a34_eqg fuel (F_generic_plane_at_a34 fuel) x0 x1 x2 x3 x4 x5 k
theorem hG158_a34 (fuel : Nat) : GOK Try.prog (G158_a34 fuel) :=
  gok_cons ⟨ok199_a34 fuel, enters_of Try.func199 (by kernel_rfl) rfl⟩ <|
  gok_nil
theorem B158_a34_0_blk (fuel : Nat) : BlkOK Try.prog Try.f158.ntmps (.block 0 (.loop (bodyOf 0 Try.f158))) (B158_a34_0 fuel) :=
  blk_of (blk_of_code tab_ok (hG158_a34 fuel) mixed (J := J158_a34_0 fuel) (kp := kp158_a34) (fuel := fuel) (by kernel_rfl) (fun q hq => by
    rw [(by kernel_rfl : obl (J158_a34_0 fuel) (.block 0 (.loop (bodyOf 0 Try.f158))) = [])] at hq
    cases hq)) (B158_a34_0_ok fuel)
theorem fok158_a34 (fuel : Nat) : FnOK Try.prog 158 (evalFn tab (G158_a34 fuel) (J158_a34 fuel) kp158_a34 fuel Try.f158) :=
  fn_ok tab_ok (hG158_a34 fuel) mixed Try.func158 (c := (Try.f158.body).getD .skip) rfl (fun q hq => by
    rw [(by kernel_rfl : obl (J158_a34 fuel) ((Try.f158.body).getD .skip) = [(.block 0 (.loop (bodyOf 0 Try.f158)), B158_a34_0 fuel)])] at hq
    simp only [List.mem_cons, List.not_mem_nil, or_false] at hq
    subst hq
    · exact B158_a34_0_blk fuel)
noncomputable def mt158_a34 : List Ev.SV → List Ev.Ob → Bool := fun args objs => match args, objs with
  | [.c (.ptr q0 q1), .c (.int .i64 _), .c (.int .i64 _)], [.cells q2 [.int .i64 _, .int .i64 _, .sl (.int .u8) _, .own q3], .vec q4 (.pair (.int .i64) (.int .i64)) _ false] => Nat.beq q0 0 && Nat.beq q1 0 && Nat.beq q2 137 && Nat.beq q3 1 && Nat.beq q4 44
  | _, _ => false
noncomputable def spg158_a34 (F : YF158_a34) : Ev.Spec := fun args objs k => match args, objs with
  | [.c (.ptr q0 q1), .c (.int .i64 x0), .c (.int .i64 x1)], [.cells q2 [.int .i64 x2, .int .i64 x3, .sl (.int .u8) x4, .own q3], .vec q4 (.pair (.int .i64) (.int .i64)) x5 false] => bif Nat.beq q0 0 && Nat.beq q1 0 && Nat.beq q2 137 && Nat.beq q3 1 && Nat.beq q4 44 then F x0 x1 x2 x3 x4 x5 (fun r => match r with | (r0, r1, r2, r3, r4) => k (.c (.int .i64 r0), [.cells 137 [.int .i64 r1, .int .i64 r2, .sl (.int .u8) r3, .own 1], .vec 44 (.pair (.int .i64) (.int .i64)) r4 false])) else none
  | _, _ => none
noncomputable def spec158_a34 (fuel : Nat) : Ev.Spec := spg158_a34 (F_generic_plane_context_a34 fuel)
theorem ok158_a34 (fuel : Nat) : FnOK Try.prog 158 (spec158_a34 fuel) := by
  intro args objs kk r h
  unfold spec158_a34 spg158_a34 at h
  split at h
  · skip
    obtain ⟨hb, h⟩ := cond_some' h
    simp only [Bool.and_eq_true, Nat.beq_eq, decide_eq_true_eq] at hb
    obtain ⟨⟨⟨⟨rfl, rfl⟩, rfl⟩, rfl⟩, rfl⟩ := hb
    exact fok158_a34 fuel _ _ kk r ((F158_a34_eq fuel _ _ _ _ _ _ kk).trans h)
  · cases h
end Go.Proofs.Ytihfgpfofmjbaaa

