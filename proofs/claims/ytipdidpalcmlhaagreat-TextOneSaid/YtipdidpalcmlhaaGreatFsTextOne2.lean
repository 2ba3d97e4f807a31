/- What the functions that TextOne reaches do: their typed texts, each with the proof that the machine does it. No condition. -/
import Derived.Test.YtipdidpalcmlhaaGreatEvX
import Derived.Test.YtipdidpalcmlhaaGreatFsTextOne1
set_option linter.unusedVariables false
set_option linter.unusedSimpArgs false
set_option linter.unusedSectionVars false
set_option linter.unusedVariables false
set_option linter.unusedSimpArgs false
set_option maxRecDepth 100000
set_option maxHeartbeats 2000000
namespace Go.Proofs.YtipdidpalcmlhaaGreat
open Go Ev
def kp208_546 (i : Nat) : Option (List Nat) := Ev.look i [(200003, [0])]
noncomputable def Gg208_546 (f246 : YF246) (f : Nat) : Option Ev.Spec := Ev.look f [(246, spg246 f246)]
noncomputable def G208_546 (fuel : Nat) : Nat → Option Ev.Spec := Gg208_546 (F_coder_next fuel)
noncomputable def J208_546 (fuel : Nat) (i : Nat) : Option Ev.Blk := Ev.look i []
noncomputable def F_coder_interval_take_546 (fuel : Nat) (x0 : Int) (x1 : Int) (x2 : Int) (x3 : Int) (x4 : Int) (x5 : Int) (x6 : Bool) (x7 : (List Int)) (x8 : (List Int)) (k0 : (Int × Int × Int × Bool × (List Int) × (List Int)) → Option Ans) : Option Ans :=
  bif x1 == (1 : Int) then
   bif Decidable.decide ((0 : Int) ≤ x0 ∧ x0 < (↑x7.length : Int)) then
   (F_coder_next fuel (x3) (x7.getD x0.toNat (0 : Int)) (x1)
      (fun y4 =>
        bif Decidable.decide ((0 : Int) ≤ x0 ∧ x0 < (↑x7.length : Int)) then
        k0 (x3, x4, x2, x6, x7.set x0.toNat y4, x8)
        else none))
   else none
  else
   bif Decidable.decide ((0 : Int) ≤ x0 ∧ x0 < (↑x7.length : Int)) then
   (F_coder_next fuel (x3) (x7.getD x0.toNat (0 : Int)) (x1)
      (fun y4 =>
        bif Decidable.decide ((0 : Int) ≤ x0 ∧ x0 < (↑x7.length : Int)) then
        k0 (x3, Go.IntKind.u64.wrap (x2 + (1 : Int)), x5, x6, x7.set x0.toNat y4, x8)
        else none))
   else none
abbrev YF208_546 : Type := (Int) → (Int) → (Int) → (Int) → (Int) → (Int) → (Bool) → ((List Int)) → ((List Int)) → ((Int × Int × Int × Bool × (List Int) × (List Int)) → Option Ans) → Option Ans
theorem F208_546_eqg (fuel : Nat) (f246 : YF246) (x0 : Int) (x1 : Int) (x2 : Int) (x3 : Int) (x4 : Int) (x5 : Int) (x6 : Bool) (x7 : (List Int)) (x8 : (List Int)) (k : Ev.Cont) : evalFn tab (Gg208_546 f246) (J208_546 fuel) kp208_546 fuel Tryz.f208 [.c (.ptr 0 0), .c (.int .i64 x0), .c (.int .i64 x1), .c (.int .u64 x2)] [.cells 173 (.int .i64 x3 :: .own 1 :: .int .i64 2048 :: .int .i64 1792 :: .int .i64 1568 :: .int .i64 1372 :: .int .i64 1201 :: .int .i64 1051 :: .int .i64 920 :: .int .i64 805 :: .int .i64 705 :: .int .i64 617 :: .int .i64 540 :: .int .i64 473 :: .int .i64 414 :: .int .i64 363 :: .int .i64 318 :: .int .i64 279 :: .int .i64 245 :: .int .i64 215 :: .int .i64 189 :: .int .i64 166 :: .int .i64 146 :: .int .i64 128 :: .int .i64 112 :: .int .i64 98 :: .int .i64 86 :: .int .i64 76 :: .int .i64 67 :: .int .i64 59 :: .int .i64 52 :: .int .i64 46 :: .int .i64 41 :: .int .i64 36 :: .int .u64 x4 :: .int .u64 x5 :: .own 2 :: .bool x6 :: []), .vec 3 (.int .i64) x7 false, .vec 5 (.int .u8) x8 false] k = (fun  (k0 : (Int × Int × Int × Bool × (List Int) × (List Int)) → Option Ans) =>
  bif x1 == (1 : Int) then
   bif Decidable.decide ((0 : Int) ≤ x0 ∧ x0 < (↑x7.length : Int)) then
   (f246 (x3) (x7.getD x0.toNat (0 : Int)) (x1)
      (fun y4 =>
        bif Decidable.decide ((0 : Int) ≤ x0 ∧ x0 < (↑x7.length : Int)) then
        k0 (x3, x4, x2, x6, x7.set x0.toNat y4, x8)
        else none))
   else none
  else
   bif Decidable.decide ((0 : Int) ≤ x0 ∧ x0 < (↑x7.length : Int)) then
   (f246 (x3) (x7.getD x0.toNat (0 : Int)) (x1)
      (fun y4 =>
        bif Decidable.decide ((0 : Int) ≤ x0 ∧ x0 < (↑x7.length : Int)) then
        k0 (x3, Go.IntKind.u64.wrap (x2 + (1 : Int)), x5, x6, x7.set x0.toNat y4, x8)
        else none))
   else none) (fun r => match r with | (r0, r1, r2, r3, r4, r5) => k (.tup [], [.cells 173 (.int .i64 r0 :: .own 1 :: .int .i64 2048 :: .int .i64 1792 :: .int .i64 1568 :: .int .i64 1372 :: .int .i64 1201 :: .int .i64 1051 :: .int .i64 920 :: .int .i64 805 :: .int .i64 705 :: .int .i64 617 :: .int .i64 540 :: .int .i64 473 :: .int .i64 414 :: .int .i64 363 :: .int .i64 318 :: .int .i64 279 :: .int .i64 245 :: .int .i64 215 :: .int .i64 189 :: .int .i64 166 :: .int .i64 146 :: .int .i64 128 :: .int .i64 112 :: .int .i64 98 :: .int .i64 86 :: .int .i64 76 :: .int .i64 67 :: .int .i64 59 :: .int .i64 52 :: .int .i64 46 :: .int .i64 41 :: .int .i64 36 :: .int .u64 r1 :: .int .u64 r2 :: .own 2 :: .bool r3 :: []), .vec 3 (.int .i64) r4 false, .vec 5 (.int .u8) r5 false])) := by
  kernel_rfl
theorem F208_546_eq (fuel : Nat) (x0 : Int) (x1 : Int) (x2 : Int) (x3 : Int) (x4 : Int) (x5 : Int) (x6 : Bool) (x7 : (List Int)) (x8 : (List Int)) (k : Ev.Cont) : evalFn tab (G208_546 fuel) (J208_546 fuel) kp208_546 fuel Tryz.f208 [.c (.ptr 0 0), .c (.int .i64 x0), .c (.int .i64 x1), .c (.int .u64 x2)] [.cells 173 (.int .i64 x3 :: .own 1 :: .int .i64 2048 :: .int .i64 1792 :: .int .i64 1568 :: .int .i64 1372 :: .int .i64 1201 :: .int .i64 1051 :: .int .i64 920 :: .int .i64 805 :: .int .i64 705 :: .int .i64 617 :: .int .i64 540 :: .int .i64 473 :: .int .i64 414 :: .int .i64 363 :: .int .i64 318 :: .int .i64 279 :: .int .i64 245 :: .int .i64 215 :: .int .i64 189 :: .int .i64 166 :: .int .i64 146 :: .int .i64 128 :: .int .i64 112 :: .int .i64 98 :: .int .i64 86 :: .int .i64 76 :: .int .i64 67 :: .int .i64 59 :: .int .i64 52 :: .int .i64 46 :: .int .i64 41 :: .int .i64 36 :: .int .u64 x4 :: .int .u64 x5 :: .own 2 :: .bool x6 :: []), .vec 3 (.int .i64) x7 false, .vec 5 (.int .u8) x8 false] k = F_coder_interval_take_546 fuel x0 x1 x2 x3 x4 x5 x6 x7 x8 (fun r => match r with | (r0, r1, r2, r3, r4, r5) => k (.tup [], [.cells 173 (.int .i64 r0 :: .own 1 :: .int .i64 2048 :: .int .i64 1792 :: .int .i64 1568 :: .int .i64 1372 :: .int .i64 1201 :: .int .i64 1051 :: .int .i64 920 :: .int .i64 805 :: .int .i64 705 :: .int .i64 617 :: .int .i64 540 :: .int .i64 473 :: .int .i64 414 :: .int .i64 363 :: .int .i64 318 :: .int .i64 279 :: .int .i64 245 :: .int .i64 215 :: .int .i64 189 :: .int .i64 166 :: .int .i64 146 :: .int .i64 128 :: .int .i64 112 :: .int .i64 98 :: .int .i64 86 :: .int .i64 76 :: .int .i64 67 :: .int .i64 59 :: .int .i64 52 :: .int .i64 46 :: .int .i64 41 :: .int .i64 36 :: .int .u64 r1 :: .int .u64 r2 :: .own 2 :: .bool r3 :: []), .vec 3 (.int .i64) r4 false, .vec 5 (.int .u8) r5 false])) :=
  F208_546_eqg fuel (F_coder_next fuel) x0 x1 x2 x3 x4 x5 x6 x7 x8 k
theorem hG208_546 (fuel : Nat) : GOK Tryz.prog (G208_546 fuel) :=
  gok_cons ⟨ok246 fuel, enters_of Tryz.func246 (by kernel_rfl) rfl⟩ <|
  gok_nil
theorem fok208_546 (fuel : Nat) : FnOK Tryz.prog 208 (evalFn tab (G208_546 fuel) (J208_546 fuel) kp208_546 fuel Tryz.f208) :=
  fn_ok tab_ok (hG208_546 fuel) mixed Tryz.func208 (c := (Tryz.f208.body).getD .skip) rfl (fun q hq => by
    rw [(by kernel_rfl : obl (J208_546 fuel) ((Tryz.f208.body).getD .skip) = [])] at hq
    cases hq)
noncomputable def mt208_546 : List Ev.SV → List Ev.Ob → Bool := fun args objs => match args, objs with
  | [.c (.ptr q0 q1), .c (.int .i64 _), .c (.int .i64 _), .c (.int .u64 _)], [.cells q2 cs0, .vec q3 (.int .i64) _ false, .vec q4 (.int .u8) _ false] => (match splitRun 2 [(.i64, 2048), (.i64, 1792), (.i64, 1568), (.i64, 1372), (.i64, 1201), (.i64, 1051), (.i64, 920), (.i64, 805), (.i64, 705), (.i64, 617), (.i64, 540), (.i64, 473), (.i64, 414), (.i64, 363), (.i64, 318), (.i64, 279), (.i64, 245), (.i64, 215), (.i64, 189), (.i64, 166), (.i64, 146), (.i64, 128), (.i64, 112), (.i64, 98), (.i64, 86), (.i64, 76), (.i64, 67), (.i64, 59), (.i64, 52), (.i64, 46), (.i64, 41), (.i64, 36)] cs0 with | some ([.int .i64 _, .own q5], [.int .u64 _, .int .u64 _, .own q6, .bool _]) => Nat.beq q0 0 && Nat.beq q1 0 && Nat.beq q2 173 && Nat.beq q3 3 && Nat.beq q4 5 && Nat.beq q5 1 && Nat.beq q6 2 | _ => false)
  | _, _ => false
noncomputable def spg208_546 (F : YF208_546) : Ev.Spec := fun args objs k => match args, objs with
  | [.c (.ptr q0 q1), .c (.int .i64 x0), .c (.int .i64 x1), .c (.int .u64 x2)], [.cells q2 cs0, .vec q3 (.int .i64) x7 false, .vec q4 (.int .u8) x8 false] => (match splitRun 2 [(.i64, 2048), (.i64, 1792), (.i64, 1568), (.i64, 1372), (.i64, 1201), (.i64, 1051), (.i64, 920), (.i64, 805), (.i64, 705), (.i64, 617), (.i64, 540), (.i64, 473), (.i64, 414), (.i64, 363), (.i64, 318), (.i64, 279), (.i64, 245), (.i64, 215), (.i64, 189), (.i64, 166), (.i64, 146), (.i64, 128), (.i64, 112), (.i64, 98), (.i64, 86), (.i64, 76), (.i64, 67), (.i64, 59), (.i64, 52), (.i64, 46), (.i64, 41), (.i64, 36)] cs0 with | some ([.int .i64 x3, .own q5], [.int .u64 x4, .int .u64 x5, .own q6, .bool x6]) => bif Nat.beq q0 0 && Nat.beq q1 0 && Nat.beq q2 173 && Nat.beq q3 3 && Nat.beq q4 5 && Nat.beq q5 1 && Nat.beq q6 2 then F x0 x1 x2 x3 x4 x5 x6 x7 x8 (fun r => match r with | (r0, r1, r2, r3, r4, r5) => k (.tup [], [.cells 173 (.int .i64 r0 :: .own 1 :: .int .i64 2048 :: .int .i64 1792 :: .int .i64 1568 :: .int .i64 1372 :: .int .i64 1201 :: .int .i64 1051 :: .int .i64 920 :: .int .i64 805 :: .int .i64 705 :: .int .i64 617 :: .int .i64 540 :: .int .i64 473 :: .int .i64 414 :: .int .i64 363 :: .int .i64 318 :: .int .i64 279 :: .int .i64 245 :: .int .i64 215 :: .int .i64 189 :: .int .i64 166 :: .int .i64 146 :: .int .i64 128 :: .int .i64 112 :: .int .i64 98 :: .int .i64 86 :: .int .i64 76 :: .int .i64 67 :: .int .i64 59 :: .int .i64 52 :: .int .i64 46 :: .int .i64 41 :: .int .i64 36 :: .int .u64 r1 :: .int .u64 r2 :: .own 2 :: .bool r3 :: []), .vec 3 (.int .i64) r4 false, .vec 5 (.int .u8) r5 false])) else none | _ => none)
  | _, _ => none
noncomputable def spec208_546 (fuel : Nat) : Ev.Spec := spg208_546 (F_coder_interval_take_546 fuel)
theorem ok208_546 (fuel : Nat) : FnOK Tryz.prog 208 (spec208_546 fuel) := by
  intro args objs kk r h
  unfold spec208_546 spg208_546 at h
  split at h
  · skip
    split at h
    rotate_left 1
    · cases h
    rename_i hsp
    have esp := splitRun_eq hsp
    subst esp
    obtain ⟨hb, h⟩ := cond_some' h
    simp only [Bool.and_eq_true, Nat.beq_eq, decide_eq_true_eq] at hb
    obtain ⟨⟨⟨⟨⟨⟨rfl, rfl⟩, rfl⟩, rfl⟩, rfl⟩, rfl⟩, rfl⟩ := hb
    exact fok208_546 fuel _ _ kk r ((F208_546_eq fuel _ _ _ _ _ _ _ _ _ kk).trans h)
  · cases h
end Go.Proofs.YtipdidpalcmlhaaGreat

set_option linter.unusedVariables false
set_option linter.unusedSimpArgs false
set_option maxRecDepth 100000
set_option maxHeartbeats 2000000
namespace Go.Proofs.YtipdidpalcmlhaaGreat
open Go Ev
def kp121_cf0 (i : Nat) : Option (List Nat) := Ev.look i [(6, [0, 1000002]), (100001, []), (400001, [6]), (600000, [])]
noncomputable def Gg121_cf0 (f128_a20 : YF128_a20) (f208_546 : YF208_546) (f209_402 : YF209_402) (f210_a20 : YF210_a20) (f211_a20 : YF211_a20) (f : Nat) : Option Ev.Spec := Ev.look f [(128, spg128_a20 f128_a20), (208, spg208_546 f208_546), (209, spg209_402 f209_402), (210, spg210_a20 f210_a20), (211, spg211_a20 f211_a20)]
noncomputable def G121_cf0 (fuel : Nat) : Nat → Option Ev.Spec := Gg121_cf0 (F_coder_Encoder_none_a20 fuel) (F_coder_interval_take_546 fuel) (F_coder_interval_mid_402 fuel) (F_coder_interval_same_a20 fuel) (F_coder_interval_lose_a20 fuel)
noncomputable def S_coder_Encoder_Put_cf0_1 (fuel : Nat) (v : Int × Int × Int × Bool × (List Int) × (List Int)) (c : (Int × Int × Int × Bool × (List Int) × (List Int)) → Option Ans) (B : (Int × Int × Int × Bool × (List Int) × (List Int) → Option Ans)) : Option Ans := match v, B with
  | (x0, x1, x2, x3, x4, x5), b =>
   (F_coder_interval_same_a20 fuel (x0) (x1) (x2) (x3) (x4) (x5)
       (fun (y2_0, y2_1, y2_2, y2_3, y2_4, y2_5, y2_6) =>
         bif y2_0 then
          both ((F_coder_interval_lose_a20 fuel (y2_1) (y2_2) (y2_3) (y2_4) (y2_5) (y2_6)
              (fun (y9_0, y9_1, y9_2, y9_3, y9_4, y9_5, y9_6) =>
                bif Decidable.decide ((y9_6.length + [y9_0].length) * (1 : Nat) ≤ (140737488355328 : Nat) ∧ y9_6.length + [y9_0].length ≤ (140737488355328 : Nat)) then
                c (y9_1, y9_2, y9_3, y9_4, y9_5, y9_6 ++ [y9_0])
                else none)))
           ((F_coder_interval_lose_a20 fuel (y2_1) (y2_2) (y2_3) (y2_4) (y2_5) (y2_6)
              (fun (y9_0, y9_1, y9_2, y9_3, y9_4, y9_5, y9_6) =>
                both (bif Decidable.decide ((y9_6.length + [y9_0].length) * (1 : Nat) ≤ (140737488355328 : Nat) ∧ y9_6.length + [y9_0].length ≤ (140737488355328 : Nat)) then
                  c (y9_1, y9_2, y9_3, y9_4, y9_5, y9_6 ++ [y9_0])
                  else none)
                 (bif Decidable.decide ((y9_6.length + [y9_0].length) * (1 : Nat) ≤ (140737488355328 : Nat) ∧ y9_6.length + [y9_0].length ≤ (140737488355328 : Nat)) then
                  c (y9_1, y9_2, y9_3, y9_4, y9_5, y9_6 ++ [y9_0])
                  else none))))
         else
          b (y2_1, y2_2, y2_3, y2_4, y2_5, y2_6)))
noncomputable def L_coder_Encoder_Put_cf0_1 (fuel : Nat) (v : Int × Int × Int × Bool × (List Int) × (List Int)) (b : (Int × Int × Int × Bool × (List Int) × (List Int) → Option Ans)) : Option Ans := iter (S_coder_Encoder_Put_cf0_1 fuel) fuel v b
noncomputable def J121_cf0_1 (fuel : Nat) (i : Nat) : Option Ev.Blk := Ev.look i []
noncomputable def T121_cf0_1 (v : Int × Int × Int × Bool × (List Int) × (List Int)) : Ev.St := match v with | (x0, x1, x2, x3, x4, x5) => ⟨[(0, .c (.ptr 0 0))], [(0, .cells 173 (.int .i64 x0 :: .own 1 :: .int .i64 2048 :: .int .i64 1792 :: .int .i64 1568 :: .int .i64 1372 :: .int .i64 1201 :: .int .i64 1051 :: .int .i64 920 :: .int .i64 805 :: .int .i64 705 :: .int .i64 617 :: .int .i64 540 :: .int .i64 473 :: .int .i64 414 :: .int .i64 363 :: .int .i64 318 :: .int .i64 279 :: .int .i64 245 :: .int .i64 215 :: .int .i64 189 :: .int .i64 166 :: .int .i64 146 :: .int .i64 128 :: .int .i64 112 :: .int .i64 98 :: .int .i64 86 :: .int .i64 76 :: .int .i64 67 :: .int .i64 59 :: .int .i64 52 :: .int .i64 46 :: .int .i64 41 :: .int .i64 36 :: .int .u64 x1 :: .int .u64 x2 :: .own 2 :: .bool x3 :: [])), (1, .vec 3 (.int .i64) x4 false), (2, .vec 5 (.int .u8) x5 true)], 3, 3⟩
noncomputable def E121_cf0_1 (K : Ev.Ex → Ev.St → Option Ans) : (Int × Int × Int × Bool × (List Int) × (List Int) → Option Ans) := (fun v => match v with | (x0, x1, x2, x3, x4, x5) => K .normal ⟨[], [(0, .cells 173 (.int .i64 x0 :: .own 1 :: .int .i64 2048 :: .int .i64 1792 :: .int .i64 1568 :: .int .i64 1372 :: .int .i64 1201 :: .int .i64 1051 :: .int .i64 920 :: .int .i64 805 :: .int .i64 705 :: .int .i64 617 :: .int .i64 540 :: .int .i64 473 :: .int .i64 414 :: .int .i64 363 :: .int .i64 318 :: .int .i64 279 :: .int .i64 245 :: .int .i64 215 :: .int .i64 189 :: .int .i64 166 :: .int .i64 146 :: .int .i64 128 :: .int .i64 112 :: .int .i64 98 :: .int .i64 86 :: .int .i64 76 :: .int .i64 67 :: .int .i64 59 :: .int .i64 52 :: .int .i64 46 :: .int .i64 41 :: .int .i64 36 :: .int .u64 x1 :: .int .u64 x2 :: .own 2 :: .bool x3 :: [])), (1, .vec 3 (.int .i64) x4 false), (2, .vec 5 (.int .u8) x5 true)], 3, 3⟩)
theorem S121_cf0_1_okg (fuel : Nat) (f128_a20 : YF128_a20) (f208_546 : YF208_546) (f209_402 : YF209_402) (f210_a20 : YF210_a20) (f211_a20 : YF211_a20) (R : Ev.St → Option Ans) (K : Ev.Ex → Ev.St → Option Ans) (x0 : Int) (x1 : Int) (x2 : Int) (x3 : Bool) (x4 : (List Int)) (x5 : (List Int)) : evalCode tab (Gg121_cf0 f128_a20 f208_546 f209_402 f210_a20 f211_a20) (J121_cf0_1 fuel) kp121_cf0 fuel (bodyOf 1 Tryz.f121) (T121_cf0_1 (x0, x1, x2, x3, x4, x5)) (lc kp121_cf0 6 1 R K) = (fun (c : (Int × Int × Int × Bool × (List Int) × (List Int)) → Option Ans) (B : (Int × Int × Int × Bool × (List Int) × (List Int) → Option Ans)) => match B with
  | b =>
   (f210_a20 (x0) (x1) (x2) (x3) (x4) (x5)
       (fun (y2_0, y2_1, y2_2, y2_3, y2_4, y2_5, y2_6) =>
         bif y2_0 then
          both ((f211_a20 (y2_1) (y2_2) (y2_3) (y2_4) (y2_5) (y2_6)
              (fun (y9_0, y9_1, y9_2, y9_3, y9_4, y9_5, y9_6) =>
                bif Decidable.decide ((y9_6.length + [y9_0].length) * (1 : Nat) ≤ (140737488355328 : Nat) ∧ y9_6.length + [y9_0].length ≤ (140737488355328 : Nat)) then
                c (y9_1, y9_2, y9_3, y9_4, y9_5, y9_6 ++ [y9_0])
                else none)))
           ((f211_a20 (y2_1) (y2_2) (y2_3) (y2_4) (y2_5) (y2_6)
              (fun (y9_0, y9_1, y9_2, y9_3, y9_4, y9_5, y9_6) =>
                both (bif Decidable.decide ((y9_6.length + [y9_0].length) * (1 : Nat) ≤ (140737488355328 : Nat) ∧ y9_6.length + [y9_0].length ≤ (140737488355328 : Nat)) then
                  c (y9_1, y9_2, y9_3, y9_4, y9_5, y9_6 ++ [y9_0])
                  else none)
                 (bif Decidable.decide ((y9_6.length + [y9_0].length) * (1 : Nat) ≤ (140737488355328 : Nat) ∧ y9_6.length + [y9_0].length ≤ (140737488355328 : Nat)) then
                  c (y9_1, y9_2, y9_3, y9_4, y9_5, y9_6 ++ [y9_0])
                  else none))))
         else
          b (y2_1, y2_2, y2_3, y2_4, y2_5, y2_6)))) (fun v => R (T121_cf0_1 v)) (E121_cf0_1 K) := by
  kernel_rfl
theorem S121_cf0_1_ok (fuel : Nat) (R : Ev.St → Option Ans) (K : Ev.Ex → Ev.St → Option Ans) (x0 : Int) (x1 : Int) (x2 : Int) (x3 : Bool) (x4 : (List Int)) (x5 : (List Int)) : evalCode tab (G121_cf0 fuel) (J121_cf0_1 fuel) kp121_cf0 fuel (bodyOf 1 Tryz.f121) (T121_cf0_1 (x0, x1, x2, x3, x4, x5)) (lc kp121_cf0 6 1 R K) = S_coder_Encoder_Put_cf0_1 fuel (x0, x1, x2, x3, x4, x5) (fun v => R (T121_cf0_1 v)) (E121_cf0_1 K) :=
  S121_cf0_1_okg fuel (F_coder_Encoder_none_a20 fuel) (F_coder_interval_take_546 fuel) (F_coder_interval_mid_402 fuel) (F_coder_interval_same_a20 fuel) (F_coder_interval_lose_a20 fuel) R K x0 x1 x2 x3 x4 x5
noncomputable def B121_cf0_1 (fuel : Nat) : Ev.Blk := fun st K => match canonO (kp121_cf0 6) st with
  | some s => (match s with
    | ⟨[(q0, .c (.ptr q1 q2))], [(q3, .cells q4 cs0), (q5, .vec q6 (.int .i64) x4 false), (q7, .vec q8 (.int .u8) x5 true)], q9, q10⟩ => (match splitRun 2 [(.i64, 2048), (.i64, 1792), (.i64, 1568), (.i64, 1372), (.i64, 1201), (.i64, 1051), (.i64, 920), (.i64, 805), (.i64, 705), (.i64, 617), (.i64, 540), (.i64, 473), (.i64, 414), (.i64, 363), (.i64, 318), (.i64, 279), (.i64, 245), (.i64, 215), (.i64, 189), (.i64, 166), (.i64, 146), (.i64, 128), (.i64, 112), (.i64, 98), (.i64, 86), (.i64, 76), (.i64, 67), (.i64, 59), (.i64, 52), (.i64, 46), (.i64, 41), (.i64, 36)] cs0 with | some ([.int .i64 x0, .own q11], [.int .u64 x1, .int .u64 x2, .own q12, .bool x3]) => bif Nat.beq q0 0 && Nat.beq q1 0 && Nat.beq q2 0 && Nat.beq q3 0 && Nat.beq q4 173 && Nat.beq q5 1 && Nat.beq q6 3 && Nat.beq q7 2 && Nat.beq q8 5 && Nat.beq q9 3 && Nat.beq q10 3 && Nat.beq q11 1 && Nat.beq q12 2 then iter (S_coder_Encoder_Put_cf0_1 fuel) fuel (x0, x1, x2, x3, x4, x5) (E121_cf0_1 K) else none | _ => none)
    | _ => none)
  | none => none
theorem B121_cf0_1_ok (fuel : Nat) (st : Ev.St) (K : Ev.Ex → Ev.St → Option Ans) (r : Ans) (h : B121_cf0_1 fuel st K = some r) : evalCode tab (G121_cf0 fuel) (J121_cf0_1 fuel) kp121_cf0 fuel (.block 1 (.loop (bodyOf 1 Tryz.f121))) st K = some r := by
  unfold B121_cf0_1 at h
  split at h
  · rename_i s hs
    split at h
    · skip
      split at h
      rotate_left 1
      · cases h
      rename_i hsp
      have esp := splitRun_eq hsp
      subst esp
      obtain ⟨hb, h⟩ := cond_some' h
      simp only [Bool.and_eq_true, Nat.beq_eq, decide_eq_true_eq] at hb
      obtain ⟨⟨⟨⟨⟨⟨⟨⟨⟨⟨⟨⟨rfl, rfl⟩, rfl⟩, rfl⟩, rfl⟩, rfl⟩, rfl⟩, rfl⟩, rfl⟩, rfl⟩, rfl⟩, rfl⟩, rfl⟩ := hb
      exact blk_loop (S := T121_cf0_1) (ks := E121_cf0_1) (step := S_coder_Encoder_Put_cf0_1 fuel) (v := (_, _, _, _, _, _)) (by kernel_rfl) (by kernel_rfl) (fun R K v => by obtain ⟨x0, x1, x2, x3, x4, x5⟩ := v; exact S121_cf0_1_ok fuel R K x0 x1 x2 x3 x4 x5) hs h
    · cases h
  · cases h
noncomputable def J121_cf0 (fuel : Nat) (i : Nat) : Option Ev.Blk := Ev.look i [(100001, B121_cf0_1 fuel)]
noncomputable def F_coder_Encoder_Put_cf0 (fuel : Nat) (x0 : Int) (x1 : Int) (x2 : Int) (x3 : Int) (x4 : Int) (x5 : Bool) (x6 : (List Int)) (x7 : (List Int)) (k0 : (Int × Int × Int × Int × Bool × (List Int) × (List Int)) → Option Ans) (k1 : (Int × Int × Int × Int × Bool × (List Int) × (List Int)) → Option Ans) : Option Ans :=
  (F_coder_Encoder_none_a20 fuel (x2) (x3) (x4) (x5) (x6) (x7)
    (fun (y2_0, y2_1, y2_2, y2_3, y2_4, y2_5, y2_6) =>
      bif y2_0 then
       k0 ((7 : Int), y2_1, y2_2, y2_3, y2_4, y2_5, y2_6)
      else
       bif Decidable.decide (x0 < (0 : Int)) then
        k0 ((2 : Int), y2_1, y2_2, y2_3, y2_4, y2_5, y2_6)
       else
        bif Decidable.decide (x0 ≥ (↑y2_5.length : Int)) then
         k0 ((2 : Int), y2_1, y2_2, y2_3, y2_4, y2_5, y2_6)
        else
         bif x1 != (0 : Int) then
          bif x1 != (1 : Int) then
           k0 ((2 : Int), y2_1, y2_2, y2_3, y2_4, y2_5, y2_6)
          else
           (F_coder_interval_mid_402 fuel (x0) (y2_1) (y2_2) (y2_3) (y2_4) (y2_5) (y2_6)
             (fun (y11_0, y11_1, y11_2, y11_3, y11_4, y11_5, y11_6) =>
               (F_coder_interval_take_546 fuel (x0) (x1) (y11_0) (y11_1) (y11_2) (y11_3) (y11_4) (y11_5) (y11_6)
                 (fun (y15_0, y15_1, y15_2, y15_3, y15_4, y15_5) =>
                   (L_coder_Encoder_Put_cf0_1 fuel (y15_0, y15_1, y15_2, y15_3, y15_4, y15_5)
                     (fun (b1_0, b1_1, b1_2, b1_3, b1_4, b1_5) =>
                       k1 ((0 : Int), b1_0, b1_1, b1_2, b1_3, b1_4, b1_5)))))))
         else
          (F_coder_interval_mid_402 fuel (x0) (y2_1) (y2_2) (y2_3) (y2_4) (y2_5) (y2_6)
            (fun (y10_0, y10_1, y10_2, y10_3, y10_4, y10_5, y10_6) =>
              (F_coder_interval_take_546 fuel (x0) (x1) (y10_0) (y10_1) (y10_2) (y10_3) (y10_4) (y10_5) (y10_6)
                (fun (y14_0, y14_1, y14_2, y14_3, y14_4, y14_5) =>
                  (L_coder_Encoder_Put_cf0_1 fuel (y14_0, y14_1, y14_2, y14_3, y14_4, y14_5)
                    (fun (b1_0, b1_1, b1_2, b1_3, b1_4, b1_5) =>
                      k1 ((0 : Int), b1_0, b1_1, b1_2, b1_3, b1_4, b1_5)))))))))
abbrev YF121_cf0 : Type := (Int) → (Int) → (Int) → (Int) → (Int) → (Bool) → ((List Int)) → ((List Int)) → ((Int × Int × Int × Int × Bool × (List Int) × (List Int)) → Option Ans) → ((Int × Int × Int × Int × Bool × (List Int) × (List Int)) → Option Ans) → Option Ans
theorem F121_cf0_eqg (fuel : Nat) (f128_a20 : YF128_a20) (f208_546 : YF208_546) (f209_402 : YF209_402) (f210_a20 : YF210_a20) (f211_a20 : YF211_a20) (x0 : Int) (x1 : Int) (x2 : Int) (x3 : Int) (x4 : Int) (x5 : Bool) (x6 : (List Int)) (x7 : (List Int)) (k : Ev.Cont) : evalFn tab (Gg121_cf0 f128_a20 f208_546 f209_402 f210_a20 f211_a20) (J121_cf0 fuel) kp121_cf0 fuel Tryz.f121 [.c (.ptr 0 0), .c (.int .i64 x0), .c (.int .i64 x1)] [.cells 173 (.int .i64 x2 :: .own 1 :: .int .i64 2048 :: .int .i64 1792 :: .int .i64 1568 :: .int .i64 1372 :: .int .i64 1201 :: .int .i64 1051 :: .int .i64 920 :: .int .i64 805 :: .int .i64 705 :: .int .i64 617 :: .int .i64 540 :: .int .i64 473 :: .int .i64 414 :: .int .i64 363 :: .int .i64 318 :: .int .i64 279 :: .int .i64 245 :: .int .i64 215 :: .int .i64 189 :: .int .i64 166 :: .int .i64 146 :: .int .i64 128 :: .int .i64 112 :: .int .i64 98 :: .int .i64 86 :: .int .i64 76 :: .int .i64 67 :: .int .i64 59 :: .int .i64 52 :: .int .i64 46 :: .int .i64 41 :: .int .i64 36 :: .int .u64 x3 :: .int .u64 x4 :: .own 2 :: .bool x5 :: []), .vec 3 (.int .i64) x6 false, .vec 5 (.int .u8) x7 false] k = (fun  (k0 : (Int × Int × Int × Int × Bool × (List Int) × (List Int)) → Option Ans) (k1 : (Int × Int × Int × Int × Bool × (List Int) × (List Int)) → Option Ans) =>
  (f128_a20 (x2) (x3) (x4) (x5) (x6) (x7)
    (fun (y2_0, y2_1, y2_2, y2_3, y2_4, y2_5, y2_6) =>
      bif y2_0 then
       k0 ((7 : Int), y2_1, y2_2, y2_3, y2_4, y2_5, y2_6)
      else
       bif Decidable.decide (x0 < (0 : Int)) then
        k0 ((2 : Int), y2_1, y2_2, y2_3, y2_4, y2_5, y2_6)
       else
        bif Decidable.decide (x0 ≥ (↑y2_5.length : Int)) then
         k0 ((2 : Int), y2_1, y2_2, y2_3, y2_4, y2_5, y2_6)
        else
         bif x1 != (0 : Int) then
          bif x1 != (1 : Int) then
           k0 ((2 : Int), y2_1, y2_2, y2_3, y2_4, y2_5, y2_6)
          else
           (f209_402 (x0) (y2_1) (y2_2) (y2_3) (y2_4) (y2_5) (y2_6)
             (fun (y11_0, y11_1, y11_2, y11_3, y11_4, y11_5, y11_6) =>
               (f208_546 (x0) (x1) (y11_0) (y11_1) (y11_2) (y11_3) (y11_4) (y11_5) (y11_6)
                 (fun (y15_0, y15_1, y15_2, y15_3, y15_4, y15_5) =>
                   (L_coder_Encoder_Put_cf0_1 fuel (y15_0, y15_1, y15_2, y15_3, y15_4, y15_5)
                     (fun (b1_0, b1_1, b1_2, b1_3, b1_4, b1_5) =>
                       k1 ((0 : Int), b1_0, b1_1, b1_2, b1_3, b1_4, b1_5)))))))
         else
          (f209_402 (x0) (y2_1) (y2_2) (y2_3) (y2_4) (y2_5) (y2_6)
            (fun (y10_0, y10_1, y10_2, y10_3, y10_4, y10_5, y10_6) =>
              (f208_546 (x0) (x1) (y10_0) (y10_1) (y10_2) (y10_3) (y10_4) (y10_5) (y10_6)
                (fun (y14_0, y14_1, y14_2, y14_3, y14_4, y14_5) =>
                  (L_coder_Encoder_Put_cf0_1 fuel (y14_0, y14_1, y14_2, y14_3, y14_4, y14_5)
                    (fun (b1_0, b1_1, b1_2, b1_3, b1_4, b1_5) =>
                      k1 ((0 : Int), b1_0, b1_1, b1_2, b1_3, b1_4, b1_5)))))))))) (fun r => match r with | (r0, r1, r2, r3, r4, r5, r6) => k (.c (.int .i64 r0), [.cells 173 (.int .i64 r1 :: .own 1 :: .int .i64 2048 :: .int .i64 1792 :: .int .i64 1568 :: .int .i64 1372 :: .int .i64 1201 :: .int .i64 1051 :: .int .i64 920 :: .int .i64 805 :: .int .i64 705 :: .int .i64 617 :: .int .i64 540 :: .int .i64 473 :: .int .i64 414 :: .int .i64 363 :: .int .i64 318 :: .int .i64 279 :: .int .i64 245 :: .int .i64 215 :: .int .i64 189 :: .int .i64 166 :: .int .i64 146 :: .int .i64 128 :: .int .i64 112 :: .int .i64 98 :: .int .i64 86 :: .int .i64 76 :: .int .i64 67 :: .int .i64 59 :: .int .i64 52 :: .int .i64 46 :: .int .i64 41 :: .int .i64 36 :: .int .u64 r2 :: .int .u64 r3 :: .own 2 :: .bool r4 :: []), .vec 3 (.int .i64) r5 false, .vec 5 (.int .u8) r6 false])) (fun r => match r with | (r0, r1, r2, r3, r4, r5, r6) => k (.c (.int .i64 r0), [.cells 173 (.int .i64 r1 :: .own 1 :: .int .i64 2048 :: .int .i64 1792 :: .int .i64 1568 :: .int .i64 1372 :: .int .i64 1201 :: .int .i64 1051 :: .int .i64 920 :: .int .i64 805 :: .int .i64 705 :: .int .i64 617 :: .int .i64 540 :: .int .i64 473 :: .int .i64 414 :: .int .i64 363 :: .int .i64 318 :: .int .i64 279 :: .int .i64 245 :: .int .i64 215 :: .int .i64 189 :: .int .i64 166 :: .int .i64 146 :: .int .i64 128 :: .int .i64 112 :: .int .i64 98 :: .int .i64 86 :: .int .i64 76 :: .int .i64 67 :: .int .i64 59 :: .int .i64 52 :: .int .i64 46 :: .int .i64 41 :: .int .i64 36 :: .int .u64 r2 :: .int .u64 r3 :: .own 2 :: .bool r4 :: []), .vec 3 (.int .i64) r5 false, .vec 5 (.int .u8) r6 true])) := by
  kernel_rfl
theorem F121_cf0_eq (fuel : Nat) (x0 : Int) (x1 : Int) (x2 : Int) (x3 : Int) (x4 : Int) (x5 : Bool) (x6 : (List Int)) (x7 : (List Int)) (k : Ev.Cont) : evalFn tab (G121_cf0 fuel) (J121_cf0 fuel) kp121_cf0 fuel Tryz.f121 [.c (.ptr 0 0), .c (.int .i64 x0), .c (.int .i64 x1)] [.cells 173 (.int .i64 x2 :: .own 1 :: .int .i64 2048 :: .int .i64 1792 :: .int .i64 1568 :: .int .i64 1372 :: .int .i64 1201 :: .int .i64 1051 :: .int .i64 920 :: .int .i64 805 :: .int .i64 705 :: .int .i64 617 :: .int .i64 540 :: .int .i64 473 :: .int .i64 414 :: .int .i64 363 :: .int .i64 318 :: .int .i64 279 :: .int .i64 245 :: .int .i64 215 :: .int .i64 189 :: .int .i64 166 :: .int .i64 146 :: .int .i64 128 :: .int .i64 112 :: .int .i64 98 :: .int .i64 86 :: .int .i64 76 :: .int .i64 67 :: .int .i64 59 :: .int .i64 52 :: .int .i64 46 :: .int .i64 41 :: .int .i64 36 :: .int .u64 x3 :: .int .u64 x4 :: .own 2 :: .bool x5 :: []), .vec 3 (.int .i64) x6 false, .vec 5 (.int .u8) x7 false] k = F_coder_Encoder_Put_cf0 fuel x0 x1 x2 x3 x4 x5 x6 x7 (fun r => match r with | (r0, r1, r2, r3, r4, r5, r6) => k (.c (.int .i64 r0), [.cells 173 (.int .i64 r1 :: .own 1 :: .int .i64 2048 :: .int .i64 1792 :: .int .i64 1568 :: .int .i64 1372 :: .int .i64 1201 :: .int .i64 1051 :: .int .i64 920 :: .int .i64 805 :: .int .i64 705 :: .int .i64 617 :: .int .i64 540 :: .int .i64 473 :: .int .i64 414 :: .int .i64 363 :: .int .i64 318 :: .int .i64 279 :: .int .i64 245 :: .int .i64 215 :: .int .i64 189 :: .int .i64 166 :: .int .i64 146 :: .int .i64 128 :: .int .i64 112 :: .int .i64 98 :: .int .i64 86 :: .int .i64 76 :: .int .i64 67 :: .int .i64 59 :: .int .i64 52 :: .int .i64 46 :: .int .i64 41 :: .int .i64 36 :: .int .u64 r2 :: .int .u64 r3 :: .own 2 :: .bool r4 :: []), .vec 3 (.int .i64) r5 false, .vec 5 (.int .u8) r6 false])) (fun r => match r with | (r0, r1, r2, r3, r4, r5, r6) => k (.c (.int .i64 r0), [.cells 173 (.int .i64 r1 :: .own 1 :: .int .i64 2048 :: .int .i64 1792 :: .int .i64 1568 :: .int .i64 1372 :: .int .i64 1201 :: .int .i64 1051 :: .int .i64 920 :: .int .i64 805 :: .int .i64 705 :: .int .i64 617 :: .int .i64 540 :: .int .i64 473 :: .int .i64 414 :: .int .i64 363 :: .int .i64 318 :: .int .i64 279 :: .int .i64 245 :: .int .i64 215 :: .int .i64 189 :: .int .i64 166 :: .int .i64 146 :: .int .i64 128 :: .int .i64 112 :: .int .i64 98 :: .int .i64 86 :: .int .i64 76 :: .int .i64 67 :: .int .i64 59 :: .int .i64 52 :: .int .i64 46 :: .int .i64 41 :: .int .i64 36 :: .int .u64 r2 :: .int .u64 r3 :: .own 2 :: .bool r4 :: []), .vec 3 (.int .i64) r5 false, .vec 5 (.int .u8) r6 true])) :=
  F121_cf0_eqg fuel (F_coder_Encoder_none_a20 fuel) (F_coder_interval_take_546 fuel) (F_coder_interval_mid_402 fuel) (F_coder_interval_same_a20 fuel) (F_coder_interval_lose_a20 fuel) x0 x1 x2 x3 x4 x5 x6 x7 k
theorem hG121_cf0 (fuel : Nat) : GOK Tryz.prog (G121_cf0 fuel) :=
  gok_cons ⟨ok128_a20 fuel, enters_of Tryz.func128 (by kernel_rfl) rfl⟩ <|
  gok_cons ⟨ok208_546 fuel, enters_of Tryz.func208 (by kernel_rfl) rfl⟩ <|
  gok_cons ⟨ok209_402 fuel, enters_of Tryz.func209 (by kernel_rfl) rfl⟩ <|
  gok_cons ⟨ok210_a20 fuel, enters_of Tryz.func210 (by kernel_rfl) rfl⟩ <|
  gok_cons ⟨ok211_a20 fuel, enters_of Tryz.func211 (by kernel_rfl) rfl⟩ <|
  gok_nil
theorem B121_cf0_1_blk (fuel : Nat) : BlkOK Tryz.prog Tryz.f121.ntmps (.block 1 (.loop (bodyOf 1 Tryz.f121))) (B121_cf0_1 fuel) :=
  blk_of (blk_of_code tab_ok (hG121_cf0 fuel) mixed (J := J121_cf0_1 fuel) (kp := kp121_cf0) (fuel := fuel) (by kernel_rfl) (fun q hq => by
    rw [(by kernel_rfl : obl (J121_cf0_1 fuel) (.block 1 (.loop (bodyOf 1 Tryz.f121))) = [])] at hq
    cases hq)) (B121_cf0_1_ok fuel)
theorem fok121_cf0 (fuel : Nat) : FnOK Tryz.prog 121 (evalFn tab (G121_cf0 fuel) (J121_cf0 fuel) kp121_cf0 fuel Tryz.f121) :=
  fn_ok tab_ok (hG121_cf0 fuel) mixed Tryz.func121 (c := (Tryz.f121.body).getD .skip) rfl (fun q hq => by
    rw [(by kernel_rfl : obl (J121_cf0 fuel) ((Tryz.f121.body).getD .skip) = [(.block 1 (.loop (bodyOf 1 Tryz.f121)), B121_cf0_1 fuel)])] at hq
    simp only [List.mem_cons, List.not_mem_nil, or_false] at hq
    subst hq
    · exact B121_cf0_1_blk fuel)
noncomputable def mt121_cf0 : List Ev.SV → List Ev.Ob → Bool := fun args objs => match args, objs with
  | [.c (.ptr q0 q1), .c (.int .i64 _), .c (.int .i64 _)], [.cells q2 cs0, .vec q3 (.int .i64) _ false, .vec q4 (.int .u8) _ false] => (match splitRun 2 [(.i64, 2048), (.i64, 1792), (.i64, 1568), (.i64, 1372), (.i64, 1201), (.i64, 1051), (.i64, 920), (.i64, 805), (.i64, 705), (.i64, 617), (.i64, 540), (.i64, 473), (.i64, 414), (.i64, 363), (.i64, 318), (.i64, 279), (.i64, 245), (.i64, 215), (.i64, 189), (.i64, 166), (.i64, 146), (.i64, 128), (.i64, 112), (.i64, 98), (.i64, 86), (.i64, 76), (.i64, 67), (.i64, 59), (.i64, 52), (.i64, 46), (.i64, 41), (.i64, 36)] cs0 with | some ([.int .i64 _, .own q5], [.int .u64 _, .int .u64 _, .own q6, .bool _]) => Nat.beq q0 0 && Nat.beq q1 0 && Nat.beq q2 173 && Nat.beq q3 3 && Nat.beq q4 5 && Nat.beq q5 1 && Nat.beq q6 2 | _ => false)
  | _, _ => false
noncomputable def spg121_cf0 (F : YF121_cf0) : Ev.Spec := fun args objs k => match args, objs with
  | [.c (.ptr q0 q1), .c (.int .i64 x0), .c (.int .i64 x1)], [.cells q2 cs0, .vec q3 (.int .i64) x6 false, .vec q4 (.int .u8) x7 false] => (match splitRun 2 [(.i64, 2048), (.i64, 1792), (.i64, 1568), (.i64, 1372), (.i64, 1201), (.i64, 1051), (.i64, 920), (.i64, 805), (.i64, 705), (.i64, 617), (.i64, 540), (.i64, 473), (.i64, 414), (.i64, 363), (.i64, 318), (.i64, 279), (.i64, 245), (.i64, 215), (.i64, 189), (.i64, 166), (.i64, 146), (.i64, 128), (.i64, 112), (.i64, 98), (.i64, 86), (.i64, 76), (.i64, 67), (.i64, 59), (.i64, 52), (.i64, 46), (.i64, 41), (.i64, 36)] cs0 with | some ([.int .i64 x2, .own q5], [.int .u64 x3, .int .u64 x4, .own q6, .bool x5]) => bif Nat.beq q0 0 && Nat.beq q1 0 && Nat.beq q2 173 && Nat.beq q3 3 && Nat.beq q4 5 && Nat.beq q5 1 && Nat.beq q6 2 then F x0 x1 x2 x3 x4 x5 x6 x7 (fun r => match r with | (r0, r1, r2, r3, r4, r5, r6) => k (.c (.int .i64 r0), [.cells 173 (.int .i64 r1 :: .own 1 :: .int .i64 2048 :: .int .i64 1792 :: .int .i64 1568 :: .int .i64 1372 :: .int .i64 1201 :: .int .i64 1051 :: .int .i64 920 :: .int .i64 805 :: .int .i64 705 :: .int .i64 617 :: .int .i64 540 :: .int .i64 473 :: .int .i64 414 :: .int .i64 363 :: .int .i64 318 :: .int .i64 279 :: .int .i64 245 :: .int .i64 215 :: .int .i64 189 :: .int .i64 166 :: .int .i64 146 :: .int .i64 128 :: .int .i64 112 :: .int .i64 98 :: .int .i64 86 :: .int .i64 76 :: .int .i64 67 :: .int .i64 59 :: .int .i64 52 :: .int .i64 46 :: .int .i64 41 :: .int .i64 36 :: .int .u64 r2 :: .int .u64 r3 :: .own 2 :: .bool r4 :: []), .vec 3 (.int .i64) r5 false, .vec 5 (.int .u8) r6 false])) (fun r => match r with | (r0, r1, r2, r3, r4, r5, r6) => k (.c (.int .i64 r0), [.cells 173 (.int .i64 r1 :: .own 1 :: .int .i64 2048 :: .int .i64 1792 :: .int .i64 1568 :: .int .i64 1372 :: .int .i64 1201 :: .int .i64 1051 :: .int .i64 920 :: .int .i64 805 :: .int .i64 705 :: .int .i64 617 :: .int .i64 540 :: .int .i64 473 :: .int .i64 414 :: .int .i64 363 :: .int .i64 318 :: .int .i64 279 :: .int .i64 245 :: .int .i64 215 :: .int .i64 189 :: .int .i64 166 :: .int .i64 146 :: .int .i64 128 :: .int .i64 112 :: .int .i64 98 :: .int .i64 86 :: .int .i64 76 :: .int .i64 67 :: .int .i64 59 :: .int .i64 52 :: .int .i64 46 :: .int .i64 41 :: .int .i64 36 :: .int .u64 r2 :: .int .u64 r3 :: .own 2 :: .bool r4 :: []), .vec 3 (.int .i64) r5 false, .vec 5 (.int .u8) r6 true])) else none | _ => none)
  | _, _ => none
noncomputable def spec121_cf0 (fuel : Nat) : Ev.Spec := spg121_cf0 (F_coder_Encoder_Put_cf0 fuel)
theorem ok121_cf0 (fuel : Nat) : FnOK Tryz.prog 121 (spec121_cf0 fuel) := by
  intro args objs kk r h
  unfold spec121_cf0 spg121_cf0 at h
  split at h
  · skip
    split at h
    rotate_left 1
    · cases h
    rename_i hsp
    have esp := splitRun_eq hsp
    subst esp
    obtain ⟨hb, h⟩ := cond_some' h
    simp only [Bool.and_eq_true, Nat.beq_eq, decide_eq_true_eq] at hb
    obtain ⟨⟨⟨⟨⟨⟨rfl, rfl⟩, rfl⟩, rfl⟩, rfl⟩, rfl⟩, rfl⟩ := hb
    exact fok121_cf0 fuel _ _ kk r ((F121_cf0_eq fuel _ _ _ _ _ _ _ _ kk).trans h)
  · cases h
end Go.Proofs.YtipdidpalcmlhaaGreat

set_option linter.unusedVariables false
set_option linter.unusedSimpArgs false
set_option maxRecDepth 100000
set_option maxHeartbeats 2000000
namespace Go.Proofs.YtipdidpalcmlhaaGreat
open Go Ev
def kp169 (i : Nat) : Option (List Nat) := Ev.look i []
noncomputable def Gg169 (f : Nat) : Option Ev.Spec := Ev.look f []
noncomputable def G169 (fuel : Nat) : Nat → Option Ev.Spec := Gg169
noncomputable def J169 (fuel : Nat) (i : Nat) : Option Ev.Blk := Ev.look i []
noncomputable def F_number_Valid (fuel : Nat) (x0 : Bool) (x1 : Int) (k0 : (Bool) → Option Ans) : Option Ans :=
  bif x0 then
   k0 (x1 == (0 : Int))
  else
   bif Decidable.decide (x1 ≥ (-1048576 : Int)) then
    k0 (Decidable.decide (x1 ≤ (1048576 : Int)))
   else
    k0 Bool.false
abbrev YF169 : Type := (Bool) → (Int) → ((Bool) → Option Ans) → Option Ans
theorem F169_eq (fuel : Nat) (x0 : Bool) (x1 : Int) (k : Ev.Cont) : evalFn tab (G169 fuel) (J169 fuel) kp169 fuel Tryz.f169 [.agg [.bool x0, .int .i64 x1]] [] k = F_number_Valid fuel x0 x1 (fun r => match r with | r0 => k (.c (.bool r0), [])) := by
  kernel_rfl
theorem hG169 (fuel : Nat) : GOK Tryz.prog (G169 fuel) :=
  gok_nil
theorem fok169 (fuel : Nat) : FnOK Tryz.prog 169 (evalFn tab (G169 fuel) (J169 fuel) kp169 fuel Tryz.f169) :=
  fn_ok tab_ok (hG169 fuel) mixed Tryz.func169 (c := (Tryz.f169.body).getD .skip) rfl (fun q hq => by
    rw [(by kernel_rfl : obl (J169 fuel) ((Tryz.f169.body).getD .skip) = [])] at hq
    cases hq)
noncomputable def mt169 : List Ev.SV → List Ev.Ob → Bool := fun args objs => match args, objs with
  | [.agg [.bool _, .int .i64 _]], [] => true
  | _, _ => false
noncomputable def spg169 (F : YF169) : Ev.Spec := fun args objs k => match args, objs with
  | [.agg [.bool x0, .int .i64 x1]], [] => bif true then F x0 x1 (fun r => match r with | r0 => k (.c (.bool r0), [])) else none
  | _, _ => none
noncomputable def spec169 (fuel : Nat) : Ev.Spec := spg169 (F_number_Valid fuel)
theorem ok169 (fuel : Nat) : FnOK Tryz.prog 169 (spec169 fuel) := by
  intro args objs kk r h
  unfold spec169 spg169 at h
  split at h
  · skip
    obtain ⟨hb, h⟩ := cond_some' h
    simp only [Bool.and_eq_true, Nat.beq_eq, decide_eq_true_eq] at hb
    clear hb
    exact fok169 fuel _ _ kk r ((F169_eq fuel _ _ kk).trans h)
  · cases h
end Go.Proofs.YtipdidpalcmlhaaGreat

set_option linter.unusedVariables false
set_option linter.unusedSimpArgs false
set_option maxRecDepth 100000
set_option maxHeartbeats 2000000
namespace Go.Proofs.YtipdidpalcmlhaaGreat
open Go Ev
def kp236 (i : Nat) : Option (List Nat) := Ev.look i []
noncomputable def Gg236 (f : Nat) : Option Ev.Spec := Ev.look f []
noncomputable def G236 (fuel : Nat) : Nat → Option Ev.Spec := Gg236
noncomputable def J236 (fuel : Nat) (i : Nat) : Option Ev.Blk := Ev.look i []
noncomputable def F_number_tail_take (fuel : Nat) (x0 : Int) (k0 : (Int × Int) → Option Ans) : Option Ans :=
  k0 (x0, bif Decidable.decide ((47 : Int) < Go.IntKind.i64.wrap (x0 + (1 : Int))) then (47 : Int) else Go.IntKind.i64.wrap (x0 + (1 : Int)))
abbrev YF236 : Type := (Int) → ((Int × Int) → Option Ans) → Option Ans
theorem F236_eq (fuel : Nat) (x0 : Int) (k : Ev.Cont) : evalFn tab (G236 fuel) (J236 fuel) kp236 fuel Tryz.f236 [.c (.ptr 0 0)] [.cells 269 [.int .i64 x0]] k = F_number_tail_take fuel x0 (fun r => match r with | (r0, r1) => k (.c (.int .i64 r0), [.cells 269 [.int .i64 r1]])) := by
  kernel_rfl
theorem hG236 (fuel : Nat) : GOK Tryz.prog (G236 fuel) :=
  gok_nil
theorem fok236 (fuel : Nat) : FnOK Tryz.prog 236 (evalFn tab (G236 fuel) (J236 fuel) kp236 fuel Tryz.f236) :=
  fn_ok tab_ok (hG236 fuel) mixed Tryz.func236 (c := (Tryz.f236.body).getD .skip) rfl (fun q hq => by
    rw [(by kernel_rfl : obl (J236 fuel) ((Tryz.f236.body).getD .skip) = [])] at hq
    cases hq)
noncomputable def mt236 : List Ev.SV → List Ev.Ob → Bool := fun args objs => match args, objs with
  | [.c (.ptr q0 q1)], [.cells q2 [.int .i64 _]] => Nat.beq q0 0 && Nat.beq q1 0 && Nat.beq q2 269
  | _, _ => false
noncomputable def spg236 (F : YF236) : Ev.Spec := fun args objs k => match args, objs with
  | [.c (.ptr q0 q1)], [.cells q2 [.int .i64 x0]] => bif Nat.beq q0 0 && Nat.beq q1 0 && Nat.beq q2 269 then F x0 (fun r => match r with | (r0, r1) => k (.c (.int .i64 r0), [.cells 269 [.int .i64 r1]])) else none
  | _, _ => none
noncomputable def spec236 (fuel : Nat) : Ev.Spec := spg236 (F_number_tail_take fuel)
theorem ok236 (fuel : Nat) : FnOK Tryz.prog 236 (spec236 fuel) := by
  intro args objs kk r h
  unfold spec236 spg236 at h
  split at h
  · skip
    obtain ⟨hb, h⟩ := cond_some' h
    simp only [Bool.and_eq_true, Nat.beq_eq, decide_eq_true_eq] at hb
    obtain ⟨⟨rfl, rfl⟩, rfl⟩ := hb
    exact fok236 fuel _ _ kk r ((F236_eq fuel _ kk).trans h)
  · cases h
end Go.Proofs.YtipdidpalcmlhaaGreat

set_option linter.unusedVariables false
set_option linter.unusedSimpArgs false
set_option maxRecDepth 100000
set_option maxHeartbeats 2000000
namespace Go.Proofs.YtipdidpalcmlhaaGreat
open Go Ev
def kp172 (i : Nat) : Option (List Nat) := Ev.look i [(7, [0, 3, 5, 6, 7, 32, 33]), (15, [0, 3, 5, 6, 7, 9, 10]), (100000, [0, 3, 5, 6, 7]), (100002, [0, 3, 5]), (400000, [4]), (400002, [4])]
noncomputable def Gg172 (f120 : YF120) (f236 : YF236) (f : Nat) : Option Ev.Spec := Ev.look f [(120, spg120 f120), (236, spg236 f236)]
noncomputable def G172 (fuel : Nat) : Nat → Option Ev.Spec := Gg172 (F_math_bits_Len fuel) (F_number_tail_take fuel)
noncomputable def S_number_events_0 (fuel : Nat) (v : Int × Int × Int × Int × Int × Bool × Int × (List (Int × Int))) (c : (Int × Int × Int × Int × Int × Bool × Int × (List (Int × Int))) → Option Ans) (B : (Int × Int × Int × Bool × Int × (List (Int × Int)) → Option Ans)) : Option Ans := match v, B with
  | (x0, x1, x2, x3, x4, x5, x6, x7), b =>
   bif Decidable.decide (x4 < x3) then
      bif Decidable.decide ((x7.length + [(Go.IntKind.i64.wrap (Go.IntKind.i64.wrap (x0 + (1 : Int)) + x4), (1 : Int))].length) * (16 : Nat) ≤ (140737488355328 : Nat) ∧ x7.length + [(Go.IntKind.i64.wrap (Go.IntKind.i64.wrap (x0 + (1 : Int)) + x4), (1 : Int))].length ≤ (140737488355328 : Nat)) then
      c (x0, x1, x2, x3, Go.IntKind.i64.wrap (x4 + (1 : Int)), x5, x6, x7 ++ [(Go.IntKind.i64.wrap (Go.IntKind.i64.wrap (x0 + (1 : Int)) + x4), (1 : Int))])
      else none
     else
      b (x0, x1, x2, x5, x6, x7)
noncomputable def L_number_events_0 (fuel : Nat) (v : Int × Int × Int × Int × Int × Bool × Int × (List (Int × Int))) (b : (Int × Int × Int × Bool × Int × (List (Int × Int)) → Option Ans)) : Option Ans := iter (S_number_events_0 fuel) fuel v b
noncomputable def J172_0 (fuel : Nat) (i : Nat) : Option Ev.Blk := Ev.look i []
noncomputable def T172_0 (v : Int × Int × Int × Int × Int × Bool × Int × (List (Int × Int))) : Ev.St := match v with | (x0, x1, x2, x3, x4, x5, x6, x7) => ⟨[(0, .c (.int .i64 x0)), (3, .c (.ptr 0 0)), (5, .c (.own 1)), (6, .c (.int .i64 x1)), (7, .c (.int .i64 x2)), (32, .c (.int .i64 x3)), (33, .c (.int .i64 x4))], [(0, .cells 124 [.bool x5, .int .i64 x6]), (1, .vec 221 (.pair (.int .i64) (.int .i64)) x7 true)], 2, 0⟩
noncomputable def E172_0 (K : Ev.Ex → Ev.St → Option Ans) : (Int × Int × Int × Bool × Int × (List (Int × Int)) → Option Ans) := (fun v => match v with | (x0, x1, x2, x3, x4, x5) => K .normal ⟨[(0, .c (.int .i64 x0)), (3, .c (.ptr 0 0)), (5, .c (.own 1)), (6, .c (.int .i64 x1)), (7, .c (.int .i64 x2))], [(0, .cells 124 [.bool x3, .int .i64 x4]), (1, .vec 221 (.pair (.int .i64) (.int .i64)) x5 true)], 2, 0⟩)
theorem S172_0_okg (fuel : Nat) (f120 : YF120) (f236 : YF236) (R : Ev.St → Option Ans) (K : Ev.Ex → Ev.St → Option Ans) (x0 : Int) (x1 : Int) (x2 : Int) (x3 : Int) (x4 : Int) (x5 : Bool) (x6 : Int) (x7 : (List (Int × Int))) : evalCode tab (Gg172 f120 f236) (J172_0 fuel) kp172 fuel (bodyOf 0 Tryz.f172) (T172_0 (x0, x1, x2, x3, x4, x5, x6, x7)) (lc kp172 7 0 R K) = (fun (c : (Int × Int × Int × Int × Int × Bool × Int × (List (Int × Int))) → Option Ans) (B : (Int × Int × Int × Bool × Int × (List (Int × Int)) → Option Ans)) => match B with
  | b =>
   bif Decidable.decide (x4 < x3) then
      bif Decidable.decide ((x7.length + [(Go.IntKind.i64.wrap (Go.IntKind.i64.wrap (x0 + (1 : Int)) + x4), (1 : Int))].length) * (16 : Nat) ≤ (140737488355328 : Nat) ∧ x7.length + [(Go.IntKind.i64.wrap (Go.IntKind.i64.wrap (x0 + (1 : Int)) + x4), (1 : Int))].length ≤ (140737488355328 : Nat)) then
      c (x0, x1, x2, x3, Go.IntKind.i64.wrap (x4 + (1 : Int)), x5, x6, x7 ++ [(Go.IntKind.i64.wrap (Go.IntKind.i64.wrap (x0 + (1 : Int)) + x4), (1 : Int))])
      else none
     else
      b (x0, x1, x2, x5, x6, x7)) (fun v => R (T172_0 v)) (E172_0 K) := by
  kernel_rfl
theorem S172_0_ok (fuel : Nat) (R : Ev.St → Option Ans) (K : Ev.Ex → Ev.St → Option Ans) (x0 : Int) (x1 : Int) (x2 : Int) (x3 : Int) (x4 : Int) (x5 : Bool) (x6 : Int) (x7 : (List (Int × Int))) : evalCode tab (G172 fuel) (J172_0 fuel) kp172 fuel (bodyOf 0 Tryz.f172) (T172_0 (x0, x1, x2, x3, x4, x5, x6, x7)) (lc kp172 7 0 R K) = S_number_events_0 fuel (x0, x1, x2, x3, x4, x5, x6, x7) (fun v => R (T172_0 v)) (E172_0 K) :=
  S172_0_okg fuel (F_math_bits_Len fuel) (F_number_tail_take fuel) R K x0 x1 x2 x3 x4 x5 x6 x7
noncomputable def B172_0 (fuel : Nat) : Ev.Blk := fun st K => match canonO (kp172 7) st with
  | some s => (match s with
    | ⟨[(q0, .c (.int .i64 x0)), (q1, .c (.ptr q2 q3)), (q4, .c (.own q5)), (q6, .c (.int .i64 x1)), (q7, .c (.int .i64 x2)), (q8, .c (.int .i64 x3)), (q9, .c (.int .i64 x4))], [(q10, .cells q11 [.bool x5, .int .i64 x6]), (q12, .vec q13 (.pair (.int .i64) (.int .i64)) x7 true)], q14, q15⟩ => bif Nat.beq q0 0 && Nat.beq q1 3 && Nat.beq q2 0 && Nat.beq q3 0 && Nat.beq q4 5 && Nat.beq q5 1 && Nat.beq q6 6 && Nat.beq q7 7 && Nat.beq q8 32 && Nat.beq q9 33 && Nat.beq q10 0 && Nat.beq q11 124 && Nat.beq q12 1 && Nat.beq q13 221 && Nat.beq q14 2 && Nat.beq q15 0 then iter (S_number_events_0 fuel) fuel (x0, x1, x2, x3, x4, x5, x6, x7) (E172_0 K) else none
    | _ => none)
  | none => none
theorem B172_0_ok (fuel : Nat) (st : Ev.St) (K : Ev.Ex → Ev.St → Option Ans) (r : Ans) (h : B172_0 fuel st K = some r) : evalCode tab (G172 fuel) (J172_0 fuel) kp172 fuel (.block 0 (.loop (bodyOf 0 Tryz.f172))) st K = some r := by
  unfold B172_0 at h
  split at h
  · rename_i s hs
    split at h
    · skip
      obtain ⟨hb, h⟩ := cond_some' h
      simp only [Bool.and_eq_true, Nat.beq_eq, decide_eq_true_eq] at hb
      obtain ⟨⟨⟨⟨⟨⟨⟨⟨⟨⟨⟨⟨⟨⟨⟨rfl, rfl⟩, rfl⟩, rfl⟩, rfl⟩, rfl⟩, rfl⟩, rfl⟩, rfl⟩, rfl⟩, rfl⟩, rfl⟩, rfl⟩, rfl⟩, rfl⟩, rfl⟩ := hb
      exact blk_loop (S := T172_0) (ks := E172_0) (step := S_number_events_0 fuel) (v := (_, _, _, _, _, _, _, _)) (by kernel_rfl) (by kernel_rfl) (fun R K v => by obtain ⟨x0, x1, x2, x3, x4, x5, x6, x7⟩ := v; exact S172_0_ok fuel R K x0 x1 x2 x3 x4 x5 x6 x7) hs h
    · cases h
  · cases h
noncomputable def S_number_events_2 (fuel : Nat) (v : Int × Int × Int × Int × Bool × Int × (List (Int × Int)) × Int) (c : (Int × Int × Int × Int × Bool × Int × (List (Int × Int)) × Int) → Option Ans) (B : (Int × Bool × Int × (List (Int × Int)) → Option Ans)) : Option Ans := match v, B with
  | (x0, x1, x2, x3, x4, x5, x6, x7), b =>
   bif Decidable.decide (x3 ≥ (0 : Int)) then
      bif Decidable.decide (x3 < Go.IntKind.i64.wrap (x2 - (1 : Int))) then
       (F_number_tail_take fuel (x7)
         (fun (y4_0, y4_1) =>
           bif Decidable.decide (x3 < (0 : Int)) then
            none
           else
            bif Decidable.decide ((x6.length + [(Go.IntKind.i64.wrap (x0 + y4_0), Ev.iand Go.IntKind.i64 (Ev.ishr Go.IntKind.i64 x1 x3) (1 : Int))].length) * (16 : Nat) ≤ (140737488355328 : Nat) ∧ x6.length + [(Go.IntKind.i64.wrap (x0 + y4_0), Ev.iand Go.IntKind.i64 (Ev.ishr Go.IntKind.i64 x1 x3) (1 : Int))].length ≤ (140737488355328 : Nat)) then
            c (x0, x1, x2, Go.IntKind.i64.wrap (x3 - (1 : Int)), x4, x5, x6 ++ [(Go.IntKind.i64.wrap (x0 + y4_0), Ev.iand Go.IntKind.i64 (Ev.ishr Go.IntKind.i64 x1 x3) (1 : Int))], y4_1)
            else none))
      else
       bif Decidable.decide (x3 < (0 : Int)) then
        none
       else
        bif Decidable.decide ((x6.length + [(Go.IntKind.i64.wrap (x0 + Go.IntKind.i64.wrap ((23 : Int) + x2)), Ev.iand Go.IntKind.i64 (Ev.ishr Go.IntKind.i64 x1 x3) (1 : Int))].length) * (16 : Nat) ≤ (140737488355328 : Nat) ∧ x6.length + [(Go.IntKind.i64.wrap (x0 + Go.IntKind.i64.wrap ((23 : Int) + x2)), Ev.iand Go.IntKind.i64 (Ev.ishr Go.IntKind.i64 x1 x3) (1 : Int))].length ≤ (140737488355328 : Nat)) then
        c (x0, x1, x2, Go.IntKind.i64.wrap (x3 - (1 : Int)), x4, x5, x6 ++ [(Go.IntKind.i64.wrap (x0 + Go.IntKind.i64.wrap ((23 : Int) + x2)), Ev.iand Go.IntKind.i64 (Ev.ishr Go.IntKind.i64 x1 x3) (1 : Int))], x7)
        else none
     else
      b (x0, x4, x5, x6)
noncomputable def L_number_events_2 (fuel : Nat) (v : Int × Int × Int × Int × Bool × Int × (List (Int × Int)) × Int) (b : (Int × Bool × Int × (List (Int × Int)) → Option Ans)) : Option Ans := iter (S_number_events_2 fuel) fuel v b
noncomputable def J172_2 (fuel : Nat) (i : Nat) : Option Ev.Blk := Ev.look i [(100000, B172_0 fuel)]
noncomputable def T172_2 (v : Int × Int × Int × Int × Bool × Int × (List (Int × Int)) × Int) : Ev.St := match v with | (x0, x1, x2, x3, x4, x5, x6, x7) => ⟨[(0, .c (.int .i64 x0)), (3, .c (.ptr 0 0)), (5, .c (.own 1)), (6, .c (.int .i64 x1)), (7, .c (.int .i64 x2)), (9, .c (.ptr 2 0)), (10, .c (.int .i64 x3))], [(0, .cells 124 [.bool x4, .int .i64 x5]), (1, .vec 221 (.pair (.int .i64) (.int .i64)) x6 true), (2, .cells 269 [.int .i64 x7])], 3, 0⟩
noncomputable def E172_2 (K : Ev.Ex → Ev.St → Option Ans) : (Int × Bool × Int × (List (Int × Int)) → Option Ans) := (fun v => match v with | (x0, x1, x2, x3) => K .normal ⟨[(0, .c (.int .i64 x0)), (3, .c (.ptr 0 0)), (5, .c (.own 1))], [(0, .cells 124 [.bool x1, .int .i64 x2]), (1, .vec 221 (.pair (.int .i64) (.int .i64)) x3 true)], 2, 0⟩)
theorem S172_2_okg (fuel : Nat) (f120 : YF120) (f236 : YF236) (R : Ev.St → Option Ans) (K : Ev.Ex → Ev.St → Option Ans) (x0 : Int) (x1 : Int) (x2 : Int) (x3 : Int) (x4 : Bool) (x5 : Int) (x6 : (List (Int × Int))) (x7 : Int) : evalCode tab (Gg172 f120 f236) (J172_2 fuel) kp172 fuel (bodyOf 2 Tryz.f172) (T172_2 (x0, x1, x2, x3, x4, x5, x6, x7)) (lc kp172 15 2 R K) = (fun (c : (Int × Int × Int × Int × Bool × Int × (List (Int × Int)) × Int) → Option Ans) (B : (Int × Bool × Int × (List (Int × Int)) → Option Ans)) => match B with
  | b =>
   bif Decidable.decide (x3 ≥ (0 : Int)) then
      bif Decidable.decide (x3 < Go.IntKind.i64.wrap (x2 - (1 : Int))) then
       (f236 (x7)
         (fun (y4_0, y4_1) =>
           bif Decidable.decide (x3 < (0 : Int)) then
            none
           else
            bif Decidable.decide ((x6.length + [(Go.IntKind.i64.wrap (x0 + y4_0), Ev.iand Go.IntKind.i64 (Ev.ishr Go.IntKind.i64 x1 x3) (1 : Int))].length) * (16 : Nat) ≤ (140737488355328 : Nat) ∧ x6.length + [(Go.IntKind.i64.wrap (x0 + y4_0), Ev.iand Go.IntKind.i64 (Ev.ishr Go.IntKind.i64 x1 x3) (1 : Int))].length ≤ (140737488355328 : Nat)) then
            c (x0, x1, x2, Go.IntKind.i64.wrap (x3 - (1 : Int)), x4, x5, x6 ++ [(Go.IntKind.i64.wrap (x0 + y4_0), Ev.iand Go.IntKind.i64 (Ev.ishr Go.IntKind.i64 x1 x3) (1 : Int))], y4_1)
            else none))
      else
       bif Decidable.decide (x3 < (0 : Int)) then
        none
       else
        bif Decidable.decide ((x6.length + [(Go.IntKind.i64.wrap (x0 + Go.IntKind.i64.wrap ((23 : Int) + x2)), Ev.iand Go.IntKind.i64 (Ev.ishr Go.IntKind.i64 x1 x3) (1 : Int))].length) * (16 : Nat) ≤ (140737488355328 : Nat) ∧ x6.length + [(Go.IntKind.i64.wrap (x0 + Go.IntKind.i64.wrap ((23 : Int) + x2)), Ev.iand Go.IntKind.i64 (Ev.ishr Go.IntKind.i64 x1 x3) (1 : Int))].length ≤ (140737488355328 : Nat)) then
        c (x0, x1, x2, Go.IntKind.i64.wrap (x3 - (1 : Int)), x4, x5, x6 ++ [(Go.IntKind.i64.wrap (x0 + Go.IntKind.i64.wrap ((23 : Int) + x2)), Ev.iand Go.IntKind.i64 (Ev.ishr Go.IntKind.i64 x1 x3) (1 : Int))], x7)
        else none
     else
      b (x0, x4, x5, x6)) (fun v => R (T172_2 v)) (E172_2 K) := by
  kernel_rfl
theorem S172_2_ok (fuel : Nat) (R : Ev.St → Option Ans) (K : Ev.Ex → Ev.St → Option Ans) (x0 : Int) (x1 : Int) (x2 : Int) (x3 : Int) (x4 : Bool) (x5 : Int) (x6 : (List (Int × Int))) (x7 : Int) : evalCode tab (G172 fuel) (J172_2 fuel) kp172 fuel (bodyOf 2 Tryz.f172) (T172_2 (x0, x1, x2, x3, x4, x5, x6, x7)) (lc kp172 15 2 R K) = S_number_events_2 fuel (x0, x1, x2, x3, x4, x5, x6, x7) (fun v => R (T172_2 v)) (E172_2 K) :=
  S172_2_okg fuel (F_math_bits_Len fuel) (F_number_tail_take fuel) R K x0 x1 x2 x3 x4 x5 x6 x7
noncomputable def B172_2 (fuel : Nat) : Ev.Blk := fun st K => match canonO (kp172 15) st with
  | some s => (match s with
    | ⟨[(q0, .c (.int .i64 x0)), (q1, .c (.ptr q2 q3)), (q4, .c (.own q5)), (q6, .c (.int .i64 x1)), (q7, .c (.int .i64 x2)), (q8, .c (.ptr q9 q10)), (q11, .c (.int .i64 x3))], [(q12, .cells q13 [.bool x4, .int .i64 x5]), (q14, .vec q15 (.pair (.int .i64) (.int .i64)) x6 true), (q16, .cells q17 [.int .i64 x7])], q18, q19⟩ => bif Nat.beq q0 0 && Nat.beq q1 3 && Nat.beq q2 0 && Nat.beq q3 0 && Nat.beq q4 5 && Nat.beq q5 1 && Nat.beq q6 6 && Nat.beq q7 7 && Nat.beq q8 9 && Nat.beq q9 2 && Nat.beq q10 0 && Nat.beq q11 10 && Nat.beq q12 0 && Nat.beq q13 124 && Nat.beq q14 1 && Nat.beq q15 221 && Nat.beq q16 2 && Nat.beq q17 269 && Nat.beq q18 3 && Nat.beq q19 0 then iter (S_number_events_2 fuel) fuel (x0, x1, x2, x3, x4, x5, x6, x7) (E172_2 K) else none
    | _ => none)
  | none => none
theorem B172_2_ok (fuel : Nat) (st : Ev.St) (K : Ev.Ex → Ev.St → Option Ans) (r : Ans) (h : B172_2 fuel st K = some r) : evalCode tab (G172 fuel) (J172_2 fuel) kp172 fuel (.block 2 (.loop (bodyOf 2 Tryz.f172))) st K = some r := by
  unfold B172_2 at h
  split at h
  · rename_i s hs
    split at h
    · skip
      obtain ⟨hb, h⟩ := cond_some' h
      simp only [Bool.and_eq_true, Nat.beq_eq, decide_eq_true_eq] at hb
      obtain ⟨⟨⟨⟨⟨⟨⟨⟨⟨⟨⟨⟨⟨⟨⟨⟨⟨⟨⟨rfl, rfl⟩, rfl⟩, rfl⟩, rfl⟩, rfl⟩, rfl⟩, rfl⟩, rfl⟩, rfl⟩, rfl⟩, rfl⟩, rfl⟩, rfl⟩, rfl⟩, rfl⟩, rfl⟩, rfl⟩, rfl⟩, rfl⟩ := hb
      exact blk_loop (S := T172_2) (ks := E172_2) (step := S_number_events_2 fuel) (v := (_, _, _, _, _, _, _, _)) (by kernel_rfl) (by kernel_rfl) (fun R K v => by obtain ⟨x0, x1, x2, x3, x4, x5, x6, x7⟩ := v; exact S172_2_ok fuel R K x0 x1 x2 x3 x4 x5 x6 x7) hs h
    · cases h
  · cases h
noncomputable def J172 (fuel : Nat) (i : Nat) : Option Ev.Blk := Ev.look i [(100000, B172_0 fuel), (100002, B172_2 fuel)]
noncomputable def F_number_events (fuel : Nat) (x0 : Int) (x1 : Bool) (x2 : Int) (k0 : ((List (Int × Int))) → Option Ans) : Option Ans :=
  bif x1 then
   k0 ([(x0, (1 : Int))])
  else
   (F_math_bits_Len fuel (Go.IntKind.u64.wrap (Go.IntKind.i64.wrap ((bif Decidable.decide (Go.IntKind.i64.wrap ((0 : Int) - x2) > x2) then Go.IntKind.i64.wrap ((0 : Int) - x2) else x2) + (1 : Int))))
     (fun y3 =>
       (L_number_events_0 fuel (x0, Go.IntKind.i64.wrap ((bif Decidable.decide (Go.IntKind.i64.wrap ((0 : Int) - x2) > x2) then Go.IntKind.i64.wrap ((0 : Int) - x2) else x2) + (1 : Int)), Go.IntKind.i64.wrap (y3 - (1 : Int)), Go.IntKind.i64.wrap (y3 - (1 : Int)), (0 : Int), x1, x2, [(x0, (0 : Int))])
         (fun (b0_0, b0_1, b0_2, b0_3, b0_4, b0_5) =>
           bif Decidable.decide (b0_2 < (20 : Int)) then
            bif Decidable.decide ((b0_5.length + [(Go.IntKind.i64.wrap (Go.IntKind.i64.wrap (b0_0 + (1 : Int)) + b0_2), (0 : Int))].length) * (16 : Nat) ≤ (140737488355328 : Nat) ∧ b0_5.length + [(Go.IntKind.i64.wrap (Go.IntKind.i64.wrap (b0_0 + (1 : Int)) + b0_2), (0 : Int))].length ≤ (140737488355328 : Nat)) then
            (L_number_events_2 fuel (b0_0, b0_1, b0_2, Go.IntKind.i64.wrap (b0_2 - (1 : Int)), b0_3, b0_4, b0_5 ++ [(Go.IntKind.i64.wrap (Go.IntKind.i64.wrap (b0_0 + (1 : Int)) + b0_2), (0 : Int))], (44 : Int))
               (fun (b2_0, b2_1, b2_2, b2_3) =>
                 bif b2_2 != (0 : Int) then
                  bif Decidable.decide (b2_2 < (0 : Int)) then
                   bif Decidable.decide ((b2_3.length + [(Go.IntKind.i64.wrap (b2_0 + (22 : Int)), (1 : Int))].length) * (16 : Nat) ≤ (140737488355328 : Nat) ∧ b2_3.length + [(Go.IntKind.i64.wrap (b2_0 + (22 : Int)), (1 : Int))].length ≤ (140737488355328 : Nat)) then
                   k0 (b2_3 ++ [(Go.IntKind.i64.wrap (b2_0 + (22 : Int)), (1 : Int))])
                   else none
                  else
                   bif Decidable.decide ((b2_3.length + [(Go.IntKind.i64.wrap (b2_0 + (22 : Int)), (0 : Int))].length) * (16 : Nat) ≤ (140737488355328 : Nat) ∧ b2_3.length + [(Go.IntKind.i64.wrap (b2_0 + (22 : Int)), (0 : Int))].length ≤ (140737488355328 : Nat)) then
                   k0 (b2_3 ++ [(Go.IntKind.i64.wrap (b2_0 + (22 : Int)), (0 : Int))])
                   else none
                 else
                  k0 b2_3))
            else none
           else
            (L_number_events_2 fuel (b0_0, b0_1, b0_2, Go.IntKind.i64.wrap (b0_2 - (1 : Int)), b0_3, b0_4, b0_5, (44 : Int))
              (fun (b2_0, b2_1, b2_2, b2_3) =>
                bif b2_2 != (0 : Int) then
                 bif Decidable.decide (b2_2 < (0 : Int)) then
                  bif Decidable.decide ((b2_3.length + [(Go.IntKind.i64.wrap (b2_0 + (22 : Int)), (1 : Int))].length) * (16 : Nat) ≤ (140737488355328 : Nat) ∧ b2_3.length + [(Go.IntKind.i64.wrap (b2_0 + (22 : Int)), (1 : Int))].length ≤ (140737488355328 : Nat)) then
                  k0 (b2_3 ++ [(Go.IntKind.i64.wrap (b2_0 + (22 : Int)), (1 : Int))])
                  else none
                 else
                  bif Decidable.decide ((b2_3.length + [(Go.IntKind.i64.wrap (b2_0 + (22 : Int)), (0 : Int))].length) * (16 : Nat) ≤ (140737488355328 : Nat) ∧ b2_3.length + [(Go.IntKind.i64.wrap (b2_0 + (22 : Int)), (0 : Int))].length ≤ (140737488355328 : Nat)) then
                  k0 (b2_3 ++ [(Go.IntKind.i64.wrap (b2_0 + (22 : Int)), (0 : Int))])
                  else none
                else
                 k0 b2_3))))))
abbrev YF172 : Type := (Int) → (Bool) → (Int) → (((List (Int × Int))) → Option Ans) → Option Ans
theorem F172_eqg (fuel : Nat) (f120 : YF120) (f236 : YF236) (x0 : Int) (x1 : Bool) (x2 : Int) (k : Ev.Cont) : evalFn tab (Gg172 f120 f236) (J172 fuel) kp172 fuel Tryz.f172 [.c (.int .i64 x0), .agg [.bool x1, .int .i64 x2]] [] k = (fun  (k0 : ((List (Int × Int))) → Option Ans) =>
  bif x1 then
   k0 ([(x0, (1 : Int))])
  else
   (f120 (Go.IntKind.u64.wrap (Go.IntKind.i64.wrap ((bif Decidable.decide (Go.IntKind.i64.wrap ((0 : Int) - x2) > x2) then Go.IntKind.i64.wrap ((0 : Int) - x2) else x2) + (1 : Int))))
     (fun y3 =>
       (L_number_events_0 fuel (x0, Go.IntKind.i64.wrap ((bif Decidable.decide (Go.IntKind.i64.wrap ((0 : Int) - x2) > x2) then Go.IntKind.i64.wrap ((0 : Int) - x2) else x2) + (1 : Int)), Go.IntKind.i64.wrap (y3 - (1 : Int)), Go.IntKind.i64.wrap (y3 - (1 : Int)), (0 : Int), x1, x2, [(x0, (0 : Int))])
         (fun (b0_0, b0_1, b0_2, b0_3, b0_4, b0_5) =>
           bif Decidable.decide (b0_2 < (20 : Int)) then
            bif Decidable.decide ((b0_5.length + [(Go.IntKind.i64.wrap (Go.IntKind.i64.wrap (b0_0 + (1 : Int)) + b0_2), (0 : Int))].length) * (16 : Nat) ≤ (140737488355328 : Nat) ∧ b0_5.length + [(Go.IntKind.i64.wrap (Go.IntKind.i64.wrap (b0_0 + (1 : Int)) + b0_2), (0 : Int))].length ≤ (140737488355328 : Nat)) then
            (L_number_events_2 fuel (b0_0, b0_1, b0_2, Go.IntKind.i64.wrap (b0_2 - (1 : Int)), b0_3, b0_4, b0_5 ++ [(Go.IntKind.i64.wrap (Go.IntKind.i64.wrap (b0_0 + (1 : Int)) + b0_2), (0 : Int))], (44 : Int))
               (fun (b2_0, b2_1, b2_2, b2_3) =>
                 bif b2_2 != (0 : Int) then
                  bif Decidable.decide (b2_2 < (0 : Int)) then
                   bif Decidable.decide ((b2_3.length + [(Go.IntKind.i64.wrap (b2_0 + (22 : Int)), (1 : Int))].length) * (16 : Nat) ≤ (140737488355328 : Nat) ∧ b2_3.length + [(Go.IntKind.i64.wrap (b2_0 + (22 : Int)), (1 : Int))].length ≤ (140737488355328 : Nat)) then
                   k0 (b2_3 ++ [(Go.IntKind.i64.wrap (b2_0 + (22 : Int)), (1 : Int))])
                   else none
                  else
                   bif Decidable.decide ((b2_3.length + [(Go.IntKind.i64.wrap (b2_0 + (22 : Int)), (0 : Int))].length) * (16 : Nat) ≤ (140737488355328 : Nat) ∧ b2_3.length + [(Go.IntKind.i64.wrap (b2_0 + (22 : Int)), (0 : Int))].length ≤ (140737488355328 : Nat)) then
                   k0 (b2_3 ++ [(Go.IntKind.i64.wrap (b2_0 + (22 : Int)), (0 : Int))])
                   else none
                 else
                  k0 b2_3))
            else none
           else
            (L_number_events_2 fuel (b0_0, b0_1, b0_2, Go.IntKind.i64.wrap (b0_2 - (1 : Int)), b0_3, b0_4, b0_5, (44 : Int))
              (fun (b2_0, b2_1, b2_2, b2_3) =>
                bif b2_2 != (0 : Int) then
                 bif Decidable.decide (b2_2 < (0 : Int)) then
                  bif Decidable.decide ((b2_3.length + [(Go.IntKind.i64.wrap (b2_0 + (22 : Int)), (1 : Int))].length) * (16 : Nat) ≤ (140737488355328 : Nat) ∧ b2_3.length + [(Go.IntKind.i64.wrap (b2_0 + (22 : Int)), (1 : Int))].length ≤ (140737488355328 : Nat)) then
                  k0 (b2_3 ++ [(Go.IntKind.i64.wrap (b2_0 + (22 : Int)), (1 : Int))])
                  else none
                 else
                  bif Decidable.decide ((b2_3.length + [(Go.IntKind.i64.wrap (b2_0 + (22 : Int)), (0 : Int))].length) * (16 : Nat) ≤ (140737488355328 : Nat) ∧ b2_3.length + [(Go.IntKind.i64.wrap (b2_0 + (22 : Int)), (0 : Int))].length ≤ (140737488355328 : Nat)) then
                  k0 (b2_3 ++ [(Go.IntKind.i64.wrap (b2_0 + (22 : Int)), (0 : Int))])
                  else none
                else
                 k0 b2_3))))))) (fun r => match r with | r0 => k (.c (.own 0), [.vec 221 (.pair (.int .i64) (.int .i64)) r0 true])) := by
  kernel_rfl
theorem F172_eq (fuel : Nat) (x0 : Int) (x1 : Bool) (x2 : Int) (k : Ev.Cont) : evalFn tab (G172 fuel) (J172 fuel) kp172 fuel Tryz.f172 [.c (.int .i64 x0), .agg [.bool x1, .int .i64 x2]] [] k = F_number_events fuel x0 x1 x2 (fun r => match r with | r0 => k (.c (.own 0), [.vec 221 (.pair (.int .i64) (.int .i64)) r0 true])) :=
  F172_eqg fuel (F_math_bits_Len fuel) (F_number_tail_take fuel) x0 x1 x2 k
theorem hG172 (fuel : Nat) : GOK Tryz.prog (G172 fuel) :=
  gok_cons ⟨ok120 fuel, enters_of Tryz.func120 (by kernel_rfl) rfl⟩ <|
  gok_cons ⟨ok236 fuel, enters_of Tryz.func236 (by kernel_rfl) rfl⟩ <|
  gok_nil
theorem B172_0_blk (fuel : Nat) : BlkOK Tryz.prog Tryz.f172.ntmps (.block 0 (.loop (bodyOf 0 Tryz.f172))) (B172_0 fuel) :=
  blk_of (blk_of_code tab_ok (hG172 fuel) mixed (J := J172_0 fuel) (kp := kp172) (fuel := fuel) (by kernel_rfl) (fun q hq => by
    rw [(by kernel_rfl : obl (J172_0 fuel) (.block 0 (.loop (bodyOf 0 Tryz.f172))) = [])] at hq
    cases hq)) (B172_0_ok fuel)
theorem B172_2_blk (fuel : Nat) : BlkOK Tryz.prog Tryz.f172.ntmps (.block 2 (.loop (bodyOf 2 Tryz.f172))) (B172_2 fuel) :=
  blk_of (blk_of_code tab_ok (hG172 fuel) mixed (J := J172_2 fuel) (kp := kp172) (fuel := fuel) (by kernel_rfl) (fun q hq => by
    rw [(by kernel_rfl : obl (J172_2 fuel) (.block 2 (.loop (bodyOf 2 Tryz.f172))) = [])] at hq
    cases hq)) (B172_2_ok fuel)
theorem fok172 (fuel : Nat) : FnOK Tryz.prog 172 (evalFn tab (G172 fuel) (J172 fuel) kp172 fuel Tryz.f172) :=
  fn_ok tab_ok (hG172 fuel) mixed Tryz.func172 (c := (Tryz.f172.body).getD .skip) rfl (fun q hq => by
    rw [(by kernel_rfl : obl (J172 fuel) ((Tryz.f172.body).getD .skip) = [(.block 0 (.loop (bodyOf 0 Tryz.f172)), B172_0 fuel), (.block 2 (.loop (bodyOf 2 Tryz.f172)), B172_2 fuel)])] at hq
    simp only [List.mem_cons, List.not_mem_nil, or_false] at hq
    rcases hq with rfl | rfl
    · exact B172_0_blk fuel
    · exact B172_2_blk fuel)
noncomputable def mt172 : List Ev.SV → List Ev.Ob → Bool := fun args objs => match args, objs with
  | [.c (.int .i64 _), .agg [.bool _, .int .i64 _]], [] => true
  | _, _ => false
noncomputable def spg172 (F : YF172) : Ev.Spec := fun args objs k => match args, objs with
  | [.c (.int .i64 x0), .agg [.bool x1, .int .i64 x2]], [] => bif true then F x0 x1 x2 (fun r => match r with | r0 => k (.c (.own 0), [.vec 221 (.pair (.int .i64) (.int .i64)) r0 true])) else none
  | _, _ => none
noncomputable def spec172 (fuel : Nat) : Ev.Spec := spg172 (F_number_events fuel)
theorem ok172 (fuel : Nat) : FnOK Tryz.prog 172 (spec172 fuel) := by
  intro args objs kk r h
  unfold spec172 spg172 at h
  split at h
  · skip
    obtain ⟨hb, h⟩ := cond_some' h
    simp only [Bool.and_eq_true, Nat.beq_eq, decide_eq_true_eq] at hb
    clear hb
    exact fok172 fuel _ _ kk r ((F172_eq fuel _ _ _ kk).trans h)
  · cases h
end Go.Proofs.YtipdidpalcmlhaaGreat

set_option linter.unusedVariables false
set_option linter.unusedSimpArgs false
set_option maxRecDepth 100000
set_option maxHeartbeats 2000000
namespace Go.Proofs.YtipdidpalcmlhaaGreat
open Go Ev
def kp170 (i : Nat) : Option (List Nat) := Ev.look i []
noncomputable def Gg170 (f : Nat) : Option Ev.Spec := Ev.look f []
noncomputable def G170 (fuel : Nat) : Nat → Option Ev.Spec := Gg170
noncomputable def J170 (fuel : Nat) (i : Nat) : Option Ev.Blk := Ev.look i []
noncomputable def F_number_fits (fuel : Nat) (x0 : Int) (x1 : (List Int)) (x2 : Int) (x3 : Int) (k0 : (Int) → Option Ans) : Option Ans :=
  bif Decidable.decide (x2 < (0 : Int)) then
   k0 ((2 : Int))
  else
   bif Decidable.decide (x2 > Go.IntKind.i64.wrap ((↑x1.length : Int) - x3)) then
    k0 ((2 : Int))
   else
    k0 ((0 : Int))
abbrev YF170 : Type := (Int) → ((List Int)) → (Int) → (Int) → ((Int) → Option Ans) → Option Ans
theorem F170_eq (fuel : Nat) (x0 : Int) (x1 : (List Int)) (x2 : Int) (x3 : Int) (k : Ev.Cont) : evalFn tab (G170 fuel) (J170 fuel) kp170 fuel Tryz.f170 [.agg [.int .i64 x0, .sl (.int .i64) x1], .c (.int .i64 x2), .c (.int .i64 x3)] [] k = F_number_fits fuel x0 x1 x2 x3 (fun r => match r with | r0 => k (.c (.int .i64 r0), [])) := by
  kernel_rfl
theorem hG170 (fuel : Nat) : GOK Tryz.prog (G170 fuel) :=
  gok_nil
theorem fok170 (fuel : Nat) : FnOK Tryz.prog 170 (evalFn tab (G170 fuel) (J170 fuel) kp170 fuel Tryz.f170) :=
  fn_ok tab_ok (hG170 fuel) mixed Tryz.func170 (c := (Tryz.f170.body).getD .skip) rfl (fun q hq => by
    rw [(by kernel_rfl : obl (J170 fuel) ((Tryz.f170.body).getD .skip) = [])] at hq
    cases hq)
noncomputable def mt170 : List Ev.SV → List Ev.Ob → Bool := fun args objs => match args, objs with
  | [.agg [.int .i64 _, .sl (.int .i64) _], .c (.int .i64 _), .c (.int .i64 _)], [] => true
  | _, _ => false
noncomputable def spg170 (F : YF170) : Ev.Spec := fun args objs k => match args, objs with
  | [.agg [.int .i64 x0, .sl (.int .i64) x1], .c (.int .i64 x2), .c (.int .i64 x3)], [] => bif true then F x0 x1 x2 x3 (fun r => match r with | r0 => k (.c (.int .i64 r0), [])) else none
  | _, _ => none
noncomputable def spec170 (fuel : Nat) : Ev.Spec := spg170 (F_number_fits fuel)
theorem ok170 (fuel : Nat) : FnOK Tryz.prog 170 (spec170 fuel) := by
  intro args objs kk r h
  unfold spec170 spg170 at h
  split at h
  · skip
    obtain ⟨hb, h⟩ := cond_some' h
    simp only [Bool.and_eq_true, Nat.beq_eq, decide_eq_true_eq] at hb
    clear hb
    exact fok170 fuel _ _ kk r ((F170_eq fuel _ _ _ _ kk).trans h)
  · cases h
end Go.Proofs.YtipdidpalcmlhaaGreat

set_option linter.unusedVariables false
set_option linter.unusedSimpArgs false
set_option maxRecDepth 100000
set_option maxHeartbeats 2000000
namespace Go.Proofs.YtipdidpalcmlhaaGreat
open Go Ev
def kp171_2d4 (i : Nat) : Option (List Nat) := Ev.look i [(2, [0, 8, 9, 10, 1000002]), (100000, []), (400000, [4, 1000002])]
noncomputable def Gg171_2d4 (f121_cf0 : YF121_cf0) (f : Nat) : Option Ev.Spec := Ev.look f [(121, spg121_cf0 f121_cf0)]
noncomputable def G171_2d4 (fuel : Nat) : Nat → Option Ev.Spec := Gg171_2d4 (F_coder_Encoder_Put_cf0 fuel)
noncomputable def S_number_put_2d4_0 (fuel : Nat) (v : (List (Int × Int)) × Int × Int × Int × Int × Int × Bool × (List Int) × (List Int)) (c : ((List (Int × Int)) × Int × Int × Int × Int × Int × Bool × (List Int) × (List Int)) → Option Ans) (B : (Int × Int × Int × Int × Bool × (List Int) × (List Int) → Option Ans) × (Int × Int × Int × Bool × (List Int) × (List Int) → Option Ans)) : Option Ans := match v, B with
  | (x0, x1, x2, x3, x4, x5, x6, x7, x8), (ret, b) =>
   bif Decidable.decide (x2 < x1) then
      bif Decidable.decide ((0 : Int) ≤ x2 ∧ x2 < (↑x0.length : Int)) then
      (F_coder_Encoder_Put_cf0 fuel ((x0.getD x2.toNat ((0 : Int), (0 : Int))).fst) ((x0.getD x2.toNat ((0 : Int), (0 : Int))).snd) (x3) (x4) (x5) (x6) (x7) (x8)
         (fun (y4_0, y4_1, y4_2, y4_3, y4_4, y4_5, y4_6) =>
           bif y4_0 != (0 : Int) then
            ret (y4_0, y4_1, y4_2, y4_3, y4_4, y4_5, y4_6)
           else
            c (x0, x1, Go.IntKind.i64.wrap (x2 + (1 : Int)), y4_1, y4_2, y4_3, y4_4, y4_5, y4_6))
         (fun (y4_0, y4_1, y4_2, y4_3, y4_4, y4_5, y4_6) =>
           bif y4_0 != (0 : Int) then
            ret (y4_0, y4_1, y4_2, y4_3, y4_4, y4_5, y4_6)
           else
            c (x0, x1, Go.IntKind.i64.wrap (x2 + (1 : Int)), y4_1, y4_2, y4_3, y4_4, y4_5, y4_6)))
      else none
     else
      b (x3, x4, x5, x6, x7, x8)
noncomputable def L_number_put_2d4_0 (fuel : Nat) (v : (List (Int × Int)) × Int × Int × Int × Int × Int × Bool × (List Int) × (List Int)) (ret : (Int × Int × Int × Int × Bool × (List Int) × (List Int) → Option Ans)) (b : (Int × Int × Int × Bool × (List Int) × (List Int) → Option Ans)) : Option Ans := iter (S_number_put_2d4_0 fuel) fuel v (ret, b)
noncomputable def J171_2d4_0 (fuel : Nat) (i : Nat) : Option Ev.Blk := Ev.look i []
noncomputable def T171_2d4_0 (v : (List (Int × Int)) × Int × Int × Int × Int × Int × Bool × (List Int) × (List Int)) : Ev.St := match v with | (x0, x1, x2, x3, x4, x5, x6, x7, x8) => ⟨[(0, .c (.ptr 0 0)), (8, .c (.sl (.pair (.int .i64) (.int .i64)) x0)), (9, .c (.int .i64 x1)), (10, .c (.int .i64 x2))], [(0, .cells 173 (.int .i64 x3 :: .own 1 :: .int .i64 2048 :: .int .i64 1792 :: .int .i64 1568 :: .int .i64 1372 :: .int .i64 1201 :: .int .i64 1051 :: .int .i64 920 :: .int .i64 805 :: .int .i64 705 :: .int .i64 617 :: .int .i64 540 :: .int .i64 473 :: .int .i64 414 :: .int .i64 363 :: .int .i64 318 :: .int .i64 279 :: .int .i64 245 :: .int .i64 215 :: .int .i64 189 :: .int .i64 166 :: .int .i64 146 :: .int .i64 128 :: .int .i64 112 :: .int .i64 98 :: .int .i64 86 :: .int .i64 76 :: .int .i64 67 :: .int .i64 59 :: .int .i64 52 :: .int .i64 46 :: .int .i64 41 :: .int .i64 36 :: .int .u64 x4 :: .int .u64 x5 :: .own 2 :: .bool x6 :: [])), (1, .vec 3 (.int .i64) x7 false), (2, .vec 5 (.int .u8) x8 true)], 3, 3⟩
noncomputable def E171_2d4_0 (K : Ev.Ex → Ev.St → Option Ans) : (Int × Int × Int × Int × Bool × (List Int) × (List Int) → Option Ans) × (Int × Int × Int × Bool × (List Int) × (List Int) → Option Ans) := ((fun v => match v with | (x0, x1, x2, x3, x4, x5, x6) => K .ret ⟨[(4, .c (.int .i64 x0))], [(0, .cells 173 (.int .i64 x1 :: .own 1 :: .int .i64 2048 :: .int .i64 1792 :: .int .i64 1568 :: .int .i64 1372 :: .int .i64 1201 :: .int .i64 1051 :: .int .i64 920 :: .int .i64 805 :: .int .i64 705 :: .int .i64 617 :: .int .i64 540 :: .int .i64 473 :: .int .i64 414 :: .int .i64 363 :: .int .i64 318 :: .int .i64 279 :: .int .i64 245 :: .int .i64 215 :: .int .i64 189 :: .int .i64 166 :: .int .i64 146 :: .int .i64 128 :: .int .i64 112 :: .int .i64 98 :: .int .i64 86 :: .int .i64 76 :: .int .i64 67 :: .int .i64 59 :: .int .i64 52 :: .int .i64 46 :: .int .i64 41 :: .int .i64 36 :: .int .u64 x2 :: .int .u64 x3 :: .own 2 :: .bool x4 :: [])), (1, .vec 3 (.int .i64) x5 false), (2, .vec 5 (.int .u8) x6 true)], 3, 3⟩), (fun v => match v with | (x0, x1, x2, x3, x4, x5) => K .normal ⟨[], [(0, .cells 173 (.int .i64 x0 :: .own 1 :: .int .i64 2048 :: .int .i64 1792 :: .int .i64 1568 :: .int .i64 1372 :: .int .i64 1201 :: .int .i64 1051 :: .int .i64 920 :: .int .i64 805 :: .int .i64 705 :: .int .i64 617 :: .int .i64 540 :: .int .i64 473 :: .int .i64 414 :: .int .i64 363 :: .int .i64 318 :: .int .i64 279 :: .int .i64 245 :: .int .i64 215 :: .int .i64 189 :: .int .i64 166 :: .int .i64 146 :: .int .i64 128 :: .int .i64 112 :: .int .i64 98 :: .int .i64 86 :: .int .i64 76 :: .int .i64 67 :: .int .i64 59 :: .int .i64 52 :: .int .i64 46 :: .int .i64 41 :: .int .i64 36 :: .int .u64 x1 :: .int .u64 x2 :: .own 2 :: .bool x3 :: [])), (1, .vec 3 (.int .i64) x4 false), (2, .vec 5 (.int .u8) x5 true)], 3, 3⟩))
theorem S171_2d4_0_okg (fuel : Nat) (f121_cf0 : YF121_cf0) (R : Ev.St → Option Ans) (K : Ev.Ex → Ev.St → Option Ans) (x0 : (List (Int × Int))) (x1 : Int) (x2 : Int) (x3 : Int) (x4 : Int) (x5 : Int) (x6 : Bool) (x7 : (List Int)) (x8 : (List Int)) : evalCode tab (Gg171_2d4 f121_cf0) (J171_2d4_0 fuel) kp171_2d4 fuel (bodyOf 0 Tryz.f171) (T171_2d4_0 (x0, x1, x2, x3, x4, x5, x6, x7, x8)) (lc kp171_2d4 2 0 R K) = (fun (c : ((List (Int × Int)) × Int × Int × Int × Int × Int × Bool × (List Int) × (List Int)) → Option Ans) (B : (Int × Int × Int × Int × Bool × (List Int) × (List Int) → Option Ans) × (Int × Int × Int × Bool × (List Int) × (List Int) → Option Ans)) => match B with
  | (ret, b) =>
   bif Decidable.decide (x2 < x1) then
      bif Decidable.decide ((0 : Int) ≤ x2 ∧ x2 < (↑x0.length : Int)) then
      (f121_cf0 ((x0.getD x2.toNat ((0 : Int), (0 : Int))).fst) ((x0.getD x2.toNat ((0 : Int), (0 : Int))).snd) (x3) (x4) (x5) (x6) (x7) (x8)
         (fun (y4_0, y4_1, y4_2, y4_3, y4_4, y4_5, y4_6) =>
           bif y4_0 != (0 : Int) then
            ret (y4_0, y4_1, y4_2, y4_3, y4_4, y4_5, y4_6)
           else
            c (x0, x1, Go.IntKind.i64.wrap (x2 + (1 : Int)), y4_1, y4_2, y4_3, y4_4, y4_5, y4_6))
         (fun (y4_0, y4_1, y4_2, y4_3, y4_4, y4_5, y4_6) =>
           bif y4_0 != (0 : Int) then
            ret (y4_0, y4_1, y4_2, y4_3, y4_4, y4_5, y4_6)
           else
            c (x0, x1, Go.IntKind.i64.wrap (x2 + (1 : Int)), y4_1, y4_2, y4_3, y4_4, y4_5, y4_6)))
      else none
     else
      b (x3, x4, x5, x6, x7, x8)) (fun v => R (T171_2d4_0 v)) (E171_2d4_0 K) := by
  kernel_rfl
theorem S171_2d4_0_ok (fuel : Nat) (R : Ev.St → Option Ans) (K : Ev.Ex → Ev.St → Option Ans) (x0 : (List (Int × Int))) (x1 : Int) (x2 : Int) (x3 : Int) (x4 : Int) (x5 : Int) (x6 : Bool) (x7 : (List Int)) (x8 : (List Int)) : evalCode tab (G171_2d4 fuel) (J171_2d4_0 fuel) kp171_2d4 fuel (bodyOf 0 Tryz.f171) (T171_2d4_0 (x0, x1, x2, x3, x4, x5, x6, x7, x8)) (lc kp171_2d4 2 0 R K) = S_number_put_2d4_0 fuel (x0, x1, x2, x3, x4, x5, x6, x7, x8) (fun v => R (T171_2d4_0 v)) (E171_2d4_0 K) :=
  S171_2d4_0_okg fuel (F_coder_Encoder_Put_cf0 fuel) R K x0 x1 x2 x3 x4 x5 x6 x7 x8
noncomputable def B171_2d4_0 (fuel : Nat) : Ev.Blk := fun st K => match canonO (kp171_2d4 2) st with
  | some s => (match s with
    | ⟨[(q0, .c (.ptr q1 q2)), (q3, .c (.sl (.pair (.int .i64) (.int .i64)) x0)), (q4, .c (.int .i64 x1)), (q5, .c (.int .i64 x2))], [(q6, .cells q7 cs0), (q8, .vec q9 (.int .i64) x7 false), (q10, .vec q11 (.int .u8) x8 true)], q12, q13⟩ => (match splitRun 2 [(.i64, 2048), (.i64, 1792), (.i64, 1568), (.i64, 1372), (.i64, 1201), (.i64, 1051), (.i64, 920), (.i64, 805), (.i64, 705), (.i64, 617), (.i64, 540), (.i64, 473), (.i64, 414), (.i64, 363), (.i64, 318), (.i64, 279), (.i64, 245), (.i64, 215), (.i64, 189), (.i64, 166), (.i64, 146), (.i64, 128), (.i64, 112), (.i64, 98), (.i64, 86), (.i64, 76), (.i64, 67), (.i64, 59), (.i64, 52), (.i64, 46), (.i64, 41), (.i64, 36)] cs0 with | some ([.int .i64 x3, .own q14], [.int .u64 x4, .int .u64 x5, .own q15, .bool x6]) => bif Nat.beq q0 0 && Nat.beq q1 0 && Nat.beq q2 0 && Nat.beq q3 8 && Nat.beq q4 9 && Nat.beq q5 10 && Nat.beq q6 0 && Nat.beq q7 173 && Nat.beq q8 1 && Nat.beq q9 3 && Nat.beq q10 2 && Nat.beq q11 5 && Nat.beq q12 3 && Nat.beq q13 3 && Nat.beq q14 1 && Nat.beq q15 2 then iter (S_number_put_2d4_0 fuel) fuel (x0, x1, x2, x3, x4, x5, x6, x7, x8) (E171_2d4_0 K) else none | _ => none)
    | _ => none)
  | none => none
theorem B171_2d4_0_ok (fuel : Nat) (st : Ev.St) (K : Ev.Ex → Ev.St → Option Ans) (r : Ans) (h : B171_2d4_0 fuel st K = some r) : evalCode tab (G171_2d4 fuel) (J171_2d4_0 fuel) kp171_2d4 fuel (.block 0 (.loop (bodyOf 0 Tryz.f171))) st K = some r := by
  unfold B171_2d4_0 at h
  split at h
  · rename_i s hs
    split at h
    · skip
      split at h
      rotate_left 1
      · cases h
      rename_i hsp
      have esp := splitRun_eq hsp
      subst esp
      obtain ⟨hb, h⟩ := cond_some' h
      simp only [Bool.and_eq_true, Nat.beq_eq, decide_eq_true_eq] at hb
      obtain ⟨⟨⟨⟨⟨⟨⟨⟨⟨⟨⟨⟨⟨⟨⟨rfl, rfl⟩, rfl⟩, rfl⟩, rfl⟩, rfl⟩, rfl⟩, rfl⟩, rfl⟩, rfl⟩, rfl⟩, rfl⟩, rfl⟩, rfl⟩, rfl⟩, rfl⟩ := hb
      exact blk_loop (S := T171_2d4_0) (ks := E171_2d4_0) (step := S_number_put_2d4_0 fuel) (v := (_, _, _, _, _, _, _, _, _)) (by kernel_rfl) (by kernel_rfl) (fun R K v => by obtain ⟨x0, x1, x2, x3, x4, x5, x6, x7, x8⟩ := v; exact S171_2d4_0_ok fuel R K x0 x1 x2 x3 x4 x5 x6 x7 x8) hs h
    · cases h
  · cases h
noncomputable def J171_2d4 (fuel : Nat) (i : Nat) : Option Ev.Blk := Ev.look i [(100000, B171_2d4_0 fuel)]
noncomputable def F_number_put_2d4 (fuel : Nat) (x0 : (List (Int × Int))) (x1 : Int) (x2 : Int) (x3 : Int) (x4 : Bool) (x5 : (List Int)) (x6 : (List Int)) (k0 : (Int × Int × Int × Int × Bool × (List Int) × (List Int)) → Option Ans) : Option Ans :=
  (L_number_put_2d4_0 fuel (x0, (↑x0.length : Int), (0 : Int), x1, x2, x3, x4, x5, x6)
    (fun (ret0_0, ret0_1, ret0_2, ret0_3, ret0_4, ret0_5, ret0_6) =>
      k0 (ret0_0, ret0_1, ret0_2, ret0_3, ret0_4, ret0_5, ret0_6))
    (fun (b0_0, b0_1, b0_2, b0_3, b0_4, b0_5) =>
      k0 ((0 : Int), b0_0, b0_1, b0_2, b0_3, b0_4, b0_5)))
abbrev YF171_2d4 : Type := ((List (Int × Int))) → (Int) → (Int) → (Int) → (Bool) → ((List Int)) → ((List Int)) → ((Int × Int × Int × Int × Bool × (List Int) × (List Int)) → Option Ans) → Option Ans
theorem F171_2d4_eqg (fuel : Nat) (f121_cf0 : YF121_cf0) (x0 : (List (Int × Int))) (x1 : Int) (x2 : Int) (x3 : Int) (x4 : Bool) (x5 : (List Int)) (x6 : (List Int)) (k : Ev.Cont) : evalFn tab (Gg171_2d4 f121_cf0) (J171_2d4 fuel) kp171_2d4 fuel Tryz.f171 [.c (.ptr 0 0), .c (.sl (.pair (.int .i64) (.int .i64)) x0)] [.cells 173 (.int .i64 x1 :: .own 1 :: .int .i64 2048 :: .int .i64 1792 :: .int .i64 1568 :: .int .i64 1372 :: .int .i64 1201 :: .int .i64 1051 :: .int .i64 920 :: .int .i64 805 :: .int .i64 705 :: .int .i64 617 :: .int .i64 540 :: .int .i64 473 :: .int .i64 414 :: .int .i64 363 :: .int .i64 318 :: .int .i64 279 :: .int .i64 245 :: .int .i64 215 :: .int .i64 189 :: .int .i64 166 :: .int .i64 146 :: .int .i64 128 :: .int .i64 112 :: .int .i64 98 :: .int .i64 86 :: .int .i64 76 :: .int .i64 67 :: .int .i64 59 :: .int .i64 52 :: .int .i64 46 :: .int .i64 41 :: .int .i64 36 :: .int .u64 x2 :: .int .u64 x3 :: .own 2 :: .bool x4 :: []), .vec 3 (.int .i64) x5 false, .vec 5 (.int .u8) x6 false] k = (fun  (k0 : (Int × Int × Int × Int × Bool × (List Int) × (List Int)) → Option Ans) =>
  (L_number_put_2d4_0 fuel (x0, (↑x0.length : Int), (0 : Int), x1, x2, x3, x4, x5, x6)
    (fun (ret0_0, ret0_1, ret0_2, ret0_3, ret0_4, ret0_5, ret0_6) =>
      k0 (ret0_0, ret0_1, ret0_2, ret0_3, ret0_4, ret0_5, ret0_6))
    (fun (b0_0, b0_1, b0_2, b0_3, b0_4, b0_5) =>
      k0 ((0 : Int), b0_0, b0_1, b0_2, b0_3, b0_4, b0_5)))) (fun r => match r with | (r0, r1, r2, r3, r4, r5, r6) => k (.c (.int .i64 r0), [.cells 173 (.int .i64 r1 :: .own 1 :: .int .i64 2048 :: .int .i64 1792 :: .int .i64 1568 :: .int .i64 1372 :: .int .i64 1201 :: .int .i64 1051 :: .int .i64 920 :: .int .i64 805 :: .int .i64 705 :: .int .i64 617 :: .int .i64 540 :: .int .i64 473 :: .int .i64 414 :: .int .i64 363 :: .int .i64 318 :: .int .i64 279 :: .int .i64 245 :: .int .i64 215 :: .int .i64 189 :: .int .i64 166 :: .int .i64 146 :: .int .i64 128 :: .int .i64 112 :: .int .i64 98 :: .int .i64 86 :: .int .i64 76 :: .int .i64 67 :: .int .i64 59 :: .int .i64 52 :: .int .i64 46 :: .int .i64 41 :: .int .i64 36 :: .int .u64 r2 :: .int .u64 r3 :: .own 2 :: .bool r4 :: []), .vec 3 (.int .i64) r5 false, .vec 5 (.int .u8) r6 true])) := by
  kernel_rfl
theorem F171_2d4_eq (fuel : Nat) (x0 : (List (Int × Int))) (x1 : Int) (x2 : Int) (x3 : Int) (x4 : Bool) (x5 : (List Int)) (x6 : (List Int)) (k : Ev.Cont) : evalFn tab (G171_2d4 fuel) (J171_2d4 fuel) kp171_2d4 fuel Tryz.f171 [.c (.ptr 0 0), .c (.sl (.pair (.int .i64) (.int .i64)) x0)] [.cells 173 (.int .i64 x1 :: .own 1 :: .int .i64 2048 :: .int .i64 1792 :: .int .i64 1568 :: .int .i64 1372 :: .int .i64 1201 :: .int .i64 1051 :: .int .i64 920 :: .int .i64 805 :: .int .i64 705 :: .int .i64 617 :: .int .i64 540 :: .int .i64 473 :: .int .i64 414 :: .int .i64 363 :: .int .i64 318 :: .int .i64 279 :: .int .i64 245 :: .int .i64 215 :: .int .i64 189 :: .int .i64 166 :: .int .i64 146 :: .int .i64 128 :: .int .i64 112 :: .int .i64 98 :: .int .i64 86 :: .int .i64 76 :: .int .i64 67 :: .int .i64 59 :: .int .i64 52 :: .int .i64 46 :: .int .i64 41 :: .int .i64 36 :: .int .u64 x2 :: .int .u64 x3 :: .own 2 :: .bool x4 :: []), .vec 3 (.int .i64) x5 false, .vec 5 (.int .u8) x6 false] k = F_number_put_2d4 fuel x0 x1 x2 x3 x4 x5 x6 (fun r => match r with | (r0, r1, r2, r3, r4, r5, r6) => k (.c (.int .i64 r0), [.cells 173 (.int .i64 r1 :: .own 1 :: .int .i64 2048 :: .int .i64 1792 :: .int .i64 1568 :: .int .i64 1372 :: .int .i64 1201 :: .int .i64 1051 :: .int .i64 920 :: .int .i64 805 :: .int .i64 705 :: .int .i64 617 :: .int .i64 540 :: .int .i64 473 :: .int .i64 414 :: .int .i64 363 :: .int .i64 318 :: .int .i64 279 :: .int .i64 245 :: .int .i64 215 :: .int .i64 189 :: .int .i64 166 :: .int .i64 146 :: .int .i64 128 :: .int .i64 112 :: .int .i64 98 :: .int .i64 86 :: .int .i64 76 :: .int .i64 67 :: .int .i64 59 :: .int .i64 52 :: .int .i64 46 :: .int .i64 41 :: .int .i64 36 :: .int .u64 r2 :: .int .u64 r3 :: .own 2 :: .bool r4 :: []), .vec 3 (.int .i64) r5 false, .vec 5 (.int .u8) r6 true])) :=
  F171_2d4_eqg fuel (F_coder_Encoder_Put_cf0 fuel) x0 x1 x2 x3 x4 x5 x6 k
theorem hG171_2d4 (fuel : Nat) : GOK Tryz.prog (G171_2d4 fuel) :=
  gok_cons ⟨ok121_cf0 fuel, enters_of Tryz.func121 (by kernel_rfl) rfl⟩ <|
  gok_nil
theorem B171_2d4_0_blk (fuel : Nat) : BlkOK Tryz.prog Tryz.f171.ntmps (.block 0 (.loop (bodyOf 0 Tryz.f171))) (B171_2d4_0 fuel) :=
  blk_of (blk_of_code tab_ok (hG171_2d4 fuel) mixed (J := J171_2d4_0 fuel) (kp := kp171_2d4) (fuel := fuel) (by kernel_rfl) (fun q hq => by
    rw [(by kernel_rfl : obl (J171_2d4_0 fuel) (.block 0 (.loop (bodyOf 0 Tryz.f171))) = [])] at hq
    cases hq)) (B171_2d4_0_ok fuel)
theorem fok171_2d4 (fuel : Nat) : FnOK Tryz.prog 171 (evalFn tab (G171_2d4 fuel) (J171_2d4 fuel) kp171_2d4 fuel Tryz.f171) :=
  fn_ok tab_ok (hG171_2d4 fuel) mixed Tryz.func171 (c := (Tryz.f171.body).getD .skip) rfl (fun q hq => by
    rw [(by kernel_rfl : obl (J171_2d4 fuel) ((Tryz.f171.body).getD .skip) = [(.block 0 (.loop (bodyOf 0 Tryz.f171)), B171_2d4_0 fuel)])] at hq
    simp only [List.mem_cons, List.not_mem_nil, or_false] at hq
    subst hq
    · exact B171_2d4_0_blk fuel)
noncomputable def mt171_2d4 : List Ev.SV → List Ev.Ob → Bool := fun args objs => match args, objs with
  | [.c (.ptr q0 q1), .c (.sl (.pair (.int .i64) (.int .i64)) _)], [.cells q2 cs0, .vec q3 (.int .i64) _ false, .vec q4 (.int .u8) _ false] => (match splitRun 2 [(.i64, 2048), (.i64, 1792), (.i64, 1568), (.i64, 1372), (.i64, 1201), (.i64, 1051), (.i64, 920), (.i64, 805), (.i64, 705), (.i64, 617), (.i64, 540), (.i64, 473), (.i64, 414), (.i64, 363), (.i64, 318), (.i64, 279), (.i64, 245), (.i64, 215), (.i64, 189), (.i64, 166), (.i64, 146), (.i64, 128), (.i64, 112), (.i64, 98), (.i64, 86), (.i64, 76), (.i64, 67), (.i64, 59), (.i64, 52), (.i64, 46), (.i64, 41), (.i64, 36)] cs0 with | some ([.int .i64 _, .own q5], [.int .u64 _, .int .u64 _, .own q6, .bool _]) => Nat.beq q0 0 && Nat.beq q1 0 && Nat.beq q2 173 && Nat.beq q3 3 && Nat.beq q4 5 && Nat.beq q5 1 && Nat.beq q6 2 | _ => false)
  | _, _ => false
noncomputable def spg171_2d4 (F : YF171_2d4) : Ev.Spec := fun args objs k => match args, objs with
  | [.c (.ptr q0 q1), .c (.sl (.pair (.int .i64) (.int .i64)) x0)], [.cells q2 cs0, .vec q3 (.int .i64) x5 false, .vec q4 (.int .u8) x6 false] => (match splitRun 2 [(.i64, 2048), (.i64, 1792), (.i64, 1568), (.i64, 1372), (.i64, 1201), (.i64, 1051), (.i64, 920), (.i64, 805), (.i64, 705), (.i64, 617), (.i64, 540), (.i64, 473), (.i64, 414), (.i64, 363), (.i64, 318), (.i64, 279), (.i64, 245), (.i64, 215), (.i64, 189), (.i64, 166), (.i64, 146), (.i64, 128), (.i64, 112), (.i64, 98), (.i64, 86), (.i64, 76), (.i64, 67), (.i64, 59), (.i64, 52), (.i64, 46), (.i64, 41), (.i64, 36)] cs0 with | some ([.int .i64 x1, .own q5], [.int .u64 x2, .int .u64 x3, .own q6, .bool x4]) => bif Nat.beq q0 0 && Nat.beq q1 0 && Nat.beq q2 173 && Nat.beq q3 3 && Nat.beq q4 5 && Nat.beq q5 1 && Nat.beq q6 2 then F x0 x1 x2 x3 x4 x5 x6 (fun r => match r with | (r0, r1, r2, r3, r4, r5, r6) => k (.c (.int .i64 r0), [.cells 173 (.int .i64 r1 :: .own 1 :: .int .i64 2048 :: .int .i64 1792 :: .int .i64 1568 :: .int .i64 1372 :: .int .i64 1201 :: .int .i64 1051 :: .int .i64 920 :: .int .i64 805 :: .int .i64 705 :: .int .i64 617 :: .int .i64 540 :: .int .i64 473 :: .int .i64 414 :: .int .i64 363 :: .int .i64 318 :: .int .i64 279 :: .int .i64 245 :: .int .i64 215 :: .int .i64 189 :: .int .i64 166 :: .int .i64 146 :: .int .i64 128 :: .int .i64 112 :: .int .i64 98 :: .int .i64 86 :: .int .i64 76 :: .int .i64 67 :: .int .i64 59 :: .int .i64 52 :: .int .i64 46 :: .int .i64 41 :: .int .i64 36 :: .int .u64 r2 :: .int .u64 r3 :: .own 2 :: .bool r4 :: []), .vec 3 (.int .i64) r5 false, .vec 5 (.int .u8) r6 true])) else none | _ => none)
  | _, _ => none
noncomputable def spec171_2d4 (fuel : Nat) : Ev.Spec := spg171_2d4 (F_number_put_2d4 fuel)
theorem ok171_2d4 (fuel : Nat) : FnOK Tryz.prog 171 (spec171_2d4 fuel) := by
  intro args objs kk r h
  unfold spec171_2d4 spg171_2d4 at h
  split at h
  · skip
    split at h
    rotate_left 1
    · cases h
    rename_i hsp
    have esp := splitRun_eq hsp
    subst esp
    obtain ⟨hb, h⟩ := cond_some' h
    simp only [Bool.and_eq_true, Nat.beq_eq, decide_eq_true_eq] at hb
    obtain ⟨⟨⟨⟨⟨⟨rfl, rfl⟩, rfl⟩, rfl⟩, rfl⟩, rfl⟩, rfl⟩ := hb
    exact fok171_2d4 fuel _ _ kk r ((F171_2d4_eq fuel _ _ _ _ _ _ _ kk).trans h)
  · cases h
end Go.Proofs.YtipdidpalcmlhaaGreat

set_option linter.unusedVariables false
set_option linter.unusedSimpArgs false
set_option maxRecDepth 100000
set_option maxHeartbeats 2000000
namespace Go.Proofs.YtipdidpalcmlhaaGreat
open Go Ev
def kp81_856 (i : Nat) : Option (List Nat) := Ev.look i [(600000, [])]
noncomputable def Gg81_856 (f121_cf0 : YF121_cf0) (f126_a20 : YF126_a20) (f169 : YF169) (f170 : YF170) (f171_2d4 : YF171_2d4) (f172 : YF172) (f : Nat) : Option Ev.Spec := Ev.look f [(121, spg121_cf0 f121_cf0), (126, spg126_a20 f126_a20), (169, spg169 f169), (170, spg170 f170), (171, spg171_2d4 f171_2d4), (172, spg172 f172)]
noncomputable def G81_856 (fuel : Nat) : Nat → Option Ev.Spec := Gg81_856 (F_coder_Encoder_Put_cf0 fuel) (F_coder_Encoder_Model_a20 fuel) (F_number_Valid fuel) (F_number_fits fuel) (F_number_put_2d4 fuel) (F_number_events fuel)
noncomputable def J81_856 (fuel : Nat) (i : Nat) : Option Ev.Blk := Ev.look i []
noncomputable def F_number_Put_856 (fuel : Nat) (x0 : Int) (x1 : Bool) (x2 : Int) (x3 : Int) (x4 : Int) (x5 : Int) (x6 : Bool) (x7 : (List Int)) (x8 : (List Int)) (k0 : (Int × Int × Int × Int × Bool × (List Int) × (List Int)) → Option Ans) : Option Ans :=
  (F_coder_Encoder_Put_cf0 fuel ((-1 : Int)) ((0 : Int)) (x3) (x4) (x5) (x6) (x7) (x8)
    (fun (y2_0, y2_1, y2_2, y2_3, y2_4, y2_5, y2_6) =>
      bif y2_0 == (7 : Int) then
       k0 ((7 : Int), y2_1, y2_2, y2_3, y2_4, y2_5, y2_6)
      else
       (F_number_Valid fuel (x1) (x2)
         (fun y7 =>
           bif !y7 then
            k0 ((2 : Int), y2_1, y2_2, y2_3, y2_4, y2_5, y2_6)
           else
            (F_coder_Encoder_Model_a20 fuel (y2_1) (y2_2) (y2_3) (y2_4) (y2_5) (y2_6)
              (fun (y12_0, y12_1, y12_2, y12_3, y12_4, y12_5, y12_6, y12_7) =>
                (F_number_fits fuel (y12_0) (y12_7) (x0) ((48 : Int))
                  (fun y16 =>
                    bif y16 != (0 : Int) then
                     k0 (y16, y12_1, y12_2, y12_3, y12_4, y12_5, y12_6)
                    else
                     (F_number_events fuel (x0) (x1) (x2)
                       (fun y21 =>
                         (F_number_put_2d4 fuel (y21) (y12_1) (y12_2) (y12_3) (y12_4) (y12_5) (y12_6)
                           (fun (y25_0, y25_1, y25_2, y25_3, y25_4, y25_5, y25_6) =>
                             k0 (y25_0, y25_1, y25_2, y25_3, y25_4, y25_5, y25_6))))))))))))
    (fun (y2_0, y2_1, y2_2, y2_3, y2_4, y2_5, y2_6) =>
      bif y2_0 == (7 : Int) then
       k0 ((7 : Int), y2_1, y2_2, y2_3, y2_4, y2_5, y2_6)
      else
       (F_number_Valid fuel (x1) (x2)
         (fun y7 =>
           bif !y7 then
            k0 ((2 : Int), y2_1, y2_2, y2_3, y2_4, y2_5, y2_6)
           else
            (F_coder_Encoder_Model_a20 fuel (y2_1) (y2_2) (y2_3) (y2_4) (y2_5) (y2_6)
              (fun (y12_0, y12_1, y12_2, y12_3, y12_4, y12_5, y12_6, y12_7) =>
                (F_number_fits fuel (y12_0) (y12_7) (x0) ((48 : Int))
                  (fun y16 =>
                    bif y16 != (0 : Int) then
                     k0 (y16, y12_1, y12_2, y12_3, y12_4, y12_5, y12_6)
                    else
                     (F_number_events fuel (x0) (x1) (x2)
                       (fun y21 =>
                         (F_number_put_2d4 fuel (y21) (y12_1) (y12_2) (y12_3) (y12_4) (y12_5) (y12_6)
                           (fun (y25_0, y25_1, y25_2, y25_3, y25_4, y25_5, y25_6) =>
                             k0 (y25_0, y25_1, y25_2, y25_3, y25_4, y25_5, y25_6)))))))))))))
abbrev YF81_856 : Type := (Int) → (Bool) → (Int) → (Int) → (Int) → (Int) → (Bool) → ((List Int)) → ((List Int)) → ((Int × Int × Int × Int × Bool × (List Int) × (List Int)) → Option Ans) → Option Ans
theorem F81_856_eqg (fuel : Nat) (f121_cf0 : YF121_cf0) (f126_a20 : YF126_a20) (f169 : YF169) (f170 : YF170) (f171_2d4 : YF171_2d4) (f172 : YF172) (x0 : Int) (x1 : Bool) (x2 : Int) (x3 : Int) (x4 : Int) (x5 : Int) (x6 : Bool) (x7 : (List Int)) (x8 : (List Int)) (k : Ev.Cont) : evalFn tab (Gg81_856 f121_cf0 f126_a20 f169 f170 f171_2d4 f172) (J81_856 fuel) kp81_856 fuel Tryz.f81 [.c (.ptr 0 0), .c (.int .i64 x0), .agg [.bool x1, .int .i64 x2]] [.cells 173 (.int .i64 x3 :: .own 1 :: .int .i64 2048 :: .int .i64 1792 :: .int .i64 1568 :: .int .i64 1372 :: .int .i64 1201 :: .int .i64 1051 :: .int .i64 920 :: .int .i64 805 :: .int .i64 705 :: .int .i64 617 :: .int .i64 540 :: .int .i64 473 :: .int .i64 414 :: .int .i64 363 :: .int .i64 318 :: .int .i64 279 :: .int .i64 245 :: .int .i64 215 :: .int .i64 189 :: .int .i64 166 :: .int .i64 146 :: .int .i64 128 :: .int .i64 112 :: .int .i64 98 :: .int .i64 86 :: .int .i64 76 :: .int .i64 67 :: .int .i64 59 :: .int .i64 52 :: .int .i64 46 :: .int .i64 41 :: .int .i64 36 :: .int .u64 x4 :: .int .u64 x5 :: .own 2 :: .bool x6 :: []), .vec 3 (.int .i64) x7 false, .vec 5 (.int .u8) x8 false] (wkC [1000002] k) = (fun  (k0 : (Int × Int × Int × Int × Bool × (List Int) × (List Int)) → Option Ans) =>
  (f121_cf0 ((-1 : Int)) ((0 : Int)) (x3) (x4) (x5) (x6) (x7) (x8)
    (fun (y2_0, y2_1, y2_2, y2_3, y2_4, y2_5, y2_6) =>
      bif y2_0 == (7 : Int) then
       k0 ((7 : Int), y2_1, y2_2, y2_3, y2_4, y2_5, y2_6)
      else
       (f169 (x1) (x2)
         (fun y7 =>
           bif !y7 then
            k0 ((2 : Int), y2_1, y2_2, y2_3, y2_4, y2_5, y2_6)
           else
            (f126_a20 (y2_1) (y2_2) (y2_3) (y2_4) (y2_5) (y2_6)
              (fun (y12_0, y12_1, y12_2, y12_3, y12_4, y12_5, y12_6, y12_7) =>
                (f170 (y12_0) (y12_7) (x0) ((48 : Int))
                  (fun y16 =>
                    bif y16 != (0 : Int) then
                     k0 (y16, y12_1, y12_2, y12_3, y12_4, y12_5, y12_6)
                    else
                     (f172 (x0) (x1) (x2)
                       (fun y21 =>
                         (f171_2d4 (y21) (y12_1) (y12_2) (y12_3) (y12_4) (y12_5) (y12_6)
                           (fun (y25_0, y25_1, y25_2, y25_3, y25_4, y25_5, y25_6) =>
                             k0 (y25_0, y25_1, y25_2, y25_3, y25_4, y25_5, y25_6))))))))))))
    (fun (y2_0, y2_1, y2_2, y2_3, y2_4, y2_5, y2_6) =>
      bif y2_0 == (7 : Int) then
       k0 ((7 : Int), y2_1, y2_2, y2_3, y2_4, y2_5, y2_6)
      else
       (f169 (x1) (x2)
         (fun y7 =>
           bif !y7 then
            k0 ((2 : Int), y2_1, y2_2, y2_3, y2_4, y2_5, y2_6)
           else
            (f126_a20 (y2_1) (y2_2) (y2_3) (y2_4) (y2_5) (y2_6)
              (fun (y12_0, y12_1, y12_2, y12_3, y12_4, y12_5, y12_6, y12_7) =>
                (f170 (y12_0) (y12_7) (x0) ((48 : Int))
                  (fun y16 =>
                    bif y16 != (0 : Int) then
                     k0 (y16, y12_1, y12_2, y12_3, y12_4, y12_5, y12_6)
                    else
                     (f172 (x0) (x1) (x2)
                       (fun y21 =>
                         (f171_2d4 (y21) (y12_1) (y12_2) (y12_3) (y12_4) (y12_5) (y12_6)
                           (fun (y25_0, y25_1, y25_2, y25_3, y25_4, y25_5, y25_6) =>
                             k0 (y25_0, y25_1, y25_2, y25_3, y25_4, y25_5, y25_6)))))))))))))) (fun r => match r with | (r0, r1, r2, r3, r4, r5, r6) => k (.c (.int .i64 r0), [.cells 173 (.int .i64 r1 :: .own 1 :: .int .i64 2048 :: .int .i64 1792 :: .int .i64 1568 :: .int .i64 1372 :: .int .i64 1201 :: .int .i64 1051 :: .int .i64 920 :: .int .i64 805 :: .int .i64 705 :: .int .i64 617 :: .int .i64 540 :: .int .i64 473 :: .int .i64 414 :: .int .i64 363 :: .int .i64 318 :: .int .i64 279 :: .int .i64 245 :: .int .i64 215 :: .int .i64 189 :: .int .i64 166 :: .int .i64 146 :: .int .i64 128 :: .int .i64 112 :: .int .i64 98 :: .int .i64 86 :: .int .i64 76 :: .int .i64 67 :: .int .i64 59 :: .int .i64 52 :: .int .i64 46 :: .int .i64 41 :: .int .i64 36 :: .int .u64 r2 :: .int .u64 r3 :: .own 2 :: .bool r4 :: []), .vec 3 (.int .i64) r5 false, .vec 5 (.int .u8) r6 true])) := by
  kernel_rfl
theorem F81_856_eq (fuel : Nat) (x0 : Int) (x1 : Bool) (x2 : Int) (x3 : Int) (x4 : Int) (x5 : Int) (x6 : Bool) (x7 : (List Int)) (x8 : (List Int)) (k : Ev.Cont) : evalFn tab (G81_856 fuel) (J81_856 fuel) kp81_856 fuel Tryz.f81 [.c (.ptr 0 0), .c (.int .i64 x0), .agg [.bool x1, .int .i64 x2]] [.cells 173 (.int .i64 x3 :: .own 1 :: .int .i64 2048 :: .int .i64 1792 :: .int .i64 1568 :: .int .i64 1372 :: .int .i64 1201 :: .int .i64 1051 :: .int .i64 920 :: .int .i64 805 :: .int .i64 705 :: .int .i64 617 :: .int .i64 540 :: .int .i64 473 :: .int .i64 414 :: .int .i64 363 :: .int .i64 318 :: .int .i64 279 :: .int .i64 245 :: .int .i64 215 :: .int .i64 189 :: .int .i64 166 :: .int .i64 146 :: .int .i64 128 :: .int .i64 112 :: .int .i64 98 :: .int .i64 86 :: .int .i64 76 :: .int .i64 67 :: .int .i64 59 :: .int .i64 52 :: .int .i64 46 :: .int .i64 41 :: .int .i64 36 :: .int .u64 x4 :: .int .u64 x5 :: .own 2 :: .bool x6 :: []), .vec 3 (.int .i64) x7 false, .vec 5 (.int .u8) x8 false] (wkC [1000002] k) = F_number_Put_856 fuel x0 x1 x2 x3 x4 x5 x6 x7 x8 (fun r => match r with | (r0, r1, r2, r3, r4, r5, r6) => k (.c (.int .i64 r0), [.cells 173 (.int .i64 r1 :: .own 1 :: .int .i64 2048 :: .int .i64 1792 :: .int .i64 1568 :: .int .i64 1372 :: .int .i64 1201 :: .int .i64 1051 :: .int .i64 920 :: .int .i64 805 :: .int .i64 705 :: .int .i64 617 :: .int .i64 540 :: .int .i64 473 :: .int .i64 414 :: .int .i64 363 :: .int .i64 318 :: .int .i64 279 :: .int .i64 245 :: .int .i64 215 :: .int .i64 189 :: .int .i64 166 :: .int .i64 146 :: .int .i64 128 :: .int .i64 112 :: .int .i64 98 :: .int .i64 86 :: .int .i64 76 :: .int .i64 67 :: .int .i64 59 :: .int .i64 52 :: .int .i64 46 :: .int .i64 41 :: .int .i64 36 :: .int .u64 r2 :: .int .u64 r3 :: .own 2 :: .bool r4 :: []), .vec 3 (.int .i64) r5 false, .vec 5 (.int .u8) r6 true])) :=
  F81_856_eqg fuel (F_coder_Encoder_Put_cf0 fuel) (F_coder_Encoder_Model_a20 fuel) (F_number_Valid fuel) (F_number_fits fuel) (F_number_put_2d4 fuel) (F_number_events fuel) x0 x1 x2 x3 x4 x5 x6 x7 x8 k
theorem hG81_856 (fuel : Nat) : GOK Tryz.prog (G81_856 fuel) :=
  gok_cons ⟨ok121_cf0 fuel, enters_of Tryz.func121 (by kernel_rfl) rfl⟩ <|
  gok_cons ⟨ok126_a20 fuel, enters_of Tryz.func126 (by kernel_rfl) rfl⟩ <|
  gok_cons ⟨ok169 fuel, enters_of Tryz.func169 (by kernel_rfl) rfl⟩ <|
  gok_cons ⟨ok170 fuel, enters_of Tryz.func170 (by kernel_rfl) rfl⟩ <|
  gok_cons ⟨ok171_2d4 fuel, enters_of Tryz.func171 (by kernel_rfl) rfl⟩ <|
  gok_cons ⟨ok172 fuel, enters_of Tryz.func172 (by kernel_rfl) rfl⟩ <|
  gok_nil
theorem fok81_856 (fuel : Nat) : FnOK Tryz.prog 81 (evalFn tab (G81_856 fuel) (J81_856 fuel) kp81_856 fuel Tryz.f81) :=
  fn_ok tab_ok (hG81_856 fuel) mixed Tryz.func81 (c := (Tryz.f81.body).getD .skip) rfl (fun q hq => by
    rw [(by kernel_rfl : obl (J81_856 fuel) ((Tryz.f81.body).getD .skip) = [])] at hq
    cases hq)
noncomputable def mt81_856 : List Ev.SV → List Ev.Ob → Bool := fun args objs => match args, objs with
  | [.c (.ptr q0 q1), .c (.int .i64 _), .agg [.bool _, .int .i64 _]], [.cells q2 cs0, .vec q3 (.int .i64) _ false, .vec q4 (.int .u8) _ false] => (match splitRun 2 [(.i64, 2048), (.i64, 1792), (.i64, 1568), (.i64, 1372), (.i64, 1201), (.i64, 1051), (.i64, 920), (.i64, 805), (.i64, 705), (.i64, 617), (.i64, 540), (.i64, 473), (.i64, 414), (.i64, 363), (.i64, 318), (.i64, 279), (.i64, 245), (.i64, 215), (.i64, 189), (.i64, 166), (.i64, 146), (.i64, 128), (.i64, 112), (.i64, 98), (.i64, 86), (.i64, 76), (.i64, 67), (.i64, 59), (.i64, 52), (.i64, 46), (.i64, 41), (.i64, 36)] cs0 with | some ([.int .i64 _, .own q5], [.int .u64 _, .int .u64 _, .own q6, .bool _]) => Nat.beq q0 0 && Nat.beq q1 0 && Nat.beq q2 173 && Nat.beq q3 3 && Nat.beq q4 5 && Nat.beq q5 1 && Nat.beq q6 2 | _ => false)
  | _, _ => false
noncomputable def spg81_856 (F : YF81_856) : Ev.Spec := fun args objs k => match args, objs with
  | [.c (.ptr q0 q1), .c (.int .i64 x0), .agg [.bool x1, .int .i64 x2]], [.cells q2 cs0, .vec q3 (.int .i64) x7 false, .vec q4 (.int .u8) x8 false] => (match splitRun 2 [(.i64, 2048), (.i64, 1792), (.i64, 1568), (.i64, 1372), (.i64, 1201), (.i64, 1051), (.i64, 920), (.i64, 805), (.i64, 705), (.i64, 617), (.i64, 540), (.i64, 473), (.i64, 414), (.i64, 363), (.i64, 318), (.i64, 279), (.i64, 245), (.i64, 215), (.i64, 189), (.i64, 166), (.i64, 146), (.i64, 128), (.i64, 112), (.i64, 98), (.i64, 86), (.i64, 76), (.i64, 67), (.i64, 59), (.i64, 52), (.i64, 46), (.i64, 41), (.i64, 36)] cs0 with | some ([.int .i64 x3, .own q5], [.int .u64 x4, .int .u64 x5, .own q6, .bool x6]) => bif Nat.beq q0 0 && Nat.beq q1 0 && Nat.beq q2 173 && Nat.beq q3 3 && Nat.beq q4 5 && Nat.beq q5 1 && Nat.beq q6 2 then F x0 x1 x2 x3 x4 x5 x6 x7 x8 (fun r => match r with | (r0, r1, r2, r3, r4, r5, r6) => k (.c (.int .i64 r0), [.cells 173 (.int .i64 r1 :: .own 1 :: .int .i64 2048 :: .int .i64 1792 :: .int .i64 1568 :: .int .i64 1372 :: .int .i64 1201 :: .int .i64 1051 :: .int .i64 920 :: .int .i64 805 :: .int .i64 705 :: .int .i64 617 :: .int .i64 540 :: .int .i64 473 :: .int .i64 414 :: .int .i64 363 :: .int .i64 318 :: .int .i64 279 :: .int .i64 245 :: .int .i64 215 :: .int .i64 189 :: .int .i64 166 :: .int .i64 146 :: .int .i64 128 :: .int .i64 112 :: .int .i64 98 :: .int .i64 86 :: .int .i64 76 :: .int .i64 67 :: .int .i64 59 :: .int .i64 52 :: .int .i64 46 :: .int .i64 41 :: .int .i64 36 :: .int .u64 r2 :: .int .u64 r3 :: .own 2 :: .bool r4 :: []), .vec 3 (.int .i64) r5 false, .vec 5 (.int .u8) r6 true])) else none | _ => none)
  | _, _ => none
noncomputable def spec81_856 (fuel : Nat) : Ev.Spec := spg81_856 (F_number_Put_856 fuel)
theorem ok81_856 (fuel : Nat) : FnOK Tryz.prog 81 (spec81_856 fuel) := by
  intro args objs kk r h
  unfold spec81_856 spg81_856 at h
  split at h
  · skip
    split at h
    rotate_left 1
    · cases h
    rename_i hsp
    have esp := splitRun_eq hsp
    subst esp
    obtain ⟨hb, h⟩ := cond_some' h
    simp only [Bool.and_eq_true, Nat.beq_eq, decide_eq_true_eq] at hb
    obtain ⟨⟨⟨⟨⟨⟨rfl, rfl⟩, rfl⟩, rfl⟩, rfl⟩, rfl⟩, rfl⟩ := hb
    exact (fok81_856 fuel).wk [1000002] _ _ kk r ((F81_856_eq fuel _ _ _ _ _ _ _ _ _ kk).trans h)
  · cases h
end Go.Proofs.YtipdidpalcmlhaaGreat

set_option linter.unusedVariables false
set_option linter.unusedSimpArgs false
set_option maxRecDepth 100000
set_option maxHeartbeats 2000000
namespace Go.Proofs.YtipdidpalcmlhaaGreat
open Go Ev
def kp222_40a (i : Nat) : Option (List Nat) := Ev.look i []
noncomputable def Gg222_40a (f : Nat) : Option Ev.Spec := Ev.look f []
noncomputable def G222_40a (fuel : Nat) : Nat → Option Ev.Spec := Gg222_40a
noncomputable def J222_40a (fuel : Nat) (i : Nat) : Option Ev.Blk := Ev.look i []
noncomputable def F_coder_Decoder_none_40a (fuel : Nat) (x0 : Int) (x1 : Int) (x2 : Int) (x3 : Int) (x4 : Int) (x5 : Int) (x6 : Bool) (x7 : Bool) (x8 : (List Int)) (x9 : (List Int)) (k0 : (Bool × Int × Int × Int × Int × Int × Int × Bool × Bool × (List Int) × (List Int)) → Option Ans) : Option Ans :=
  k0 (!x7, x0, x1, x2, x3, x4, x5, x6, x7, x8, x9)
abbrev YF222_40a : Type := (Int) → (Int) → (Int) → (Int) → (Int) → (Int) → (Bool) → (Bool) → ((List Int)) → ((List Int)) → ((Bool × Int × Int × Int × Int × Int × Int × Bool × Bool × (List Int) × (List Int)) → Option Ans) → Option Ans
theorem F222_40a_eq (fuel : Nat) (x0 : Int) (x1 : Int) (x2 : Int) (x3 : Int) (x4 : Int) (x5 : Int) (x6 : Bool) (x7 : Bool) (x8 : (List Int)) (x9 : (List Int)) (k : Ev.Cont) : evalFn tab (G222_40a fuel) (J222_40a fuel) kp222_40a fuel Tryz.f222 [.c (.ptr 0 0)] [.cells 194 (.int .i64 x0 :: .own 1 :: .int .i64 2048 :: .int .i64 1792 :: .int .i64 1568 :: .int .i64 1372 :: .int .i64 1201 :: .int .i64 1051 :: .int .i64 920 :: .int .i64 805 :: .int .i64 705 :: .int .i64 617 :: .int .i64 540 :: .int .i64 473 :: .int .i64 414 :: .int .i64 363 :: .int .i64 318 :: .int .i64 279 :: .int .i64 245 :: .int .i64 215 :: .int .i64 189 :: .int .i64 166 :: .int .i64 146 :: .int .i64 128 :: .int .i64 112 :: .int .i64 98 :: .int .i64 86 :: .int .i64 76 :: .int .i64 67 :: .int .i64 59 :: .int .i64 52 :: .int .i64 46 :: .int .i64 41 :: .int .i64 36 :: .int .u64 x1 :: .int .u64 x2 :: .own 2 :: .int .i64 x3 :: .int .u64 x4 :: .int .i64 x5 :: .bool x6 :: .bool x7 :: []), .vec 3 (.int .i64) x8 false, .vec 5 (.int .u8) x9 false] k = F_coder_Decoder_none_40a fuel x0 x1 x2 x3 x4 x5 x6 x7 x8 x9 (fun r => match r with | (r0, r1, r2, r3, r4, r5, r6, r7, r8, r9, r10) => k (.c (.bool r0), [.cells 194 (.int .i64 r1 :: .own 1 :: .int .i64 2048 :: .int .i64 1792 :: .int .i64 1568 :: .int .i64 1372 :: .int .i64 1201 :: .int .i64 1051 :: .int .i64 920 :: .int .i64 805 :: .int .i64 705 :: .int .i64 617 :: .int .i64 540 :: .int .i64 473 :: .int .i64 414 :: .int .i64 363 :: .int .i64 318 :: .int .i64 279 :: .int .i64 245 :: .int .i64 215 :: .int .i64 189 :: .int .i64 166 :: .int .i64 146 :: .int .i64 128 :: .int .i64 112 :: .int .i64 98 :: .int .i64 86 :: .int .i64 76 :: .int .i64 67 :: .int .i64 59 :: .int .i64 52 :: .int .i64 46 :: .int .i64 41 :: .int .i64 36 :: .int .u64 r2 :: .int .u64 r3 :: .own 2 :: .int .i64 r4 :: .int .u64 r5 :: .int .i64 r6 :: .bool r7 :: .bool r8 :: []), .vec 3 (.int .i64) r9 false, .vec 5 (.int .u8) r10 false])) := by
  kernel_rfl
theorem hG222_40a (fuel : Nat) : GOK Tryz.prog (G222_40a fuel) :=
  gok_nil
theorem fok222_40a (fuel : Nat) : FnOK Tryz.prog 222 (evalFn tab (G222_40a fuel) (J222_40a fuel) kp222_40a fuel Tryz.f222) :=
  fn_ok tab_ok (hG222_40a fuel) mixed Tryz.func222 (c := (Tryz.f222.body).getD .skip) rfl (fun q hq => by
    rw [(by kernel_rfl : obl (J222_40a fuel) ((Tryz.f222.body).getD .skip) = [])] at hq
    cases hq)
noncomputable def mt222_40a : List Ev.SV → List Ev.Ob → Bool := fun args objs => match args, objs with
  | [.c (.ptr q0 q1)], [.cells q2 cs0, .vec q3 (.int .i64) _ false, .vec q4 (.int .u8) _ false] => (match splitRun 2 [(.i64, 2048), (.i64, 1792), (.i64, 1568), (.i64, 1372), (.i64, 1201), (.i64, 1051), (.i64, 920), (.i64, 805), (.i64, 705), (.i64, 617), (.i64, 540), (.i64, 473), (.i64, 414), (.i64, 363), (.i64, 318), (.i64, 279), (.i64, 245), (.i64, 215), (.i64, 189), (.i64, 166), (.i64, 146), (.i64, 128), (.i64, 112), (.i64, 98), (.i64, 86), (.i64, 76), (.i64, 67), (.i64, 59), (.i64, 52), (.i64, 46), (.i64, 41), (.i64, 36)] cs0 with | some ([.int .i64 _, .own q5], [.int .u64 _, .int .u64 _, .own q6, .int .i64 _, .int .u64 _, .int .i64 _, .bool _, .bool _]) => Nat.beq q0 0 && Nat.beq q1 0 && Nat.beq q2 194 && Nat.beq q3 3 && Nat.beq q4 5 && Nat.beq q5 1 && Nat.beq q6 2 | _ => false)
  | _, _ => false
noncomputable def spg222_40a (F : YF222_40a) : Ev.Spec := fun args objs k => match args, objs with
  | [.c (.ptr q0 q1)], [.cells q2 cs0, .vec q3 (.int .i64) x8 false, .vec q4 (.int .u8) x9 false] => (match splitRun 2 [(.i64, 2048), (.i64, 1792), (.i64, 1568), (.i64, 1372), (.i64, 1201), (.i64, 1051), (.i64, 920), (.i64, 805), (.i64, 705), (.i64, 617), (.i64, 540), (.i64, 473), (.i64, 414), (.i64, 363), (.i64, 318), (.i64, 279), (.i64, 245), (.i64, 215), (.i64, 189), (.i64, 166), (.i64, 146), (.i64, 128), (.i64, 112), (.i64, 98), (.i64, 86), (.i64, 76), (.i64, 67), (.i64, 59), (.i64, 52), (.i64, 46), (.i64, 41), (.i64, 36)] cs0 with | some ([.int .i64 x0, .own q5], [.int .u64 x1, .int .u64 x2, .own q6, .int .i64 x3, .int .u64 x4, .int .i64 x5, .bool x6, .bool x7]) => bif Nat.beq q0 0 && Nat.beq q1 0 && Nat.beq q2 194 && Nat.beq q3 3 && Nat.beq q4 5 && Nat.beq q5 1 && Nat.beq q6 2 then F x0 x1 x2 x3 x4 x5 x6 x7 x8 x9 (fun r => match r with | (r0, r1, r2, r3, r4, r5, r6, r7, r8, r9, r10) => k (.c (.bool r0), [.cells 194 (.int .i64 r1 :: .own 1 :: .int .i64 2048 :: .int .i64 1792 :: .int .i64 1568 :: .int .i64 1372 :: .int .i64 1201 :: .int .i64 1051 :: .int .i64 920 :: .int .i64 805 :: .int .i64 705 :: .int .i64 617 :: .int .i64 540 :: .int .i64 473 :: .int .i64 414 :: .int .i64 363 :: .int .i64 318 :: .int .i64 279 :: .int .i64 245 :: .int .i64 215 :: .int .i64 189 :: .int .i64 166 :: .int .i64 146 :: .int .i64 128 :: .int .i64 112 :: .int .i64 98 :: .int .i64 86 :: .int .i64 76 :: .int .i64 67 :: .int .i64 59 :: .int .i64 52 :: .int .i64 46 :: .int .i64 41 :: .int .i64 36 :: .int .u64 r2 :: .int .u64 r3 :: .own 2 :: .int .i64 r4 :: .int .u64 r5 :: .int .i64 r6 :: .bool r7 :: .bool r8 :: []), .vec 3 (.int .i64) r9 false, .vec 5 (.int .u8) r10 false])) else none | _ => none)
  | _, _ => none
noncomputable def spec222_40a (fuel : Nat) : Ev.Spec := spg222_40a (F_coder_Decoder_none_40a fuel)
theorem ok222_40a (fuel : Nat) : FnOK Tryz.prog 222 (spec222_40a fuel) := by
  intro args objs kk r h
  unfold spec222_40a spg222_40a at h
  split at h
  · skip
    split at h
    rotate_left 1
    · cases h
    rename_i hsp
    have esp := splitRun_eq hsp
    subst esp
    obtain ⟨hb, h⟩ := cond_some' h
    simp only [Bool.and_eq_true, Nat.beq_eq, decide_eq_true_eq] at hb
    obtain ⟨⟨⟨⟨⟨⟨rfl, rfl⟩, rfl⟩, rfl⟩, rfl⟩, rfl⟩, rfl⟩ := hb
    exact fok222_40a fuel _ _ kk r ((F222_40a_eq fuel _ _ _ _ _ _ _ _ _ _ kk).trans h)
  · cases h
end Go.Proofs.YtipdidpalcmlhaaGreat

set_option linter.unusedVariables false
set_option linter.unusedSimpArgs false
set_option maxRecDepth 100000
set_option maxHeartbeats 2000000
namespace Go.Proofs.YtipdidpalcmlhaaGreat
open Go Ev
def kp211_40a (i : Nat) : Option (List Nat) := Ev.look i []
noncomputable def Gg211_40a (f : Nat) : Option Ev.Spec := Ev.look f []
noncomputable def G211_40a (fuel : Nat) : Nat → Option Ev.Spec := Gg211_40a
noncomputable def J211_40a (fuel : Nat) (i : Nat) : Option Ev.Blk := Ev.look i []
noncomputable def F_coder_interval_lose_40a (fuel : Nat) (x0 : Int) (x1 : Int) (x2 : Int) (x3 : Int) (x4 : Int) (x5 : Int) (x6 : Bool) (x7 : Bool) (x8 : (List Int)) (x9 : (List Int)) (k0 : (Int × Int × Int × Int × Int × Int × Int × Bool × Bool × (List Int) × (List Int)) → Option Ans) : Option Ans :=
  k0 (Go.IntKind.u8.wrap (Ev.ishr Go.IntKind.u64 x1 (24 : Int)), x0, Ev.iand Go.IntKind.u64 (Ev.ishl Go.IntKind.u64 x1 (8 : Int)) (4294967295 : Int), Ev.ior Go.IntKind.u64 (Ev.iand Go.IntKind.u64 (Ev.ishl Go.IntKind.u64 x2 (8 : Int)) (4294967295 : Int)) (255 : Int), x3, x4, x5, x6, x7, x8, x9)
abbrev YF211_40a : Type := (Int) → (Int) → (Int) → (Int) → (Int) → (Int) → (Bool) → (Bool) → ((List Int)) → ((List Int)) → ((Int × Int × Int × Int × Int × Int × Int × Bool × Bool × (List Int) × (List Int)) → Option Ans) → Option Ans
theorem F211_40a_eq (fuel : Nat) (x0 : Int) (x1 : Int) (x2 : Int) (x3 : Int) (x4 : Int) (x5 : Int) (x6 : Bool) (x7 : Bool) (x8 : (List Int)) (x9 : (List Int)) (k : Ev.Cont) : evalFn tab (G211_40a fuel) (J211_40a fuel) kp211_40a fuel Tryz.f211 [.c (.ptr 0 0)] [.cells 194 (.int .i64 x0 :: .own 1 :: .int .i64 2048 :: .int .i64 1792 :: .int .i64 1568 :: .int .i64 1372 :: .int .i64 1201 :: .int .i64 1051 :: .int .i64 920 :: .int .i64 805 :: .int .i64 705 :: .int .i64 617 :: .int .i64 540 :: .int .i64 473 :: .int .i64 414 :: .int .i64 363 :: .int .i64 318 :: .int .i64 279 :: .int .i64 245 :: .int .i64 215 :: .int .i64 189 :: .int .i64 166 :: .int .i64 146 :: .int .i64 128 :: .int .i64 112 :: .int .i64 98 :: .int .i64 86 :: .int .i64 76 :: .int .i64 67 :: .int .i64 59 :: .int .i64 52 :: .int .i64 46 :: .int .i64 41 :: .int .i64 36 :: .int .u64 x1 :: .int .u64 x2 :: .own 2 :: .int .i64 x3 :: .int .u64 x4 :: .int .i64 x5 :: .bool x6 :: .bool x7 :: []), .vec 3 (.int .i64) x8 false, .vec 5 (.int .u8) x9 false] k = F_coder_interval_lose_40a fuel x0 x1 x2 x3 x4 x5 x6 x7 x8 x9 (fun r => match r with | (r0, r1, r2, r3, r4, r5, r6, r7, r8, r9, r10) => k (.c (.int .u8 r0), [.cells 194 (.int .i64 r1 :: .own 1 :: .int .i64 2048 :: .int .i64 1792 :: .int .i64 1568 :: .int .i64 1372 :: .int .i64 1201 :: .int .i64 1051 :: .int .i64 920 :: .int .i64 805 :: .int .i64 705 :: .int .i64 617 :: .int .i64 540 :: .int .i64 473 :: .int .i64 414 :: .int .i64 363 :: .int .i64 318 :: .int .i64 279 :: .int .i64 245 :: .int .i64 215 :: .int .i64 189 :: .int .i64 166 :: .int .i64 146 :: .int .i64 128 :: .int .i64 112 :: .int .i64 98 :: .int .i64 86 :: .int .i64 76 :: .int .i64 67 :: .int .i64 59 :: .int .i64 52 :: .int .i64 46 :: .int .i64 41 :: .int .i64 36 :: .int .u64 r2 :: .int .u64 r3 :: .own 2 :: .int .i64 r4 :: .int .u64 r5 :: .int .i64 r6 :: .bool r7 :: .bool r8 :: []), .vec 3 (.int .i64) r9 false, .vec 5 (.int .u8) r10 false])) := by
  kernel_rfl
theorem hG211_40a (fuel : Nat) : GOK Tryz.prog (G211_40a fuel) :=
  gok_nil
theorem fok211_40a (fuel : Nat) : FnOK Tryz.prog 211 (evalFn tab (G211_40a fuel) (J211_40a fuel) kp211_40a fuel Tryz.f211) :=
  fn_ok tab_ok (hG211_40a fuel) mixed Tryz.func211 (c := (Tryz.f211.body).getD .skip) rfl (fun q hq => by
    rw [(by kernel_rfl : obl (J211_40a fuel) ((Tryz.f211.body).getD .skip) = [])] at hq
    cases hq)
noncomputable def mt211_40a : List Ev.SV → List Ev.Ob → Bool := fun args objs => match args, objs with
  | [.c (.ptr q0 q1)], [.cells q2 cs0, .vec q3 (.int .i64) _ false, .vec q4 (.int .u8) _ false] => (match splitRun 2 [(.i64, 2048), (.i64, 1792), (.i64, 1568), (.i64, 1372), (.i64, 1201), (.i64, 1051), (.i64, 920), (.i64, 805), (.i64, 705), (.i64, 617), (.i64, 540), (.i64, 473), (.i64, 414), (.i64, 363), (.i64, 318), (.i64, 279), (.i64, 245), (.i64, 215), (.i64, 189), (.i64, 166), (.i64, 146), (.i64, 128), (.i64, 112), (.i64, 98), (.i64, 86), (.i64, 76), (.i64, 67), (.i64, 59), (.i64, 52), (.i64, 46), (.i64, 41), (.i64, 36)] cs0 with | some ([.int .i64 _, .own q5], [.int .u64 _, .int .u64 _, .own q6, .int .i64 _, .int .u64 _, .int .i64 _, .bool _, .bool _]) => Nat.beq q0 0 && Nat.beq q1 0 && Nat.beq q2 194 && Nat.beq q3 3 && Nat.beq q4 5 && Nat.beq q5 1 && Nat.beq q6 2 | _ => false)
  | _, _ => false
noncomputable def spg211_40a (F : YF211_40a) : Ev.Spec := fun args objs k => match args, objs with
  | [.c (.ptr q0 q1)], [.cells q2 cs0, .vec q3 (.int .i64) x8 false, .vec q4 (.int .u8) x9 false] => (match splitRun 2 [(.i64, 2048), (.i64, 1792), (.i64, 1568), (.i64, 1372), (.i64, 1201), (.i64, 1051), (.i64, 920), (.i64, 805), (.i64, 705), (.i64, 617), (.i64, 540), (.i64, 473), (.i64, 414), (.i64, 363), (.i64, 318), (.i64, 279), (.i64, 245), (.i64, 215), (.i64, 189), (.i64, 166), (.i64, 146), (.i64, 128), (.i64, 112), (.i64, 98), (.i64, 86), (.i64, 76), (.i64, 67), (.i64, 59), (.i64, 52), (.i64, 46), (.i64, 41), (.i64, 36)] cs0 with | some ([.int .i64 x0, .own q5], [.int .u64 x1, .int .u64 x2, .own q6, .int .i64 x3, .int .u64 x4, .int .i64 x5, .bool x6, .bool x7]) => bif Nat.beq q0 0 && Nat.beq q1 0 && Nat.beq q2 194 && Nat.beq q3 3 && Nat.beq q4 5 && Nat.beq q5 1 && Nat.beq q6 2 then F x0 x1 x2 x3 x4 x5 x6 x7 x8 x9 (fun r => match r with | (r0, r1, r2, r3, r4, r5, r6, r7, r8, r9, r10) => k (.c (.int .u8 r0), [.cells 194 (.int .i64 r1 :: .own 1 :: .int .i64 2048 :: .int .i64 1792 :: .int .i64 1568 :: .int .i64 1372 :: .int .i64 1201 :: .int .i64 1051 :: .int .i64 920 :: .int .i64 805 :: .int .i64 705 :: .int .i64 617 :: .int .i64 540 :: .int .i64 473 :: .int .i64 414 :: .int .i64 363 :: .int .i64 318 :: .int .i64 279 :: .int .i64 245 :: .int .i64 215 :: .int .i64 189 :: .int .i64 166 :: .int .i64 146 :: .int .i64 128 :: .int .i64 112 :: .int .i64 98 :: .int .i64 86 :: .int .i64 76 :: .int .i64 67 :: .int .i64 59 :: .int .i64 52 :: .int .i64 46 :: .int .i64 41 :: .int .i64 36 :: .int .u64 r2 :: .int .u64 r3 :: .own 2 :: .int .i64 r4 :: .int .u64 r5 :: .int .i64 r6 :: .bool r7 :: .bool r8 :: []), .vec 3 (.int .i64) r9 false, .vec 5 (.int .u8) r10 false])) else none | _ => none)
  | _, _ => none
noncomputable def spec211_40a (fuel : Nat) : Ev.Spec := spg211_40a (F_coder_interval_lose_40a fuel)
theorem ok211_40a (fuel : Nat) : FnOK Tryz.prog 211 (spec211_40a fuel) := by
  intro args objs kk r h
  unfold spec211_40a spg211_40a at h
  split at h
  · skip
    split at h
    rotate_left 1
    · cases h
    rename_i hsp
    have esp := splitRun_eq hsp
    subst esp
    obtain ⟨hb, h⟩ := cond_some' h
    simp only [Bool.and_eq_true, Nat.beq_eq, decide_eq_true_eq] at hb
    obtain ⟨⟨⟨⟨⟨⟨rfl, rfl⟩, rfl⟩, rfl⟩, rfl⟩, rfl⟩, rfl⟩ := hb
    exact fok211_40a fuel _ _ kk r ((F211_40a_eq fuel _ _ _ _ _ _ _ _ _ _ kk).trans h)
  · cases h
end Go.Proofs.YtipdidpalcmlhaaGreat

set_option linter.unusedVariables false
set_option linter.unusedSimpArgs false
set_option maxRecDepth 100000
set_option maxHeartbeats 2000000
namespace Go.Proofs.YtipdidpalcmlhaaGreat
open Go Ev
def kp209_aa3 (i : Nat) : Option (List Nat) := Ev.look i [(200001, [0])]
noncomputable def Gg209_aa3 (f247_bb9 : YF247_bb9) (f : Nat) : Option Ev.Spec := Ev.look f [(247, spg247_bb9 f247_bb9)]
noncomputable def G209_aa3 (fuel : Nat) : Nat → Option Ev.Spec := Gg209_aa3 (F_coder_table_chance_bb9 fuel)
noncomputable def J209_aa3 (fuel : Nat) (i : Nat) : Option Ev.Blk := Ev.look i []
noncomputable def F_coder_interval_mid_aa3 (fuel : Nat) (x0 : Int) (x1 : Int) (x2 : Int) (x3 : Int) (x4 : Int) (x5 : Int) (x6 : Int) (x7 : Bool) (x8 : Bool) (x9 : (List Int)) (x10 : (List Int)) (k0 : (Int × Int × Int × Int × Int × Int × Int × Bool × Bool × (List Int) × (List Int)) → Option Ans) : Option Ans :=
  bif Decidable.decide ((0 : Int) ≤ x0 ∧ x0 < (↑x9.length : Int)) then
  (F_coder_table_chance_bb9 fuel (x1) (x9.getD x0.toNat (0 : Int))
     (fun y3 =>
       k0 (Go.IntKind.u64.wrap (Go.IntKind.u64.wrap (x2 + Go.IntKind.u64.wrap (Go.IntKind.u64.wrap ((Go.IntKind.u64.wrap (x3 - x2)).tdiv (4096 : Int)) * Go.IntKind.u64.wrap y3)) + Go.IntKind.u64.wrap ((Go.IntKind.u64.wrap ((Go.IntKind.u64.wrap (x3 - x2)).tmod (4096 : Int) * Go.IntKind.u64.wrap y3)).tdiv (4096 : Int))), x1, x2, x3, x4, x5, x6, x7, x8, x9, x10)))
  else none
abbrev YF209_aa3 : Type := (Int) → (Int) → (Int) → (Int) → (Int) → (Int) → (Int) → (Bool) → (Bool) → ((List Int)) → ((List Int)) → ((Int × Int × Int × Int × Int × Int × Int × Bool × Bool × (List Int) × (List Int)) → Option Ans) → Option Ans
theorem F209_aa3_eqg (fuel : Nat) (f247_bb9 : YF247_bb9) (x0 : Int) (x1 : Int) (x2 : Int) (x3 : Int) (x4 : Int) (x5 : Int) (x6 : Int) (x7 : Bool) (x8 : Bool) (x9 : (List Int)) (x10 : (List Int)) (k : Ev.Cont) : evalFn tab (Gg209_aa3 f247_bb9) (J209_aa3 fuel) kp209_aa3 fuel Tryz.f209 [.c (.ptr 0 0), .c (.int .i64 x0)] [.cells 194 (.int .i64 x1 :: .own 1 :: .int .i64 2048 :: .int .i64 1792 :: .int .i64 1568 :: .int .i64 1372 :: .int .i64 1201 :: .int .i64 1051 :: .int .i64 920 :: .int .i64 805 :: .int .i64 705 :: .int .i64 617 :: .int .i64 540 :: .int .i64 473 :: .int .i64 414 :: .int .i64 363 :: .int .i64 318 :: .int .i64 279 :: .int .i64 245 :: .int .i64 215 :: .int .i64 189 :: .int .i64 166 :: .int .i64 146 :: .int .i64 128 :: .int .i64 112 :: .int .i64 98 :: .int .i64 86 :: .int .i64 76 :: .int .i64 67 :: .int .i64 59 :: .int .i64 52 :: .int .i64 46 :: .int .i64 41 :: .int .i64 36 :: .int .u64 x2 :: .int .u64 x3 :: .own 2 :: .int .i64 x4 :: .int .u64 x5 :: .int .i64 x6 :: .bool x7 :: .bool x8 :: []), .vec 3 (.int .i64) x9 false, .vec 5 (.int .u8) x10 false] k = (fun  (k0 : (Int × Int × Int × Int × Int × Int × Int × Bool × Bool × (List Int) × (List Int)) → Option Ans) =>
  bif Decidable.decide ((0 : Int) ≤ x0 ∧ x0 < (↑x9.length : Int)) then
  (f247_bb9 (x1) (x9.getD x0.toNat (0 : Int))
     (fun y3 =>
       k0 (Go.IntKind.u64.wrap (Go.IntKind.u64.wrap (x2 + Go.IntKind.u64.wrap (Go.IntKind.u64.wrap ((Go.IntKind.u64.wrap (x3 - x2)).tdiv (4096 : Int)) * Go.IntKind.u64.wrap y3)) + Go.IntKind.u64.wrap ((Go.IntKind.u64.wrap ((Go.IntKind.u64.wrap (x3 - x2)).tmod (4096 : Int) * Go.IntKind.u64.wrap y3)).tdiv (4096 : Int))), x1, x2, x3, x4, x5, x6, x7, x8, x9, x10)))
  else none) (fun r => match r with | (r0, r1, r2, r3, r4, r5, r6, r7, r8, r9, r10) => k (.c (.int .u64 r0), [.cells 194 (.int .i64 r1 :: .own 1 :: .int .i64 2048 :: .int .i64 1792 :: .int .i64 1568 :: .int .i64 1372 :: .int .i64 1201 :: .int .i64 1051 :: .int .i64 920 :: .int .i64 805 :: .int .i64 705 :: .int .i64 617 :: .int .i64 540 :: .int .i64 473 :: .int .i64 414 :: .int .i64 363 :: .int .i64 318 :: .int .i64 279 :: .int .i64 245 :: .int .i64 215 :: .int .i64 189 :: .int .i64 166 :: .int .i64 146 :: .int .i64 128 :: .int .i64 112 :: .int .i64 98 :: .int .i64 86 :: .int .i64 76 :: .int .i64 67 :: .int .i64 59 :: .int .i64 52 :: .int .i64 46 :: .int .i64 41 :: .int .i64 36 :: .int .u64 r2 :: .int .u64 r3 :: .own 2 :: .int .i64 r4 :: .int .u64 r5 :: .int .i64 r6 :: .bool r7 :: .bool r8 :: []), .vec 3 (.int .i64) r9 false, .vec 5 (.int .u8) r10 false])) := by
  kernel_rfl
theorem F209_aa3_eq (fuel : Nat) (x0 : Int) (x1 : Int) (x2 : Int) (x3 : Int) (x4 : Int) (x5 : Int) (x6 : Int) (x7 : Bool) (x8 : Bool) (x9 : (List Int)) (x10 : (List Int)) (k : Ev.Cont) : evalFn tab (G209_aa3 fuel) (J209_aa3 fuel) kp209_aa3 fuel Tryz.f209 [.c (.ptr 0 0), .c (.int .i64 x0)] [.cells 194 (.int .i64 x1 :: .own 1 :: .int .i64 2048 :: .int .i64 1792 :: .int .i64 1568 :: .int .i64 1372 :: .int .i64 1201 :: .int .i64 1051 :: .int .i64 920 :: .int .i64 805 :: .int .i64 705 :: .int .i64 617 :: .int .i64 540 :: .int .i64 473 :: .int .i64 414 :: .int .i64 363 :: .int .i64 318 :: .int .i64 279 :: .int .i64 245 :: .int .i64 215 :: .int .i64 189 :: .int .i64 166 :: .int .i64 146 :: .int .i64 128 :: .int .i64 112 :: .int .i64 98 :: .int .i64 86 :: .int .i64 76 :: .int .i64 67 :: .int .i64 59 :: .int .i64 52 :: .int .i64 46 :: .int .i64 41 :: .int .i64 36 :: .int .u64 x2 :: .int .u64 x3 :: .own 2 :: .int .i64 x4 :: .int .u64 x5 :: .int .i64 x6 :: .bool x7 :: .bool x8 :: []), .vec 3 (.int .i64) x9 false, .vec 5 (.int .u8) x10 false] k = F_coder_interval_mid_aa3 fuel x0 x1 x2 x3 x4 x5 x6 x7 x8 x9 x10 (fun r => match r with | (r0, r1, r2, r3, r4, r5, r6, r7, r8, r9, r10) => k (.c (.int .u64 r0), [.cells 194 (.int .i64 r1 :: .own 1 :: .int .i64 2048 :: .int .i64 1792 :: .int .i64 1568 :: .int .i64 1372 :: .int .i64 1201 :: .int .i64 1051 :: .int .i64 920 :: .int .i64 805 :: .int .i64 705 :: .int .i64 617 :: .int .i64 540 :: .int .i64 473 :: .int .i64 414 :: .int .i64 363 :: .int .i64 318 :: .int .i64 279 :: .int .i64 245 :: .int .i64 215 :: .int .i64 189 :: .int .i64 166 :: .int .i64 146 :: .int .i64 128 :: .int .i64 112 :: .int .i64 98 :: .int .i64 86 :: .int .i64 76 :: .int .i64 67 :: .int .i64 59 :: .int .i64 52 :: .int .i64 46 :: .int .i64 41 :: .int .i64 36 :: .int .u64 r2 :: .int .u64 r3 :: .own 2 :: .int .i64 r4 :: .int .u64 r5 :: .int .i64 r6 :: .bool r7 :: .bool r8 :: []), .vec 3 (.int .i64) r9 false, .vec 5 (.int .u8) r10 false])) :=
  F209_aa3_eqg fuel (F_coder_table_chance_bb9 fuel) x0 x1 x2 x3 x4 x5 x6 x7 x8 x9 x10 k
theorem hG209_aa3 (fuel : Nat) : GOK Tryz.prog (G209_aa3 fuel) :=
  gok_cons ⟨ok247_bb9 fuel, enters_of Tryz.func247 (by kernel_rfl) rfl⟩ <|
  gok_nil
theorem fok209_aa3 (fuel : Nat) : FnOK Tryz.prog 209 (evalFn tab (G209_aa3 fuel) (J209_aa3 fuel) kp209_aa3 fuel Tryz.f209) :=
  fn_ok tab_ok (hG209_aa3 fuel) mixed Tryz.func209 (c := (Tryz.f209.body).getD .skip) rfl (fun q hq => by
    rw [(by kernel_rfl : obl (J209_aa3 fuel) ((Tryz.f209.body).getD .skip) = [])] at hq
    cases hq)
noncomputable def mt209_aa3 : List Ev.SV → List Ev.Ob → Bool := fun args objs => match args, objs with
  | [.c (.ptr q0 q1), .c (.int .i64 _)], [.cells q2 cs0, .vec q3 (.int .i64) _ false, .vec q4 (.int .u8) _ false] => (match splitRun 2 [(.i64, 2048), (.i64, 1792), (.i64, 1568), (.i64, 1372), (.i64, 1201), (.i64, 1051), (.i64, 920), (.i64, 805), (.i64, 705), (.i64, 617), (.i64, 540), (.i64, 473), (.i64, 414), (.i64, 363), (.i64, 318), (.i64, 279), (.i64, 245), (.i64, 215), (.i64, 189), (.i64, 166), (.i64, 146), (.i64, 128), (.i64, 112), (.i64, 98), (.i64, 86), (.i64, 76), (.i64, 67), (.i64, 59), (.i64, 52), (.i64, 46), (.i64, 41), (.i64, 36)] cs0 with | some ([.int .i64 _, .own q5], [.int .u64 _, .int .u64 _, .own q6, .int .i64 _, .int .u64 _, .int .i64 _, .bool _, .bool _]) => Nat.beq q0 0 && Nat.beq q1 0 && Nat.beq q2 194 && Nat.beq q3 3 && Nat.beq q4 5 && Nat.beq q5 1 && Nat.beq q6 2 | _ => false)
  | _, _ => false
noncomputable def spg209_aa3 (F : YF209_aa3) : Ev.Spec := fun args objs k => match args, objs with
  | [.c (.ptr q0 q1), .c (.int .i64 x0)], [.cells q2 cs0, .vec q3 (.int .i64) x9 false, .vec q4 (.int .u8) x10 false] => (match splitRun 2 [(.i64, 2048), (.i64, 1792), (.i64, 1568), (.i64, 1372), (.i64, 1201), (.i64, 1051), (.i64, 920), (.i64, 805), (.i64, 705), (.i64, 617), (.i64, 540), (.i64, 473), (.i64, 414), (.i64, 363), (.i64, 318), (.i64, 279), (.i64, 245), (.i64, 215), (.i64, 189), (.i64, 166), (.i64, 146), (.i64, 128), (.i64, 112), (.i64, 98), (.i64, 86), (.i64, 76), (.i64, 67), (.i64, 59), (.i64, 52), (.i64, 46), (.i64, 41), (.i64, 36)] cs0 with | some ([.int .i64 x1, .own q5], [.int .u64 x2, .int .u64 x3, .own q6, .int .i64 x4, .int .u64 x5, .int .i64 x6, .bool x7, .bool x8]) => bif Nat.beq q0 0 && Nat.beq q1 0 && Nat.beq q2 194 && Nat.beq q3 3 && Nat.beq q4 5 && Nat.beq q5 1 && Nat.beq q6 2 then F x0 x1 x2 x3 x4 x5 x6 x7 x8 x9 x10 (fun r => match r with | (r0, r1, r2, r3, r4, r5, r6, r7, r8, r9, r10) => k (.c (.int .u64 r0), [.cells 194 (.int .i64 r1 :: .own 1 :: .int .i64 2048 :: .int .i64 1792 :: .int .i64 1568 :: .int .i64 1372 :: .int .i64 1201 :: .int .i64 1051 :: .int .i64 920 :: .int .i64 805 :: .int .i64 705 :: .int .i64 617 :: .int .i64 540 :: .int .i64 473 :: .int .i64 414 :: .int .i64 363 :: .int .i64 318 :: .int .i64 279 :: .int .i64 245 :: .int .i64 215 :: .int .i64 189 :: .int .i64 166 :: .int .i64 146 :: .int .i64 128 :: .int .i64 112 :: .int .i64 98 :: .int .i64 86 :: .int .i64 76 :: .int .i64 67 :: .int .i64 59 :: .int .i64 52 :: .int .i64 46 :: .int .i64 41 :: .int .i64 36 :: .int .u64 r2 :: .int .u64 r3 :: .own 2 :: .int .i64 r4 :: .int .u64 r5 :: .int .i64 r6 :: .bool r7 :: .bool r8 :: []), .vec 3 (.int .i64) r9 false, .vec 5 (.int .u8) r10 false])) else none | _ => none)
  | _, _ => none
noncomputable def spec209_aa3 (fuel : Nat) : Ev.Spec := spg209_aa3 (F_coder_interval_mid_aa3 fuel)
theorem ok209_aa3 (fuel : Nat) : FnOK Tryz.prog 209 (spec209_aa3 fuel) := by
  intro args objs kk r h
  unfold spec209_aa3 spg209_aa3 at h
  split at h
  · skip
    split at h
    rotate_left 1
    · cases h
    rename_i hsp
    have esp := splitRun_eq hsp
    subst esp
    obtain ⟨hb, h⟩ := cond_some' h
    simp only [Bool.and_eq_true, Nat.beq_eq, decide_eq_true_eq] at hb
    obtain ⟨⟨⟨⟨⟨⟨rfl, rfl⟩, rfl⟩, rfl⟩, rfl⟩, rfl⟩, rfl⟩ := hb
    exact fok209_aa3 fuel _ _ kk r ((F209_aa3_eq fuel _ _ _ _ _ _ _ _ _ _ _ kk).trans h)
  · cases h
end Go.Proofs.YtipdidpalcmlhaaGreat

set_option linter.unusedVariables false
set_option linter.unusedSimpArgs false
set_option maxRecDepth 100000
set_option maxHeartbeats 2000000
namespace Go.Proofs.YtipdidpalcmlhaaGreat
open Go Ev
def kp210_40a (i : Nat) : Option (List Nat) := Ev.look i [(200001, [0])]
noncomputable def Gg210_40a (f : Nat) : Option Ev.Spec := Ev.look f []
noncomputable def G210_40a (fuel : Nat) : Nat → Option Ev.Spec := Gg210_40a
noncomputable def J210_40a (fuel : Nat) (i : Nat) : Option Ev.Blk := Ev.look i []
noncomputable def F_coder_interval_same_40a (fuel : Nat) (x0 : Int) (x1 : Int) (x2 : Int) (x3 : Int) (x4 : Int) (x5 : Int) (x6 : Bool) (x7 : Bool) (x8 : (List Int)) (x9 : (List Int)) (k0 : (Bool × Int × Int × Int × Int × Int × Int × Bool × Bool × (List Int) × (List Int)) → Option Ans) : Option Ans :=
  k0 (Ev.ishr Go.IntKind.u64 x1 (24 : Int) == Ev.ishr Go.IntKind.u64 x2 (24 : Int), x0, x1, x2, x3, x4, x5, x6, x7, x8, x9)
abbrev YF210_40a : Type := (Int) → (Int) → (Int) → (Int) → (Int) → (Int) → (Bool) → (Bool) → ((List Int)) → ((List Int)) → ((Bool × Int × Int × Int × Int × Int × Int × Bool × Bool × (List Int) × (List Int)) → Option Ans) → Option Ans
theorem F210_40a_eq (fuel : Nat) (x0 : Int) (x1 : Int) (x2 : Int) (x3 : Int) (x4 : Int) (x5 : Int) (x6 : Bool) (x7 : Bool) (x8 : (List Int)) (x9 : (List Int)) (k : Ev.Cont) : evalFn tab (G210_40a fuel) (J210_40a fuel) kp210_40a fuel Tryz.f210 [.c (.ptr 0 0)] [.cells 194 (.int .i64 x0 :: .own 1 :: .int .i64 2048 :: .int .i64 1792 :: .int .i64 1568 :: .int .i64 1372 :: .int .i64 1201 :: .int .i64 1051 :: .int .i64 920 :: .int .i64 805 :: .int .i64 705 :: .int .i64 617 :: .int .i64 540 :: .int .i64 473 :: .int .i64 414 :: .int .i64 363 :: .int .i64 318 :: .int .i64 279 :: .int .i64 245 :: .int .i64 215 :: .int .i64 189 :: .int .i64 166 :: .int .i64 146 :: .int .i64 128 :: .int .i64 112 :: .int .i64 98 :: .int .i64 86 :: .int .i64 76 :: .int .i64 67 :: .int .i64 59 :: .int .i64 52 :: .int .i64 46 :: .int .i64 41 :: .int .i64 36 :: .int .u64 x1 :: .int .u64 x2 :: .own 2 :: .int .i64 x3 :: .int .u64 x4 :: .int .i64 x5 :: .bool x6 :: .bool x7 :: []), .vec 3 (.int .i64) x8 false, .vec 5 (.int .u8) x9 false] k = F_coder_interval_same_40a fuel x0 x1 x2 x3 x4 x5 x6 x7 x8 x9 (fun r => match r with | (r0, r1, r2, r3, r4, r5, r6, r7, r8, r9, r10) => k (.c (.bool r0), [.cells 194 (.int .i64 r1 :: .own 1 :: .int .i64 2048 :: .int .i64 1792 :: .int .i64 1568 :: .int .i64 1372 :: .int .i64 1201 :: .int .i64 1051 :: .int .i64 920 :: .int .i64 805 :: .int .i64 705 :: .int .i64 617 :: .int .i64 540 :: .int .i64 473 :: .int .i64 414 :: .int .i64 363 :: .int .i64 318 :: .int .i64 279 :: .int .i64 245 :: .int .i64 215 :: .int .i64 189 :: .int .i64 166 :: .int .i64 146 :: .int .i64 128 :: .int .i64 112 :: .int .i64 98 :: .int .i64 86 :: .int .i64 76 :: .int .i64 67 :: .int .i64 59 :: .int .i64 52 :: .int .i64 46 :: .int .i64 41 :: .int .i64 36 :: .int .u64 r2 :: .int .u64 r3 :: .own 2 :: .int .i64 r4 :: .int .u64 r5 :: .int .i64 r6 :: .bool r7 :: .bool r8 :: []), .vec 3 (.int .i64) r9 false, .vec 5 (.int .u8) r10 false])) := by
  kernel_rfl
theorem hG210_40a (fuel : Nat) : GOK Tryz.prog (G210_40a fuel) :=
  gok_nil
theorem fok210_40a (fuel : Nat) : FnOK Tryz.prog 210 (evalFn tab (G210_40a fuel) (J210_40a fuel) kp210_40a fuel Tryz.f210) :=
  fn_ok tab_ok (hG210_40a fuel) mixed Tryz.func210 (c := (Tryz.f210.body).getD .skip) rfl (fun q hq => by
    rw [(by kernel_rfl : obl (J210_40a fuel) ((Tryz.f210.body).getD .skip) = [])] at hq
    cases hq)
noncomputable def mt210_40a : List Ev.SV → List Ev.Ob → Bool := fun args objs => match args, objs with
  | [.c (.ptr q0 q1)], [.cells q2 cs0, .vec q3 (.int .i64) _ false, .vec q4 (.int .u8) _ false] => (match splitRun 2 [(.i64, 2048), (.i64, 1792), (.i64, 1568), (.i64, 1372), (.i64, 1201), (.i64, 1051), (.i64, 920), (.i64, 805), (.i64, 705), (.i64, 617), (.i64, 540), (.i64, 473), (.i64, 414), (.i64, 363), (.i64, 318), (.i64, 279), (.i64, 245), (.i64, 215), (.i64, 189), (.i64, 166), (.i64, 146), (.i64, 128), (.i64, 112), (.i64, 98), (.i64, 86), (.i64, 76), (.i64, 67), (.i64, 59), (.i64, 52), (.i64, 46), (.i64, 41), (.i64, 36)] cs0 with | some ([.int .i64 _, .own q5], [.int .u64 _, .int .u64 _, .own q6, .int .i64 _, .int .u64 _, .int .i64 _, .bool _, .bool _]) => Nat.beq q0 0 && Nat.beq q1 0 && Nat.beq q2 194 && Nat.beq q3 3 && Nat.beq q4 5 && Nat.beq q5 1 && Nat.beq q6 2 | _ => false)
  | _, _ => false
noncomputable def spg210_40a (F : YF210_40a) : Ev.Spec := fun args objs k => match args, objs with
  | [.c (.ptr q0 q1)], [.cells q2 cs0, .vec q3 (.int .i64) x8 false, .vec q4 (.int .u8) x9 false] => (match splitRun 2 [(.i64, 2048), (.i64, 1792), (.i64, 1568), (.i64, 1372), (.i64, 1201), (.i64, 1051), (.i64, 920), (.i64, 805), (.i64, 705), (.i64, 617), (.i64, 540), (.i64, 473), (.i64, 414), (.i64, 363), (.i64, 318), (.i64, 279), (.i64, 245), (.i64, 215), (.i64, 189), (.i64, 166), (.i64, 146), (.i64, 128), (.i64, 112), (.i64, 98), (.i64, 86), (.i64, 76), (.i64, 67), (.i64, 59), (.i64, 52), (.i64, 46), (.i64, 41), (.i64, 36)] cs0 with | some ([.int .i64 x0, .own q5], [.int .u64 x1, .int .u64 x2, .own q6, .int .i64 x3, .int .u64 x4, .int .i64 x5, .bool x6, .bool x7]) => bif Nat.beq q0 0 && Nat.beq q1 0 && Nat.beq q2 194 && Nat.beq q3 3 && Nat.beq q4 5 && Nat.beq q5 1 && Nat.beq q6 2 then F x0 x1 x2 x3 x4 x5 x6 x7 x8 x9 (fun r => match r with | (r0, r1, r2, r3, r4, r5, r6, r7, r8, r9, r10) => k (.c (.bool r0), [.cells 194 (.int .i64 r1 :: .own 1 :: .int .i64 2048 :: .int .i64 1792 :: .int .i64 1568 :: .int .i64 1372 :: .int .i64 1201 :: .int .i64 1051 :: .int .i64 920 :: .int .i64 805 :: .int .i64 705 :: .int .i64 617 :: .int .i64 540 :: .int .i64 473 :: .int .i64 414 :: .int .i64 363 :: .int .i64 318 :: .int .i64 279 :: .int .i64 245 :: .int .i64 215 :: .int .i64 189 :: .int .i64 166 :: .int .i64 146 :: .int .i64 128 :: .int .i64 112 :: .int .i64 98 :: .int .i64 86 :: .int .i64 76 :: .int .i64 67 :: .int .i64 59 :: .int .i64 52 :: .int .i64 46 :: .int .i64 41 :: .int .i64 36 :: .int .u64 r2 :: .int .u64 r3 :: .own 2 :: .int .i64 r4 :: .int .u64 r5 :: .int .i64 r6 :: .bool r7 :: .bool r8 :: []), .vec 3 (.int .i64) r9 false, .vec 5 (.int .u8) r10 false])) else none | _ => none)
  | _, _ => none
noncomputable def spec210_40a (fuel : Nat) : Ev.Spec := spg210_40a (F_coder_interval_same_40a fuel)
theorem ok210_40a (fuel : Nat) : FnOK Tryz.prog 210 (spec210_40a fuel) := by
  intro args objs kk r h
  unfold spec210_40a spg210_40a at h
  split at h
  · skip
    split at h
    rotate_left 1
    · cases h
    rename_i hsp
    have esp := splitRun_eq hsp
    subst esp
    obtain ⟨hb, h⟩ := cond_some' h
    simp only [Bool.and_eq_true, Nat.beq_eq, decide_eq_true_eq] at hb
    obtain ⟨⟨⟨⟨⟨⟨rfl, rfl⟩, rfl⟩, rfl⟩, rfl⟩, rfl⟩, rfl⟩ := hb
    exact fok210_40a fuel _ _ kk r ((F210_40a_eq fuel _ _ _ _ _ _ _ _ _ _ kk).trans h)
  · cases h
end Go.Proofs.YtipdidpalcmlhaaGreat

set_option linter.unusedVariables false
set_option linter.unusedSimpArgs false
set_option maxRecDepth 100000
set_option maxHeartbeats 2000000
namespace Go.Proofs.YtipdidpalcmlhaaGreat
open Go Ev
def kp208_7ec (i : Nat) : Option (List Nat) := Ev.look i [(200003, [0])]
noncomputable def Gg208_7ec (f246 : YF246) (f : Nat) : Option Ev.Spec := Ev.look f [(246, spg246 f246)]
noncomputable def G208_7ec (fuel : Nat) : Nat → Option Ev.Spec := Gg208_7ec (F_coder_next fuel)
noncomputable def J208_7ec (fuel : Nat) (i : Nat) : Option Ev.Blk := Ev.look i []
noncomputable def F_coder_interval_take_7ec (fuel : Nat) (x0 : Int) (x1 : Int) (x2 : Int) (x3 : Int) (x4 : Int) (x5 : Int) (x6 : Int) (x7 : Int) (x8 : Int) (x9 : Bool) (x10 : Bool) (x11 : (List Int)) (x12 : (List Int)) (k0 : (Int × Int × Int × Int × Int × Int × Bool × Bool × (List Int) × (List Int)) → Option Ans) : Option Ans :=
  bif x1 == (1 : Int) then
   bif Decidable.decide ((0 : Int) ≤ x0 ∧ x0 < (↑x11.length : Int)) then
   (F_coder_next fuel (x3) (x11.getD x0.toNat (0 : Int)) (x1)
      (fun y4 =>
        bif Decidable.decide ((0 : Int) ≤ x0 ∧ x0 < (↑x11.length : Int)) then
        k0 (x3, x4, x2, x6, x7, x8, x9, x10, x11.set x0.toNat y4, x12)
        else none))
   else none
  else
   bif Decidable.decide ((0 : Int) ≤ x0 ∧ x0 < (↑x11.length : Int)) then
   (F_coder_next fuel (x3) (x11.getD x0.toNat (0 : Int)) (x1)
      (fun y4 =>
        bif Decidable.decide ((0 : Int) ≤ x0 ∧ x0 < (↑x11.length : Int)) then
        k0 (x3, Go.IntKind.u64.wrap (x2 + (1 : Int)), x5, x6, x7, x8, x9, x10, x11.set x0.toNat y4, x12)
        else none))
   else none
abbrev YF208_7ec : Type := (Int) → (Int) → (Int) → (Int) → (Int) → (Int) → (Int) → (Int) → (Int) → (Bool) → (Bool) → ((List Int)) → ((List Int)) → ((Int × Int × Int × Int × Int × Int × Bool × Bool × (List Int) × (List Int)) → Option Ans) → Option Ans
theorem F208_7ec_eqg (fuel : Nat) (f246 : YF246) (x0 : Int) (x1 : Int) (x2 : Int) (x3 : Int) (x4 : Int) (x5 : Int) (x6 : Int) (x7 : Int) (x8 : Int) (x9 : Bool) (x10 : Bool) (x11 : (List Int)) (x12 : (List Int)) (k : Ev.Cont) : evalFn tab (Gg208_7ec f246) (J208_7ec fuel) kp208_7ec fuel Tryz.f208 [.c (.ptr 0 0), .c (.int .i64 x0), .c (.int .i64 x1), .c (.int .u64 x2)] [.cells 194 (.int .i64 x3 :: .own 1 :: .int .i64 2048 :: .int .i64 1792 :: .int .i64 1568 :: .int .i64 1372 :: .int .i64 1201 :: .int .i64 1051 :: .int .i64 920 :: .int .i64 805 :: .int .i64 705 :: .int .i64 617 :: .int .i64 540 :: .int .i64 473 :: .int .i64 414 :: .int .i64 363 :: .int .i64 318 :: .int .i64 279 :: .int .i64 245 :: .int .i64 215 :: .int .i64 189 :: .int .i64 166 :: .int .i64 146 :: .int .i64 128 :: .int .i64 112 :: .int .i64 98 :: .int .i64 86 :: .int .i64 76 :: .int .i64 67 :: .int .i64 59 :: .int .i64 52 :: .int .i64 46 :: .int .i64 41 :: .int .i64 36 :: .int .u64 x4 :: .int .u64 x5 :: .own 2 :: .int .i64 x6 :: .int .u64 x7 :: .int .i64 x8 :: .bool x9 :: .bool x10 :: []), .vec 3 (.int .i64) x11 false, .vec 5 (.int .u8) x12 false] k = (fun  (k0 : (Int × Int × Int × Int × Int × Int × Bool × Bool × (List Int) × (List Int)) → Option Ans) =>
  bif x1 == (1 : Int) then
   bif Decidable.decide ((0 : Int) ≤ x0 ∧ x0 < (↑x11.length : Int)) then
   (f246 (x3) (x11.getD x0.toNat (0 : Int)) (x1)
      (fun y4 =>
        bif Decidable.decide ((0 : Int) ≤ x0 ∧ x0 < (↑x11.length : Int)) then
        k0 (x3, x4, x2, x6, x7, x8, x9, x10, x11.set x0.toNat y4, x12)
        else none))
   else none
  else
   bif Decidable.decide ((0 : Int) ≤ x0 ∧ x0 < (↑x11.length : Int)) then
   (f246 (x3) (x11.getD x0.toNat (0 : Int)) (x1)
      (fun y4 =>
        bif Decidable.decide ((0 : Int) ≤ x0 ∧ x0 < (↑x11.length : Int)) then
        k0 (x3, Go.IntKind.u64.wrap (x2 + (1 : Int)), x5, x6, x7, x8, x9, x10, x11.set x0.toNat y4, x12)
        else none))
   else none) (fun r => match r with | (r0, r1, r2, r3, r4, r5, r6, r7, r8, r9) => k (.tup [], [.cells 194 (.int .i64 r0 :: .own 1 :: .int .i64 2048 :: .int .i64 1792 :: .int .i64 1568 :: .int .i64 1372 :: .int .i64 1201 :: .int .i64 1051 :: .int .i64 920 :: .int .i64 805 :: .int .i64 705 :: .int .i64 617 :: .int .i64 540 :: .int .i64 473 :: .int .i64 414 :: .int .i64 363 :: .int .i64 318 :: .int .i64 279 :: .int .i64 245 :: .int .i64 215 :: .int .i64 189 :: .int .i64 166 :: .int .i64 146 :: .int .i64 128 :: .int .i64 112 :: .int .i64 98 :: .int .i64 86 :: .int .i64 76 :: .int .i64 67 :: .int .i64 59 :: .int .i64 52 :: .int .i64 46 :: .int .i64 41 :: .int .i64 36 :: .int .u64 r1 :: .int .u64 r2 :: .own 2 :: .int .i64 r3 :: .int .u64 r4 :: .int .i64 r5 :: .bool r6 :: .bool r7 :: []), .vec 3 (.int .i64) r8 false, .vec 5 (.int .u8) r9 false])) := by
  kernel_rfl
theorem F208_7ec_eq (fuel : Nat) (x0 : Int) (x1 : Int) (x2 : Int) (x3 : Int) (x4 : Int) (x5 : Int) (x6 : Int) (x7 : Int) (x8 : Int) (x9 : Bool) (x10 : Bool) (x11 : (List Int)) (x12 : (List Int)) (k : Ev.Cont) : evalFn tab (G208_7ec fuel) (J208_7ec fuel) kp208_7ec fuel Tryz.f208 [.c (.ptr 0 0), .c (.int .i64 x0), .c (.int .i64 x1), .c (.int .u64 x2)] [.cells 194 (.int .i64 x3 :: .own 1 :: .int .i64 2048 :: .int .i64 1792 :: .int .i64 1568 :: .int .i64 1372 :: .int .i64 1201 :: .int .i64 1051 :: .int .i64 920 :: .int .i64 805 :: .int .i64 705 :: .int .i64 617 :: .int .i64 540 :: .int .i64 473 :: .int .i64 414 :: .int .i64 363 :: .int .i64 318 :: .int .i64 279 :: .int .i64 245 :: .int .i64 215 :: .int .i64 189 :: .int .i64 166 :: .int .i64 146 :: .int .i64 128 :: .int .i64 112 :: .int .i64 98 :: .int .i64 86 :: .int .i64 76 :: .int .i64 67 :: .int .i64 59 :: .int .i64 52 :: .int .i64 46 :: .int .i64 41 :: .int .i64 36 :: .int .u64 x4 :: .int .u64 x5 :: .own 2 :: .int .i64 x6 :: .int .u64 x7 :: .int .i64 x8 :: .bool x9 :: .bool x10 :: []), .vec 3 (.int .i64) x11 false, .vec 5 (.int .u8) x12 false] k = F_coder_interval_take_7ec fuel x0 x1 x2 x3 x4 x5 x6 x7 x8 x9 x10 x11 x12 (fun r => match r with | (r0, r1, r2, r3, r4, r5, r6, r7, r8, r9) => k (.tup [], [.cells 194 (.int .i64 r0 :: .own 1 :: .int .i64 2048 :: .int .i64 1792 :: .int .i64 1568 :: .int .i64 1372 :: .int .i64 1201 :: .int .i64 1051 :: .int .i64 920 :: .int .i64 805 :: .int .i64 705 :: .int .i64 617 :: .int .i64 540 :: .int .i64 473 :: .int .i64 414 :: .int .i64 363 :: .int .i64 318 :: .int .i64 279 :: .int .i64 245 :: .int .i64 215 :: .int .i64 189 :: .int .i64 166 :: .int .i64 146 :: .int .i64 128 :: .int .i64 112 :: .int .i64 98 :: .int .i64 86 :: .int .i64 76 :: .int .i64 67 :: .int .i64 59 :: .int .i64 52 :: .int .i64 46 :: .int .i64 41 :: .int .i64 36 :: .int .u64 r1 :: .int .u64 r2 :: .own 2 :: .int .i64 r3 :: .int .u64 r4 :: .int .i64 r5 :: .bool r6 :: .bool r7 :: []), .vec 3 (.int .i64) r8 false, .vec 5 (.int .u8) r9 false])) :=
  F208_7ec_eqg fuel (F_coder_next fuel) x0 x1 x2 x3 x4 x5 x6 x7 x8 x9 x10 x11 x12 k
theorem hG208_7ec (fuel : Nat) : GOK Tryz.prog (G208_7ec fuel) :=
  gok_cons ⟨ok246 fuel, enters_of Tryz.func246 (by kernel_rfl) rfl⟩ <|
  gok_nil
theorem fok208_7ec (fuel : Nat) : FnOK Tryz.prog 208 (evalFn tab (G208_7ec fuel) (J208_7ec fuel) kp208_7ec fuel Tryz.f208) :=
  fn_ok tab_ok (hG208_7ec fuel) mixed Tryz.func208 (c := (Tryz.f208.body).getD .skip) rfl (fun q hq => by
    rw [(by kernel_rfl : obl (J208_7ec fuel) ((Tryz.f208.body).getD .skip) = [])] at hq
    cases hq)
noncomputable def mt208_7ec : List Ev.SV → List Ev.Ob → Bool := fun args objs => match args, objs with
  | [.c (.ptr q0 q1), .c (.int .i64 _), .c (.int .i64 _), .c (.int .u64 _)], [.cells q2 cs0, .vec q3 (.int .i64) _ false, .vec q4 (.int .u8) _ false] => (match splitRun 2 [(.i64, 2048), (.i64, 1792), (.i64, 1568), (.i64, 1372), (.i64, 1201), (.i64, 1051), (.i64, 920), (.i64, 805), (.i64, 705), (.i64, 617), (.i64, 540), (.i64, 473), (.i64, 414), (.i64, 363), (.i64, 318), (.i64, 279), (.i64, 245), (.i64, 215), (.i64, 189), (.i64, 166), (.i64, 146), (.i64, 128), (.i64, 112), (.i64, 98), (.i64, 86), (.i64, 76), (.i64, 67), (.i64, 59), (.i64, 52), (.i64, 46), (.i64, 41), (.i64, 36)] cs0 with | some ([.int .i64 _, .own q5], [.int .u64 _, .int .u64 _, .own q6, .int .i64 _, .int .u64 _, .int .i64 _, .bool _, .bool _]) => Nat.beq q0 0 && Nat.beq q1 0 && Nat.beq q2 194 && Nat.beq q3 3 && Nat.beq q4 5 && Nat.beq q5 1 && Nat.beq q6 2 | _ => false)
  | _, _ => false
noncomputable def spg208_7ec (F : YF208_7ec) : Ev.Spec := fun args objs k => match args, objs with
  | [.c (.ptr q0 q1), .c (.int .i64 x0), .c (.int .i64 x1), .c (.int .u64 x2)], [.cells q2 cs0, .vec q3 (.int .i64) x11 false, .vec q4 (.int .u8) x12 false] => (match splitRun 2 [(.i64, 2048), (.i64, 1792), (.i64, 1568), (.i64, 1372), (.i64, 1201), (.i64, 1051), (.i64, 920), (.i64, 805), (.i64, 705), (.i64, 617), (.i64, 540), (.i64, 473), (.i64, 414), (.i64, 363), (.i64, 318), (.i64, 279), (.i64, 245), (.i64, 215), (.i64, 189), (.i64, 166), (.i64, 146), (.i64, 128), (.i64, 112), (.i64, 98), (.i64, 86), (.i64, 76), (.i64, 67), (.i64, 59), (.i64, 52), (.i64, 46), (.i64, 41), (.i64, 36)] cs0 with | some ([.int .i64 x3, .own q5], [.int .u64 x4, .int .u64 x5, .own q6, .int .i64 x6, .int .u64 x7, .int .i64 x8, .bool x9, .bool x10]) => bif Nat.beq q0 0 && Nat.beq q1 0 && Nat.beq q2 194 && Nat.beq q3 3 && Nat.beq q4 5 && Nat.beq q5 1 && Nat.beq q6 2 then F x0 x1 x2 x3 x4 x5 x6 x7 x8 x9 x10 x11 x12 (fun r => match r with | (r0, r1, r2, r3, r4, r5, r6, r7, r8, r9) => k (.tup [], [.cells 194 (.int .i64 r0 :: .own 1 :: .int .i64 2048 :: .int .i64 1792 :: .int .i64 1568 :: .int .i64 1372 :: .int .i64 1201 :: .int .i64 1051 :: .int .i64 920 :: .int .i64 805 :: .int .i64 705 :: .int .i64 617 :: .int .i64 540 :: .int .i64 473 :: .int .i64 414 :: .int .i64 363 :: .int .i64 318 :: .int .i64 279 :: .int .i64 245 :: .int .i64 215 :: .int .i64 189 :: .int .i64 166 :: .int .i64 146 :: .int .i64 128 :: .int .i64 112 :: .int .i64 98 :: .int .i64 86 :: .int .i64 76 :: .int .i64 67 :: .int .i64 59 :: .int .i64 52 :: .int .i64 46 :: .int .i64 41 :: .int .i64 36 :: .int .u64 r1 :: .int .u64 r2 :: .own 2 :: .int .i64 r3 :: .int .u64 r4 :: .int .i64 r5 :: .bool r6 :: .bool r7 :: []), .vec 3 (.int .i64) r8 false, .vec 5 (.int .u8) r9 false])) else none | _ => none)
  | _, _ => none
noncomputable def spec208_7ec (fuel : Nat) : Ev.Spec := spg208_7ec (F_coder_interval_take_7ec fuel)
theorem ok208_7ec (fuel : Nat) : FnOK Tryz.prog 208 (spec208_7ec fuel) := by
  intro args objs kk r h
  unfold spec208_7ec spg208_7ec at h
  split at h
  · skip
    split at h
    rotate_left 1
    · cases h
    rename_i hsp
    have esp := splitRun_eq hsp
    subst esp
    obtain ⟨hb, h⟩ := cond_some' h
    simp only [Bool.and_eq_true, Nat.beq_eq, decide_eq_true_eq] at hb
    obtain ⟨⟨⟨⟨⟨⟨rfl, rfl⟩, rfl⟩, rfl⟩, rfl⟩, rfl⟩, rfl⟩ := hb
    exact fok208_7ec fuel _ _ kk r ((F208_7ec_eq fuel _ _ _ _ _ _ _ _ _ _ _ _ _ kk).trans h)
  · cases h
end Go.Proofs.YtipdidpalcmlhaaGreat

set_option linter.unusedVariables false
set_option linter.unusedSimpArgs false
set_option maxRecDepth 100000
set_option maxHeartbeats 2000000
namespace Go.Proofs.YtipdidpalcmlhaaGreat
open Go Ev
def kp146_aa3 (i : Nat) : Option (List Nat) := Ev.look i [(12, [0, 1, 6, 8, 9]), (100001, [0, 1, 6, 8, 9]), (200010, [0]), (400001, [4, 5])]
noncomputable def Gg146_aa3 (f145_40a : YF145_40a) (f208_7ec : YF208_7ec) (f209_aa3 : YF209_aa3) (f210_40a : YF210_40a) (f211_40a : YF211_40a) (f222_40a : YF222_40a) (f : Nat) : Option Ev.Spec := Ev.look f [(145, spg145_40a f145_40a), (208, spg208_7ec f208_7ec), (209, spg209_aa3 f209_aa3), (210, spg210_40a f210_40a), (211, spg211_40a f211_40a), (222, spg222_40a f222_40a)]
noncomputable def G146_aa3 (fuel : Nat) : Nat → Option Ev.Spec := Gg146_aa3 (F_coder_Decoder_shift_40a fuel) (F_coder_interval_take_7ec fuel) (F_coder_interval_mid_aa3 fuel) (F_coder_interval_same_40a fuel) (F_coder_interval_lose_40a fuel) (F_coder_Decoder_none_40a fuel)
noncomputable def S_coder_Decoder_Get_aa3_1 (fuel : Nat) (v : Int × Int × Int × Int × Int × Int × Int × Int × Int × Bool × Bool × (List Int) × (List Int) × Int × Int × Int × Int × Int × Int × Bool × Bool) (c : (Int × Int × Int × Int × Int × Int × Int × Int × Int × Bool × Bool × (List Int) × (List Int) × Int × Int × Int × Int × Int × Int × Bool × Bool) → Option Ans) (B : (Int × Int × Int × Int × Int × Int × Int × Int × Int × Bool × Bool × (List Int) × (List Int) × Int × Int × Int × Int × Int × Int × Bool × Bool → Option Ans)) : Option Ans := match v, B with
  | (x0, x1, x2, x3, x4, x5, x6, x7, x8, x9, x10, x11, x12, x13, x14, x15, x16, x17, x18, x19, x20), b =>
   (F_coder_interval_same_40a fuel (x3) (x4) (x5) (x6) (x7) (x8) (x9) (x10) (x11) (x12)
       (fun (y2_0, y2_1, y2_2, y2_3, y2_4, y2_5, y2_6, y2_7, y2_8, y2_9, y2_10) =>
         bif y2_0 then
          (F_coder_interval_lose_40a fuel (y2_1) (y2_2) (y2_3) (y2_4) (y2_5) (y2_6) (y2_7) (y2_8) (y2_9) (y2_10)
            (fun (y7_0, y7_1, y7_2, y7_3, y7_4, y7_5, y7_6, y7_7, y7_8, y7_9, y7_10) =>
              (F_coder_Decoder_shift_40a fuel (y7_1) (y7_2) (y7_3) (y7_4) (y7_5) (y7_6) (y7_7) (y7_8) (y7_9) (y7_10)
                (fun (y11_0, y11_1, y11_2, y11_3, y11_4, y11_5, y11_6, y11_7, y11_8, y11_9) =>
                  c (x0, x1, x2, y11_0, y11_1, y11_2, y11_3, y11_4, y11_5, y11_6, y11_7, y11_8, y11_9, x13, x14, x15, x16, x17, x18, x19, x20)))))
         else
          b (x0, x1, x2, y2_1, y2_2, y2_3, y2_4, y2_5, y2_6, y2_7, y2_8, y2_9, y2_10, x13, x14, x15, x16, x17, x18, x19, x20)))
noncomputable def L_coder_Decoder_Get_aa3_1 (fuel : Nat) (v : Int × Int × Int × Int × Int × Int × Int × Int × Int × Bool × Bool × (List Int) × (List Int) × Int × Int × Int × Int × Int × Int × Bool × Bool) (b : (Int × Int × Int × Int × Int × Int × Int × Int × Int × Bool × Bool × (List Int) × (List Int) × Int × Int × Int × Int × Int × Int × Bool × Bool → Option Ans)) : Option Ans := iter (S_coder_Decoder_Get_aa3_1 fuel) fuel v b
noncomputable def J146_aa3_1 (fuel : Nat) (i : Nat) : Option Ev.Blk := Ev.look i []
noncomputable def T146_aa3_1 (v : Int × Int × Int × Int × Int × Int × Int × Int × Int × Bool × Bool × (List Int) × (List Int) × Int × Int × Int × Int × Int × Int × Bool × Bool) : Ev.St := match v with | (x0, x1, x2, x3, x4, x5, x6, x7, x8, x9, x10, x11, x12, x13, x14, x15, x16, x17, x18, x19, x20) => ⟨[(0, .c (.ptr 0 0)), (1, .c (.int .i64 x0)), (6, .c (.int .i64 x1)), (8, .c (.ptr 3 0)), (9, .c (.int .i64 x2))], [(0, .cells 194 (.int .i64 x3 :: .own 1 :: .int .i64 2048 :: .int .i64 1792 :: .int .i64 1568 :: .int .i64 1372 :: .int .i64 1201 :: .int .i64 1051 :: .int .i64 920 :: .int .i64 805 :: .int .i64 705 :: .int .i64 617 :: .int .i64 540 :: .int .i64 473 :: .int .i64 414 :: .int .i64 363 :: .int .i64 318 :: .int .i64 279 :: .int .i64 245 :: .int .i64 215 :: .int .i64 189 :: .int .i64 166 :: .int .i64 146 :: .int .i64 128 :: .int .i64 112 :: .int .i64 98 :: .int .i64 86 :: .int .i64 76 :: .int .i64 67 :: .int .i64 59 :: .int .i64 52 :: .int .i64 46 :: .int .i64 41 :: .int .i64 36 :: .int .u64 x4 :: .int .u64 x5 :: .own 2 :: .int .i64 x6 :: .int .u64 x7 :: .int .i64 x8 :: .bool x9 :: .bool x10 :: [])), (1, .vec 3 (.int .i64) x11 false), (2, .vec 5 (.int .u8) x12 false), (3, .cells 194 (.int .i64 x13 :: .own 1 :: .int .i64 2048 :: .int .i64 1792 :: .int .i64 1568 :: .int .i64 1372 :: .int .i64 1201 :: .int .i64 1051 :: .int .i64 920 :: .int .i64 805 :: .int .i64 705 :: .int .i64 617 :: .int .i64 540 :: .int .i64 473 :: .int .i64 414 :: .int .i64 363 :: .int .i64 318 :: .int .i64 279 :: .int .i64 245 :: .int .i64 215 :: .int .i64 189 :: .int .i64 166 :: .int .i64 146 :: .int .i64 128 :: .int .i64 112 :: .int .i64 98 :: .int .i64 86 :: .int .i64 76 :: .int .i64 67 :: .int .i64 59 :: .int .i64 52 :: .int .i64 46 :: .int .i64 41 :: .int .i64 36 :: .int .u64 x14 :: .int .u64 x15 :: .own 2 :: .int .i64 x16 :: .int .u64 x17 :: .int .i64 x18 :: .bool x19 :: .bool x20 :: []))], 4, 3⟩
noncomputable def E146_aa3_1 (K : Ev.Ex → Ev.St → Option Ans) : (Int × Int × Int × Int × Int × Int × Int × Int × Int × Bool × Bool × (List Int) × (List Int) × Int × Int × Int × Int × Int × Int × Bool × Bool → Option Ans) := (fun v => match v with | (x0, x1, x2, x3, x4, x5, x6, x7, x8, x9, x10, x11, x12, x13, x14, x15, x16, x17, x18, x19, x20) => K .normal ⟨[(0, .c (.ptr 0 0)), (1, .c (.int .i64 x0)), (6, .c (.int .i64 x1)), (8, .c (.ptr 3 0)), (9, .c (.int .i64 x2))], [(0, .cells 194 (.int .i64 x3 :: .own 1 :: .int .i64 2048 :: .int .i64 1792 :: .int .i64 1568 :: .int .i64 1372 :: .int .i64 1201 :: .int .i64 1051 :: .int .i64 920 :: .int .i64 805 :: .int .i64 705 :: .int .i64 617 :: .int .i64 540 :: .int .i64 473 :: .int .i64 414 :: .int .i64 363 :: .int .i64 318 :: .int .i64 279 :: .int .i64 245 :: .int .i64 215 :: .int .i64 189 :: .int .i64 166 :: .int .i64 146 :: .int .i64 128 :: .int .i64 112 :: .int .i64 98 :: .int .i64 86 :: .int .i64 76 :: .int .i64 67 :: .int .i64 59 :: .int .i64 52 :: .int .i64 46 :: .int .i64 41 :: .int .i64 36 :: .int .u64 x4 :: .int .u64 x5 :: .own 2 :: .int .i64 x6 :: .int .u64 x7 :: .int .i64 x8 :: .bool x9 :: .bool x10 :: [])), (1, .vec 3 (.int .i64) x11 false), (2, .vec 5 (.int .u8) x12 false), (3, .cells 194 (.int .i64 x13 :: .own 1 :: .int .i64 2048 :: .int .i64 1792 :: .int .i64 1568 :: .int .i64 1372 :: .int .i64 1201 :: .int .i64 1051 :: .int .i64 920 :: .int .i64 805 :: .int .i64 705 :: .int .i64 617 :: .int .i64 540 :: .int .i64 473 :: .int .i64 414 :: .int .i64 363 :: .int .i64 318 :: .int .i64 279 :: .int .i64 245 :: .int .i64 215 :: .int .i64 189 :: .int .i64 166 :: .int .i64 146 :: .int .i64 128 :: .int .i64 112 :: .int .i64 98 :: .int .i64 86 :: .int .i64 76 :: .int .i64 67 :: .int .i64 59 :: .int .i64 52 :: .int .i64 46 :: .int .i64 41 :: .int .i64 36 :: .int .u64 x14 :: .int .u64 x15 :: .own 2 :: .int .i64 x16 :: .int .u64 x17 :: .int .i64 x18 :: .bool x19 :: .bool x20 :: []))], 4, 3⟩)
theorem S146_aa3_1_okg (fuel : Nat) (f145_40a : YF145_40a) (f208_7ec : YF208_7ec) (f209_aa3 : YF209_aa3) (f210_40a : YF210_40a) (f211_40a : YF211_40a) (f222_40a : YF222_40a) (R : Ev.St → Option Ans) (K : Ev.Ex → Ev.St → Option Ans) (x0 : Int) (x1 : Int) (x2 : Int) (x3 : Int) (x4 : Int) (x5 : Int) (x6 : Int) (x7 : Int) (x8 : Int) (x9 : Bool) (x10 : Bool) (x11 : (List Int)) (x12 : (List Int)) (x13 : Int) (x14 : Int) (x15 : Int) (x16 : Int) (x17 : Int) (x18 : Int) (x19 : Bool) (x20 : Bool) : evalCode tab (Gg146_aa3 f145_40a f208_7ec f209_aa3 f210_40a f211_40a f222_40a) (J146_aa3_1 fuel) kp146_aa3 fuel (bodyOf 1 Tryz.f146) (T146_aa3_1 (x0, x1, x2, x3, x4, x5, x6, x7, x8, x9, x10, x11, x12, x13, x14, x15, x16, x17, x18, x19, x20)) (lc kp146_aa3 12 1 R K) = (fun (c : (Int × Int × Int × Int × Int × Int × Int × Int × Int × Bool × Bool × (List Int) × (List Int) × Int × Int × Int × Int × Int × Int × Bool × Bool) → Option Ans) (B : (Int × Int × Int × Int × Int × Int × Int × Int × Int × Bool × Bool × (List Int) × (List Int) × Int × Int × Int × Int × Int × Int × Bool × Bool → Option Ans)) => match B with
  | b =>
   (f210_40a (x3) (x4) (x5) (x6) (x7) (x8) (x9) (x10) (x11) (x12)
       (fun (y2_0, y2_1, y2_2, y2_3, y2_4, y2_5, y2_6, y2_7, y2_8, y2_9, y2_10) =>
         bif y2_0 then
          (f211_40a (y2_1) (y2_2) (y2_3) (y2_4) (y2_5) (y2_6) (y2_7) (y2_8) (y2_9) (y2_10)
            (fun (y7_0, y7_1, y7_2, y7_3, y7_4, y7_5, y7_6, y7_7, y7_8, y7_9, y7_10) =>
              (f145_40a (y7_1) (y7_2) (y7_3) (y7_4) (y7_5) (y7_6) (y7_7) (y7_8) (y7_9) (y7_10)
                (fun (y11_0, y11_1, y11_2, y11_3, y11_4, y11_5, y11_6, y11_7, y11_8, y11_9) =>
                  c (x0, x1, x2, y11_0, y11_1, y11_2, y11_3, y11_4, y11_5, y11_6, y11_7, y11_8, y11_9, x13, x14, x15, x16, x17, x18, x19, x20)))))
         else
          b (x0, x1, x2, y2_1, y2_2, y2_3, y2_4, y2_5, y2_6, y2_7, y2_8, y2_9, y2_10, x13, x14, x15, x16, x17, x18, x19, x20)))) (fun v => R (T146_aa3_1 v)) (E146_aa3_1 K) := by
  kernel_rfl
theorem S146_aa3_1_ok (fuel : Nat) (R : Ev.St → Option Ans) (K : Ev.Ex → Ev.St → Option Ans) (x0 : Int) (x1 : Int) (x2 : Int) (x3 : Int) (x4 : Int) (x5 : Int) (x6 : Int) (x7 : Int) (x8 : Int) (x9 : Bool) (x10 : Bool) (x11 : (List Int)) (x12 : (List Int)) (x13 : Int) (x14 : Int) (x15 : Int) (x16 : Int) (x17 : Int) (x18 : Int) (x19 : Bool) (x20 : Bool) : evalCode tab (G146_aa3 fuel) (J146_aa3_1 fuel) kp146_aa3 fuel (bodyOf 1 Tryz.f146) (T146_aa3_1 (x0, x1, x2, x3, x4, x5, x6, x7, x8, x9, x10, x11, x12, x13, x14, x15, x16, x17, x18, x19, x20)) (lc kp146_aa3 12 1 R K) = S_coder_Decoder_Get_aa3_1 fuel (x0, x1, x2, x3, x4, x5, x6, x7, x8, x9, x10, x11, x12, x13, x14, x15, x16, x17, x18, x19, x20) (fun v => R (T146_aa3_1 v)) (E146_aa3_1 K) :=
  S146_aa3_1_okg fuel (F_coder_Decoder_shift_40a fuel) (F_coder_interval_take_7ec fuel) (F_coder_interval_mid_aa3 fuel) (F_coder_interval_same_40a fuel) (F_coder_interval_lose_40a fuel) (F_coder_Decoder_none_40a fuel) R K x0 x1 x2 x3 x4 x5 x6 x7 x8 x9 x10 x11 x12 x13 x14 x15 x16 x17 x18 x19 x20
noncomputable def B146_aa3_1 (fuel : Nat) : Ev.Blk := fun st K => match canonO (kp146_aa3 12) st with
  | some s => (match s with
    | ⟨[(q0, .c (.ptr q1 q2)), (q3, .c (.int .i64 x0)), (q4, .c (.int .i64 x1)), (q5, .c (.ptr q6 q7)), (q8, .c (.int .i64 x2))], [(q9, .cells q10 cs0), (q11, .vec q12 (.int .i64) x11 false), (q13, .vec q14 (.int .u8) x12 false), (q15, .cells q16 cs1)], q17, q18⟩ => (match splitRun 2 [(.i64, 2048), (.i64, 1792), (.i64, 1568), (.i64, 1372), (.i64, 1201), (.i64, 1051), (.i64, 920), (.i64, 805), (.i64, 705), (.i64, 617), (.i64, 540), (.i64, 473), (.i64, 414), (.i64, 363), (.i64, 318), (.i64, 279), (.i64, 245), (.i64, 215), (.i64, 189), (.i64, 166), (.i64, 146), (.i64, 128), (.i64, 112), (.i64, 98), (.i64, 86), (.i64, 76), (.i64, 67), (.i64, 59), (.i64, 52), (.i64, 46), (.i64, 41), (.i64, 36)] cs0 with | some ([.int .i64 x3, .own q19], [.int .u64 x4, .int .u64 x5, .own q20, .int .i64 x6, .int .u64 x7, .int .i64 x8, .bool x9, .bool x10]) => (match splitRun 2 [(.i64, 2048), (.i64, 1792), (.i64, 1568), (.i64, 1372), (.i64, 1201), (.i64, 1051), (.i64, 920), (.i64, 805), (.i64, 705), (.i64, 617), (.i64, 540), (.i64, 473), (.i64, 414), (.i64, 363), (.i64, 318), (.i64, 279), (.i64, 245), (.i64, 215), (.i64, 189), (.i64, 166), (.i64, 146), (.i64, 128), (.i64, 112), (.i64, 98), (.i64, 86), (.i64, 76), (.i64, 67), (.i64, 59), (.i64, 52), (.i64, 46), (.i64, 41), (.i64, 36)] cs1 with | some ([.int .i64 x13, .own q21], [.int .u64 x14, .int .u64 x15, .own q22, .int .i64 x16, .int .u64 x17, .int .i64 x18, .bool x19, .bool x20]) => bif Nat.beq q0 0 && Nat.beq q1 0 && Nat.beq q2 0 && Nat.beq q3 1 && Nat.beq q4 6 && Nat.beq q5 8 && Nat.beq q6 3 && Nat.beq q7 0 && Nat.beq q8 9 && Nat.beq q9 0 && Nat.beq q10 194 && Nat.beq q11 1 && Nat.beq q12 3 && Nat.beq q13 2 && Nat.beq q14 5 && Nat.beq q15 3 && Nat.beq q16 194 && Nat.beq q17 4 && Nat.beq q18 3 && Nat.beq q19 1 && Nat.beq q20 2 && Nat.beq q21 1 && Nat.beq q22 2 then iter (S_coder_Decoder_Get_aa3_1 fuel) fuel (x0, x1, x2, x3, x4, x5, x6, x7, x8, x9, x10, x11, x12, x13, x14, x15, x16, x17, x18, x19, x20) (E146_aa3_1 K) else none | _ => none) | _ => none)
    | _ => none)
  | none => none
theorem B146_aa3_1_ok (fuel : Nat) (st : Ev.St) (K : Ev.Ex → Ev.St → Option Ans) (r : Ans) (h : B146_aa3_1 fuel st K = some r) : evalCode tab (G146_aa3 fuel) (J146_aa3_1 fuel) kp146_aa3 fuel (.block 1 (.loop (bodyOf 1 Tryz.f146))) st K = some r := by
  unfold B146_aa3_1 at h
  split at h
  · rename_i s hs
    split at h
    · skip
      split at h
      rotate_left 1
      · cases h
      rename_i hsp
      have esp := splitRun_eq hsp
      subst esp
      split at h
      rotate_left 1
      · cases h
      rename_i hsp
      have esp := splitRun_eq hsp
      subst esp
      obtain ⟨hb, h⟩ := cond_some' h
      simp only [Bool.and_eq_true, Nat.beq_eq, decide_eq_true_eq] at hb
      obtain ⟨⟨⟨⟨⟨⟨⟨⟨⟨⟨⟨⟨⟨⟨⟨⟨⟨⟨⟨⟨⟨⟨rfl, rfl⟩, rfl⟩, rfl⟩, rfl⟩, rfl⟩, rfl⟩, rfl⟩, rfl⟩, rfl⟩, rfl⟩, rfl⟩, rfl⟩, rfl⟩, rfl⟩, rfl⟩, rfl⟩, rfl⟩, rfl⟩, rfl⟩, rfl⟩, rfl⟩, rfl⟩ := hb
      exact blk_loop (S := T146_aa3_1) (ks := E146_aa3_1) (step := S_coder_Decoder_Get_aa3_1 fuel) (v := (_, _, _, _, _, _, _, _, _, _, _, _, _, _, _, _, _, _, _, _, _)) (by kernel_rfl) (by kernel_rfl) (fun R K v => by obtain ⟨x0, x1, x2, x3, x4, x5, x6, x7, x8, x9, x10, x11, x12, x13, x14, x15, x16, x17, x18, x19, x20⟩ := v; exact S146_aa3_1_ok fuel R K x0 x1 x2 x3 x4 x5 x6 x7 x8 x9 x10 x11 x12 x13 x14 x15 x16 x17 x18 x19 x20) hs h
    · cases h
  · cases h
noncomputable def J146_aa3 (fuel : Nat) (i : Nat) : Option Ev.Blk := Ev.look i [(100001, B146_aa3_1 fuel)]
noncomputable def F_coder_Decoder_Get_aa3 (fuel : Nat) (x0 : Int) (x1 : Int) (x2 : Int) (x3 : Int) (x4 : Int) (x5 : Int) (x6 : Int) (x7 : Bool) (x8 : Bool) (x9 : (List Int)) (x10 : (List Int)) (k0 : (Int × Int × Int × Int × Int × Int × Int × Int × Bool × Bool × (List Int) × (List Int)) → Option Ans) : Option Ans :=
  (F_coder_Decoder_none_40a fuel (x1) (x2) (x3) (x4) (x5) (x6) (x7) (x8) (x9) (x10)
    (fun (y2_0, y2_1, y2_2, y2_3, y2_4, y2_5, y2_6, y2_7, y2_8, y2_9, y2_10) =>
      bif y2_0 then
       k0 ((0 : Int), (7 : Int), y2_1, y2_2, y2_3, y2_4, y2_5, y2_6, y2_7, y2_8, y2_9, y2_10)
      else
       bif Decidable.decide (x0 < (0 : Int)) then
        k0 ((0 : Int), (2 : Int), y2_1, y2_2, y2_3, y2_4, y2_5, y2_6, y2_7, y2_8, y2_9, y2_10)
       else
        bif Decidable.decide (x0 ≥ (↑y2_9.length : Int)) then
         k0 ((0 : Int), (2 : Int), y2_1, y2_2, y2_3, y2_4, y2_5, y2_6, y2_7, y2_8, y2_9, y2_10)
        else
         bif y2_7 then
          k0 ((0 : Int), (6 : Int), y2_1, y2_2, y2_3, y2_4, y2_5, y2_6, y2_7, y2_8, y2_9, y2_10)
         else
          (F_coder_interval_mid_aa3 fuel (x0) (y2_1) (y2_2) (y2_3) (y2_4) (y2_5) (y2_6) (y2_7) (y2_8) (y2_9) (y2_10)
            (fun (y10_0, y10_1, y10_2, y10_3, y10_4, y10_5, y10_6, y10_7, y10_8, y10_9, y10_10) =>
              bif Decidable.decide (y10_5 ≤ y10_0) then
               bif Decidable.decide ((0 : Int) ≤ x0 ∧ x0 < (↑y10_9.length : Int)) then
               both ((F_coder_interval_take_7ec fuel (x0) ((1 : Int)) (y10_0) (y10_1) (y10_2) (y10_3) (y10_4) (y10_5) (y10_6) (y10_7) (y10_8) (y10_9) (y10_10)
                    (fun (y18_0, y18_1, y18_2, y18_3, y18_4, y18_5, y18_6, y18_7, y18_8, y18_9) =>
                      (L_coder_Decoder_Get_aa3_1 fuel (x0, (1 : Int), y10_9.getD x0.toNat (0 : Int), y18_0, y18_1, y18_2, y18_3, y18_4, y18_5, y18_6, y18_7, y18_8, y18_9, y10_1, y10_2, y10_3, y10_4, y10_5, y10_6, y10_7, y10_8)
                        (fun (b1_0, b1_1, b1_2, b1_3, b1_4, b1_5, b1_6, b1_7, b1_8, b1_9, b1_10, b1_11, b1_12, b1_13, b1_14, b1_15, b1_16, b1_17, b1_18, b1_19, b1_20) =>
                          bif Decidable.decide (b1_8 > (4 : Int)) then
                           bif Decidable.decide ((0 : Int) ≤ b1_0 ∧ b1_0 < (↑b1_11.length : Int)) then
                           k0 ((0 : Int), (6 : Int), b1_13, b1_14, b1_15, b1_16, b1_17, b1_18, Bool.true, b1_20, b1_11.set b1_0.toNat b1_2, b1_12)
                           else none
                          else
                           k0 (b1_1, (0 : Int), b1_3, b1_4, b1_5, b1_6, b1_7, b1_8, b1_9, b1_10, b1_11, b1_12))))))
                 (both ((F_coder_interval_take_7ec fuel (x0) ((1 : Int)) (y10_0) (y10_1) (y10_2) (y10_3) (y10_4) (y10_5) (y10_6) (y10_7) (y10_8) (y10_9) (y10_10)
                      (fun (y20_0, y20_1, y20_2, y20_3, y20_4, y20_5, y20_6, y20_7, y20_8, y20_9) =>
                        (L_coder_Decoder_Get_aa3_1 fuel (x0, (1 : Int), y10_9.getD x0.toNat (0 : Int), y20_0, y20_1, y20_2, y20_3, y20_4, y20_5, y20_6, y20_7, y20_8, y20_9, y10_1, y10_2, y10_3, y10_4, y10_5, y10_6, y10_7, y10_8)
                          (fun (b1_0, b1_1, b1_2, b1_3, b1_4, b1_5, b1_6, b1_7, b1_8, b1_9, b1_10, b1_11, b1_12, b1_13, b1_14, b1_15, b1_16, b1_17, b1_18, b1_19, b1_20) =>
                            bif Decidable.decide (b1_8 > (4 : Int)) then
                             bif Decidable.decide ((0 : Int) ≤ b1_0 ∧ b1_0 < (↑b1_11.length : Int)) then
                             k0 ((0 : Int), (6 : Int), b1_13, b1_14, b1_15, b1_16, b1_17, b1_18, Bool.true, b1_20, b1_11.set b1_0.toNat b1_2, b1_12)
                             else none
                            else
                             k0 (b1_1, (0 : Int), b1_3, b1_4, b1_5, b1_6, b1_7, b1_8, b1_9, b1_10, b1_11, b1_12))))))
                   ((F_coder_interval_take_7ec fuel (x0) ((1 : Int)) (y10_0) (y10_1) (y10_2) (y10_3) (y10_4) (y10_5) (y10_6) (y10_7) (y10_8) (y10_9) (y10_10)
                      (fun (y20_0, y20_1, y20_2, y20_3, y20_4, y20_5, y20_6, y20_7, y20_8, y20_9) =>
                        (L_coder_Decoder_Get_aa3_1 fuel (x0, (1 : Int), y10_9.getD x0.toNat (0 : Int), y20_0, y20_1, y20_2, y20_3, y20_4, y20_5, y20_6, y20_7, y20_8, y20_9, y10_1, y10_2, y10_3, y10_4, y10_5, y10_6, y10_7, y10_8)
                          (fun (b1_0, b1_1, b1_2, b1_3, b1_4, b1_5, b1_6, b1_7, b1_8, b1_9, b1_10, b1_11, b1_12, b1_13, b1_14, b1_15, b1_16, b1_17, b1_18, b1_19, b1_20) =>
                            bif Decidable.decide (b1_8 > (4 : Int)) then
                             bif Decidable.decide ((0 : Int) ≤ b1_0 ∧ b1_0 < (↑b1_11.length : Int)) then
                             k0 ((0 : Int), (6 : Int), b1_13, b1_14, b1_15, b1_16, b1_17, b1_18, Bool.true, b1_20, b1_11.set b1_0.toNat b1_2, b1_12)
                             else none
                            else
                             k0 (b1_1, (0 : Int), b1_3, b1_4, b1_5, b1_6, b1_7, b1_8, b1_9, b1_10, b1_11, b1_12)))))))
               else none
              else
               bif Decidable.decide ((0 : Int) ≤ x0 ∧ x0 < (↑y10_9.length : Int)) then
               both ((F_coder_interval_take_7ec fuel (x0) ((0 : Int)) (y10_0) (y10_1) (y10_2) (y10_3) (y10_4) (y10_5) (y10_6) (y10_7) (y10_8) (y10_9) (y10_10)
                    (fun (y18_0, y18_1, y18_2, y18_3, y18_4, y18_5, y18_6, y18_7, y18_8, y18_9) =>
                      (L_coder_Decoder_Get_aa3_1 fuel (x0, (0 : Int), y10_9.getD x0.toNat (0 : Int), y18_0, y18_1, y18_2, y18_3, y18_4, y18_5, y18_6, y18_7, y18_8, y18_9, y10_1, y10_2, y10_3, y10_4, y10_5, y10_6, y10_7, y10_8)
                        (fun (b1_0, b1_1, b1_2, b1_3, b1_4, b1_5, b1_6, b1_7, b1_8, b1_9, b1_10, b1_11, b1_12, b1_13, b1_14, b1_15, b1_16, b1_17, b1_18, b1_19, b1_20) =>
                          bif Decidable.decide (b1_8 > (4 : Int)) then
                           bif Decidable.decide ((0 : Int) ≤ b1_0 ∧ b1_0 < (↑b1_11.length : Int)) then
                           k0 ((0 : Int), (6 : Int), b1_13, b1_14, b1_15, b1_16, b1_17, b1_18, Bool.true, b1_20, b1_11.set b1_0.toNat b1_2, b1_12)
                           else none
                          else
                           k0 (b1_1, (0 : Int), b1_3, b1_4, b1_5, b1_6, b1_7, b1_8, b1_9, b1_10, b1_11, b1_12))))))
                 (both ((F_coder_interval_take_7ec fuel (x0) ((0 : Int)) (y10_0) (y10_1) (y10_2) (y10_3) (y10_4) (y10_5) (y10_6) (y10_7) (y10_8) (y10_9) (y10_10)
                      (fun (y20_0, y20_1, y20_2, y20_3, y20_4, y20_5, y20_6, y20_7, y20_8, y20_9) =>
                        (L_coder_Decoder_Get_aa3_1 fuel (x0, (0 : Int), y10_9.getD x0.toNat (0 : Int), y20_0, y20_1, y20_2, y20_3, y20_4, y20_5, y20_6, y20_7, y20_8, y20_9, y10_1, y10_2, y10_3, y10_4, y10_5, y10_6, y10_7, y10_8)
                          (fun (b1_0, b1_1, b1_2, b1_3, b1_4, b1_5, b1_6, b1_7, b1_8, b1_9, b1_10, b1_11, b1_12, b1_13, b1_14, b1_15, b1_16, b1_17, b1_18, b1_19, b1_20) =>
                            bif Decidable.decide (b1_8 > (4 : Int)) then
                             bif Decidable.decide ((0 : Int) ≤ b1_0 ∧ b1_0 < (↑b1_11.length : Int)) then
                             k0 ((0 : Int), (6 : Int), b1_13, b1_14, b1_15, b1_16, b1_17, b1_18, Bool.true, b1_20, b1_11.set b1_0.toNat b1_2, b1_12)
                             else none
                            else
                             k0 (b1_1, (0 : Int), b1_3, b1_4, b1_5, b1_6, b1_7, b1_8, b1_9, b1_10, b1_11, b1_12))))))
                   ((F_coder_interval_take_7ec fuel (x0) ((0 : Int)) (y10_0) (y10_1) (y10_2) (y10_3) (y10_4) (y10_5) (y10_6) (y10_7) (y10_8) (y10_9) (y10_10)
                      (fun (y20_0, y20_1, y20_2, y20_3, y20_4, y20_5, y20_6, y20_7, y20_8, y20_9) =>
                        (L_coder_Decoder_Get_aa3_1 fuel (x0, (0 : Int), y10_9.getD x0.toNat (0 : Int), y20_0, y20_1, y20_2, y20_3, y20_4, y20_5, y20_6, y20_7, y20_8, y20_9, y10_1, y10_2, y10_3, y10_4, y10_5, y10_6, y10_7, y10_8)
                          (fun (b1_0, b1_1, b1_2, b1_3, b1_4, b1_5, b1_6, b1_7, b1_8, b1_9, b1_10, b1_11, b1_12, b1_13, b1_14, b1_15, b1_16, b1_17, b1_18, b1_19, b1_20) =>
                            bif Decidable.decide (b1_8 > (4 : Int)) then
                             bif Decidable.decide ((0 : Int) ≤ b1_0 ∧ b1_0 < (↑b1_11.length : Int)) then
                             k0 ((0 : Int), (6 : Int), b1_13, b1_14, b1_15, b1_16, b1_17, b1_18, Bool.true, b1_20, b1_11.set b1_0.toNat b1_2, b1_12)
                             else none
                            else
                             k0 (b1_1, (0 : Int), b1_3, b1_4, b1_5, b1_6, b1_7, b1_8, b1_9, b1_10, b1_11, b1_12)))))))
               else none))))
abbrev YF146_aa3 : Type := (Int) → (Int) → (Int) → (Int) → (Int) → (Int) → (Int) → (Bool) → (Bool) → ((List Int)) → ((List Int)) → ((Int × Int × Int × Int × Int × Int × Int × Int × Bool × Bool × (List Int) × (List Int)) → Option Ans) → Option Ans
theorem F146_aa3_eqg (fuel : Nat) (f145_40a : YF145_40a) (f208_7ec : YF208_7ec) (f209_aa3 : YF209_aa3) (f210_40a : YF210_40a) (f211_40a : YF211_40a) (f222_40a : YF222_40a) (x0 : Int) (x1 : Int) (x2 : Int) (x3 : Int) (x4 : Int) (x5 : Int) (x6 : Int) (x7 : Bool) (x8 : Bool) (x9 : (List Int)) (x10 : (List Int)) (k : Ev.Cont) : evalFn tab (Gg146_aa3 f145_40a f208_7ec f209_aa3 f210_40a f211_40a f222_40a) (J146_aa3 fuel) kp146_aa3 fuel Tryz.f146 [.c (.ptr 0 0), .c (.int .i64 x0)] [.cells 194 (.int .i64 x1 :: .own 1 :: .int .i64 2048 :: .int .i64 1792 :: .int .i64 1568 :: .int .i64 1372 :: .int .i64 1201 :: .int .i64 1051 :: .int .i64 920 :: .int .i64 805 :: .int .i64 705 :: .int .i64 617 :: .int .i64 540 :: .int .i64 473 :: .int .i64 414 :: .int .i64 363 :: .int .i64 318 :: .int .i64 279 :: .int .i64 245 :: .int .i64 215 :: .int .i64 189 :: .int .i64 166 :: .int .i64 146 :: .int .i64 128 :: .int .i64 112 :: .int .i64 98 :: .int .i64 86 :: .int .i64 76 :: .int .i64 67 :: .int .i64 59 :: .int .i64 52 :: .int .i64 46 :: .int .i64 41 :: .int .i64 36 :: .int .u64 x2 :: .int .u64 x3 :: .own 2 :: .int .i64 x4 :: .int .u64 x5 :: .int .i64 x6 :: .bool x7 :: .bool x8 :: []), .vec 3 (.int .i64) x9 false, .vec 5 (.int .u8) x10 false] k = (fun  (k0 : (Int × Int × Int × Int × Int × Int × Int × Int × Bool × Bool × (List Int) × (List Int)) → Option Ans) =>
  (f222_40a (x1) (x2) (x3) (x4) (x5) (x6) (x7) (x8) (x9) (x10)
    (fun (y2_0, y2_1, y2_2, y2_3, y2_4, y2_5, y2_6, y2_7, y2_8, y2_9, y2_10) =>
      bif y2_0 then
       k0 ((0 : Int), (7 : Int), y2_1, y2_2, y2_3, y2_4, y2_5, y2_6, y2_7, y2_8, y2_9, y2_10)
      else
       bif Decidable.decide (x0 < (0 : Int)) then
        k0 ((0 : Int), (2 : Int), y2_1, y2_2, y2_3, y2_4, y2_5, y2_6, y2_7, y2_8, y2_9, y2_10)
       else
        bif Decidable.decide (x0 ≥ (↑y2_9.length : Int)) then
         k0 ((0 : Int), (2 : Int), y2_1, y2_2, y2_3, y2_4, y2_5, y2_6, y2_7, y2_8, y2_9, y2_10)
        else
         bif y2_7 then
          k0 ((0 : Int), (6 : Int), y2_1, y2_2, y2_3, y2_4, y2_5, y2_6, y2_7, y2_8, y2_9, y2_10)
         else
          (f209_aa3 (x0) (y2_1) (y2_2) (y2_3) (y2_4) (y2_5) (y2_6) (y2_7) (y2_8) (y2_9) (y2_10)
            (fun (y10_0, y10_1, y10_2, y10_3, y10_4, y10_5, y10_6, y10_7, y10_8, y10_9, y10_10) =>
              bif Decidable.decide (y10_5 ≤ y10_0) then
               bif Decidable.decide ((0 : Int) ≤ x0 ∧ x0 < (↑y10_9.length : Int)) then
               both ((f208_7ec (x0) ((1 : Int)) (y10_0) (y10_1) (y10_2) (y10_3) (y10_4) (y10_5) (y10_6) (y10_7) (y10_8) (y10_9) (y10_10)
                    (fun (y18_0, y18_1, y18_2, y18_3, y18_4, y18_5, y18_6, y18_7, y18_8, y18_9) =>
                      (L_coder_Decoder_Get_aa3_1 fuel (x0, (1 : Int), y10_9.getD x0.toNat (0 : Int), y18_0, y18_1, y18_2, y18_3, y18_4, y18_5, y18_6, y18_7, y18_8, y18_9, y10_1, y10_2, y10_3, y10_4, y10_5, y10_6, y10_7, y10_8)
                        (fun (b1_0, b1_1, b1_2, b1_3, b1_4, b1_5, b1_6, b1_7, b1_8, b1_9, b1_10, b1_11, b1_12, b1_13, b1_14, b1_15, b1_16, b1_17, b1_18, b1_19, b1_20) =>
                          bif Decidable.decide (b1_8 > (4 : Int)) then
                           bif Decidable.decide ((0 : Int) ≤ b1_0 ∧ b1_0 < (↑b1_11.length : Int)) then
                           k0 ((0 : Int), (6 : Int), b1_13, b1_14, b1_15, b1_16, b1_17, b1_18, Bool.true, b1_20, b1_11.set b1_0.toNat b1_2, b1_12)
                           else none
                          else
                           k0 (b1_1, (0 : Int), b1_3, b1_4, b1_5, b1_6, b1_7, b1_8, b1_9, b1_10, b1_11, b1_12))))))
                 (both ((f208_7ec (x0) ((1 : Int)) (y10_0) (y10_1) (y10_2) (y10_3) (y10_4) (y10_5) (y10_6) (y10_7) (y10_8) (y10_9) (y10_10)
                      (fun (y20_0, y20_1, y20_2, y20_3, y20_4, y20_5, y20_6, y20_7, y20_8, y20_9) =>
                        (L_coder_Decoder_Get_aa3_1 fuel (x0, (1 : Int), y10_9.getD x0.toNat (0 : Int), y20_0, y20_1, y20_2, y20_3, y20_4, y20_5, y20_6, y20_7, y20_8, y20_9, y10_1, y10_2, y10_3, y10_4, y10_5, y10_6, y10_7, y10_8)
                          (fun (b1_0, b1_1, b1_2, b1_3, b1_4, b1_5, b1_6, b1_7, b1_8, b1_9, b1_10, b1_11, b1_12, b1_13, b1_14, b1_15, b1_16, b1_17, b1_18, b1_19, b1_20) =>
                            bif Decidable.decide (b1_8 > (4 : Int)) then
                             bif Decidable.decide ((0 : Int) ≤ b1_0 ∧ b1_0 < (↑b1_11.length : Int)) then
                             k0 ((0 : Int), (6 : Int), b1_13, b1_14, b1_15, b1_16, b1_17, b1_18, Bool.true, b1_20, b1_11.set b1_0.toNat b1_2, b1_12)
                             else none
                            else
                             k0 (b1_1, (0 : Int), b1_3, b1_4, b1_5, b1_6, b1_7, b1_8, b1_9, b1_10, b1_11, b1_12))))))
                   ((f208_7ec (x0) ((1 : Int)) (y10_0) (y10_1) (y10_2) (y10_3) (y10_4) (y10_5) (y10_6) (y10_7) (y10_8) (y10_9) (y10_10)
                      (fun (y20_0, y20_1, y20_2, y20_3, y20_4, y20_5, y20_6, y20_7, y20_8, y20_9) =>
                        (L_coder_Decoder_Get_aa3_1 fuel (x0, (1 : Int), y10_9.getD x0.toNat (0 : Int), y20_0, y20_1, y20_2, y20_3, y20_4, y20_5, y20_6, y20_7, y20_8, y20_9, y10_1, y10_2, y10_3, y10_4, y10_5, y10_6, y10_7, y10_8)
                          (fun (b1_0, b1_1, b1_2, b1_3, b1_4, b1_5, b1_6, b1_7, b1_8, b1_9, b1_10, b1_11, b1_12, b1_13, b1_14, b1_15, b1_16, b1_17, b1_18, b1_19, b1_20) =>
                            bif Decidable.decide (b1_8 > (4 : Int)) then
                             bif Decidable.decide ((0 : Int) ≤ b1_0 ∧ b1_0 < (↑b1_11.length : Int)) then
                             k0 ((0 : Int), (6 : Int), b1_13, b1_14, b1_15, b1_16, b1_17, b1_18, Bool.true, b1_20, b1_11.set b1_0.toNat b1_2, b1_12)
                             else none
                            else
                             k0 (b1_1, (0 : Int), b1_3, b1_4, b1_5, b1_6, b1_7, b1_8, b1_9, b1_10, b1_11, b1_12)))))))
               else none
              else
               bif Decidable.decide ((0 : Int) ≤ x0 ∧ x0 < (↑y10_9.length : Int)) then
               both ((f208_7ec (x0) ((0 : Int)) (y10_0) (y10_1) (y10_2) (y10_3) (y10_4) (y10_5) (y10_6) (y10_7) (y10_8) (y10_9) (y10_10)
                    (fun (y18_0, y18_1, y18_2, y18_3, y18_4, y18_5, y18_6, y18_7, y18_8, y18_9) =>
                      (L_coder_Decoder_Get_aa3_1 fuel (x0, (0 : Int), y10_9.getD x0.toNat (0 : Int), y18_0, y18_1, y18_2, y18_3, y18_4, y18_5, y18_6, y18_7, y18_8, y18_9, y10_1, y10_2, y10_3, y10_4, y10_5, y10_6, y10_7, y10_8)
                        (fun (b1_0, b1_1, b1_2, b1_3, b1_4, b1_5, b1_6, b1_7, b1_8, b1_9, b1_10, b1_11, b1_12, b1_13, b1_14, b1_15, b1_16, b1_17, b1_18, b1_19, b1_20) =>
                          bif Decidable.decide (b1_8 > (4 : Int)) then
                           bif Decidable.decide ((0 : Int) ≤ b1_0 ∧ b1_0 < (↑b1_11.length : Int)) then
                           k0 ((0 : Int), (6 : Int), b1_13, b1_14, b1_15, b1_16, b1_17, b1_18, Bool.true, b1_20, b1_11.set b1_0.toNat b1_2, b1_12)
                           else none
                          else
                           k0 (b1_1, (0 : Int), b1_3, b1_4, b1_5, b1_6, b1_7, b1_8, b1_9, b1_10, b1_11, b1_12))))))
                 (both ((f208_7ec (x0) ((0 : Int)) (y10_0) (y10_1) (y10_2) (y10_3) (y10_4) (y10_5) (y10_6) (y10_7) (y10_8) (y10_9) (y10_10)
                      (fun (y20_0, y20_1, y20_2, y20_3, y20_4, y20_5, y20_6, y20_7, y20_8, y20_9) =>
                        (L_coder_Decoder_Get_aa3_1 fuel (x0, (0 : Int), y10_9.getD x0.toNat (0 : Int), y20_0, y20_1, y20_2, y20_3, y20_4, y20_5, y20_6, y20_7, y20_8, y20_9, y10_1, y10_2, y10_3, y10_4, y10_5, y10_6, y10_7, y10_8)
                          (fun (b1_0, b1_1, b1_2, b1_3, b1_4, b1_5, b1_6, b1_7, b1_8, b1_9, b1_10, b1_11, b1_12, b1_13, b1_14, b1_15, b1_16, b1_17, b1_18, b1_19, b1_20) =>
                            bif Decidable.decide (b1_8 > (4 : Int)) then
                             bif Decidable.decide ((0 : Int) ≤ b1_0 ∧ b1_0 < (↑b1_11.length : Int)) then
                             k0 ((0 : Int), (6 : Int), b1_13, b1_14, b1_15, b1_16, b1_17, b1_18, Bool.true, b1_20, b1_11.set b1_0.toNat b1_2, b1_12)
                             else none
                            else
                             k0 (b1_1, (0 : Int), b1_3, b1_4, b1_5, b1_6, b1_7, b1_8, b1_9, b1_10, b1_11, b1_12))))))
                   ((f208_7ec (x0) ((0 : Int)) (y10_0) (y10_1) (y10_2) (y10_3) (y10_4) (y10_5) (y10_6) (y10_7) (y10_8) (y10_9) (y10_10)
                      (fun (y20_0, y20_1, y20_2, y20_3, y20_4, y20_5, y20_6, y20_7, y20_8, y20_9) =>
                        (L_coder_Decoder_Get_aa3_1 fuel (x0, (0 : Int), y10_9.getD x0.toNat (0 : Int), y20_0, y20_1, y20_2, y20_3, y20_4, y20_5, y20_6, y20_7, y20_8, y20_9, y10_1, y10_2, y10_3, y10_4, y10_5, y10_6, y10_7, y10_8)
                          (fun (b1_0, b1_1, b1_2, b1_3, b1_4, b1_5, b1_6, b1_7, b1_8, b1_9, b1_10, b1_11, b1_12, b1_13, b1_14, b1_15, b1_16, b1_17, b1_18, b1_19, b1_20) =>
                            bif Decidable.decide (b1_8 > (4 : Int)) then
                             bif Decidable.decide ((0 : Int) ≤ b1_0 ∧ b1_0 < (↑b1_11.length : Int)) then
                             k0 ((0 : Int), (6 : Int), b1_13, b1_14, b1_15, b1_16, b1_17, b1_18, Bool.true, b1_20, b1_11.set b1_0.toNat b1_2, b1_12)
                             else none
                            else
                             k0 (b1_1, (0 : Int), b1_3, b1_4, b1_5, b1_6, b1_7, b1_8, b1_9, b1_10, b1_11, b1_12)))))))
               else none))))) (fun r => match r with | (r0, r1, r2, r3, r4, r5, r6, r7, r8, r9, r10, r11) => k (.tup [(false, [.int .i64 r0]), (false, [.int .i64 r1])], [.cells 194 (.int .i64 r2 :: .own 1 :: .int .i64 2048 :: .int .i64 1792 :: .int .i64 1568 :: .int .i64 1372 :: .int .i64 1201 :: .int .i64 1051 :: .int .i64 920 :: .int .i64 805 :: .int .i64 705 :: .int .i64 617 :: .int .i64 540 :: .int .i64 473 :: .int .i64 414 :: .int .i64 363 :: .int .i64 318 :: .int .i64 279 :: .int .i64 245 :: .int .i64 215 :: .int .i64 189 :: .int .i64 166 :: .int .i64 146 :: .int .i64 128 :: .int .i64 112 :: .int .i64 98 :: .int .i64 86 :: .int .i64 76 :: .int .i64 67 :: .int .i64 59 :: .int .i64 52 :: .int .i64 46 :: .int .i64 41 :: .int .i64 36 :: .int .u64 r3 :: .int .u64 r4 :: .own 2 :: .int .i64 r5 :: .int .u64 r6 :: .int .i64 r7 :: .bool r8 :: .bool r9 :: []), .vec 3 (.int .i64) r10 false, .vec 5 (.int .u8) r11 false])) := by
  kernel_rfl
theorem F146_aa3_eq (fuel : Nat) (x0 : Int) (x1 : Int) (x2 : Int) (x3 : Int) (x4 : Int) (x5 : Int) (x6 : Int) (x7 : Bool) (x8 : Bool) (x9 : (List Int)) (x10 : (List Int)) (k : Ev.Cont) : evalFn tab (G146_aa3 fuel) (J146_aa3 fuel) kp146_aa3 fuel Tryz.f146 [.c (.ptr 0 0), .c (.int .i64 x0)] [.cells 194 (.int .i64 x1 :: .own 1 :: .int .i64 2048 :: .int .i64 1792 :: .int .i64 1568 :: .int .i64 1372 :: .int .i64 1201 :: .int .i64 1051 :: .int .i64 920 :: .int .i64 805 :: .int .i64 705 :: .int .i64 617 :: .int .i64 540 :: .int .i64 473 :: .int .i64 414 :: .int .i64 363 :: .int .i64 318 :: .int .i64 279 :: .int .i64 245 :: .int .i64 215 :: .int .i64 189 :: .int .i64 166 :: .int .i64 146 :: .int .i64 128 :: .int .i64 112 :: .int .i64 98 :: .int .i64 86 :: .int .i64 76 :: .int .i64 67 :: .int .i64 59 :: .int .i64 52 :: .int .i64 46 :: .int .i64 41 :: .int .i64 36 :: .int .u64 x2 :: .int .u64 x3 :: .own 2 :: .int .i64 x4 :: .int .u64 x5 :: .int .i64 x6 :: .bool x7 :: .bool x8 :: []), .vec 3 (.int .i64) x9 false, .vec 5 (.int .u8) x10 false] k = F_coder_Decoder_Get_aa3 fuel x0 x1 x2 x3 x4 x5 x6 x7 x8 x9 x10 (fun r => match r with | (r0, r1, r2, r3, r4, r5, r6, r7, r8, r9, r10, r11) => k (.tup [(false, [.int .i64 r0]), (false, [.int .i64 r1])], [.cells 194 (.int .i64 r2 :: .own 1 :: .int .i64 2048 :: .int .i64 1792 :: .int .i64 1568 :: .int .i64 1372 :: .int .i64 1201 :: .int .i64 1051 :: .int .i64 920 :: .int .i64 805 :: .int .i64 705 :: .int .i64 617 :: .int .i64 540 :: .int .i64 473 :: .int .i64 414 :: .int .i64 363 :: .int .i64 318 :: .int .i64 279 :: .int .i64 245 :: .int .i64 215 :: .int .i64 189 :: .int .i64 166 :: .int .i64 146 :: .int .i64 128 :: .int .i64 112 :: .int .i64 98 :: .int .i64 86 :: .int .i64 76 :: .int .i64 67 :: .int .i64 59 :: .int .i64 52 :: .int .i64 46 :: .int .i64 41 :: .int .i64 36 :: .int .u64 r3 :: .int .u64 r4 :: .own 2 :: .int .i64 r5 :: .int .u64 r6 :: .int .i64 r7 :: .bool r8 :: .bool r9 :: []), .vec 3 (.int .i64) r10 false, .vec 5 (.int .u8) r11 false])) :=
  F146_aa3_eqg fuel (F_coder_Decoder_shift_40a fuel) (F_coder_interval_take_7ec fuel) (F_coder_interval_mid_aa3 fuel) (F_coder_interval_same_40a fuel) (F_coder_interval_lose_40a fuel) (F_coder_Decoder_none_40a fuel) x0 x1 x2 x3 x4 x5 x6 x7 x8 x9 x10 k
theorem hG146_aa3 (fuel : Nat) : GOK Tryz.prog (G146_aa3 fuel) :=
  gok_cons ⟨ok145_40a fuel, enters_of Tryz.func145 (by kernel_rfl) rfl⟩ <|
  gok_cons ⟨ok208_7ec fuel, enters_of Tryz.func208 (by kernel_rfl) rfl⟩ <|
  gok_cons ⟨ok209_aa3 fuel, enters_of Tryz.func209 (by kernel_rfl) rfl⟩ <|
  gok_cons ⟨ok210_40a fuel, enters_of Tryz.func210 (by kernel_rfl) rfl⟩ <|
  gok_cons ⟨ok211_40a fuel, enters_of Tryz.func211 (by kernel_rfl) rfl⟩ <|
  gok_cons ⟨ok222_40a fuel, enters_of Tryz.func222 (by kernel_rfl) rfl⟩ <|
  gok_nil
theorem B146_aa3_1_blk (fuel : Nat) : BlkOK Tryz.prog Tryz.f146.ntmps (.block 1 (.loop (bodyOf 1 Tryz.f146))) (B146_aa3_1 fuel) :=
  blk_of (blk_of_code tab_ok (hG146_aa3 fuel) mixed (J := J146_aa3_1 fuel) (kp := kp146_aa3) (fuel := fuel) (by kernel_rfl) (fun q hq => by
    rw [(by kernel_rfl : obl (J146_aa3_1 fuel) (.block 1 (.loop (bodyOf 1 Tryz.f146))) = [])] at hq
    cases hq)) (B146_aa3_1_ok fuel)
theorem fok146_aa3 (fuel : Nat) : FnOK Tryz.prog 146 (evalFn tab (G146_aa3 fuel) (J146_aa3 fuel) kp146_aa3 fuel Tryz.f146) :=
  fn_ok tab_ok (hG146_aa3 fuel) mixed Tryz.func146 (c := (Tryz.f146.body).getD .skip) rfl (fun q hq => by
    rw [(by kernel_rfl : obl (J146_aa3 fuel) ((Tryz.f146.body).getD .skip) = [(.block 1 (.loop (bodyOf 1 Tryz.f146)), B146_aa3_1 fuel)])] at hq
    simp only [List.mem_cons, List.not_mem_nil, or_false] at hq
    subst hq
    · exact B146_aa3_1_blk fuel)
noncomputable def mt146_aa3 : List Ev.SV → List Ev.Ob → Bool := fun args objs => match args, objs with
  | [.c (.ptr q0 q1), .c (.int .i64 _)], [.cells q2 cs0, .vec q3 (.int .i64) _ false, .vec q4 (.int .u8) _ false] => (match splitRun 2 [(.i64, 2048), (.i64, 1792), (.i64, 1568), (.i64, 1372), (.i64, 1201), (.i64, 1051), (.i64, 920), (.i64, 805), (.i64, 705), (.i64, 617), (.i64, 540), (.i64, 473), (.i64, 414), (.i64, 363), (.i64, 318), (.i64, 279), (.i64, 245), (.i64, 215), (.i64, 189), (.i64, 166), (.i64, 146), (.i64, 128), (.i64, 112), (.i64, 98), (.i64, 86), (.i64, 76), (.i64, 67), (.i64, 59), (.i64, 52), (.i64, 46), (.i64, 41), (.i64, 36)] cs0 with | some ([.int .i64 _, .own q5], [.int .u64 _, .int .u64 _, .own q6, .int .i64 _, .int .u64 _, .int .i64 _, .bool _, .bool _]) => Nat.beq q0 0 && Nat.beq q1 0 && Nat.beq q2 194 && Nat.beq q3 3 && Nat.beq q4 5 && Nat.beq q5 1 && Nat.beq q6 2 | _ => false)
  | _, _ => false
noncomputable def spg146_aa3 (F : YF146_aa3) : Ev.Spec := fun args objs k => match args, objs with
  | [.c (.ptr q0 q1), .c (.int .i64 x0)], [.cells q2 cs0, .vec q3 (.int .i64) x9 false, .vec q4 (.int .u8) x10 false] => (match splitRun 2 [(.i64, 2048), (.i64, 1792), (.i64, 1568), (.i64, 1372), (.i64, 1201), (.i64, 1051), (.i64, 920), (.i64, 805), (.i64, 705), (.i64, 617), (.i64, 540), (.i64, 473), (.i64, 414), (.i64, 363), (.i64, 318), (.i64, 279), (.i64, 245), (.i64, 215), (.i64, 189), (.i64, 166), (.i64, 146), (.i64, 128), (.i64, 112), (.i64, 98), (.i64, 86), (.i64, 76), (.i64, 67), (.i64, 59), (.i64, 52), (.i64, 46), (.i64, 41), (.i64, 36)] cs0 with | some ([.int .i64 x1, .own q5], [.int .u64 x2, .int .u64 x3, .own q6, .int .i64 x4, .int .u64 x5, .int .i64 x6, .bool x7, .bool x8]) => bif Nat.beq q0 0 && Nat.beq q1 0 && Nat.beq q2 194 && Nat.beq q3 3 && Nat.beq q4 5 && Nat.beq q5 1 && Nat.beq q6 2 then F x0 x1 x2 x3 x4 x5 x6 x7 x8 x9 x10 (fun r => match r with | (r0, r1, r2, r3, r4, r5, r6, r7, r8, r9, r10, r11) => k (.tup [(false, [.int .i64 r0]), (false, [.int .i64 r1])], [.cells 194 (.int .i64 r2 :: .own 1 :: .int .i64 2048 :: .int .i64 1792 :: .int .i64 1568 :: .int .i64 1372 :: .int .i64 1201 :: .int .i64 1051 :: .int .i64 920 :: .int .i64 805 :: .int .i64 705 :: .int .i64 617 :: .int .i64 540 :: .int .i64 473 :: .int .i64 414 :: .int .i64 363 :: .int .i64 318 :: .int .i64 279 :: .int .i64 245 :: .int .i64 215 :: .int .i64 189 :: .int .i64 166 :: .int .i64 146 :: .int .i64 128 :: .int .i64 112 :: .int .i64 98 :: .int .i64 86 :: .int .i64 76 :: .int .i64 67 :: .int .i64 59 :: .int .i64 52 :: .int .i64 46 :: .int .i64 41 :: .int .i64 36 :: .int .u64 r3 :: .int .u64 r4 :: .own 2 :: .int .i64 r5 :: .int .u64 r6 :: .int .i64 r7 :: .bool r8 :: .bool r9 :: []), .vec 3 (.int .i64) r10 false, .vec 5 (.int .u8) r11 false])) else none | _ => none)
  | _, _ => none
noncomputable def spec146_aa3 (fuel : Nat) : Ev.Spec := spg146_aa3 (F_coder_Decoder_Get_aa3 fuel)
theorem ok146_aa3 (fuel : Nat) : FnOK Tryz.prog 146 (spec146_aa3 fuel) := by
  intro args objs kk r h
  unfold spec146_aa3 spg146_aa3 at h
  split at h
  · skip
    split at h
    rotate_left 1
    · cases h
    rename_i hsp
    have esp := splitRun_eq hsp
    subst esp
    obtain ⟨hb, h⟩ := cond_some' h
    simp only [Bool.and_eq_true, Nat.beq_eq, decide_eq_true_eq] at hb
    obtain ⟨⟨⟨⟨⟨⟨rfl, rfl⟩, rfl⟩, rfl⟩, rfl⟩, rfl⟩, rfl⟩ := hb
    exact fok146_aa3 fuel _ _ kk r ((F146_aa3_eq fuel _ _ _ _ _ _ _ _ _ _ _ kk).trans h)
  · cases h
end Go.Proofs.YtipdidpalcmlhaaGreat

set_option linter.unusedVariables false
set_option linter.unusedSimpArgs false
set_option maxRecDepth 100000
set_option maxHeartbeats 2000000
namespace Go.Proofs.YtipdidpalcmlhaaGreat
open Go Ev
def kp147_40a (i : Nat) : Option (List Nat) := Ev.look i []
noncomputable def Gg147_40a (f204 : YF204) (f222_40a : YF222_40a) (f : Nat) : Option Ev.Spec := Ev.look f [(204, spg204 f204), (222, spg222_40a f222_40a)]
noncomputable def G147_40a (fuel : Nat) : Nat → Option Ev.Spec := Gg147_40a (F_coder_clone fuel) (F_coder_Decoder_none_40a fuel)
noncomputable def J147_40a (fuel : Nat) (i : Nat) : Option Ev.Blk := Ev.look i []
noncomputable def F_coder_Decoder_Model_40a (fuel : Nat) (x0 : Int) (x1 : Int) (x2 : Int) (x3 : Int) (x4 : Int) (x5 : Int) (x6 : Bool) (x7 : Bool) (x8 : (List Int)) (x9 : (List Int)) (k0 : (Int × Int × Int × Int × Int × Int × Int × Bool × Bool × (List Int) × (List Int) × (List Int)) → Option Ans) : Option Ans :=
  (F_coder_Decoder_none_40a fuel (x0) (x1) (x2) (x3) (x4) (x5) (x6) (x7) (x8) (x9)
    (fun (y2_0, y2_1, y2_2, y2_3, y2_4, y2_5, y2_6, y2_7, y2_8, y2_9, y2_10) =>
      bif y2_0 then
       k0 ((0 : Int), y2_1, y2_2, y2_3, y2_4, y2_5, y2_6, y2_7, y2_8, y2_9, y2_10, [])
      else
       (F_coder_clone fuel (y2_1) (y2_9)
         (fun (y7_0, y7_1) =>
           k0 (y7_0, y2_1, y2_2, y2_3, y2_4, y2_5, y2_6, y2_7, y2_8, y2_9, y2_10, y7_1)))))
abbrev YF147_40a : Type := (Int) → (Int) → (Int) → (Int) → (Int) → (Int) → (Bool) → (Bool) → ((List Int)) → ((List Int)) → ((Int × Int × Int × Int × Int × Int × Int × Bool × Bool × (List Int) × (List Int) × (List Int)) → Option Ans) → Option Ans
theorem F147_40a_eqg (fuel : Nat) (f204 : YF204) (f222_40a : YF222_40a) (x0 : Int) (x1 : Int) (x2 : Int) (x3 : Int) (x4 : Int) (x5 : Int) (x6 : Bool) (x7 : Bool) (x8 : (List Int)) (x9 : (List Int)) (k : Ev.Cont) : evalFn tab (Gg147_40a f204 f222_40a) (J147_40a fuel) kp147_40a fuel Tryz.f147 [.c (.ptr 0 0)] [.cells 194 (.int .i64 x0 :: .own 1 :: .int .i64 2048 :: .int .i64 1792 :: .int .i64 1568 :: .int .i64 1372 :: .int .i64 1201 :: .int .i64 1051 :: .int .i64 920 :: .int .i64 805 :: .int .i64 705 :: .int .i64 617 :: .int .i64 540 :: .int .i64 473 :: .int .i64 414 :: .int .i64 363 :: .int .i64 318 :: .int .i64 279 :: .int .i64 245 :: .int .i64 215 :: .int .i64 189 :: .int .i64 166 :: .int .i64 146 :: .int .i64 128 :: .int .i64 112 :: .int .i64 98 :: .int .i64 86 :: .int .i64 76 :: .int .i64 67 :: .int .i64 59 :: .int .i64 52 :: .int .i64 46 :: .int .i64 41 :: .int .i64 36 :: .int .u64 x1 :: .int .u64 x2 :: .own 2 :: .int .i64 x3 :: .int .u64 x4 :: .int .i64 x5 :: .bool x6 :: .bool x7 :: []), .vec 3 (.int .i64) x8 false, .vec 5 (.int .u8) x9 false] k = (fun  (k0 : (Int × Int × Int × Int × Int × Int × Int × Bool × Bool × (List Int) × (List Int) × (List Int)) → Option Ans) =>
  (f222_40a (x0) (x1) (x2) (x3) (x4) (x5) (x6) (x7) (x8) (x9)
    (fun (y2_0, y2_1, y2_2, y2_3, y2_4, y2_5, y2_6, y2_7, y2_8, y2_9, y2_10) =>
      bif y2_0 then
       k0 ((0 : Int), y2_1, y2_2, y2_3, y2_4, y2_5, y2_6, y2_7, y2_8, y2_9, y2_10, [])
      else
       (f204 (y2_1) (y2_9)
         (fun (y7_0, y7_1) =>
           k0 (y7_0, y2_1, y2_2, y2_3, y2_4, y2_5, y2_6, y2_7, y2_8, y2_9, y2_10, y7_1)))))) (fun r => match r with | (r0, r1, r2, r3, r4, r5, r6, r7, r8, r9, r10, r11) => k (.agg [.int .i64 r0, .own 3], [.cells 194 (.int .i64 r1 :: .own 1 :: .int .i64 2048 :: .int .i64 1792 :: .int .i64 1568 :: .int .i64 1372 :: .int .i64 1201 :: .int .i64 1051 :: .int .i64 920 :: .int .i64 805 :: .int .i64 705 :: .int .i64 617 :: .int .i64 540 :: .int .i64 473 :: .int .i64 414 :: .int .i64 363 :: .int .i64 318 :: .int .i64 279 :: .int .i64 245 :: .int .i64 215 :: .int .i64 189 :: .int .i64 166 :: .int .i64 146 :: .int .i64 128 :: .int .i64 112 :: .int .i64 98 :: .int .i64 86 :: .int .i64 76 :: .int .i64 67 :: .int .i64 59 :: .int .i64 52 :: .int .i64 46 :: .int .i64 41 :: .int .i64 36 :: .int .u64 r2 :: .int .u64 r3 :: .own 2 :: .int .i64 r4 :: .int .u64 r5 :: .int .i64 r6 :: .bool r7 :: .bool r8 :: []), .vec 3 (.int .i64) r9 false, .vec 5 (.int .u8) r10 false, .vec 3 (.int .i64) r11 true])) := by
  kernel_rfl
theorem F147_40a_eq (fuel : Nat) (x0 : Int) (x1 : Int) (x2 : Int) (x3 : Int) (x4 : Int) (x5 : Int) (x6 : Bool) (x7 : Bool) (x8 : (List Int)) (x9 : (List Int)) (k : Ev.Cont) : evalFn tab (G147_40a fuel) (J147_40a fuel) kp147_40a fuel Tryz.f147 [.c (.ptr 0 0)] [.cells 194 (.int .i64 x0 :: .own 1 :: .int .i64 2048 :: .int .i64 1792 :: .int .i64 1568 :: .int .i64 1372 :: .int .i64 1201 :: .int .i64 1051 :: .int .i64 920 :: .int .i64 805 :: .int .i64 705 :: .int .i64 617 :: .int .i64 540 :: .int .i64 473 :: .int .i64 414 :: .int .i64 363 :: .int .i64 318 :: .int .i64 279 :: .int .i64 245 :: .int .i64 215 :: .int .i64 189 :: .int .i64 166 :: .int .i64 146 :: .int .i64 128 :: .int .i64 112 :: .int .i64 98 :: .int .i64 86 :: .int .i64 76 :: .int .i64 67 :: .int .i64 59 :: .int .i64 52 :: .int .i64 46 :: .int .i64 41 :: .int .i64 36 :: .int .u64 x1 :: .int .u64 x2 :: .own 2 :: .int .i64 x3 :: .int .u64 x4 :: .int .i64 x5 :: .bool x6 :: .bool x7 :: []), .vec 3 (.int .i64) x8 false, .vec 5 (.int .u8) x9 false] k = F_coder_Decoder_Model_40a fuel x0 x1 x2 x3 x4 x5 x6 x7 x8 x9 (fun r => match r with | (r0, r1, r2, r3, r4, r5, r6, r7, r8, r9, r10, r11) => k (.agg [.int .i64 r0, .own 3], [.cells 194 (.int .i64 r1 :: .own 1 :: .int .i64 2048 :: .int .i64 1792 :: .int .i64 1568 :: .int .i64 1372 :: .int .i64 1201 :: .int .i64 1051 :: .int .i64 920 :: .int .i64 805 :: .int .i64 705 :: .int .i64 617 :: .int .i64 540 :: .int .i64 473 :: .int .i64 414 :: .int .i64 363 :: .int .i64 318 :: .int .i64 279 :: .int .i64 245 :: .int .i64 215 :: .int .i64 189 :: .int .i64 166 :: .int .i64 146 :: .int .i64 128 :: .int .i64 112 :: .int .i64 98 :: .int .i64 86 :: .int .i64 76 :: .int .i64 67 :: .int .i64 59 :: .int .i64 52 :: .int .i64 46 :: .int .i64 41 :: .int .i64 36 :: .int .u64 r2 :: .int .u64 r3 :: .own 2 :: .int .i64 r4 :: .int .u64 r5 :: .int .i64 r6 :: .bool r7 :: .bool r8 :: []), .vec 3 (.int .i64) r9 false, .vec 5 (.int .u8) r10 false, .vec 3 (.int .i64) r11 true])) :=
  F147_40a_eqg fuel (F_coder_clone fuel) (F_coder_Decoder_none_40a fuel) x0 x1 x2 x3 x4 x5 x6 x7 x8 x9 k
theorem hG147_40a (fuel : Nat) : GOK Tryz.prog (G147_40a fuel) :=
  gok_cons ⟨ok204 fuel, enters_of Tryz.func204 (by kernel_rfl) rfl⟩ <|
  gok_cons ⟨ok222_40a fuel, enters_of Tryz.func222 (by kernel_rfl) rfl⟩ <|
  gok_nil
theorem fok147_40a (fuel : Nat) : FnOK Tryz.prog 147 (evalFn tab (G147_40a fuel) (J147_40a fuel) kp147_40a fuel Tryz.f147) :=
  fn_ok tab_ok (hG147_40a fuel) mixed Tryz.func147 (c := (Tryz.f147.body).getD .skip) rfl (fun q hq => by
    rw [(by kernel_rfl : obl (J147_40a fuel) ((Tryz.f147.body).getD .skip) = [])] at hq
    cases hq)
noncomputable def mt147_40a : List Ev.SV → List Ev.Ob → Bool := fun args objs => match args, objs with
  | [.c (.ptr q0 q1)], [.cells q2 cs0, .vec q3 (.int .i64) _ false, .vec q4 (.int .u8) _ false] => (match splitRun 2 [(.i64, 2048), (.i64, 1792), (.i64, 1568), (.i64, 1372), (.i64, 1201), (.i64, 1051), (.i64, 920), (.i64, 805), (.i64, 705), (.i64, 617), (.i64, 540), (.i64, 473), (.i64, 414), (.i64, 363), (.i64, 318), (.i64, 279), (.i64, 245), (.i64, 215), (.i64, 189), (.i64, 166), (.i64, 146), (.i64, 128), (.i64, 112), (.i64, 98), (.i64, 86), (.i64, 76), (.i64, 67), (.i64, 59), (.i64, 52), (.i64, 46), (.i64, 41), (.i64, 36)] cs0 with | some ([.int .i64 _, .own q5], [.int .u64 _, .int .u64 _, .own q6, .int .i64 _, .int .u64 _, .int .i64 _, .bool _, .bool _]) => Nat.beq q0 0 && Nat.beq q1 0 && Nat.beq q2 194 && Nat.beq q3 3 && Nat.beq q4 5 && Nat.beq q5 1 && Nat.beq q6 2 | _ => false)
  | _, _ => false
noncomputable def spg147_40a (F : YF147_40a) : Ev.Spec := fun args objs k => match args, objs with
  | [.c (.ptr q0 q1)], [.cells q2 cs0, .vec q3 (.int .i64) x8 false, .vec q4 (.int .u8) x9 false] => (match splitRun 2 [(.i64, 2048), (.i64, 1792), (.i64, 1568), (.i64, 1372), (.i64, 1201), (.i64, 1051), (.i64, 920), (.i64, 805), (.i64, 705), (.i64, 617), (.i64, 540), (.i64, 473), (.i64, 414), (.i64, 363), (.i64, 318), (.i64, 279), (.i64, 245), (.i64, 215), (.i64, 189), (.i64, 166), (.i64, 146), (.i64, 128), (.i64, 112), (.i64, 98), (.i64, 86), (.i64, 76), (.i64, 67), (.i64, 59), (.i64, 52), (.i64, 46), (.i64, 41), (.i64, 36)] cs0 with | some ([.int .i64 x0, .own q5], [.int .u64 x1, .int .u64 x2, .own q6, .int .i64 x3, .int .u64 x4, .int .i64 x5, .bool x6, .bool x7]) => bif Nat.beq q0 0 && Nat.beq q1 0 && Nat.beq q2 194 && Nat.beq q3 3 && Nat.beq q4 5 && Nat.beq q5 1 && Nat.beq q6 2 then F x0 x1 x2 x3 x4 x5 x6 x7 x8 x9 (fun r => match r with | (r0, r1, r2, r3, r4, r5, r6, r7, r8, r9, r10, r11) => k (.agg [.int .i64 r0, .own 3], [.cells 194 (.int .i64 r1 :: .own 1 :: .int .i64 2048 :: .int .i64 1792 :: .int .i64 1568 :: .int .i64 1372 :: .int .i64 1201 :: .int .i64 1051 :: .int .i64 920 :: .int .i64 805 :: .int .i64 705 :: .int .i64 617 :: .int .i64 540 :: .int .i64 473 :: .int .i64 414 :: .int .i64 363 :: .int .i64 318 :: .int .i64 279 :: .int .i64 245 :: .int .i64 215 :: .int .i64 189 :: .int .i64 166 :: .int .i64 146 :: .int .i64 128 :: .int .i64 112 :: .int .i64 98 :: .int .i64 86 :: .int .i64 76 :: .int .i64 67 :: .int .i64 59 :: .int .i64 52 :: .int .i64 46 :: .int .i64 41 :: .int .i64 36 :: .int .u64 r2 :: .int .u64 r3 :: .own 2 :: .int .i64 r4 :: .int .u64 r5 :: .int .i64 r6 :: .bool r7 :: .bool r8 :: []), .vec 3 (.int .i64) r9 false, .vec 5 (.int .u8) r10 false, .vec 3 (.int .i64) r11 true])) else none | _ => none)
  | _, _ => none
noncomputable def spec147_40a (fuel : Nat) : Ev.Spec := spg147_40a (F_coder_Decoder_Model_40a fuel)
theorem ok147_40a (fuel : Nat) : FnOK Tryz.prog 147 (spec147_40a fuel) := by
  intro args objs kk r h
  unfold spec147_40a spg147_40a at h
  split at h
  · skip
    split at h
    rotate_left 1
    · cases h
    rename_i hsp
    have esp := splitRun_eq hsp
    subst esp
    obtain ⟨hb, h⟩ := cond_some' h
    simp only [Bool.and_eq_true, Nat.beq_eq, decide_eq_true_eq] at hb
    obtain ⟨⟨⟨⟨⟨⟨rfl, rfl⟩, rfl⟩, rfl⟩, rfl⟩, rfl⟩, rfl⟩ := hb
    exact fok147_40a fuel _ _ kk r ((F147_40a_eq fuel _ _ _ _ _ _ _ _ _ _ kk).trans h)
  · cases h
end Go.Proofs.YtipdidpalcmlhaaGreat

set_option linter.unusedVariables false
set_option linter.unusedSimpArgs false
set_option maxRecDepth 100000
set_option maxHeartbeats 2000000
namespace Go.Proofs.YtipdidpalcmlhaaGreat
open Go Ev
def kp166_b82 (i : Nat) : Option (List Nat) := Ev.look i [(11, [0, 1, 3, 10, 11, 12, 1000002]), (100000, [0, 11]), (400000, [8]), (600000, [])]
noncomputable def Gg166_b82 (f121_cf0 : YF121_cf0) (f126_a20 : YF126_a20) (f170 : YF170) (f171_2d4 : YF171_2d4) (f : Nat) : Option Ev.Spec := Ev.look f [(121, spg121_cf0 f121_cf0), (126, spg126_a20 f126_a20), (170, spg170 f170), (171, spg171_2d4 f171_2d4)]
noncomputable def G166_b82 (fuel : Nat) : Nat → Option Ev.Spec := Gg166_b82 (F_coder_Encoder_Put_cf0 fuel) (F_coder_Encoder_Model_a20 fuel) (F_number_fits fuel) (F_number_put_2d4 fuel)
noncomputable def S_number_PutId_b82_0 (fuel : Nat) (v : Int × Int × Int × Int × Int × Int × Int × Bool × (List Int) × (List Int) × (List (Int × Int))) (c : (Int × Int × Int × Int × Int × Int × Int × Bool × (List Int) × (List Int) × (List (Int × Int))) → Option Ans) (B : (Int × Int × Int × Bool × (List Int) × (List Int) × (List (Int × Int)) → Option Ans)) : Option Ans := match v, B with
  | (x0, x1, x2, x3, x4, x5, x6, x7, x8, x9, x10), b =>
   bif Decidable.decide (x3 ≥ (0 : Int)) then
      bif Decidable.decide (x3 < (0 : Int)) then
       none
      else
       bif Decidable.decide ((x10.length + [(Go.IntKind.i64.wrap (Go.IntKind.i64.wrap (x0 + x2) - (1 : Int)), Ev.iand Go.IntKind.i64 (Ev.ishr Go.IntKind.i64 x1 x3) (1 : Int))].length) * (16 : Nat) ≤ (140737488355328 : Nat) ∧ x10.length + [(Go.IntKind.i64.wrap (Go.IntKind.i64.wrap (x0 + x2) - (1 : Int)), Ev.iand Go.IntKind.i64 (Ev.ishr Go.IntKind.i64 x1 x3) (1 : Int))].length ≤ (140737488355328 : Nat)) then
       c (x0, x1, Go.IntKind.i64.wrap (Go.IntKind.i64.wrap ((2 : Int) * x2) + Ev.iand Go.IntKind.i64 (Ev.ishr Go.IntKind.i64 x1 x3) (1 : Int)), Go.IntKind.i64.wrap (x3 - (1 : Int)), x4, x5, x6, x7, x8, x9, x10 ++ [(Go.IntKind.i64.wrap (Go.IntKind.i64.wrap (x0 + x2) - (1 : Int)), Ev.iand Go.IntKind.i64 (Ev.ishr Go.IntKind.i64 x1 x3) (1 : Int))])
       else none
     else
      b (x4, x5, x6, x7, x8, x9, x10)
noncomputable def L_number_PutId_b82_0 (fuel : Nat) (v : Int × Int × Int × Int × Int × Int × Int × Bool × (List Int) × (List Int) × (List (Int × Int))) (b : (Int × Int × Int × Bool × (List Int) × (List Int) × (List (Int × Int)) → Option Ans)) : Option Ans := iter (S_number_PutId_b82_0 fuel) fuel v b
noncomputable def J166_b82_0 (fuel : Nat) (i : Nat) : Option Ev.Blk := Ev.look i []
noncomputable def T166_b82_0 (v : Int × Int × Int × Int × Int × Int × Int × Bool × (List Int) × (List Int) × (List (Int × Int))) : Ev.St := match v with | (x0, x1, x2, x3, x4, x5, x6, x7, x8, x9, x10) => ⟨[(0, .c (.ptr 0 0)), (1, .c (.int .i64 x0)), (3, .c (.int .i64 x1)), (10, .c (.int .i64 x2)), (11, .c (.own 3)), (12, .c (.int .i64 x3))], [(0, .cells 173 (.int .i64 x4 :: .own 1 :: .int .i64 2048 :: .int .i64 1792 :: .int .i64 1568 :: .int .i64 1372 :: .int .i64 1201 :: .int .i64 1051 :: .int .i64 920 :: .int .i64 805 :: .int .i64 705 :: .int .i64 617 :: .int .i64 540 :: .int .i64 473 :: .int .i64 414 :: .int .i64 363 :: .int .i64 318 :: .int .i64 279 :: .int .i64 245 :: .int .i64 215 :: .int .i64 189 :: .int .i64 166 :: .int .i64 146 :: .int .i64 128 :: .int .i64 112 :: .int .i64 98 :: .int .i64 86 :: .int .i64 76 :: .int .i64 67 :: .int .i64 59 :: .int .i64 52 :: .int .i64 46 :: .int .i64 41 :: .int .i64 36 :: .int .u64 x5 :: .int .u64 x6 :: .own 2 :: .bool x7 :: [])), (1, .vec 3 (.int .i64) x8 false), (2, .vec 5 (.int .u8) x9 true), (3, .vec 221 (.pair (.int .i64) (.int .i64)) x10 true)], 4, 3⟩
noncomputable def E166_b82_0 (K : Ev.Ex → Ev.St → Option Ans) : (Int × Int × Int × Bool × (List Int) × (List Int) × (List (Int × Int)) → Option Ans) := (fun v => match v with | (x0, x1, x2, x3, x4, x5, x6) => K .normal ⟨[(0, .c (.ptr 0 0)), (11, .c (.own 3))], [(0, .cells 173 (.int .i64 x0 :: .own 1 :: .int .i64 2048 :: .int .i64 1792 :: .int .i64 1568 :: .int .i64 1372 :: .int .i64 1201 :: .int .i64 1051 :: .int .i64 920 :: .int .i64 805 :: .int .i64 705 :: .int .i64 617 :: .int .i64 540 :: .int .i64 473 :: .int .i64 414 :: .int .i64 363 :: .int .i64 318 :: .int .i64 279 :: .int .i64 245 :: .int .i64 215 :: .int .i64 189 :: .int .i64 166 :: .int .i64 146 :: .int .i64 128 :: .int .i64 112 :: .int .i64 98 :: .int .i64 86 :: .int .i64 76 :: .int .i64 67 :: .int .i64 59 :: .int .i64 52 :: .int .i64 46 :: .int .i64 41 :: .int .i64 36 :: .int .u64 x1 :: .int .u64 x2 :: .own 2 :: .bool x3 :: [])), (1, .vec 3 (.int .i64) x4 false), (2, .vec 5 (.int .u8) x5 true), (3, .vec 221 (.pair (.int .i64) (.int .i64)) x6 true)], 4, 3⟩)
theorem S166_b82_0_okg (fuel : Nat) (f121_cf0 : YF121_cf0) (f126_a20 : YF126_a20) (f170 : YF170) (f171_2d4 : YF171_2d4) (R : Ev.St → Option Ans) (K : Ev.Ex → Ev.St → Option Ans) (x0 : Int) (x1 : Int) (x2 : Int) (x3 : Int) (x4 : Int) (x5 : Int) (x6 : Int) (x7 : Bool) (x8 : (List Int)) (x9 : (List Int)) (x10 : (List (Int × Int))) : evalCode tab (Gg166_b82 f121_cf0 f126_a20 f170 f171_2d4) (J166_b82_0 fuel) kp166_b82 fuel (bodyOf 0 Tryz.f166) (T166_b82_0 (x0, x1, x2, x3, x4, x5, x6, x7, x8, x9, x10)) (lc kp166_b82 11 0 R K) = (fun (c : (Int × Int × Int × Int × Int × Int × Int × Bool × (List Int) × (List Int) × (List (Int × Int))) → Option Ans) (B : (Int × Int × Int × Bool × (List Int) × (List Int) × (List (Int × Int)) → Option Ans)) => match B with
  | b =>
   bif Decidable.decide (x3 ≥ (0 : Int)) then
      bif Decidable.decide (x3 < (0 : Int)) then
       none
      else
       bif Decidable.decide ((x10.length + [(Go.IntKind.i64.wrap (Go.IntKind.i64.wrap (x0 + x2) - (1 : Int)), Ev.iand Go.IntKind.i64 (Ev.ishr Go.IntKind.i64 x1 x3) (1 : Int))].length) * (16 : Nat) ≤ (140737488355328 : Nat) ∧ x10.length + [(Go.IntKind.i64.wrap (Go.IntKind.i64.wrap (x0 + x2) - (1 : Int)), Ev.iand Go.IntKind.i64 (Ev.ishr Go.IntKind.i64 x1 x3) (1 : Int))].length ≤ (140737488355328 : Nat)) then
       c (x0, x1, Go.IntKind.i64.wrap (Go.IntKind.i64.wrap ((2 : Int) * x2) + Ev.iand Go.IntKind.i64 (Ev.ishr Go.IntKind.i64 x1 x3) (1 : Int)), Go.IntKind.i64.wrap (x3 - (1 : Int)), x4, x5, x6, x7, x8, x9, x10 ++ [(Go.IntKind.i64.wrap (Go.IntKind.i64.wrap (x0 + x2) - (1 : Int)), Ev.iand Go.IntKind.i64 (Ev.ishr Go.IntKind.i64 x1 x3) (1 : Int))])
       else none
     else
      b (x4, x5, x6, x7, x8, x9, x10)) (fun v => R (T166_b82_0 v)) (E166_b82_0 K) := by
  kernel_rfl
theorem S166_b82_0_ok (fuel : Nat) (R : Ev.St → Option Ans) (K : Ev.Ex → Ev.St → Option Ans) (x0 : Int) (x1 : Int) (x2 : Int) (x3 : Int) (x4 : Int) (x5 : Int) (x6 : Int) (x7 : Bool) (x8 : (List Int)) (x9 : (List Int)) (x10 : (List (Int × Int))) : evalCode tab (G166_b82 fuel) (J166_b82_0 fuel) kp166_b82 fuel (bodyOf 0 Tryz.f166) (T166_b82_0 (x0, x1, x2, x3, x4, x5, x6, x7, x8, x9, x10)) (lc kp166_b82 11 0 R K) = S_number_PutId_b82_0 fuel (x0, x1, x2, x3, x4, x5, x6, x7, x8, x9, x10) (fun v => R (T166_b82_0 v)) (E166_b82_0 K) :=
  S166_b82_0_okg fuel (F_coder_Encoder_Put_cf0 fuel) (F_coder_Encoder_Model_a20 fuel) (F_number_fits fuel) (F_number_put_2d4 fuel) R K x0 x1 x2 x3 x4 x5 x6 x7 x8 x9 x10
noncomputable def B166_b82_0 (fuel : Nat) : Ev.Blk := fun st K => match canonO (kp166_b82 11) st with
  | some s => (match s with
    | ⟨[(q0, .c (.ptr q1 q2)), (q3, .c (.int .i64 x0)), (q4, .c (.int .i64 x1)), (q5, .c (.int .i64 x2)), (q6, .c (.own q7)), (q8, .c (.int .i64 x3))], [(q9, .cells q10 cs0), (q11, .vec q12 (.int .i64) x8 false), (q13, .vec q14 (.int .u8) x9 true), (q15, .vec q16 (.pair (.int .i64) (.int .i64)) x10 true)], q17, q18⟩ => (match splitRun 2 [(.i64, 2048), (.i64, 1792), (.i64, 1568), (.i64, 1372), (.i64, 1201), (.i64, 1051), (.i64, 920), (.i64, 805), (.i64, 705), (.i64, 617), (.i64, 540), (.i64, 473), (.i64, 414), (.i64, 363), (.i64, 318), (.i64, 279), (.i64, 245), (.i64, 215), (.i64, 189), (.i64, 166), (.i64, 146), (.i64, 128), (.i64, 112), (.i64, 98), (.i64, 86), (.i64, 76), (.i64, 67), (.i64, 59), (.i64, 52), (.i64, 46), (.i64, 41), (.i64, 36)] cs0 with | some ([.int .i64 x4, .own q19], [.int .u64 x5, .int .u64 x6, .own q20, .bool x7]) => bif Nat.beq q0 0 && Nat.beq q1 0 && Nat.beq q2 0 && Nat.beq q3 1 && Nat.beq q4 3 && Nat.beq q5 10 && Nat.beq q6 11 && Nat.beq q7 3 && Nat.beq q8 12 && Nat.beq q9 0 && Nat.beq q10 173 && Nat.beq q11 1 && Nat.beq q12 3 && Nat.beq q13 2 && Nat.beq q14 5 && Nat.beq q15 3 && Nat.beq q16 221 && Nat.beq q17 4 && Nat.beq q18 3 && Nat.beq q19 1 && Nat.beq q20 2 then iter (S_number_PutId_b82_0 fuel) fuel (x0, x1, x2, x3, x4, x5, x6, x7, x8, x9, x10) (E166_b82_0 K) else none | _ => none)
    | _ => none)
  | none => none
theorem B166_b82_0_ok (fuel : Nat) (st : Ev.St) (K : Ev.Ex → Ev.St → Option Ans) (r : Ans) (h : B166_b82_0 fuel st K = some r) : evalCode tab (G166_b82 fuel) (J166_b82_0 fuel) kp166_b82 fuel (.block 0 (.loop (bodyOf 0 Tryz.f166))) st K = some r := by
  unfold B166_b82_0 at h
  split at h
  · rename_i s hs
    split at h
    · skip
      split at h
      rotate_left 1
      · cases h
      rename_i hsp
      have esp := splitRun_eq hsp
      subst esp
      obtain ⟨hb, h⟩ := cond_some' h
      simp only [Bool.and_eq_true, Nat.beq_eq, decide_eq_true_eq] at hb
      obtain ⟨⟨⟨⟨⟨⟨⟨⟨⟨⟨⟨⟨⟨⟨⟨⟨⟨⟨⟨⟨rfl, rfl⟩, rfl⟩, rfl⟩, rfl⟩, rfl⟩, rfl⟩, rfl⟩, rfl⟩, rfl⟩, rfl⟩, rfl⟩, rfl⟩, rfl⟩, rfl⟩, rfl⟩, rfl⟩, rfl⟩, rfl⟩, rfl⟩, rfl⟩ := hb
      exact blk_loop (S := T166_b82_0) (ks := E166_b82_0) (step := S_number_PutId_b82_0 fuel) (v := (_, _, _, _, _, _, _, _, _, _, _)) (by kernel_rfl) (by kernel_rfl) (fun R K v => by obtain ⟨x0, x1, x2, x3, x4, x5, x6, x7, x8, x9, x10⟩ := v; exact S166_b82_0_ok fuel R K x0 x1 x2 x3 x4 x5 x6 x7 x8 x9 x10) hs h
    · cases h
  · cases h
noncomputable def J166_b82 (fuel : Nat) (i : Nat) : Option Ev.Blk := Ev.look i [(100000, B166_b82_0 fuel)]
noncomputable def F_number_PutId_b82 (fuel : Nat) (x0 : Int) (x1 : Int) (x2 : Int) (x3 : Int) (x4 : Int) (x5 : Int) (x6 : Bool) (x7 : (List Int)) (x8 : (List Int)) (k0 : (Int × Int × Int × Int × Bool × (List Int) × (List Int)) → Option Ans) : Option Ans :=
  (F_coder_Encoder_Put_cf0 fuel ((-1 : Int)) ((0 : Int)) (x3) (x4) (x5) (x6) (x7) (x8)
    (fun (y2_0, y2_1, y2_2, y2_3, y2_4, y2_5, y2_6) =>
      bif y2_0 == (7 : Int) then
       k0 ((7 : Int), y2_1, y2_2, y2_3, y2_4, y2_5, y2_6)
      else
       bif Decidable.decide (x1 < (0 : Int)) then
        k0 ((2 : Int), y2_1, y2_2, y2_3, y2_4, y2_5, y2_6)
       else
        bif Decidable.decide (x1 > (10 : Int)) then
         k0 ((2 : Int), y2_1, y2_2, y2_3, y2_4, y2_5, y2_6)
        else
         bif Decidable.decide (x2 < (0 : Int)) then
          k0 ((2 : Int), y2_1, y2_2, y2_3, y2_4, y2_5, y2_6)
         else
          bif Decidable.decide (x1 < (0 : Int)) then
           none
          else
           bif Decidable.decide (x2 ≥ Ev.ishl Go.IntKind.i64 (1 : Int) x1) then
            k0 ((2 : Int), y2_1, y2_2, y2_3, y2_4, y2_5, y2_6)
           else
            bif Decidable.decide (x1 < (0 : Int)) then
             none
            else
             (F_coder_Encoder_Model_a20 fuel (y2_1) (y2_2) (y2_3) (y2_4) (y2_5) (y2_6)
               (fun (y13_0, y13_1, y13_2, y13_3, y13_4, y13_5, y13_6, y13_7) =>
                 (F_number_fits fuel (y13_0) (y13_7) (x0) (Go.IntKind.i64.wrap (Ev.ishl Go.IntKind.i64 (1 : Int) x1 - (1 : Int)))
                   (fun y17 =>
                     bif y17 != (0 : Int) then
                      k0 (y17, y13_1, y13_2, y13_3, y13_4, y13_5, y13_6)
                     else
                      (L_number_PutId_b82_0 fuel (x0, x2, (1 : Int), Go.IntKind.i64.wrap (x1 - (1 : Int)), y13_1, y13_2, y13_3, y13_4, y13_5, y13_6, [])
                        (fun (b0_0, b0_1, b0_2, b0_3, b0_4, b0_5, b0_6) =>
                          (F_number_put_2d4 fuel (b0_6) (b0_0) (b0_1) (b0_2) (b0_3) (b0_4) (b0_5)
                            (fun (y26_0, y26_1, y26_2, y26_3, y26_4, y26_5, y26_6) =>
                              k0 (y26_0, y26_1, y26_2, y26_3, y26_4, y26_5, y26_6))))))))))
    (fun (y2_0, y2_1, y2_2, y2_3, y2_4, y2_5, y2_6) =>
      bif y2_0 == (7 : Int) then
       k0 ((7 : Int), y2_1, y2_2, y2_3, y2_4, y2_5, y2_6)
      else
       bif Decidable.decide (x1 < (0 : Int)) then
        k0 ((2 : Int), y2_1, y2_2, y2_3, y2_4, y2_5, y2_6)
       else
        bif Decidable.decide (x1 > (10 : Int)) then
         k0 ((2 : Int), y2_1, y2_2, y2_3, y2_4, y2_5, y2_6)
        else
         bif Decidable.decide (x2 < (0 : Int)) then
          k0 ((2 : Int), y2_1, y2_2, y2_3, y2_4, y2_5, y2_6)
         else
          bif Decidable.decide (x1 < (0 : Int)) then
           none
          else
           bif Decidable.decide (x2 ≥ Ev.ishl Go.IntKind.i64 (1 : Int) x1) then
            k0 ((2 : Int), y2_1, y2_2, y2_3, y2_4, y2_5, y2_6)
           else
            bif Decidable.decide (x1 < (0 : Int)) then
             none
            else
             (F_coder_Encoder_Model_a20 fuel (y2_1) (y2_2) (y2_3) (y2_4) (y2_5) (y2_6)
               (fun (y13_0, y13_1, y13_2, y13_3, y13_4, y13_5, y13_6, y13_7) =>
                 (F_number_fits fuel (y13_0) (y13_7) (x0) (Go.IntKind.i64.wrap (Ev.ishl Go.IntKind.i64 (1 : Int) x1 - (1 : Int)))
                   (fun y17 =>
                     bif y17 != (0 : Int) then
                      k0 (y17, y13_1, y13_2, y13_3, y13_4, y13_5, y13_6)
                     else
                      (L_number_PutId_b82_0 fuel (x0, x2, (1 : Int), Go.IntKind.i64.wrap (x1 - (1 : Int)), y13_1, y13_2, y13_3, y13_4, y13_5, y13_6, [])
                        (fun (b0_0, b0_1, b0_2, b0_3, b0_4, b0_5, b0_6) =>
                          (F_number_put_2d4 fuel (b0_6) (b0_0) (b0_1) (b0_2) (b0_3) (b0_4) (b0_5)
                            (fun (y26_0, y26_1, y26_2, y26_3, y26_4, y26_5, y26_6) =>
                              k0 (y26_0, y26_1, y26_2, y26_3, y26_4, y26_5, y26_6)))))))))))
abbrev YF166_b82 : Type := (Int) → (Int) → (Int) → (Int) → (Int) → (Int) → (Bool) → ((List Int)) → ((List Int)) → ((Int × Int × Int × Int × Bool × (List Int) × (List Int)) → Option Ans) → Option Ans
theorem F166_b82_eqg (fuel : Nat) (f121_cf0 : YF121_cf0) (f126_a20 : YF126_a20) (f170 : YF170) (f171_2d4 : YF171_2d4) (x0 : Int) (x1 : Int) (x2 : Int) (x3 : Int) (x4 : Int) (x5 : Int) (x6 : Bool) (x7 : (List Int)) (x8 : (List Int)) (k : Ev.Cont) : evalFn tab (Gg166_b82 f121_cf0 f126_a20 f170 f171_2d4) (J166_b82 fuel) kp166_b82 fuel Tryz.f166 [.c (.ptr 0 0), .c (.int .i64 x0), .c (.int .i64 x1), .c (.int .i64 x2)] [.cells 173 (.int .i64 x3 :: .own 1 :: .int .i64 2048 :: .int .i64 1792 :: .int .i64 1568 :: .int .i64 1372 :: .int .i64 1201 :: .int .i64 1051 :: .int .i64 920 :: .int .i64 805 :: .int .i64 705 :: .int .i64 617 :: .int .i64 540 :: .int .i64 473 :: .int .i64 414 :: .int .i64 363 :: .int .i64 318 :: .int .i64 279 :: .int .i64 245 :: .int .i64 215 :: .int .i64 189 :: .int .i64 166 :: .int .i64 146 :: .int .i64 128 :: .int .i64 112 :: .int .i64 98 :: .int .i64 86 :: .int .i64 76 :: .int .i64 67 :: .int .i64 59 :: .int .i64 52 :: .int .i64 46 :: .int .i64 41 :: .int .i64 36 :: .int .u64 x4 :: .int .u64 x5 :: .own 2 :: .bool x6 :: []), .vec 3 (.int .i64) x7 false, .vec 5 (.int .u8) x8 false] (wkC [1000002] k) = (fun  (k0 : (Int × Int × Int × Int × Bool × (List Int) × (List Int)) → Option Ans) =>
  (f121_cf0 ((-1 : Int)) ((0 : Int)) (x3) (x4) (x5) (x6) (x7) (x8)
    (fun (y2_0, y2_1, y2_2, y2_3, y2_4, y2_5, y2_6) =>
      bif y2_0 == (7 : Int) then
       k0 ((7 : Int), y2_1, y2_2, y2_3, y2_4, y2_5, y2_6)
      else
       bif Decidable.decide (x1 < (0 : Int)) then
        k0 ((2 : Int), y2_1, y2_2, y2_3, y2_4, y2_5, y2_6)
       else
        bif Decidable.decide (x1 > (10 : Int)) then
         k0 ((2 : Int), y2_1, y2_2, y2_3, y2_4, y2_5, y2_6)
        else
         bif Decidable.decide (x2 < (0 : Int)) then
          k0 ((2 : Int), y2_1, y2_2, y2_3, y2_4, y2_5, y2_6)
         else
          bif Decidable.decide (x1 < (0 : Int)) then
           none
          else
           bif Decidable.decide (x2 ≥ Ev.ishl Go.IntKind.i64 (1 : Int) x1) then
            k0 ((2 : Int), y2_1, y2_2, y2_3, y2_4, y2_5, y2_6)
           else
            bif Decidable.decide (x1 < (0 : Int)) then
             none
            else
             (f126_a20 (y2_1) (y2_2) (y2_3) (y2_4) (y2_5) (y2_6)
               (fun (y13_0, y13_1, y13_2, y13_3, y13_4, y13_5, y13_6, y13_7) =>
                 (f170 (y13_0) (y13_7) (x0) (Go.IntKind.i64.wrap (Ev.ishl Go.IntKind.i64 (1 : Int) x1 - (1 : Int)))
                   (fun y17 =>
                     bif y17 != (0 : Int) then
                      k0 (y17, y13_1, y13_2, y13_3, y13_4, y13_5, y13_6)
                     else
                      (L_number_PutId_b82_0 fuel (x0, x2, (1 : Int), Go.IntKind.i64.wrap (x1 - (1 : Int)), y13_1, y13_2, y13_3, y13_4, y13_5, y13_6, [])
                        (fun (b0_0, b0_1, b0_2, b0_3, b0_4, b0_5, b0_6) =>
                          (f171_2d4 (b0_6) (b0_0) (b0_1) (b0_2) (b0_3) (b0_4) (b0_5)
                            (fun (y26_0, y26_1, y26_2, y26_3, y26_4, y26_5, y26_6) =>
                              k0 (y26_0, y26_1, y26_2, y26_3, y26_4, y26_5, y26_6))))))))))
    (fun (y2_0, y2_1, y2_2, y2_3, y2_4, y2_5, y2_6) =>
      bif y2_0 == (7 : Int) then
       k0 ((7 : Int), y2_1, y2_2, y2_3, y2_4, y2_5, y2_6)
      else
       bif Decidable.decide (x1 < (0 : Int)) then
        k0 ((2 : Int), y2_1, y2_2, y2_3, y2_4, y2_5, y2_6)
       else
        bif Decidable.decide (x1 > (10 : Int)) then
         k0 ((2 : Int), y2_1, y2_2, y2_3, y2_4, y2_5, y2_6)
        else
         bif Decidable.decide (x2 < (0 : Int)) then
          k0 ((2 : Int), y2_1, y2_2, y2_3, y2_4, y2_5, y2_6)
         else
          bif Decidable.decide (x1 < (0 : Int)) then
           none
          else
           bif Decidable.decide (x2 ≥ Ev.ishl Go.IntKind.i64 (1 : Int) x1) then
            k0 ((2 : Int), y2_1, y2_2, y2_3, y2_4, y2_5, y2_6)
           else
            bif Decidable.decide (x1 < (0 : Int)) then
             none
            else
             (f126_a20 (y2_1) (y2_2) (y2_3) (y2_4) (y2_5) (y2_6)
               (fun (y13_0, y13_1, y13_2, y13_3, y13_4, y13_5, y13_6, y13_7) =>
                 (f170 (y13_0) (y13_7) (x0) (Go.IntKind.i64.wrap (Ev.ishl Go.IntKind.i64 (1 : Int) x1 - (1 : Int)))
                   (fun y17 =>
                     bif y17 != (0 : Int) then
                      k0 (y17, y13_1, y13_2, y13_3, y13_4, y13_5, y13_6)
                     else
                      (L_number_PutId_b82_0 fuel (x0, x2, (1 : Int), Go.IntKind.i64.wrap (x1 - (1 : Int)), y13_1, y13_2, y13_3, y13_4, y13_5, y13_6, [])
                        (fun (b0_0, b0_1, b0_2, b0_3, b0_4, b0_5, b0_6) =>
                          (f171_2d4 (b0_6) (b0_0) (b0_1) (b0_2) (b0_3) (b0_4) (b0_5)
                            (fun (y26_0, y26_1, y26_2, y26_3, y26_4, y26_5, y26_6) =>
                              k0 (y26_0, y26_1, y26_2, y26_3, y26_4, y26_5, y26_6)))))))))))) (fun r => match r with | (r0, r1, r2, r3, r4, r5, r6) => k (.c (.int .i64 r0), [.cells 173 (.int .i64 r1 :: .own 1 :: .int .i64 2048 :: .int .i64 1792 :: .int .i64 1568 :: .int .i64 1372 :: .int .i64 1201 :: .int .i64 1051 :: .int .i64 920 :: .int .i64 805 :: .int .i64 705 :: .int .i64 617 :: .int .i64 540 :: .int .i64 473 :: .int .i64 414 :: .int .i64 363 :: .int .i64 318 :: .int .i64 279 :: .int .i64 245 :: .int .i64 215 :: .int .i64 189 :: .int .i64 166 :: .int .i64 146 :: .int .i64 128 :: .int .i64 112 :: .int .i64 98 :: .int .i64 86 :: .int .i64 76 :: .int .i64 67 :: .int .i64 59 :: .int .i64 52 :: .int .i64 46 :: .int .i64 41 :: .int .i64 36 :: .int .u64 r2 :: .int .u64 r3 :: .own 2 :: .bool r4 :: []), .vec 3 (.int .i64) r5 false, .vec 5 (.int .u8) r6 true])) := by
  kernel_rfl
theorem F166_b82_eq (fuel : Nat) (x0 : Int) (x1 : Int) (x2 : Int) (x3 : Int) (x4 : Int) (x5 : Int) (x6 : Bool) (x7 : (List Int)) (x8 : (List Int)) (k : Ev.Cont) : evalFn tab (G166_b82 fuel) (J166_b82 fuel) kp166_b82 fuel Tryz.f166 [.c (.ptr 0 0), .c (.int .i64 x0), .c (.int .i64 x1), .c (.int .i64 x2)] [.cells 173 (.int .i64 x3 :: .own 1 :: .int .i64 2048 :: .int .i64 1792 :: .int .i64 1568 :: .int .i64 1372 :: .int .i64 1201 :: .int .i64 1051 :: .int .i64 920 :: .int .i64 805 :: .int .i64 705 :: .int .i64 617 :: .int .i64 540 :: .int .i64 473 :: .int .i64 414 :: .int .i64 363 :: .int .i64 318 :: .int .i64 279 :: .int .i64 245 :: .int .i64 215 :: .int .i64 189 :: .int .i64 166 :: .int .i64 146 :: .int .i64 128 :: .int .i64 112 :: .int .i64 98 :: .int .i64 86 :: .int .i64 76 :: .int .i64 67 :: .int .i64 59 :: .int .i64 52 :: .int .i64 46 :: .int .i64 41 :: .int .i64 36 :: .int .u64 x4 :: .int .u64 x5 :: .own 2 :: .bool x6 :: []), .vec 3 (.int .i64) x7 false, .vec 5 (.int .u8) x8 false] (wkC [1000002] k) = F_number_PutId_b82 fuel x0 x1 x2 x3 x4 x5 x6 x7 x8 (fun r => match r with | (r0, r1, r2, r3, r4, r5, r6) => k (.c (.int .i64 r0), [.cells 173 (.int .i64 r1 :: .own 1 :: .int .i64 2048 :: .int .i64 1792 :: .int .i64 1568 :: .int .i64 1372 :: .int .i64 1201 :: .int .i64 1051 :: .int .i64 920 :: .int .i64 805 :: .int .i64 705 :: .int .i64 617 :: .int .i64 540 :: .int .i64 473 :: .int .i64 414 :: .int .i64 363 :: .int .i64 318 :: .int .i64 279 :: .int .i64 245 :: .int .i64 215 :: .int .i64 189 :: .int .i64 166 :: .int .i64 146 :: .int .i64 128 :: .int .i64 112 :: .int .i64 98 :: .int .i64 86 :: .int .i64 76 :: .int .i64 67 :: .int .i64 59 :: .int .i64 52 :: .int .i64 46 :: .int .i64 41 :: .int .i64 36 :: .int .u64 r2 :: .int .u64 r3 :: .own 2 :: .bool r4 :: []), .vec 3 (.int .i64) r5 false, .vec 5 (.int .u8) r6 true])) :=
  F166_b82_eqg fuel (F_coder_Encoder_Put_cf0 fuel) (F_coder_Encoder_Model_a20 fuel) (F_number_fits fuel) (F_number_put_2d4 fuel) x0 x1 x2 x3 x4 x5 x6 x7 x8 k
theorem hG166_b82 (fuel : Nat) : GOK Tryz.prog (G166_b82 fuel) :=
  gok_cons ⟨ok121_cf0 fuel, enters_of Tryz.func121 (by kernel_rfl) rfl⟩ <|
  gok_cons ⟨ok126_a20 fuel, enters_of Tryz.func126 (by kernel_rfl) rfl⟩ <|
  gok_cons ⟨ok170 fuel, enters_of Tryz.func170 (by kernel_rfl) rfl⟩ <|
  gok_cons ⟨ok171_2d4 fuel, enters_of Tryz.func171 (by kernel_rfl) rfl⟩ <|
  gok_nil
theorem B166_b82_0_blk (fuel : Nat) : BlkOK Tryz.prog Tryz.f166.ntmps (.block 0 (.loop (bodyOf 0 Tryz.f166))) (B166_b82_0 fuel) :=
  blk_of (blk_of_code tab_ok (hG166_b82 fuel) mixed (J := J166_b82_0 fuel) (kp := kp166_b82) (fuel := fuel) (by kernel_rfl) (fun q hq => by
    rw [(by kernel_rfl : obl (J166_b82_0 fuel) (.block 0 (.loop (bodyOf 0 Tryz.f166))) = [])] at hq
    cases hq)) (B166_b82_0_ok fuel)
theorem fok166_b82 (fuel : Nat) : FnOK Tryz.prog 166 (evalFn tab (G166_b82 fuel) (J166_b82 fuel) kp166_b82 fuel Tryz.f166) :=
  fn_ok tab_ok (hG166_b82 fuel) mixed Tryz.func166 (c := (Tryz.f166.body).getD .skip) rfl (fun q hq => by
    rw [(by kernel_rfl : obl (J166_b82 fuel) ((Tryz.f166.body).getD .skip) = [(.block 0 (.loop (bodyOf 0 Tryz.f166)), B166_b82_0 fuel)])] at hq
    simp only [List.mem_cons, List.not_mem_nil, or_false] at hq
    subst hq
    · exact B166_b82_0_blk fuel)
noncomputable def mt166_b82 : List Ev.SV → List Ev.Ob → Bool := fun args objs => match args, objs with
  | [.c (.ptr q0 q1), .c (.int .i64 _), .c (.int .i64 _), .c (.int .i64 _)], [.cells q2 cs0, .vec q3 (.int .i64) _ false, .vec q4 (.int .u8) _ false] => (match splitRun 2 [(.i64, 2048), (.i64, 1792), (.i64, 1568), (.i64, 1372), (.i64, 1201), (.i64, 1051), (.i64, 920), (.i64, 805), (.i64, 705), (.i64, 617), (.i64, 540), (.i64, 473), (.i64, 414), (.i64, 363), (.i64, 318), (.i64, 279), (.i64, 245), (.i64, 215), (.i64, 189), (.i64, 166), (.i64, 146), (.i64, 128), (.i64, 112), (.i64, 98), (.i64, 86), (.i64, 76), (.i64, 67), (.i64, 59), (.i64, 52), (.i64, 46), (.i64, 41), (.i64, 36)] cs0 with | some ([.int .i64 _, .own q5], [.int .u64 _, .int .u64 _, .own q6, .bool _]) => Nat.beq q0 0 && Nat.beq q1 0 && Nat.beq q2 173 && Nat.beq q3 3 && Nat.beq q4 5 && Nat.beq q5 1 && Nat.beq q6 2 | _ => false)
  | _, _ => false
noncomputable def spg166_b82 (F : YF166_b82) : Ev.Spec := fun args objs k => match args, objs with
  | [.c (.ptr q0 q1), .c (.int .i64 x0), .c (.int .i64 x1), .c (.int .i64 x2)], [.cells q2 cs0, .vec q3 (.int .i64) x7 false, .vec q4 (.int .u8) x8 false] => (match splitRun 2 [(.i64, 2048), (.i64, 1792), (.i64, 1568), (.i64, 1372), (.i64, 1201), (.i64, 1051), (.i64, 920), (.i64, 805), (.i64, 705), (.i64, 617), (.i64, 540), (.i64, 473), (.i64, 414), (.i64, 363), (.i64, 318), (.i64, 279), (.i64, 245), (.i64, 215), (.i64, 189), (.i64, 166), (.i64, 146), (.i64, 128), (.i64, 112), (.i64, 98), (.i64, 86), (.i64, 76), (.i64, 67), (.i64, 59), (.i64, 52), (.i64, 46), (.i64, 41), (.i64, 36)] cs0 with | some ([.int .i64 x3, .own q5], [.int .u64 x4, .int .u64 x5, .own q6, .bool x6]) => bif Nat.beq q0 0 && Nat.beq q1 0 && Nat.beq q2 173 && Nat.beq q3 3 && Nat.beq q4 5 && Nat.beq q5 1 && Nat.beq q6 2 then F x0 x1 x2 x3 x4 x5 x6 x7 x8 (fun r => match r with | (r0, r1, r2, r3, r4, r5, r6) => k (.c (.int .i64 r0), [.cells 173 (.int .i64 r1 :: .own 1 :: .int .i64 2048 :: .int .i64 1792 :: .int .i64 1568 :: .int .i64 1372 :: .int .i64 1201 :: .int .i64 1051 :: .int .i64 920 :: .int .i64 805 :: .int .i64 705 :: .int .i64 617 :: .int .i64 540 :: .int .i64 473 :: .int .i64 414 :: .int .i64 363 :: .int .i64 318 :: .int .i64 279 :: .int .i64 245 :: .int .i64 215 :: .int .i64 189 :: .int .i64 166 :: .int .i64 146 :: .int .i64 128 :: .int .i64 112 :: .int .i64 98 :: .int .i64 86 :: .int .i64 76 :: .int .i64 67 :: .int .i64 59 :: .int .i64 52 :: .int .i64 46 :: .int .i64 41 :: .int .i64 36 :: .int .u64 r2 :: .int .u64 r3 :: .own 2 :: .bool r4 :: []), .vec 3 (.int .i64) r5 false, .vec 5 (.int .u8) r6 true])) else none | _ => none)
  | _, _ => none
noncomputable def spec166_b82 (fuel : Nat) : Ev.Spec := spg166_b82 (F_number_PutId_b82 fuel)
theorem ok166_b82 (fuel : Nat) : FnOK Tryz.prog 166 (spec166_b82 fuel) := by
  intro args objs kk r h
  unfold spec166_b82 spg166_b82 at h
  split at h
  · skip
    split at h
    rotate_left 1
    · cases h
    rename_i hsp
    have esp := splitRun_eq hsp
    subst esp
    obtain ⟨hb, h⟩ := cond_some' h
    simp only [Bool.and_eq_true, Nat.beq_eq, decide_eq_true_eq] at hb
    obtain ⟨⟨⟨⟨⟨⟨rfl, rfl⟩, rfl⟩, rfl⟩, rfl⟩, rfl⟩, rfl⟩ := hb
    exact (fok166_b82 fuel).wk [1000002] _ _ kk r ((F166_b82_eq fuel _ _ _ _ _ _ _ _ _ kk).trans h)
  · cases h
end Go.Proofs.YtipdidpalcmlhaaGreat

