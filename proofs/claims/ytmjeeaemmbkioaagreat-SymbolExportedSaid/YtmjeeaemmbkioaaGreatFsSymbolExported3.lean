/- What the functions that SymbolExported reaches do: their typed texts, each with the proof that the machine does it. No condition. -/
import Derived.Test.YtmjeeaemmbkioaaGreatEvX
import Derived.Test.YtmjeeaemmbkioaaGreatFsSymbolExported2
import Derived.Test.YtmjeeaemmbkioaaGreatFsSymbolExported1
import Derived.Test.YtmjeeaemmbkioaaGreatEvY
import Derived.Test.YtmjeeaemmbkioaaGreatEvU
set_option linter.unusedVariables false
set_option linter.unusedSimpArgs false
set_option linter.unusedSectionVars false
set_option linter.unusedVariables false
set_option linter.unusedSimpArgs false
set_option maxRecDepth 100000
set_option maxHeartbeats 2000000
namespace Go.Proofs.YtmjeeaemmbkioaaGreat
open Go Ev
def kp161_7ec (i : Nat) : Option (List Nat) := Ev.look i [(200003, [0])]
noncomputable def Gg161_7ec (f188 : YF188) (f : Nat) : Option Ev.Spec := Ev.look f [(188, spg188 f188)]
noncomputable def G161_7ec (fuel : Nat) : Nat → Option Ev.Spec := Gg161_7ec (F_coder_next fuel)
noncomputable def J161_7ec (fuel : Nat) (i : Nat) : Option Ev.Blk := Ev.look i []
noncomputable def F_coder_interval_take_7ec (fuel : Nat) (x0 : Int) (x1 : Int) (x2 : Int) (x3 : Int) (x4 : Int) (x5 : Int) (x6 : Int) (x7 : Int) (x8 : Int) (x9 : Bool) (x10 : Bool) (x11 : (List Int)) (x12 : (List Int)) (k0 : (Int × Int × Int × Int × Int × Int × Bool × Bool × (List Int) × (List Int)) → Option Ans) : Option Ans :=
  bif x1 == (1 : Int) then
   bif Decidable.decide ((0 : Int) ≤ x0 ∧ x0 < (↑x11.length : Int)) then
   (F_coder_next fuel (x3) (x11.getD x0.toNat (0 : Int)) (x1)
      (fun y4 =>
        bif Decidable.decide ((0 : Int) ≤ x0 ∧ x0 < (↑x11.length : Int)) then
        k0 (x3, x4, x2, x6, x7, x8, x9, x10, x11.set x0.toNat y4, x12)
        else none))
   else none
  else
   bif Decidable.decide ((0 : Int) ≤ x0 ∧ x0 < (↑x11.length : Int)) then
   (F_coder_next fuel (x3) (x11.getD x0.toNat (0 : Int)) (x1)
      (fun y4 =>
        bif Decidable.decide ((0 : Int) ≤ x0 ∧ x0 < (↑x11.length : Int)) then
        k0 (x3, Go.IntKind.u64.wrap (x2 + (1 : Int)), x5, x6, x7, x8, x9, x10, x11.set x0.toNat y4, x12)
        else none))
   else none
abbrev YF161_7ec : Type := (Int) → (Int) → (Int) → (Int) → (Int) → (Int) → (Int) → (Int) → (Int) → (Bool) → (Bool) → ((List Int)) → ((List Int)) → ((Int × Int × Int × Int × Int × Int × Bool × Bool × (List Int) × (List Int)) → Option Ans) → Option Ans
theorem F161_7ec_eqg (fuel : Nat) (f188 : YF188) (x0 : Int) (x1 : Int) (x2 : Int) (x3 : Int) (x4 : Int) (x5 : Int) (x6 : Int) (x7 : Int) (x8 : Int) (x9 : Bool) (x10 : Bool) (x11 : (List Int)) (x12 : (List Int)) (k : Ev.Cont) : evalFn tab (Gg161_7ec f188) (J161_7ec fuel) kp161_7ec fuel Tryz.f161 [.c (.ptr 0 0), .c (.int .i64 x0), .c (.int .i64 x1), .c (.int .u64 x2)] [.cells 168 (.int .i64 x3 :: .own 1 :: .int .i64 2048 :: .int .i64 1792 :: .int .i64 1568 :: .int .i64 1372 :: .int .i64 1201 :: .int .i64 1051 :: .int .i64 920 :: .int .i64 805 :: .int .i64 705 :: .int .i64 617 :: .int .i64 540 :: .int .i64 473 :: .int .i64 414 :: .int .i64 363 :: .int .i64 318 :: .int .i64 279 :: .int .i64 245 :: .int .i64 215 :: .int .i64 189 :: .int .i64 166 :: .int .i64 146 :: .int .i64 128 :: .int .i64 112 :: .int .i64 98 :: .int .i64 86 :: .int .i64 76 :: .int .i64 67 :: .int .i64 59 :: .int .i64 52 :: .int .i64 46 :: .int .i64 41 :: .int .i64 36 :: .int .u64 x4 :: .int .u64 x5 :: .own 2 :: .int .i64 x6 :: .int .u64 x7 :: .int .i64 x8 :: .bool x9 :: .bool x10 :: []), .vec 3 (.int .i64) x11 false, .vec 5 (.int .u8) x12 false] k = (fun  (k0 : (Int × Int × Int × Int × Int × Int × Bool × Bool × (List Int) × (List Int)) → Option Ans) =>
  bif x1 == (1 : Int) then
   bif Decidable.decide ((0 : Int) ≤ x0 ∧ x0 < (↑x11.length : Int)) then
   (f188 (x3) (x11.getD x0.toNat (0 : Int)) (x1)
      (fun y4 =>
        bif Decidable.decide ((0 : Int) ≤ x0 ∧ x0 < (↑x11.length : Int)) then
        k0 (x3, x4, x2, x6, x7, x8, x9, x10, x11.set x0.toNat y4, x12)
        else none))
   else none
  else
   bif Decidable.decide ((0 : Int) ≤ x0 ∧ x0 < (↑x11.length : Int)) then
   (f188 (x3) (x11.getD x0.toNat (0 : Int)) (x1)
      (fun y4 =>
        bif Decidable.decide ((0 : Int) ≤ x0 ∧ x0 < (↑x11.length : Int)) then
        k0 (x3, Go.IntKind.u64.wrap (x2 + (1 : Int)), x5, x6, x7, x8, x9, x10, x11.set x0.toNat y4, x12)
        else none))
   else none) (fun r => match r with | (r0, r1, r2, r3, r4, r5, r6, r7, r8, r9) => k (.tup [], [.cells 168 (.int .i64 r0 :: .own 1 :: .int .i64 2048 :: .int .i64 1792 :: .int .i64 1568 :: .int .i64 1372 :: .int .i64 1201 :: .int .i64 1051 :: .int .i64 920 :: .int .i64 805 :: .int .i64 705 :: .int .i64 617 :: .int .i64 540 :: .int .i64 473 :: .int .i64 414 :: .int .i64 363 :: .int .i64 318 :: .int .i64 279 :: .int .i64 245 :: .int .i64 215 :: .int .i64 189 :: .int .i64 166 :: .int .i64 146 :: .int .i64 128 :: .int .i64 112 :: .int .i64 98 :: .int .i64 86 :: .int .i64 76 :: .int .i64 67 :: .int .i64 59 :: .int .i64 52 :: .int .i64 46 :: .int .i64 41 :: .int .i64 36 :: .int .u64 r1 :: .int .u64 r2 :: .own 2 :: .int .i64 r3 :: .int .u64 r4 :: .int .i64 r5 :: .bool r6 :: .bool r7 :: []), .vec 3 (.int .i64) r8 false, .vec 5 (.int .u8) r9 false])) := by
  kernel_rfl
theorem F161_7ec_eq (fuel : Nat) (x0 : Int) (x1 : Int) (x2 : Int) (x3 : Int) (x4 : Int) (x5 : Int) (x6 : Int) (x7 : Int) (x8 : Int) (x9 : Bool) (x10 : Bool) (x11 : (List Int)) (x12 : (List Int)) (k : Ev.Cont) : evalFn tab (G161_7ec fuel) (J161_7ec fuel) kp161_7ec fuel Tryz.f161 [.c (.ptr 0 0), .c (.int .i64 x0), .c (.int .i64 x1), .c (.int .u64 x2)] [.cells 168 (.int .i64 x3 :: .own 1 :: .int .i64 2048 :: .int .i64 1792 :: .int .i64 1568 :: .int .i64 1372 :: .int .i64 1201 :: .int .i64 1051 :: .int .i64 920 :: .int .i64 805 :: .int .i64 705 :: .int .i64 617 :: .int .i64 540 :: .int .i64 473 :: .int .i64 414 :: .int .i64 363 :: .int .i64 318 :: .int .i64 279 :: .int .i64 245 :: .int .i64 215 :: .int .i64 189 :: .int .i64 166 :: .int .i64 146 :: .int .i64 128 :: .int .i64 112 :: .int .i64 98 :: .int .i64 86 :: .int .i64 76 :: .int .i64 67 :: .int .i64 59 :: .int .i64 52 :: .int .i64 46 :: .int .i64 41 :: .int .i64 36 :: .int .u64 x4 :: .int .u64 x5 :: .own 2 :: .int .i64 x6 :: .int .u64 x7 :: .int .i64 x8 :: .bool x9 :: .bool x10 :: []), .vec 3 (.int .i64) x11 false, .vec 5 (.int .u8) x12 false] k = F_coder_interval_take_7ec fuel x0 x1 x2 x3 x4 x5 x6 x7 x8 x9 x10 x11 x12 (fun r => match r with | (r0, r1, r2, r3, r4, r5, r6, r7, r8, r9) => k (.tup [], [.cells 168 (.int .i64 r0 :: .own 1 :: .int .i64 2048 :: .int .i64 1792 :: .int .i64 1568 :: .int .i64 1372 :: .int .i64 1201 :: .int .i64 1051 :: .int .i64 920 :: .int .i64 805 :: .int .i64 705 :: .int .i64 617 :: .int .i64 540 :: .int .i64 473 :: .int .i64 414 :: .int .i64 363 :: .int .i64 318 :: .int .i64 279 :: .int .i64 245 :: .int .i64 215 :: .int .i64 189 :: .int .i64 166 :: .int .i64 146 :: .int .i64 128 :: .int .i64 112 :: .int .i64 98 :: .int .i64 86 :: .int .i64 76 :: .int .i64 67 :: .int .i64 59 :: .int .i64 52 :: .int .i64 46 :: .int .i64 41 :: .int .i64 36 :: .int .u64 r1 :: .int .u64 r2 :: .own 2 :: .int .i64 r3 :: .int .u64 r4 :: .int .i64 r5 :: .bool r6 :: .bool r7 :: []), .vec 3 (.int .i64) r8 false, .vec 5 (.int .u8) r9 false])) :=
  F161_7ec_eqg fuel (F_coder_next fuel) x0 x1 x2 x3 x4 x5 x6 x7 x8 x9 x10 x11 x12 k
theorem hG161_7ec (fuel : Nat) : GOK Tryz.prog (G161_7ec fuel) :=
  gok_cons ⟨ok188 fuel, enters_of Tryz.func188 (by kernel_rfl) rfl⟩ <|
  gok_nil
theorem fok161_7ec (fuel : Nat) : FnOK Tryz.prog 161 (evalFn tab (G161_7ec fuel) (J161_7ec fuel) kp161_7ec fuel Tryz.f161) :=
  fn_ok tab_ok (hG161_7ec fuel) mixed Tryz.func161 (c := (Tryz.f161.body).getD .skip) rfl (fun q hq => by
    rw [(by kernel_rfl : obl (J161_7ec fuel) ((Tryz.f161.body).getD .skip) = [])] at hq
    cases hq)
noncomputable def mt161_7ec : List Ev.SV → List Ev.Ob → Bool := fun args objs => match args, objs with
  | [.c (.ptr q0 q1), .c (.int .i64 _), .c (.int .i64 _), .c (.int .u64 _)], [.cells q2 cs0, .vec q3 (.int .i64) _ false, .vec q4 (.int .u8) _ false] => (match splitRun 2 [(.i64, 2048), (.i64, 1792), (.i64, 1568), (.i64, 1372), (.i64, 1201), (.i64, 1051), (.i64, 920), (.i64, 805), (.i64, 705), (.i64, 617), (.i64, 540), (.i64, 473), (.i64, 414), (.i64, 363), (.i64, 318), (.i64, 279), (.i64, 245), (.i64, 215), (.i64, 189), (.i64, 166), (.i64, 146), (.i64, 128), (.i64, 112), (.i64, 98), (.i64, 86), (.i64, 76), (.i64, 67), (.i64, 59), (.i64, 52), (.i64, 46), (.i64, 41), (.i64, 36)] cs0 with | some ([.int .i64 _, .own q5], [.int .u64 _, .int .u64 _, .own q6, .int .i64 _, .int .u64 _, .int .i64 _, .bool _, .bool _]) => Nat.beq q0 0 && Nat.beq q1 0 && Nat.beq q2 168 && Nat.beq q3 3 && Nat.beq q4 5 && Nat.beq q5 1 && Nat.beq q6 2 | _ => false)
  | _, _ => false
noncomputable def spg161_7ec (F : YF161_7ec) : Ev.Spec := fun args objs k => match args, objs with
  | [.c (.ptr q0 q1), .c (.int .i64 x0), .c (.int .i64 x1), .c (.int .u64 x2)], [.cells q2 cs0, .vec q3 (.int .i64) x11 false, .vec q4 (.int .u8) x12 false] => (match splitRun 2 [(.i64, 2048), (.i64, 1792), (.i64, 1568), (.i64, 1372), (.i64, 1201), (.i64, 1051), (.i64, 920), (.i64, 805), (.i64, 705), (.i64, 617), (.i64, 540), (.i64, 473), (.i64, 414), (.i64, 363), (.i64, 318), (.i64, 279), (.i64, 245), (.i64, 215), (.i64, 189), (.i64, 166), (.i64, 146), (.i64, 128), (.i64, 112), (.i64, 98), (.i64, 86), (.i64, 76), (.i64, 67), (.i64, 59), (.i64, 52), (.i64, 46), (.i64, 41), (.i64, 36)] cs0 with | some ([.int .i64 x3, .own q5], [.int .u64 x4, .int .u64 x5, .own q6, .int .i64 x6, .int .u64 x7, .int .i64 x8, .bool x9, .bool x10]) => bif Nat.beq q0 0 && Nat.beq q1 0 && Nat.beq q2 168 && Nat.beq q3 3 && Nat.beq q4 5 && Nat.beq q5 1 && Nat.beq q6 2 then F x0 x1 x2 x3 x4 x5 x6 x7 x8 x9 x10 x11 x12 (fun r => match r with | (r0, r1, r2, r3, r4, r5, r6, r7, r8, r9) => k (.tup [], [.cells 168 (.int .i64 r0 :: .own 1 :: .int .i64 2048 :: .int .i64 1792 :: .int .i64 1568 :: .int .i64 1372 :: .int .i64 1201 :: .int .i64 1051 :: .int .i64 920 :: .int .i64 805 :: .int .i64 705 :: .int .i64 617 :: .int .i64 540 :: .int .i64 473 :: .int .i64 414 :: .int .i64 363 :: .int .i64 318 :: .int .i64 279 :: .int .i64 245 :: .int .i64 215 :: .int .i64 189 :: .int .i64 166 :: .int .i64 146 :: .int .i64 128 :: .int .i64 112 :: .int .i64 98 :: .int .i64 86 :: .int .i64 76 :: .int .i64 67 :: .int .i64 59 :: .int .i64 52 :: .int .i64 46 :: .int .i64 41 :: .int .i64 36 :: .int .u64 r1 :: .int .u64 r2 :: .own 2 :: .int .i64 r3 :: .int .u64 r4 :: .int .i64 r5 :: .bool r6 :: .bool r7 :: []), .vec 3 (.int .i64) r8 false, .vec 5 (.int .u8) r9 false])) else none | _ => none)
  | _, _ => none
noncomputable def spec161_7ec (fuel : Nat) : Ev.Spec := spg161_7ec (F_coder_interval_take_7ec fuel)
theorem ok161_7ec (fuel : Nat) : FnOK Tryz.prog 161 (spec161_7ec fuel) := by
  intro args objs kk r h
  unfold spec161_7ec spg161_7ec at h
  split at h
  · skip
    split at h
    rotate_left 1
    · cases h
    rename_i hsp
    have esp := splitRun_eq hsp
    subst esp
    obtain ⟨hb, h⟩ := cond_some' h
    simp only [Bool.and_eq_true, Nat.beq_eq, decide_eq_true_eq] at hb
    obtain ⟨⟨⟨⟨⟨⟨rfl, rfl⟩, rfl⟩, rfl⟩, rfl⟩, rfl⟩, rfl⟩ := hb
    exact fok161_7ec fuel _ _ kk r ((F161_7ec_eq fuel _ _ _ _ _ _ _ _ _ _ _ _ _ kk).trans h)
  · cases h
end Go.Proofs.YtmjeeaemmbkioaaGreat

set_option linter.unusedVariables false
set_option linter.unusedSimpArgs false
set_option maxRecDepth 100000
set_option maxHeartbeats 2000000
namespace Go.Proofs.YtmjeeaemmbkioaaGreat
open Go Ev
def kp156_aa3 (i : Nat) : Option (List Nat) := Ev.look i [(12, [0, 1, 6, 8, 9]), (100001, [0, 1, 6, 8, 9]), (200010, [0]), (400001, [4, 5])]
noncomputable def Gg156_aa3 (f120_40a : YF120_40a) (f124_40a : YF124_40a) (f161_7ec : YF161_7ec) (f162_aa3 : YF162_aa3) (f163_40a : YF163_40a) (f164_40a : YF164_40a) (f : Nat) : Option Ev.Spec := Ev.look f [(120, spg120_40a f120_40a), (124, spg124_40a f124_40a), (161, spg161_7ec f161_7ec), (162, spg162_aa3 f162_aa3), (163, spg163_40a f163_40a), (164, spg164_40a f164_40a)]
noncomputable def G156_aa3 (fuel : Nat) : Nat → Option Ev.Spec := Gg156_aa3 (F_coder_Decoder_shift_40a fuel) (F_coder_Decoder_none_40a fuel) (F_coder_interval_take_7ec fuel) (F_coder_interval_mid_aa3 fuel) (F_coder_interval_same_40a fuel) (F_coder_interval_lose_40a fuel)
noncomputable def S_coder_Decoder_Get_aa3_1 (fuel : Nat) (v : Int × Int × Int × Int × Int × Int × Int × Int × Int × Bool × Bool × (List Int) × (List Int) × Int × Int × Int × Int × Int × Int × Bool × Bool) (c : (Int × Int × Int × Int × Int × Int × Int × Int × Int × Bool × Bool × (List Int) × (List Int) × Int × Int × Int × Int × Int × Int × Bool × Bool) → Option Ans) (B : (Int × Int × Int × Int × Int × Int × Int × Int × Int × Bool × Bool × (List Int) × (List Int) × Int × Int × Int × Int × Int × Int × Bool × Bool → Option Ans)) : Option Ans := match v, B with
  | (x0, x1, x2, x3, x4, x5, x6, x7, x8, x9, x10, x11, x12, x13, x14, x15, x16, x17, x18, x19, x20), b =>
   (F_coder_interval_same_40a fuel (x3) (x4) (x5) (x6) (x7) (x8) (x9) (x10) (x11) (x12)
       (fun (y2_0, y2_1, y2_2, y2_3, y2_4, y2_5, y2_6, y2_7, y2_8, y2_9, y2_10) =>
         bif y2_0 then
          (F_coder_interval_lose_40a fuel (y2_1) (y2_2) (y2_3) (y2_4) (y2_5) (y2_6) (y2_7) (y2_8) (y2_9) (y2_10)
            (fun (y7_0, y7_1, y7_2, y7_3, y7_4, y7_5, y7_6, y7_7, y7_8, y7_9, y7_10) =>
              (F_coder_Decoder_shift_40a fuel (y7_1) (y7_2) (y7_3) (y7_4) (y7_5) (y7_6) (y7_7) (y7_8) (y7_9) (y7_10)
                (fun (y11_0, y11_1, y11_2, y11_3, y11_4, y11_5, y11_6, y11_7, y11_8, y11_9) =>
                  c (x0, x1, x2, y11_0, y11_1, y11_2, y11_3, y11_4, y11_5, y11_6, y11_7, y11_8, y11_9, x13, x14, x15, x16, x17, x18, x19, x20)))))
         else
          b (x0, x1, x2, y2_1, y2_2, y2_3, y2_4, y2_5, y2_6, y2_7, y2_8, y2_9, y2_10, x13, x14, x15, x16, x17, x18, x19, x20)))
noncomputable def L_coder_Decoder_Get_aa3_1 (fuel : Nat) (v : Int × Int × Int × Int × Int × Int × Int × Int × Int × Bool × Bool × (List Int) × (List Int) × Int × Int × Int × Int × Int × Int × Bool × Bool) (b : (Int × Int × Int × Int × Int × Int × Int × Int × Int × Bool × Bool × (List Int) × (List Int) × Int × Int × Int × Int × Int × Int × Bool × Bool → Option Ans)) : Option Ans := iter (S_coder_Decoder_Get_aa3_1 fuel) fuel v b
noncomputable def J156_aa3_1 (fuel : Nat) (i : Nat) : Option Ev.Blk := Ev.look i []
noncomputable def T156_aa3_1 (v : Int × Int × Int × Int × Int × Int × Int × Int × Int × Bool × Bool × (List Int) × (List Int) × Int × Int × Int × Int × Int × Int × Bool × Bool) : Ev.St := match v with | (x0, x1, x2, x3, x4, x5, x6, x7, x8, x9, x10, x11, x12, x13, x14, x15, x16, x17, x18, x19, x20) => ⟨[(0, .c (.ptr 0 0)), (1, .c (.int .i64 x0)), (6, .c (.int .i64 x1)), (8, .c (.ptr 3 0)), (9, .c (.int .i64 x2))], [(0, .cells 168 (.int .i64 x3 :: .own 1 :: .int .i64 2048 :: .int .i64 1792 :: .int .i64 1568 :: .int .i64 1372 :: .int .i64 1201 :: .int .i64 1051 :: .int .i64 920 :: .int .i64 805 :: .int .i64 705 :: .int .i64 617 :: .int .i64 540 :: .int .i64 473 :: .int .i64 414 :: .int .i64 363 :: .int .i64 318 :: .int .i64 279 :: .int .i64 245 :: .int .i64 215 :: .int .i64 189 :: .int .i64 166 :: .int .i64 146 :: .int .i64 128 :: .int .i64 112 :: .int .i64 98 :: .int .i64 86 :: .int .i64 76 :: .int .i64 67 :: .int .i64 59 :: .int .i64 52 :: .int .i64 46 :: .int .i64 41 :: .int .i64 36 :: .int .u64 x4 :: .int .u64 x5 :: .own 2 :: .int .i64 x6 :: .int .u64 x7 :: .int .i64 x8 :: .bool x9 :: .bool x10 :: [])), (1, .vec 3 (.int .i64) x11 false), (2, .vec 5 (.int .u8) x12 false), (3, .cells 168 (.int .i64 x13 :: .own 1 :: .int .i64 2048 :: .int .i64 1792 :: .int .i64 1568 :: .int .i64 1372 :: .int .i64 1201 :: .int .i64 1051 :: .int .i64 920 :: .int .i64 805 :: .int .i64 705 :: .int .i64 617 :: .int .i64 540 :: .int .i64 473 :: .int .i64 414 :: .int .i64 363 :: .int .i64 318 :: .int .i64 279 :: .int .i64 245 :: .int .i64 215 :: .int .i64 189 :: .int .i64 166 :: .int .i64 146 :: .int .i64 128 :: .int .i64 112 :: .int .i64 98 :: .int .i64 86 :: .int .i64 76 :: .int .i64 67 :: .int .i64 59 :: .int .i64 52 :: .int .i64 46 :: .int .i64 41 :: .int .i64 36 :: .int .u64 x14 :: .int .u64 x15 :: .own 2 :: .int .i64 x16 :: .int .u64 x17 :: .int .i64 x18 :: .bool x19 :: .bool x20 :: []))], 4, 3⟩
noncomputable def E156_aa3_1 (K : Ev.Ex → Ev.St → Option Ans) : (Int × Int × Int × Int × Int × Int × Int × Int × Int × Bool × Bool × (List Int) × (List Int) × Int × Int × Int × Int × Int × Int × Bool × Bool → Option Ans) := (fun v => match v with | (x0, x1, x2, x3, x4, x5, x6, x7, x8, x9, x10, x11, x12, x13, x14, x15, x16, x17, x18, x19, x20) => K .normal ⟨[(0, .c (.ptr 0 0)), (1, .c (.int .i64 x0)), (6, .c (.int .i64 x1)), (8, .c (.ptr 3 0)), (9, .c (.int .i64 x2))], [(0, .cells 168 (.int .i64 x3 :: .own 1 :: .int .i64 2048 :: .int .i64 1792 :: .int .i64 1568 :: .int .i64 1372 :: .int .i64 1201 :: .int .i64 1051 :: .int .i64 920 :: .int .i64 805 :: .int .i64 705 :: .int .i64 617 :: .int .i64 540 :: .int .i64 473 :: .int .i64 414 :: .int .i64 363 :: .int .i64 318 :: .int .i64 279 :: .int .i64 245 :: .int .i64 215 :: .int .i64 189 :: .int .i64 166 :: .int .i64 146 :: .int .i64 128 :: .int .i64 112 :: .int .i64 98 :: .int .i64 86 :: .int .i64 76 :: .int .i64 67 :: .int .i64 59 :: .int .i64 52 :: .int .i64 46 :: .int .i64 41 :: .int .i64 36 :: .int .u64 x4 :: .int .u64 x5 :: .own 2 :: .int .i64 x6 :: .int .u64 x7 :: .int .i64 x8 :: .bool x9 :: .bool x10 :: [])), (1, .vec 3 (.int .i64) x11 false), (2, .vec 5 (.int .u8) x12 false), (3, .cells 168 (.int .i64 x13 :: .own 1 :: .int .i64 2048 :: .int .i64 1792 :: .int .i64 1568 :: .int .i64 1372 :: .int .i64 1201 :: .int .i64 1051 :: .int .i64 920 :: .int .i64 805 :: .int .i64 705 :: .int .i64 617 :: .int .i64 540 :: .int .i64 473 :: .int .i64 414 :: .int .i64 363 :: .int .i64 318 :: .int .i64 279 :: .int .i64 245 :: .int .i64 215 :: .int .i64 189 :: .int .i64 166 :: .int .i64 146 :: .int .i64 128 :: .int .i64 112 :: .int .i64 98 :: .int .i64 86 :: .int .i64 76 :: .int .i64 67 :: .int .i64 59 :: .int .i64 52 :: .int .i64 46 :: .int .i64 41 :: .int .i64 36 :: .int .u64 x14 :: .int .u64 x15 :: .own 2 :: .int .i64 x16 :: .int .u64 x17 :: .int .i64 x18 :: .bool x19 :: .bool x20 :: []))], 4, 3⟩)
theorem S156_aa3_1_okg (fuel : Nat) (f120_40a : YF120_40a) (f124_40a : YF124_40a) (f161_7ec : YF161_7ec) (f162_aa3 : YF162_aa3) (f163_40a : YF163_40a) (f164_40a : YF164_40a) (R : Ev.St → Option Ans) (K : Ev.Ex → Ev.St → Option Ans) (x0 : Int) (x1 : Int) (x2 : Int) (x3 : Int) (x4 : Int) (x5 : Int) (x6 : Int) (x7 : Int) (x8 : Int) (x9 : Bool) (x10 : Bool) (x11 : (List Int)) (x12 : (List Int)) (x13 : Int) (x14 : Int) (x15 : Int) (x16 : Int) (x17 : Int) (x18 : Int) (x19 : Bool) (x20 : Bool) : evalCode tab (Gg156_aa3 f120_40a f124_40a f161_7ec f162_aa3 f163_40a f164_40a) (J156_aa3_1 fuel) kp156_aa3 fuel (bodyOf 1 Tryz.f156) (T156_aa3_1 (x0, x1, x2, x3, x4, x5, x6, x7, x8, x9, x10, x11, x12, x13, x14, x15, x16, x17, x18, x19, x20)) (lc kp156_aa3 12 1 R K) = (fun (c : (Int × Int × Int × Int × Int × Int × Int × Int × Int × Bool × Bool × (List Int) × (List Int) × Int × Int × Int × Int × Int × Int × Bool × Bool) → Option Ans) (B : (Int × Int × Int × Int × Int × Int × Int × Int × Int × Bool × Bool × (List Int) × (List Int) × Int × Int × Int × Int × Int × Int × Bool × Bool → Option Ans)) => match B with
  | b =>
   (f163_40a (x3) (x4) (x5) (x6) (x7) (x8) (x9) (x10) (x11) (x12)
       (fun (y2_0, y2_1, y2_2, y2_3, y2_4, y2_5, y2_6, y2_7, y2_8, y2_9, y2_10) =>
         bif y2_0 then
          (f164_40a (y2_1) (y2_2) (y2_3) (y2_4) (y2_5) (y2_6) (y2_7) (y2_8) (y2_9) (y2_10)
            (fun (y7_0, y7_1, y7_2, y7_3, y7_4, y7_5, y7_6, y7_7, y7_8, y7_9, y7_10) =>
              (f120_40a (y7_1) (y7_2) (y7_3) (y7_4) (y7_5) (y7_6) (y7_7) (y7_8) (y7_9) (y7_10)
                (fun (y11_0, y11_1, y11_2, y11_3, y11_4, y11_5, y11_6, y11_7, y11_8, y11_9) =>
                  c (x0, x1, x2, y11_0, y11_1, y11_2, y11_3, y11_4, y11_5, y11_6, y11_7, y11_8, y11_9, x13, x14, x15, x16, x17, x18, x19, x20)))))
         else
          b (x0, x1, x2, y2_1, y2_2, y2_3, y2_4, y2_5, y2_6, y2_7, y2_8, y2_9, y2_10, x13, x14, x15, x16, x17, x18, x19, x20)))) (fun v => R (T156_aa3_1 v)) (E156_aa3_1 K) := by
  kernel_rfl
theorem S156_aa3_1_ok (fuel : Nat) (R : Ev.St → Option Ans) (K : Ev.Ex → Ev.St → Option Ans) (x0 : Int) (x1 : Int) (x2 : Int) (x3 : Int) (x4 : Int) (x5 : Int) (x6 : Int) (x7 : Int) (x8 : Int) (x9 : Bool) (x10 : Bool) (x11 : (List Int)) (x12 : (List Int)) (x13 : Int) (x14 : Int) (x15 : Int) (x16 : Int) (x17 : Int) (x18 : Int) (x19 : Bool) (x20 : Bool) : evalCode tab (G156_aa3 fuel) (J156_aa3_1 fuel) kp156_aa3 fuel (bodyOf 1 Tryz.f156) (T156_aa3_1 (x0, x1, x2, x3, x4, x5, x6, x7, x8, x9, x10, x11, x12, x13, x14, x15, x16, x17, x18, x19, x20)) (lc kp156_aa3 12 1 R K) = S_coder_Decoder_Get_aa3_1 fuel (x0, x1, x2, x3, x4, x5, x6, x7, x8, x9, x10, x11, x12, x13, x14, x15, x16, x17, x18, x19, x20) (fun v => R (T156_aa3_1 v)) (E156_aa3_1 K) :=
  S156_aa3_1_okg fuel (F_coder_Decoder_shift_40a fuel) (F_coder_Decoder_none_40a fuel) (F_coder_interval_take_7ec fuel) (F_coder_interval_mid_aa3 fuel) (F_coder_interval_same_40a fuel) (F_coder_interval_lose_40a fuel) R K x0 x1 x2 x3 x4 x5 x6 x7 x8 x9 x10 x11 x12 x13 x14 x15 x16 x17 x18 x19 x20
noncomputable def B156_aa3_1 (fuel : Nat) : Ev.Blk := fun st K => match canonO (kp156_aa3 12) st with
  | some s => (match s with
    | ⟨[(q0, .c (.ptr q1 q2)), (q3, .c (.int .i64 x0)), (q4, .c (.int .i64 x1)), (q5, .c (.ptr q6 q7)), (q8, .c (.int .i64 x2))], [(q9, .cells q10 cs0), (q11, .vec q12 (.int .i64) x11 false), (q13, .vec q14 (.int .u8) x12 false), (q15, .cells q16 cs1)], q17, q18⟩ => (match splitRun 2 [(.i64, 2048), (.i64, 1792), (.i64, 1568), (.i64, 1372), (.i64, 1201), (.i64, 1051), (.i64, 920), (.i64, 805), (.i64, 705), (.i64, 617), (.i64, 540), (.i64, 473), (.i64, 414), (.i64, 363), (.i64, 318), (.i64, 279), (.i64, 245), (.i64, 215), (.i64, 189), (.i64, 166), (.i64, 146), (.i64, 128), (.i64, 112), (.i64, 98), (.i64, 86), (.i64, 76), (.i64, 67), (.i64, 59), (.i64, 52), (.i64, 46), (.i64, 41), (.i64, 36)] cs0 with | some ([.int .i64 x3, .own q19], [.int .u64 x4, .int .u64 x5, .own q20, .int .i64 x6, .int .u64 x7, .int .i64 x8, .bool x9, .bool x10]) => (match splitRun 2 [(.i64, 2048), (.i64, 1792), (.i64, 1568), (.i64, 1372), (.i64, 1201), (.i64, 1051), (.i64, 920), (.i64, 805), (.i64, 705), (.i64, 617), (.i64, 540), (.i64, 473), (.i64, 414), (.i64, 363), (.i64, 318), (.i64, 279), (.i64, 245), (.i64, 215), (.i64, 189), (.i64, 166), (.i64, 146), (.i64, 128), (.i64, 112), (.i64, 98), (.i64, 86), (.i64, 76), (.i64, 67), (.i64, 59), (.i64, 52), (.i64, 46), (.i64, 41), (.i64, 36)] cs1 with | some ([.int .i64 x13, .own q21], [.int .u64 x14, .int .u64 x15, .own q22, .int .i64 x16, .int .u64 x17, .int .i64 x18, .bool x19, .bool x20]) => bif Nat.beq q0 0 && Nat.beq q1 0 && Nat.beq q2 0 && Nat.beq q3 1 && Nat.beq q4 6 && Nat.beq q5 8 && Nat.beq q6 3 && Nat.beq q7 0 && Nat.beq q8 9 && Nat.beq q9 0 && Nat.beq q10 168 && Nat.beq q11 1 && Nat.beq q12 3 && Nat.beq q13 2 && Nat.beq q14 5 && Nat.beq q15 3 && Nat.beq q16 168 && Nat.beq q17 4 && Nat.beq q18 3 && Nat.beq q19 1 && Nat.beq q20 2 && Nat.beq q21 1 && Nat.beq q22 2 then iter (S_coder_Decoder_Get_aa3_1 fuel) fuel (x0, x1, x2, x3, x4, x5, x6, x7, x8, x9, x10, x11, x12, x13, x14, x15, x16, x17, x18, x19, x20) (E156_aa3_1 K) else none | _ => none) | _ => none)
    | _ => none)
  | none => none
theorem B156_aa3_1_ok (fuel : Nat) (st : Ev.St) (K : Ev.Ex → Ev.St → Option Ans) (r : Ans) (h : B156_aa3_1 fuel st K = some r) : evalCode tab (G156_aa3 fuel) (J156_aa3_1 fuel) kp156_aa3 fuel (.block 1 (.loop (bodyOf 1 Tryz.f156))) st K = some r := by
  unfold B156_aa3_1 at h
  split at h
  · rename_i s hs
    split at h
    · skip
      split at h
      rotate_left 1
      · cases h
      rename_i hsp
      have esp := splitRun_eq hsp
      subst esp
      split at h
      rotate_left 1
      · cases h
      rename_i hsp
      have esp := splitRun_eq hsp
      subst esp
      obtain ⟨hb, h⟩ := cond_some' h
      simp only [Bool.and_eq_true, Nat.beq_eq, decide_eq_true_eq] at hb
      obtain ⟨⟨⟨⟨⟨⟨⟨⟨⟨⟨⟨⟨⟨⟨⟨⟨⟨⟨⟨⟨⟨⟨rfl, rfl⟩, rfl⟩, rfl⟩, rfl⟩, rfl⟩, rfl⟩, rfl⟩, rfl⟩, rfl⟩, rfl⟩, rfl⟩, rfl⟩, rfl⟩, rfl⟩, rfl⟩, rfl⟩, rfl⟩, rfl⟩, rfl⟩, rfl⟩, rfl⟩, rfl⟩ := hb
      exact blk_loop (S := T156_aa3_1) (ks := E156_aa3_1) (step := S_coder_Decoder_Get_aa3_1 fuel) (v := (_, _, _, _, _, _, _, _, _, _, _, _, _, _, _, _, _, _, _, _, _)) (by kernel_rfl) (by kernel_rfl) (fun R K v => by obtain ⟨x0, x1, x2, x3, x4, x5, x6, x7, x8, x9, x10, x11, x12, x13, x14, x15, x16, x17, x18, x19, x20⟩ := v; exact S156_aa3_1_ok fuel R K x0 x1 x2 x3 x4 x5 x6 x7 x8 x9 x10 x11 x12 x13 x14 x15 x16 x17 x18 x19 x20) hs h
    · cases h
  · cases h
noncomputable def J156_aa3 (fuel : Nat) (i : Nat) : Option Ev.Blk := Ev.look i [(100001, B156_aa3_1 fuel)]
noncomputable def F_coder_Decoder_Get_aa3 (fuel : Nat) (x0 : Int) (x1 : Int) (x2 : Int) (x3 : Int) (x4 : Int) (x5 : Int) (x6 : Int) (x7 : Bool) (x8 : Bool) (x9 : (List Int)) (x10 : (List Int)) (k0 : (Int × Int × Int × Int × Int × Int × Int × Int × Bool × Bool × (List Int) × (List Int)) → Option Ans) : Option Ans :=
  (F_coder_Decoder_none_40a fuel (x1) (x2) (x3) (x4) (x5) (x6) (x7) (x8) (x9) (x10)
    (fun (y2_0, y2_1, y2_2, y2_3, y2_4, y2_5, y2_6, y2_7, y2_8, y2_9, y2_10) =>
      bif y2_0 then
       k0 ((0 : Int), (7 : Int), y2_1, y2_2, y2_3, y2_4, y2_5, y2_6, y2_7, y2_8, y2_9, y2_10)
      else
       bif Decidable.decide (x0 < (0 : Int)) then
        k0 ((0 : Int), (2 : Int), y2_1, y2_2, y2_3, y2_4, y2_5, y2_6, y2_7, y2_8, y2_9, y2_10)
       else
        bif Decidable.decide (x0 ≥ (↑y2_9.length : Int)) then
         k0 ((0 : Int), (2 : Int), y2_1, y2_2, y2_3, y2_4, y2_5, y2_6, y2_7, y2_8, y2_9, y2_10)
        else
         bif y2_7 then
          k0 ((0 : Int), (6 : Int), y2_1, y2_2, y2_3, y2_4, y2_5, y2_6, y2_7, y2_8, y2_9, y2_10)
         else
          (F_coder_interval_mid_aa3 fuel (x0) (y2_1) (y2_2) (y2_3) (y2_4) (y2_5) (y2_6) (y2_7) (y2_8) (y2_9) (y2_10)
            (fun (y10_0, y10_1, y10_2, y10_3, y10_4, y10_5, y10_6, y10_7, y10_8, y10_9, y10_10) =>
              bif Decidable.decide (y10_5 ≤ y10_0) then
               bif Decidable.decide ((0 : Int) ≤ x0 ∧ x0 < (↑y10_9.length : Int)) then
               both ((F_coder_interval_take_7ec fuel (x0) ((1 : Int)) (y10_0) (y10_1) (y10_2) (y10_3) (y10_4) (y10_5) (y10_6) (y10_7) (y10_8) (y10_9) (y10_10)
                    (fun (y18_0, y18_1, y18_2, y18_3, y18_4, y18_5, y18_6, y18_7, y18_8, y18_9) =>
                      (L_coder_Decoder_Get_aa3_1 fuel (x0, (1 : Int), y10_9.getD x0.toNat (0 : Int), y18_0, y18_1, y18_2, y18_3, y18_4, y18_5, y18_6, y18_7, y18_8, y18_9, y10_1, y10_2, y10_3, y10_4, y10_5, y10_6, y10_7, y10_8)
                        (fun (b1_0, b1_1, b1_2, b1_3, b1_4, b1_5, b1_6, b1_7, b1_8, b1_9, b1_10, b1_11, b1_12, b1_13, b1_14, b1_15, b1_16, b1_17, b1_18, b1_19, b1_20) =>
                          bif Decidable.decide (b1_8 > (4 : Int)) then
                           bif Decidable.decide ((0 : Int) ≤ b1_0 ∧ b1_0 < (↑b1_11.length : Int)) then
                           k0 ((0 : Int), (6 : Int), b1_13, b1_14, b1_15, b1_16, b1_17, b1_18, Bool.true, b1_20, b1_11.set b1_0.toNat b1_2, b1_12)
                           else none
                          else
                           k0 (b1_1, (0 : Int), b1_3, b1_4, b1_5, b1_6, b1_7, b1_8, b1_9, b1_10, b1_11, b1_12))))))
                 (both ((F_coder_interval_take_7ec fuel (x0) ((1 : Int)) (y10_0) (y10_1) (y10_2) (y10_3) (y10_4) (y10_5) (y10_6) (y10_7) (y10_8) (y10_9) (y10_10)
                      (fun (y20_0, y20_1, y20_2, y20_3, y20_4, y20_5, y20_6, y20_7, y20_8, y20_9) =>
                        (L_coder_Decoder_Get_aa3_1 fuel (x0, (1 : Int), y10_9.getD x0.toNat (0 : Int), y20_0, y20_1, y20_2, y20_3, y20_4, y20_5, y20_6, y20_7, y20_8, y20_9, y10_1, y10_2, y10_3, y10_4, y10_5, y10_6, y10_7, y10_8)
                          (fun (b1_0, b1_1, b1_2, b1_3, b1_4, b1_5, b1_6, b1_7, b1_8, b1_9, b1_10, b1_11, b1_12, b1_13, b1_14, b1_15, b1_16, b1_17, b1_18, b1_19, b1_20) =>
                            bif Decidable.decide (b1_8 > (4 : Int)) then
                             bif Decidable.decide ((0 : Int) ≤ b1_0 ∧ b1_0 < (↑b1_11.length : Int)) then
                             k0 ((0 : Int), (6 : Int), b1_13, b1_14, b1_15, b1_16, b1_17, b1_18, Bool.true, b1_20, b1_11.set b1_0.toNat b1_2, b1_12)
                             else none
                            else
                             k0 (b1_1, (0 : Int), b1_3, b1_4, b1_5, b1_6, b1_7, b1_8, b1_9, b1_10, b1_11, b1_12))))))
                   ((F_coder_interval_take_7ec fuel (x0) ((1 : Int)) (y10_0) (y10_1) (y10_2) (y10_3) (y10_4) (y10_5) (y10_6) (y10_7) (y10_8) (y10_9) (y10_10)
                      (fun (y20_0, y20_1, y20_2, y20_3, y20_4, y20_5, y20_6, y20_7, y20_8, y20_9) =>
                        (L_coder_Decoder_Get_aa3_1 fuel (x0, (1 : Int), y10_9.getD x0.toNat (0 : Int), y20_0, y20_1, y20_2, y20_3, y20_4, y20_5, y20_6, y20_7, y20_8, y20_9, y10_1, y10_2, y10_3, y10_4, y10_5, y10_6, y10_7, y10_8)
                          (fun (b1_0, b1_1, b1_2, b1_3, b1_4, b1_5, b1_6, b1_7, b1_8, b1_9, b1_10, b1_11, b1_12, b1_13, b1_14, b1_15, b1_16, b1_17, b1_18, b1_19, b1_20) =>
                            bif Decidable.decide (b1_8 > (4 : Int)) then
                             bif Decidable.decide ((0 : Int) ≤ b1_0 ∧ b1_0 < (↑b1_11.length : Int)) then
                             k0 ((0 : Int), (6 : Int), b1_13, b1_14, b1_15, b1_16, b1_17, b1_18, Bool.true, b1_20, b1_11.set b1_0.toNat b1_2, b1_12)
                             else none
                            else
                             k0 (b1_1, (0 : Int), b1_3, b1_4, b1_5, b1_6, b1_7, b1_8, b1_9, b1_10, b1_11, b1_12)))))))
               else none
              else
               bif Decidable.decide ((0 : Int) ≤ x0 ∧ x0 < (↑y10_9.length : Int)) then
               both ((F_coder_interval_take_7ec fuel (x0) ((0 : Int)) (y10_0) (y10_1) (y10_2) (y10_3) (y10_4) (y10_5) (y10_6) (y10_7) (y10_8) (y10_9) (y10_10)
                    (fun (y18_0, y18_1, y18_2, y18_3, y18_4, y18_5, y18_6, y18_7, y18_8, y18_9) =>
                      (L_coder_Decoder_Get_aa3_1 fuel (x0, (0 : Int), y10_9.getD x0.toNat (0 : Int), y18_0, y18_1, y18_2, y18_3, y18_4, y18_5, y18_6, y18_7, y18_8, y18_9, y10_1, y10_2, y10_3, y10_4, y10_5, y10_6, y10_7, y10_8)
                        (fun (b1_0, b1_1, b1_2, b1_3, b1_4, b1_5, b1_6, b1_7, b1_8, b1_9, b1_10, b1_11, b1_12, b1_13, b1_14, b1_15, b1_16, b1_17, b1_18, b1_19, b1_20) =>
                          bif Decidable.decide (b1_8 > (4 : Int)) then
                           bif Decidable.decide ((0 : Int) ≤ b1_0 ∧ b1_0 < (↑b1_11.length : Int)) then
                           k0 ((0 : Int), (6 : Int), b1_13, b1_14, b1_15, b1_16, b1_17, b1_18, Bool.true, b1_20, b1_11.set b1_0.toNat b1_2, b1_12)
                           else none
                          else
                           k0 (b1_1, (0 : Int), b1_3, b1_4, b1_5, b1_6, b1_7, b1_8, b1_9, b1_10, b1_11, b1_12))))))
                 (both ((F_coder_interval_take_7ec fuel (x0) ((0 : Int)) (y10_0) (y10_1) (y10_2) (y10_3) (y10_4) (y10_5) (y10_6) (y10_7) (y10_8) (y10_9) (y10_10)
                      (fun (y20_0, y20_1, y20_2, y20_3, y20_4, y20_5, y20_6, y20_7, y20_8, y20_9) =>
                        (L_coder_Decoder_Get_aa3_1 fuel (x0, (0 : Int), y10_9.getD x0.toNat (0 : Int), y20_0, y20_1, y20_2, y20_3, y20_4, y20_5, y20_6, y20_7, y20_8, y20_9, y10_1, y10_2, y10_3, y10_4, y10_5, y10_6, y10_7, y10_8)
                          (fun (b1_0, b1_1, b1_2, b1_3, b1_4, b1_5, b1_6, b1_7, b1_8, b1_9, b1_10, b1_11, b1_12, b1_13, b1_14, b1_15, b1_16, b1_17, b1_18, b1_19, b1_20) =>
                            bif Decidable.decide (b1_8 > (4 : Int)) then
                             bif Decidable.decide ((0 : Int) ≤ b1_0 ∧ b1_0 < (↑b1_11.length : Int)) then
                             k0 ((0 : Int), (6 : Int), b1_13, b1_14, b1_15, b1_16, b1_17, b1_18, Bool.true, b1_20, b1_11.set b1_0.toNat b1_2, b1_12)
                             else none
                            else
                             k0 (b1_1, (0 : Int), b1_3, b1_4, b1_5, b1_6, b1_7, b1_8, b1_9, b1_10, b1_11, b1_12))))))
                   ((F_coder_interval_take_7ec fuel (x0) ((0 : Int)) (y10_0) (y10_1) (y10_2) (y10_3) (y10_4) (y10_5) (y10_6) (y10_7) (y10_8) (y10_9) (y10_10)
                      (fun (y20_0, y20_1, y20_2, y20_3, y20_4, y20_5, y20_6, y20_7, y20_8, y20_9) =>
                        (L_coder_Decoder_Get_aa3_1 fuel (x0, (0 : Int), y10_9.getD x0.toNat (0 : Int), y20_0, y20_1, y20_2, y20_3, y20_4, y20_5, y20_6, y20_7, y20_8, y20_9, y10_1, y10_2, y10_3, y10_4, y10_5, y10_6, y10_7, y10_8)
                          (fun (b1_0, b1_1, b1_2, b1_3, b1_4, b1_5, b1_6, b1_7, b1_8, b1_9, b1_10, b1_11, b1_12, b1_13, b1_14, b1_15, b1_16, b1_17, b1_18, b1_19, b1_20) =>
                            bif Decidable.decide (b1_8 > (4 : Int)) then
                             bif Decidable.decide ((0 : Int) ≤ b1_0 ∧ b1_0 < (↑b1_11.length : Int)) then
                             k0 ((0 : Int), (6 : Int), b1_13, b1_14, b1_15, b1_16, b1_17, b1_18, Bool.true, b1_20, b1_11.set b1_0.toNat b1_2, b1_12)
                             else none
                            else
                             k0 (b1_1, (0 : Int), b1_3, b1_4, b1_5, b1_6, b1_7, b1_8, b1_9, b1_10, b1_11, b1_12)))))))
               else none))))
abbrev YF156_aa3 : Type := (Int) → (Int) → (Int) → (Int) → (Int) → (Int) → (Int) → (Bool) → (Bool) → ((List Int)) → ((List Int)) → ((Int × Int × Int × Int × Int × Int × Int × Int × Bool × Bool × (List Int) × (List Int)) → Option Ans) → Option Ans
theorem F156_aa3_eqg (fuel : Nat) (f120_40a : YF120_40a) (f124_40a : YF124_40a) (f161_7ec : YF161_7ec) (f162_aa3 : YF162_aa3) (f163_40a : YF163_40a) (f164_40a : YF164_40a) (x0 : Int) (x1 : Int) (x2 : Int) (x3 : Int) (x4 : Int) (x5 : Int) (x6 : Int) (x7 : Bool) (x8 : Bool) (x9 : (List Int)) (x10 : (List Int)) (k : Ev.Cont) : evalFn tab (Gg156_aa3 f120_40a f124_40a f161_7ec f162_aa3 f163_40a f164_40a) (J156_aa3 fuel) kp156_aa3 fuel Tryz.f156 [.c (.ptr 0 0), .c (.int .i64 x0)] [.cells 168 (.int .i64 x1 :: .own 1 :: .int .i64 2048 :: .int .i64 1792 :: .int .i64 1568 :: .int .i64 1372 :: .int .i64 1201 :: .int .i64 1051 :: .int .i64 920 :: .int .i64 805 :: .int .i64 705 :: .int .i64 617 :: .int .i64 540 :: .int .i64 473 :: .int .i64 414 :: .int .i64 363 :: .int .i64 318 :: .int .i64 279 :: .int .i64 245 :: .int .i64 215 :: .int .i64 189 :: .int .i64 166 :: .int .i64 146 :: .int .i64 128 :: .int .i64 112 :: .int .i64 98 :: .int .i64 86 :: .int .i64 76 :: .int .i64 67 :: .int .i64 59 :: .int .i64 52 :: .int .i64 46 :: .int .i64 41 :: .int .i64 36 :: .int .u64 x2 :: .int .u64 x3 :: .own 2 :: .int .i64 x4 :: .int .u64 x5 :: .int .i64 x6 :: .bool x7 :: .bool x8 :: []), .vec 3 (.int .i64) x9 false, .vec 5 (.int .u8) x10 false] k = (fun  (k0 : (Int × Int × Int × Int × Int × Int × Int × Int × Bool × Bool × (List Int) × (List Int)) → Option Ans) =>
  (f124_40a (x1) (x2) (x3) (x4) (x5) (x6) (x7) (x8) (x9) (x10)
    (fun (y2_0, y2_1, y2_2, y2_3, y2_4, y2_5, y2_6, y2_7, y2_8, y2_9, y2_10) =>
      bif y2_0 then
       k0 ((0 : Int), (7 : Int), y2_1, y2_2, y2_3, y2_4, y2_5, y2_6, y2_7, y2_8, y2_9, y2_10)
      else
       bif Decidable.decide (x0 < (0 : Int)) then
        k0 ((0 : Int), (2 : Int), y2_1, y2_2, y2_3, y2_4, y2_5, y2_6, y2_7, y2_8, y2_9, y2_10)
       else
        bif Decidable.decide (x0 ≥ (↑y2_9.length : Int)) then
         k0 ((0 : Int), (2 : Int), y2_1, y2_2, y2_3, y2_4, y2_5, y2_6, y2_7, y2_8, y2_9, y2_10)
        else
         bif y2_7 then
          k0 ((0 : Int), (6 : Int), y2_1, y2_2, y2_3, y2_4, y2_5, y2_6, y2_7, y2_8, y2_9, y2_10)
         else
          (f162_aa3 (x0) (y2_1) (y2_2) (y2_3) (y2_4) (y2_5) (y2_6) (y2_7) (y2_8) (y2_9) (y2_10)
            (fun (y10_0, y10_1, y10_2, y10_3, y10_4, y10_5, y10_6, y10_7, y10_8, y10_9, y10_10) =>
              bif Decidable.decide (y10_5 ≤ y10_0) then
               bif Decidable.decide ((0 : Int) ≤ x0 ∧ x0 < (↑y10_9.length : Int)) then
               both ((f161_7ec (x0) ((1 : Int)) (y10_0) (y10_1) (y10_2) (y10_3) (y10_4) (y10_5) (y10_6) (y10_7) (y10_8) (y10_9) (y10_10)
                    (fun (y18_0, y18_1, y18_2, y18_3, y18_4, y18_5, y18_6, y18_7, y18_8, y18_9) =>
                      (L_coder_Decoder_Get_aa3_1 fuel (x0, (1 : Int), y10_9.getD x0.toNat (0 : Int), y18_0, y18_1, y18_2, y18_3, y18_4, y18_5, y18_6, y18_7, y18_8, y18_9, y10_1, y10_2, y10_3, y10_4, y10_5, y10_6, y10_7, y10_8)
                        (fun (b1_0, b1_1, b1_2, b1_3, b1_4, b1_5, b1_6, b1_7, b1_8, b1_9, b1_10, b1_11, b1_12, b1_13, b1_14, b1_15, b1_16, b1_17, b1_18, b1_19, b1_20) =>
                          bif Decidable.decide (b1_8 > (4 : Int)) then
                           bif Decidable.decide ((0 : Int) ≤ b1_0 ∧ b1_0 < (↑b1_11.length : Int)) then
                           k0 ((0 : Int), (6 : Int), b1_13, b1_14, b1_15, b1_16, b1_17, b1_18, Bool.true, b1_20, b1_11.set b1_0.toNat b1_2, b1_12)
                           else none
                          else
                           k0 (b1_1, (0 : Int), b1_3, b1_4, b1_5, b1_6, b1_7, b1_8, b1_9, b1_10, b1_11, b1_12))))))
                 (both ((f161_7ec (x0) ((1 : Int)) (y10_0) (y10_1) (y10_2) (y10_3) (y10_4) (y10_5) (y10_6) (y10_7) (y10_8) (y10_9) (y10_10)
                      (fun (y20_0, y20_1, y20_2, y20_3, y20_4, y20_5, y20_6, y20_7, y20_8, y20_9) =>
                        (L_coder_Decoder_Get_aa3_1 fuel (x0, (1 : Int), y10_9.getD x0.toNat (0 : Int), y20_0, y20_1, y20_2, y20_3, y20_4, y20_5, y20_6, y20_7, y20_8, y20_9, y10_1, y10_2, y10_3, y10_4, y10_5, y10_6, y10_7, y10_8)
                          (fun (b1_0, b1_1, b1_2, b1_3, b1_4, b1_5, b1_6, b1_7, b1_8, b1_9, b1_10, b1_11, b1_12, b1_13, b1_14, b1_15, b1_16, b1_17, b1_18, b1_19, b1_20) =>
                            bif Decidable.decide (b1_8 > (4 : Int)) then
                             bif Decidable.decide ((0 : Int) ≤ b1_0 ∧ b1_0 < (↑b1_11.length : Int)) then
                             k0 ((0 : Int), (6 : Int), b1_13, b1_14, b1_15, b1_16, b1_17, b1_18, Bool.true, b1_20, b1_11.set b1_0.toNat b1_2, b1_12)
                             else none
                            else
                             k0 (b1_1, (0 : Int), b1_3, b1_4, b1_5, b1_6, b1_7, b1_8, b1_9, b1_10, b1_11, b1_12))))))
                   ((f161_7ec (x0) ((1 : Int)) (y10_0) (y10_1) (y10_2) (y10_3) (y10_4) (y10_5) (y10_6) (y10_7) (y10_8) (y10_9) (y10_10)
                      (fun (y20_0, y20_1, y20_2, y20_3, y20_4, y20_5, y20_6, y20_7, y20_8, y20_9) =>
                        (L_coder_Decoder_Get_aa3_1 fuel (x0, (1 : Int), y10_9.getD x0.toNat (0 : Int), y20_0, y20_1, y20_2, y20_3, y20_4, y20_5, y20_6, y20_7, y20_8, y20_9, y10_1, y10_2, y10_3, y10_4, y10_5, y10_6, y10_7, y10_8)
                          (fun (b1_0, b1_1, b1_2, b1_3, b1_4, b1_5, b1_6, b1_7, b1_8, b1_9, b1_10, b1_11, b1_12, b1_13, b1_14, b1_15, b1_16, b1_17, b1_18, b1_19, b1_20) =>
                            bif Decidable.decide (b1_8 > (4 : Int)) then
                             bif Decidable.decide ((0 : Int) ≤ b1_0 ∧ b1_0 < (↑b1_11.length : Int)) then
                             k0 ((0 : Int), (6 : Int), b1_13, b1_14, b1_15, b1_16, b1_17, b1_18, Bool.true, b1_20, b1_11.set b1_0.toNat b1_2, b1_12)
                             else none
                            else
                             k0 (b1_1, (0 : Int), b1_3, b1_4, b1_5, b1_6, b1_7, b1_8, b1_9, b1_10, b1_11, b1_12)))))))
               else none
              else
               bif Decidable.decide ((0 : Int) ≤ x0 ∧ x0 < (↑y10_9.length : Int)) then
               both ((f161_7ec (x0) ((0 : Int)) (y10_0) (y10_1) (y10_2) (y10_3) (y10_4) (y10_5) (y10_6) (y10_7) (y10_8) (y10_9) (y10_10)
                    (fun (y18_0, y18_1, y18_2, y18_3, y18_4, y18_5, y18_6, y18_7, y18_8, y18_9) =>
                      (L_coder_Decoder_Get_aa3_1 fuel (x0, (0 : Int), y10_9.getD x0.toNat (0 : Int), y18_0, y18_1, y18_2, y18_3, y18_4, y18_5, y18_6, y18_7, y18_8, y18_9, y10_1, y10_2, y10_3, y10_4, y10_5, y10_6, y10_7, y10_8)
                        (fun (b1_0, b1_1, b1_2, b1_3, b1_4, b1_5, b1_6, b1_7, b1_8, b1_9, b1_10, b1_11, b1_12, b1_13, b1_14, b1_15, b1_16, b1_17, b1_18, b1_19, b1_20) =>
                          bif Decidable.decide (b1_8 > (4 : Int)) then
                           bif Decidable.decide ((0 : Int) ≤ b1_0 ∧ b1_0 < (↑b1_11.length : Int)) then
                           k0 ((0 : Int), (6 : Int), b1_13, b1_14, b1_15, b1_16, b1_17, b1_18, Bool.true, b1_20, b1_11.set b1_0.toNat b1_2, b1_12)
                           else none
                          else
                           k0 (b1_1, (0 : Int), b1_3, b1_4, b1_5, b1_6, b1_7, b1_8, b1_9, b1_10, b1_11, b1_12))))))
                 (both ((f161_7ec (x0) ((0 : Int)) (y10_0) (y10_1) (y10_2) (y10_3) (y10_4) (y10_5) (y10_6) (y10_7) (y10_8) (y10_9) (y10_10)
                      (fun (y20_0, y20_1, y20_2, y20_3, y20_4, y20_5, y20_6, y20_7, y20_8, y20_9) =>
                        (L_coder_Decoder_Get_aa3_1 fuel (x0, (0 : Int), y10_9.getD x0.toNat (0 : Int), y20_0, y20_1, y20_2, y20_3, y20_4, y20_5, y20_6, y20_7, y20_8, y20_9, y10_1, y10_2, y10_3, y10_4, y10_5, y10_6, y10_7, y10_8)
                          (fun (b1_0, b1_1, b1_2, b1_3, b1_4, b1_5, b1_6, b1_7, b1_8, b1_9, b1_10, b1_11, b1_12, b1_13, b1_14, b1_15, b1_16, b1_17, b1_18, b1_19, b1_20) =>
                            bif Decidable.decide (b1_8 > (4 : Int)) then
                             bif Decidable.decide ((0 : Int) ≤ b1_0 ∧ b1_0 < (↑b1_11.length : Int)) then
                             k0 ((0 : Int), (6 : Int), b1_13, b1_14, b1_15, b1_16, b1_17, b1_18, Bool.true, b1_20, b1_11.set b1_0.toNat b1_2, b1_12)
                             else none
                            else
                             k0 (b1_1, (0 : Int), b1_3, b1_4, b1_5, b1_6, b1_7, b1_8, b1_9, b1_10, b1_11, b1_12))))))
                   ((f161_7ec (x0) ((0 : Int)) (y10_0) (y10_1) (y10_2) (y10_3) (y10_4) (y10_5) (y10_6) (y10_7) (y10_8) (y10_9) (y10_10)
                      (fun (y20_0, y20_1, y20_2, y20_3, y20_4, y20_5, y20_6, y20_7, y20_8, y20_9) =>
                        (L_coder_Decoder_Get_aa3_1 fuel (x0, (0 : Int), y10_9.getD x0.toNat (0 : Int), y20_0, y20_1, y20_2, y20_3, y20_4, y20_5, y20_6, y20_7, y20_8, y20_9, y10_1, y10_2, y10_3, y10_4, y10_5, y10_6, y10_7, y10_8)
                          (fun (b1_0, b1_1, b1_2, b1_3, b1_4, b1_5, b1_6, b1_7, b1_8, b1_9, b1_10, b1_11, b1_12, b1_13, b1_14, b1_15, b1_16, b1_17, b1_18, b1_19, b1_20) =>
                            bif Decidable.decide (b1_8 > (4 : Int)) then
                             bif Decidable.decide ((0 : Int) ≤ b1_0 ∧ b1_0 < (↑b1_11.length : Int)) then
                             k0 ((0 : Int), (6 : Int), b1_13, b1_14, b1_15, b1_16, b1_17, b1_18, Bool.true, b1_20, b1_11.set b1_0.toNat b1_2, b1_12)
                             else none
                            else
                             k0 (b1_1, (0 : Int), b1_3, b1_4, b1_5, b1_6, b1_7, b1_8, b1_9, b1_10, b1_11, b1_12)))))))
               else none))))) (fun r => match r with | (r0, r1, r2, r3, r4, r5, r6, r7, r8, r9, r10, r11) => k (.tup [(false, [.int .i64 r0]), (false, [.int .i64 r1])], [.cells 168 (.int .i64 r2 :: .own 1 :: .int .i64 2048 :: .int .i64 1792 :: .int .i64 1568 :: .int .i64 1372 :: .int .i64 1201 :: .int .i64 1051 :: .int .i64 920 :: .int .i64 805 :: .int .i64 705 :: .int .i64 617 :: .int .i64 540 :: .int .i64 473 :: .int .i64 414 :: .int .i64 363 :: .int .i64 318 :: .int .i64 279 :: .int .i64 245 :: .int .i64 215 :: .int .i64 189 :: .int .i64 166 :: .int .i64 146 :: .int .i64 128 :: .int .i64 112 :: .int .i64 98 :: .int .i64 86 :: .int .i64 76 :: .int .i64 67 :: .int .i64 59 :: .int .i64 52 :: .int .i64 46 :: .int .i64 41 :: .int .i64 36 :: .int .u64 r3 :: .int .u64 r4 :: .own 2 :: .int .i64 r5 :: .int .u64 r6 :: .int .i64 r7 :: .bool r8 :: .bool r9 :: []), .vec 3 (.int .i64) r10 false, .vec 5 (.int .u8) r11 false])) := by
  kernel_rfl
theorem F156_aa3_eq (fuel : Nat) (x0 : Int) (x1 : Int) (x2 : Int) (x3 : Int) (x4 : Int) (x5 : Int) (x6 : Int) (x7 : Bool) (x8 : Bool) (x9 : (List Int)) (x10 : (List Int)) (k : Ev.Cont) : evalFn tab (G156_aa3 fuel) (J156_aa3 fuel) kp156_aa3 fuel Tryz.f156 [.c (.ptr 0 0), .c (.int .i64 x0)] [.cells 168 (.int .i64 x1 :: .own 1 :: .int .i64 2048 :: .int .i64 1792 :: .int .i64 1568 :: .int .i64 1372 :: .int .i64 1201 :: .int .i64 1051 :: .int .i64 920 :: .int .i64 805 :: .int .i64 705 :: .int .i64 617 :: .int .i64 540 :: .int .i64 473 :: .int .i64 414 :: .int .i64 363 :: .int .i64 318 :: .int .i64 279 :: .int .i64 245 :: .int .i64 215 :: .int .i64 189 :: .int .i64 166 :: .int .i64 146 :: .int .i64 128 :: .int .i64 112 :: .int .i64 98 :: .int .i64 86 :: .int .i64 76 :: .int .i64 67 :: .int .i64 59 :: .int .i64 52 :: .int .i64 46 :: .int .i64 41 :: .int .i64 36 :: .int .u64 x2 :: .int .u64 x3 :: .own 2 :: .int .i64 x4 :: .int .u64 x5 :: .int .i64 x6 :: .bool x7 :: .bool x8 :: []), .vec 3 (.int .i64) x9 false, .vec 5 (.int .u8) x10 false] k = F_coder_Decoder_Get_aa3 fuel x0 x1 x2 x3 x4 x5 x6 x7 x8 x9 x10 (fun r => match r with | (r0, r1, r2, r3, r4, r5, r6, r7, r8, r9, r10, r11) => k (.tup [(false, [.int .i64 r0]), (false, [.int .i64 r1])], [.cells 168 (.int .i64 r2 :: .own 1 :: .int .i64 2048 :: .int .i64 1792 :: .int .i64 1568 :: .int .i64 1372 :: .int .i64 1201 :: .int .i64 1051 :: .int .i64 920 :: .int .i64 805 :: .int .i64 705 :: .int .i64 617 :: .int .i64 540 :: .int .i64 473 :: .int .i64 414 :: .int .i64 363 :: .int .i64 318 :: .int .i64 279 :: .int .i64 245 :: .int .i64 215 :: .int .i64 189 :: .int .i64 166 :: .int .i64 146 :: .int .i64 128 :: .int .i64 112 :: .int .i64 98 :: .int .i64 86 :: .int .i64 76 :: .int .i64 67 :: .int .i64 59 :: .int .i64 52 :: .int .i64 46 :: .int .i64 41 :: .int .i64 36 :: .int .u64 r3 :: .int .u64 r4 :: .own 2 :: .int .i64 r5 :: .int .u64 r6 :: .int .i64 r7 :: .bool r8 :: .bool r9 :: []), .vec 3 (.int .i64) r10 false, .vec 5 (.int .u8) r11 false])) :=
  F156_aa3_eqg fuel (F_coder_Decoder_shift_40a fuel) (F_coder_Decoder_none_40a fuel) (F_coder_interval_take_7ec fuel) (F_coder_interval_mid_aa3 fuel) (F_coder_interval_same_40a fuel) (F_coder_interval_lose_40a fuel) x0 x1 x2 x3 x4 x5 x6 x7 x8 x9 x10 k
theorem hG156_aa3 (fuel : Nat) : GOK Tryz.prog (G156_aa3 fuel) :=
  gok_cons ⟨ok120_40a fuel, enters_of Tryz.func120 (by kernel_rfl) rfl⟩ <|
  gok_cons ⟨ok124_40a fuel, enters_of Tryz.func124 (by kernel_rfl) rfl⟩ <|
  gok_cons ⟨ok161_7ec fuel, enters_of Tryz.func161 (by kernel_rfl) rfl⟩ <|
  gok_cons ⟨ok162_aa3 fuel, enters_of Tryz.func162 (by kernel_rfl) rfl⟩ <|
  gok_cons ⟨ok163_40a fuel, enters_of Tryz.func163 (by kernel_rfl) rfl⟩ <|
  gok_cons ⟨ok164_40a fuel, enters_of Tryz.func164 (by kernel_rfl) rfl⟩ <|
  gok_nil
theorem B156_aa3_1_blk (fuel : Nat) : BlkOK Tryz.prog Tryz.f156.ntmps (.block 1 (.loop (bodyOf 1 Tryz.f156))) (B156_aa3_1 fuel) :=
  blk_of (blk_of_code tab_ok (hG156_aa3 fuel) mixed (J := J156_aa3_1 fuel) (kp := kp156_aa3) (fuel := fuel) (by kernel_rfl) (fun q hq => by
    rw [(by kernel_rfl : obl (J156_aa3_1 fuel) (.block 1 (.loop (bodyOf 1 Tryz.f156))) = [])] at hq
    cases hq)) (B156_aa3_1_ok fuel)
theorem fok156_aa3 (fuel : Nat) : FnOK Tryz.prog 156 (evalFn tab (G156_aa3 fuel) (J156_aa3 fuel) kp156_aa3 fuel Tryz.f156) :=
  fn_ok tab_ok (hG156_aa3 fuel) mixed Tryz.func156 (c := (Tryz.f156.body).getD .skip) rfl (fun q hq => by
    rw [(by kernel_rfl : obl (J156_aa3 fuel) ((Tryz.f156.body).getD .skip) = [(.block 1 (.loop (bodyOf 1 Tryz.f156)), B156_aa3_1 fuel)])] at hq
    simp only [List.mem_cons, List.not_mem_nil, or_false] at hq
    subst hq
    · exact B156_aa3_1_blk fuel)
noncomputable def mt156_aa3 : List Ev.SV → List Ev.Ob → Bool := fun args objs => match args, objs with
  | [.c (.ptr q0 q1), .c (.int .i64 _)], [.cells q2 cs0, .vec q3 (.int .i64) _ false, .vec q4 (.int .u8) _ false] => (match splitRun 2 [(.i64, 2048), (.i64, 1792), (.i64, 1568), (.i64, 1372), (.i64, 1201), (.i64, 1051), (.i64, 920), (.i64, 805), (.i64, 705), (.i64, 617), (.i64, 540), (.i64, 473), (.i64, 414), (.i64, 363), (.i64, 318), (.i64, 279), (.i64, 245), (.i64, 215), (.i64, 189), (.i64, 166), (.i64, 146), (.i64, 128), (.i64, 112), (.i64, 98), (.i64, 86), (.i64, 76), (.i64, 67), (.i64, 59), (.i64, 52), (.i64, 46), (.i64, 41), (.i64, 36)] cs0 with | some ([.int .i64 _, .own q5], [.int .u64 _, .int .u64 _, .own q6, .int .i64 _, .int .u64 _, .int .i64 _, .bool _, .bool _]) => Nat.beq q0 0 && Nat.beq q1 0 && Nat.beq q2 168 && Nat.beq q3 3 && Nat.beq q4 5 && Nat.beq q5 1 && Nat.beq q6 2 | _ => false)
  | _, _ => false
noncomputable def spg156_aa3 (F : YF156_aa3) : Ev.Spec := fun args objs k => match args, objs with
  | [.c (.ptr q0 q1), .c (.int .i64 x0)], [.cells q2 cs0, .vec q3 (.int .i64) x9 false, .vec q4 (.int .u8) x10 false] => (match splitRun 2 [(.i64, 2048), (.i64, 1792), (.i64, 1568), (.i64, 1372), (.i64, 1201), (.i64, 1051), (.i64, 920), (.i64, 805), (.i64, 705), (.i64, 617), (.i64, 540), (.i64, 473), (.i64, 414), (.i64, 363), (.i64, 318), (.i64, 279), (.i64, 245), (.i64, 215), (.i64, 189), (.i64, 166), (.i64, 146), (.i64, 128), (.i64, 112), (.i64, 98), (.i64, 86), (.i64, 76), (.i64, 67), (.i64, 59), (.i64, 52), (.i64, 46), (.i64, 41), (.i64, 36)] cs0 with | some ([.int .i64 x1, .own q5], [.int .u64 x2, .int .u64 x3, .own q6, .int .i64 x4, .int .u64 x5, .int .i64 x6, .bool x7, .bool x8]) => bif Nat.beq q0 0 && Nat.beq q1 0 && Nat.beq q2 168 && Nat.beq q3 3 && Nat.beq q4 5 && Nat.beq q5 1 && Nat.beq q6 2 then F x0 x1 x2 x3 x4 x5 x6 x7 x8 x9 x10 (fun r => match r with | (r0, r1, r2, r3, r4, r5, r6, r7, r8, r9, r10, r11) => k (.tup [(false, [.int .i64 r0]), (false, [.int .i64 r1])], [.cells 168 (.int .i64 r2 :: .own 1 :: .int .i64 2048 :: .int .i64 1792 :: .int .i64 1568 :: .int .i64 1372 :: .int .i64 1201 :: .int .i64 1051 :: .int .i64 920 :: .int .i64 805 :: .int .i64 705 :: .int .i64 617 :: .int .i64 540 :: .int .i64 473 :: .int .i64 414 :: .int .i64 363 :: .int .i64 318 :: .int .i64 279 :: .int .i64 245 :: .int .i64 215 :: .int .i64 189 :: .int .i64 166 :: .int .i64 146 :: .int .i64 128 :: .int .i64 112 :: .int .i64 98 :: .int .i64 86 :: .int .i64 76 :: .int .i64 67 :: .int .i64 59 :: .int .i64 52 :: .int .i64 46 :: .int .i64 41 :: .int .i64 36 :: .int .u64 r3 :: .int .u64 r4 :: .own 2 :: .int .i64 r5 :: .int .u64 r6 :: .int .i64 r7 :: .bool r8 :: .bool r9 :: []), .vec 3 (.int .i64) r10 false, .vec 5 (.int .u8) r11 false])) else none | _ => none)
  | _, _ => none
noncomputable def spec156_aa3 (fuel : Nat) : Ev.Spec := spg156_aa3 (F_coder_Decoder_Get_aa3 fuel)
theorem ok156_aa3 (fuel : Nat) : FnOK Tryz.prog 156 (spec156_aa3 fuel) := by
  intro args objs kk r h
  unfold spec156_aa3 spg156_aa3 at h
  split at h
  · skip
    split at h
    rotate_left 1
    · cases h
    rename_i hsp
    have esp := splitRun_eq hsp
    subst esp
    obtain ⟨hb, h⟩ := cond_some' h
    simp only [Bool.and_eq_true, Nat.beq_eq, decide_eq_true_eq] at hb
    obtain ⟨⟨⟨⟨⟨⟨rfl, rfl⟩, rfl⟩, rfl⟩, rfl⟩, rfl⟩, rfl⟩ := hb
    exact fok156_aa3 fuel _ _ kk r ((F156_aa3_eq fuel _ _ _ _ _ _ _ _ _ _ _ kk).trans h)
  · cases h
end Go.Proofs.YtmjeeaemmbkioaaGreat

set_option linter.unusedVariables false
set_option linter.unusedSimpArgs false
set_option maxRecDepth 100000
set_option maxHeartbeats 2000000
namespace Go.Proofs.YtmjeeaemmbkioaaGreat
open Go Ev
def kp173_aa3 (i : Nat) : Option (List Nat) := Ev.look i [(5, [0, 1, 4, 8]), (14, [0, 1, 4, 8, 9, 10, 49, 50]), (100000, [0, 1, 4, 8]), (100002, [0, 1, 4, 9]), (400000, [4, 5]), (400002, [4, 5])]
noncomputable def Gg173_aa3 (f156_aa3 : YF156_aa3) (f172 : YF172) (f : Nat) : Option Ev.Spec := Ev.look f [(156, spg156_aa3 f156_aa3), (172, spg172 f172)]
noncomputable def G173_aa3 (fuel : Nat) : Nat → Option Ev.Spec := Gg173_aa3 (F_coder_Decoder_Get_aa3 fuel) (F_number_tail_take fuel)
noncomputable def S_number_get_aa3_0 (fuel : Nat) (v : Int × Int × Int × Int × Int × Int × Int × Int × Bool × Bool × (List Int) × (List Int) × Bool × Int) (c : (Int × Int × Int × Int × Int × Int × Int × Int × Bool × Bool × (List Int) × (List Int) × Bool × Int) → Option Ans) (B : (Int × Int × Int × Int × Int × Int × Int × Bool × Bool × (List Int) × (List Int) × Bool × Int → Option Ans) × (Int × Int × Int × Int × Int × Int × Int × Int × Bool × Bool × (List Int) × (List Int) × Bool × Int → Option Ans)) : Option Ans := match v, B with
  | (x0, x1, x2, x3, x4, x5, x6, x7, x8, x9, x10, x11, x12, x13), (ret, b) =>
   bif Decidable.decide (x1 < (20 : Int)) then
      (F_coder_Decoder_Get_aa3 fuel (Go.IntKind.i64.wrap (Go.IntKind.i64.wrap (x0 + (1 : Int)) + x1)) (x2) (x3) (x4) (x5) (x6) (x7) (x8) (x9) (x10) (x11)
        (fun (y3_0, y3_1, y3_2, y3_3, y3_4, y3_5, y3_6, y3_7, y3_8, y3_9, y3_10, y3_11) =>
          bif y3_1 != (0 : Int) then
           ret (y3_1, y3_2, y3_3, y3_4, y3_5, y3_6, y3_7, y3_8, y3_9, y3_10, y3_11, Bool.false, (0 : Int))
          else
           bif y3_0 == (0 : Int) then
            b (x0, x1, y3_2, y3_3, y3_4, y3_5, y3_6, y3_7, y3_8, y3_9, y3_10, y3_11, x12, x13)
           else
            c (x0, Go.IntKind.i64.wrap (x1 + (1 : Int)), y3_2, y3_3, y3_4, y3_5, y3_6, y3_7, y3_8, y3_9, y3_10, y3_11, x12, x13)))
     else
      b (x0, x1, x2, x3, x4, x5, x6, x7, x8, x9, x10, x11, x12, x13)
noncomputable def L_number_get_aa3_0 (fuel : Nat) (v : Int × Int × Int × Int × Int × Int × Int × Int × Bool × Bool × (List Int) × (List Int) × Bool × Int) (ret : (Int × Int × Int × Int × Int × Int × Int × Bool × Bool × (List Int) × (List Int) × Bool × Int → Option Ans)) (b : (Int × Int × Int × Int × Int × Int × Int × Int × Bool × Bool × (List Int) × (List Int) × Bool × Int → Option Ans)) : Option Ans := iter (S_number_get_aa3_0 fuel) fuel v (ret, b)
noncomputable def J173_aa3_0 (fuel : Nat) (i : Nat) : Option Ev.Blk := Ev.look i []
noncomputable def T173_aa3_0 (v : Int × Int × Int × Int × Int × Int × Int × Int × Bool × Bool × (List Int) × (List Int) × Bool × Int) : Ev.St := match v with | (x0, x1, x2, x3, x4, x5, x6, x7, x8, x9, x10, x11, x12, x13) => ⟨[(0, .c (.ptr 0 0)), (1, .c (.int .i64 x0)), (4, .c (.ptr 3 0)), (8, .c (.int .i64 x1))], [(0, .cells 168 (.int .i64 x2 :: .own 1 :: .int .i64 2048 :: .int .i64 1792 :: .int .i64 1568 :: .int .i64 1372 :: .int .i64 1201 :: .int .i64 1051 :: .int .i64 920 :: .int .i64 805 :: .int .i64 705 :: .int .i64 617 :: .int .i64 540 :: .int .i64 473 :: .int .i64 414 :: .int .i64 363 :: .int .i64 318 :: .int .i64 279 :: .int .i64 245 :: .int .i64 215 :: .int .i64 189 :: .int .i64 166 :: .int .i64 146 :: .int .i64 128 :: .int .i64 112 :: .int .i64 98 :: .int .i64 86 :: .int .i64 76 :: .int .i64 67 :: .int .i64 59 :: .int .i64 52 :: .int .i64 46 :: .int .i64 41 :: .int .i64 36 :: .int .u64 x3 :: .int .u64 x4 :: .own 2 :: .int .i64 x5 :: .int .u64 x6 :: .int .i64 x7 :: .bool x8 :: .bool x9 :: [])), (1, .vec 3 (.int .i64) x10 false), (2, .vec 5 (.int .u8) x11 false), (3, .cells 138 [.bool x12, .int .i64 x13])], 4, 3⟩
noncomputable def E173_aa3_0 (K : Ev.Ex → Ev.St → Option Ans) : (Int × Int × Int × Int × Int × Int × Int × Bool × Bool × (List Int) × (List Int) × Bool × Int → Option Ans) × (Int × Int × Int × Int × Int × Int × Int × Int × Bool × Bool × (List Int) × (List Int) × Bool × Int → Option Ans) := ((fun v => match v with | (x0, x1, x2, x3, x4, x5, x6, x7, x8, x9, x10, x11, x12) => K .ret ⟨[(4, .c (.ptr 3 0)), (5, .c (.int .i64 x0))], [(0, .cells 168 (.int .i64 x1 :: .own 1 :: .int .i64 2048 :: .int .i64 1792 :: .int .i64 1568 :: .int .i64 1372 :: .int .i64 1201 :: .int .i64 1051 :: .int .i64 920 :: .int .i64 805 :: .int .i64 705 :: .int .i64 617 :: .int .i64 540 :: .int .i64 473 :: .int .i64 414 :: .int .i64 363 :: .int .i64 318 :: .int .i64 279 :: .int .i64 245 :: .int .i64 215 :: .int .i64 189 :: .int .i64 166 :: .int .i64 146 :: .int .i64 128 :: .int .i64 112 :: .int .i64 98 :: .int .i64 86 :: .int .i64 76 :: .int .i64 67 :: .int .i64 59 :: .int .i64 52 :: .int .i64 46 :: .int .i64 41 :: .int .i64 36 :: .int .u64 x2 :: .int .u64 x3 :: .own 2 :: .int .i64 x4 :: .int .u64 x5 :: .int .i64 x6 :: .bool x7 :: .bool x8 :: [])), (1, .vec 3 (.int .i64) x9 false), (2, .vec 5 (.int .u8) x10 false), (3, .cells 138 [.bool x11, .int .i64 x12])], 4, 3⟩), (fun v => match v with | (x0, x1, x2, x3, x4, x5, x6, x7, x8, x9, x10, x11, x12, x13) => K .normal ⟨[(0, .c (.ptr 0 0)), (1, .c (.int .i64 x0)), (4, .c (.ptr 3 0)), (8, .c (.int .i64 x1))], [(0, .cells 168 (.int .i64 x2 :: .own 1 :: .int .i64 2048 :: .int .i64 1792 :: .int .i64 1568 :: .int .i64 1372 :: .int .i64 1201 :: .int .i64 1051 :: .int .i64 920 :: .int .i64 805 :: .int .i64 705 :: .int .i64 617 :: .int .i64 540 :: .int .i64 473 :: .int .i64 414 :: .int .i64 363 :: .int .i64 318 :: .int .i64 279 :: .int .i64 245 :: .int .i64 215 :: .int .i64 189 :: .int .i64 166 :: .int .i64 146 :: .int .i64 128 :: .int .i64 112 :: .int .i64 98 :: .int .i64 86 :: .int .i64 76 :: .int .i64 67 :: .int .i64 59 :: .int .i64 52 :: .int .i64 46 :: .int .i64 41 :: .int .i64 36 :: .int .u64 x3 :: .int .u64 x4 :: .own 2 :: .int .i64 x5 :: .int .u64 x6 :: .int .i64 x7 :: .bool x8 :: .bool x9 :: [])), (1, .vec 3 (.int .i64) x10 false), (2, .vec 5 (.int .u8) x11 false), (3, .cells 138 [.bool x12, .int .i64 x13])], 4, 3⟩))
theorem S173_aa3_0_okg (fuel : Nat) (f156_aa3 : YF156_aa3) (f172 : YF172) (R : Ev.St → Option Ans) (K : Ev.Ex → Ev.St → Option Ans) (x0 : Int) (x1 : Int) (x2 : Int) (x3 : Int) (x4 : Int) (x5 : Int) (x6 : Int) (x7 : Int) (x8 : Bool) (x9 : Bool) (x10 : (List Int)) (x11 : (List Int)) (x12 : Bool) (x13 : Int) : evalCode tab (Gg173_aa3 f156_aa3 f172) (J173_aa3_0 fuel) kp173_aa3 fuel (bodyOf 0 Tryz.f173) (T173_aa3_0 (x0, x1, x2, x3, x4, x5, x6, x7, x8, x9, x10, x11, x12, x13)) (lc kp173_aa3 5 0 R K) = (fun (c : (Int × Int × Int × Int × Int × Int × Int × Int × Bool × Bool × (List Int) × (List Int) × Bool × Int) → Option Ans) (B : (Int × Int × Int × Int × Int × Int × Int × Bool × Bool × (List Int) × (List Int) × Bool × Int → Option Ans) × (Int × Int × Int × Int × Int × Int × Int × Int × Bool × Bool × (List Int) × (List Int) × Bool × Int → Option Ans)) => match B with
  | (ret, b) =>
   bif Decidable.decide (x1 < (20 : Int)) then
      (f156_aa3 (Go.IntKind.i64.wrap (Go.IntKind.i64.wrap (x0 + (1 : Int)) + x1)) (x2) (x3) (x4) (x5) (x6) (x7) (x8) (x9) (x10) (x11)
        (fun (y3_0, y3_1, y3_2, y3_3, y3_4, y3_5, y3_6, y3_7, y3_8, y3_9, y3_10, y3_11) =>
          bif y3_1 != (0 : Int) then
           ret (y3_1, y3_2, y3_3, y3_4, y3_5, y3_6, y3_7, y3_8, y3_9, y3_10, y3_11, Bool.false, (0 : Int))
          else
           bif y3_0 == (0 : Int) then
            b (x0, x1, y3_2, y3_3, y3_4, y3_5, y3_6, y3_7, y3_8, y3_9, y3_10, y3_11, x12, x13)
           else
            c (x0, Go.IntKind.i64.wrap (x1 + (1 : Int)), y3_2, y3_3, y3_4, y3_5, y3_6, y3_7, y3_8, y3_9, y3_10, y3_11, x12, x13)))
     else
      b (x0, x1, x2, x3, x4, x5, x6, x7, x8, x9, x10, x11, x12, x13)) (fun v => R (T173_aa3_0 v)) (E173_aa3_0 K) := by
  kernel_rfl
theorem S173_aa3_0_ok (fuel : Nat) (R : Ev.St → Option Ans) (K : Ev.Ex → Ev.St → Option Ans) (x0 : Int) (x1 : Int) (x2 : Int) (x3 : Int) (x4 : Int) (x5 : Int) (x6 : Int) (x7 : Int) (x8 : Bool) (x9 : Bool) (x10 : (List Int)) (x11 : (List Int)) (x12 : Bool) (x13 : Int) : evalCode tab (G173_aa3 fuel) (J173_aa3_0 fuel) kp173_aa3 fuel (bodyOf 0 Tryz.f173) (T173_aa3_0 (x0, x1, x2, x3, x4, x5, x6, x7, x8, x9, x10, x11, x12, x13)) (lc kp173_aa3 5 0 R K) = S_number_get_aa3_0 fuel (x0, x1, x2, x3, x4, x5, x6, x7, x8, x9, x10, x11, x12, x13) (fun v => R (T173_aa3_0 v)) (E173_aa3_0 K) :=
  S173_aa3_0_okg fuel (F_coder_Decoder_Get_aa3 fuel) (F_number_tail_take fuel) R K x0 x1 x2 x3 x4 x5 x6 x7 x8 x9 x10 x11 x12 x13
noncomputable def B173_aa3_0 (fuel : Nat) : Ev.Blk := fun st K => match canonO (kp173_aa3 5) st with
  | some s => (match s with
    | ⟨[(q0, .c (.ptr q1 q2)), (q3, .c (.int .i64 x0)), (q4, .c (.ptr q5 q6)), (q7, .c (.int .i64 x1))], [(q8, .cells q9 cs0), (q10, .vec q11 (.int .i64) x10 false), (q12, .vec q13 (.int .u8) x11 false), (q14, .cells q15 [.bool x12, .int .i64 x13])], q16, q17⟩ => (match splitRun 2 [(.i64, 2048), (.i64, 1792), (.i64, 1568), (.i64, 1372), (.i64, 1201), (.i64, 1051), (.i64, 920), (.i64, 805), (.i64, 705), (.i64, 617), (.i64, 540), (.i64, 473), (.i64, 414), (.i64, 363), (.i64, 318), (.i64, 279), (.i64, 245), (.i64, 215), (.i64, 189), (.i64, 166), (.i64, 146), (.i64, 128), (.i64, 112), (.i64, 98), (.i64, 86), (.i64, 76), (.i64, 67), (.i64, 59), (.i64, 52), (.i64, 46), (.i64, 41), (.i64, 36)] cs0 with | some ([.int .i64 x2, .own q18], [.int .u64 x3, .int .u64 x4, .own q19, .int .i64 x5, .int .u64 x6, .int .i64 x7, .bool x8, .bool x9]) => bif Nat.beq q0 0 && Nat.beq q1 0 && Nat.beq q2 0 && Nat.beq q3 1 && Nat.beq q4 4 && Nat.beq q5 3 && Nat.beq q6 0 && Nat.beq q7 8 && Nat.beq q8 0 && Nat.beq q9 168 && Nat.beq q10 1 && Nat.beq q11 3 && Nat.beq q12 2 && Nat.beq q13 5 && Nat.beq q14 3 && Nat.beq q15 138 && Nat.beq q16 4 && Nat.beq q17 3 && Nat.beq q18 1 && Nat.beq q19 2 then iter (S_number_get_aa3_0 fuel) fuel (x0, x1, x2, x3, x4, x5, x6, x7, x8, x9, x10, x11, x12, x13) (E173_aa3_0 K) else none | _ => none)
    | _ => none)
  | none => none
theorem B173_aa3_0_ok (fuel : Nat) (st : Ev.St) (K : Ev.Ex → Ev.St → Option Ans) (r : Ans) (h : B173_aa3_0 fuel st K = some r) : evalCode tab (G173_aa3 fuel) (J173_aa3_0 fuel) kp173_aa3 fuel (.block 0 (.loop (bodyOf 0 Tryz.f173))) st K = some r := by
  unfold B173_aa3_0 at h
  split at h
  · rename_i s hs
    split at h
    · skip
      split at h
      rotate_left 1
      · cases h
      rename_i hsp
      have esp := splitRun_eq hsp
      subst esp
      obtain ⟨hb, h⟩ := cond_some' h
      simp only [Bool.and_eq_true, Nat.beq_eq, decide_eq_true_eq] at hb
      obtain ⟨⟨⟨⟨⟨⟨⟨⟨⟨⟨⟨⟨⟨⟨⟨⟨⟨⟨⟨rfl, rfl⟩, rfl⟩, rfl⟩, rfl⟩, rfl⟩, rfl⟩, rfl⟩, rfl⟩, rfl⟩, rfl⟩, rfl⟩, rfl⟩, rfl⟩, rfl⟩, rfl⟩, rfl⟩, rfl⟩, rfl⟩, rfl⟩ := hb
      exact blk_loop (S := T173_aa3_0) (ks := E173_aa3_0) (step := S_number_get_aa3_0 fuel) (v := (_, _, _, _, _, _, _, _, _, _, _, _, _, _)) (by kernel_rfl) (by kernel_rfl) (fun R K v => by obtain ⟨x0, x1, x2, x3, x4, x5, x6, x7, x8, x9, x10, x11, x12, x13⟩ := v; exact S173_aa3_0_ok fuel R K x0 x1 x2 x3 x4 x5 x6 x7 x8 x9 x10 x11 x12 x13) hs h
    · cases h
  · cases h
noncomputable def S_number_get_aa3_2 (fuel : Nat) (v : Int × Int × Int × Int × Int × Int × Int × Int × Int × Int × Int × Bool × Bool × (List Int) × (List Int) × Bool × Int × Int) (c : (Int × Int × Int × Int × Int × Int × Int × Int × Int × Int × Int × Bool × Bool × (List Int) × (List Int) × Bool × Int × Int) → Option Ans) (B : (Int × Int × Int × Int × Int × Int × Int × Bool × Bool × (List Int) × (List Int) × Bool × Int → Option Ans) × (Int × Int × Int × Int × Int × Int × Int × Int × Bool × Bool × (List Int) × (List Int) × Bool × Int → Option Ans)) : Option Ans := match v, B with
  | (x0, x1, x2, x3, x4, x5, x6, x7, x8, x9, x10, x11, x12, x13, x14, x15, x16, x17), (ret, b) =>
   bif Decidable.decide (x4 < x3) then
      bif Decidable.decide (x4 > (0 : Int)) then
       (F_number_tail_take fuel (x17)
         (fun (y4_0, y4_1) =>
           (F_coder_Decoder_Get_aa3 fuel (Go.IntKind.i64.wrap (x0 + y4_0)) (x5) (x6) (x7) (x8) (x9) (x10) (x11) (x12) (x13) (x14)
             (fun (y8_0, y8_1, y8_2, y8_3, y8_4, y8_5, y8_6, y8_7, y8_8, y8_9, y8_10, y8_11) =>
               bif y8_1 != (0 : Int) then
                ret (y8_1, y8_2, y8_3, y8_4, y8_5, y8_6, y8_7, y8_8, y8_9, y8_10, y8_11, Bool.false, (0 : Int))
               else
                c (x0, x1, Go.IntKind.i64.wrap (Go.IntKind.i64.wrap ((2 : Int) * x2) + y8_0), x3, Go.IntKind.i64.wrap (x4 + (1 : Int)), y8_2, y8_3, y8_4, y8_5, y8_6, y8_7, y8_8, y8_9, y8_10, y8_11, x15, x16, y4_1)))))
      else
       (F_coder_Decoder_Get_aa3 fuel (Go.IntKind.i64.wrap (x0 + Go.IntKind.i64.wrap ((23 : Int) + x1))) (x5) (x6) (x7) (x8) (x9) (x10) (x11) (x12) (x13) (x14)
         (fun (y4_0, y4_1, y4_2, y4_3, y4_4, y4_5, y4_6, y4_7, y4_8, y4_9, y4_10, y4_11) =>
           bif y4_1 != (0 : Int) then
            ret (y4_1, y4_2, y4_3, y4_4, y4_5, y4_6, y4_7, y4_8, y4_9, y4_10, y4_11, Bool.false, (0 : Int))
           else
            c (x0, x1, Go.IntKind.i64.wrap (Go.IntKind.i64.wrap ((2 : Int) * x2) + y4_0), x3, Go.IntKind.i64.wrap (x4 + (1 : Int)), y4_2, y4_3, y4_4, y4_5, y4_6, y4_7, y4_8, y4_9, y4_10, y4_11, x15, x16, x17)))
     else
      b (x0, x2, x5, x6, x7, x8, x9, x10, x11, x12, x13, x14, x15, x16)
noncomputable def L_number_get_aa3_2 (fuel : Nat) (v : Int × Int × Int × Int × Int × Int × Int × Int × Int × Int × Int × Bool × Bool × (List Int) × (List Int) × Bool × Int × Int) (ret : (Int × Int × Int × Int × Int × Int × Int × Bool × Bool × (List Int) × (List Int) × Bool × Int → Option Ans)) (b : (Int × Int × Int × Int × Int × Int × Int × Int × Bool × Bool × (List Int) × (List Int) × Bool × Int → Option Ans)) : Option Ans := iter (S_number_get_aa3_2 fuel) fuel v (ret, b)
noncomputable def J173_aa3_2 (fuel : Nat) (i : Nat) : Option Ev.Blk := Ev.look i [(100000, B173_aa3_0 fuel)]
noncomputable def T173_aa3_2 (v : Int × Int × Int × Int × Int × Int × Int × Int × Int × Int × Int × Bool × Bool × (List Int) × (List Int) × Bool × Int × Int) : Ev.St := match v with | (x0, x1, x2, x3, x4, x5, x6, x7, x8, x9, x10, x11, x12, x13, x14, x15, x16, x17) => ⟨[(0, .c (.ptr 0 0)), (1, .c (.int .i64 x0)), (4, .c (.ptr 3 0)), (8, .c (.int .i64 x1)), (9, .c (.int .i64 x2)), (10, .c (.ptr 4 0)), (49, .c (.int .i64 x3)), (50, .c (.int .i64 x4))], [(0, .cells 168 (.int .i64 x5 :: .own 1 :: .int .i64 2048 :: .int .i64 1792 :: .int .i64 1568 :: .int .i64 1372 :: .int .i64 1201 :: .int .i64 1051 :: .int .i64 920 :: .int .i64 805 :: .int .i64 705 :: .int .i64 617 :: .int .i64 540 :: .int .i64 473 :: .int .i64 414 :: .int .i64 363 :: .int .i64 318 :: .int .i64 279 :: .int .i64 245 :: .int .i64 215 :: .int .i64 189 :: .int .i64 166 :: .int .i64 146 :: .int .i64 128 :: .int .i64 112 :: .int .i64 98 :: .int .i64 86 :: .int .i64 76 :: .int .i64 67 :: .int .i64 59 :: .int .i64 52 :: .int .i64 46 :: .int .i64 41 :: .int .i64 36 :: .int .u64 x6 :: .int .u64 x7 :: .own 2 :: .int .i64 x8 :: .int .u64 x9 :: .int .i64 x10 :: .bool x11 :: .bool x12 :: [])), (1, .vec 3 (.int .i64) x13 false), (2, .vec 5 (.int .u8) x14 false), (3, .cells 138 [.bool x15, .int .i64 x16]), (4, .cells 221 [.int .i64 x17])], 5, 3⟩
noncomputable def E173_aa3_2 (K : Ev.Ex → Ev.St → Option Ans) : (Int × Int × Int × Int × Int × Int × Int × Bool × Bool × (List Int) × (List Int) × Bool × Int → Option Ans) × (Int × Int × Int × Int × Int × Int × Int × Int × Bool × Bool × (List Int) × (List Int) × Bool × Int → Option Ans) := ((fun v => match v with | (x0, x1, x2, x3, x4, x5, x6, x7, x8, x9, x10, x11, x12) => K .ret ⟨[(4, .c (.ptr 3 0)), (5, .c (.int .i64 x0))], [(0, .cells 168 (.int .i64 x1 :: .own 1 :: .int .i64 2048 :: .int .i64 1792 :: .int .i64 1568 :: .int .i64 1372 :: .int .i64 1201 :: .int .i64 1051 :: .int .i64 920 :: .int .i64 805 :: .int .i64 705 :: .int .i64 617 :: .int .i64 540 :: .int .i64 473 :: .int .i64 414 :: .int .i64 363 :: .int .i64 318 :: .int .i64 279 :: .int .i64 245 :: .int .i64 215 :: .int .i64 189 :: .int .i64 166 :: .int .i64 146 :: .int .i64 128 :: .int .i64 112 :: .int .i64 98 :: .int .i64 86 :: .int .i64 76 :: .int .i64 67 :: .int .i64 59 :: .int .i64 52 :: .int .i64 46 :: .int .i64 41 :: .int .i64 36 :: .int .u64 x2 :: .int .u64 x3 :: .own 2 :: .int .i64 x4 :: .int .u64 x5 :: .int .i64 x6 :: .bool x7 :: .bool x8 :: [])), (1, .vec 3 (.int .i64) x9 false), (2, .vec 5 (.int .u8) x10 false), (3, .cells 138 [.bool x11, .int .i64 x12])], 4, 3⟩), (fun v => match v with | (x0, x1, x2, x3, x4, x5, x6, x7, x8, x9, x10, x11, x12, x13) => K .normal ⟨[(0, .c (.ptr 0 0)), (1, .c (.int .i64 x0)), (4, .c (.ptr 3 0)), (9, .c (.int .i64 x1))], [(0, .cells 168 (.int .i64 x2 :: .own 1 :: .int .i64 2048 :: .int .i64 1792 :: .int .i64 1568 :: .int .i64 1372 :: .int .i64 1201 :: .int .i64 1051 :: .int .i64 920 :: .int .i64 805 :: .int .i64 705 :: .int .i64 617 :: .int .i64 540 :: .int .i64 473 :: .int .i64 414 :: .int .i64 363 :: .int .i64 318 :: .int .i64 279 :: .int .i64 245 :: .int .i64 215 :: .int .i64 189 :: .int .i64 166 :: .int .i64 146 :: .int .i64 128 :: .int .i64 112 :: .int .i64 98 :: .int .i64 86 :: .int .i64 76 :: .int .i64 67 :: .int .i64 59 :: .int .i64 52 :: .int .i64 46 :: .int .i64 41 :: .int .i64 36 :: .int .u64 x3 :: .int .u64 x4 :: .own 2 :: .int .i64 x5 :: .int .u64 x6 :: .int .i64 x7 :: .bool x8 :: .bool x9 :: [])), (1, .vec 3 (.int .i64) x10 false), (2, .vec 5 (.int .u8) x11 false), (3, .cells 138 [.bool x12, .int .i64 x13])], 4, 3⟩))
theorem S173_aa3_2_okg (fuel : Nat) (f156_aa3 : YF156_aa3) (f172 : YF172) (R : Ev.St → Option Ans) (K : Ev.Ex → Ev.St → Option Ans) (x0 : Int) (x1 : Int) (x2 : Int) (x3 : Int) (x4 : Int) (x5 : Int) (x6 : Int) (x7 : Int) (x8 : Int) (x9 : Int) (x10 : Int) (x11 : Bool) (x12 : Bool) (x13 : (List Int)) (x14 : (List Int)) (x15 : Bool) (x16 : Int) (x17 : Int) : evalCode tab (Gg173_aa3 f156_aa3 f172) (J173_aa3_2 fuel) kp173_aa3 fuel (bodyOf 2 Tryz.f173) (T173_aa3_2 (x0, x1, x2, x3, x4, x5, x6, x7, x8, x9, x10, x11, x12, x13, x14, x15, x16, x17)) (lc kp173_aa3 14 2 R K) = (fun (c : (Int × Int × Int × Int × Int × Int × Int × Int × Int × Int × Int × Bool × Bool × (List Int) × (List Int) × Bool × Int × Int) → Option Ans) (B : (Int × Int × Int × Int × Int × Int × Int × Bool × Bool × (List Int) × (List Int) × Bool × Int → Option Ans) × (Int × Int × Int × Int × Int × Int × Int × Int × Bool × Bool × (List Int) × (List Int) × Bool × Int → Option Ans)) => match B with
  | (ret, b) =>
   bif Decidable.decide (x4 < x3) then
      bif Decidable.decide (x4 > (0 : Int)) then
       (f172 (x17)
         (fun (y4_0, y4_1) =>
           (f156_aa3 (Go.IntKind.i64.wrap (x0 + y4_0)) (x5) (x6) (x7) (x8) (x9) (x10) (x11) (x12) (x13) (x14)
             (fun (y8_0, y8_1, y8_2, y8_3, y8_4, y8_5, y8_6, y8_7, y8_8, y8_9, y8_10, y8_11) =>
               bif y8_1 != (0 : Int) then
                ret (y8_1, y8_2, y8_3, y8_4, y8_5, y8_6, y8_7, y8_8, y8_9, y8_10, y8_11, Bool.false, (0 : Int))
               else
                c (x0, x1, Go.IntKind.i64.wrap (Go.IntKind.i64.wrap ((2 : Int) * x2) + y8_0), x3, Go.IntKind.i64.wrap (x4 + (1 : Int)), y8_2, y8_3, y8_4, y8_5, y8_6, y8_7, y8_8, y8_9, y8_10, y8_11, x15, x16, y4_1)))))
      else
       (f156_aa3 (Go.IntKind.i64.wrap (x0 + Go.IntKind.i64.wrap ((23 : Int) + x1))) (x5) (x6) (x7) (x8) (x9) (x10) (x11) (x12) (x13) (x14)
         (fun (y4_0, y4_1, y4_2, y4_3, y4_4, y4_5, y4_6, y4_7, y4_8, y4_9, y4_10, y4_11) =>
           bif y4_1 != (0 : Int) then
            ret (y4_1, y4_2, y4_3, y4_4, y4_5, y4_6, y4_7, y4_8, y4_9, y4_10, y4_11, Bool.false, (0 : Int))
           else
            c (x0, x1, Go.IntKind.i64.wrap (Go.IntKind.i64.wrap ((2 : Int) * x2) + y4_0), x3, Go.IntKind.i64.wrap (x4 + (1 : Int)), y4_2, y4_3, y4_4, y4_5, y4_6, y4_7, y4_8, y4_9, y4_10, y4_11, x15, x16, x17)))
     else
      b (x0, x2, x5, x6, x7, x8, x9, x10, x11, x12, x13, x14, x15, x16)) (fun v => R (T173_aa3_2 v)) (E173_aa3_2 K) := by
  kernel_rfl
theorem S173_aa3_2_ok (fuel : Nat) (R : Ev.St → Option Ans) (K : Ev.Ex → Ev.St → Option Ans) (x0 : Int) (x1 : Int) (x2 : Int) (x3 : Int) (x4 : Int) (x5 : Int) (x6 : Int) (x7 : Int) (x8 : Int) (x9 : Int) (x10 : Int) (x11 : Bool) (x12 : Bool) (x13 : (List Int)) (x14 : (List Int)) (x15 : Bool) (x16 : Int) (x17 : Int) : evalCode tab (G173_aa3 fuel) (J173_aa3_2 fuel) kp173_aa3 fuel (bodyOf 2 Tryz.f173) (T173_aa3_2 (x0, x1, x2, x3, x4, x5, x6, x7, x8, x9, x10, x11, x12, x13, x14, x15, x16, x17)) (lc kp173_aa3 14 2 R K) = S_number_get_aa3_2 fuel (x0, x1, x2, x3, x4, x5, x6, x7, x8, x9, x10, x11, x12, x13, x14, x15, x16, x17) (fun v => R (T173_aa3_2 v)) (E173_aa3_2 K) :=
  S173_aa3_2_okg fuel (F_coder_Decoder_Get_aa3 fuel) (F_number_tail_take fuel) R K x0 x1 x2 x3 x4 x5 x6 x7 x8 x9 x10 x11 x12 x13 x14 x15 x16 x17
noncomputable def B173_aa3_2 (fuel : Nat) : Ev.Blk := fun st K => match canonO (kp173_aa3 14) st with
  | some s => (match s with
    | ⟨[(q0, .c (.ptr q1 q2)), (q3, .c (.int .i64 x0)), (q4, .c (.ptr q5 q6)), (q7, .c (.int .i64 x1)), (q8, .c (.int .i64 x2)), (q9, .c (.ptr q10 q11)), (q12, .c (.int .i64 x3)), (q13, .c (.int .i64 x4))], [(q14, .cells q15 cs0), (q16, .vec q17 (.int .i64) x13 false), (q18, .vec q19 (.int .u8) x14 false), (q20, .cells q21 [.bool x15, .int .i64 x16]), (q22, .cells q23 [.int .i64 x17])], q24, q25⟩ => (match splitRun 2 [(.i64, 2048), (.i64, 1792), (.i64, 1568), (.i64, 1372), (.i64, 1201), (.i64, 1051), (.i64, 920), (.i64, 805), (.i64, 705), (.i64, 617), (.i64, 540), (.i64, 473), (.i64, 414), (.i64, 363), (.i64, 318), (.i64, 279), (.i64, 245), (.i64, 215), (.i64, 189), (.i64, 166), (.i64, 146), (.i64, 128), (.i64, 112), (.i64, 98), (.i64, 86), (.i64, 76), (.i64, 67), (.i64, 59), (.i64, 52), (.i64, 46), (.i64, 41), (.i64, 36)] cs0 with | some ([.int .i64 x5, .own q26], [.int .u64 x6, .int .u64 x7, .own q27, .int .i64 x8, .int .u64 x9, .int .i64 x10, .bool x11, .bool x12]) => bif Nat.beq q0 0 && Nat.beq q1 0 && Nat.beq q2 0 && Nat.beq q3 1 && Nat.beq q4 4 && Nat.beq q5 3 && Nat.beq q6 0 && Nat.beq q7 8 && Nat.beq q8 9 && Nat.beq q9 10 && Nat.beq q10 4 && Nat.beq q11 0 && Nat.beq q12 49 && Nat.beq q13 50 && Nat.beq q14 0 && Nat.beq q15 168 && Nat.beq q16 1 && Nat.beq q17 3 && Nat.beq q18 2 && Nat.beq q19 5 && Nat.beq q20 3 && Nat.beq q21 138 && Nat.beq q22 4 && Nat.beq q23 221 && Nat.beq q24 5 && Nat.beq q25 3 && Nat.beq q26 1 && Nat.beq q27 2 then iter (S_number_get_aa3_2 fuel) fuel (x0, x1, x2, x3, x4, x5, x6, x7, x8, x9, x10, x11, x12, x13, x14, x15, x16, x17) (E173_aa3_2 K) else none | _ => none)
    | _ => none)
  | none => none
theorem B173_aa3_2_ok (fuel : Nat) (st : Ev.St) (K : Ev.Ex → Ev.St → Option Ans) (r : Ans) (h : B173_aa3_2 fuel st K = some r) : evalCode tab (G173_aa3 fuel) (J173_aa3_2 fuel) kp173_aa3 fuel (.block 2 (.loop (bodyOf 2 Tryz.f173))) st K = some r := by
  unfold B173_aa3_2 at h
  split at h
  · rename_i s hs
    split at h
    · skip
      split at h
      rotate_left 1
      · cases h
      rename_i hsp
      have esp := splitRun_eq hsp
      subst esp
      obtain ⟨hb, h⟩ := cond_some' h
      simp only [Bool.and_eq_true, Nat.beq_eq, decide_eq_true_eq] at hb
      obtain ⟨⟨⟨⟨⟨⟨⟨⟨⟨⟨⟨⟨⟨⟨⟨⟨⟨⟨⟨⟨⟨⟨⟨⟨⟨⟨⟨rfl, rfl⟩, rfl⟩, rfl⟩, rfl⟩, rfl⟩, rfl⟩, rfl⟩, rfl⟩, rfl⟩, rfl⟩, rfl⟩, rfl⟩, rfl⟩, rfl⟩, rfl⟩, rfl⟩, rfl⟩, rfl⟩, rfl⟩, rfl⟩, rfl⟩, rfl⟩, rfl⟩, rfl⟩, rfl⟩, rfl⟩, rfl⟩ := hb
      exact blk_loop (S := T173_aa3_2) (ks := E173_aa3_2) (step := S_number_get_aa3_2 fuel) (v := (_, _, _, _, _, _, _, _, _, _, _, _, _, _, _, _, _, _)) (by kernel_rfl) (by kernel_rfl) (fun R K v => by obtain ⟨x0, x1, x2, x3, x4, x5, x6, x7, x8, x9, x10, x11, x12, x13, x14, x15, x16, x17⟩ := v; exact S173_aa3_2_ok fuel R K x0 x1 x2 x3 x4 x5 x6 x7 x8 x9 x10 x11 x12 x13 x14 x15 x16 x17) hs h
    · cases h
  · cases h
noncomputable def J173_aa3 (fuel : Nat) (i : Nat) : Option Ev.Blk := Ev.look i [(100000, B173_aa3_0 fuel), (100002, B173_aa3_2 fuel)]
noncomputable def F_number_get_aa3 (fuel : Nat) (x0 : Int) (x1 : Int) (x2 : Int) (x3 : Int) (x4 : Int) (x5 : Int) (x6 : Int) (x7 : Bool) (x8 : Bool) (x9 : (List Int)) (x10 : (List Int)) (k0 : (Bool × Int × Int × Int × Int × Int × Int × Int × Int × Bool × Bool × (List Int) × (List Int)) → Option Ans) : Option Ans :=
  (F_coder_Decoder_Get_aa3 fuel (x0) (x1) (x2) (x3) (x4) (x5) (x6) (x7) (x8) (x9) (x10)
    (fun (y2_0, y2_1, y2_2, y2_3, y2_4, y2_5, y2_6, y2_7, y2_8, y2_9, y2_10, y2_11) =>
      bif y2_1 != (0 : Int) then
       k0 (y2_1 == (0 : Int), (0 : Int), y2_1, y2_2, y2_3, y2_4, y2_5, y2_6, y2_7, y2_8, y2_9, y2_10, y2_11)
      else
       bif y2_0 == (1 : Int) then
        k0 (y2_1 == (0 : Int), (0 : Int), y2_1, y2_2, y2_3, y2_4, y2_5, y2_6, y2_7, y2_8, y2_9, y2_10, y2_11)
       else
        (L_number_get_aa3_0 fuel (x0, (0 : Int), y2_2, y2_3, y2_4, y2_5, y2_6, y2_7, y2_8, y2_9, y2_10, y2_11, Bool.false, (0 : Int))
          (fun (ret0_0, ret0_1, ret0_2, ret0_3, ret0_4, ret0_5, ret0_6, ret0_7, ret0_8, ret0_9, ret0_10, ret0_11, ret0_12) =>
            k0 (ret0_11, ret0_12, ret0_0, ret0_1, ret0_2, ret0_3, ret0_4, ret0_5, ret0_6, ret0_7, ret0_8, ret0_9, ret0_10))
          (fun (b0_0, b0_1, b0_2, b0_3, b0_4, b0_5, b0_6, b0_7, b0_8, b0_9, b0_10, b0_11, b0_12, b0_13) =>
            (L_number_get_aa3_2 fuel (b0_0, b0_1, (1 : Int), b0_1, (0 : Int), b0_2, b0_3, b0_4, b0_5, b0_6, b0_7, b0_8, b0_9, b0_10, b0_11, b0_12, b0_13, (44 : Int))
              (fun (ret2_0, ret2_1, ret2_2, ret2_3, ret2_4, ret2_5, ret2_6, ret2_7, ret2_8, ret2_9, ret2_10, ret2_11, ret2_12) =>
                k0 (ret2_11, ret2_12, ret2_0, ret2_1, ret2_2, ret2_3, ret2_4, ret2_5, ret2_6, ret2_7, ret2_8, ret2_9, ret2_10))
              (fun (b2_0, b2_1, b2_2, b2_3, b2_4, b2_5, b2_6, b2_7, b2_8, b2_9, b2_10, b2_11, b2_12, b2_13) =>
                bif Decidable.decide (b2_1 > (1048577 : Int)) then
                 k0 (Bool.false, (0 : Int), (3 : Int), b2_2, b2_3, b2_4, b2_5, b2_6, b2_7, b2_8, b2_9, b2_10, b2_11)
                else
                 bif b2_1 == (1 : Int) then
                  k0 (Bool.false, (0 : Int), (0 : Int), b2_2, b2_3, b2_4, b2_5, b2_6, b2_7, b2_8, b2_9, b2_10, b2_11)
                 else
                  (F_coder_Decoder_Get_aa3 fuel (Go.IntKind.i64.wrap (b2_0 + (22 : Int))) (b2_2) (b2_3) (b2_4) (b2_5) (b2_6) (b2_7) (b2_8) (b2_9) (b2_10) (b2_11)
                    (fun (y18_0, y18_1, y18_2, y18_3, y18_4, y18_5, y18_6, y18_7, y18_8, y18_9, y18_10, y18_11) =>
                      bif y18_1 != (0 : Int) then
                       k0 (Bool.false, (0 : Int), y18_1, y18_2, y18_3, y18_4, y18_5, y18_6, y18_7, y18_8, y18_9, y18_10, y18_11)
                      else
                       k0 (Bool.false, Go.IntKind.i64.wrap (Go.IntKind.i64.wrap (b2_1 - (1 : Int)) * Go.IntKind.i64.wrap ((1 : Int) - Go.IntKind.i64.wrap ((2 : Int) * y18_0))), (0 : Int), y18_2, y18_3, y18_4, y18_5, y18_6, y18_7, y18_8, y18_9, y18_10, y18_11)))))))))
abbrev YF173_aa3 : Type := (Int) → (Int) → (Int) → (Int) → (Int) → (Int) → (Int) → (Bool) → (Bool) → ((List Int)) → ((List Int)) → ((Bool × Int × Int × Int × Int × Int × Int × Int × Int × Bool × Bool × (List Int) × (List Int)) → Option Ans) → Option Ans
theorem F173_aa3_eqg (fuel : Nat) (f156_aa3 : YF156_aa3) (f172 : YF172) (x0 : Int) (x1 : Int) (x2 : Int) (x3 : Int) (x4 : Int) (x5 : Int) (x6 : Int) (x7 : Bool) (x8 : Bool) (x9 : (List Int)) (x10 : (List Int)) (k : Ev.Cont) : evalFn tab (Gg173_aa3 f156_aa3 f172) (J173_aa3 fuel) kp173_aa3 fuel Tryz.f173 [.c (.ptr 0 0), .c (.int .i64 x0)] [.cells 168 (.int .i64 x1 :: .own 1 :: .int .i64 2048 :: .int .i64 1792 :: .int .i64 1568 :: .int .i64 1372 :: .int .i64 1201 :: .int .i64 1051 :: .int .i64 920 :: .int .i64 805 :: .int .i64 705 :: .int .i64 617 :: .int .i64 540 :: .int .i64 473 :: .int .i64 414 :: .int .i64 363 :: .int .i64 318 :: .int .i64 279 :: .int .i64 245 :: .int .i64 215 :: .int .i64 189 :: .int .i64 166 :: .int .i64 146 :: .int .i64 128 :: .int .i64 112 :: .int .i64 98 :: .int .i64 86 :: .int .i64 76 :: .int .i64 67 :: .int .i64 59 :: .int .i64 52 :: .int .i64 46 :: .int .i64 41 :: .int .i64 36 :: .int .u64 x2 :: .int .u64 x3 :: .own 2 :: .int .i64 x4 :: .int .u64 x5 :: .int .i64 x6 :: .bool x7 :: .bool x8 :: []), .vec 3 (.int .i64) x9 false, .vec 5 (.int .u8) x10 false] k = (fun  (k0 : (Bool × Int × Int × Int × Int × Int × Int × Int × Int × Bool × Bool × (List Int) × (List Int)) → Option Ans) =>
  (f156_aa3 (x0) (x1) (x2) (x3) (x4) (x5) (x6) (x7) (x8) (x9) (x10)
    (fun (y2_0, y2_1, y2_2, y2_3, y2_4, y2_5, y2_6, y2_7, y2_8, y2_9, y2_10, y2_11) =>
      bif y2_1 != (0 : Int) then
       k0 (y2_1 == (0 : Int), (0 : Int), y2_1, y2_2, y2_3, y2_4, y2_5, y2_6, y2_7, y2_8, y2_9, y2_10, y2_11)
      else
       bif y2_0 == (1 : Int) then
        k0 (y2_1 == (0 : Int), (0 : Int), y2_1, y2_2, y2_3, y2_4, y2_5, y2_6, y2_7, y2_8, y2_9, y2_10, y2_11)
       else
        (L_number_get_aa3_0 fuel (x0, (0 : Int), y2_2, y2_3, y2_4, y2_5, y2_6, y2_7, y2_8, y2_9, y2_10, y2_11, Bool.false, (0 : Int))
          (fun (ret0_0, ret0_1, ret0_2, ret0_3, ret0_4, ret0_5, ret0_6, ret0_7, ret0_8, ret0_9, ret0_10, ret0_11, ret0_12) =>
            k0 (ret0_11, ret0_12, ret0_0, ret0_1, ret0_2, ret0_3, ret0_4, ret0_5, ret0_6, ret0_7, ret0_8, ret0_9, ret0_10))
          (fun (b0_0, b0_1, b0_2, b0_3, b0_4, b0_5, b0_6, b0_7, b0_8, b0_9, b0_10, b0_11, b0_12, b0_13) =>
            (L_number_get_aa3_2 fuel (b0_0, b0_1, (1 : Int), b0_1, (0 : Int), b0_2, b0_3, b0_4, b0_5, b0_6, b0_7, b0_8, b0_9, b0_10, b0_11, b0_12, b0_13, (44 : Int))
              (fun (ret2_0, ret2_1, ret2_2, ret2_3, ret2_4, ret2_5, ret2_6, ret2_7, ret2_8, ret2_9, ret2_10, ret2_11, ret2_12) =>
                k0 (ret2_11, ret2_12, ret2_0, ret2_1, ret2_2, ret2_3, ret2_4, ret2_5, ret2_6, ret2_7, ret2_8, ret2_9, ret2_10))
              (fun (b2_0, b2_1, b2_2, b2_3, b2_4, b2_5, b2_6, b2_7, b2_8, b2_9, b2_10, b2_11, b2_12, b2_13) =>
                bif Decidable.decide (b2_1 > (1048577 : Int)) then
                 k0 (Bool.false, (0 : Int), (3 : Int), b2_2, b2_3, b2_4, b2_5, b2_6, b2_7, b2_8, b2_9, b2_10, b2_11)
                else
                 bif b2_1 == (1 : Int) then
                  k0 (Bool.false, (0 : Int), (0 : Int), b2_2, b2_3, b2_4, b2_5, b2_6, b2_7, b2_8, b2_9, b2_10, b2_11)
                 else
                  (f156_aa3 (Go.IntKind.i64.wrap (b2_0 + (22 : Int))) (b2_2) (b2_3) (b2_4) (b2_5) (b2_6) (b2_7) (b2_8) (b2_9) (b2_10) (b2_11)
                    (fun (y18_0, y18_1, y18_2, y18_3, y18_4, y18_5, y18_6, y18_7, y18_8, y18_9, y18_10, y18_11) =>
                      bif y18_1 != (0 : Int) then
                       k0 (Bool.false, (0 : Int), y18_1, y18_2, y18_3, y18_4, y18_5, y18_6, y18_7, y18_8, y18_9, y18_10, y18_11)
                      else
                       k0 (Bool.false, Go.IntKind.i64.wrap (Go.IntKind.i64.wrap (b2_1 - (1 : Int)) * Go.IntKind.i64.wrap ((1 : Int) - Go.IntKind.i64.wrap ((2 : Int) * y18_0))), (0 : Int), y18_2, y18_3, y18_4, y18_5, y18_6, y18_7, y18_8, y18_9, y18_10, y18_11)))))))))) (fun r => match r with | (r0, r1, r2, r3, r4, r5, r6, r7, r8, r9, r10, r11, r12) => k (.tup [(true, [.bool r0, .int .i64 r1]), (false, [.int .i64 r2])], [.cells 168 (.int .i64 r3 :: .own 1 :: .int .i64 2048 :: .int .i64 1792 :: .int .i64 1568 :: .int .i64 1372 :: .int .i64 1201 :: .int .i64 1051 :: .int .i64 920 :: .int .i64 805 :: .int .i64 705 :: .int .i64 617 :: .int .i64 540 :: .int .i64 473 :: .int .i64 414 :: .int .i64 363 :: .int .i64 318 :: .int .i64 279 :: .int .i64 245 :: .int .i64 215 :: .int .i64 189 :: .int .i64 166 :: .int .i64 146 :: .int .i64 128 :: .int .i64 112 :: .int .i64 98 :: .int .i64 86 :: .int .i64 76 :: .int .i64 67 :: .int .i64 59 :: .int .i64 52 :: .int .i64 46 :: .int .i64 41 :: .int .i64 36 :: .int .u64 r4 :: .int .u64 r5 :: .own 2 :: .int .i64 r6 :: .int .u64 r7 :: .int .i64 r8 :: .bool r9 :: .bool r10 :: []), .vec 3 (.int .i64) r11 false, .vec 5 (.int .u8) r12 false])) := by
  kernel_rfl
theorem F173_aa3_eq (fuel : Nat) (x0 : Int) (x1 : Int) (x2 : Int) (x3 : Int) (x4 : Int) (x5 : Int) (x6 : Int) (x7 : Bool) (x8 : Bool) (x9 : (List Int)) (x10 : (List Int)) (k : Ev.Cont) : evalFn tab (G173_aa3 fuel) (J173_aa3 fuel) kp173_aa3 fuel Tryz.f173 [.c (.ptr 0 0), .c (.int .i64 x0)] [.cells 168 (.int .i64 x1 :: .own 1 :: .int .i64 2048 :: .int .i64 1792 :: .int .i64 1568 :: .int .i64 1372 :: .int .i64 1201 :: .int .i64 1051 :: .int .i64 920 :: .int .i64 805 :: .int .i64 705 :: .int .i64 617 :: .int .i64 540 :: .int .i64 473 :: .int .i64 414 :: .int .i64 363 :: .int .i64 318 :: .int .i64 279 :: .int .i64 245 :: .int .i64 215 :: .int .i64 189 :: .int .i64 166 :: .int .i64 146 :: .int .i64 128 :: .int .i64 112 :: .int .i64 98 :: .int .i64 86 :: .int .i64 76 :: .int .i64 67 :: .int .i64 59 :: .int .i64 52 :: .int .i64 46 :: .int .i64 41 :: .int .i64 36 :: .int .u64 x2 :: .int .u64 x3 :: .own 2 :: .int .i64 x4 :: .int .u64 x5 :: .int .i64 x6 :: .bool x7 :: .bool x8 :: []), .vec 3 (.int .i64) x9 false, .vec 5 (.int .u8) x10 false] k = F_number_get_aa3 fuel x0 x1 x2 x3 x4 x5 x6 x7 x8 x9 x10 (fun r => match r with | (r0, r1, r2, r3, r4, r5, r6, r7, r8, r9, r10, r11, r12) => k (.tup [(true, [.bool r0, .int .i64 r1]), (false, [.int .i64 r2])], [.cells 168 (.int .i64 r3 :: .own 1 :: .int .i64 2048 :: .int .i64 1792 :: .int .i64 1568 :: .int .i64 1372 :: .int .i64 1201 :: .int .i64 1051 :: .int .i64 920 :: .int .i64 805 :: .int .i64 705 :: .int .i64 617 :: .int .i64 540 :: .int .i64 473 :: .int .i64 414 :: .int .i64 363 :: .int .i64 318 :: .int .i64 279 :: .int .i64 245 :: .int .i64 215 :: .int .i64 189 :: .int .i64 166 :: .int .i64 146 :: .int .i64 128 :: .int .i64 112 :: .int .i64 98 :: .int .i64 86 :: .int .i64 76 :: .int .i64 67 :: .int .i64 59 :: .int .i64 52 :: .int .i64 46 :: .int .i64 41 :: .int .i64 36 :: .int .u64 r4 :: .int .u64 r5 :: .own 2 :: .int .i64 r6 :: .int .u64 r7 :: .int .i64 r8 :: .bool r9 :: .bool r10 :: []), .vec 3 (.int .i64) r11 false, .vec 5 (.int .u8) r12 false])) :=
  F173_aa3_eqg fuel (F_coder_Decoder_Get_aa3 fuel) (F_number_tail_take fuel) x0 x1 x2 x3 x4 x5 x6 x7 x8 x9 x10 k
theorem hG173_aa3 (fuel : Nat) : GOK Tryz.prog (G173_aa3 fuel) :=
  gok_cons ⟨ok156_aa3 fuel, enters_of Tryz.func156 (by kernel_rfl) rfl⟩ <|
  gok_cons ⟨ok172 fuel, enters_of Tryz.func172 (by kernel_rfl) rfl⟩ <|
  gok_nil
theorem B173_aa3_0_blk (fuel : Nat) : BlkOK Tryz.prog Tryz.f173.ntmps (.block 0 (.loop (bodyOf 0 Tryz.f173))) (B173_aa3_0 fuel) :=
  blk_of (blk_of_code tab_ok (hG173_aa3 fuel) mixed (J := J173_aa3_0 fuel) (kp := kp173_aa3) (fuel := fuel) (by kernel_rfl) (fun q hq => by
    rw [(by kernel_rfl : obl (J173_aa3_0 fuel) (.block 0 (.loop (bodyOf 0 Tryz.f173))) = [])] at hq
    cases hq)) (B173_aa3_0_ok fuel)
theorem B173_aa3_2_blk (fuel : Nat) : BlkOK Tryz.prog Tryz.f173.ntmps (.block 2 (.loop (bodyOf 2 Tryz.f173))) (B173_aa3_2 fuel) :=
  blk_of (blk_of_code tab_ok (hG173_aa3 fuel) mixed (J := J173_aa3_2 fuel) (kp := kp173_aa3) (fuel := fuel) (by kernel_rfl) (fun q hq => by
    rw [(by kernel_rfl : obl (J173_aa3_2 fuel) (.block 2 (.loop (bodyOf 2 Tryz.f173))) = [])] at hq
    cases hq)) (B173_aa3_2_ok fuel)
theorem fok173_aa3 (fuel : Nat) : FnOK Tryz.prog 173 (evalFn tab (G173_aa3 fuel) (J173_aa3 fuel) kp173_aa3 fuel Tryz.f173) :=
  fn_ok tab_ok (hG173_aa3 fuel) mixed Tryz.func173 (c := (Tryz.f173.body).getD .skip) rfl (fun q hq => by
    rw [(by kernel_rfl : obl (J173_aa3 fuel) ((Tryz.f173.body).getD .skip) = [(.block 0 (.loop (bodyOf 0 Tryz.f173)), B173_aa3_0 fuel), (.block 2 (.loop (bodyOf 2 Tryz.f173)), B173_aa3_2 fuel)])] at hq
    simp only [List.mem_cons, List.not_mem_nil, or_false] at hq
    rcases hq with rfl | rfl
    · exact B173_aa3_0_blk fuel
    · exact B173_aa3_2_blk fuel)
noncomputable def mt173_aa3 : List Ev.SV → List Ev.Ob → Bool := fun args objs => match args, objs with
  | [.c (.ptr q0 q1), .c (.int .i64 _)], [.cells q2 cs0, .vec q3 (.int .i64) _ false, .vec q4 (.int .u8) _ false] => (match splitRun 2 [(.i64, 2048), (.i64, 1792), (.i64, 1568), (.i64, 1372), (.i64, 1201), (.i64, 1051), (.i64, 920), (.i64, 805), (.i64, 705), (.i64, 617), (.i64, 540), (.i64, 473), (.i64, 414), (.i64, 363), (.i64, 318), (.i64, 279), (.i64, 245), (.i64, 215), (.i64, 189), (.i64, 166), (.i64, 146), (.i64, 128), (.i64, 112), (.i64, 98), (.i64, 86), (.i64, 76), (.i64, 67), (.i64, 59), (.i64, 52), (.i64, 46), (.i64, 41), (.i64, 36)] cs0 with | some ([.int .i64 _, .own q5], [.int .u64 _, .int .u64 _, .own q6, .int .i64 _, .int .u64 _, .int .i64 _, .bool _, .bool _]) => Nat.beq q0 0 && Nat.beq q1 0 && Nat.beq q2 168 && Nat.beq q3 3 && Nat.beq q4 5 && Nat.beq q5 1 && Nat.beq q6 2 | _ => false)
  | _, _ => false
noncomputable def spg173_aa3 (F : YF173_aa3) : Ev.Spec := fun args objs k => match args, objs with
  | [.c (.ptr q0 q1), .c (.int .i64 x0)], [.cells q2 cs0, .vec q3 (.int .i64) x9 false, .vec q4 (.int .u8) x10 false] => (match splitRun 2 [(.i64, 2048), (.i64, 1792), (.i64, 1568), (.i64, 1372), (.i64, 1201), (.i64, 1051), (.i64, 920), (.i64, 805), (.i64, 705), (.i64, 617), (.i64, 540), (.i64, 473), (.i64, 414), (.i64, 363), (.i64, 318), (.i64, 279), (.i64, 245), (.i64, 215), (.i64, 189), (.i64, 166), (.i64, 146), (.i64, 128), (.i64, 112), (.i64, 98), (.i64, 86), (.i64, 76), (.i64, 67), (.i64, 59), (.i64, 52), (.i64, 46), (.i64, 41), (.i64, 36)] cs0 with | some ([.int .i64 x1, .own q5], [.int .u64 x2, .int .u64 x3, .own q6, .int .i64 x4, .int .u64 x5, .int .i64 x6, .bool x7, .bool x8]) => bif Nat.beq q0 0 && Nat.beq q1 0 && Nat.beq q2 168 && Nat.beq q3 3 && Nat.beq q4 5 && Nat.beq q5 1 && Nat.beq q6 2 then F x0 x1 x2 x3 x4 x5 x6 x7 x8 x9 x10 (fun r => match r with | (r0, r1, r2, r3, r4, r5, r6, r7, r8, r9, r10, r11, r12) => k (.tup [(true, [.bool r0, .int .i64 r1]), (false, [.int .i64 r2])], [.cells 168 (.int .i64 r3 :: .own 1 :: .int .i64 2048 :: .int .i64 1792 :: .int .i64 1568 :: .int .i64 1372 :: .int .i64 1201 :: .int .i64 1051 :: .int .i64 920 :: .int .i64 805 :: .int .i64 705 :: .int .i64 617 :: .int .i64 540 :: .int .i64 473 :: .int .i64 414 :: .int .i64 363 :: .int .i64 318 :: .int .i64 279 :: .int .i64 245 :: .int .i64 215 :: .int .i64 189 :: .int .i64 166 :: .int .i64 146 :: .int .i64 128 :: .int .i64 112 :: .int .i64 98 :: .int .i64 86 :: .int .i64 76 :: .int .i64 67 :: .int .i64 59 :: .int .i64 52 :: .int .i64 46 :: .int .i64 41 :: .int .i64 36 :: .int .u64 r4 :: .int .u64 r5 :: .own 2 :: .int .i64 r6 :: .int .u64 r7 :: .int .i64 r8 :: .bool r9 :: .bool r10 :: []), .vec 3 (.int .i64) r11 false, .vec 5 (.int .u8) r12 false])) else none | _ => none)
  | _, _ => none
noncomputable def spec173_aa3 (fuel : Nat) : Ev.Spec := spg173_aa3 (F_number_get_aa3 fuel)
theorem ok173_aa3 (fuel : Nat) : FnOK Tryz.prog 173 (spec173_aa3 fuel) := by
  intro args objs kk r h
  unfold spec173_aa3 spg173_aa3 at h
  split at h
  · skip
    split at h
    rotate_left 1
    · cases h
    rename_i hsp
    have esp := splitRun_eq hsp
    subst esp
    obtain ⟨hb, h⟩ := cond_some' h
    simp only [Bool.and_eq_true, Nat.beq_eq, decide_eq_true_eq] at hb
    obtain ⟨⟨⟨⟨⟨⟨rfl, rfl⟩, rfl⟩, rfl⟩, rfl⟩, rfl⟩, rfl⟩ := hb
    exact fok173_aa3 fuel _ _ kk r ((F173_aa3_eq fuel _ _ _ _ _ _ _ _ _ _ _ kk).trans h)
  · cases h
end Go.Proofs.YtmjeeaemmbkioaaGreat

set_option linter.unusedVariables false
set_option linter.unusedSimpArgs false
set_option maxRecDepth 100000
set_option maxHeartbeats 2000000
namespace Go.Proofs.YtmjeeaemmbkioaaGreat
open Go Ev
def kp137_aa3 (i : Nat) : Option (List Nat) := Ev.look i []
noncomputable def Gg137_aa3 (f76_40a : YF76_40a) (f134 : YF134) (f156_aa3 : YF156_aa3) (f173_aa3 : YF173_aa3) (f : Nat) : Option Ev.Spec := Ev.look f [(76, spg76_40a f76_40a), (134, spg134 f134), (156, spg156_aa3 f156_aa3), (173, spg173_aa3 f173_aa3)]
noncomputable def G137_aa3 (fuel : Nat) : Nat → Option Ev.Spec := Gg137_aa3 (F_coder_Decoder_Model_40a fuel) (F_number_fits fuel) (F_coder_Decoder_Get_aa3 fuel) (F_number_get_aa3 fuel)
noncomputable def J137_aa3 (fuel : Nat) (i : Nat) : Option Ev.Blk := Ev.look i []
noncomputable def F_number_Get_aa3 (fuel : Nat) (x0 : Int) (x1 : Int) (x2 : Int) (x3 : Int) (x4 : Int) (x5 : Int) (x6 : Int) (x7 : Bool) (x8 : Bool) (x9 : (List Int)) (x10 : (List Int)) (k0 : (Bool × Int × Int × Int × Int × Int × Int × Int × Int × Bool × Bool × (List Int) × (List Int)) → Option Ans) : Option Ans :=
  (F_coder_Decoder_Get_aa3 fuel ((-1 : Int)) (x1) (x2) (x3) (x4) (x5) (x6) (x7) (x8) (x9) (x10)
    (fun (y2_0, y2_1, y2_2, y2_3, y2_4, y2_5, y2_6, y2_7, y2_8, y2_9, y2_10, y2_11) =>
      bif y2_1 == (7 : Int) then
       k0 (Bool.false, (0 : Int), y2_1, y2_2, y2_3, y2_4, y2_5, y2_6, y2_7, y2_8, y2_9, y2_10, y2_11)
      else
       (F_coder_Decoder_Model_40a fuel (y2_2) (y2_3) (y2_4) (y2_5) (y2_6) (y2_7) (y2_8) (y2_9) (y2_10) (y2_11)
         (fun (y7_0, y7_1, y7_2, y7_3, y7_4, y7_5, y7_6, y7_7, y7_8, y7_9, y7_10, y7_11) =>
           (F_number_fits fuel (y7_0) (y7_11) (x0) ((48 : Int))
             (fun y11 =>
               bif y11 != (0 : Int) then
                k0 (Bool.false, (0 : Int), y11, y7_1, y7_2, y7_3, y7_4, y7_5, y7_6, y7_7, y7_8, y7_9, y7_10)
               else
                (F_number_get_aa3 fuel (x0) (y7_1) (y7_2) (y7_3) (y7_4) (y7_5) (y7_6) (y7_7) (y7_8) (y7_9) (y7_10)
                  (fun (y16_0, y16_1, y16_2, y16_3, y16_4, y16_5, y16_6, y16_7, y16_8, y16_9, y16_10, y16_11, y16_12) =>
                    k0 (y16_0, y16_1, y16_2, y16_3, y16_4, y16_5, y16_6, y16_7, y16_8, y16_9, y16_10, y16_11, y16_12)))))))))
abbrev YF137_aa3 : Type := (Int) → (Int) → (Int) → (Int) → (Int) → (Int) → (Int) → (Bool) → (Bool) → ((List Int)) → ((List Int)) → ((Bool × Int × Int × Int × Int × Int × Int × Int × Int × Bool × Bool × (List Int) × (List Int)) → Option Ans) → Option Ans
theorem F137_aa3_eqg (fuel : Nat) (f76_40a : YF76_40a) (f134 : YF134) (f156_aa3 : YF156_aa3) (f173_aa3 : YF173_aa3) (x0 : Int) (x1 : Int) (x2 : Int) (x3 : Int) (x4 : Int) (x5 : Int) (x6 : Int) (x7 : Bool) (x8 : Bool) (x9 : (List Int)) (x10 : (List Int)) (k : Ev.Cont) : evalFn tab (Gg137_aa3 f76_40a f134 f156_aa3 f173_aa3) (J137_aa3 fuel) kp137_aa3 fuel Tryz.f137 [.c (.ptr 0 0), .c (.int .i64 x0)] [.cells 168 (.int .i64 x1 :: .own 1 :: .int .i64 2048 :: .int .i64 1792 :: .int .i64 1568 :: .int .i64 1372 :: .int .i64 1201 :: .int .i64 1051 :: .int .i64 920 :: .int .i64 805 :: .int .i64 705 :: .int .i64 617 :: .int .i64 540 :: .int .i64 473 :: .int .i64 414 :: .int .i64 363 :: .int .i64 318 :: .int .i64 279 :: .int .i64 245 :: .int .i64 215 :: .int .i64 189 :: .int .i64 166 :: .int .i64 146 :: .int .i64 128 :: .int .i64 112 :: .int .i64 98 :: .int .i64 86 :: .int .i64 76 :: .int .i64 67 :: .int .i64 59 :: .int .i64 52 :: .int .i64 46 :: .int .i64 41 :: .int .i64 36 :: .int .u64 x2 :: .int .u64 x3 :: .own 2 :: .int .i64 x4 :: .int .u64 x5 :: .int .i64 x6 :: .bool x7 :: .bool x8 :: []), .vec 3 (.int .i64) x9 false, .vec 5 (.int .u8) x10 false] k = (fun  (k0 : (Bool × Int × Int × Int × Int × Int × Int × Int × Int × Bool × Bool × (List Int) × (List Int)) → Option Ans) =>
  (f156_aa3 ((-1 : Int)) (x1) (x2) (x3) (x4) (x5) (x6) (x7) (x8) (x9) (x10)
    (fun (y2_0, y2_1, y2_2, y2_3, y2_4, y2_5, y2_6, y2_7, y2_8, y2_9, y2_10, y2_11) =>
      bif y2_1 == (7 : Int) then
       k0 (Bool.false, (0 : Int), y2_1, y2_2, y2_3, y2_4, y2_5, y2_6, y2_7, y2_8, y2_9, y2_10, y2_11)
      else
       (f76_40a (y2_2) (y2_3) (y2_4) (y2_5) (y2_6) (y2_7) (y2_8) (y2_9) (y2_10) (y2_11)
         (fun (y7_0, y7_1, y7_2, y7_3, y7_4, y7_5, y7_6, y7_7, y7_8, y7_9, y7_10, y7_11) =>
           (f134 (y7_0) (y7_11) (x0) ((48 : Int))
             (fun y11 =>
               bif y11 != (0 : Int) then
                k0 (Bool.false, (0 : Int), y11, y7_1, y7_2, y7_3, y7_4, y7_5, y7_6, y7_7, y7_8, y7_9, y7_10)
               else
                (f173_aa3 (x0) (y7_1) (y7_2) (y7_3) (y7_4) (y7_5) (y7_6) (y7_7) (y7_8) (y7_9) (y7_10)
                  (fun (y16_0, y16_1, y16_2, y16_3, y16_4, y16_5, y16_6, y16_7, y16_8, y16_9, y16_10, y16_11, y16_12) =>
                    k0 (y16_0, y16_1, y16_2, y16_3, y16_4, y16_5, y16_6, y16_7, y16_8, y16_9, y16_10, y16_11, y16_12)))))))))) (fun r => match r with | (r0, r1, r2, r3, r4, r5, r6, r7, r8, r9, r10, r11, r12) => k (.tup [(true, [.bool r0, .int .i64 r1]), (false, [.int .i64 r2])], [.cells 168 (.int .i64 r3 :: .own 1 :: .int .i64 2048 :: .int .i64 1792 :: .int .i64 1568 :: .int .i64 1372 :: .int .i64 1201 :: .int .i64 1051 :: .int .i64 920 :: .int .i64 805 :: .int .i64 705 :: .int .i64 617 :: .int .i64 540 :: .int .i64 473 :: .int .i64 414 :: .int .i64 363 :: .int .i64 318 :: .int .i64 279 :: .int .i64 245 :: .int .i64 215 :: .int .i64 189 :: .int .i64 166 :: .int .i64 146 :: .int .i64 128 :: .int .i64 112 :: .int .i64 98 :: .int .i64 86 :: .int .i64 76 :: .int .i64 67 :: .int .i64 59 :: .int .i64 52 :: .int .i64 46 :: .int .i64 41 :: .int .i64 36 :: .int .u64 r4 :: .int .u64 r5 :: .own 2 :: .int .i64 r6 :: .int .u64 r7 :: .int .i64 r8 :: .bool r9 :: .bool r10 :: []), .vec 3 (.int .i64) r11 false, .vec 5 (.int .u8) r12 false])) := by
  kernel_rfl
theorem F137_aa3_eq (fuel : Nat) (x0 : Int) (x1 : Int) (x2 : Int) (x3 : Int) (x4 : Int) (x5 : Int) (x6 : Int) (x7 : Bool) (x8 : Bool) (x9 : (List Int)) (x10 : (List Int)) (k : Ev.Cont) : evalFn tab (G137_aa3 fuel) (J137_aa3 fuel) kp137_aa3 fuel Tryz.f137 [.c (.ptr 0 0), .c (.int .i64 x0)] [.cells 168 (.int .i64 x1 :: .own 1 :: .int .i64 2048 :: .int .i64 1792 :: .int .i64 1568 :: .int .i64 1372 :: .int .i64 1201 :: .int .i64 1051 :: .int .i64 920 :: .int .i64 805 :: .int .i64 705 :: .int .i64 617 :: .int .i64 540 :: .int .i64 473 :: .int .i64 414 :: .int .i64 363 :: .int .i64 318 :: .int .i64 279 :: .int .i64 245 :: .int .i64 215 :: .int .i64 189 :: .int .i64 166 :: .int .i64 146 :: .int .i64 128 :: .int .i64 112 :: .int .i64 98 :: .int .i64 86 :: .int .i64 76 :: .int .i64 67 :: .int .i64 59 :: .int .i64 52 :: .int .i64 46 :: .int .i64 41 :: .int .i64 36 :: .int .u64 x2 :: .int .u64 x3 :: .own 2 :: .int .i64 x4 :: .int .u64 x5 :: .int .i64 x6 :: .bool x7 :: .bool x8 :: []), .vec 3 (.int .i64) x9 false, .vec 5 (.int .u8) x10 false] k = F_number_Get_aa3 fuel x0 x1 x2 x3 x4 x5 x6 x7 x8 x9 x10 (fun r => match r with | (r0, r1, r2, r3, r4, r5, r6, r7, r8, r9, r10, r11, r12) => k (.tup [(true, [.bool r0, .int .i64 r1]), (false, [.int .i64 r2])], [.cells 168 (.int .i64 r3 :: .own 1 :: .int .i64 2048 :: .int .i64 1792 :: .int .i64 1568 :: .int .i64 1372 :: .int .i64 1201 :: .int .i64 1051 :: .int .i64 920 :: .int .i64 805 :: .int .i64 705 :: .int .i64 617 :: .int .i64 540 :: .int .i64 473 :: .int .i64 414 :: .int .i64 363 :: .int .i64 318 :: .int .i64 279 :: .int .i64 245 :: .int .i64 215 :: .int .i64 189 :: .int .i64 166 :: .int .i64 146 :: .int .i64 128 :: .int .i64 112 :: .int .i64 98 :: .int .i64 86 :: .int .i64 76 :: .int .i64 67 :: .int .i64 59 :: .int .i64 52 :: .int .i64 46 :: .int .i64 41 :: .int .i64 36 :: .int .u64 r4 :: .int .u64 r5 :: .own 2 :: .int .i64 r6 :: .int .u64 r7 :: .int .i64 r8 :: .bool r9 :: .bool r10 :: []), .vec 3 (.int .i64) r11 false, .vec 5 (.int .u8) r12 false])) :=
  F137_aa3_eqg fuel (F_coder_Decoder_Model_40a fuel) (F_number_fits fuel) (F_coder_Decoder_Get_aa3 fuel) (F_number_get_aa3 fuel) x0 x1 x2 x3 x4 x5 x6 x7 x8 x9 x10 k
theorem hG137_aa3 (fuel : Nat) : GOK Tryz.prog (G137_aa3 fuel) :=
  gok_cons ⟨ok76_40a fuel, enters_of Tryz.func76 (by kernel_rfl) rfl⟩ <|
  gok_cons ⟨ok134 fuel, enters_of Tryz.func134 (by kernel_rfl) rfl⟩ <|
  gok_cons ⟨ok156_aa3 fuel, enters_of Tryz.func156 (by kernel_rfl) rfl⟩ <|
  gok_cons ⟨ok173_aa3 fuel, enters_of Tryz.func173 (by kernel_rfl) rfl⟩ <|
  gok_nil
theorem fok137_aa3 (fuel : Nat) : FnOK Tryz.prog 137 (evalFn tab (G137_aa3 fuel) (J137_aa3 fuel) kp137_aa3 fuel Tryz.f137) :=
  fn_ok tab_ok (hG137_aa3 fuel) mixed Tryz.func137 (c := (Tryz.f137.body).getD .skip) rfl (fun q hq => by
    rw [(by kernel_rfl : obl (J137_aa3 fuel) ((Tryz.f137.body).getD .skip) = [])] at hq
    cases hq)
noncomputable def mt137_aa3 : List Ev.SV → List Ev.Ob → Bool := fun args objs => match args, objs with
  | [.c (.ptr q0 q1), .c (.int .i64 _)], [.cells q2 cs0, .vec q3 (.int .i64) _ false, .vec q4 (.int .u8) _ false] => (match splitRun 2 [(.i64, 2048), (.i64, 1792), (.i64, 1568), (.i64, 1372), (.i64, 1201), (.i64, 1051), (.i64, 920), (.i64, 805), (.i64, 705), (.i64, 617), (.i64, 540), (.i64, 473), (.i64, 414), (.i64, 363), (.i64, 318), (.i64, 279), (.i64, 245), (.i64, 215), (.i64, 189), (.i64, 166), (.i64, 146), (.i64, 128), (.i64, 112), (.i64, 98), (.i64, 86), (.i64, 76), (.i64, 67), (.i64, 59), (.i64, 52), (.i64, 46), (.i64, 41), (.i64, 36)] cs0 with | some ([.int .i64 _, .own q5], [.int .u64 _, .int .u64 _, .own q6, .int .i64 _, .int .u64 _, .int .i64 _, .bool _, .bool _]) => Nat.beq q0 0 && Nat.beq q1 0 && Nat.beq q2 168 && Nat.beq q3 3 && Nat.beq q4 5 && Nat.beq q5 1 && Nat.beq q6 2 | _ => false)
  | _, _ => false
noncomputable def spg137_aa3 (F : YF137_aa3) : Ev.Spec := fun args objs k => match args, objs with
  | [.c (.ptr q0 q1), .c (.int .i64 x0)], [.cells q2 cs0, .vec q3 (.int .i64) x9 false, .vec q4 (.int .u8) x10 false] => (match splitRun 2 [(.i64, 2048), (.i64, 1792), (.i64, 1568), (.i64, 1372), (.i64, 1201), (.i64, 1051), (.i64, 920), (.i64, 805), (.i64, 705), (.i64, 617), (.i64, 540), (.i64, 473), (.i64, 414), (.i64, 363), (.i64, 318), (.i64, 279), (.i64, 245), (.i64, 215), (.i64, 189), (.i64, 166), (.i64, 146), (.i64, 128), (.i64, 112), (.i64, 98), (.i64, 86), (.i64, 76), (.i64, 67), (.i64, 59), (.i64, 52), (.i64, 46), (.i64, 41), (.i64, 36)] cs0 with | some ([.int .i64 x1, .own q5], [.int .u64 x2, .int .u64 x3, .own q6, .int .i64 x4, .int .u64 x5, .int .i64 x6, .bool x7, .bool x8]) => bif Nat.beq q0 0 && Nat.beq q1 0 && Nat.beq q2 168 && Nat.beq q3 3 && Nat.beq q4 5 && Nat.beq q5 1 && Nat.beq q6 2 then F x0 x1 x2 x3 x4 x5 x6 x7 x8 x9 x10 (fun r => match r with | (r0, r1, r2, r3, r4, r5, r6, r7, r8, r9, r10, r11, r12) => k (.tup [(true, [.bool r0, .int .i64 r1]), (false, [.int .i64 r2])], [.cells 168 (.int .i64 r3 :: .own 1 :: .int .i64 2048 :: .int .i64 1792 :: .int .i64 1568 :: .int .i64 1372 :: .int .i64 1201 :: .int .i64 1051 :: .int .i64 920 :: .int .i64 805 :: .int .i64 705 :: .int .i64 617 :: .int .i64 540 :: .int .i64 473 :: .int .i64 414 :: .int .i64 363 :: .int .i64 318 :: .int .i64 279 :: .int .i64 245 :: .int .i64 215 :: .int .i64 189 :: .int .i64 166 :: .int .i64 146 :: .int .i64 128 :: .int .i64 112 :: .int .i64 98 :: .int .i64 86 :: .int .i64 76 :: .int .i64 67 :: .int .i64 59 :: .int .i64 52 :: .int .i64 46 :: .int .i64 41 :: .int .i64 36 :: .int .u64 r4 :: .int .u64 r5 :: .own 2 :: .int .i64 r6 :: .int .u64 r7 :: .int .i64 r8 :: .bool r9 :: .bool r10 :: []), .vec 3 (.int .i64) r11 false, .vec 5 (.int .u8) r12 false])) else none | _ => none)
  | _, _ => none
noncomputable def spec137_aa3 (fuel : Nat) : Ev.Spec := spg137_aa3 (F_number_Get_aa3 fuel)
theorem ok137_aa3 (fuel : Nat) : FnOK Tryz.prog 137 (spec137_aa3 fuel) := by
  intro args objs kk r h
  unfold spec137_aa3 spg137_aa3 at h
  split at h
  · skip
    split at h
    rotate_left 1
    · cases h
    rename_i hsp
    have esp := splitRun_eq hsp
    subst esp
    obtain ⟨hb, h⟩ := cond_some' h
    simp only [Bool.and_eq_true, Nat.beq_eq, decide_eq_true_eq] at hb
    obtain ⟨⟨⟨⟨⟨⟨rfl, rfl⟩, rfl⟩, rfl⟩, rfl⟩, rfl⟩, rfl⟩ := hb
    exact fok137_aa3 fuel _ _ kk r ((F137_aa3_eq fuel _ _ _ _ _ _ _ _ _ _ _ kk).trans h)
  · cases h
end Go.Proofs.YtmjeeaemmbkioaaGreat

set_option linter.unusedVariables false
set_option linter.unusedSimpArgs false
set_option maxRecDepth 100000
set_option maxHeartbeats 2000000
namespace Go.Proofs.YtmjeeaemmbkioaaGreat
open Go Ev
def kp158_452 (i : Nat) : Option (List Nat) := Ev.look i [(11, [0, 1, 2, 11, 38, 39]), (100000, [2, 11]), (400000, [6, 7])]
noncomputable def Gg158_452 (f76_40a : YF76_40a) (f134 : YF134) (f156_aa3 : YF156_aa3) (f : Nat) : Option Ev.Spec := Ev.look f [(76, spg76_40a f76_40a), (134, spg134 f134), (156, spg156_aa3 f156_aa3)]
noncomputable def G158_452 (fuel : Nat) : Nat → Option Ev.Spec := Gg158_452 (F_coder_Decoder_Model_40a fuel) (F_number_fits fuel) (F_coder_Decoder_Get_aa3 fuel)
noncomputable def S_number_GetId_452_0 (fuel : Nat) (v : Int × Int × Int × Int × Int × Int × Int × Int × Int × Int × Int × Bool × Bool × (List Int) × (List Int)) (c : (Int × Int × Int × Int × Int × Int × Int × Int × Int × Int × Int × Bool × Bool × (List Int) × (List Int)) → Option Ans) (B : (Int × Int × Int × Int × Int × Int × Int × Int × Bool × Bool × (List Int) × (List Int) → Option Ans) × (Int × Int × Int × Int × Int × Int × Int × Int × Bool × Bool × (List Int) × (List Int) → Option Ans)) : Option Ans := match v, B with
  | (x0, x1, x2, x3, x4, x5, x6, x7, x8, x9, x10, x11, x12, x13, x14), (ret, b) =>
   bif Decidable.decide (x4 < x3) then
      (F_coder_Decoder_Get_aa3 fuel (Go.IntKind.i64.wrap (Go.IntKind.i64.wrap (x0 + x2) - (1 : Int))) (x5) (x6) (x7) (x8) (x9) (x10) (x11) (x12) (x13) (x14)
        (fun (y3_0, y3_1, y3_2, y3_3, y3_4, y3_5, y3_6, y3_7, y3_8, y3_9, y3_10, y3_11) =>
          bif y3_1 != (0 : Int) then
           ret ((0 : Int), y3_1, y3_2, y3_3, y3_4, y3_5, y3_6, y3_7, y3_8, y3_9, y3_10, y3_11)
          else
           c (x0, x1, Go.IntKind.i64.wrap (Go.IntKind.i64.wrap ((2 : Int) * x2) + y3_0), x3, Go.IntKind.i64.wrap (x4 + (1 : Int)), y3_2, y3_3, y3_4, y3_5, y3_6, y3_7, y3_8, y3_9, y3_10, y3_11)))
     else
      b (x1, x2, x5, x6, x7, x8, x9, x10, x11, x12, x13, x14)
noncomputable def L_number_GetId_452_0 (fuel : Nat) (v : Int × Int × Int × Int × Int × Int × Int × Int × Int × Int × Int × Bool × Bool × (List Int) × (List Int)) (ret : (Int × Int × Int × Int × Int × Int × Int × Int × Bool × Bool × (List Int) × (List Int) → Option Ans)) (b : (Int × Int × Int × Int × Int × Int × Int × Int × Bool × Bool × (List Int) × (List Int) → Option Ans)) : Option Ans := iter (S_number_GetId_452_0 fuel) fuel v (ret, b)
noncomputable def J158_452_0 (fuel : Nat) (i : Nat) : Option Ev.Blk := Ev.look i []
noncomputable def T158_452_0 (v : Int × Int × Int × Int × Int × Int × Int × Int × Int × Int × Int × Bool × Bool × (List Int) × (List Int)) : Ev.St := match v with | (x0, x1, x2, x3, x4, x5, x6, x7, x8, x9, x10, x11, x12, x13, x14) => ⟨[(0, .c (.ptr 0 0)), (1, .c (.int .i64 x0)), (2, .c (.int .i64 x1)), (11, .c (.int .i64 x2)), (38, .c (.int .i64 x3)), (39, .c (.int .i64 x4))], [(0, .cells 168 (.int .i64 x5 :: .own 1 :: .int .i64 2048 :: .int .i64 1792 :: .int .i64 1568 :: .int .i64 1372 :: .int .i64 1201 :: .int .i64 1051 :: .int .i64 920 :: .int .i64 805 :: .int .i64 705 :: .int .i64 617 :: .int .i64 540 :: .int .i64 473 :: .int .i64 414 :: .int .i64 363 :: .int .i64 318 :: .int .i64 279 :: .int .i64 245 :: .int .i64 215 :: .int .i64 189 :: .int .i64 166 :: .int .i64 146 :: .int .i64 128 :: .int .i64 112 :: .int .i64 98 :: .int .i64 86 :: .int .i64 76 :: .int .i64 67 :: .int .i64 59 :: .int .i64 52 :: .int .i64 46 :: .int .i64 41 :: .int .i64 36 :: .int .u64 x6 :: .int .u64 x7 :: .own 2 :: .int .i64 x8 :: .int .u64 x9 :: .int .i64 x10 :: .bool x11 :: .bool x12 :: [])), (1, .vec 3 (.int .i64) x13 false), (2, .vec 5 (.int .u8) x14 false)], 3, 3⟩
noncomputable def E158_452_0 (K : Ev.Ex → Ev.St → Option Ans) : (Int × Int × Int × Int × Int × Int × Int × Int × Bool × Bool × (List Int) × (List Int) → Option Ans) × (Int × Int × Int × Int × Int × Int × Int × Int × Bool × Bool × (List Int) × (List Int) → Option Ans) := ((fun v => match v with | (x0, x1, x2, x3, x4, x5, x6, x7, x8, x9, x10, x11) => K .ret ⟨[(6, .c (.int .i64 x0)), (7, .c (.int .i64 x1))], [(0, .cells 168 (.int .i64 x2 :: .own 1 :: .int .i64 2048 :: .int .i64 1792 :: .int .i64 1568 :: .int .i64 1372 :: .int .i64 1201 :: .int .i64 1051 :: .int .i64 920 :: .int .i64 805 :: .int .i64 705 :: .int .i64 617 :: .int .i64 540 :: .int .i64 473 :: .int .i64 414 :: .int .i64 363 :: .int .i64 318 :: .int .i64 279 :: .int .i64 245 :: .int .i64 215 :: .int .i64 189 :: .int .i64 166 :: .int .i64 146 :: .int .i64 128 :: .int .i64 112 :: .int .i64 98 :: .int .i64 86 :: .int .i64 76 :: .int .i64 67 :: .int .i64 59 :: .int .i64 52 :: .int .i64 46 :: .int .i64 41 :: .int .i64 36 :: .int .u64 x3 :: .int .u64 x4 :: .own 2 :: .int .i64 x5 :: .int .u64 x6 :: .int .i64 x7 :: .bool x8 :: .bool x9 :: [])), (1, .vec 3 (.int .i64) x10 false), (2, .vec 5 (.int .u8) x11 false)], 3, 3⟩), (fun v => match v with | (x0, x1, x2, x3, x4, x5, x6, x7, x8, x9, x10, x11) => K .normal ⟨[(2, .c (.int .i64 x0)), (11, .c (.int .i64 x1))], [(0, .cells 168 (.int .i64 x2 :: .own 1 :: .int .i64 2048 :: .int .i64 1792 :: .int .i64 1568 :: .int .i64 1372 :: .int .i64 1201 :: .int .i64 1051 :: .int .i64 920 :: .int .i64 805 :: .int .i64 705 :: .int .i64 617 :: .int .i64 540 :: .int .i64 473 :: .int .i64 414 :: .int .i64 363 :: .int .i64 318 :: .int .i64 279 :: .int .i64 245 :: .int .i64 215 :: .int .i64 189 :: .int .i64 166 :: .int .i64 146 :: .int .i64 128 :: .int .i64 112 :: .int .i64 98 :: .int .i64 86 :: .int .i64 76 :: .int .i64 67 :: .int .i64 59 :: .int .i64 52 :: .int .i64 46 :: .int .i64 41 :: .int .i64 36 :: .int .u64 x3 :: .int .u64 x4 :: .own 2 :: .int .i64 x5 :: .int .u64 x6 :: .int .i64 x7 :: .bool x8 :: .bool x9 :: [])), (1, .vec 3 (.int .i64) x10 false), (2, .vec 5 (.int .u8) x11 false)], 3, 3⟩))
theorem S158_452_0_okg (fuel : Nat) (f76_40a : YF76_40a) (f134 : YF134) (f156_aa3 : YF156_aa3) (R : Ev.St → Option Ans) (K : Ev.Ex → Ev.St → Option Ans) (x0 : Int) (x1 : Int) (x2 : Int) (x3 : Int) (x4 : Int) (x5 : Int) (x6 : Int) (x7 : Int) (x8 : Int) (x9 : Int) (x10 : Int) (x11 : Bool) (x12 : Bool) (x13 : (List Int)) (x14 : (List Int)) : evalCode tab (Gg158_452 f76_40a f134 f156_aa3) (J158_452_0 fuel) kp158_452 fuel (bodyOf 0 Tryz.f158) (T158_452_0 (x0, x1, x2, x3, x4, x5, x6, x7, x8, x9, x10, x11, x12, x13, x14)) (lc kp158_452 11 0 R K) = (fun (c : (Int × Int × Int × Int × Int × Int × Int × Int × Int × Int × Int × Bool × Bool × (List Int) × (List Int)) → Option Ans) (B : (Int × Int × Int × Int × Int × Int × Int × Int × Bool × Bool × (List Int) × (List Int) → Option Ans) × (Int × Int × Int × Int × Int × Int × Int × Int × Bool × Bool × (List Int) × (List Int) → Option Ans)) => match B with
  | (ret, b) =>
   bif Decidable.decide (x4 < x3) then
      (f156_aa3 (Go.IntKind.i64.wrap (Go.IntKind.i64.wrap (x0 + x2) - (1 : Int))) (x5) (x6) (x7) (x8) (x9) (x10) (x11) (x12) (x13) (x14)
        (fun (y3_0, y3_1, y3_2, y3_3, y3_4, y3_5, y3_6, y3_7, y3_8, y3_9, y3_10, y3_11) =>
          bif y3_1 != (0 : Int) then
           ret ((0 : Int), y3_1, y3_2, y3_3, y3_4, y3_5, y3_6, y3_7, y3_8, y3_9, y3_10, y3_11)
          else
           c (x0, x1, Go.IntKind.i64.wrap (Go.IntKind.i64.wrap ((2 : Int) * x2) + y3_0), x3, Go.IntKind.i64.wrap (x4 + (1 : Int)), y3_2, y3_3, y3_4, y3_5, y3_6, y3_7, y3_8, y3_9, y3_10, y3_11)))
     else
      b (x1, x2, x5, x6, x7, x8, x9, x10, x11, x12, x13, x14)) (fun v => R (T158_452_0 v)) (E158_452_0 K) := by
  kernel_rfl
theorem S158_452_0_ok (fuel : Nat) (R : Ev.St → Option Ans) (K : Ev.Ex → Ev.St → Option Ans) (x0 : Int) (x1 : Int) (x2 : Int) (x3 : Int) (x4 : Int) (x5 : Int) (x6 : Int) (x7 : Int) (x8 : Int) (x9 : Int) (x10 : Int) (x11 : Bool) (x12 : Bool) (x13 : (List Int)) (x14 : (List Int)) : evalCode tab (G158_452 fuel) (J158_452_0 fuel) kp158_452 fuel (bodyOf 0 Tryz.f158) (T158_452_0 (x0, x1, x2, x3, x4, x5, x6, x7, x8, x9, x10, x11, x12, x13, x14)) (lc kp158_452 11 0 R K) = S_number_GetId_452_0 fuel (x0, x1, x2, x3, x4, x5, x6, x7, x8, x9, x10, x11, x12, x13, x14) (fun v => R (T158_452_0 v)) (E158_452_0 K) :=
  S158_452_0_okg fuel (F_coder_Decoder_Model_40a fuel) (F_number_fits fuel) (F_coder_Decoder_Get_aa3 fuel) R K x0 x1 x2 x3 x4 x5 x6 x7 x8 x9 x10 x11 x12 x13 x14
noncomputable def B158_452_0 (fuel : Nat) : Ev.Blk := fun st K => match canonO (kp158_452 11) st with
  | some s => (match s with
    | ⟨[(q0, .c (.ptr q1 q2)), (q3, .c (.int .i64 x0)), (q4, .c (.int .i64 x1)), (q5, .c (.int .i64 x2)), (q6, .c (.int .i64 x3)), (q7, .c (.int .i64 x4))], [(q8, .cells q9 cs0), (q10, .vec q11 (.int .i64) x13 false), (q12, .vec q13 (.int .u8) x14 false)], q14, q15⟩ => (match splitRun 2 [(.i64, 2048), (.i64, 1792), (.i64, 1568), (.i64, 1372), (.i64, 1201), (.i64, 1051), (.i64, 920), (.i64, 805), (.i64, 705), (.i64, 617), (.i64, 540), (.i64, 473), (.i64, 414), (.i64, 363), (.i64, 318), (.i64, 279), (.i64, 245), (.i64, 215), (.i64, 189), (.i64, 166), (.i64, 146), (.i64, 128), (.i64, 112), (.i64, 98), (.i64, 86), (.i64, 76), (.i64, 67), (.i64, 59), (.i64, 52), (.i64, 46), (.i64, 41), (.i64, 36)] cs0 with | some ([.int .i64 x5, .own q16], [.int .u64 x6, .int .u64 x7, .own q17, .int .i64 x8, .int .u64 x9, .int .i64 x10, .bool x11, .bool x12]) => bif Nat.beq q0 0 && Nat.beq q1 0 && Nat.beq q2 0 && Nat.beq q3 1 && Nat.beq q4 2 && Nat.beq q5 11 && Nat.beq q6 38 && Nat.beq q7 39 && Nat.beq q8 0 && Nat.beq q9 168 && Nat.beq q10 1 && Nat.beq q11 3 && Nat.beq q12 2 && Nat.beq q13 5 && Nat.beq q14 3 && Nat.beq q15 3 && Nat.beq q16 1 && Nat.beq q17 2 then iter (S_number_GetId_452_0 fuel) fuel (x0, x1, x2, x3, x4, x5, x6, x7, x8, x9, x10, x11, x12, x13, x14) (E158_452_0 K) else none | _ => none)
    | _ => none)
  | none => none
theorem B158_452_0_ok (fuel : Nat) (st : Ev.St) (K : Ev.Ex → Ev.St → Option Ans) (r : Ans) (h : B158_452_0 fuel st K = some r) : evalCode tab (G158_452 fuel) (J158_452_0 fuel) kp158_452 fuel (.block 0 (.loop (bodyOf 0 Tryz.f158))) st K = some r := by
  unfold B158_452_0 at h
  split at h
  · rename_i s hs
    split at h
    · skip
      split at h
      rotate_left 1
      · cases h
      rename_i hsp
      have esp := splitRun_eq hsp
      subst esp
      obtain ⟨hb, h⟩ := cond_some' h
      simp only [Bool.and_eq_true, Nat.beq_eq, decide_eq_true_eq] at hb
      obtain ⟨⟨⟨⟨⟨⟨⟨⟨⟨⟨⟨⟨⟨⟨⟨⟨⟨rfl, rfl⟩, rfl⟩, rfl⟩, rfl⟩, rfl⟩, rfl⟩, rfl⟩, rfl⟩, rfl⟩, rfl⟩, rfl⟩, rfl⟩, rfl⟩, rfl⟩, rfl⟩, rfl⟩, rfl⟩ := hb
      exact blk_loop (S := T158_452_0) (ks := E158_452_0) (step := S_number_GetId_452_0 fuel) (v := (_, _, _, _, _, _, _, _, _, _, _, _, _, _, _)) (by kernel_rfl) (by kernel_rfl) (fun R K v => by obtain ⟨x0, x1, x2, x3, x4, x5, x6, x7, x8, x9, x10, x11, x12, x13, x14⟩ := v; exact S158_452_0_ok fuel R K x0 x1 x2 x3 x4 x5 x6 x7 x8 x9 x10 x11 x12 x13 x14) hs h
    · cases h
  · cases h
noncomputable def J158_452 (fuel : Nat) (i : Nat) : Option Ev.Blk := Ev.look i [(100000, B158_452_0 fuel)]
noncomputable def F_number_GetId_452 (fuel : Nat) (x0 : Int) (x1 : Int) (x2 : Int) (x3 : Int) (x4 : Int) (x5 : Int) (x6 : Int) (x7 : Int) (x8 : Bool) (x9 : Bool) (x10 : (List Int)) (x11 : (List Int)) (k0 : (Int × Int × Int × Int × Int × Int × Int × Int × Bool × Bool × (List Int) × (List Int)) → Option Ans) : Option Ans :=
  (F_coder_Decoder_Get_aa3 fuel ((-1 : Int)) (x2) (x3) (x4) (x5) (x6) (x7) (x8) (x9) (x10) (x11)
    (fun (y2_0, y2_1, y2_2, y2_3, y2_4, y2_5, y2_6, y2_7, y2_8, y2_9, y2_10, y2_11) =>
      bif y2_1 == (7 : Int) then
       k0 ((0 : Int), y2_1, y2_2, y2_3, y2_4, y2_5, y2_6, y2_7, y2_8, y2_9, y2_10, y2_11)
      else
       bif Decidable.decide (x1 < (0 : Int)) then
        k0 ((0 : Int), (2 : Int), y2_2, y2_3, y2_4, y2_5, y2_6, y2_7, y2_8, y2_9, y2_10, y2_11)
       else
        bif Decidable.decide (x1 > (10 : Int)) then
         k0 ((0 : Int), (2 : Int), y2_2, y2_3, y2_4, y2_5, y2_6, y2_7, y2_8, y2_9, y2_10, y2_11)
        else
         bif Decidable.decide (x1 < (0 : Int)) then
          none
         else
          (F_coder_Decoder_Model_40a fuel (y2_2) (y2_3) (y2_4) (y2_5) (y2_6) (y2_7) (y2_8) (y2_9) (y2_10) (y2_11)
            (fun (y10_0, y10_1, y10_2, y10_3, y10_4, y10_5, y10_6, y10_7, y10_8, y10_9, y10_10, y10_11) =>
              (F_number_fits fuel (y10_0) (y10_11) (x0) (Go.IntKind.i64.wrap (Ev.ishl Go.IntKind.i64 (1 : Int) x1 - (1 : Int)))
                (fun y14 =>
                  bif y14 != (0 : Int) then
                   k0 ((0 : Int), y14, y10_1, y10_2, y10_3, y10_4, y10_5, y10_6, y10_7, y10_8, y10_9, y10_10)
                  else
                   (L_number_GetId_452_0 fuel (x0, x1, (1 : Int), x1, (0 : Int), y10_1, y10_2, y10_3, y10_4, y10_5, y10_6, y10_7, y10_8, y10_9, y10_10)
                     (fun (ret0_0, ret0_1, ret0_2, ret0_3, ret0_4, ret0_5, ret0_6, ret0_7, ret0_8, ret0_9, ret0_10, ret0_11) =>
                       k0 (ret0_0, ret0_1, ret0_2, ret0_3, ret0_4, ret0_5, ret0_6, ret0_7, ret0_8, ret0_9, ret0_10, ret0_11))
                     (fun (b0_0, b0_1, b0_2, b0_3, b0_4, b0_5, b0_6, b0_7, b0_8, b0_9, b0_10, b0_11) =>
                       bif Decidable.decide (b0_0 < (0 : Int)) then
                        none
                       else
                        k0 (Go.IntKind.i64.wrap (b0_1 - Ev.ishl Go.IntKind.i64 (1 : Int) b0_0), (0 : Int), b0_2, b0_3, b0_4, b0_5, b0_6, b0_7, b0_8, b0_9, b0_10, b0_11)))))))))
abbrev YF158_452 : Type := (Int) → (Int) → (Int) → (Int) → (Int) → (Int) → (Int) → (Int) → (Bool) → (Bool) → ((List Int)) → ((List Int)) → ((Int × Int × Int × Int × Int × Int × Int × Int × Bool × Bool × (List Int) × (List Int)) → Option Ans) → Option Ans
theorem F158_452_eqg (fuel : Nat) (f76_40a : YF76_40a) (f134 : YF134) (f156_aa3 : YF156_aa3) (x0 : Int) (x1 : Int) (x2 : Int) (x3 : Int) (x4 : Int) (x5 : Int) (x6 : Int) (x7 : Int) (x8 : Bool) (x9 : Bool) (x10 : (List Int)) (x11 : (List Int)) (k : Ev.Cont) : evalFn tab (Gg158_452 f76_40a f134 f156_aa3) (J158_452 fuel) kp158_452 fuel Tryz.f158 [.c (.ptr 0 0), .c (.int .i64 x0), .c (.int .i64 x1)] [.cells 168 (.int .i64 x2 :: .own 1 :: .int .i64 2048 :: .int .i64 1792 :: .int .i64 1568 :: .int .i64 1372 :: .int .i64 1201 :: .int .i64 1051 :: .int .i64 920 :: .int .i64 805 :: .int .i64 705 :: .int .i64 617 :: .int .i64 540 :: .int .i64 473 :: .int .i64 414 :: .int .i64 363 :: .int .i64 318 :: .int .i64 279 :: .int .i64 245 :: .int .i64 215 :: .int .i64 189 :: .int .i64 166 :: .int .i64 146 :: .int .i64 128 :: .int .i64 112 :: .int .i64 98 :: .int .i64 86 :: .int .i64 76 :: .int .i64 67 :: .int .i64 59 :: .int .i64 52 :: .int .i64 46 :: .int .i64 41 :: .int .i64 36 :: .int .u64 x3 :: .int .u64 x4 :: .own 2 :: .int .i64 x5 :: .int .u64 x6 :: .int .i64 x7 :: .bool x8 :: .bool x9 :: []), .vec 3 (.int .i64) x10 false, .vec 5 (.int .u8) x11 false] k = (fun  (k0 : (Int × Int × Int × Int × Int × Int × Int × Int × Bool × Bool × (List Int) × (List Int)) → Option Ans) =>
  (f156_aa3 ((-1 : Int)) (x2) (x3) (x4) (x5) (x6) (x7) (x8) (x9) (x10) (x11)
    (fun (y2_0, y2_1, y2_2, y2_3, y2_4, y2_5, y2_6, y2_7, y2_8, y2_9, y2_10, y2_11) =>
      bif y2_1 == (7 : Int) then
       k0 ((0 : Int), y2_1, y2_2, y2_3, y2_4, y2_5, y2_6, y2_7, y2_8, y2_9, y2_10, y2_11)
      else
       bif Decidable.decide (x1 < (0 : Int)) then
        k0 ((0 : Int), (2 : Int), y2_2, y2_3, y2_4, y2_5, y2_6, y2_7, y2_8, y2_9, y2_10, y2_11)
       else
        bif Decidable.decide (x1 > (10 : Int)) then
         k0 ((0 : Int), (2 : Int), y2_2, y2_3, y2_4, y2_5, y2_6, y2_7, y2_8, y2_9, y2_10, y2_11)
        else
         bif Decidable.decide (x1 < (0 : Int)) then
          none
         else
          (f76_40a (y2_2) (y2_3) (y2_4) (y2_5) (y2_6) (y2_7) (y2_8) (y2_9) (y2_10) (y2_11)
            (fun (y10_0, y10_1, y10_2, y10_3, y10_4, y10_5, y10_6, y10_7, y10_8, y10_9, y10_10, y10_11) =>
              (f134 (y10_0) (y10_11) (x0) (Go.IntKind.i64.wrap (Ev.ishl Go.IntKind.i64 (1 : Int) x1 - (1 : Int)))
                (fun y14 =>
                  bif y14 != (0 : Int) then
                   k0 ((0 : Int), y14, y10_1, y10_2, y10_3, y10_4, y10_5, y10_6, y10_7, y10_8, y10_9, y10_10)
                  else
                   (L_number_GetId_452_0 fuel (x0, x1, (1 : Int), x1, (0 : Int), y10_1, y10_2, y10_3, y10_4, y10_5, y10_6, y10_7, y10_8, y10_9, y10_10)
                     (fun (ret0_0, ret0_1, ret0_2, ret0_3, ret0_4, ret0_5, ret0_6, ret0_7, ret0_8, ret0_9, ret0_10, ret0_11) =>
                       k0 (ret0_0, ret0_1, ret0_2, ret0_3, ret0_4, ret0_5, ret0_6, ret0_7, ret0_8, ret0_9, ret0_10, ret0_11))
                     (fun (b0_0, b0_1, b0_2, b0_3, b0_4, b0_5, b0_6, b0_7, b0_8, b0_9, b0_10, b0_11) =>
                       bif Decidable.decide (b0_0 < (0 : Int)) then
                        none
                       else
                        k0 (Go.IntKind.i64.wrap (b0_1 - Ev.ishl Go.IntKind.i64 (1 : Int) b0_0), (0 : Int), b0_2, b0_3, b0_4, b0_5, b0_6, b0_7, b0_8, b0_9, b0_10, b0_11)))))))))) (fun r => match r with | (r0, r1, r2, r3, r4, r5, r6, r7, r8, r9, r10, r11) => k (.tup [(false, [.int .i64 r0]), (false, [.int .i64 r1])], [.cells 168 (.int .i64 r2 :: .own 1 :: .int .i64 2048 :: .int .i64 1792 :: .int .i64 1568 :: .int .i64 1372 :: .int .i64 1201 :: .int .i64 1051 :: .int .i64 920 :: .int .i64 805 :: .int .i64 705 :: .int .i64 617 :: .int .i64 540 :: .int .i64 473 :: .int .i64 414 :: .int .i64 363 :: .int .i64 318 :: .int .i64 279 :: .int .i64 245 :: .int .i64 215 :: .int .i64 189 :: .int .i64 166 :: .int .i64 146 :: .int .i64 128 :: .int .i64 112 :: .int .i64 98 :: .int .i64 86 :: .int .i64 76 :: .int .i64 67 :: .int .i64 59 :: .int .i64 52 :: .int .i64 46 :: .int .i64 41 :: .int .i64 36 :: .int .u64 r3 :: .int .u64 r4 :: .own 2 :: .int .i64 r5 :: .int .u64 r6 :: .int .i64 r7 :: .bool r8 :: .bool r9 :: []), .vec 3 (.int .i64) r10 false, .vec 5 (.int .u8) r11 false])) := by
  kernel_rfl
theorem F158_452_eq (fuel : Nat) (x0 : Int) (x1 : Int) (x2 : Int) (x3 : Int) (x4 : Int) (x5 : Int) (x6 : Int) (x7 : Int) (x8 : Bool) (x9 : Bool) (x10 : (List Int)) (x11 : (List Int)) (k : Ev.Cont) : evalFn tab (G158_452 fuel) (J158_452 fuel) kp158_452 fuel Tryz.f158 [.c (.ptr 0 0), .c (.int .i64 x0), .c (.int .i64 x1)] [.cells 168 (.int .i64 x2 :: .own 1 :: .int .i64 2048 :: .int .i64 1792 :: .int .i64 1568 :: .int .i64 1372 :: .int .i64 1201 :: .int .i64 1051 :: .int .i64 920 :: .int .i64 805 :: .int .i64 705 :: .int .i64 617 :: .int .i64 540 :: .int .i64 473 :: .int .i64 414 :: .int .i64 363 :: .int .i64 318 :: .int .i64 279 :: .int .i64 245 :: .int .i64 215 :: .int .i64 189 :: .int .i64 166 :: .int .i64 146 :: .int .i64 128 :: .int .i64 112 :: .int .i64 98 :: .int .i64 86 :: .int .i64 76 :: .int .i64 67 :: .int .i64 59 :: .int .i64 52 :: .int .i64 46 :: .int .i64 41 :: .int .i64 36 :: .int .u64 x3 :: .int .u64 x4 :: .own 2 :: .int .i64 x5 :: .int .u64 x6 :: .int .i64 x7 :: .bool x8 :: .bool x9 :: []), .vec 3 (.int .i64) x10 false, .vec 5 (.int .u8) x11 false] k = F_number_GetId_452 fuel x0 x1 x2 x3 x4 x5 x6 x7 x8 x9 x10 x11 (fun r => match r with | (r0, r1, r2, r3, r4, r5, r6, r7, r8, r9, r10, r11) => k (.tup [(false, [.int .i64 r0]), (false, [.int .i64 r1])], [.cells 168 (.int .i64 r2 :: .own 1 :: .int .i64 2048 :: .int .i64 1792 :: .int .i64 1568 :: .int .i64 1372 :: .int .i64 1201 :: .int .i64 1051 :: .int .i64 920 :: .int .i64 805 :: .int .i64 705 :: .int .i64 617 :: .int .i64 540 :: .int .i64 473 :: .int .i64 414 :: .int .i64 363 :: .int .i64 318 :: .int .i64 279 :: .int .i64 245 :: .int .i64 215 :: .int .i64 189 :: .int .i64 166 :: .int .i64 146 :: .int .i64 128 :: .int .i64 112 :: .int .i64 98 :: .int .i64 86 :: .int .i64 76 :: .int .i64 67 :: .int .i64 59 :: .int .i64 52 :: .int .i64 46 :: .int .i64 41 :: .int .i64 36 :: .int .u64 r3 :: .int .u64 r4 :: .own 2 :: .int .i64 r5 :: .int .u64 r6 :: .int .i64 r7 :: .bool r8 :: .bool r9 :: []), .vec 3 (.int .i64) r10 false, .vec 5 (.int .u8) r11 false])) :=
  F158_452_eqg fuel (F_coder_Decoder_Model_40a fuel) (F_number_fits fuel) (F_coder_Decoder_Get_aa3 fuel) x0 x1 x2 x3 x4 x5 x6 x7 x8 x9 x10 x11 k
theorem hG158_452 (fuel : Nat) : GOK Tryz.prog (G158_452 fuel) :=
  gok_cons ⟨ok76_40a fuel, enters_of Tryz.func76 (by kernel_rfl) rfl⟩ <|
  gok_cons ⟨ok134 fuel, enters_of Tryz.func134 (by kernel_rfl) rfl⟩ <|
  gok_cons ⟨ok156_aa3 fuel, enters_of Tryz.func156 (by kernel_rfl) rfl⟩ <|
  gok_nil
theorem B158_452_0_blk (fuel : Nat) : BlkOK Tryz.prog Tryz.f158.ntmps (.block 0 (.loop (bodyOf 0 Tryz.f158))) (B158_452_0 fuel) :=
  blk_of (blk_of_code tab_ok (hG158_452 fuel) mixed (J := J158_452_0 fuel) (kp := kp158_452) (fuel := fuel) (by kernel_rfl) (fun q hq => by
    rw [(by kernel_rfl : obl (J158_452_0 fuel) (.block 0 (.loop (bodyOf 0 Tryz.f158))) = [])] at hq
    cases hq)) (B158_452_0_ok fuel)
theorem fok158_452 (fuel : Nat) : FnOK Tryz.prog 158 (evalFn tab (G158_452 fuel) (J158_452 fuel) kp158_452 fuel Tryz.f158) :=
  fn_ok tab_ok (hG158_452 fuel) mixed Tryz.func158 (c := (Tryz.f158.body).getD .skip) rfl (fun q hq => by
    rw [(by kernel_rfl : obl (J158_452 fuel) ((Tryz.f158.body).getD .skip) = [(.block 0 (.loop (bodyOf 0 Tryz.f158)), B158_452_0 fuel)])] at hq
    simp only [List.mem_cons, List.not_mem_nil, or_false] at hq
    subst hq
    · exact B158_452_0_blk fuel)
noncomputable def mt158_452 : List Ev.SV → List Ev.Ob → Bool := fun args objs => match args, objs with
  | [.c (.ptr q0 q1), .c (.int .i64 _), .c (.int .i64 _)], [.cells q2 cs0, .vec q3 (.int .i64) _ false, .vec q4 (.int .u8) _ false] => (match splitRun 2 [(.i64, 2048), (.i64, 1792), (.i64, 1568), (.i64, 1372), (.i64, 1201), (.i64, 1051), (.i64, 920), (.i64, 805), (.i64, 705), (.i64, 617), (.i64, 540), (.i64, 473), (.i64, 414), (.i64, 363), (.i64, 318), (.i64, 279), (.i64, 245), (.i64, 215), (.i64, 189), (.i64, 166), (.i64, 146), (.i64, 128), (.i64, 112), (.i64, 98), (.i64, 86), (.i64, 76), (.i64, 67), (.i64, 59), (.i64, 52), (.i64, 46), (.i64, 41), (.i64, 36)] cs0 with | some ([.int .i64 _, .own q5], [.int .u64 _, .int .u64 _, .own q6, .int .i64 _, .int .u64 _, .int .i64 _, .bool _, .bool _]) => Nat.beq q0 0 && Nat.beq q1 0 && Nat.beq q2 168 && Nat.beq q3 3 && Nat.beq q4 5 && Nat.beq q5 1 && Nat.beq q6 2 | _ => false)
  | _, _ => false
noncomputable def spg158_452 (F : YF158_452) : Ev.Spec := fun args objs k => match args, objs with
  | [.c (.ptr q0 q1), .c (.int .i64 x0), .c (.int .i64 x1)], [.cells q2 cs0, .vec q3 (.int .i64) x10 false, .vec q4 (.int .u8) x11 false] => (match splitRun 2 [(.i64, 2048), (.i64, 1792), (.i64, 1568), (.i64, 1372), (.i64, 1201), (.i64, 1051), (.i64, 920), (.i64, 805), (.i64, 705), (.i64, 617), (.i64, 540), (.i64, 473), (.i64, 414), (.i64, 363), (.i64, 318), (.i64, 279), (.i64, 245), (.i64, 215), (.i64, 189), (.i64, 166), (.i64, 146), (.i64, 128), (.i64, 112), (.i64, 98), (.i64, 86), (.i64, 76), (.i64, 67), (.i64, 59), (.i64, 52), (.i64, 46), (.i64, 41), (.i64, 36)] cs0 with | some ([.int .i64 x2, .own q5], [.int .u64 x3, .int .u64 x4, .own q6, .int .i64 x5, .int .u64 x6, .int .i64 x7, .bool x8, .bool x9]) => bif Nat.beq q0 0 && Nat.beq q1 0 && Nat.beq q2 168 && Nat.beq q3 3 && Nat.beq q4 5 && Nat.beq q5 1 && Nat.beq q6 2 then F x0 x1 x2 x3 x4 x5 x6 x7 x8 x9 x10 x11 (fun r => match r with | (r0, r1, r2, r3, r4, r5, r6, r7, r8, r9, r10, r11) => k (.tup [(false, [.int .i64 r0]), (false, [.int .i64 r1])], [.cells 168 (.int .i64 r2 :: .own 1 :: .int .i64 2048 :: .int .i64 1792 :: .int .i64 1568 :: .int .i64 1372 :: .int .i64 1201 :: .int .i64 1051 :: .int .i64 920 :: .int .i64 805 :: .int .i64 705 :: .int .i64 617 :: .int .i64 540 :: .int .i64 473 :: .int .i64 414 :: .int .i64 363 :: .int .i64 318 :: .int .i64 279 :: .int .i64 245 :: .int .i64 215 :: .int .i64 189 :: .int .i64 166 :: .int .i64 146 :: .int .i64 128 :: .int .i64 112 :: .int .i64 98 :: .int .i64 86 :: .int .i64 76 :: .int .i64 67 :: .int .i64 59 :: .int .i64 52 :: .int .i64 46 :: .int .i64 41 :: .int .i64 36 :: .int .u64 r3 :: .int .u64 r4 :: .own 2 :: .int .i64 r5 :: .int .u64 r6 :: .int .i64 r7 :: .bool r8 :: .bool r9 :: []), .vec 3 (.int .i64) r10 false, .vec 5 (.int .u8) r11 false])) else none | _ => none)
  | _, _ => none
noncomputable def spec158_452 (fuel : Nat) : Ev.Spec := spg158_452 (F_number_GetId_452 fuel)
theorem ok158_452 (fuel : Nat) : FnOK Tryz.prog 158 (spec158_452 fuel) := by
  intro args objs kk r h
  unfold spec158_452 spg158_452 at h
  split at h
  · skip
    split at h
    rotate_left 1
    · cases h
    rename_i hsp
    have esp := splitRun_eq hsp
    subst esp
    obtain ⟨hb, h⟩ := cond_some' h
    simp only [Bool.and_eq_true, Nat.beq_eq, decide_eq_true_eq] at hb
    obtain ⟨⟨⟨⟨⟨⟨rfl, rfl⟩, rfl⟩, rfl⟩, rfl⟩, rfl⟩, rfl⟩ := hb
    exact fok158_452 fuel _ _ kk r ((F158_452_eq fuel _ _ _ _ _ _ _ _ _ _ _ _ kk).trans h)
  · cases h
end Go.Proofs.YtmjeeaemmbkioaaGreat

set_option linter.unusedVariables false
set_option linter.unusedSimpArgs false
set_option maxRecDepth 100000
set_option maxHeartbeats 2000000
namespace Go.Proofs.YtmjeeaemmbkioaaGreat
open Go Ev
def kp158_9ef (i : Nat) : Option (List Nat) := Ev.look i [(11, [0, 1, 2, 11, 38, 39]), (100000, [2, 11]), (400000, [6, 7])]
noncomputable def Gg158_9ef (f76_975 : YF76_975) (f134 : YF134) (f156_020 : YF156_020) (f : Nat) : Option Ev.Spec := Ev.look f [(76, spg76_975 f76_975), (134, spg134 f134), (156, spg156_020 f156_020)]
noncomputable def G158_9ef (fuel : Nat) : Nat → Option Ev.Spec := Gg158_9ef (F_coder_Decoder_Model_975 fuel) (F_number_fits fuel) (F_coder_Decoder_Get_020 fuel)
noncomputable def S_number_GetId_9ef_0 (fuel : Nat) (v : Int × Int × Int × Int × Int) (c : (Int × Int × Int × Int × Int) → Option Ans) (B : (Int × Int → Option Ans) × (Int × Int → Option Ans)) : Option Ans := match v, B with
  | (x0, x1, x2, x3, x4), (ret, b) =>
   bif Decidable.decide (x4 < x3) then
      (F_coder_Decoder_Get_020 fuel (Go.IntKind.i64.wrap (Go.IntKind.i64.wrap (x0 + x2) - (1 : Int)))
        (fun (y3_0, y3_1) =>
          bif y3_1 != (0 : Int) then
           ret ((0 : Int), y3_1)
          else
           c (x0, x1, Go.IntKind.i64.wrap (Go.IntKind.i64.wrap ((2 : Int) * x2) + y3_0), x3, Go.IntKind.i64.wrap (x4 + (1 : Int)))))
     else
      b (x1, x2)
noncomputable def L_number_GetId_9ef_0 (fuel : Nat) (v : Int × Int × Int × Int × Int) (ret : (Int × Int → Option Ans)) (b : (Int × Int → Option Ans)) : Option Ans := iter (S_number_GetId_9ef_0 fuel) fuel v (ret, b)
noncomputable def J158_9ef_0 (fuel : Nat) (i : Nat) : Option Ev.Blk := Ev.look i []
noncomputable def T158_9ef_0 (v : Int × Int × Int × Int × Int) : Ev.St := match v with | (x0, x1, x2, x3, x4) => ⟨[(0, .c (.nilptr)), (1, .c (.int .i64 x0)), (2, .c (.int .i64 x1)), (11, .c (.int .i64 x2)), (38, .c (.int .i64 x3)), (39, .c (.int .i64 x4))], [], 0, 0⟩
noncomputable def E158_9ef_0 (K : Ev.Ex → Ev.St → Option Ans) : (Int × Int → Option Ans) × (Int × Int → Option Ans) := ((fun v => match v with | (x0, x1) => K .ret ⟨[(6, .c (.int .i64 x0)), (7, .c (.int .i64 x1))], [], 0, 0⟩), (fun v => match v with | (x0, x1) => K .normal ⟨[(2, .c (.int .i64 x0)), (11, .c (.int .i64 x1))], [], 0, 0⟩))
theorem S158_9ef_0_okg (fuel : Nat) (f76_975 : YF76_975) (f134 : YF134) (f156_020 : YF156_020) (R : Ev.St → Option Ans) (K : Ev.Ex → Ev.St → Option Ans) (x0 : Int) (x1 : Int) (x2 : Int) (x3 : Int) (x4 : Int) : evalCode tab (Gg158_9ef f76_975 f134 f156_020) (J158_9ef_0 fuel) kp158_9ef fuel (bodyOf 0 Tryz.f158) (T158_9ef_0 (x0, x1, x2, x3, x4)) (lc kp158_9ef 11 0 R K) = (fun (c : (Int × Int × Int × Int × Int) → Option Ans) (B : (Int × Int → Option Ans) × (Int × Int → Option Ans)) => match B with
  | (ret, b) =>
   bif Decidable.decide (x4 < x3) then
      (f156_020 (Go.IntKind.i64.wrap (Go.IntKind.i64.wrap (x0 + x2) - (1 : Int)))
        (fun (y3_0, y3_1) =>
          bif y3_1 != (0 : Int) then
           ret ((0 : Int), y3_1)
          else
           c (x0, x1, Go.IntKind.i64.wrap (Go.IntKind.i64.wrap ((2 : Int) * x2) + y3_0), x3, Go.IntKind.i64.wrap (x4 + (1 : Int)))))
     else
      b (x1, x2)) (fun v => R (T158_9ef_0 v)) (E158_9ef_0 K) := by
  kernel_rfl
theorem S158_9ef_0_ok (fuel : Nat) (R : Ev.St → Option Ans) (K : Ev.Ex → Ev.St → Option Ans) (x0 : Int) (x1 : Int) (x2 : Int) (x3 : Int) (x4 : Int) : evalCode tab (G158_9ef fuel) (J158_9ef_0 fuel) kp158_9ef fuel (bodyOf 0 Tryz.f158) (T158_9ef_0 (x0, x1, x2, x3, x4)) (lc kp158_9ef 11 0 R K) = S_number_GetId_9ef_0 fuel (x0, x1, x2, x3, x4) (fun v => R (T158_9ef_0 v)) (E158_9ef_0 K) :=
  S158_9ef_0_okg fuel (F_coder_Decoder_Model_975 fuel) (F_number_fits fuel) (F_coder_Decoder_Get_020 fuel) R K x0 x1 x2 x3 x4
noncomputable def B158_9ef_0 (fuel : Nat) : Ev.Blk := fun st K => match canonO (kp158_9ef 11) st with
  | some s => (match s with
    | ⟨[(q0, .c (.nilptr)), (q1, .c (.int .i64 x0)), (q2, .c (.int .i64 x1)), (q3, .c (.int .i64 x2)), (q4, .c (.int .i64 x3)), (q5, .c (.int .i64 x4))], [], q6, q7⟩ => bif Nat.beq q0 0 && Nat.beq q1 1 && Nat.beq q2 2 && Nat.beq q3 11 && Nat.beq q4 38 && Nat.beq q5 39 && Nat.beq q6 0 && Nat.beq q7 0 then iter (S_number_GetId_9ef_0 fuel) fuel (x0, x1, x2, x3, x4) (E158_9ef_0 K) else none
    | _ => none)
  | none => none
theorem B158_9ef_0_ok (fuel : Nat) (st : Ev.St) (K : Ev.Ex → Ev.St → Option Ans) (r : Ans) (h : B158_9ef_0 fuel st K = some r) : evalCode tab (G158_9ef fuel) (J158_9ef_0 fuel) kp158_9ef fuel (.block 0 (.loop (bodyOf 0 Tryz.f158))) st K = some r := by
  unfold B158_9ef_0 at h
  split at h
  · rename_i s hs
    split at h
    · skip
      obtain ⟨hb, h⟩ := cond_some' h
      simp only [Bool.and_eq_true, Nat.beq_eq, decide_eq_true_eq] at hb
      obtain ⟨⟨⟨⟨⟨⟨⟨rfl, rfl⟩, rfl⟩, rfl⟩, rfl⟩, rfl⟩, rfl⟩, rfl⟩ := hb
      exact blk_loop (S := T158_9ef_0) (ks := E158_9ef_0) (step := S_number_GetId_9ef_0 fuel) (v := (_, _, _, _, _)) (by kernel_rfl) (by kernel_rfl) (fun R K v => by obtain ⟨x0, x1, x2, x3, x4⟩ := v; exact S158_9ef_0_ok fuel R K x0 x1 x2 x3 x4) hs h
    · cases h
  · cases h
noncomputable def J158_9ef (fuel : Nat) (i : Nat) : Option Ev.Blk := Ev.look i [(100000, B158_9ef_0 fuel)]
noncomputable def F_number_GetId_9ef (fuel : Nat) (x0 : Int) (x1 : Int) (k0 : (Int × Int) → Option Ans) : Option Ans :=
  (F_coder_Decoder_Get_020 fuel ((-1 : Int))
    (fun (y2_0, y2_1) =>
      bif y2_1 == (7 : Int) then
       k0 ((0 : Int), y2_1)
      else
       bif Decidable.decide (x1 < (0 : Int)) then
        k0 ((0 : Int), (2 : Int))
       else
        bif Decidable.decide (x1 > (10 : Int)) then
         k0 ((0 : Int), (2 : Int))
        else
         bif Decidable.decide (x1 < (0 : Int)) then
          none
         else
          (F_coder_Decoder_Model_975 fuel
            (fun (y10_0, y10_1) =>
              (F_number_fits fuel (y10_0) (y10_1) (x0) (Go.IntKind.i64.wrap (Ev.ishl Go.IntKind.i64 (1 : Int) x1 - (1 : Int)))
                (fun y14 =>
                  bif y14 != (0 : Int) then
                   k0 ((0 : Int), y14)
                  else
                   (L_number_GetId_9ef_0 fuel (x0, x1, (1 : Int), x1, (0 : Int))
                     (fun (ret0_0, ret0_1) =>
                       k0 (ret0_0, ret0_1))
                     (fun (b0_0, b0_1) =>
                       bif Decidable.decide (b0_0 < (0 : Int)) then
                        none
                       else
                        k0 (Go.IntKind.i64.wrap (b0_1 - Ev.ishl Go.IntKind.i64 (1 : Int) b0_0), (0 : Int))))))))))
abbrev YF158_9ef : Type := (Int) → (Int) → ((Int × Int) → Option Ans) → Option Ans
theorem F158_9ef_eqg (fuel : Nat) (f76_975 : YF76_975) (f134 : YF134) (f156_020 : YF156_020) (x0 : Int) (x1 : Int) (k : Ev.Cont) : evalFn tab (Gg158_9ef f76_975 f134 f156_020) (J158_9ef fuel) kp158_9ef fuel Tryz.f158 [.c (.nilptr), .c (.int .i64 x0), .c (.int .i64 x1)] [] k = (fun  (k0 : (Int × Int) → Option Ans) =>
  (f156_020 ((-1 : Int))
    (fun (y2_0, y2_1) =>
      bif y2_1 == (7 : Int) then
       k0 ((0 : Int), y2_1)
      else
       bif Decidable.decide (x1 < (0 : Int)) then
        k0 ((0 : Int), (2 : Int))
       else
        bif Decidable.decide (x1 > (10 : Int)) then
         k0 ((0 : Int), (2 : Int))
        else
         bif Decidable.decide (x1 < (0 : Int)) then
          none
         else
          (f76_975
            (fun (y10_0, y10_1) =>
              (f134 (y10_0) (y10_1) (x0) (Go.IntKind.i64.wrap (Ev.ishl Go.IntKind.i64 (1 : Int) x1 - (1 : Int)))
                (fun y14 =>
                  bif y14 != (0 : Int) then
                   k0 ((0 : Int), y14)
                  else
                   (L_number_GetId_9ef_0 fuel (x0, x1, (1 : Int), x1, (0 : Int))
                     (fun (ret0_0, ret0_1) =>
                       k0 (ret0_0, ret0_1))
                     (fun (b0_0, b0_1) =>
                       bif Decidable.decide (b0_0 < (0 : Int)) then
                        none
                       else
                        k0 (Go.IntKind.i64.wrap (b0_1 - Ev.ishl Go.IntKind.i64 (1 : Int) b0_0), (0 : Int))))))))))) (fun r => match r with | (r0, r1) => k (.tup [(false, [.int .i64 r0]), (false, [.int .i64 r1])], [])) := by
  kernel_rfl
theorem F158_9ef_eq (fuel : Nat) (x0 : Int) (x1 : Int) (k : Ev.Cont) : evalFn tab (G158_9ef fuel) (J158_9ef fuel) kp158_9ef fuel Tryz.f158 [.c (.nilptr), .c (.int .i64 x0), .c (.int .i64 x1)] [] k = F_number_GetId_9ef fuel x0 x1 (fun r => match r with | (r0, r1) => k (.tup [(false, [.int .i64 r0]), (false, [.int .i64 r1])], [])) :=
  F158_9ef_eqg fuel (F_coder_Decoder_Model_975 fuel) (F_number_fits fuel) (F_coder_Decoder_Get_020 fuel) x0 x1 k
theorem hG158_9ef (fuel : Nat) : GOK Tryz.prog (G158_9ef fuel) :=
  gok_cons ⟨ok76_975 fuel, enters_of Tryz.func76 (by kernel_rfl) rfl⟩ <|
  gok_cons ⟨ok134 fuel, enters_of Tryz.func134 (by kernel_rfl) rfl⟩ <|
  gok_cons ⟨ok156_020 fuel, enters_of Tryz.func156 (by kernel_rfl) rfl⟩ <|
  gok_nil
theorem B158_9ef_0_blk (fuel : Nat) : BlkOK Tryz.prog Tryz.f158.ntmps (.block 0 (.loop (bodyOf 0 Tryz.f158))) (B158_9ef_0 fuel) :=
  blk_of (blk_of_code tab_ok (hG158_9ef fuel) mixed (J := J158_9ef_0 fuel) (kp := kp158_9ef) (fuel := fuel) (by kernel_rfl) (fun q hq => by
    rw [(by kernel_rfl : obl (J158_9ef_0 fuel) (.block 0 (.loop (bodyOf 0 Tryz.f158))) = [])] at hq
    cases hq)) (B158_9ef_0_ok fuel)
theorem fok158_9ef (fuel : Nat) : FnOK Tryz.prog 158 (evalFn tab (G158_9ef fuel) (J158_9ef fuel) kp158_9ef fuel Tryz.f158) :=
  fn_ok tab_ok (hG158_9ef fuel) mixed Tryz.func158 (c := (Tryz.f158.body).getD .skip) rfl (fun q hq => by
    rw [(by kernel_rfl : obl (J158_9ef fuel) ((Tryz.f158.body).getD .skip) = [(.block 0 (.loop (bodyOf 0 Tryz.f158)), B158_9ef_0 fuel)])] at hq
    simp only [List.mem_cons, List.not_mem_nil, or_false] at hq
    subst hq
    · exact B158_9ef_0_blk fuel)
noncomputable def mt158_9ef : List Ev.SV → List Ev.Ob → Bool := fun args objs => match args, objs with
  | [.c (.nilptr), .c (.int .i64 _), .c (.int .i64 _)], [] => true
  | _, _ => false
noncomputable def spg158_9ef (F : YF158_9ef) : Ev.Spec := fun args objs k => match args, objs with
  | [.c (.nilptr), .c (.int .i64 x0), .c (.int .i64 x1)], [] => bif true then F x0 x1 (fun r => match r with | (r0, r1) => k (.tup [(false, [.int .i64 r0]), (false, [.int .i64 r1])], [])) else none
  | _, _ => none
noncomputable def spec158_9ef (fuel : Nat) : Ev.Spec := spg158_9ef (F_number_GetId_9ef fuel)
theorem ok158_9ef (fuel : Nat) : FnOK Tryz.prog 158 (spec158_9ef fuel) := by
  intro args objs kk r h
  unfold spec158_9ef spg158_9ef at h
  split at h
  · skip
    obtain ⟨hb, h⟩ := cond_some' h
    simp only [Bool.and_eq_true, Nat.beq_eq, decide_eq_true_eq] at hb
    clear hb
    exact fok158_9ef fuel _ _ kk r ((F158_9ef_eq fuel _ _ kk).trans h)
  · cases h
end Go.Proofs.YtmjeeaemmbkioaaGreat

set_option linter.unusedVariables false
set_option maxRecDepth 100000
set_option maxHeartbeats 0
namespace Go.Proofs.YtmjeeaemmbkioaaGreat
open Go Ev
noncomputable def fns11 : List (Nat × Func) := [(7, Tryz.f7), (9, Tryz.f9), (11, Tryz.f11), (23, Tryz.f23), (25, Tryz.f25), (27, Tryz.f27), (28, Tryz.f28), (29, Tryz.f29), (30, Tryz.f30), (31, Tryz.f31), (32, Tryz.f32), (33, Tryz.f33), (35, Tryz.f35), (36, Tryz.f36), (37, Tryz.f37), (42, Tryz.f42), (60, Tryz.f60), (61, Tryz.f61), (64, Tryz.f64), (65, Tryz.f65), (66, Tryz.f66), (67, Tryz.f67), (68, Tryz.f68), (70, Tryz.f70), (72, Tryz.f72), (73, Tryz.f73), (74, Tryz.f74), (75, Tryz.f75), (77, Tryz.f77), (78, Tryz.f78), (108, Tryz.f108), (109, Tryz.f109), (113, Tryz.f113), (115, Tryz.f115), (116, Tryz.f116), (118, Tryz.f118), (121, Tryz.f121), (122, Tryz.f122), (123, Tryz.f123), (125, Tryz.f125), (131, Tryz.f131), (149, Tryz.f149), (150, Tryz.f150), (153, Tryz.f153), (154, Tryz.f154), (155, Tryz.f155), (157, Tryz.f157), (159, Tryz.f159), (165, Tryz.f165), (166, Tryz.f166), (167, Tryz.f167), (168, Tryz.f168), (169, Tryz.f169), (170, Tryz.f170), (171, Tryz.f171), (179, Tryz.f179), (180, Tryz.f180), (181, Tryz.f181), (182, Tryz.f182), (183, Tryz.f183), (184, Tryz.f184), (185, Tryz.f185), (186, Tryz.f186), (190, Tryz.f190), (192, Tryz.f192), (193, Tryz.f193), (194, Tryz.f194), (195, Tryz.f195), (196, Tryz.f196), (197, Tryz.f197), (1000167, Tryz.f167)]
def kpt11 : List (Nat × List (Nat × List Nat)) := [(23, [(200001, [2]), (900001, [2, 4, 5])]), (25, [(200001, [1]), (900001, [1, 3, 4])]), (27, [(200010, [14]), (200013, [14]), (900010, [3, 4, 11, 14, 15, 17]), (900013, [10, 11, 12])]), (30, [(10, [2, 3, 12, 15, 16, 18, 19]), (100000, [2, 3, 12, 15, 16, 18]), (200008, [15]), (200016, [18]), (200017, [15, 18]), (400000, [10, 11, 12, 13]), (900008, [2, 3, 12, 15, 16, 18]), (900016, [10, 11, 12, 13]), (900017, [10, 11, 12, 13])]), (31, [(4, [0, 1, 5]), (100000, []), (200006, [0, 1]), (400000, [4]), (900006, [0, 1, 5, 41])]), (32, [(4, [0, 1, 5]), (100000, []), (200006, [0, 1]), (400000, [4]), (900006, [0, 1, 5, 25])]), (36, [(2, [0, 1, 9, 10, 11]), (8, [0, 1, 20, 21, 22]), (100000, [0, 1]), (100002, [0, 1]), (200010, [1, 8]), (400000, [4]), (400002, [4]), (900010, [0, 1, 20, 21, 22, 55])]), (65, [(600000, [])]), (66, [(200002, [2, 3, 5]), (900002, [4, 5])]), (67, [(1, [0, 1, 4, 1000002, 1000004]), (6, [0, 1, 4, 5, 6, 1000002]), (100000, []), (100002, [0, 1, 4]), (400000, []), (400002, [])]), (68, [(1, [0, 1, 4, 1000004]), (4, [0, 1, 4, 5]), (100000, []), (100002, [0, 1, 4, 5]), (400000, []), (400002, [])]), (70, [(200001, [2, 3]), (900001, [4])]), (72, [(5, [6, 17]), (100000, [6]), (400000, [4, 5]), (600000, [])]), (74, [(3, [0, 1, 4, 5, 1000002, 1000003]), (100000, []), (400000, [1000002, 1000003]), (900008, [0, 1, 4, 44])]), (75, [(3, [0, 1, 5, 6]), (10, [0, 1, 5, 6, 36, 37]), (100000, [5]), (100002, [0, 1, 5, 6]), (400000, [4]), (400002, [4])]), (77, [(2, [0, 1, 7, 8]), (100000, []), (400000, [4])]), (78, [(4, [23, 24, 25]), (100000, []), (400000, [2])]), (116, [(200003, [0, 3]), (200005, [0, 3]), (200008, [0, 3]), (200009, [3]), (600000, []), (900003, [0, 3]), (900005, [0, 3]), (900008, [0, 3]), (900009, [])]), (123, [(200004, [0]), (200005, [0]), (200006, [6]), (200010, [0]), (200012, [6]), (600000, []), (900004, [0, 6, 8]), (900005, [0, 1, 2, 6, 8]), (900006, [0, 1, 2, 6, 79]), (900010, [0, 6, 8]), (900012, [])]), (131, [(11, [0, 1, 7, 8, 11, 52, 53, 1000002]), (20, [0, 1, 7, 8, 11, 12, 13, 52, 53, 75, 76, 1000002]), (100001, []), (100003, [0, 1, 7, 8, 11, 52, 53]), (200007, [7]), (400001, [10]), (400003, [10]), (600000, []), (900007, [0, 1, 7, 8, 9, 35]), (900024, [0, 1, 7, 8, 11, 12, 13, 52, 53, 75, 76])]), (153, [(200009, [7, 8, 9]), (600000, []), (900009, [0, 1, 7, 8, 9, 42])]), (157, [(13, [0, 1, 3, 4, 8, 11, 12, 18, 66, 67]), (100000, [3, 4, 12, 18]), (200009, [8, 11]), (400000, [12, 13]), (600000, []), (900009, [0, 1, 3, 4, 8, 11, 12, 60])]), (159, [(13, [0, 1, 3, 4, 12, 18, 64, 65]), (100000, [3, 4, 12, 18]), (200009, [8]), (200011, [8, 11]), (400000, [12, 13]), (600000, []), (900009, [0, 1, 3, 4, 8, 11, 12, 53]), (900011, [0, 1, 3, 4, 12, 18])]), (166, [(200001, [3, 5]), (900001, [6])]), (168, [(2, [0, 1, 12, 13]), (100000, []), (400000, [4])]), (169, [(3, [0, 1, 2, 8, 29]), (100000, [8]), (200001, [0]), (200005, [0]), (400000, [6, 7]), (900001, [0, 1, 2, 8]), (900005, [0, 1, 2, 8, 29, 60])]), (170, [(3, [0, 1, 2, 7, 17, 18, 19]), (8, [0, 1, 2, 7, 41, 42, 43]), (100000, [0, 1, 2, 7]), (100002, [7]), (200005, [0, 9]), (200010, [0, 11]), (400000, [6]), (400002, [6]), (900005, [0, 1, 2, 7, 17, 18, 19]), (900010, [0, 1, 2, 7, 41, 42, 43])]), (179, [(2, [2, 3, 8, 9, 10]), (100000, []), (400000, [4])]), (181, [(200001, [3, 5]), (900001, [6])]), (182, [(4, [0, 1, 7, 8, 9, 10, 27, 28, 1000002]), (13, [0, 1, 7, 8, 9, 10, 11, 27, 28, 60, 61]), (100000, []), (100002, [0, 1, 7, 8, 9, 10, 27, 28]), (200008, [8, 9]), (200017, [8]), (400000, []), (400002, []), (900008, [0, 1, 7, 8, 9, 10, 11, 12, 27, 28, 49]), (900017, [0, 1, 7, 8, 9, 10, 11, 27, 28, 60, 61])]), (183, [(5, [2, 6, 8, 9, 34, 35]), (100000, [6, 8, 9]), (400000, [6, 7])]), (184, [(200001, [3]), (900001, [6])]), (185, [(9, [0, 1, 2, 4, 11, 53, 54]), (100000, []), (200006, [11]), (200011, [0, 11]), (200015, [0]), (400000, [12]), (900006, []), (900011, [0, 1, 2, 4, 11, 15, 53, 54, 66]), (900015, [0, 1, 2, 4, 11, 53, 54])]), (186, [(8, [0, 1, 2, 3, 9, 44, 45]), (100000, []), (400000, [8])]), (194, [(3, [0, 1, 5, 7, 15, 16]), (100000, [7]), (200005, [0, 5]), (400000, [6]), (900005, [0, 1, 5, 7, 8, 15, 16, 29])]), (195, [(3, [0, 1, 2, 7, 13, 14, 15]), (100000, [7]), (400000, [6])]), (197, [(200003, [0]), (900003, [6])])]
def kpa11 (f i : Nat) : Option (List Nat) := match Ev.look f kpt11 with | some l => Ev.look i l | none => none
theorem vma_ok {fl : Nat} (hfl : 10000 ≤ fl) {kd : Int} {st : List Int} (h : vMa kd st = true) {K : Bool → Option Ans} : F_coder_Valid fl kd st K = K true := by
  unfold vMa at h
  simp only [Bool.and_eq_true, Bool.or_eq_true, decide_eq_true_eq, List.all_eq_true] at h
  obtain ⟨h1, h2, h3⟩ := h
  have lp : ∀ e : Int, (∀ s ∈ st, s < e) → ∀ (ret : Bool → Option Ans) (b : Unit → Option Ans), L_coder_Valid_0 fl (e, st, (st.length : Int), 0) ret b = b () := by
    intro e he ret b
    unfold L_coder_Valid_0
    refine iter_upto (step := S_coder_Valid_0 fl) (fun i : Nat => (e, st, (st.length : Int), (i : Int))) st.length (fun i hi c => ?_) (fun c => ?_) (by omega)
    · have hm : st.getD i 0 ∈ st := by rw [List.getD_eq_getElem?_getD, List.getElem?_eq_getElem hi]; exact List.getElem_mem hi
      have a := (h3 _ hm).1
      have b := he _ hm
      simp only [S_coder_Valid_0]
      rw [decY (show (i : Int) < (st.length : Int) by omega), decY (show (0 : Int) ≤ (i : Int) ∧ (i : Int) < (st.length : Int) by omega), Int.toNat_natCast, ndecY (show ¬ st.getD i 0 < 0 by omega), ndecY (show ¬ st.getD i 0 ≥ e by omega), wrapY (by omega) (by omega)]
      rfl
    · simp only [S_coder_Valid_0]
      rw [ndecY (show ¬ (st.length : Int) < (st.length : Int) by omega)]
  unfold F_coder_Valid
  rcases h1 with rfl | rfl
  · have e0 : ((0 : Int) != 0) = false := rfl
    have e1 : ((0 : Int) == 1) = false := rfl
    rw [e0, cond_false, ndecY (show ¬ (st.length : Int) > 8192 by omega), e1, cond_false, lp 64 (fun s hs => (h3 s hs).2)]
  · have e0 : ((1 : Int) != 0) = true := rfl
    have e1 : ((1 : Int) != 1) = false := rfl
    have e2 : ((1 : Int) == 1) = true := rfl
    rw [e0, cond_true, e1, cond_false, ndecY (show ¬ (st.length : Int) > 8192 by omega), e2, cond_true, lp 65536 (fun s hs => (h3 s hs).2)]
def spv11 : Ev.Spec := fun args objs k => match args, objs with
  | [.agg [.int .i64 kd, .sl (.int .i64) st]], [] => bif vMa kd st then k (.c (.bool true), []) else none
  | _, _ => none
theorem vmspec11 {kd : Int} {st : List Int} (kk : Ev.Cont) (h : vMa kd st = true) : spec112 10000 [.agg [.int .i64 kd, .sl (.int .i64) st]] [] kk = kk (.c (.bool true), []) :=
  vma_ok (fl := 10000) (by omega) h (K := fun b => kk (.c (.bool b), []))
theorem spv11_ok : FnOK Tryz.prog 112 spv11 := by
  intro args objs kk r h
  unfold spv11 at h
  split at h
  · obtain ⟨hb, h⟩ := cond_some' h
    exact ok112 10000 _ _ kk r ((vmspec11 kk hb).trans h)
  · cases h
noncomputable def ext11 (f : Nat) : Option Ev.Spec := Ev.look f [(59, spec59 100000), (69, alt mt69_975 (spec69_975 100000) (spec69_a20 100000)), (71, alt mt71_975 (spec71_975 100000) (spec71_a20 100000)), (76, alt mt76_40a (spec76_40a 100000) (spec76_975 100000)), (84, spec84 100000), (87, alt mt87_0b8 (spec87_0b8 100000) (spec87_856 100000)), (112, spv11), (114, spec114 100000), (120, spec120_40a 100000), (129, alt mt129_3d3 (spec129_3d3 100000) (spec129_b82 100000)), (130, alt mt130_9ef (spec130_9ef 100000) (spec130_cf0 100000)), (137, alt mt137_020 (spec137_020 100000) (spec137_aa3 100000)), (156, alt mt156_020 (spec156_020 100000) (spec156_aa3 100000)), (158, alt mt158_452 (spec158_452 100000) (spec158_9ef 100000))]
theorem ext11_ok : GOK Tryz.prog ext11 :=
  gok_cons ⟨ok59 100000, enters_of Tryz.func59 (by kernel_rfl) rfl⟩ <|
  gok_cons ⟨alt_ok (ok69_975 100000) (ok69_a20 100000), enters_of Tryz.func69 (by kernel_rfl) rfl⟩ <|
  gok_cons ⟨alt_ok (ok71_975 100000) (ok71_a20 100000), enters_of Tryz.func71 (by kernel_rfl) rfl⟩ <|
  gok_cons ⟨alt_ok (ok76_40a 100000) (ok76_975 100000), enters_of Tryz.func76 (by kernel_rfl) rfl⟩ <|
  gok_cons ⟨ok84 100000, enters_of Tryz.func84 (by kernel_rfl) rfl⟩ <|
  gok_cons ⟨alt_ok (ok87_0b8 100000) (ok87_856 100000), enters_of Tryz.func87 (by kernel_rfl) rfl⟩ <|
  gok_cons ⟨spv11_ok, enters_of Tryz.func112 (by kernel_rfl) rfl⟩ <|
  gok_cons ⟨ok114 100000, enters_of Tryz.func114 (by kernel_rfl) rfl⟩ <|
  gok_cons ⟨ok120_40a 100000, enters_of Tryz.func120 (by kernel_rfl) rfl⟩ <|
  gok_cons ⟨alt_ok (ok129_3d3 100000) (ok129_b82 100000), enters_of Tryz.func129 (by kernel_rfl) rfl⟩ <|
  gok_cons ⟨alt_ok (ok130_9ef 100000) (ok130_cf0 100000), enters_of Tryz.func130 (by kernel_rfl) rfl⟩ <|
  gok_cons ⟨alt_ok (ok137_020 100000) (ok137_aa3 100000), enters_of Tryz.func137 (by kernel_rfl) rfl⟩ <|
  gok_cons ⟨alt_ok (ok156_020 100000) (ok156_aa3 100000), enters_of Tryz.func156 (by kernel_rfl) rfl⟩ <|
  gok_cons ⟨alt_ok (ok158_452 100000) (ok158_9ef 100000), enters_of Tryz.func158 (by kernel_rfl) rfl⟩ <|
  gok_nil
theorem fns11_ok : Fns Tryz.prog fns11 :=
  fns_cons Tryz.func7 <|
  fns_cons Tryz.func9 <|
  fns_cons Tryz.func11 <|
  fns_cons Tryz.func23 <|
  fns_cons Tryz.func25 <|
  fns_cons Tryz.func27 <|
  fns_cons Tryz.func28 <|
  fns_cons Tryz.func29 <|
  fns_cons Tryz.func30 <|
  fns_cons Tryz.func31 <|
  fns_cons Tryz.func32 <|
  fns_cons Tryz.func33 <|
  fns_cons Tryz.func35 <|
  fns_cons Tryz.func36 <|
  fns_cons Tryz.func37 <|
  fns_cons Tryz.func42 <|
  fns_cons Tryz.func60 <|
  fns_cons Tryz.func61 <|
  fns_cons Tryz.func64 <|
  fns_cons Tryz.func65 <|
  fns_cons Tryz.func66 <|
  fns_cons Tryz.func67 <|
  fns_cons Tryz.func68 <|
  fns_cons Tryz.func70 <|
  fns_cons Tryz.func72 <|
  fns_cons Tryz.func73 <|
  fns_cons Tryz.func74 <|
  fns_cons Tryz.func75 <|
  fns_cons Tryz.func77 <|
  fns_cons Tryz.func78 <|
  fns_cons Tryz.func108 <|
  fns_cons Tryz.func109 <|
  fns_cons Tryz.func113 <|
  fns_cons Tryz.func115 <|
  fns_cons Tryz.func116 <|
  fns_cons Tryz.func118 <|
  fns_cons Tryz.func121 <|
  fns_cons Tryz.func122 <|
  fns_cons Tryz.func123 <|
  fns_cons Tryz.func125 <|
  fns_cons Tryz.func131 <|
  fns_cons Tryz.func149 <|
  fns_cons Tryz.func150 <|
  fns_cons Tryz.func153 <|
  fns_cons Tryz.func154 <|
  fns_cons Tryz.func155 <|
  fns_cons Tryz.func157 <|
  fns_cons Tryz.func159 <|
  fns_cons Tryz.func165 <|
  fns_cons Tryz.func166 <|
  fns_cons Tryz.func167 <|
  fns_cons Tryz.func168 <|
  fns_cons Tryz.func169 <|
  fns_cons Tryz.func170 <|
  fns_cons Tryz.func171 <|
  fns_cons Tryz.func179 <|
  fns_cons Tryz.func180 <|
  fns_cons Tryz.func181 <|
  fns_cons Tryz.func182 <|
  fns_cons Tryz.func183 <|
  fns_cons Tryz.func184 <|
  fns_cons Tryz.func185 <|
  fns_cons Tryz.func186 <|
  fns_cons Tryz.func190 <|
  fns_cons Tryz.func192 <|
  fns_cons Tryz.func193 <|
  fns_cons Tryz.func194 <|
  fns_cons Tryz.func195 <|
  fns_cons Tryz.func196 <|
  fns_cons Tryz.func197 <|
  fns_cons Tryz.func167 <|
  fns_nil
noncomputable def evs11 : Nat → Option Ev.Spec := evs tab fns11 kpa11 100000 ext11 60
theorem evs11_ok : GOK Tryz.prog evs11 := evs_ok tab_ok mixed fns11_ok (by kernel_rfl) ext11_ok 60
theorem aw11_eq : evalFn tab evs11 (fun _ => none) (kpa11 11) 100000 Tryz.f11 [] [] trueR = some () := by
  kernel_rfl
noncomputable def F_law09_Sane (fuel : Nat) (k0 : (Bool) → Option Ans) : Option Ans := k0 true
abbrev YF11 : Type := ((Bool) → Option Ans) → Option Ans
def mt11 : List Ev.SV → List Ev.Ob → Bool := fun args objs => match args, objs with
  | [], [] => true
  | _, _ => false
noncomputable def spg11 (F : YF11) : Ev.Spec := fun args objs k => match args, objs with
  | [], [] => F (fun r => k (.c (.bool r), []))
  | _, _ => none
noncomputable def spec11 (fuel : Nat) : Ev.Spec := spg11 (F_law09_Sane fuel)
theorem ok11 (fuel : Nat) : FnOK Tryz.prog 11 (spec11 fuel) := by
  intro args objs kk r h
  unfold spec11 spg11 at h
  split at h
  · exact true_ok (fn_ok (fuel := 100000) tab_ok evs11_ok mixed Tryz.func11 (kp := kpa11 11) (J := fun _ => none) (c := (Tryz.f11.body).getD .skip) rfl (fun q hq => by rw [obl_none] at hq; cases hq)) aw11_eq h
  · cases h
end Go.Proofs.YtmjeeaemmbkioaaGreat

set_option linter.unusedVariables false
set_option linter.unusedSimpArgs false
set_option maxRecDepth 100000
set_option maxHeartbeats 2000000
namespace Go.Proofs.YtmjeeaemmbkioaaGreat
open Go Ev
def kp126 (i : Nat) : Option (List Nat) := Ev.look i []
noncomputable def Gg126 (f : Nat) : Option Ev.Spec := Ev.look f []
noncomputable def G126 (fuel : Nat) : Nat → Option Ev.Spec := Gg126
noncomputable def J126 (fuel : Nat) (i : Nat) : Option Ev.Blk := Ev.look i []
noncomputable def F_ref05_Sides (fuel : Nat) (x0 : Int) (x1 : Int) (k0 : (Bool) → Option Ans) : Option Ans :=
  bif Decidable.decide (x0 ≥ (0 : Int)) then
   bif Decidable.decide (x1 ≥ (0 : Int)) then
    bif Decidable.decide (x0 ≤ (200 : Int)) then
     bif Decidable.decide (x1 ≤ (200 : Int)) then
      k0 (Decidable.decide (Go.IntKind.i64.wrap (x0 * x1) ≤ (8192 : Int)))
     else
      k0 Bool.false
    else
     k0 Bool.false
   else
    k0 Bool.false
  else
   k0 Bool.false
abbrev YF126 : Type := (Int) → (Int) → ((Bool) → Option Ans) → Option Ans
theorem F126_eq (fuel : Nat) (x0 : Int) (x1 : Int) (k : Ev.Cont) : evalFn tab (G126 fuel) (J126 fuel) kp126 fuel Tryz.f126 [.c (.int .i64 x0), .c (.int .i64 x1)] [] k = F_ref05_Sides fuel x0 x1 (fun r => match r with | r0 => k (.c (.bool r0), [])) := by
  kernel_rfl
theorem hG126 (fuel : Nat) : GOK Tryz.prog (G126 fuel) :=
  gok_nil
theorem fok126 (fuel : Nat) : FnOK Tryz.prog 126 (evalFn tab (G126 fuel) (J126 fuel) kp126 fuel Tryz.f126) :=
  fn_ok tab_ok (hG126 fuel) mixed Tryz.func126 (c := (Tryz.f126.body).getD .skip) rfl (fun q hq => by
    rw [(by kernel_rfl : obl (J126 fuel) ((Tryz.f126.body).getD .skip) = [])] at hq
    cases hq)
noncomputable def mt126 : List Ev.SV → List Ev.Ob → Bool := fun args objs => match args, objs with
  | [.c (.int .i64 _), .c (.int .i64 _)], [] => true
  | _, _ => false
noncomputable def spg126 (F : YF126) : Ev.Spec := fun args objs k => match args, objs with
  | [.c (.int .i64 x0), .c (.int .i64 x1)], [] => bif true then F x0 x1 (fun r => match r with | r0 => k (.c (.bool r0), [])) else none
  | _, _ => none
noncomputable def spec126 (fuel : Nat) : Ev.Spec := spg126 (F_ref05_Sides fuel)
theorem ok126 (fuel : Nat) : FnOK Tryz.prog 126 (spec126 fuel) := by
  intro args objs kk r h
  unfold spec126 spg126 at h
  split at h
  · skip
    obtain ⟨hb, h⟩ := cond_some' h
    simp only [Bool.and_eq_true, Nat.beq_eq, decide_eq_true_eq] at hb
    clear hb
    exact fok126 fuel _ _ kk r ((F126_eq fuel _ _ kk).trans h)
  · cases h
end Go.Proofs.YtmjeeaemmbkioaaGreat

set_option linter.unusedVariables false
set_option linter.unusedSimpArgs false
set_option maxRecDepth 100000
set_option maxHeartbeats 2000000
namespace Go.Proofs.YtmjeeaemmbkioaaGreat
open Go Ev
def kp79 (i : Nat) : Option (List Nat) := Ev.look i [(4, [1, 3]), (100000, []), (400000, [2])]
noncomputable def Gg79 (f126 : YF126) (f : Nat) : Option Ev.Spec := Ev.look f [(126, spg126 f126)]
noncomputable def G79 (fuel : Nat) : Nat → Option Ev.Spec := Gg79 (F_ref05_Sides fuel)
noncomputable def S_ref05_Valid_0 (fuel : Nat) (v : Int × Int × Int × (List Int)) (c : (Int × Int × Int × (List Int)) → Option Ans) (B : (Bool → Option Ans) × (Unit → Option Ans)) : Option Ans := match v, B with
  | (x0, x1, x2, x3), (ret, b) =>
   bif Decidable.decide (x0 < (↑x3.length : Int)) then
      bif Decidable.decide ((0 : Int) ≤ x0 ∧ x0 < (↑x3.length : Int)) then
      bif Decidable.decide (x3.getD x0.toNat (0 : Int) > (1 : Int)) then
        ret Bool.false
       else
        c (Go.IntKind.i64.wrap (x0 + (1 : Int)), x1, x2, x3)
      else none
     else
      b ()
noncomputable def L_ref05_Valid_0 (fuel : Nat) (v : Int × Int × Int × (List Int)) (ret : (Bool → Option Ans)) (b : (Unit → Option Ans)) : Option Ans := iter (S_ref05_Valid_0 fuel) fuel v (ret, b)
noncomputable def J79_0 (fuel : Nat) (i : Nat) : Option Ev.Blk := Ev.look i []
noncomputable def T79_0 (v : Int × Int × Int × (List Int)) : Ev.St := match v with | (x0, x1, x2, x3) => ⟨[(1, .c (.ptr 0 0)), (3, .c (.int .i64 x0))], [(0, .cells 46 [.int .i64 x1, .int .i64 x2, .sl (.int .u8) x3])], 1, 0⟩
noncomputable def E79_0 (K : Ev.Ex → Ev.St → Option Ans) : (Bool → Option Ans) × (Unit → Option Ans) := ((fun v => match v with | x0 => K .ret ⟨[(2, .c (.bool x0))], [], 0, 0⟩), (fun v => match v with | () => K .normal ⟨[], [], 0, 0⟩))
theorem S79_0_okg (fuel : Nat) (f126 : YF126) (R : Ev.St → Option Ans) (K : Ev.Ex → Ev.St → Option Ans) (x0 : Int) (x1 : Int) (x2 : Int) (x3 : (List Int)) : evalCode tab (Gg79 f126) (J79_0 fuel) kp79 fuel (bodyOf 0 Tryz.f79) (T79_0 (x0, x1, x2, x3)) (lc kp79 4 0 R K) = (fun (c : (Int × Int × Int × (List Int)) → Option Ans) (B : (Bool → Option Ans) × (Unit → Option Ans)) => match B with
  | (ret, b) =>
   bif Decidable.decide (x0 < (↑x3.length : Int)) then
      bif Decidable.decide ((0 : Int) ≤ x0 ∧ x0 < (↑x3.length : Int)) then
      bif Decidable.decide (x3.getD x0.toNat (0 : Int) > (1 : Int)) then
        ret Bool.false
       else
        c (Go.IntKind.i64.wrap (x0 + (1 : Int)), x1, x2, x3)
      else none
     else
      b ()) (fun v => R (T79_0 v)) (E79_0 K) := by
  kernel_rfl
theorem S79_0_ok (fuel : Nat) (R : Ev.St → Option Ans) (K : Ev.Ex → Ev.St → Option Ans) (x0 : Int) (x1 : Int) (x2 : Int) (x3 : (List Int)) : evalCode tab (G79 fuel) (J79_0 fuel) kp79 fuel (bodyOf 0 Tryz.f79) (T79_0 (x0, x1, x2, x3)) (lc kp79 4 0 R K) = S_ref05_Valid_0 fuel (x0, x1, x2, x3) (fun v => R (T79_0 v)) (E79_0 K) :=
  S79_0_okg fuel (F_ref05_Sides fuel) R K x0 x1 x2 x3
noncomputable def B79_0 (fuel : Nat) : Ev.Blk := fun st K => match canonO (kp79 4) st with
  | some s => (match s with
    | ⟨[(q0, .c (.ptr q1 q2)), (q3, .c (.int .i64 x0))], [(q4, .cells q5 [.int .i64 x1, .int .i64 x2, .sl (.int .u8) x3])], q6, q7⟩ => bif Nat.beq q0 1 && Nat.beq q1 0 && Nat.beq q2 0 && Nat.beq q3 3 && Nat.beq q4 0 && Nat.beq q5 46 && Nat.beq q6 1 && Nat.beq q7 0 then iter (S_ref05_Valid_0 fuel) fuel (x0, x1, x2, x3) (E79_0 K) else none
    | _ => none)
  | none => none
theorem B79_0_ok (fuel : Nat) (st : Ev.St) (K : Ev.Ex → Ev.St → Option Ans) (r : Ans) (h : B79_0 fuel st K = some r) : evalCode tab (G79 fuel) (J79_0 fuel) kp79 fuel (.block 0 (.loop (bodyOf 0 Tryz.f79))) st K = some r := by
  unfold B79_0 at h
  split at h
  · rename_i s hs
    split at h
    · skip
      obtain ⟨hb, h⟩ := cond_some' h
      simp only [Bool.and_eq_true, Nat.beq_eq, decide_eq_true_eq] at hb
      obtain ⟨⟨⟨⟨⟨⟨⟨rfl, rfl⟩, rfl⟩, rfl⟩, rfl⟩, rfl⟩, rfl⟩, rfl⟩ := hb
      exact blk_loop (S := T79_0) (ks := E79_0) (step := S_ref05_Valid_0 fuel) (v := (_, _, _, _)) (by kernel_rfl) (by kernel_rfl) (fun R K v => by obtain ⟨x0, x1, x2, x3⟩ := v; exact S79_0_ok fuel R K x0 x1 x2 x3) hs h
    · cases h
  · cases h
noncomputable def J79 (fuel : Nat) (i : Nat) : Option Ev.Blk := Ev.look i [(100000, B79_0 fuel)]
noncomputable def F_ref05_Valid (fuel : Nat) (x0 : Int) (x1 : Int) (x2 : (List Int)) (k0 : (Bool) → Option Ans) : Option Ans :=
  (F_ref05_Sides fuel (x0) (x1)
    (fun y2 =>
      bif !y2 then
       k0 Bool.false
      else
       bif (↑x2.length : Int) != Go.IntKind.i64.wrap (x0 * x1) then
        k0 Bool.false
       else
        (L_ref05_Valid_0 fuel ((0 : Int), x0, x1, x2)
          (fun ret0_0 =>
            k0 ret0_0)
          (fun () =>
            k0 Bool.true))))
abbrev YF79 : Type := (Int) → (Int) → ((List Int)) → ((Bool) → Option Ans) → Option Ans
theorem F79_eqg (fuel : Nat) (f126 : YF126) (x0 : Int) (x1 : Int) (x2 : (List Int)) (k : Ev.Cont) : evalFn tab (Gg79 f126) (J79 fuel) kp79 fuel Tryz.f79 [.agg [.int .i64 x0, .int .i64 x1, .sl (.int .u8) x2]] [] k = (fun  (k0 : (Bool) → Option Ans) =>
  (f126 (x0) (x1)
    (fun y2 =>
      bif !y2 then
       k0 Bool.false
      else
       bif (↑x2.length : Int) != Go.IntKind.i64.wrap (x0 * x1) then
        k0 Bool.false
       else
        (L_ref05_Valid_0 fuel ((0 : Int), x0, x1, x2)
          (fun ret0_0 =>
            k0 ret0_0)
          (fun () =>
            k0 Bool.true))))) (fun r => match r with | r0 => k (.c (.bool r0), [])) := by
  kernel_rfl
theorem F79_eq (fuel : Nat) (x0 : Int) (x1 : Int) (x2 : (List Int)) (k : Ev.Cont) : evalFn tab (G79 fuel) (J79 fuel) kp79 fuel Tryz.f79 [.agg [.int .i64 x0, .int .i64 x1, .sl (.int .u8) x2]] [] k = F_ref05_Valid fuel x0 x1 x2 (fun r => match r with | r0 => k (.c (.bool r0), [])) :=
  F79_eqg fuel (F_ref05_Sides fuel) x0 x1 x2 k
theorem hG79 (fuel : Nat) : GOK Tryz.prog (G79 fuel) :=
  gok_cons ⟨ok126 fuel, enters_of Tryz.func126 (by kernel_rfl) rfl⟩ <|
  gok_nil
theorem B79_0_blk (fuel : Nat) : BlkOK Tryz.prog Tryz.f79.ntmps (.block 0 (.loop (bodyOf 0 Tryz.f79))) (B79_0 fuel) :=
  blk_of (blk_of_code tab_ok (hG79 fuel) mixed (J := J79_0 fuel) (kp := kp79) (fuel := fuel) (by kernel_rfl) (fun q hq => by
    rw [(by kernel_rfl : obl (J79_0 fuel) (.block 0 (.loop (bodyOf 0 Tryz.f79))) = [])] at hq
    cases hq)) (B79_0_ok fuel)
theorem fok79 (fuel : Nat) : FnOK Tryz.prog 79 (evalFn tab (G79 fuel) (J79 fuel) kp79 fuel Tryz.f79) :=
  fn_ok tab_ok (hG79 fuel) mixed Tryz.func79 (c := (Tryz.f79.body).getD .skip) rfl (fun q hq => by
    rw [(by kernel_rfl : obl (J79 fuel) ((Tryz.f79.body).getD .skip) = [(.block 0 (.loop (bodyOf 0 Tryz.f79)), B79_0 fuel)])] at hq
    simp only [List.mem_cons, List.not_mem_nil, or_false] at hq
    subst hq
    · exact B79_0_blk fuel)
noncomputable def mt79 : List Ev.SV → List Ev.Ob → Bool := fun args objs => match args, objs with
  | [.agg [.int .i64 _, .int .i64 _, .sl (.int .u8) _]], [] => true
  | _, _ => false
noncomputable def spg79 (F : YF79) : Ev.Spec := fun args objs k => match args, objs with
  | [.agg [.int .i64 x0, .int .i64 x1, .sl (.int .u8) x2]], [] => bif true then F x0 x1 x2 (fun r => match r with | r0 => k (.c (.bool r0), [])) else none
  | _, _ => none
noncomputable def spec79 (fuel : Nat) : Ev.Spec := spg79 (F_ref05_Valid fuel)
theorem ok79 (fuel : Nat) : FnOK Tryz.prog 79 (spec79 fuel) := by
  intro args objs kk r h
  unfold spec79 spg79 at h
  split at h
  · skip
    obtain ⟨hb, h⟩ := cond_some' h
    simp only [Bool.and_eq_true, Nat.beq_eq, decide_eq_true_eq] at hb
    clear hb
    exact fok79 fuel _ _ kk r ((F79_eq fuel _ _ _ kk).trans h)
  · cases h
end Go.Proofs.YtmjeeaemmbkioaaGreat

set_option linter.unusedVariables false
set_option linter.unusedSimpArgs false
set_option maxRecDepth 100000
set_option maxHeartbeats 2000000
namespace Go.Proofs.YtmjeeaemmbkioaaGreat
open Go Ev
def kp39 (i : Nat) : Option (List Nat) := Ev.look i []
noncomputable def Gg39 (f79 : YF79) (f : Nat) : Option Ev.Spec := Ev.look f [(79, spg79 f79)]
noncomputable def G39 (fuel : Nat) : Nat → Option Ev.Spec := Gg39 (F_ref05_Valid fuel)
noncomputable def J39 (fuel : Nat) (i : Nat) : Option Ev.Blk := Ev.look i []
noncomputable def F_ref09_IsShape (fuel : Nat) (x0 : Int) (x1 : Int) (x2 : (List Int)) (k0 : (Bool) → Option Ans) : Option Ans :=
  (F_ref05_Valid fuel (x0) (x1) (x2)
    (fun y2 =>
      bif y2 then
       bif Decidable.decide (x0 ≥ (1 : Int)) then
        bif Decidable.decide (x1 ≥ (1 : Int)) then
         bif Decidable.decide (x0 ≤ (40 : Int)) then
          k0 (Decidable.decide (x1 ≤ (40 : Int)))
         else
          k0 Bool.false
        else
         k0 Bool.false
       else
        k0 Bool.false
      else
       k0 Bool.false))
abbrev YF39 : Type := (Int) → (Int) → ((List Int)) → ((Bool) → Option Ans) → Option Ans
theorem F39_eqg (fuel : Nat) (f79 : YF79) (x0 : Int) (x1 : Int) (x2 : (List Int)) (k : Ev.Cont) : evalFn tab (Gg39 f79) (J39 fuel) kp39 fuel Tryz.f39 [.agg [.int .i64 x0, .int .i64 x1, .sl (.int .u8) x2]] [] k = (fun  (k0 : (Bool) → Option Ans) =>
  (f79 (x0) (x1) (x2)
    (fun y2 =>
      bif y2 then
       bif Decidable.decide (x0 ≥ (1 : Int)) then
        bif Decidable.decide (x1 ≥ (1 : Int)) then
         bif Decidable.decide (x0 ≤ (40 : Int)) then
          k0 (Decidable.decide (x1 ≤ (40 : Int)))
         else
          k0 Bool.false
        else
         k0 Bool.false
       else
        k0 Bool.false
      else
       k0 Bool.false))) (fun r => match r with | r0 => k (.c (.bool r0), [])) := by
  kernel_rfl
theorem F39_eq (fuel : Nat) (x0 : Int) (x1 : Int) (x2 : (List Int)) (k : Ev.Cont) : evalFn tab (G39 fuel) (J39 fuel) kp39 fuel Tryz.f39 [.agg [.int .i64 x0, .int .i64 x1, .sl (.int .u8) x2]] [] k = F_ref09_IsShape fuel x0 x1 x2 (fun r => match r with | r0 => k (.c (.bool r0), [])) :=
  F39_eqg fuel (F_ref05_Valid fuel) x0 x1 x2 k
theorem hG39 (fuel : Nat) : GOK Tryz.prog (G39 fuel) :=
  gok_cons ⟨ok79 fuel, enters_of Tryz.func79 (by kernel_rfl) rfl⟩ <|
  gok_nil
theorem fok39 (fuel : Nat) : FnOK Tryz.prog 39 (evalFn tab (G39 fuel) (J39 fuel) kp39 fuel Tryz.f39) :=
  fn_ok tab_ok (hG39 fuel) mixed Tryz.func39 (c := (Tryz.f39.body).getD .skip) rfl (fun q hq => by
    rw [(by kernel_rfl : obl (J39 fuel) ((Tryz.f39.body).getD .skip) = [])] at hq
    cases hq)
noncomputable def mt39 : List Ev.SV → List Ev.Ob → Bool := fun args objs => match args, objs with
  | [.agg [.int .i64 _, .int .i64 _, .sl (.int .u8) _]], [] => true
  | _, _ => false
noncomputable def spg39 (F : YF39) : Ev.Spec := fun args objs k => match args, objs with
  | [.agg [.int .i64 x0, .int .i64 x1, .sl (.int .u8) x2]], [] => bif true then F x0 x1 x2 (fun r => match r with | r0 => k (.c (.bool r0), [])) else none
  | _, _ => none
noncomputable def spec39 (fuel : Nat) : Ev.Spec := spg39 (F_ref09_IsShape fuel)
theorem ok39 (fuel : Nat) : FnOK Tryz.prog 39 (spec39 fuel) := by
  intro args objs kk r h
  unfold spec39 spg39 at h
  split at h
  · skip
    obtain ⟨hb, h⟩ := cond_some' h
    simp only [Bool.and_eq_true, Nat.beq_eq, decide_eq_true_eq] at hb
    clear hb
    exact fok39 fuel _ _ kk r ((F39_eq fuel _ _ _ kk).trans h)
  · cases h
end Go.Proofs.YtmjeeaemmbkioaaGreat

set_option linter.unusedVariables false
set_option linter.unusedSimpArgs false
set_option maxRecDepth 100000
set_option maxHeartbeats 2000000
namespace Go.Proofs.YtmjeeaemmbkioaaGreat
open Go Ev
def kp41 (i : Nat) : Option (List Nat) := Ev.look i [(3, [1, 5, 6]), (100000, [5]), (400000, [4])]
noncomputable def Gg41 (f : Nat) : Option Ev.Spec := Ev.look f []
noncomputable def G41 (fuel : Nat) : Nat → Option Ev.Spec := Gg41
noncomputable def S_ref09_all_0 (fuel : Nat) (v : (List ((Int × (Int × (List Int))) × Int)) × Int × (List (Int × (Int × (List Int))))) (c : ((List ((Int × (Int × (List Int))) × Int)) × Int × (List (Int × (Int × (List Int))))) → Option Ans) (B : ((List (Int × (Int × (List Int)))) → Option Ans)) : Option Ans := match v, B with
  | (x0, x1, x2), b =>
   bif Decidable.decide (x1 < (↑x0.length : Int)) then
      bif Decidable.decide ((0 : Int) ≤ x1 ∧ x1 < (↑x0.length : Int)) then
      bif Decidable.decide ((x2.length + (1 : Nat)) * (40 : Nat) ≤ (140737488355328 : Nat) ∧ x2.length + (1 : Nat) ≤ (140737488355328 : Nat)) then
       c (x0, Go.IntKind.i64.wrap (x1 + (1 : Int)), x2 ++ [((x0.getD x1.toNat (((0 : Int), (0 : Int), []), (0 : Int))).fst.fst, (x0.getD x1.toNat (((0 : Int), (0 : Int), []), (0 : Int))).fst.snd.fst, (x0.getD x1.toNat (((0 : Int), (0 : Int), []), (0 : Int))).fst.snd.snd)])
       else none
      else none
     else
      b x2
noncomputable def L_ref09_all_0 (fuel : Nat) (v : (List ((Int × (Int × (List Int))) × Int)) × Int × (List (Int × (Int × (List Int))))) (b : ((List (Int × (Int × (List Int)))) → Option Ans)) : Option Ans := iter (S_ref09_all_0 fuel) fuel v b
noncomputable def J41_0 (fuel : Nat) (i : Nat) : Option Ev.Blk := Ev.look i []
noncomputable def T41_0 (v : (List ((Int × (Int × (List Int))) × Int)) × Int × (List (Int × (Int × (List Int))))) : Ev.St := match v with | (x0, x1, x2) => ⟨[(1, .c (.sl (.pair (.pair (.int .i64) (.pair (.int .i64) (.sl (.int .u8)))) (.int .i64)) x0)), (5, .c (.own 0)), (6, .c (.int .i64 x1))], [(0, .vec 46 (.pair (.int .i64) (.pair (.int .i64) (.sl (.int .u8)))) x2 true)], 1, 0⟩
noncomputable def E41_0 (K : Ev.Ex → Ev.St → Option Ans) : ((List (Int × (Int × (List Int)))) → Option Ans) := (fun v => match v with | x0 => K .normal ⟨[(5, .c (.own 0))], [(0, .vec 46 (.pair (.int .i64) (.pair (.int .i64) (.sl (.int .u8)))) x0 true)], 1, 0⟩)
theorem S41_0_ok (fuel : Nat) (R : Ev.St → Option Ans) (K : Ev.Ex → Ev.St → Option Ans) (x0 : (List ((Int × (Int × (List Int))) × Int))) (x1 : Int) (x2 : (List (Int × (Int × (List Int))))) : evalCode tab (G41 fuel) (J41_0 fuel) kp41 fuel (bodyOf 0 Tryz.f41) (T41_0 (x0, x1, x2)) (lc kp41 3 0 R K) = S_ref09_all_0 fuel (x0, x1, x2) (fun v => R (T41_0 v)) (E41_0 K) := by
  kernel_rfl
noncomputable def B41_0 (fuel : Nat) : Ev.Blk := fun st K => match canonO (kp41 3) st with
  | some s => (match s with
    | ⟨[(q0, .c (.sl (.pair (.pair (.int .i64) (.pair (.int .i64) (.sl (.int .u8)))) (.int .i64)) x0)), (q1, .c (.own q2)), (q3, .c (.int .i64 x1))], [(q4, .vec q5 (.pair (.int .i64) (.pair (.int .i64) (.sl (.int .u8)))) x2 true)], q6, q7⟩ => bif Nat.beq q0 1 && Nat.beq q1 5 && Nat.beq q2 0 && Nat.beq q3 6 && Nat.beq q4 0 && Nat.beq q5 46 && Nat.beq q6 1 && Nat.beq q7 0 then iter (S_ref09_all_0 fuel) fuel (x0, x1, x2) (E41_0 K) else none
    | _ => none)
  | none => none
theorem B41_0_ok (fuel : Nat) (st : Ev.St) (K : Ev.Ex → Ev.St → Option Ans) (r : Ans) (h : B41_0 fuel st K = some r) : evalCode tab (G41 fuel) (J41_0 fuel) kp41 fuel (.block 0 (.loop (bodyOf 0 Tryz.f41))) st K = some r := by
  unfold B41_0 at h
  split at h
  · rename_i s hs
    split at h
    · skip
      obtain ⟨hb, h⟩ := cond_some' h
      simp only [Bool.and_eq_true, Nat.beq_eq, decide_eq_true_eq] at hb
      obtain ⟨⟨⟨⟨⟨⟨⟨rfl, rfl⟩, rfl⟩, rfl⟩, rfl⟩, rfl⟩, rfl⟩, rfl⟩ := hb
      exact blk_loop (S := T41_0) (ks := E41_0) (step := S_ref09_all_0 fuel) (v := (_, _, _)) (by kernel_rfl) (by kernel_rfl) (fun R K v => by obtain ⟨x0, x1, x2⟩ := v; exact S41_0_ok fuel R K x0 x1 x2) hs h
    · cases h
  · cases h
noncomputable def J41 (fuel : Nat) (i : Nat) : Option Ev.Blk := Ev.look i [(100000, B41_0 fuel)]
noncomputable def F_ref09_all (fuel : Nat) (x0 : (List (Int × Int × (List Int)))) (x1 : (List ((Int × Int × (List Int)) × Int))) (k0 : ((List (Int × (Int × (List Int))))) → Option Ans) : Option Ans :=
  bif Decidable.decide (((0 : Nat) + x0.length) * (40 : Nat) ≤ (140737488355328 : Nat) ∧ (0 : Nat) + x0.length ≤ (140737488355328 : Nat)) then
  (L_ref09_all_0 fuel (x1, (0 : Int), [] ++ x0)
     (fun b0_0 =>
       k0 b0_0))
  else none
abbrev YF41 : Type := ((List (Int × Int × (List Int)))) → ((List ((Int × Int × (List Int)) × Int))) → (((List (Int × (Int × (List Int))))) → Option Ans) → Option Ans
theorem F41_eq (fuel : Nat) (x0 : (List (Int × Int × (List Int)))) (x1 : (List ((Int × Int × (List Int)) × Int))) (k : Ev.Cont) : evalFn tab (G41 fuel) (J41 fuel) kp41 fuel Tryz.f41 [.c (.sl (.pair (.int .i64) (.pair (.int .i64) (.sl (.int .u8)))) x0), .c (.sl (.pair (.pair (.int .i64) (.pair (.int .i64) (.sl (.int .u8)))) (.int .i64)) x1)] [] k = F_ref09_all fuel x0 x1 (fun r => match r with | r0 => k (.c (.own 0), [.vec 46 (.pair (.int .i64) (.pair (.int .i64) (.sl (.int .u8)))) r0 true])) := by
  kernel_rfl
theorem hG41 (fuel : Nat) : GOK Tryz.prog (G41 fuel) :=
  gok_nil
theorem B41_0_blk (fuel : Nat) : BlkOK Tryz.prog Tryz.f41.ntmps (.block 0 (.loop (bodyOf 0 Tryz.f41))) (B41_0 fuel) :=
  blk_of (blk_of_code tab_ok (hG41 fuel) mixed (J := J41_0 fuel) (kp := kp41) (fuel := fuel) (by kernel_rfl) (fun q hq => by
    rw [(by kernel_rfl : obl (J41_0 fuel) (.block 0 (.loop (bodyOf 0 Tryz.f41))) = [])] at hq
    cases hq)) (B41_0_ok fuel)
theorem fok41 (fuel : Nat) : FnOK Tryz.prog 41 (evalFn tab (G41 fuel) (J41 fuel) kp41 fuel Tryz.f41) :=
  fn_ok tab_ok (hG41 fuel) mixed Tryz.func41 (c := (Tryz.f41.body).getD .skip) rfl (fun q hq => by
    rw [(by kernel_rfl : obl (J41 fuel) ((Tryz.f41.body).getD .skip) = [(.block 0 (.loop (bodyOf 0 Tryz.f41)), B41_0 fuel)])] at hq
    simp only [List.mem_cons, List.not_mem_nil, or_false] at hq
    subst hq
    · exact B41_0_blk fuel)
noncomputable def mt41 : List Ev.SV → List Ev.Ob → Bool := fun args objs => match args, objs with
  | [.c (.sl (.pair (.int .i64) (.pair (.int .i64) (.sl (.int .u8)))) _), .c (.sl (.pair (.pair (.int .i64) (.pair (.int .i64) (.sl (.int .u8)))) (.int .i64)) _)], [] => true
  | _, _ => false
noncomputable def spg41 (F : YF41) : Ev.Spec := fun args objs k => match args, objs with
  | [.c (.sl (.pair (.int .i64) (.pair (.int .i64) (.sl (.int .u8)))) x0), .c (.sl (.pair (.pair (.int .i64) (.pair (.int .i64) (.sl (.int .u8)))) (.int .i64)) x1)], [] => bif true then F x0 x1 (fun r => match r with | r0 => k (.c (.own 0), [.vec 46 (.pair (.int .i64) (.pair (.int .i64) (.sl (.int .u8)))) r0 true])) else none
  | _, _ => none
noncomputable def spec41 (fuel : Nat) : Ev.Spec := spg41 (F_ref09_all fuel)
theorem ok41 (fuel : Nat) : FnOK Tryz.prog 41 (spec41 fuel) := by
  intro args objs kk r h
  unfold spec41 spg41 at h
  split at h
  · skip
    obtain ⟨hb, h⟩ := cond_some' h
    simp only [Bool.and_eq_true, Nat.beq_eq, decide_eq_true_eq] at hb
    clear hb
    exact fok41 fuel _ _ kk r ((F41_eq fuel _ _ kk).trans h)
  · cases h
end Go.Proofs.YtmjeeaemmbkioaaGreat

set_option linter.unusedVariables false
set_option linter.unusedSimpArgs false
set_option maxRecDepth 100000
set_option maxHeartbeats 2000000
namespace Go.Proofs.YtmjeeaemmbkioaaGreat
open Go Ev
def kp40 (i : Nat) : Option (List Nat) := Ev.look i [(2, [0, 1, 2, 7]), (7, [0, 1, 2, 8]), (100000, [0, 1, 2]), (100002, [0, 1, 2]), (200009, [1]), (400000, [6]), (400002, [6])]
noncomputable def Gg40 (f39 : YF39) (f : Nat) : Option Ev.Spec := Ev.look f [(39, spg39 f39)]
noncomputable def G40 (fuel : Nat) : Nat → Option Ev.Spec := Gg40 (F_ref09_IsShape fuel)
noncomputable def S_ref09_shapes_0 (fuel : Nat) (v : (List (Int × (Int × (List Int)))) × (List ((Int × (Int × (List Int))) × Int)) × (List Bool) × Int) (c : ((List (Int × (Int × (List Int)))) × (List ((Int × (Int × (List Int))) × Int)) × (List Bool) × Int) → Option Ans) (B : (Int → Option Ans) × ((List (Int × (Int × (List Int)))) × (List ((Int × (Int × (List Int))) × Int)) × (List Bool) → Option Ans)) : Option Ans := match v, B with
  | (x0, x1, x2, x3), (ret, b) =>
   bif Decidable.decide (x3 < (↑x1.length : Int)) then
      bif Decidable.decide ((0 : Int) ≤ x3 ∧ x3 < (↑x1.length : Int)) then
      (F_ref09_IsShape fuel ((x1.getD x3.toNat (((0 : Int), (0 : Int), []), (0 : Int))).fst.fst) ((x1.getD x3.toNat (((0 : Int), (0 : Int), []), (0 : Int))).fst.snd.fst) ((x1.getD x3.toNat (((0 : Int), (0 : Int), []), (0 : Int))).fst.snd.snd)
         (fun y4 =>
           bif !y4 then
            ret ((30 : Int))
           else
            c (x0, x1, x2, Go.IntKind.i64.wrap (x3 + (1 : Int)))))
      else none
     else
      b (x0, x1, x2)
noncomputable def L_ref09_shapes_0 (fuel : Nat) (v : (List (Int × (Int × (List Int)))) × (List ((Int × (Int × (List Int))) × Int)) × (List Bool) × Int) (ret : (Int → Option Ans)) (b : ((List (Int × (Int × (List Int)))) × (List ((Int × (Int × (List Int))) × Int)) × (List Bool) → Option Ans)) : Option Ans := iter (S_ref09_shapes_0 fuel) fuel v (ret, b)
noncomputable def J40_0 (fuel : Nat) (i : Nat) : Option Ev.Blk := Ev.look i []
noncomputable def T40_0 (v : (List (Int × (Int × (List Int)))) × (List ((Int × (Int × (List Int))) × Int)) × (List Bool) × Int) : Ev.St := match v with | (x0, x1, x2, x3) => ⟨[(0, .c (.sl (.pair (.int .i64) (.pair (.int .i64) (.sl (.int .u8)))) x0)), (1, .c (.sl (.pair (.pair (.int .i64) (.pair (.int .i64) (.sl (.int .u8)))) (.int .i64)) x1)), (2, .c (.sl .bool x2)), (7, .c (.int .i64 x3))], [], 0, 0⟩
noncomputable def E40_0 (K : Ev.Ex → Ev.St → Option Ans) : (Int → Option Ans) × ((List (Int × (Int × (List Int)))) × (List ((Int × (Int × (List Int))) × Int)) × (List Bool) → Option Ans) := ((fun v => match v with | x0 => K .ret ⟨[(6, .c (.int .i64 x0))], [], 0, 0⟩), (fun v => match v with | (x0, x1, x2) => K .normal ⟨[(0, .c (.sl (.pair (.int .i64) (.pair (.int .i64) (.sl (.int .u8)))) x0)), (1, .c (.sl (.pair (.pair (.int .i64) (.pair (.int .i64) (.sl (.int .u8)))) (.int .i64)) x1)), (2, .c (.sl .bool x2))], [], 0, 0⟩))
theorem S40_0_okg (fuel : Nat) (f39 : YF39) (R : Ev.St → Option Ans) (K : Ev.Ex → Ev.St → Option Ans) (x0 : (List (Int × (Int × (List Int))))) (x1 : (List ((Int × (Int × (List Int))) × Int))) (x2 : (List Bool)) (x3 : Int) : evalCode tab (Gg40 f39) (J40_0 fuel) kp40 fuel (bodyOf 0 Tryz.f40) (T40_0 (x0, x1, x2, x3)) (lc kp40 2 0 R K) = (fun (c : ((List (Int × (Int × (List Int)))) × (List ((Int × (Int × (List Int))) × Int)) × (List Bool) × Int) → Option Ans) (B : (Int → Option Ans) × ((List (Int × (Int × (List Int)))) × (List ((Int × (Int × (List Int))) × Int)) × (List Bool) → Option Ans)) => match B with
  | (ret, b) =>
   bif Decidable.decide (x3 < (↑x1.length : Int)) then
      bif Decidable.decide ((0 : Int) ≤ x3 ∧ x3 < (↑x1.length : Int)) then
      (f39 ((x1.getD x3.toNat (((0 : Int), (0 : Int), []), (0 : Int))).fst.fst) ((x1.getD x3.toNat (((0 : Int), (0 : Int), []), (0 : Int))).fst.snd.fst) ((x1.getD x3.toNat (((0 : Int), (0 : Int), []), (0 : Int))).fst.snd.snd)
         (fun y4 =>
           bif !y4 then
            ret ((30 : Int))
           else
            c (x0, x1, x2, Go.IntKind.i64.wrap (x3 + (1 : Int)))))
      else none
     else
      b (x0, x1, x2)) (fun v => R (T40_0 v)) (E40_0 K) := by
  kernel_rfl
theorem S40_0_ok (fuel : Nat) (R : Ev.St → Option Ans) (K : Ev.Ex → Ev.St → Option Ans) (x0 : (List (Int × (Int × (List Int))))) (x1 : (List ((Int × (Int × (List Int))) × Int))) (x2 : (List Bool)) (x3 : Int) : evalCode tab (G40 fuel) (J40_0 fuel) kp40 fuel (bodyOf 0 Tryz.f40) (T40_0 (x0, x1, x2, x3)) (lc kp40 2 0 R K) = S_ref09_shapes_0 fuel (x0, x1, x2, x3) (fun v => R (T40_0 v)) (E40_0 K) :=
  S40_0_okg fuel (F_ref09_IsShape fuel) R K x0 x1 x2 x3
noncomputable def B40_0 (fuel : Nat) : Ev.Blk := fun st K => match canonO (kp40 2) st with
  | some s => (match s with
    | ⟨[(q0, .c (.sl (.pair (.int .i64) (.pair (.int .i64) (.sl (.int .u8)))) x0)), (q1, .c (.sl (.pair (.pair (.int .i64) (.pair (.int .i64) (.sl (.int .u8)))) (.int .i64)) x1)), (q2, .c (.sl .bool x2)), (q3, .c (.int .i64 x3))], [], q4, q5⟩ => bif Nat.beq q0 0 && Nat.beq q1 1 && Nat.beq q2 2 && Nat.beq q3 7 && Nat.beq q4 0 && Nat.beq q5 0 then iter (S_ref09_shapes_0 fuel) fuel (x0, x1, x2, x3) (E40_0 K) else none
    | _ => none)
  | none => none
theorem B40_0_ok (fuel : Nat) (st : Ev.St) (K : Ev.Ex → Ev.St → Option Ans) (r : Ans) (h : B40_0 fuel st K = some r) : evalCode tab (G40 fuel) (J40_0 fuel) kp40 fuel (.block 0 (.loop (bodyOf 0 Tryz.f40))) st K = some r := by
  unfold B40_0 at h
  split at h
  · rename_i s hs
    split at h
    · skip
      obtain ⟨hb, h⟩ := cond_some' h
      simp only [Bool.and_eq_true, Nat.beq_eq, decide_eq_true_eq] at hb
      obtain ⟨⟨⟨⟨⟨rfl, rfl⟩, rfl⟩, rfl⟩, rfl⟩, rfl⟩ := hb
      exact blk_loop (S := T40_0) (ks := E40_0) (step := S_ref09_shapes_0 fuel) (v := (_, _, _, _)) (by kernel_rfl) (by kernel_rfl) (fun R K v => by obtain ⟨x0, x1, x2, x3⟩ := v; exact S40_0_ok fuel R K x0 x1 x2 x3) hs h
    · cases h
  · cases h
noncomputable def S_ref09_shapes_2 (fuel : Nat) (v : (List (Int × (Int × (List Int)))) × (List ((Int × (Int × (List Int))) × Int)) × (List Bool) × Int) (c : ((List (Int × (Int × (List Int)))) × (List ((Int × (Int × (List Int))) × Int)) × (List Bool) × Int) → Option Ans) (B : (Int → Option Ans) × ((List (Int × (Int × (List Int)))) × (List ((Int × (Int × (List Int))) × Int)) × (List Bool) → Option Ans)) : Option Ans := match v, B with
  | (x0, x1, x2, x3), (ret, b) =>
   bif Decidable.decide (x3 < (↑x1.length : Int)) then
      bif Decidable.decide ((0 : Int) ≤ x3 ∧ x3 < (↑x1.length : Int)) then
      bif Decidable.decide ((x1.getD x3.toNat (((0 : Int), (0 : Int), []), (0 : Int))).snd < (-1 : Int)) then
        ret ((2 : Int))
       else
        bif Decidable.decide ((0 : Int) ≤ x3 ∧ x3 < (↑x1.length : Int)) then
        bif Decidable.decide ((x1.getD x3.toNat (((0 : Int), (0 : Int), []), (0 : Int))).snd ≥ Go.IntKind.i64.wrap ((↑x0.length : Int) + x3)) then
          ret ((2 : Int))
         else
          bif Decidable.decide (x3 > (0 : Int)) then
           bif Decidable.decide ((0 : Int) ≤ x3 ∧ x3 < (↑x1.length : Int)) then
           bif Decidable.decide ((0 : Int) ≤ Go.IntKind.i64.wrap (x3 - (1 : Int)) ∧ Go.IntKind.i64.wrap (x3 - (1 : Int)) < (↑x1.length : Int)) then
            bif Decidable.decide ((x1.getD x3.toNat (((0 : Int), (0 : Int), []), (0 : Int))).fst.snd.fst < (x1.getD (Go.IntKind.i64.wrap (x3 - (1 : Int))).toNat (((0 : Int), (0 : Int), []), (0 : Int))).fst.snd.fst) then
              ret ((2 : Int))
             else
              c (x0, x1, x2, Go.IntKind.i64.wrap (x3 + (1 : Int)))
            else none
           else none
          else
           c (x0, x1, x2, Go.IntKind.i64.wrap (x3 + (1 : Int)))
        else none
      else none
     else
      b (x0, x1, x2)
noncomputable def L_ref09_shapes_2 (fuel : Nat) (v : (List (Int × (Int × (List Int)))) × (List ((Int × (Int × (List Int))) × Int)) × (List Bool) × Int) (ret : (Int → Option Ans)) (b : ((List (Int × (Int × (List Int)))) × (List ((Int × (Int × (List Int))) × Int)) × (List Bool) → Option Ans)) : Option Ans := iter (S_ref09_shapes_2 fuel) fuel v (ret, b)
noncomputable def J40_2 (fuel : Nat) (i : Nat) : Option Ev.Blk := Ev.look i [(100000, B40_0 fuel)]
noncomputable def T40_2 (v : (List (Int × (Int × (List Int)))) × (List ((Int × (Int × (List Int))) × Int)) × (List Bool) × Int) : Ev.St := match v with | (x0, x1, x2, x3) => ⟨[(0, .c (.sl (.pair (.int .i64) (.pair (.int .i64) (.sl (.int .u8)))) x0)), (1, .c (.sl (.pair (.pair (.int .i64) (.pair (.int .i64) (.sl (.int .u8)))) (.int .i64)) x1)), (2, .c (.sl .bool x2)), (8, .c (.int .i64 x3))], [], 0, 0⟩
noncomputable def E40_2 (K : Ev.Ex → Ev.St → Option Ans) : (Int → Option Ans) × ((List (Int × (Int × (List Int)))) × (List ((Int × (Int × (List Int))) × Int)) × (List Bool) → Option Ans) := ((fun v => match v with | x0 => K .ret ⟨[(6, .c (.int .i64 x0))], [], 0, 0⟩), (fun v => match v with | (x0, x1, x2) => K .normal ⟨[(0, .c (.sl (.pair (.int .i64) (.pair (.int .i64) (.sl (.int .u8)))) x0)), (1, .c (.sl (.pair (.pair (.int .i64) (.pair (.int .i64) (.sl (.int .u8)))) (.int .i64)) x1)), (2, .c (.sl .bool x2))], [], 0, 0⟩))
theorem S40_2_okg (fuel : Nat) (f39 : YF39) (R : Ev.St → Option Ans) (K : Ev.Ex → Ev.St → Option Ans) (x0 : (List (Int × (Int × (List Int))))) (x1 : (List ((Int × (Int × (List Int))) × Int))) (x2 : (List Bool)) (x3 : Int) : evalCode tab (Gg40 f39) (J40_2 fuel) kp40 fuel (bodyOf 2 Tryz.f40) (T40_2 (x0, x1, x2, x3)) (lc kp40 7 2 R K) = (fun (c : ((List (Int × (Int × (List Int)))) × (List ((Int × (Int × (List Int))) × Int)) × (List Bool) × Int) → Option Ans) (B : (Int → Option Ans) × ((List (Int × (Int × (List Int)))) × (List ((Int × (Int × (List Int))) × Int)) × (List Bool) → Option Ans)) => match B with
  | (ret, b) =>
   bif Decidable.decide (x3 < (↑x1.length : Int)) then
      bif Decidable.decide ((0 : Int) ≤ x3 ∧ x3 < (↑x1.length : Int)) then
      bif Decidable.decide ((x1.getD x3.toNat (((0 : Int), (0 : Int), []), (0 : Int))).snd < (-1 : Int)) then
        ret ((2 : Int))
       else
        bif Decidable.decide ((0 : Int) ≤ x3 ∧ x3 < (↑x1.length : Int)) then
        bif Decidable.decide ((x1.getD x3.toNat (((0 : Int), (0 : Int), []), (0 : Int))).snd ≥ Go.IntKind.i64.wrap ((↑x0.length : Int) + x3)) then
          ret ((2 : Int))
         else
          bif Decidable.decide (x3 > (0 : Int)) then
           bif Decidable.decide ((0 : Int) ≤ x3 ∧ x3 < (↑x1.length : Int)) then
           bif Decidable.decide ((0 : Int) ≤ Go.IntKind.i64.wrap (x3 - (1 : Int)) ∧ Go.IntKind.i64.wrap (x3 - (1 : Int)) < (↑x1.length : Int)) then
            bif Decidable.decide ((x1.getD x3.toNat (((0 : Int), (0 : Int), []), (0 : Int))).fst.snd.fst < (x1.getD (Go.IntKind.i64.wrap (x3 - (1 : Int))).toNat (((0 : Int), (0 : Int), []), (0 : Int))).fst.snd.fst) then
              ret ((2 : Int))
             else
              c (x0, x1, x2, Go.IntKind.i64.wrap (x3 + (1 : Int)))
            else none
           else none
          else
           c (x0, x1, x2, Go.IntKind.i64.wrap (x3 + (1 : Int)))
        else none
      else none
     else
      b (x0, x1, x2)) (fun v => R (T40_2 v)) (E40_2 K) := by
  kernel_rfl
theorem S40_2_ok (fuel : Nat) (R : Ev.St → Option Ans) (K : Ev.Ex → Ev.St → Option Ans) (x0 : (List (Int × (Int × (List Int))))) (x1 : (List ((Int × (Int × (List Int))) × Int))) (x2 : (List Bool)) (x3 : Int) : evalCode tab (G40 fuel) (J40_2 fuel) kp40 fuel (bodyOf 2 Tryz.f40) (T40_2 (x0, x1, x2, x3)) (lc kp40 7 2 R K) = S_ref09_shapes_2 fuel (x0, x1, x2, x3) (fun v => R (T40_2 v)) (E40_2 K) :=
  S40_2_okg fuel (F_ref09_IsShape fuel) R K x0 x1 x2 x3
noncomputable def B40_2 (fuel : Nat) : Ev.Blk := fun st K => match canonO (kp40 7) st with
  | some s => (match s with
    | ⟨[(q0, .c (.sl (.pair (.int .i64) (.pair (.int .i64) (.sl (.int .u8)))) x0)), (q1, .c (.sl (.pair (.pair (.int .i64) (.pair (.int .i64) (.sl (.int .u8)))) (.int .i64)) x1)), (q2, .c (.sl .bool x2)), (q3, .c (.int .i64 x3))], [], q4, q5⟩ => bif Nat.beq q0 0 && Nat.beq q1 1 && Nat.beq q2 2 && Nat.beq q3 8 && Nat.beq q4 0 && Nat.beq q5 0 then iter (S_ref09_shapes_2 fuel) fuel (x0, x1, x2, x3) (E40_2 K) else none
    | _ => none)
  | none => none
theorem B40_2_ok (fuel : Nat) (st : Ev.St) (K : Ev.Ex → Ev.St → Option Ans) (r : Ans) (h : B40_2 fuel st K = some r) : evalCode tab (G40 fuel) (J40_2 fuel) kp40 fuel (.block 2 (.loop (bodyOf 2 Tryz.f40))) st K = some r := by
  unfold B40_2 at h
  split at h
  · rename_i s hs
    split at h
    · skip
      obtain ⟨hb, h⟩ := cond_some' h
      simp only [Bool.and_eq_true, Nat.beq_eq, decide_eq_true_eq] at hb
      obtain ⟨⟨⟨⟨⟨rfl, rfl⟩, rfl⟩, rfl⟩, rfl⟩, rfl⟩ := hb
      exact blk_loop (S := T40_2) (ks := E40_2) (step := S_ref09_shapes_2 fuel) (v := (_, _, _, _)) (by kernel_rfl) (by kernel_rfl) (fun R K v => by obtain ⟨x0, x1, x2, x3⟩ := v; exact S40_2_ok fuel R K x0 x1 x2 x3) hs h
    · cases h
  · cases h
noncomputable def J40 (fuel : Nat) (i : Nat) : Option Ev.Blk := Ev.look i [(100000, B40_0 fuel), (100002, B40_2 fuel)]
noncomputable def F_ref09_shapes (fuel : Nat) (x0 : (List (Int × Int × (List Int)))) (x1 : (List ((Int × Int × (List Int)) × Int))) (x2 : (List Bool)) (k0 : (Int) → Option Ans) : Option Ans :=
  (L_ref09_shapes_0 fuel (x0, x1, x2, (0 : Int))
    (fun ret0_0 =>
      k0 ret0_0)
    (fun (b0_0, b0_1, b0_2) =>
      (L_ref09_shapes_2 fuel (b0_0, b0_1, b0_2, (0 : Int))
        (fun ret2_0 =>
          k0 ret2_0)
        (fun (b2_0, b2_1, b2_2) =>
          bif Decidable.decide (Go.IntKind.i64.wrap ((↑b2_0.length : Int) + (↑b2_1.length : Int)) > (60 : Int)) then
           k0 ((2 : Int))
          else
           bif (↑b2_2.length : Int) != Go.IntKind.i64.wrap ((↑b2_0.length : Int) + (↑b2_1.length : Int)) then
            k0 ((2 : Int))
           else
            k0 ((0 : Int))))))
abbrev YF40 : Type := ((List (Int × Int × (List Int)))) → ((List ((Int × Int × (List Int)) × Int))) → ((List Bool)) → ((Int) → Option Ans) → Option Ans
theorem F40_eqg (fuel : Nat) (f39 : YF39) (x0 : (List (Int × Int × (List Int)))) (x1 : (List ((Int × Int × (List Int)) × Int))) (x2 : (List Bool)) (k : Ev.Cont) : evalFn tab (Gg40 f39) (J40 fuel) kp40 fuel Tryz.f40 [.c (.sl (.pair (.int .i64) (.pair (.int .i64) (.sl (.int .u8)))) x0), .c (.sl (.pair (.pair (.int .i64) (.pair (.int .i64) (.sl (.int .u8)))) (.int .i64)) x1), .c (.sl .bool x2)] [] k = (fun  (k0 : (Int) → Option Ans) =>
  (L_ref09_shapes_0 fuel (x0, x1, x2, (0 : Int))
    (fun ret0_0 =>
      k0 ret0_0)
    (fun (b0_0, b0_1, b0_2) =>
      (L_ref09_shapes_2 fuel (b0_0, b0_1, b0_2, (0 : Int))
        (fun ret2_0 =>
          k0 ret2_0)
        (fun (b2_0, b2_1, b2_2) =>
          bif Decidable.decide (Go.IntKind.i64.wrap ((↑b2_0.length : Int) + (↑b2_1.length : Int)) > (60 : Int)) then
           k0 ((2 : Int))
          else
           bif (↑b2_2.length : Int) != Go.IntKind.i64.wrap ((↑b2_0.length : Int) + (↑b2_1.length : Int)) then
            k0 ((2 : Int))
           else
            k0 ((0 : Int))))))) (fun r => match r with | r0 => k (.c (.int .i64 r0), [])) := by
  kernel_rfl
theorem F40_eq (fuel : Nat) (x0 : (List (Int × Int × (List Int)))) (x1 : (List ((Int × Int × (List Int)) × Int))) (x2 : (List Bool)) (k : Ev.Cont) : evalFn tab (G40 fuel) (J40 fuel) kp40 fuel Tryz.f40 [.c (.sl (.pair (.int .i64) (.pair (.int .i64) (.sl (.int .u8)))) x0), .c (.sl (.pair (.pair (.int .i64) (.pair (.int .i64) (.sl (.int .u8)))) (.int .i64)) x1), .c (.sl .bool x2)] [] k = F_ref09_shapes fuel x0 x1 x2 (fun r => match r with | r0 => k (.c (.int .i64 r0), [])) :=
  F40_eqg fuel (F_ref09_IsShape fuel) x0 x1 x2 k
theorem hG40 (fuel : Nat) : GOK Tryz.prog (G40 fuel) :=
  gok_cons ⟨ok39 fuel, enters_of Tryz.func39 (by kernel_rfl) rfl⟩ <|
  gok_nil
theorem B40_0_blk (fuel : Nat) : BlkOK Tryz.prog Tryz.f40.ntmps (.block 0 (.loop (bodyOf 0 Tryz.f40))) (B40_0 fuel) :=
  blk_of (blk_of_code tab_ok (hG40 fuel) mixed (J := J40_0 fuel) (kp := kp40) (fuel := fuel) (by kernel_rfl) (fun q hq => by
    rw [(by kernel_rfl : obl (J40_0 fuel) (.block 0 (.loop (bodyOf 0 Tryz.f40))) = [])] at hq
    cases hq)) (B40_0_ok fuel)
theorem B40_2_blk (fuel : Nat) : BlkOK Tryz.prog Tryz.f40.ntmps (.block 2 (.loop (bodyOf 2 Tryz.f40))) (B40_2 fuel) :=
  blk_of (blk_of_code tab_ok (hG40 fuel) mixed (J := J40_2 fuel) (kp := kp40) (fuel := fuel) (by kernel_rfl) (fun q hq => by
    rw [(by kernel_rfl : obl (J40_2 fuel) (.block 2 (.loop (bodyOf 2 Tryz.f40))) = [])] at hq
    cases hq)) (B40_2_ok fuel)
theorem fok40 (fuel : Nat) : FnOK Tryz.prog 40 (evalFn tab (G40 fuel) (J40 fuel) kp40 fuel Tryz.f40) :=
  fn_ok tab_ok (hG40 fuel) mixed Tryz.func40 (c := (Tryz.f40.body).getD .skip) rfl (fun q hq => by
    rw [(by kernel_rfl : obl (J40 fuel) ((Tryz.f40.body).getD .skip) = [(.block 0 (.loop (bodyOf 0 Tryz.f40)), B40_0 fuel), (.block 2 (.loop (bodyOf 2 Tryz.f40)), B40_2 fuel)])] at hq
    simp only [List.mem_cons, List.not_mem_nil, or_false] at hq
    rcases hq with rfl | rfl
    · exact B40_0_blk fuel
    · exact B40_2_blk fuel)
noncomputable def mt40 : List Ev.SV → List Ev.Ob → Bool := fun args objs => match args, objs with
  | [.c (.sl (.pair (.int .i64) (.pair (.int .i64) (.sl (.int .u8)))) _), .c (.sl (.pair (.pair (.int .i64) (.pair (.int .i64) (.sl (.int .u8)))) (.int .i64)) _), .c (.sl .bool _)], [] => true
  | _, _ => false
noncomputable def spg40 (F : YF40) : Ev.Spec := fun args objs k => match args, objs with
  | [.c (.sl (.pair (.int .i64) (.pair (.int .i64) (.sl (.int .u8)))) x0), .c (.sl (.pair (.pair (.int .i64) (.pair (.int .i64) (.sl (.int .u8)))) (.int .i64)) x1), .c (.sl .bool x2)], [] => bif true then F x0 x1 x2 (fun r => match r with | r0 => k (.c (.int .i64 r0), [])) else none
  | _, _ => none
noncomputable def spec40 (fuel : Nat) : Ev.Spec := spg40 (F_ref09_shapes fuel)
theorem ok40 (fuel : Nat) : FnOK Tryz.prog 40 (spec40 fuel) := by
  intro args objs kk r h
  unfold spec40 spg40 at h
  split at h
  · skip
    obtain ⟨hb, h⟩ := cond_some' h
    simp only [Bool.and_eq_true, Nat.beq_eq, decide_eq_true_eq] at hb
    clear hb
    exact fok40 fuel _ _ kk r ((F40_eq fuel _ _ _ kk).trans h)
  · cases h
end Go.Proofs.YtmjeeaemmbkioaaGreat

set_option linter.unusedVariables false
set_option linter.unusedSimpArgs false
set_option maxRecDepth 100000
set_option maxHeartbeats 2000000
namespace Go.Proofs.YtmjeeaemmbkioaaGreat
open Go Ev
def kp14 (i : Nat) : Option (List Nat) := Ev.look i [(2, [0, 1, 2, 8]), (12, [2, 10, 11, 12]), (100000, [0, 1, 2]), (100002, [11]), (400000, [6, 7]), (400002, [6, 7])]
noncomputable def Gg14 (f39 : YF39) (f40 : YF40) (f41 : YF41) (f : Nat) : Option Ev.Spec := Ev.look f [(39, spg39 f39), (40, spg40 f40), (41, spg41 f41)]
noncomputable def G14 (fuel : Nat) : Nat → Option Ev.Spec := Gg14 (F_ref09_IsShape fuel) (F_ref09_shapes fuel) (F_ref09_all fuel)
noncomputable def S_ref09_Exported_0 (fuel : Nat) (v : (List (Int × (Int × (List Int)))) × (List ((Int × (Int × (List Int))) × Int)) × (List Bool) × Int) (c : ((List (Int × (Int × (List Int)))) × (List ((Int × (Int × (List Int))) × Int)) × (List Bool) × Int) → Option Ans) (B : (Int × (List (Int × (Int × (List Int)))) → Option Ans) × ((List (Int × (Int × (List Int)))) × (List ((Int × (Int × (List Int))) × Int)) × (List Bool) → Option Ans)) : Option Ans := match v, B with
  | (x0, x1, x2, x3), (ret, b) =>
   bif Decidable.decide (x3 < (↑x0.length : Int)) then
      bif Decidable.decide ((0 : Int) ≤ x3 ∧ x3 < (↑x0.length : Int)) then
      (F_ref09_IsShape fuel ((x0.getD x3.toNat ((0 : Int), (0 : Int), [])).fst) ((x0.getD x3.toNat ((0 : Int), (0 : Int), [])).snd.fst) ((x0.getD x3.toNat ((0 : Int), (0 : Int), [])).snd.snd)
         (fun y4 =>
           bif !y4 then
            ret ((30 : Int), [])
           else
            c (x0, x1, x2, Go.IntKind.i64.wrap (x3 + (1 : Int)))))
      else none
     else
      b (x0, x1, x2)
noncomputable def L_ref09_Exported_0 (fuel : Nat) (v : (List (Int × (Int × (List Int)))) × (List ((Int × (Int × (List Int))) × Int)) × (List Bool) × Int) (ret : (Int × (List (Int × (Int × (List Int)))) → Option Ans)) (b : ((List (Int × (Int × (List Int)))) × (List ((Int × (Int × (List Int))) × Int)) × (List Bool) → Option Ans)) : Option Ans := iter (S_ref09_Exported_0 fuel) fuel v (ret, b)
noncomputable def J14_0 (fuel : Nat) (i : Nat) : Option Ev.Blk := Ev.look i []
noncomputable def T14_0 (v : (List (Int × (Int × (List Int)))) × (List ((Int × (Int × (List Int))) × Int)) × (List Bool) × Int) : Ev.St := match v with | (x0, x1, x2, x3) => ⟨[(0, .c (.sl (.pair (.int .i64) (.pair (.int .i64) (.sl (.int .u8)))) x0)), (1, .c (.sl (.pair (.pair (.int .i64) (.pair (.int .i64) (.sl (.int .u8)))) (.int .i64)) x1)), (2, .c (.sl .bool x2)), (8, .c (.int .i64 x3))], [], 0, 0⟩
noncomputable def E14_0 (K : Ev.Ex → Ev.St → Option Ans) : (Int × (List (Int × (Int × (List Int)))) → Option Ans) × ((List (Int × (Int × (List Int)))) × (List ((Int × (Int × (List Int))) × Int)) × (List Bool) → Option Ans) := ((fun v => match v with | (x0, x1) => K .ret ⟨[(6, .c (.own 0)), (7, .c (.int .i64 x0))], [(0, .vec 46 (.pair (.int .i64) (.pair (.int .i64) (.sl (.int .u8)))) x1 true)], 1, 0⟩), (fun v => match v with | (x0, x1, x2) => K .normal ⟨[(0, .c (.sl (.pair (.int .i64) (.pair (.int .i64) (.sl (.int .u8)))) x0)), (1, .c (.sl (.pair (.pair (.int .i64) (.pair (.int .i64) (.sl (.int .u8)))) (.int .i64)) x1)), (2, .c (.sl .bool x2))], [], 0, 0⟩))
theorem S14_0_okg (fuel : Nat) (f39 : YF39) (f40 : YF40) (f41 : YF41) (R : Ev.St → Option Ans) (K : Ev.Ex → Ev.St → Option Ans) (x0 : (List (Int × (Int × (List Int))))) (x1 : (List ((Int × (Int × (List Int))) × Int))) (x2 : (List Bool)) (x3 : Int) : evalCode tab (Gg14 f39 f40 f41) (J14_0 fuel) kp14 fuel (bodyOf 0 Tryz.f14) (T14_0 (x0, x1, x2, x3)) (lc kp14 2 0 R K) = (fun (c : ((List (Int × (Int × (List Int)))) × (List ((Int × (Int × (List Int))) × Int)) × (List Bool) × Int) → Option Ans) (B : (Int × (List (Int × (Int × (List Int)))) → Option Ans) × ((List (Int × (Int × (List Int)))) × (List ((Int × (Int × (List Int))) × Int)) × (List Bool) → Option Ans)) => match B with
  | (ret, b) =>
   bif Decidable.decide (x3 < (↑x0.length : Int)) then
      bif Decidable.decide ((0 : Int) ≤ x3 ∧ x3 < (↑x0.length : Int)) then
      (f39 ((x0.getD x3.toNat ((0 : Int), (0 : Int), [])).fst) ((x0.getD x3.toNat ((0 : Int), (0 : Int), [])).snd.fst) ((x0.getD x3.toNat ((0 : Int), (0 : Int), [])).snd.snd)
         (fun y4 =>
           bif !y4 then
            ret ((30 : Int), [])
           else
            c (x0, x1, x2, Go.IntKind.i64.wrap (x3 + (1 : Int)))))
      else none
     else
      b (x0, x1, x2)) (fun v => R (T14_0 v)) (E14_0 K) := by
  kernel_rfl
theorem S14_0_ok (fuel : Nat) (R : Ev.St → Option Ans) (K : Ev.Ex → Ev.St → Option Ans) (x0 : (List (Int × (Int × (List Int))))) (x1 : (List ((Int × (Int × (List Int))) × Int))) (x2 : (List Bool)) (x3 : Int) : evalCode tab (G14 fuel) (J14_0 fuel) kp14 fuel (bodyOf 0 Tryz.f14) (T14_0 (x0, x1, x2, x3)) (lc kp14 2 0 R K) = S_ref09_Exported_0 fuel (x0, x1, x2, x3) (fun v => R (T14_0 v)) (E14_0 K) :=
  S14_0_okg fuel (F_ref09_IsShape fuel) (F_ref09_shapes fuel) (F_ref09_all fuel) R K x0 x1 x2 x3
noncomputable def B14_0 (fuel : Nat) : Ev.Blk := fun st K => match canonO (kp14 2) st with
  | some s => (match s with
    | ⟨[(q0, .c (.sl (.pair (.int .i64) (.pair (.int .i64) (.sl (.int .u8)))) x0)), (q1, .c (.sl (.pair (.pair (.int .i64) (.pair (.int .i64) (.sl (.int .u8)))) (.int .i64)) x1)), (q2, .c (.sl .bool x2)), (q3, .c (.int .i64 x3))], [], q4, q5⟩ => bif Nat.beq q0 0 && Nat.beq q1 1 && Nat.beq q2 2 && Nat.beq q3 8 && Nat.beq q4 0 && Nat.beq q5 0 then iter (S_ref09_Exported_0 fuel) fuel (x0, x1, x2, x3) (E14_0 K) else none
    | _ => none)
  | none => none
theorem B14_0_ok (fuel : Nat) (st : Ev.St) (K : Ev.Ex → Ev.St → Option Ans) (r : Ans) (h : B14_0 fuel st K = some r) : evalCode tab (G14 fuel) (J14_0 fuel) kp14 fuel (.block 0 (.loop (bodyOf 0 Tryz.f14))) st K = some r := by
  unfold B14_0 at h
  split at h
  · rename_i s hs
    split at h
    · skip
      obtain ⟨hb, h⟩ := cond_some' h
      simp only [Bool.and_eq_true, Nat.beq_eq, decide_eq_true_eq] at hb
      obtain ⟨⟨⟨⟨⟨rfl, rfl⟩, rfl⟩, rfl⟩, rfl⟩, rfl⟩ := hb
      exact blk_loop (S := T14_0) (ks := E14_0) (step := S_ref09_Exported_0 fuel) (v := (_, _, _, _)) (by kernel_rfl) (by kernel_rfl) (fun R K v => by obtain ⟨x0, x1, x2, x3⟩ := v; exact S14_0_ok fuel R K x0 x1 x2 x3) hs h
    · cases h
  · cases h
noncomputable def S_ref09_Exported_2 (fuel : Nat) (v : (List Bool) × Int × (List (Int × (Int × (List Int)))) × (List (Int × (Int × (List Int))))) (c : ((List Bool) × Int × (List (Int × (Int × (List Int)))) × (List (Int × (Int × (List Int))))) → Option Ans) (B : ((List (Int × (Int × (List Int)))) → Option Ans)) : Option Ans := match v, B with
  | (x0, x1, x2, x3), b =>
   bif Decidable.decide (x1 < (↑x2.length : Int)) then
      bif Decidable.decide ((0 : Int) ≤ x1 ∧ x1 < (↑x0.length : Int)) then
      bif x0.getD x1.toNat Bool.false then
        bif Decidable.decide ((0 : Int) ≤ x1 ∧ x1 < (↑x2.length : Int)) then
        bif Decidable.decide ((x3.length + (1 : Nat)) * (40 : Nat) ≤ (140737488355328 : Nat) ∧ x3.length + (1 : Nat) ≤ (140737488355328 : Nat)) then
         c (x0, Go.IntKind.i64.wrap (x1 + (1 : Int)), x2, x3 ++ [((x2.getD x1.toNat ((0 : Int), (0 : Int), [])).fst, (x2.getD x1.toNat ((0 : Int), (0 : Int), [])).snd.fst, (x2.getD x1.toNat ((0 : Int), (0 : Int), [])).snd.snd)])
         else none
        else none
       else
        c (x0, Go.IntKind.i64.wrap (x1 + (1 : Int)), x2, x3)
      else none
     else
      b x3
noncomputable def L_ref09_Exported_2 (fuel : Nat) (v : (List Bool) × Int × (List (Int × (Int × (List Int)))) × (List (Int × (Int × (List Int))))) (b : ((List (Int × (Int × (List Int)))) → Option Ans)) : Option Ans := iter (S_ref09_Exported_2 fuel) fuel v b
noncomputable def J14_2 (fuel : Nat) (i : Nat) : Option Ev.Blk := Ev.look i [(100000, B14_0 fuel)]
noncomputable def T14_2 (v : (List Bool) × Int × (List (Int × (Int × (List Int)))) × (List (Int × (Int × (List Int))))) : Ev.St := match v with | (x0, x1, x2, x3) => ⟨[(2, .c (.sl .bool x0)), (10, .c (.own 0)), (11, .c (.own 1)), (12, .c (.int .i64 x1))], [(0, .vec 46 (.pair (.int .i64) (.pair (.int .i64) (.sl (.int .u8)))) x2 true), (1, .vec 46 (.pair (.int .i64) (.pair (.int .i64) (.sl (.int .u8)))) x3 true)], 2, 0⟩
noncomputable def E14_2 (K : Ev.Ex → Ev.St → Option Ans) : ((List (Int × (Int × (List Int)))) → Option Ans) := (fun v => match v with | x0 => K .normal ⟨[(11, .c (.own 0))], [(0, .vec 46 (.pair (.int .i64) (.pair (.int .i64) (.sl (.int .u8)))) x0 true)], 1, 0⟩)
theorem S14_2_okg (fuel : Nat) (f39 : YF39) (f40 : YF40) (f41 : YF41) (R : Ev.St → Option Ans) (K : Ev.Ex → Ev.St → Option Ans) (x0 : (List Bool)) (x1 : Int) (x2 : (List (Int × (Int × (List Int))))) (x3 : (List (Int × (Int × (List Int))))) : evalCode tab (Gg14 f39 f40 f41) (J14_2 fuel) kp14 fuel (bodyOf 2 Tryz.f14) (T14_2 (x0, x1, x2, x3)) (lc kp14 12 2 R K) = (fun (c : ((List Bool) × Int × (List (Int × (Int × (List Int)))) × (List (Int × (Int × (List Int))))) → Option Ans) (B : ((List (Int × (Int × (List Int)))) → Option Ans)) => match B with
  | b =>
   bif Decidable.decide (x1 < (↑x2.length : Int)) then
      bif Decidable.decide ((0 : Int) ≤ x1 ∧ x1 < (↑x0.length : Int)) then
      bif x0.getD x1.toNat Bool.false then
        bif Decidable.decide ((0 : Int) ≤ x1 ∧ x1 < (↑x2.length : Int)) then
        bif Decidable.decide ((x3.length + (1 : Nat)) * (40 : Nat) ≤ (140737488355328 : Nat) ∧ x3.length + (1 : Nat) ≤ (140737488355328 : Nat)) then
         c (x0, Go.IntKind.i64.wrap (x1 + (1 : Int)), x2, x3 ++ [((x2.getD x1.toNat ((0 : Int), (0 : Int), [])).fst, (x2.getD x1.toNat ((0 : Int), (0 : Int), [])).snd.fst, (x2.getD x1.toNat ((0 : Int), (0 : Int), [])).snd.snd)])
         else none
        else none
       else
        c (x0, Go.IntKind.i64.wrap (x1 + (1 : Int)), x2, x3)
      else none
     else
      b x3) (fun v => R (T14_2 v)) (E14_2 K) := by
  kernel_rfl
theorem S14_2_ok (fuel : Nat) (R : Ev.St → Option Ans) (K : Ev.Ex → Ev.St → Option Ans) (x0 : (List Bool)) (x1 : Int) (x2 : (List (Int × (Int × (List Int))))) (x3 : (List (Int × (Int × (List Int))))) : evalCode tab (G14 fuel) (J14_2 fuel) kp14 fuel (bodyOf 2 Tryz.f14) (T14_2 (x0, x1, x2, x3)) (lc kp14 12 2 R K) = S_ref09_Exported_2 fuel (x0, x1, x2, x3) (fun v => R (T14_2 v)) (E14_2 K) :=
  S14_2_okg fuel (F_ref09_IsShape fuel) (F_ref09_shapes fuel) (F_ref09_all fuel) R K x0 x1 x2 x3
noncomputable def B14_2 (fuel : Nat) : Ev.Blk := fun st K => match canonO (kp14 12) st with
  | some s => (match s with
    | ⟨[(q0, .c (.sl .bool x0)), (q1, .c (.own q2)), (q3, .c (.own q4)), (q5, .c (.int .i64 x1))], [(q6, .vec q7 (.pair (.int .i64) (.pair (.int .i64) (.sl (.int .u8)))) x2 true), (q8, .vec q9 (.pair (.int .i64) (.pair (.int .i64) (.sl (.int .u8)))) x3 true)], q10, q11⟩ => bif Nat.beq q0 2 && Nat.beq q1 10 && Nat.beq q2 0 && Nat.beq q3 11 && Nat.beq q4 1 && Nat.beq q5 12 && Nat.beq q6 0 && Nat.beq q7 46 && Nat.beq q8 1 && Nat.beq q9 46 && Nat.beq q10 2 && Nat.beq q11 0 then iter (S_ref09_Exported_2 fuel) fuel (x0, x1, x2, x3) (E14_2 K) else none
    | _ => none)
  | none => none
theorem B14_2_ok (fuel : Nat) (st : Ev.St) (K : Ev.Ex → Ev.St → Option Ans) (r : Ans) (h : B14_2 fuel st K = some r) : evalCode tab (G14 fuel) (J14_2 fuel) kp14 fuel (.block 2 (.loop (bodyOf 2 Tryz.f14))) st K = some r := by
  unfold B14_2 at h
  split at h
  · rename_i s hs
    split at h
    · skip
      obtain ⟨hb, h⟩ := cond_some' h
      simp only [Bool.and_eq_true, Nat.beq_eq, decide_eq_true_eq] at hb
      obtain ⟨⟨⟨⟨⟨⟨⟨⟨⟨⟨⟨rfl, rfl⟩, rfl⟩, rfl⟩, rfl⟩, rfl⟩, rfl⟩, rfl⟩, rfl⟩, rfl⟩, rfl⟩, rfl⟩ := hb
      exact blk_loop (S := T14_2) (ks := E14_2) (step := S_ref09_Exported_2 fuel) (v := (_, _, _, _)) (by kernel_rfl) (by kernel_rfl) (fun R K v => by obtain ⟨x0, x1, x2, x3⟩ := v; exact S14_2_ok fuel R K x0 x1 x2 x3) hs h
    · cases h
  · cases h
noncomputable def J14 (fuel : Nat) (i : Nat) : Option Ev.Blk := Ev.look i [(100000, B14_0 fuel), (100002, B14_2 fuel)]
noncomputable def F_ref09_Exported (fuel : Nat) (x0 : (List (Int × Int × (List Int)))) (x1 : (List ((Int × Int × (List Int)) × Int))) (x2 : (List Bool)) (k0 : (Int × (List (Int × (Int × (List Int))))) → Option Ans) : Option Ans :=
  (L_ref09_Exported_0 fuel (x0, x1, x2, (0 : Int))
    (fun (ret0_0, ret0_1) =>
      k0 (ret0_0, ret0_1))
    (fun (b0_0, b0_1, b0_2) =>
      (F_ref09_shapes fuel (b0_0) (b0_1) (b0_2)
        (fun y6 =>
          bif y6 != (0 : Int) then
           k0 (y6, [])
          else
           (F_ref09_all fuel (b0_0) (b0_1)
             (fun y11 =>
               (L_ref09_Exported_2 fuel (b0_2, (0 : Int), y11, [])
                 (fun b2_0 =>
                   k0 ((0 : Int), b2_0)))))))))
abbrev YF14 : Type := ((List (Int × Int × (List Int)))) → ((List ((Int × Int × (List Int)) × Int))) → ((List Bool)) → ((Int × (List (Int × (Int × (List Int))))) → Option Ans) → Option Ans
theorem F14_eqg (fuel : Nat) (f39 : YF39) (f40 : YF40) (f41 : YF41) (x0 : (List (Int × Int × (List Int)))) (x1 : (List ((Int × Int × (List Int)) × Int))) (x2 : (List Bool)) (k : Ev.Cont) : evalFn tab (Gg14 f39 f40 f41) (J14 fuel) kp14 fuel Tryz.f14 [.c (.sl (.pair (.int .i64) (.pair (.int .i64) (.sl (.int .u8)))) x0), .c (.sl (.pair (.pair (.int .i64) (.pair (.int .i64) (.sl (.int .u8)))) (.int .i64)) x1), .c (.sl .bool x2)] [] k = (fun  (k0 : (Int × (List (Int × (Int × (List Int))))) → Option Ans) =>
  (L_ref09_Exported_0 fuel (x0, x1, x2, (0 : Int))
    (fun (ret0_0, ret0_1) =>
      k0 (ret0_0, ret0_1))
    (fun (b0_0, b0_1, b0_2) =>
      (f40 (b0_0) (b0_1) (b0_2)
        (fun y6 =>
          bif y6 != (0 : Int) then
           k0 (y6, [])
          else
           (f41 (b0_0) (b0_1)
             (fun y11 =>
               (L_ref09_Exported_2 fuel (b0_2, (0 : Int), y11, [])
                 (fun b2_0 =>
                   k0 ((0 : Int), b2_0)))))))))) (fun r => match r with | (r0, r1) => k (.tup [(false, [.own 0]), (false, [.int .i64 r0])], [.vec 46 (.pair (.int .i64) (.pair (.int .i64) (.sl (.int .u8)))) r1 true])) := by
  kernel_rfl
theorem F14_eq (fuel : Nat) (x0 : (List (Int × Int × (List Int)))) (x1 : (List ((Int × Int × (List Int)) × Int))) (x2 : (List Bool)) (k : Ev.Cont) : evalFn tab (G14 fuel) (J14 fuel) kp14 fuel Tryz.f14 [.c (.sl (.pair (.int .i64) (.pair (.int .i64) (.sl (.int .u8)))) x0), .c (.sl (.pair (.pair (.int .i64) (.pair (.int .i64) (.sl (.int .u8)))) (.int .i64)) x1), .c (.sl .bool x2)] [] k = F_ref09_Exported fuel x0 x1 x2 (fun r => match r with | (r0, r1) => k (.tup [(false, [.own 0]), (false, [.int .i64 r0])], [.vec 46 (.pair (.int .i64) (.pair (.int .i64) (.sl (.int .u8)))) r1 true])) :=
  F14_eqg fuel (F_ref09_IsShape fuel) (F_ref09_shapes fuel) (F_ref09_all fuel) x0 x1 x2 k
theorem hG14 (fuel : Nat) : GOK Tryz.prog (G14 fuel) :=
  gok_cons ⟨ok39 fuel, enters_of Tryz.func39 (by kernel_rfl) rfl⟩ <|
  gok_cons ⟨ok40 fuel, enters_of Tryz.func40 (by kernel_rfl) rfl⟩ <|
  gok_cons ⟨ok41 fuel, enters_of Tryz.func41 (by kernel_rfl) rfl⟩ <|
  gok_nil
theorem B14_0_blk (fuel : Nat) : BlkOK Tryz.prog Tryz.f14.ntmps (.block 0 (.loop (bodyOf 0 Tryz.f14))) (B14_0 fuel) :=
  blk_of (blk_of_code tab_ok (hG14 fuel) mixed (J := J14_0 fuel) (kp := kp14) (fuel := fuel) (by kernel_rfl) (fun q hq => by
    rw [(by kernel_rfl : obl (J14_0 fuel) (.block 0 (.loop (bodyOf 0 Tryz.f14))) = [])] at hq
    cases hq)) (B14_0_ok fuel)
theorem B14_2_blk (fuel : Nat) : BlkOK Tryz.prog Tryz.f14.ntmps (.block 2 (.loop (bodyOf 2 Tryz.f14))) (B14_2 fuel) :=
  blk_of (blk_of_code tab_ok (hG14 fuel) mixed (J := J14_2 fuel) (kp := kp14) (fuel := fuel) (by kernel_rfl) (fun q hq => by
    rw [(by kernel_rfl : obl (J14_2 fuel) (.block 2 (.loop (bodyOf 2 Tryz.f14))) = [])] at hq
    cases hq)) (B14_2_ok fuel)
theorem fok14 (fuel : Nat) : FnOK Tryz.prog 14 (evalFn tab (G14 fuel) (J14 fuel) kp14 fuel Tryz.f14) :=
  fn_ok tab_ok (hG14 fuel) mixed Tryz.func14 (c := (Tryz.f14.body).getD .skip) rfl (fun q hq => by
    rw [(by kernel_rfl : obl (J14 fuel) ((Tryz.f14.body).getD .skip) = [(.block 0 (.loop (bodyOf 0 Tryz.f14)), B14_0 fuel), (.block 2 (.loop (bodyOf 2 Tryz.f14)), B14_2 fuel)])] at hq
    simp only [List.mem_cons, List.not_mem_nil, or_false] at hq
    rcases hq with rfl | rfl
    · exact B14_0_blk fuel
    · exact B14_2_blk fuel)
noncomputable def mt14 : List Ev.SV → List Ev.Ob → Bool := fun args objs => match args, objs with
  | [.c (.sl (.pair (.int .i64) (.pair (.int .i64) (.sl (.int .u8)))) _), .c (.sl (.pair (.pair (.int .i64) (.pair (.int .i64) (.sl (.int .u8)))) (.int .i64)) _), .c (.sl .bool _)], [] => true
  | _, _ => false
noncomputable def spg14 (F : YF14) : Ev.Spec := fun args objs k => match args, objs with
  | [.c (.sl (.pair (.int .i64) (.pair (.int .i64) (.sl (.int .u8)))) x0), .c (.sl (.pair (.pair (.int .i64) (.pair (.int .i64) (.sl (.int .u8)))) (.int .i64)) x1), .c (.sl .bool x2)], [] => bif true then F x0 x1 x2 (fun r => match r with | (r0, r1) => k (.tup [(false, [.own 0]), (false, [.int .i64 r0])], [.vec 46 (.pair (.int .i64) (.pair (.int .i64) (.sl (.int .u8)))) r1 true])) else none
  | _, _ => none
noncomputable def spec14 (fuel : Nat) : Ev.Spec := spg14 (F_ref09_Exported fuel)
theorem ok14 (fuel : Nat) : FnOK Tryz.prog 14 (spec14 fuel) := by
  intro args objs kk r h
  unfold spec14 spg14 at h
  split at h
  · skip
    obtain ⟨hb, h⟩ := cond_some' h
    simp only [Bool.and_eq_true, Nat.beq_eq, decide_eq_true_eq] at hb
    clear hb
    exact fok14 fuel _ _ kk r ((F14_eq fuel _ _ _ kk).trans h)
  · cases h
end Go.Proofs.YtmjeeaemmbkioaaGreat

set_option linter.unusedVariables false
set_option linter.unusedSimpArgs false
set_option maxRecDepth 100000
set_option maxHeartbeats 2000000
namespace Go.Proofs.YtmjeeaemmbkioaaGreat
open Go Ev
def kp42 (i : Nat) : Option (List Nat) := Ev.look i []
noncomputable def Gg42 (f : Nat) : Option Ev.Spec := Ev.look f []
noncomputable def G42 (fuel : Nat) : Nat → Option Ev.Spec := Gg42
noncomputable def J42 (fuel : Nat) (i : Nat) : Option Ev.Blk := Ev.look i []
noncomputable def F_ref05_Same (fuel : Nat) (x0 : Int) (x1 : Int) (x2 : (List Int)) (x3 : Int) (x4 : Int) (x5 : (List Int)) (k0 : (Bool) → Option Ans) : Option Ans :=
  bif x0 == x3 then
   bif x1 == x4 then
    k0 ((Go.strOfNums x2).toList == (Go.strOfNums x5).toList)
   else
    k0 Bool.false
  else
   k0 Bool.false
abbrev YF42 : Type := (Int) → (Int) → ((List Int)) → (Int) → (Int) → ((List Int)) → ((Bool) → Option Ans) → Option Ans
theorem F42_eq (fuel : Nat) (x0 : Int) (x1 : Int) (x2 : (List Int)) (x3 : Int) (x4 : Int) (x5 : (List Int)) (k : Ev.Cont) : evalFn tab (G42 fuel) (J42 fuel) kp42 fuel Tryz.f42 [.agg [.int .i64 x0, .int .i64 x1, .sl (.int .u8) x2], .agg [.int .i64 x3, .int .i64 x4, .sl (.int .u8) x5]] [] k = F_ref05_Same fuel x0 x1 x2 x3 x4 x5 (fun r => match r with | r0 => k (.c (.bool r0), [])) := by
  kernel_rfl
theorem hG42 (fuel : Nat) : GOK Tryz.prog (G42 fuel) :=
  gok_nil
theorem fok42 (fuel : Nat) : FnOK Tryz.prog 42 (evalFn tab (G42 fuel) (J42 fuel) kp42 fuel Tryz.f42) :=
  fn_ok tab_ok (hG42 fuel) mixed Tryz.func42 (c := (Tryz.f42.body).getD .skip) rfl (fun q hq => by
    rw [(by kernel_rfl : obl (J42 fuel) ((Tryz.f42.body).getD .skip) = [])] at hq
    cases hq)
noncomputable def mt42 : List Ev.SV → List Ev.Ob → Bool := fun args objs => match args, objs with
  | [.agg [.int .i64 _, .int .i64 _, .sl (.int .u8) _], .agg [.int .i64 _, .int .i64 _, .sl (.int .u8) _]], [] => true
  | _, _ => false
noncomputable def spg42 (F : YF42) : Ev.Spec := fun args objs k => match args, objs with
  | [.agg [.int .i64 x0, .int .i64 x1, .sl (.int .u8) x2], .agg [.int .i64 x3, .int .i64 x4, .sl (.int .u8) x5]], [] => bif true then F x0 x1 x2 x3 x4 x5 (fun r => match r with | r0 => k (.c (.bool r0), [])) else none
  | _, _ => none
noncomputable def spec42 (fuel : Nat) : Ev.Spec := spg42 (F_ref05_Same fuel)
theorem ok42 (fuel : Nat) : FnOK Tryz.prog 42 (spec42 fuel) := by
  intro args objs kk r h
  unfold spec42 spg42 at h
  split at h
  · skip
    obtain ⟨hb, h⟩ := cond_some' h
    simp only [Bool.and_eq_true, Nat.beq_eq, decide_eq_true_eq] at hb
    clear hb
    exact fok42 fuel _ _ kk r ((F42_eq fuel _ _ _ _ _ _ kk).trans h)
  · cases h
end Go.Proofs.YtmjeeaemmbkioaaGreat

set_option linter.unusedVariables false
set_option linter.unusedSimpArgs false
set_option maxRecDepth 100000
set_option maxHeartbeats 2000000
namespace Go.Proofs.YtmjeeaemmbkioaaGreat
open Go Ev
def kp15 (i : Nat) : Option (List Nat) := Ev.look i [(4, [0, 1, 5]), (100000, []), (200006, [0, 1]), (400000, [4])]
noncomputable def Gg15 (f42 : YF42) (f : Nat) : Option Ev.Spec := Ev.look f [(42, spg42 f42)]
noncomputable def G15 (fuel : Nat) : Nat → Option Ev.Spec := Gg15 (F_ref05_Same fuel)
noncomputable def S_ref09_SameBitmaps_0 (fuel : Nat) (v : (List (Int × (Int × (List Int)))) × (List (Int × (Int × (List Int)))) × Int) (c : ((List (Int × (Int × (List Int)))) × (List (Int × (Int × (List Int)))) × Int) → Option Ans) (B : (Bool → Option Ans) × (Unit → Option Ans)) : Option Ans := match v, B with
  | (x0, x1, x2), (ret, b) =>
   bif Decidable.decide (x2 < (↑x0.length : Int)) then
      bif Decidable.decide ((0 : Int) ≤ x2 ∧ x2 < (↑x0.length : Int)) then
      bif Decidable.decide ((0 : Int) ≤ x2 ∧ x2 < (↑x1.length : Int)) then
       (F_ref05_Same fuel ((x0.getD x2.toNat ((0 : Int), (0 : Int), [])).fst) ((x0.getD x2.toNat ((0 : Int), (0 : Int), [])).snd.fst) ((x0.getD x2.toNat ((0 : Int), (0 : Int), [])).snd.snd) ((x1.getD x2.toNat ((0 : Int), (0 : Int), [])).fst) ((x1.getD x2.toNat ((0 : Int), (0 : Int), [])).snd.fst) ((x1.getD x2.toNat ((0 : Int), (0 : Int), [])).snd.snd)
          (fun y5 =>
            bif !y5 then
             ret Bool.false
            else
             c (x0, x1, Go.IntKind.i64.wrap (x2 + (1 : Int)))))
       else none
      else none
     else
      b ()
noncomputable def L_ref09_SameBitmaps_0 (fuel : Nat) (v : (List (Int × (Int × (List Int)))) × (List (Int × (Int × (List Int)))) × Int) (ret : (Bool → Option Ans)) (b : (Unit → Option Ans)) : Option Ans := iter (S_ref09_SameBitmaps_0 fuel) fuel v (ret, b)
noncomputable def J15_0 (fuel : Nat) (i : Nat) : Option Ev.Blk := Ev.look i []
noncomputable def T15_0 (v : (List (Int × (Int × (List Int)))) × (List (Int × (Int × (List Int)))) × Int) : Ev.St := match v with | (x0, x1, x2) => ⟨[(0, .c (.sl (.pair (.int .i64) (.pair (.int .i64) (.sl (.int .u8)))) x0)), (1, .c (.sl (.pair (.int .i64) (.pair (.int .i64) (.sl (.int .u8)))) x1)), (5, .c (.int .i64 x2))], [], 0, 0⟩
noncomputable def E15_0 (K : Ev.Ex → Ev.St → Option Ans) : (Bool → Option Ans) × (Unit → Option Ans) := ((fun v => match v with | x0 => K .ret ⟨[(4, .c (.bool x0))], [], 0, 0⟩), (fun v => match v with | () => K .normal ⟨[], [], 0, 0⟩))
theorem S15_0_okg (fuel : Nat) (f42 : YF42) (R : Ev.St → Option Ans) (K : Ev.Ex → Ev.St → Option Ans) (x0 : (List (Int × (Int × (List Int))))) (x1 : (List (Int × (Int × (List Int))))) (x2 : Int) : evalCode tab (Gg15 f42) (J15_0 fuel) kp15 fuel (bodyOf 0 Tryz.f15) (T15_0 (x0, x1, x2)) (lc kp15 4 0 R K) = (fun (c : ((List (Int × (Int × (List Int)))) × (List (Int × (Int × (List Int)))) × Int) → Option Ans) (B : (Bool → Option Ans) × (Unit → Option Ans)) => match B with
  | (ret, b) =>
   bif Decidable.decide (x2 < (↑x0.length : Int)) then
      bif Decidable.decide ((0 : Int) ≤ x2 ∧ x2 < (↑x0.length : Int)) then
      bif Decidable.decide ((0 : Int) ≤ x2 ∧ x2 < (↑x1.length : Int)) then
       (f42 ((x0.getD x2.toNat ((0 : Int), (0 : Int), [])).fst) ((x0.getD x2.toNat ((0 : Int), (0 : Int), [])).snd.fst) ((x0.getD x2.toNat ((0 : Int), (0 : Int), [])).snd.snd) ((x1.getD x2.toNat ((0 : Int), (0 : Int), [])).fst) ((x1.getD x2.toNat ((0 : Int), (0 : Int), [])).snd.fst) ((x1.getD x2.toNat ((0 : Int), (0 : Int), [])).snd.snd)
          (fun y5 =>
            bif !y5 then
             ret Bool.false
            else
             c (x0, x1, Go.IntKind.i64.wrap (x2 + (1 : Int)))))
       else none
      else none
     else
      b ()) (fun v => R (T15_0 v)) (E15_0 K) := by
  kernel_rfl
theorem S15_0_ok (fuel : Nat) (R : Ev.St → Option Ans) (K : Ev.Ex → Ev.St → Option Ans) (x0 : (List (Int × (Int × (List Int))))) (x1 : (List (Int × (Int × (List Int))))) (x2 : Int) : evalCode tab (G15 fuel) (J15_0 fuel) kp15 fuel (bodyOf 0 Tryz.f15) (T15_0 (x0, x1, x2)) (lc kp15 4 0 R K) = S_ref09_SameBitmaps_0 fuel (x0, x1, x2) (fun v => R (T15_0 v)) (E15_0 K) :=
  S15_0_okg fuel (F_ref05_Same fuel) R K x0 x1 x2
noncomputable def B15_0 (fuel : Nat) : Ev.Blk := fun st K => match canonO (kp15 4) st with
  | some s => (match s with
    | ⟨[(q0, .c (.sl (.pair (.int .i64) (.pair (.int .i64) (.sl (.int .u8)))) x0)), (q1, .c (.sl (.pair (.int .i64) (.pair (.int .i64) (.sl (.int .u8)))) x1)), (q2, .c (.int .i64 x2))], [], q3, q4⟩ => bif Nat.beq q0 0 && Nat.beq q1 1 && Nat.beq q2 5 && Nat.beq q3 0 && Nat.beq q4 0 then iter (S_ref09_SameBitmaps_0 fuel) fuel (x0, x1, x2) (E15_0 K) else none
    | _ => none)
  | none => none
theorem B15_0_ok (fuel : Nat) (st : Ev.St) (K : Ev.Ex → Ev.St → Option Ans) (r : Ans) (h : B15_0 fuel st K = some r) : evalCode tab (G15 fuel) (J15_0 fuel) kp15 fuel (.block 0 (.loop (bodyOf 0 Tryz.f15))) st K = some r := by
  unfold B15_0 at h
  split at h
  · rename_i s hs
    split at h
    · skip
      obtain ⟨hb, h⟩ := cond_some' h
      simp only [Bool.and_eq_true, Nat.beq_eq, decide_eq_true_eq] at hb
      obtain ⟨⟨⟨⟨rfl, rfl⟩, rfl⟩, rfl⟩, rfl⟩ := hb
      exact blk_loop (S := T15_0) (ks := E15_0) (step := S_ref09_SameBitmaps_0 fuel) (v := (_, _, _)) (by kernel_rfl) (by kernel_rfl) (fun R K v => by obtain ⟨x0, x1, x2⟩ := v; exact S15_0_ok fuel R K x0 x1 x2) hs h
    · cases h
  · cases h
noncomputable def J15 (fuel : Nat) (i : Nat) : Option Ev.Blk := Ev.look i [(100000, B15_0 fuel)]
noncomputable def F_ref09_SameBitmaps (fuel : Nat) (x0 : (List (Int × Int × (List Int)))) (x1 : (List (Int × Int × (List Int)))) (k0 : (Bool) → Option Ans) : Option Ans :=
  bif (↑x0.length : Int) != (↑x1.length : Int) then
   k0 Bool.false
  else
   (L_ref09_SameBitmaps_0 fuel (x0, x1, (0 : Int))
     (fun ret0_0 =>
       k0 ret0_0)
     (fun () =>
       k0 Bool.true))
abbrev YF15 : Type := ((List (Int × Int × (List Int)))) → ((List (Int × Int × (List Int)))) → ((Bool) → Option Ans) → Option Ans
theorem F15_eqg (fuel : Nat) (f42 : YF42) (x0 : (List (Int × Int × (List Int)))) (x1 : (List (Int × Int × (List Int)))) (k : Ev.Cont) : evalFn tab (Gg15 f42) (J15 fuel) kp15 fuel Tryz.f15 [.c (.sl (.pair (.int .i64) (.pair (.int .i64) (.sl (.int .u8)))) x0), .c (.sl (.pair (.int .i64) (.pair (.int .i64) (.sl (.int .u8)))) x1)] [] k = (fun  (k0 : (Bool) → Option Ans) =>
  bif (↑x0.length : Int) != (↑x1.length : Int) then
   k0 Bool.false
  else
   (L_ref09_SameBitmaps_0 fuel (x0, x1, (0 : Int))
     (fun ret0_0 =>
       k0 ret0_0)
     (fun () =>
       k0 Bool.true))) (fun r => match r with | r0 => k (.c (.bool r0), [])) := by
  kernel_rfl
theorem F15_eq (fuel : Nat) (x0 : (List (Int × Int × (List Int)))) (x1 : (List (Int × Int × (List Int)))) (k : Ev.Cont) : evalFn tab (G15 fuel) (J15 fuel) kp15 fuel Tryz.f15 [.c (.sl (.pair (.int .i64) (.pair (.int .i64) (.sl (.int .u8)))) x0), .c (.sl (.pair (.int .i64) (.pair (.int .i64) (.sl (.int .u8)))) x1)] [] k = F_ref09_SameBitmaps fuel x0 x1 (fun r => match r with | r0 => k (.c (.bool r0), [])) :=
  F15_eqg fuel (F_ref05_Same fuel) x0 x1 k
theorem hG15 (fuel : Nat) : GOK Tryz.prog (G15 fuel) :=
  gok_cons ⟨ok42 fuel, enters_of Tryz.func42 (by kernel_rfl) rfl⟩ <|
  gok_nil
theorem B15_0_blk (fuel : Nat) : BlkOK Tryz.prog Tryz.f15.ntmps (.block 0 (.loop (bodyOf 0 Tryz.f15))) (B15_0 fuel) :=
  blk_of (blk_of_code tab_ok (hG15 fuel) mixed (J := J15_0 fuel) (kp := kp15) (fuel := fuel) (by kernel_rfl) (fun q hq => by
    rw [(by kernel_rfl : obl (J15_0 fuel) (.block 0 (.loop (bodyOf 0 Tryz.f15))) = [])] at hq
    cases hq)) (B15_0_ok fuel)
theorem fok15 (fuel : Nat) : FnOK Tryz.prog 15 (evalFn tab (G15 fuel) (J15 fuel) kp15 fuel Tryz.f15) :=
  fn_ok tab_ok (hG15 fuel) mixed Tryz.func15 (c := (Tryz.f15.body).getD .skip) rfl (fun q hq => by
    rw [(by kernel_rfl : obl (J15 fuel) ((Tryz.f15.body).getD .skip) = [(.block 0 (.loop (bodyOf 0 Tryz.f15)), B15_0 fuel)])] at hq
    simp only [List.mem_cons, List.not_mem_nil, or_false] at hq
    subst hq
    · exact B15_0_blk fuel)
noncomputable def mt15 : List Ev.SV → List Ev.Ob → Bool := fun args objs => match args, objs with
  | [.c (.sl (.pair (.int .i64) (.pair (.int .i64) (.sl (.int .u8)))) _), .c (.sl (.pair (.int .i64) (.pair (.int .i64) (.sl (.int .u8)))) _)], [] => true
  | _, _ => false
noncomputable def spg15 (F : YF15) : Ev.Spec := fun args objs k => match args, objs with
  | [.c (.sl (.pair (.int .i64) (.pair (.int .i64) (.sl (.int .u8)))) x0), .c (.sl (.pair (.int .i64) (.pair (.int .i64) (.sl (.int .u8)))) x1)], [] => bif true then F x0 x1 (fun r => match r with | r0 => k (.c (.bool r0), [])) else none
  | _, _ => none
noncomputable def spec15 (fuel : Nat) : Ev.Spec := spg15 (F_ref09_SameBitmaps fuel)
theorem ok15 (fuel : Nat) : FnOK Tryz.prog 15 (spec15 fuel) := by
  intro args objs kk r h
  unfold spec15 spg15 at h
  split at h
  · skip
    obtain ⟨hb, h⟩ := cond_some' h
    simp only [Bool.and_eq_true, Nat.beq_eq, decide_eq_true_eq] at hb
    clear hb
    exact fok15 fuel _ _ kk r ((F15_eq fuel _ _ kk).trans h)
  · cases h
end Go.Proofs.YtmjeeaemmbkioaaGreat

set_option linter.unusedVariables false
set_option linter.unusedSimpArgs false
set_option maxRecDepth 100000
set_option maxHeartbeats 2000000
namespace Go.Proofs.YtmjeeaemmbkioaaGreat
open Go Ev
def kp37 (i : Nat) : Option (List Nat) := Ev.look i []
noncomputable def Gg37 (f : Nat) : Option Ev.Spec := Ev.look f []
noncomputable def G37 (fuel : Nat) : Nat → Option Ev.Spec := Gg37
noncomputable def J37 (fuel : Nat) (i : Nat) : Option Ev.Blk := Ev.look i []
noncomputable def F_slices_Clone_api_Bitmap_api_Bitmap (fuel : Nat) (x0 : (List (Int × Int × (List Int)))) (k0 : ((List (Int × (Int × (List Int))))) → Option Ans) : Option Ans :=
  bif Decidable.decide ((↑x0.length : Int) = (0 : Int)) then
   both (k0 [])
    (bif Decidable.decide (((0 : Nat) + x0.length) * (40 : Nat) ≤ (140737488355328 : Nat) ∧ (0 : Nat) + x0.length ≤ (140737488355328 : Nat)) then
     k0 ([] ++ x0)
     else none)
  else
   bif Decidable.decide (((0 : Nat) + x0.length) * (40 : Nat) ≤ (140737488355328 : Nat) ∧ (0 : Nat) + x0.length ≤ (140737488355328 : Nat)) then
   k0 ([] ++ x0)
   else none
abbrev YF37 : Type := ((List (Int × Int × (List Int)))) → (((List (Int × (Int × (List Int))))) → Option Ans) → Option Ans
theorem F37_eq (fuel : Nat) (x0 : (List (Int × Int × (List Int)))) (k : Ev.Cont) : evalFn tab (G37 fuel) (J37 fuel) kp37 fuel Tryz.f37 [.c (.sl (.pair (.int .i64) (.pair (.int .i64) (.sl (.int .u8)))) x0)] [] k = F_slices_Clone_api_Bitmap_api_Bitmap fuel x0 (fun r => match r with | r0 => k (.c (.own 0), [.vec 46 (.pair (.int .i64) (.pair (.int .i64) (.sl (.int .u8)))) r0 true])) := by
  kernel_rfl
theorem hG37 (fuel : Nat) : GOK Tryz.prog (G37 fuel) :=
  gok_nil
theorem fok37 (fuel : Nat) : FnOK Tryz.prog 37 (evalFn tab (G37 fuel) (J37 fuel) kp37 fuel Tryz.f37) :=
  fn_ok tab_ok (hG37 fuel) mixed Tryz.func37 (c := (Tryz.f37.body).getD .skip) rfl (fun q hq => by
    rw [(by kernel_rfl : obl (J37 fuel) ((Tryz.f37.body).getD .skip) = [])] at hq
    cases hq)
noncomputable def mt37 : List Ev.SV → List Ev.Ob → Bool := fun args objs => match args, objs with
  | [.c (.sl (.pair (.int .i64) (.pair (.int .i64) (.sl (.int .u8)))) _)], [] => true
  | _, _ => false
noncomputable def spg37 (F : YF37) : Ev.Spec := fun args objs k => match args, objs with
  | [.c (.sl (.pair (.int .i64) (.pair (.int .i64) (.sl (.int .u8)))) x0)], [] => bif true then F x0 (fun r => match r with | r0 => k (.c (.own 0), [.vec 46 (.pair (.int .i64) (.pair (.int .i64) (.sl (.int .u8)))) r0 true])) else none
  | _, _ => none
noncomputable def spec37 (fuel : Nat) : Ev.Spec := spg37 (F_slices_Clone_api_Bitmap_api_Bitmap fuel)
theorem ok37 (fuel : Nat) : FnOK Tryz.prog 37 (spec37 fuel) := by
  intro args objs kk r h
  unfold spec37 spg37 at h
  split at h
  · skip
    obtain ⟨hb, h⟩ := cond_some' h
    simp only [Bool.and_eq_true, Nat.beq_eq, decide_eq_true_eq] at hb
    clear hb
    exact fok37 fuel _ _ kk r ((F37_eq fuel _ kk).trans h)
  · cases h
end Go.Proofs.YtmjeeaemmbkioaaGreat

set_option linter.unusedVariables false
set_option linter.unusedSimpArgs false
set_option maxRecDepth 100000
set_option maxHeartbeats 2000000
namespace Go.Proofs.YtmjeeaemmbkioaaGreat
open Go Ev
def kp125 (i : Nat) : Option (List Nat) := Ev.look i []
noncomputable def Gg125 (f : Nat) : Option Ev.Spec := Ev.look f []
noncomputable def G125 (fuel : Nat) : Nat → Option Ev.Spec := Gg125
noncomputable def J125 (fuel : Nat) (i : Nat) : Option Ev.Blk := Ev.look i []
noncomputable def F_bitmap_fits (fuel : Nat) (x0 : Int) (x1 : Int) (k0 : (Bool) → Option Ans) : Option Ans :=
  bif Decidable.decide (x0 ≥ (0 : Int)) then
   bif Decidable.decide (x1 ≥ (0 : Int)) then
    bif Decidable.decide (x0 ≤ (200 : Int)) then
     bif Decidable.decide (x1 ≤ (200 : Int)) then
      k0 (Decidable.decide (Go.IntKind.i64.wrap (x0 * x1) ≤ (8192 : Int)))
     else
      k0 Bool.false
    else
     k0 Bool.false
   else
    k0 Bool.false
  else
   k0 Bool.false
abbrev YF125 : Type := (Int) → (Int) → ((Bool) → Option Ans) → Option Ans
theorem F125_eq (fuel : Nat) (x0 : Int) (x1 : Int) (k : Ev.Cont) : evalFn tab (G125 fuel) (J125 fuel) kp125 fuel Tryz.f125 [.c (.int .i64 x0), .c (.int .i64 x1)] [] k = F_bitmap_fits fuel x0 x1 (fun r => match r with | r0 => k (.c (.bool r0), [])) := by
  kernel_rfl
theorem hG125 (fuel : Nat) : GOK Tryz.prog (G125 fuel) :=
  gok_nil
theorem fok125 (fuel : Nat) : FnOK Tryz.prog 125 (evalFn tab (G125 fuel) (J125 fuel) kp125 fuel Tryz.f125) :=
  fn_ok tab_ok (hG125 fuel) mixed Tryz.func125 (c := (Tryz.f125.body).getD .skip) rfl (fun q hq => by
    rw [(by kernel_rfl : obl (J125 fuel) ((Tryz.f125.body).getD .skip) = [])] at hq
    cases hq)
noncomputable def mt125 : List Ev.SV → List Ev.Ob → Bool := fun args objs => match args, objs with
  | [.c (.int .i64 _), .c (.int .i64 _)], [] => true
  | _, _ => false
noncomputable def spg125 (F : YF125) : Ev.Spec := fun args objs k => match args, objs with
  | [.c (.int .i64 x0), .c (.int .i64 x1)], [] => bif true then F x0 x1 (fun r => match r with | r0 => k (.c (.bool r0), [])) else none
  | _, _ => none
noncomputable def spec125 (fuel : Nat) : Ev.Spec := spg125 (F_bitmap_fits fuel)
theorem ok125 (fuel : Nat) : FnOK Tryz.prog 125 (spec125 fuel) := by
  intro args objs kk r h
  unfold spec125 spg125 at h
  split at h
  · skip
    obtain ⟨hb, h⟩ := cond_some' h
    simp only [Bool.and_eq_true, Nat.beq_eq, decide_eq_true_eq] at hb
    clear hb
    exact fok125 fuel _ _ kk r ((F125_eq fuel _ _ kk).trans h)
  · cases h
end Go.Proofs.YtmjeeaemmbkioaaGreat

