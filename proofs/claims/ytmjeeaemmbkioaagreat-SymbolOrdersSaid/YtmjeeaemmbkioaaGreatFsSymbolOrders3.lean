/- What the functions that SymbolOrders reaches do: their typed texts, each with the proof that the machine does it. No condition. -/
import Derived.Test.YtmjeeaemmbkioaaGreatEvX
import Derived.Test.YtmjeeaemmbkioaaGreatFsSymbolOrders1
import Derived.Test.YtmjeeaemmbkioaaGreatFsSymbolOrders2
import Derived.Test.YtmjeeaemmbkioaaGreatEvY
import Derived.Test.YtmjeeaemmbkioaaGreatEvU
set_option linter.unusedVariables false
set_option linter.unusedSimpArgs false
set_option linter.unusedSectionVars false
set_option linter.unusedVariables false
set_option linter.unusedSimpArgs false
set_option maxRecDepth 100000
set_option maxHeartbeats 2000000
namespace Go.Proofs.YtmjeeaemmbkioaaGreat
open Go Ev
def kp156_aa3 (i : Nat) : Option (List Nat) := Ev.look i [(12, [0, 1, 6, 8, 9]), (100001, [0, 1, 6, 8, 9]), (200010, [0]), (400001, [4, 5])]
noncomputable def Gg156_aa3 (f120_40a : YF120_40a) (f124_40a : YF124_40a) (f161_7ec : YF161_7ec) (f162_aa3 : YF162_aa3) (f163_40a : YF163_40a) (f164_40a : YF164_40a) (f : Nat) : Option Ev.Spec := Ev.look f [(120, spg120_40a f120_40a), (124, spg124_40a f124_40a), (161, spg161_7ec f161_7ec), (162, spg162_aa3 f162_aa3), (163, spg163_40a f163_40a), (164, spg164_40a f164_40a)]
noncomputable def G156_aa3 (fuel : Nat) : Nat → Option Ev.Spec := Gg156_aa3 (F_coder_Decoder_shift_40a fuel) (F_coder_Decoder_none_40a fuel) (F_coder_interval_take_7ec fuel) (F_coder_interval_mid_aa3 fuel) (F_coder_interval_same_40a fuel) (F_coder_interval_lose_40a fuel)
noncomputable def S_coder_Decoder_Get_aa3_1 (fuel : Nat) (v : Int × Int × Int × Int × Int × Int × Int × Int × Int × Bool × Bool × (List Int) × (List Int) × Int × Int × Int × Int × Int × Int × Bool × Bool) (c : (Int × Int × Int × Int × Int × Int × Int × Int × Int × Bool × Bool × (List Int) × (List Int) × Int × Int × Int × Int × Int × Int × Bool × Bool) → Option Ans) (B : (Int × Int × Int × Int × Int × Int × Int × Int × Int × Bool × Bool × (List Int) × (List Int) × Int × Int × Int × Int × Int × Int × Bool × Bool → Option Ans)) : Option Ans := match v, B with
  | (x0, x1, x2, x3, x4, x5, x6, x7, x8, x9, x10, x11, x12, x13, x14, x15, x16, x17, x18, x19, x20), b =>
   (F_coder_interval_same_40a fuel (x3) (x4) (x5) (x6) (x7) (x8) (x9) (x10) (x11) (x12)
       (fun (y2_0, y2_1, y2_2, y2_3, y2_4, y2_5, y2_6, y2_7, y2_8, y2_9, y2_10) =>
         bif y2_0 then
          (F_coder_interval_lose_40a fuel (y2_1) (y2_2) (y2_3) (y2_4) (y2_5) (y2_6) (y2_7) (y2_8) (y2_9) (y2_10)
            (fun (y7_0, y7_1, y7_2, y7_3, y7_4, y7_5, y7_6, y7_7, y7_8, y7_9, y7_10) =>
              (F_coder_Decoder_shift_40a fuel (y7_1) (y7_2) (y7_3) (y7_4) (y7_5) (y7_6) (y7_7) (y7_8) (y7_9) (y7_10)
                (fun (y11_0, y11_1, y11_2, y11_3, y11_4, y11_5, y11_6, y11_7, y11_8, y11_9) =>
                  c (x0, x1, x2, y11_0, y11_1, y11_2, y11_3, y11_4, y11_5, y11_6, y11_7, y11_8, y11_9, x13, x14, x15, x16, x17, x18, x19, x20)))))
         else
          b (x0, x1, x2, y2_1, y2_2, y2_3, y2_4, y2_5, y2_6, y2_7, y2_8, y2_9, y2_10, x13, x14, x15, x16, x17, x18, x19, x20)))
noncomputable def L_coder_Decoder_Get_aa3_1 (fuel : Nat) (v : Int × Int × Int × Int × Int × Int × Int × Int × Int × Bool × Bool × (List Int) × (List Int) × Int × Int × Int × Int × Int × Int × Bool × Bool) (b : (Int × Int × Int × Int × Int × Int × Int × Int × Int × Bool × Bool × (List Int) × (List Int) × Int × Int × Int × Int × Int × Int × Bool × Bool → Option Ans)) : Option Ans := iter (S_coder_Decoder_Get_aa3_1 fuel) fuel v b
noncomputable def J156_aa3_1 (fuel : Nat) (i : Nat) : Option Ev.Blk := Ev.look i []
noncomputable def T156_aa3_1 (v : Int × Int × Int × Int × Int × Int × Int × Int × Int × Bool × Bool × (List Int) × (List Int) × Int × Int × Int × Int × Int × Int × Bool × Bool) : Ev.St := match v with | (x0, x1, x2, x3, x4, x5, x6, x7, x8, x9, x10, x11, x12, x13, x14, x15, x16, x17, x18, x19, x20) => ⟨[(0, .c (.ptr 0 0)), (1, .c (.int .i64 x0)), (6, .c (.int .i64 x1)), (8, .c (.ptr 3 0)), (9, .c (.int .i64 x2))], [(0, .cells 168 (.int .i64 x3 :: .own 1 :: .int .i64 2048 :: .int .i64 1792 :: .int .i64 1568 :: .int .i64 1372 :: .int .i64 1201 :: .int .i64 1051 :: .int .i64 920 :: .int .i64 805 :: .int .i64 705 :: .int .i64 617 :: .int .i64 540 :: .int .i64 473 :: .int .i64 414 :: .int .i64 363 :: .int .i64 318 :: .int .i64 279 :: .int .i64 245 :: .int .i64 215 :: .int .i64 189 :: .int .i64 166 :: .int .i64 146 :: .int .i64 128 :: .int .i64 112 :: .int .i64 98 :: .int .i64 86 :: .int .i64 76 :: .int .i64 67 :: .int .i64 59 :: .int .i64 52 :: .int .i64 46 :: .int .i64 41 :: .int .i64 36 :: .int .u64 x4 :: .int .u64 x5 :: .own 2 :: .int .i64 x6 :: .int .u64 x7 :: .int .i64 x8 :: .bool x9 :: .bool x10 :: [])), (1, .vec 3 (.int .i64) x11 false), (2, .vec 5 (.int .u8) x12 false), (3, .cells 168 (.int .i64 x13 :: .own 1 :: .int .i64 2048 :: .int .i64 1792 :: .int .i64 1568 :: .int .i64 1372 :: .int .i64 1201 :: .int .i64 1051 :: .int .i64 920 :: .int .i64 805 :: .int .i64 705 :: .int .i64 617 :: .int .i64 540 :: .int .i64 473 :: .int .i64 414 :: .int .i64 363 :: .int .i64 318 :: .int .i64 279 :: .int .i64 245 :: .int .i64 215 :: .int .i64 189 :: .int .i64 166 :: .int .i64 146 :: .int .i64 128 :: .int .i64 112 :: .int .i64 98 :: .int .i64 86 :: .int .i64 76 :: .int .i64 67 :: .int .i64 59 :: .int .i64 52 :: .int .i64 46 :: .int .i64 41 :: .int .i64 36 :: .int .u64 x14 :: .int .u64 x15 :: .own 2 :: .int .i64 x16 :: .int .u64 x17 :: .int .i64 x18 :: .bool x19 :: .bool x20 :: []))], 4, 3⟩
noncomputable def E156_aa3_1 (K : Ev.Ex → Ev.St → Option Ans) : (Int × Int × Int × Int × Int × Int × Int × Int × Int × Bool × Bool × (List Int) × (List Int) × Int × Int × Int × Int × Int × Int × Bool × Bool → Option Ans) := (fun v => match v with | (x0, x1, x2, x3, x4, x5, x6, x7, x8, x9, x10, x11, x12, x13, x14, x15, x16, x17, x18, x19, x20) => K .normal ⟨[(0, .c (.ptr 0 0)), (1, .c (.int .i64 x0)), (6, .c (.int .i64 x1)), (8, .c (.ptr 3 0)), (9, .c (.int .i64 x2))], [(0, .cells 168 (.int .i64 x3 :: .own 1 :: .int .i64 2048 :: .int .i64 1792 :: .int .i64 1568 :: .int .i64 1372 :: .int .i64 1201 :: .int .i64 1051 :: .int .i64 920 :: .int .i64 805 :: .int .i64 705 :: .int .i64 617 :: .int .i64 540 :: .int .i64 473 :: .int .i64 414 :: .int .i64 363 :: .int .i64 318 :: .int .i64 279 :: .int .i64 245 :: .int .i64 215 :: .int .i64 189 :: .int .i64 166 :: .int .i64 146 :: .int .i64 128 :: .int .i64 112 :: .int .i64 98 :: .int .i64 86 :: .int .i64 76 :: .int .i64 67 :: .int .i64 59 :: .int .i64 52 :: .int .i64 46 :: .int .i64 41 :: .int .i64 36 :: .int .u64 x4 :: .int .u64 x5 :: .own 2 :: .int .i64 x6 :: .int .u64 x7 :: .int .i64 x8 :: .bool x9 :: .bool x10 :: [])), (1, .vec 3 (.int .i64) x11 false), (2, .vec 5 (.int .u8) x12 false), (3, .cells 168 (.int .i64 x13 :: .own 1 :: .int .i64 2048 :: .int .i64 1792 :: .int .i64 1568 :: .int .i64 1372 :: .int .i64 1201 :: .int .i64 1051 :: .int .i64 920 :: .int .i64 805 :: .int .i64 705 :: .int .i64 617 :: .int .i64 540 :: .int .i64 473 :: .int .i64 414 :: .int .i64 363 :: .int .i64 318 :: .int .i64 279 :: .int .i64 245 :: .int .i64 215 :: .int .i64 189 :: .int .i64 166 :: .int .i64 146 :: .int .i64 128 :: .int .i64 112 :: .int .i64 98 :: .int .i64 86 :: .int .i64 76 :: .int .i64 67 :: .int .i64 59 :: .int .i64 52 :: .int .i64 46 :: .int .i64 41 :: .int .i64 36 :: .int .u64 x14 :: .int .u64 x15 :: .own 2 :: .int .i64 x16 :: .int .u64 x17 :: .int .i64 x18 :: .bool x19 :: .bool x20 :: []))], 4, 3⟩)
theorem S156_aa3_1_okg (fuel : Nat) (f120_40a : YF120_40a) (f124_40a : YF124_40a) (f161_7ec : YF161_7ec) (f162_aa3 : YF162_aa3) (f163_40a : YF163_40a) (f164_40a : YF164_40a) (R : Ev.St → Option Ans) (K : Ev.Ex → Ev.St → Option Ans) (x0 : Int) (x1 : Int) (x2 : Int) (x3 : Int) (x4 : Int) (x5 : Int) (x6 : Int) (x7 : Int) (x8 : Int) (x9 : Bool) (x10 : Bool) (x11 : (List Int)) (x12 : (List Int)) (x13 : Int) (x14 : Int) (x15 : Int) (x16 : Int) (x17 : Int) (x18 : Int) (x19 : Bool) (x20 : Bool) : evalCode tab (Gg156_aa3 f120_40a f124_40a f161_7ec f162_aa3 f163_40a f164_40a) (J156_aa3_1 fuel) kp156_aa3 fuel (bodyOf 1 Tryz.f156) (T156_aa3_1 (x0, x1, x2, x3, x4, x5, x6, x7, x8, x9, x10, x11, x12, x13, x14, x15, x16, x17, x18, x19, x20)) (lc kp156_aa3 12 1 R K) = (fun (c : (Int × Int × Int × Int × Int × Int × Int × Int × Int × Bool × Bool × (List Int) × (List Int) × Int × Int × Int × Int × Int × Int × Bool × Bool) → Option Ans) (B : (Int × Int × Int × Int × Int × Int × Int × Int × Int × Bool × Bool × (List Int) × (List Int) × Int × Int × Int × Int × Int × Int × Bool × Bool → Option Ans)) => match B with
  | b =>
   (f163_40a (x3) (x4) (x5) (x6) (x7) (x8) (x9) (x10) (x11) (x12)
       (fun (y2_0, y2_1, y2_2, y2_3, y2_4, y2_5, y2_6, y2_7, y2_8, y2_9, y2_10) =>
         bif y2_0 then
          (f164_40a (y2_1) (y2_2) (y2_3) (y2_4) (y2_5) (y2_6) (y2_7) (y2_8) (y2_9) (y2_10)
            (fun (y7_0, y7_1, y7_2, y7_3, y7_4, y7_5, y7_6, y7_7, y7_8, y7_9, y7_10) =>
              (f120_40a (y7_1) (y7_2) (y7_3) (y7_4) (y7_5) (y7_6) (y7_7) (y7_8) (y7_9) (y7_10)
                (fun (y11_0, y11_1, y11_2, y11_3, y11_4, y11_5, y11_6, y11_7, y11_8, y11_9) =>
                  c (x0, x1, x2, y11_0, y11_1, y11_2, y11_3, y11_4, y11_5, y11_6, y11_7, y11_8, y11_9, x13, x14, x15, x16, x17, x18, x19, x20)))))
         else
          b (x0, x1, x2, y2_1, y2_2, y2_3, y2_4, y2_5, y2_6, y2_7, y2_8, y2_9, y2_10, x13, x14, x15, x16, x17, x18, x19, x20)))) (fun v => R (T156_aa3_1 v)) (E156_aa3_1 K) := by
  kernel_rfl
theorem S156_aa3_1_ok (fuel : Nat) (R : Ev.St → Option Ans) (K : Ev.Ex → Ev.St → Option Ans) (x0 : Int) (x1 : Int) (x2 : Int) (x3 : Int) (x4 : Int) (x5 : Int) (x6 : Int) (x7 : Int) (x8 : Int) (x9 : Bool) (x10 : Bool) (x11 : (List Int)) (x12 : (List Int)) (x13 : Int) (x14 : Int) (x15 : Int) (x16 : Int) (x17 : Int) (x18 : Int) (x19 : Bool) (x20 : Bool) : evalCode tab (G156_aa3 fuel) (J156_aa3_1 fuel) kp156_aa3 fuel (bodyOf 1 Tryz.f156) (T156_aa3_1 (x0, x1, x2, x3, x4, x5, x6, x7, x8, x9, x10, x11, x12, x13, x14, x15, x16, x17, x18, x19, x20)) (lc kp156_aa3 12 1 R K) = S_coder_Decoder_Get_aa3_1 fuel (x0, x1, x2, x3, x4, x5, x6, x7, x8, x9, x10, x11, x12, x13, x14, x15, x16, x17, x18, x19, x20) (fun v => R (T156_aa3_1 v)) (E156_aa3_1 K) :=
  S156_aa3_1_okg fuel (F_coder_Decoder_shift_40a fuel) (F_coder_Decoder_none_40a fuel) (F_coder_interval_take_7ec fuel) (F_coder_interval_mid_aa3 fuel) (F_coder_interval_same_40a fuel) (F_coder_interval_lose_40a fuel) R K x0 x1 x2 x3 x4 x5 x6 x7 x8 x9 x10 x11 x12 x13 x14 x15 x16 x17 x18 x19 x20
noncomputable def B156_aa3_1 (fuel : Nat) : Ev.Blk := fun st K => match canonO (kp156_aa3 12) st with
  | some s => (match s with
    | ⟨[(q0, .c (.ptr q1 q2)), (q3, .c (.int .i64 x0)), (q4, .c (.int .i64 x1)), (q5, .c (.ptr q6 q7)), (q8, .c (.int .i64 x2))], [(q9, .cells q10 cs0), (q11, .vec q12 (.int .i64) x11 false), (q13, .vec q14 (.int .u8) x12 false), (q15, .cells q16 cs1)], q17, q18⟩ => (match splitRun 2 [(.i64, 2048), (.i64, 1792), (.i64, 1568), (.i64, 1372), (.i64, 1201), (.i64, 1051), (.i64, 920), (.i64, 805), (.i64, 705), (.i64, 617), (.i64, 540), (.i64, 473), (.i64, 414), (.i64, 363), (.i64, 318), (.i64, 279), (.i64, 245), (.i64, 215), (.i64, 189), (.i64, 166), (.i64, 146), (.i64, 128), (.i64, 112), (.i64, 98), (.i64, 86), (.i64, 76), (.i64, 67), (.i64, 59), (.i64, 52), (.i64, 46), (.i64, 41), (.i64, 36)] cs0 with | some ([.int .i64 x3, .own q19], [.int .u64 x4, .int .u64 x5, .own q20, .int .i64 x6, .int .u64 x7, .int .i64 x8, .bool x9, .bool x10]) => (match splitRun 2 [(.i64, 2048), (.i64, 1792), (.i64, 1568), (.i64, 1372), (.i64, 1201), (.i64, 1051), (.i64, 920), (.i64, 805), (.i64, 705), (.i64, 617), (.i64, 540), (.i64, 473), (.i64, 414), (.i64, 363), (.i64, 318), (.i64, 279), (.i64, 245), (.i64, 215), (.i64, 189), (.i64, 166), (.i64, 146), (.i64, 128), (.i64, 112), (.i64, 98), (.i64, 86), (.i64, 76), (.i64, 67), (.i64, 59), (.i64, 52), (.i64, 46), (.i64, 41), (.i64, 36)] cs1 with | some ([.int .i64 x13, .own q21], [.int .u64 x14, .int .u64 x15, .own q22, .int .i64 x16, .int .u64 x17, .int .i64 x18, .bool x19, .bool x20]) => bif Nat.beq q0 0 && Nat.beq q1 0 && Nat.beq q2 0 && Nat.beq q3 1 && Nat.beq q4 6 && Nat.beq q5 8 && Nat.beq q6 3 && Nat.beq q7 0 && Nat.beq q8 9 && Nat.beq q9 0 && Nat.beq q10 168 && Nat.beq q11 1 && Nat.beq q12 3 && Nat.beq q13 2 && Nat.beq q14 5 && Nat.beq q15 3 && Nat.beq q16 168 && Nat.beq q17 4 && Nat.beq q18 3 && Nat.beq q19 1 && Nat.beq q20 2 && Nat.beq q21 1 && Nat.beq q22 2 then iter (S_coder_Decoder_Get_aa3_1 fuel) fuel (x0, x1, x2, x3, x4, x5, x6, x7, x8, x9, x10, x11, x12, x13, x14, x15, x16, x17, x18, x19, x20) (E156_aa3_1 K) else none | _ => none) | _ => none)
    | _ => none)
  | none => none
theorem B156_aa3_1_ok (fuel : Nat) (st : Ev.St) (K : Ev.Ex → Ev.St → Option Ans) (r : Ans) (h : B156_aa3_1 fuel st K = some r) : evalCode tab (G156_aa3 fuel) (J156_aa3_1 fuel) kp156_aa3 fuel (.block 1 (.loop (bodyOf 1 Tryz.f156))) st K = some r := by
  unfold B156_aa3_1 at h
  split at h
  · rename_i s hs
    split at h
    · skip
      split at h
      rotate_left 1
      · cases h
      rename_i hsp
      have esp := splitRun_eq hsp
      subst esp
      split at h
      rotate_left 1
      · cases h
      rename_i hsp
      have esp := splitRun_eq hsp
      subst esp
      obtain ⟨hb, h⟩ := cond_some' h
      simp only [Bool.and_eq_true, Nat.beq_eq, decide_eq_true_eq] at hb
      obtain ⟨⟨⟨⟨⟨⟨⟨⟨⟨⟨⟨⟨⟨⟨⟨⟨⟨⟨⟨⟨⟨⟨rfl, rfl⟩, rfl⟩, rfl⟩, rfl⟩, rfl⟩, rfl⟩, rfl⟩, rfl⟩, rfl⟩, rfl⟩, rfl⟩, rfl⟩, rfl⟩, rfl⟩, rfl⟩, rfl⟩, rfl⟩, rfl⟩, rfl⟩, rfl⟩, rfl⟩, rfl⟩ := hb
      exact blk_loop (S := T156_aa3_1) (ks := E156_aa3_1) (step := S_coder_Decoder_Get_aa3_1 fuel) (v := (_, _, _, _, _, _, _, _, _, _, _, _, _, _, _, _, _, _, _, _, _)) (by kernel_rfl) (by kernel_rfl) (fun R K v => by obtain ⟨x0, x1, x2, x3, x4, x5, x6, x7, x8, x9, x10, x11, x12, x13, x14, x15, x16, x17, x18, x19, x20⟩ := v; exact S156_aa3_1_ok fuel R K x0 x1 x2 x3 x4 x5 x6 x7 x8 x9 x10 x11 x12 x13 x14 x15 x16 x17 x18 x19 x20) hs h
    · cases h
  · cases h
noncomputable def J156_aa3 (fuel : Nat) (i : Nat) : Option Ev.Blk := Ev.look i [(100001, B156_aa3_1 fuel)]
noncomputable def F_coder_Decoder_Get_aa3 (fuel : Nat) (x0 : Int) (x1 : Int) (x2 : Int) (x3 : Int) (x4 : Int) (x5 : Int) (x6 : Int) (x7 : Bool) (x8 : Bool) (x9 : (List Int)) (x10 : (List Int)) (k0 : (Int × Int × Int × Int × Int × Int × Int × Int × Bool × Bool × (List Int) × (List Int)) → Option Ans) : Option Ans :=
  (F_coder_Decoder_none_40a fuel (x1) (x2) (x3) (x4) (x5) (x6) (x7) (x8) (x9) (x10)
    (fun (y2_0, y2_1, y2_2, y2_3, y2_4, y2_5, y2_6, y2_7, y2_8, y2_9, y2_10) =>
      bif y2_0 then
       k0 ((0 : Int), (7 : Int), y2_1, y2_2, y2_3, y2_4, y2_5, y2_6, y2_7, y2_8, y2_9, y2_10)
      else
       bif Decidable.decide (x0 < (0 : Int)) then
        k0 ((0 : Int), (2 : Int), y2_1, y2_2, y2_3, y2_4, y2_5, y2_6, y2_7, y2_8, y2_9, y2_10)
       else
        bif Decidable.decide (x0 ≥ (↑y2_9.length : Int)) then
         k0 ((0 : Int), (2 : Int), y2_1, y2_2, y2_3, y2_4, y2_5, y2_6, y2_7, y2_8, y2_9, y2_10)
        else
         bif y2_7 then
          k0 ((0 : Int), (6 : Int), y2_1, y2_2, y2_3, y2_4, y2_5, y2_6, y2_7, y2_8, y2_9, y2_10)
         else
          (F_coder_interval_mid_aa3 fuel (x0) (y2_1) (y2_2) (y2_3) (y2_4) (y2_5) (y2_6) (y2_7) (y2_8) (y2_9) (y2_10)
            (fun (y10_0, y10_1, y10_2, y10_3, y10_4, y10_5, y10_6, y10_7, y10_8, y10_9, y10_10) =>
              bif Decidable.decide (y10_5 ≤ y10_0) then
               bif Decidable.decide ((0 : Int) ≤ x0 ∧ x0 < (↑y10_9.length : Int)) then
               both ((F_coder_interval_take_7ec fuel (x0) ((1 : Int)) (y10_0) (y10_1) (y10_2) (y10_3) (y10_4) (y10_5) (y10_6) (y10_7) (y10_8) (y10_9) (y10_10)
                    (fun (y18_0, y18_1, y18_2, y18_3, y18_4, y18_5, y18_6, y18_7, y18_8, y18_9) =>
                      (L_coder_Decoder_Get_aa3_1 fuel (x0, (1 : Int), y10_9.getD x0.toNat (0 : Int), y18_0, y18_1, y18_2, y18_3, y18_4, y18_5, y18_6, y18_7, y18_8, y18_9, y10_1, y10_2, y10_3, y10_4, y10_5, y10_6, y10_7, y10_8)
                        (fun (b1_0, b1_1, b1_2, b1_3, b1_4, b1_5, b1_6, b1_7, b1_8, b1_9, b1_10, b1_11, b1_12, b1_13, b1_14, b1_15, b1_16, b1_17, b1_18, b1_19, b1_20) =>
                          bif Decidable.decide (b1_8 > (4 : Int)) then
                           bif Decidable.decide ((0 : Int) ≤ b1_0 ∧ b1_0 < (↑b1_11.length : Int)) then
                           k0 ((0 : Int), (6 : Int), b1_13, b1_14, b1_15, b1_16, b1_17, b1_18, Bool.true, b1_20, b1_11.set b1_0.toNat b1_2, b1_12)
                           else none
                          else
                           k0 (b1_1, (0 : Int), b1_3, b1_4, b1_5, b1_6, b1_7, b1_8, b1_9, b1_10, b1_11, b1_12))))))
                 (both ((F_coder_interval_take_7ec fuel (x0) ((1 : Int)) (y10_0) (y10_1) (y10_2) (y10_3) (y10_4) (y10_5) (y10_6) (y10_7) (y10_8) (y10_9) (y10_10)
                      (fun (y20_0, y20_1, y20_2, y20_3, y20_4, y20_5, y20_6, y20_7, y20_8, y20_9) =>
                        (L_coder_Decoder_Get_aa3_1 fuel (x0, (1 : Int), y10_9.getD x0.toNat (0 : Int), y20_0, y20_1, y20_2, y20_3, y20_4, y20_5, y20_6, y20_7, y20_8, y20_9, y10_1, y10_2, y10_3, y10_4, y10_5, y10_6, y10_7, y10_8)
                          (fun (b1_0, b1_1, b1_2, b1_3, b1_4, b1_5, b1_6, b1_7, b1_8, b1_9, b1_10, b1_11, b1_12, b1_13, b1_14, b1_15, b1_16, b1_17, b1_18, b1_19, b1_20) =>
                            bif Decidable.decide (b1_8 > (4 : Int)) then
                             bif Decidable.decide ((0 : Int) ≤ b1_0 ∧ b1_0 < (↑b1_11.length : Int)) then
                             k0 ((0 : Int), (6 : Int), b1_13, b1_14, b1_15, b1_16, b1_17, b1_18, Bool.true, b1_20, b1_11.set b1_0.toNat b1_2, b1_12)
                             else none
                            else
                             k0 (b1_1, (0 : Int), b1_3, b1_4, b1_5, b1_6, b1_7, b1_8, b1_9, b1_10, b1_11, b1_12))))))
                   ((F_coder_interval_take_7ec fuel (x0) ((1 : Int)) (y10_0) (y10_1) (y10_2) (y10_3) (y10_4) (y10_5) (y10_6) (y10_7) (y10_8) (y10_9) (y10_10)
                      (fun (y20_0, y20_1, y20_2, y20_3, y20_4, y20_5, y20_6, y20_7, y20_8, y20_9) =>
                        (L_coder_Decoder_Get_aa3_1 fuel (x0, (1 : Int), y10_9.getD x0.toNat (0 : Int), y20_0, y20_1, y20_2, y20_3, y20_4, y20_5, y20_6, y20_7, y20_8, y20_9, y10_1, y10_2, y10_3, y10_4, y10_5, y10_6, y10_7, y10_8)
                          (fun (b1_0, b1_1, b1_2, b1_3, b1_4, b1_5, b1_6, b1_7, b1_8, b1_9, b1_10, b1_11, b1_12, b1_13, b1_14, b1_15, b1_16, b1_17, b1_18, b1_19, b1_20) =>
                            bif Decidable.decide (b1_8 > (4 : Int)) then
                             bif Decidable.decide ((0 : Int) ≤ b1_0 ∧ b1_0 < (↑b1_11.length : Int)) then
                             k0 ((0 : Int), (6 : Int), b1_13, b1_14, b1_15, b1_16, b1_17, b1_18, Bool.true, b1_20, b1_11.set b1_0.toNat b1_2, b1_12)
                             else none
                            else
                             k0 (b1_1, (0 : Int), b1_3, b1_4, b1_5, b1_6, b1_7, b1_8, b1_9, b1_10, b1_11, b1_12)))))))
               else none
              else
               bif Decidable.decide ((0 : Int) ≤ x0 ∧ x0 < (↑y10_9.length : Int)) then
               both ((F_coder_interval_take_7ec fuel (x0) ((0 : Int)) (y10_0) (y10_1) (y10_2) (y10_3) (y10_4) (y10_5) (y10_6) (y10_7) (y10_8) (y10_9) (y10_10)
                    (fun (y18_0, y18_1, y18_2, y18_3, y18_4, y18_5, y18_6, y18_7, y18_8, y18_9) =>
                      (L_coder_Decoder_Get_aa3_1 fuel (x0, (0 : Int), y10_9.getD x0.toNat (0 : Int), y18_0, y18_1, y18_2, y18_3, y18_4, y18_5, y18_6, y18_7, y18_8, y18_9, y10_1, y10_2, y10_3, y10_4, y10_5, y10_6, y10_7, y10_8)
                        (fun (b1_0, b1_1, b1_2, b1_3, b1_4, b1_5, b1_6, b1_7, b1_8, b1_9, b1_10, b1_11, b1_12, b1_13, b1_14, b1_15, b1_16, b1_17, b1_18, b1_19, b1_20) =>
                          bif Decidable.decide (b1_8 > (4 : Int)) then
                           bif Decidable.decide ((0 : Int) ≤ b1_0 ∧ b1_0 < (↑b1_11.length : Int)) then
                           k0 ((0 : Int), (6 : Int), b1_13, b1_14, b1_15, b1_16, b1_17, b1_18, Bool.true, b1_20, b1_11.set b1_0.toNat b1_2, b1_12)
                           else none
                          else
                           k0 (b1_1, (0 : Int), b1_3, b1_4, b1_5, b1_6, b1_7, b1_8, b1_9, b1_10, b1_11, b1_12))))))
                 (both ((F_coder_interval_take_7ec fuel (x0) ((0 : Int)) (y10_0) (y10_1) (y10_2) (y10_3) (y10_4) (y10_5) (y10_6) (y10_7) (y10_8) (y10_9) (y10_10)
                      (fun (y20_0, y20_1, y20_2, y20_3, y20_4, y20_5, y20_6, y20_7, y20_8, y20_9) =>
                        (L_coder_Decoder_Get_aa3_1 fuel (x0, (0 : Int), y10_9.getD x0.toNat (0 : Int), y20_0, y20_1, y20_2, y20_3, y20_4, y20_5, y20_6, y20_7, y20_8, y20_9, y10_1, y10_2, y10_3, y10_4, y10_5, y10_6, y10_7, y10_8)
                          (fun (b1_0, b1_1, b1_2, b1_3, b1_4, b1_5, b1_6, b1_7, b1_8, b1_9, b1_10, b1_11, b1_12, b1_13, b1_14, b1_15, b1_16, b1_17, b1_18, b1_19, b1_20) =>
                            bif Decidable.decide (b1_8 > (4 : Int)) then
                             bif Decidable.decide ((0 : Int) ≤ b1_0 ∧ b1_0 < (↑b1_11.length : Int)) then
                             k0 ((0 : Int), (6 : Int), b1_13, b1_14, b1_15, b1_16, b1_17, b1_18, Bool.true, b1_20, b1_11.set b1_0.toNat b1_2, b1_12)
                             else none
                            else
                             k0 (b1_1, (0 : Int), b1_3, b1_4, b1_5, b1_6, b1_7, b1_8, b1_9, b1_10, b1_11, b1_12))))))
                   ((F_coder_interval_take_7ec fuel (x0) ((0 : Int)) (y10_0) (y10_1) (y10_2) (y10_3) (y10_4) (y10_5) (y10_6) (y10_7) (y10_8) (y10_9) (y10_10)
                      (fun (y20_0, y20_1, y20_2, y20_3, y20_4, y20_5, y20_6, y20_7, y20_8, y20_9) =>
                        (L_coder_Decoder_Get_aa3_1 fuel (x0, (0 : Int), y10_9.getD x0.toNat (0 : Int), y20_0, y20_1, y20_2, y20_3, y20_4, y20_5, y20_6, y20_7, y20_8, y20_9, y10_1, y10_2, y10_3, y10_4, y10_5, y10_6, y10_7, y10_8)
                          (fun (b1_0, b1_1, b1_2, b1_3, b1_4, b1_5, b1_6, b1_7, b1_8, b1_9, b1_10, b1_11, b1_12, b1_13, b1_14, b1_15, b1_16, b1_17, b1_18, b1_19, b1_20) =>
                            bif Decidable.decide (b1_8 > (4 : Int)) then
                             bif Decidable.decide ((0 : Int) ≤ b1_0 ∧ b1_0 < (↑b1_11.length : Int)) then
                             k0 ((0 : Int), (6 : Int), b1_13, b1_14, b1_15, b1_16, b1_17, b1_18, Bool.true, b1_20, b1_11.set b1_0.toNat b1_2, b1_12)
                             else none
                            else
                             k0 (b1_1, (0 : Int), b1_3, b1_4, b1_5, b1_6, b1_7, b1_8, b1_9, b1_10, b1_11, b1_12)))))))
               else none))))
abbrev YF156_aa3 : Type := (Int) → (Int) → (Int) → (Int) → (Int) → (Int) → (Int) → (Bool) → (Bool) → ((List Int)) → ((List Int)) → ((Int × Int × Int × Int × Int × Int × Int × Int × Bool × Bool × (List Int) × (List Int)) → Option Ans) → Option Ans
theorem F156_aa3_eqg (fuel : Nat) (f120_40a : YF120_40a) (f124_40a : YF124_40a) (f161_7ec : YF161_7ec) (f162_aa3 : YF162_aa3) (f163_40a : YF163_40a) (f164_40a : YF164_40a) (x0 : Int) (x1 : Int) (x2 : Int) (x3 : Int) (x4 : Int) (x5 : Int) (x6 : Int) (x7 : Bool) (x8 : Bool) (x9 : (List Int)) (x10 : (List Int)) (k : Ev.Cont) : evalFn tab (Gg156_aa3 f120_40a f124_40a f161_7ec f162_aa3 f163_40a f164_40a) (J156_aa3 fuel) kp156_aa3 fuel Tryz.f156 [.c (.ptr 0 0), .c (.int .i64 x0)] [.cells 168 (.int .i64 x1 :: .own 1 :: .int .i64 2048 :: .int .i64 1792 :: .int .i64 1568 :: .int .i64 1372 :: .int .i64 1201 :: .int .i64 1051 :: .int .i64 920 :: .int .i64 805 :: .int .i64 705 :: .int .i64 617 :: .int .i64 540 :: .int .i64 473 :: .int .i64 414 :: .int .i64 363 :: .int .i64 318 :: .int .i64 279 :: .int .i64 245 :: .int .i64 215 :: .int .i64 189 :: .int .i64 166 :: .int .i64 146 :: .int .i64 128 :: .int .i64 112 :: .int .i64 98 :: .int .i64 86 :: .int .i64 76 :: .int .i64 67 :: .int .i64 59 :: .int .i64 52 :: .int .i64 46 :: .int .i64 41 :: .int .i64 36 :: .int .u64 x2 :: .int .u64 x3 :: .own 2 :: .int .i64 x4 :: .int .u64 x5 :: .int .i64 x6 :: .bool x7 :: .bool x8 :: []), .vec 3 (.int .i64) x9 false, .vec 5 (.int .u8) x10 false] k = (fun  (k0 : (Int × Int × Int × Int × Int × Int × Int × Int × Bool × Bool × (List Int) × (List Int)) → Option Ans) =>
  (f124_40a (x1) (x2) (x3) (x4) (x5) (x6) (x7) (x8) (x9) (x10)
    (fun (y2_0, y2_1, y2_2, y2_3, y2_4, y2_5, y2_6, y2_7, y2_8, y2_9, y2_10) =>
      bif y2_0 then
       k0 ((0 : Int), (7 : Int), y2_1, y2_2, y2_3, y2_4, y2_5, y2_6, y2_7, y2_8, y2_9, y2_10)
      else
       bif Decidable.decide (x0 < (0 : Int)) then
        k0 ((0 : Int), (2 : Int), y2_1, y2_2, y2_3, y2_4, y2_5, y2_6, y2_7, y2_8, y2_9, y2_10)
       else
        bif Decidable.decide (x0 ≥ (↑y2_9.length : Int)) then
         k0 ((0 : Int), (2 : Int), y2_1, y2_2, y2_3, y2_4, y2_5, y2_6, y2_7, y2_8, y2_9, y2_10)
        else
         bif y2_7 then
          k0 ((0 : Int), (6 : Int), y2_1, y2_2, y2_3, y2_4, y2_5, y2_6, y2_7, y2_8, y2_9, y2_10)
         else
          (f162_aa3 (x0) (y2_1) (y2_2) (y2_3) (y2_4) (y2_5) (y2_6) (y2_7) (y2_8) (y2_9) (y2_10)
            (fun (y10_0, y10_1, y10_2, y10_3, y10_4, y10_5, y10_6, y10_7, y10_8, y10_9, y10_10) =>
              bif Decidable.decide (y10_5 ≤ y10_0) then
               bif Decidable.decide ((0 : Int) ≤ x0 ∧ x0 < (↑y10_9.length : Int)) then
               both ((f161_7ec (x0) ((1 : Int)) (y10_0) (y10_1) (y10_2) (y10_3) (y10_4) (y10_5) (y10_6) (y10_7) (y10_8) (y10_9) (y10_10)
                    (fun (y18_0, y18_1, y18_2, y18_3, y18_4, y18_5, y18_6, y18_7, y18_8, y18_9) =>
                      (L_coder_Decoder_Get_aa3_1 fuel (x0, (1 : Int), y10_9.getD x0.toNat (0 : Int), y18_0, y18_1, y18_2, y18_3, y18_4, y18_5, y18_6, y18_7, y18_8, y18_9, y10_1, y10_2, y10_3, y10_4, y10_5, y10_6, y10_7, y10_8)
                        (fun (b1_0, b1_1, b1_2, b1_3, b1_4, b1_5, b1_6, b1_7, b1_8, b1_9, b1_10, b1_11, b1_12, b1_13, b1_14, b1_15, b1_16, b1_17, b1_18, b1_19, b1_20) =>
                          bif Decidable.decide (b1_8 > (4 : Int)) then
                           bif Decidable.decide ((0 : Int) ≤ b1_0 ∧ b1_0 < (↑b1_11.length : Int)) then
                           k0 ((0 : Int), (6 : Int), b1_13, b1_14, b1_15, b1_16, b1_17, b1_18, Bool.true, b1_20, b1_11.set b1_0.toNat b1_2, b1_12)
                           else none
                          else
                           k0 (b1_1, (0 : Int), b1_3, b1_4, b1_5, b1_6, b1_7, b1_8, b1_9, b1_10, b1_11, b1_12))))))
                 (both ((f161_7ec (x0) ((1 : Int)) (y10_0) (y10_1) (y10_2) (y10_3) (y10_4) (y10_5) (y10_6) (y10_7) (y10_8) (y10_9) (y10_10)
                      (fun (y20_0, y20_1, y20_2, y20_3, y20_4, y20_5, y20_6, y20_7, y20_8, y20_9) =>
                        (L_coder_Decoder_Get_aa3_1 fuel (x0, (1 : Int), y10_9.getD x0.toNat (0 : Int), y20_0, y20_1, y20_2, y20_3, y20_4, y20_5, y20_6, y20_7, y20_8, y20_9, y10_1, y10_2, y10_3, y10_4, y10_5, y10_6, y10_7, y10_8)
                          (fun (b1_0, b1_1, b1_2, b1_3, b1_4, b1_5, b1_6, b1_7, b1_8, b1_9, b1_10, b1_11, b1_12, b1_13, b1_14, b1_15, b1_16, b1_17, b1_18, b1_19, b1_20) =>
                            bif Decidable.decide (b1_8 > (4 : Int)) then
                             bif Decidable.decide ((0 : Int) ≤ b1_0 ∧ b1_0 < (↑b1_11.length : Int)) then
                             k0 ((0 : Int), (6 : Int), b1_13, b1_14, b1_15, b1_16, b1_17, b1_18, Bool.true, b1_20, b1_11.set b1_0.toNat b1_2, b1_12)
                             else none
                            else
                             k0 (b1_1, (0 : Int), b1_3, b1_4, b1_5, b1_6, b1_7, b1_8, b1_9, b1_10, b1_11, b1_12))))))
                   ((f161_7ec (x0) ((1 : Int)) (y10_0) (y10_1) (y10_2) (y10_3) (y10_4) (y10_5) (y10_6) (y10_7) (y10_8) (y10_9) (y10_10)
                      (fun (y20_0, y20_1, y20_2, y20_3, y20_4, y20_5, y20_6, y20_7, y20_8, y20_9) =>
                        (L_coder_Decoder_Get_aa3_1 fuel (x0, (1 : Int), y10_9.getD x0.toNat (0 : Int), y20_0, y20_1, y20_2, y20_3, y20_4, y20_5, y20_6, y20_7, y20_8, y20_9, y10_1, y10_2, y10_3, y10_4, y10_5, y10_6, y10_7, y10_8)
                          (fun (b1_0, b1_1, b1_2, b1_3, b1_4, b1_5, b1_6, b1_7, b1_8, b1_9, b1_10, b1_11, b1_12, b1_13, b1_14, b1_15, b1_16, b1_17, b1_18, b1_19, b1_20) =>
                            bif Decidable.decide (b1_8 > (4 : Int)) then
                             bif Decidable.decide ((0 : Int) ≤ b1_0 ∧ b1_0 < (↑b1_11.length : Int)) then
                             k0 ((0 : Int), (6 : Int), b1_13, b1_14, b1_15, b1_16, b1_17, b1_18, Bool.true, b1_20, b1_11.set b1_0.toNat b1_2, b1_12)
                             else none
                            else
                             k0 (b1_1, (0 : Int), b1_3, b1_4, b1_5, b1_6, b1_7, b1_8, b1_9, b1_10, b1_11, b1_12)))))))
               else none
              else
               bif Decidable.decide ((0 : Int) ≤ x0 ∧ x0 < (↑y10_9.length : Int)) then
               both ((f161_7ec (x0) ((0 : Int)) (y10_0) (y10_1) (y10_2) (y10_3) (y10_4) (y10_5) (y10_6) (y10_7) (y10_8) (y10_9) (y10_10)
                    (fun (y18_0, y18_1, y18_2, y18_3, y18_4, y18_5, y18_6, y18_7, y18_8, y18_9) =>
                      (L_coder_Decoder_Get_aa3_1 fuel (x0, (0 : Int), y10_9.getD x0.toNat (0 : Int), y18_0, y18_1, y18_2, y18_3, y18_4, y18_5, y18_6, y18_7, y18_8, y18_9, y10_1, y10_2, y10_3, y10_4, y10_5, y10_6, y10_7, y10_8)
                        (fun (b1_0, b1_1, b1_2, b1_3, b1_4, b1_5, b1_6, b1_7, b1_8, b1_9, b1_10, b1_11, b1_12, b1_13, b1_14, b1_15, b1_16, b1_17, b1_18, b1_19, b1_20) =>
                          bif Decidable.decide (b1_8 > (4 : Int)) then
                           bif Decidable.decide ((0 : Int) ≤ b1_0 ∧ b1_0 < (↑b1_11.length : Int)) then
                           k0 ((0 : Int), (6 : Int), b1_13, b1_14, b1_15, b1_16, b1_17, b1_18, Bool.true, b1_20, b1_11.set b1_0.toNat b1_2, b1_12)
                           else none
                          else
                           k0 (b1_1, (0 : Int), b1_3, b1_4, b1_5, b1_6, b1_7, b1_8, b1_9, b1_10, b1_11, b1_12))))))
                 (both ((f161_7ec (x0) ((0 : Int)) (y10_0) (y10_1) (y10_2) (y10_3) (y10_4) (y10_5) (y10_6) (y10_7) (y10_8) (y10_9) (y10_10)
                      (fun (y20_0, y20_1, y20_2, y20_3, y20_4, y20_5, y20_6, y20_7, y20_8, y20_9) =>
                        (L_coder_Decoder_Get_aa3_1 fuel (x0, (0 : Int), y10_9.getD x0.toNat (0 : Int), y20_0, y20_1, y20_2, y20_3, y20_4, y20_5, y20_6, y20_7, y20_8, y20_9, y10_1, y10_2, y10_3, y10_4, y10_5, y10_6, y10_7, y10_8)
                          (fun (b1_0, b1_1, b1_2, b1_3, b1_4, b1_5, b1_6, b1_7, b1_8, b1_9, b1_10, b1_11, b1_12, b1_13, b1_14, b1_15, b1_16, b1_17, b1_18, b1_19, b1_20) =>
                            bif Decidable.decide (b1_8 > (4 : Int)) then
                             bif Decidable.decide ((0 : Int) ≤ b1_0 ∧ b1_0 < (↑b1_11.length : Int)) then
                             k0 ((0 : Int), (6 : Int), b1_13, b1_14, b1_15, b1_16, b1_17, b1_18, Bool.true, b1_20, b1_11.set b1_0.toNat b1_2, b1_12)
                             else none
                            else
                             k0 (b1_1, (0 : Int), b1_3, b1_4, b1_5, b1_6, b1_7, b1_8, b1_9, b1_10, b1_11, b1_12))))))
                   ((f161_7ec (x0) ((0 : Int)) (y10_0) (y10_1) (y10_2) (y10_3) (y10_4) (y10_5) (y10_6) (y10_7) (y10_8) (y10_9) (y10_10)
                      (fun (y20_0, y20_1, y20_2, y20_3, y20_4, y20_5, y20_6, y20_7, y20_8, y20_9) =>
                        (L_coder_Decoder_Get_aa3_1 fuel (x0, (0 : Int), y10_9.getD x0.toNat (0 : Int), y20_0, y20_1, y20_2, y20_3, y20_4, y20_5, y20_6, y20_7, y20_8, y20_9, y10_1, y10_2, y10_3, y10_4, y10_5, y10_6, y10_7, y10_8)
                          (fun (b1_0, b1_1, b1_2, b1_3, b1_4, b1_5, b1_6, b1_7, b1_8, b1_9, b1_10, b1_11, b1_12, b1_13, b1_14, b1_15, b1_16, b1_17, b1_18, b1_19, b1_20) =>
                            bif Decidable.decide (b1_8 > (4 : Int)) then
                             bif Decidable.decide ((0 : Int) ≤ b1_0 ∧ b1_0 < (↑b1_11.length : Int)) then
                             k0 ((0 : Int), (6 : Int), b1_13, b1_14, b1_15, b1_16, b1_17, b1_18, Bool.true, b1_20, b1_11.set b1_0.toNat b1_2, b1_12)
                             else none
                            else
                             k0 (b1_1, (0 : Int), b1_3, b1_4, b1_5, b1_6, b1_7, b1_8, b1_9, b1_10, b1_11, b1_12)))))))
               else none))))) (fun r => match r with | (r0, r1, r2, r3, r4, r5, r6, r7, r8, r9, r10, r11) => k (.tup [(false, [.int .i64 r0]), (false, [.int .i64 r1])], [.cells 168 (.int .i64 r2 :: .own 1 :: .int .i64 2048 :: .int .i64 1792 :: .int .i64 1568 :: .int .i64 1372 :: .int .i64 1201 :: .int .i64 1051 :: .int .i64 920 :: .int .i64 805 :: .int .i64 705 :: .int .i64 617 :: .int .i64 540 :: .int .i64 473 :: .int .i64 414 :: .int .i64 363 :: .int .i64 318 :: .int .i64 279 :: .int .i64 245 :: .int .i64 215 :: .int .i64 189 :: .int .i64 166 :: .int .i64 146 :: .int .i64 128 :: .int .i64 112 :: .int .i64 98 :: .int .i64 86 :: .int .i64 76 :: .int .i64 67 :: .int .i64 59 :: .int .i64 52 :: .int .i64 46 :: .int .i64 41 :: .int .i64 36 :: .int .u64 r3 :: .int .u64 r4 :: .own 2 :: .int .i64 r5 :: .int .u64 r6 :: .int .i64 r7 :: .bool r8 :: .bool r9 :: []), .vec 3 (.int .i64) r10 false, .vec 5 (.int .u8) r11 false])) := by
  kernel_rfl
theorem F156_aa3_eq (fuel : Nat) (x0 : Int) (x1 : Int) (x2 : Int) (x3 : Int) (x4 : Int) (x5 : Int) (x6 : Int) (x7 : Bool) (x8 : Bool) (x9 : (List Int)) (x10 : (List Int)) (k : Ev.Cont) : evalFn tab (G156_aa3 fuel) (J156_aa3 fuel) kp156_aa3 fuel Tryz.f156 [.c (.ptr 0 0), .c (.int .i64 x0)] [.cells 168 (.int .i64 x1 :: .own 1 :: .int .i64 2048 :: .int .i64 1792 :: .int .i64 1568 :: .int .i64 1372 :: .int .i64 1201 :: .int .i64 1051 :: .int .i64 920 :: .int .i64 805 :: .int .i64 705 :: .int .i64 617 :: .int .i64 540 :: .int .i64 473 :: .int .i64 414 :: .int .i64 363 :: .int .i64 318 :: .int .i64 279 :: .int .i64 245 :: .int .i64 215 :: .int .i64 189 :: .int .i64 166 :: .int .i64 146 :: .int .i64 128 :: .int .i64 112 :: .int .i64 98 :: .int .i64 86 :: .int .i64 76 :: .int .i64 67 :: .int .i64 59 :: .int .i64 52 :: .int .i64 46 :: .int .i64 41 :: .int .i64 36 :: .int .u64 x2 :: .int .u64 x3 :: .own 2 :: .int .i64 x4 :: .int .u64 x5 :: .int .i64 x6 :: .bool x7 :: .bool x8 :: []), .vec 3 (.int .i64) x9 false, .vec 5 (.int .u8) x10 false] k = F_coder_Decoder_Get_aa3 fuel x0 x1 x2 x3 x4 x5 x6 x7 x8 x9 x10 (fun r => match r with | (r0, r1, r2, r3, r4, r5, r6, r7, r8, r9, r10, r11) => k (.tup [(false, [.int .i64 r0]), (false, [.int .i64 r1])], [.cells 168 (.int .i64 r2 :: .own 1 :: .int .i64 2048 :: .int .i64 1792 :: .int .i64 1568 :: .int .i64 1372 :: .int .i64 1201 :: .int .i64 1051 :: .int .i64 920 :: .int .i64 805 :: .int .i64 705 :: .int .i64 617 :: .int .i64 540 :: .int .i64 473 :: .int .i64 414 :: .int .i64 363 :: .int .i64 318 :: .int .i64 279 :: .int .i64 245 :: .int .i64 215 :: .int .i64 189 :: .int .i64 166 :: .int .i64 146 :: .int .i64 128 :: .int .i64 112 :: .int .i64 98 :: .int .i64 86 :: .int .i64 76 :: .int .i64 67 :: .int .i64 59 :: .int .i64 52 :: .int .i64 46 :: .int .i64 41 :: .int .i64 36 :: .int .u64 r3 :: .int .u64 r4 :: .own 2 :: .int .i64 r5 :: .int .u64 r6 :: .int .i64 r7 :: .bool r8 :: .bool r9 :: []), .vec 3 (.int .i64) r10 false, .vec 5 (.int .u8) r11 false])) :=
  F156_aa3_eqg fuel (F_coder_Decoder_shift_40a fuel) (F_coder_Decoder_none_40a fuel) (F_coder_interval_take_7ec fuel) (F_coder_interval_mid_aa3 fuel) (F_coder_interval_same_40a fuel) (F_coder_interval_lose_40a fuel) x0 x1 x2 x3 x4 x5 x6 x7 x8 x9 x10 k
theorem hG156_aa3 (fuel : Nat) : GOK Tryz.prog (G156_aa3 fuel) :=
  gok_cons ⟨ok120_40a fuel, enters_of Tryz.func120 (by kernel_rfl) rfl⟩ <|
  gok_cons ⟨ok124_40a fuel, enters_of Tryz.func124 (by kernel_rfl) rfl⟩ <|
  gok_cons ⟨ok161_7ec fuel, enters_of Tryz.func161 (by kernel_rfl) rfl⟩ <|
  gok_cons ⟨ok162_aa3 fuel, enters_of Tryz.func162 (by kernel_rfl) rfl⟩ <|
  gok_cons ⟨ok163_40a fuel, enters_of Tryz.func163 (by kernel_rfl) rfl⟩ <|
  gok_cons ⟨ok164_40a fuel, enters_of Tryz.func164 (by kernel_rfl) rfl⟩ <|
  gok_nil
theorem B156_aa3_1_blk (fuel : Nat) : BlkOK Tryz.prog Tryz.f156.ntmps (.block 1 (.loop (bodyOf 1 Tryz.f156))) (B156_aa3_1 fuel) :=
  blk_of (blk_of_code tab_ok (hG156_aa3 fuel) mixed (J := J156_aa3_1 fuel) (kp := kp156_aa3) (fuel := fuel) (by kernel_rfl) (fun q hq => by
    rw [(by kernel_rfl : obl (J156_aa3_1 fuel) (.block 1 (.loop (bodyOf 1 Tryz.f156))) = [])] at hq
    cases hq)) (B156_aa3_1_ok fuel)
theorem fok156_aa3 (fuel : Nat) : FnOK Tryz.prog 156 (evalFn tab (G156_aa3 fuel) (J156_aa3 fuel) kp156_aa3 fuel Tryz.f156) :=
  fn_ok tab_ok (hG156_aa3 fuel) mixed Tryz.func156 (c := (Tryz.f156.body).getD .skip) rfl (fun q hq => by
    rw [(by kernel_rfl : obl (J156_aa3 fuel) ((Tryz.f156.body).getD .skip) = [(.block 1 (.loop (bodyOf 1 Tryz.f156)), B156_aa3_1 fuel)])] at hq
    simp only [List.mem_cons, List.not_mem_nil, or_false] at hq
    subst hq
    · exact B156_aa3_1_blk fuel)
noncomputable def mt156_aa3 : List Ev.SV → List Ev.Ob → Bool := fun args objs => match args, objs with
  | [.c (.ptr q0 q1), .c (.int .i64 _)], [.cells q2 cs0, .vec q3 (.int .i64) _ false, .vec q4 (.int .u8) _ false] => (match splitRun 2 [(.i64, 2048), (.i64, 1792), (.i64, 1568), (.i64, 1372), (.i64, 1201), (.i64, 1051), (.i64, 920), (.i64, 805), (.i64, 705), (.i64, 617), (.i64, 540), (.i64, 473), (.i64, 414), (.i64, 363), (.i64, 318), (.i64, 279), (.i64, 245), (.i64, 215), (.i64, 189), (.i64, 166), (.i64, 146), (.i64, 128), (.i64, 112), (.i64, 98), (.i64, 86), (.i64, 76), (.i64, 67), (.i64, 59), (.i64, 52), (.i64, 46), (.i64, 41), (.i64, 36)] cs0 with | some ([.int .i64 _, .own q5], [.int .u64 _, .int .u64 _, .own q6, .int .i64 _, .int .u64 _, .int .i64 _, .bool _, .bool _]) => Nat.beq q0 0 && Nat.beq q1 0 && Nat.beq q2 168 && Nat.beq q3 3 && Nat.beq q4 5 && Nat.beq q5 1 && Nat.beq q6 2 | _ => false)
  | _, _ => false
noncomputable def spg156_aa3 (F : YF156_aa3) : Ev.Spec := fun args objs k => match args, objs with
  | [.c (.ptr q0 q1), .c (.int .i64 x0)], [.cells q2 cs0, .vec q3 (.int .i64) x9 false, .vec q4 (.int .u8) x10 false] => (match splitRun 2 [(.i64, 2048), (.i64, 1792), (.i64, 1568), (.i64, 1372), (.i64, 1201), (.i64, 1051), (.i64, 920), (.i64, 805), (.i64, 705), (.i64, 617), (.i64, 540), (.i64, 473), (.i64, 414), (.i64, 363), (.i64, 318), (.i64, 279), (.i64, 245), (.i64, 215), (.i64, 189), (.i64, 166), (.i64, 146), (.i64, 128), (.i64, 112), (.i64, 98), (.i64, 86), (.i64, 76), (.i64, 67), (.i64, 59), (.i64, 52), (.i64, 46), (.i64, 41), (.i64, 36)] cs0 with | some ([.int .i64 x1, .own q5], [.int .u64 x2, .int .u64 x3, .own q6, .int .i64 x4, .int .u64 x5, .int .i64 x6, .bool x7, .bool x8]) => bif Nat.beq q0 0 && Nat.beq q1 0 && Nat.beq q2 168 && Nat.beq q3 3 && Nat.beq q4 5 && Nat.beq q5 1 && Nat.beq q6 2 then F x0 x1 x2 x3 x4 x5 x6 x7 x8 x9 x10 (fun r => match r with | (r0, r1, r2, r3, r4, r5, r6, r7, r8, r9, r10, r11) => k (.tup [(false, [.int .i64 r0]), (false, [.int .i64 r1])], [.cells 168 (.int .i64 r2 :: .own 1 :: .int .i64 2048 :: .int .i64 1792 :: .int .i64 1568 :: .int .i64 1372 :: .int .i64 1201 :: .int .i64 1051 :: .int .i64 920 :: .int .i64 805 :: .int .i64 705 :: .int .i64 617 :: .int .i64 540 :: .int .i64 473 :: .int .i64 414 :: .int .i64 363 :: .int .i64 318 :: .int .i64 279 :: .int .i64 245 :: .int .i64 215 :: .int .i64 189 :: .int .i64 166 :: .int .i64 146 :: .int .i64 128 :: .int .i64 112 :: .int .i64 98 :: .int .i64 86 :: .int .i64 76 :: .int .i64 67 :: .int .i64 59 :: .int .i64 52 :: .int .i64 46 :: .int .i64 41 :: .int .i64 36 :: .int .u64 r3 :: .int .u64 r4 :: .own 2 :: .int .i64 r5 :: .int .u64 r6 :: .int .i64 r7 :: .bool r8 :: .bool r9 :: []), .vec 3 (.int .i64) r10 false, .vec 5 (.int .u8) r11 false])) else none | _ => none)
  | _, _ => none
noncomputable def spec156_aa3 (fuel : Nat) : Ev.Spec := spg156_aa3 (F_coder_Decoder_Get_aa3 fuel)
theorem ok156_aa3 (fuel : Nat) : FnOK Tryz.prog 156 (spec156_aa3 fuel) := by
  intro args objs kk r h
  unfold spec156_aa3 spg156_aa3 at h
  split at h
  · skip
    split at h
    rotate_left 1
    · cases h
    rename_i hsp
    have esp := splitRun_eq hsp
    subst esp
    obtain ⟨hb, h⟩ := cond_some' h
    simp only [Bool.and_eq_true, Nat.beq_eq, decide_eq_true_eq] at hb
    obtain ⟨⟨⟨⟨⟨⟨rfl, rfl⟩, rfl⟩, rfl⟩, rfl⟩, rfl⟩, rfl⟩ := hb
    exact fok156_aa3 fuel _ _ kk r ((F156_aa3_eq fuel _ _ _ _ _ _ _ _ _ _ _ kk).trans h)
  · cases h
end Go.Proofs.YtmjeeaemmbkioaaGreat

set_option linter.unusedVariables false
set_option linter.unusedSimpArgs false
set_option maxRecDepth 100000
set_option maxHeartbeats 2000000
namespace Go.Proofs.YtmjeeaemmbkioaaGreat
open Go Ev
def kp173_aa3 (i : Nat) : Option (List Nat) := Ev.look i [(5, [0, 1, 4, 8]), (14, [0, 1, 4, 8, 9, 10, 49, 50]), (100000, [0, 1, 4, 8]), (100002, [0, 1, 4, 9]), (400000, [4, 5]), (400002, [4, 5])]
noncomputable def Gg173_aa3 (f156_aa3 : YF156_aa3) (f172 : YF172) (f : Nat) : Option Ev.Spec := Ev.look f [(156, spg156_aa3 f156_aa3), (172, spg172 f172)]
noncomputable def G173_aa3 (fuel : Nat) : Nat → Option Ev.Spec := Gg173_aa3 (F_coder_Decoder_Get_aa3 fuel) (F_number_tail_take fuel)
noncomputable def S_number_get_aa3_0 (fuel : Nat) (v : Int × Int × Int × Int × Int × Int × Int × Int × Bool × Bool × (List Int) × (List Int) × Bool × Int) (c : (Int × Int × Int × Int × Int × Int × Int × Int × Bool × Bool × (List Int) × (List Int) × Bool × Int) → Option Ans) (B : (Int × Int × Int × Int × Int × Int × Int × Bool × Bool × (List Int) × (List Int) × Bool × Int → Option Ans) × (Int × Int × Int × Int × Int × Int × Int × Int × Bool × Bool × (List Int) × (List Int) × Bool × Int → Option Ans)) : Option Ans := match v, B with
  | (x0, x1, x2, x3, x4, x5, x6, x7, x8, x9, x10, x11, x12, x13), (ret, b) =>
   bif Decidable.decide (x1 < (20 : Int)) then
      (F_coder_Decoder_Get_aa3 fuel (Go.IntKind.i64.wrap (Go.IntKind.i64.wrap (x0 + (1 : Int)) + x1)) (x2) (x3) (x4) (x5) (x6) (x7) (x8) (x9) (x10) (x11)
        (fun (y3_0, y3_1, y3_2, y3_3, y3_4, y3_5, y3_6, y3_7, y3_8, y3_9, y3_10, y3_11) =>
          bif y3_1 != (0 : Int) then
           ret (y3_1, y3_2, y3_3, y3_4, y3_5, y3_6, y3_7, y3_8, y3_9, y3_10, y3_11, Bool.false, (0 : Int))
          else
           bif y3_0 == (0 : Int) then
            b (x0, x1, y3_2, y3_3, y3_4, y3_5, y3_6, y3_7, y3_8, y3_9, y3_10, y3_11, x12, x13)
           else
            c (x0, Go.IntKind.i64.wrap (x1 + (1 : Int)), y3_2, y3_3, y3_4, y3_5, y3_6, y3_7, y3_8, y3_9, y3_10, y3_11, x12, x13)))
     else
      b (x0, x1, x2, x3, x4, x5, x6, x7, x8, x9, x10, x11, x12, x13)
noncomputable def L_number_get_aa3_0 (fuel : Nat) (v : Int × Int × Int × Int × Int × Int × Int × Int × Bool × Bool × (List Int) × (List Int) × Bool × Int) (ret : (Int × Int × Int × Int × Int × Int × Int × Bool × Bool × (List Int) × (List Int) × Bool × Int → Option Ans)) (b : (Int × Int × Int × Int × Int × Int × Int × Int × Bool × Bool × (List Int) × (List Int) × Bool × Int → Option Ans)) : Option Ans := iter (S_number_get_aa3_0 fuel) fuel v (ret, b)
noncomputable def J173_aa3_0 (fuel : Nat) (i : Nat) : Option Ev.Blk := Ev.look i []
noncomputable def T173_aa3_0 (v : Int × Int × Int × Int × Int × Int × Int × Int × Bool × Bool × (List Int) × (List Int) × Bool × Int) : Ev.St := match v with | (x0, x1, x2, x3, x4, x5, x6, x7, x8, x9, x10, x11, x12, x13) => ⟨[(0, .c (.ptr 0 0)), (1, .c (.int .i64 x0)), (4, .c (.ptr 3 0)), (8, .c (.int .i64 x1))], [(0, .cells 168 (.int .i64 x2 :: .own 1 :: .int .i64 2048 :: .int .i64 1792 :: .int .i64 1568 :: .int .i64 1372 :: .int .i64 1201 :: .int .i64 1051 :: .int .i64 920 :: .int .i64 805 :: .int .i64 705 :: .int .i64 617 :: .int .i64 540 :: .int .i64 473 :: .int .i64 414 :: .int .i64 363 :: .int .i64 318 :: .int .i64 279 :: .int .i64 245 :: .int .i64 215 :: .int .i64 189 :: .int .i64 166 :: .int .i64 146 :: .int .i64 128 :: .int .i64 112 :: .int .i64 98 :: .int .i64 86 :: .int .i64 76 :: .int .i64 67 :: .int .i64 59 :: .int .i64 52 :: .int .i64 46 :: .int .i64 41 :: .int .i64 36 :: .int .u64 x3 :: .int .u64 x4 :: .own 2 :: .int .i64 x5 :: .int .u64 x6 :: .int .i64 x7 :: .bool x8 :: .bool x9 :: [])), (1, .vec 3 (.int .i64) x10 false), (2, .vec 5 (.int .u8) x11 false), (3, .cells 138 [.bool x12, .int .i64 x13])], 4, 3⟩
noncomputable def E173_aa3_0 (K : Ev.Ex → Ev.St → Option Ans) : (Int × Int × Int × Int × Int × Int × Int × Bool × Bool × (List Int) × (List Int) × Bool × Int → Option Ans) × (Int × Int × Int × Int × Int × Int × Int × Int × Bool × Bool × (List Int) × (List Int) × Bool × Int → Option Ans) := ((fun v => match v with | (x0, x1, x2, x3, x4, x5, x6, x7, x8, x9, x10, x11, x12) => K .ret ⟨[(4, .c (.ptr 3 0)), (5, .c (.int .i64 x0))], [(0, .cells 168 (.int .i64 x1 :: .own 1 :: .int .i64 2048 :: .int .i64 1792 :: .int .i64 1568 :: .int .i64 1372 :: .int .i64 1201 :: .int .i64 1051 :: .int .i64 920 :: .int .i64 805 :: .int .i64 705 :: .int .i64 617 :: .int .i64 540 :: .int .i64 473 :: .int .i64 414 :: .int .i64 363 :: .int .i64 318 :: .int .i64 279 :: .int .i64 245 :: .int .i64 215 :: .int .i64 189 :: .int .i64 166 :: .int .i64 146 :: .int .i64 128 :: .int .i64 112 :: .int .i64 98 :: .int .i64 86 :: .int .i64 76 :: .int .i64 67 :: .int .i64 59 :: .int .i64 52 :: .int .i64 46 :: .int .i64 41 :: .int .i64 36 :: .int .u64 x2 :: .int .u64 x3 :: .own 2 :: .int .i64 x4 :: .int .u64 x5 :: .int .i64 x6 :: .bool x7 :: .bool x8 :: [])), (1, .vec 3 (.int .i64) x9 false), (2, .vec 5 (.int .u8) x10 false), (3, .cells 138 [.bool x11, .int .i64 x12])], 4, 3⟩), (fun v => match v with | (x0, x1, x2, x3, x4, x5, x6, x7, x8, x9, x10, x11, x12, x13) => K .normal ⟨[(0, .c (.ptr 0 0)), (1, .c (.int .i64 x0)), (4, .c (.ptr 3 0)), (8, .c (.int .i64 x1))], [(0, .cells 168 (.int .i64 x2 :: .own 1 :: .int .i64 2048 :: .int .i64 1792 :: .int .i64 1568 :: .int .i64 1372 :: .int .i64 1201 :: .int .i64 1051 :: .int .i64 920 :: .int .i64 805 :: .int .i64 705 :: .int .i64 617 :: .int .i64 540 :: .int .i64 473 :: .int .i64 414 :: .int .i64 363 :: .int .i64 318 :: .int .i64 279 :: .int .i64 245 :: .int .i64 215 :: .int .i64 189 :: .int .i64 166 :: .int .i64 146 :: .int .i64 128 :: .int .i64 112 :: .int .i64 98 :: .int .i64 86 :: .int .i64 76 :: .int .i64 67 :: .int .i64 59 :: .int .i64 52 :: .int .i64 46 :: .int .i64 41 :: .int .i64 36 :: .int .u64 x3 :: .int .u64 x4 :: .own 2 :: .int .i64 x5 :: .int .u64 x6 :: .int .i64 x7 :: .bool x8 :: .bool x9 :: [])), (1, .vec 3 (.int .i64) x10 false), (2, .vec 5 (.int .u8) x11 false), (3, .cells 138 [.bool x12, .int .i64 x13])], 4, 3⟩))
theorem S173_aa3_0_okg (fuel : Nat) (f156_aa3 : YF156_aa3) (f172 : YF172) (R : Ev.St → Option Ans) (K : Ev.Ex → Ev.St → Option Ans) (x0 : Int) (x1 : Int) (x2 : Int) (x3 : Int) (x4 : Int) (x5 : Int) (x6 : Int) (x7 : Int) (x8 : Bool) (x9 : Bool) (x10 : (List Int)) (x11 : (List Int)) (x12 : Bool) (x13 : Int) : evalCode tab (Gg173_aa3 f156_aa3 f172) (J173_aa3_0 fuel) kp173_aa3 fuel (bodyOf 0 Tryz.f173) (T173_aa3_0 (x0, x1, x2, x3, x4, x5, x6, x7, x8, x9, x10, x11, x12, x13)) (lc kp173_aa3 5 0 R K) = (fun (c : (Int × Int × Int × Int × Int × Int × Int × Int × Bool × Bool × (List Int) × (List Int) × Bool × Int) → Option Ans) (B : (Int × Int × Int × Int × Int × Int × Int × Bool × Bool × (List Int) × (List Int) × Bool × Int → Option Ans) × (Int × Int × Int × Int × Int × Int × Int × Int × Bool × Bool × (List Int) × (List Int) × Bool × Int → Option Ans)) => match B with
  | (ret, b) =>
   bif Decidable.decide (x1 < (20 : Int)) then
      (f156_aa3 (Go.IntKind.i64.wrap (Go.IntKind.i64.wrap (x0 + (1 : Int)) + x1)) (x2) (x3) (x4) (x5) (x6) (x7) (x8) (x9) (x10) (x11)
        (fun (y3_0, y3_1, y3_2, y3_3, y3_4, y3_5, y3_6, y3_7, y3_8, y3_9, y3_10, y3_11) =>
          bif y3_1 != (0 : Int) then
           ret (y3_1, y3_2, y3_3, y3_4, y3_5, y3_6, y3_7, y3_8, y3_9, y3_10, y3_11, Bool.false, (0 : Int))
          else
           bif y3_0 == (0 : Int) then
            b (x0, x1, y3_2, y3_3, y3_4, y3_5, y3_6, y3_7, y3_8, y3_9, y3_10, y3_11, x12, x13)
           else
            c (x0, Go.IntKind.i64.wrap (x1 + (1 : Int)), y3_2, y3_3, y3_4, y3_5, y3_6, y3_7, y3_8, y3_9, y3_10, y3_11, x12, x13)))
     else
      b (x0, x1, x2, x3, x4, x5, x6, x7, x8, x9, x10, x11, x12, x13)) (fun v => R (T173_aa3_0 v)) (E173_aa3_0 K) := by
  kernel_rfl
theorem S173_aa3_0_ok (fuel : Nat) (R : Ev.St → Option Ans) (K : Ev.Ex → Ev.St → Option Ans) (x0 : Int) (x1 : Int) (x2 : Int) (x3 : Int) (x4 : Int) (x5 : Int) (x6 : Int) (x7 : Int) (x8 : Bool) (x9 : Bool) (x10 : (List Int)) (x11 : (List Int)) (x12 : Bool) (x13 : Int) : evalCode tab (G173_aa3 fuel) (J173_aa3_0 fuel) kp173_aa3 fuel (bodyOf 0 Tryz.f173) (T173_aa3_0 (x0, x1, x2, x3, x4, x5, x6, x7, x8, x9, x10, x11, x12, x13)) (lc kp173_aa3 5 0 R K) = S_number_get_aa3_0 fuel (x0, x1, x2, x3, x4, x5, x6, x7, x8, x9, x10, x11, x12, x13) (fun v => R (T173_aa3_0 v)) (E173_aa3_0 K) :=
  S173_aa3_0_okg fuel (F_coder_Decoder_Get_aa3 fuel) (F_number_tail_take fuel) R K x0 x1 x2 x3 x4 x5 x6 x7 x8 x9 x10 x11 x12 x13
noncomputable def B173_aa3_0 (fuel : Nat) : Ev.Blk := fun st K => match canonO (kp173_aa3 5) st with
  | some s => (match s with
    | ⟨[(q0, .c (.ptr q1 q2)), (q3, .c (.int .i64 x0)), (q4, .c (.ptr q5 q6)), (q7, .c (.int .i64 x1))], [(q8, .cells q9 cs0), (q10, .vec q11 (.int .i64) x10 false), (q12, .vec q13 (.int .u8) x11 false), (q14, .cells q15 [.bool x12, .int .i64 x13])], q16, q17⟩ => (match splitRun 2 [(.i64, 2048), (.i64, 1792), (.i64, 1568), (.i64, 1372), (.i64, 1201), (.i64, 1051), (.i64, 920), (.i64, 805), (.i64, 705), (.i64, 617), (.i64, 540), (.i64, 473), (.i64, 414), (.i64, 363), (.i64, 318), (.i64, 279), (.i64, 245), (.i64, 215), (.i64, 189), (.i64, 166), (.i64, 146), (.i64, 128), (.i64, 112), (.i64, 98), (.i64, 86), (.i64, 76), (.i64, 67), (.i64, 59), (.i64, 52), (.i64, 46), (.i64, 41), (.i64, 36)] cs0 with | some ([.int .i64 x2, .own q18], [.int .u64 x3, .int .u64 x4, .own q19, .int .i64 x5, .int .u64 x6, .int .i64 x7, .bool x8, .bool x9]) => bif Nat.beq q0 0 && Nat.beq q1 0 && Nat.beq q2 0 && Nat.beq q3 1 && Nat.beq q4 4 && Nat.beq q5 3 && Nat.beq q6 0 && Nat.beq q7 8 && Nat.beq q8 0 && Nat.beq q9 168 && Nat.beq q10 1 && Nat.beq q11 3 && Nat.beq q12 2 && Nat.beq q13 5 && Nat.beq q14 3 && Nat.beq q15 138 && Nat.beq q16 4 && Nat.beq q17 3 && Nat.beq q18 1 && Nat.beq q19 2 then iter (S_number_get_aa3_0 fuel) fuel (x0, x1, x2, x3, x4, x5, x6, x7, x8, x9, x10, x11, x12, x13) (E173_aa3_0 K) else none | _ => none)
    | _ => none)
  | none => none
theorem B173_aa3_0_ok (fuel : Nat) (st : Ev.St) (K : Ev.Ex → Ev.St → Option Ans) (r : Ans) (h : B173_aa3_0 fuel st K = some r) : evalCode tab (G173_aa3 fuel) (J173_aa3_0 fuel) kp173_aa3 fuel (.block 0 (.loop (bodyOf 0 Tryz.f173))) st K = some r := by
  unfold B173_aa3_0 at h
  split at h
  · rename_i s hs
    split at h
    · skip
      split at h
      rotate_left 1
      · cases h
      rename_i hsp
      have esp := splitRun_eq hsp
      subst esp
      obtain ⟨hb, h⟩ := cond_some' h
      simp only [Bool.and_eq_true, Nat.beq_eq, decide_eq_true_eq] at hb
      obtain ⟨⟨⟨⟨⟨⟨⟨⟨⟨⟨⟨⟨⟨⟨⟨⟨⟨⟨⟨rfl, rfl⟩, rfl⟩, rfl⟩, rfl⟩, rfl⟩, rfl⟩, rfl⟩, rfl⟩, rfl⟩, rfl⟩, rfl⟩, rfl⟩, rfl⟩, rfl⟩, rfl⟩, rfl⟩, rfl⟩, rfl⟩, rfl⟩ := hb
      exact blk_loop (S := T173_aa3_0) (ks := E173_aa3_0) (step := S_number_get_aa3_0 fuel) (v := (_, _, _, _, _, _, _, _, _, _, _, _, _, _)) (by kernel_rfl) (by kernel_rfl) (fun R K v => by obtain ⟨x0, x1, x2, x3, x4, x5, x6, x7, x8, x9, x10, x11, x12, x13⟩ := v; exact S173_aa3_0_ok fuel R K x0 x1 x2 x3 x4 x5 x6 x7 x8 x9 x10 x11 x12 x13) hs h
    · cases h
  · cases h
noncomputable def S_number_get_aa3_2 (fuel : Nat) (v : Int × Int × Int × Int × Int × Int × Int × Int × Int × Int × Int × Bool × Bool × (List Int) × (List Int) × Bool × Int × Int) (c : (Int × Int × Int × Int × Int × Int × Int × Int × Int × Int × Int × Bool × Bool × (List Int) × (List Int) × Bool × Int × Int) → Option Ans) (B : (Int × Int × Int × Int × Int × Int × Int × Bool × Bool × (List Int) × (List Int) × Bool × Int → Option Ans) × (Int × Int × Int × Int × Int × Int × Int × Int × Bool × Bool × (List Int) × (List Int) × Bool × Int → Option Ans)) : Option Ans := match v, B with
  | (x0, x1, x2, x3, x4, x5, x6, x7, x8, x9, x10, x11, x12, x13, x14, x15, x16, x17), (ret, b) =>
   bif Decidable.decide (x4 < x3) then
      bif Decidable.decide (x4 > (0 : Int)) then
       (F_number_tail_take fuel (x17)
         (fun (y4_0, y4_1) =>
           (F_coder_Decoder_Get_aa3 fuel (Go.IntKind.i64.wrap (x0 + y4_0)) (x5) (x6) (x7) (x8) (x9) (x10) (x11) (x12) (x13) (x14)
             (fun (y8_0, y8_1, y8_2, y8_3, y8_4, y8_5, y8_6, y8_7, y8_8, y8_9, y8_10, y8_11) =>
               bif y8_1 != (0 : Int) then
                ret (y8_1, y8_2, y8_3, y8_4, y8_5, y8_6, y8_7, y8_8, y8_9, y8_10, y8_11, Bool.false, (0 : Int))
               else
                c (x0, x1, Go.IntKind.i64.wrap (Go.IntKind.i64.wrap ((2 : Int) * x2) + y8_0), x3, Go.IntKind.i64.wrap (x4 + (1 : Int)), y8_2, y8_3, y8_4, y8_5, y8_6, y8_7, y8_8, y8_9, y8_10, y8_11, x15, x16, y4_1)))))
      else
       (F_coder_Decoder_Get_aa3 fuel (Go.IntKind.i64.wrap (x0 + Go.IntKind.i64.wrap ((23 : Int) + x1))) (x5) (x6) (x7) (x8) (x9) (x10) (x11) (x12) (x13) (x14)
         (fun (y4_0, y4_1, y4_2, y4_3, y4_4, y4_5, y4_6, y4_7, y4_8, y4_9, y4_10, y4_11) =>
           bif y4_1 != (0 : Int) then
            ret (y4_1, y4_2, y4_3, y4_4, y4_5, y4_6, y4_7, y4_8, y4_9, y4_10, y4_11, Bool.false, (0 : Int))
           else
            c (x0, x1, Go.IntKind.i64.wrap (Go.IntKind.i64.wrap ((2 : Int) * x2) + y4_0), x3, Go.IntKind.i64.wrap (x4 + (1 : Int)), y4_2, y4_3, y4_4, y4_5, y4_6, y4_7, y4_8, y4_9, y4_10, y4_11, x15, x16, x17)))
     else
      b (x0, x2, x5, x6, x7, x8, x9, x10, x11, x12, x13, x14, x15, x16)
noncomputable def L_number_get_aa3_2 (fuel : Nat) (v : Int × Int × Int × Int × Int × Int × Int × Int × Int × Int × Int × Bool × Bool × (List Int) × (List Int) × Bool × Int × Int) (ret : (Int × Int × Int × Int × Int × Int × Int × Bool × Bool × (List Int) × (List Int) × Bool × Int → Option Ans)) (b : (Int × Int × Int × Int × Int × Int × Int × Int × Bool × Bool × (List Int) × (List Int) × Bool × Int → Option Ans)) : Option Ans := iter (S_number_get_aa3_2 fuel) fuel v (ret, b)
noncomputable def J173_aa3_2 (fuel : Nat) (i : Nat) : Option Ev.Blk := Ev.look i [(100000, B173_aa3_0 fuel)]
noncomputable def T173_aa3_2 (v : Int × Int × Int × Int × Int × Int × Int × Int × Int × Int × Int × Bool × Bool × (List Int) × (List Int) × Bool × Int × Int) : Ev.St := match v with | (x0, x1, x2, x3, x4, x5, x6, x7, x8, x9, x10, x11, x12, x13, x14, x15, x16, x17) => ⟨[(0, .c (.ptr 0 0)), (1, .c (.int .i64 x0)), (4, .c (.ptr 3 0)), (8, .c (.int .i64 x1)), (9, .c (.int .i64 x2)), (10, .c (.ptr 4 0)), (49, .c (.int .i64 x3)), (50, .c (.int .i64 x4))], [(0, .cells 168 (.int .i64 x5 :: .own 1 :: .int .i64 2048 :: .int .i64 1792 :: .int .i64 1568 :: .int .i64 1372 :: .int .i64 1201 :: .int .i64 1051 :: .int .i64 920 :: .int .i64 805 :: .int .i64 705 :: .int .i64 617 :: .int .i64 540 :: .int .i64 473 :: .int .i64 414 :: .int .i64 363 :: .int .i64 318 :: .int .i64 279 :: .int .i64 245 :: .int .i64 215 :: .int .i64 189 :: .int .i64 166 :: .int .i64 146 :: .int .i64 128 :: .int .i64 112 :: .int .i64 98 :: .int .i64 86 :: .int .i64 76 :: .int .i64 67 :: .int .i64 59 :: .int .i64 52 :: .int .i64 46 :: .int .i64 41 :: .int .i64 36 :: .int .u64 x6 :: .int .u64 x7 :: .own 2 :: .int .i64 x8 :: .int .u64 x9 :: .int .i64 x10 :: .bool x11 :: .bool x12 :: [])), (1, .vec 3 (.int .i64) x13 false), (2, .vec 5 (.int .u8) x14 false), (3, .cells 138 [.bool x15, .int .i64 x16]), (4, .cells 221 [.int .i64 x17])], 5, 3⟩
noncomputable def E173_aa3_2 (K : Ev.Ex → Ev.St → Option Ans) : (Int × Int × Int × Int × Int × Int × Int × Bool × Bool × (List Int) × (List Int) × Bool × Int → Option Ans) × (Int × Int × Int × Int × Int × Int × Int × Int × Bool × Bool × (List Int) × (List Int) × Bool × Int → Option Ans) := ((fun v => match v with | (x0, x1, x2, x3, x4, x5, x6, x7, x8, x9, x10, x11, x12) => K .ret ⟨[(4, .c (.ptr 3 0)), (5, .c (.int .i64 x0))], [(0, .cells 168 (.int .i64 x1 :: .own 1 :: .int .i64 2048 :: .int .i64 1792 :: .int .i64 1568 :: .int .i64 1372 :: .int .i64 1201 :: .int .i64 1051 :: .int .i64 920 :: .int .i64 805 :: .int .i64 705 :: .int .i64 617 :: .int .i64 540 :: .int .i64 473 :: .int .i64 414 :: .int .i64 363 :: .int .i64 318 :: .int .i64 279 :: .int .i64 245 :: .int .i64 215 :: .int .i64 189 :: .int .i64 166 :: .int .i64 146 :: .int .i64 128 :: .int .i64 112 :: .int .i64 98 :: .int .i64 86 :: .int .i64 76 :: .int .i64 67 :: .int .i64 59 :: .int .i64 52 :: .int .i64 46 :: .int .i64 41 :: .int .i64 36 :: .int .u64 x2 :: .int .u64 x3 :: .own 2 :: .int .i64 x4 :: .int .u64 x5 :: .int .i64 x6 :: .bool x7 :: .bool x8 :: [])), (1, .vec 3 (.int .i64) x9 false), (2, .vec 5 (.int .u8) x10 false), (3, .cells 138 [.bool x11, .int .i64 x12])], 4, 3⟩), (fun v => match v with | (x0, x1, x2, x3, x4, x5, x6, x7, x8, x9, x10, x11, x12, x13) => K .normal ⟨[(0, .c (.ptr 0 0)), (1, .c (.int .i64 x0)), (4, .c (.ptr 3 0)), (9, .c (.int .i64 x1))], [(0, .cells 168 (.int .i64 x2 :: .own 1 :: .int .i64 2048 :: .int .i64 1792 :: .int .i64 1568 :: .int .i64 1372 :: .int .i64 1201 :: .int .i64 1051 :: .int .i64 920 :: .int .i64 805 :: .int .i64 705 :: .int .i64 617 :: .int .i64 540 :: .int .i64 473 :: .int .i64 414 :: .int .i64 363 :: .int .i64 318 :: .int .i64 279 :: .int .i64 245 :: .int .i64 215 :: .int .i64 189 :: .int .i64 166 :: .int .i64 146 :: .int .i64 128 :: .int .i64 112 :: .int .i64 98 :: .int .i64 86 :: .int .i64 76 :: .int .i64 67 :: .int .i64 59 :: .int .i64 52 :: .int .i64 46 :: .int .i64 41 :: .int .i64 36 :: .int .u64 x3 :: .int .u64 x4 :: .own 2 :: .int .i64 x5 :: .int .u64 x6 :: .int .i64 x7 :: .bool x8 :: .bool x9 :: [])), (1, .vec 3 (.int .i64) x10 false), (2, .vec 5 (.int .u8) x11 false), (3, .cells 138 [.bool x12, .int .i64 x13])], 4, 3⟩))
theorem S173_aa3_2_okg (fuel : Nat) (f156_aa3 : YF156_aa3) (f172 : YF172) (R : Ev.St → Option Ans) (K : Ev.Ex → Ev.St → Option Ans) (x0 : Int) (x1 : Int) (x2 : Int) (x3 : Int) (x4 : Int) (x5 : Int) (x6 : Int) (x7 : Int) (x8 : Int) (x9 : Int) (x10 : Int) (x11 : Bool) (x12 : Bool) (x13 : (List Int)) (x14 : (List Int)) (x15 : Bool) (x16 : Int) (x17 : Int) : evalCode tab (Gg173_aa3 f156_aa3 f172) (J173_aa3_2 fuel) kp173_aa3 fuel (bodyOf 2 Tryz.f173) (T173_aa3_2 (x0, x1, x2, x3, x4, x5, x6, x7, x8, x9, x10, x11, x12, x13, x14, x15, x16, x17)) (lc kp173_aa3 14 2 R K) = (fun (c : (Int × Int × Int × Int × Int × Int × Int × Int × Int × Int × Int × Bool × Bool × (List Int) × (List Int) × Bool × Int × Int) → Option Ans) (B : (Int × Int × Int × Int × Int × Int × Int × Bool × Bool × (List Int) × (List Int) × Bool × Int → Option Ans) × (Int × Int × Int × Int × Int × Int × Int × Int × Bool × Bool × (List Int) × (List Int) × Bool × Int → Option Ans)) => match B with
  | (ret, b) =>
   bif Decidable.decide (x4 < x3) then
      bif Decidable.decide (x4 > (0 : Int)) then
       (f172 (x17)
         (fun (y4_0, y4_1) =>
           (f156_aa3 (Go.IntKind.i64.wrap (x0 + y4_0)) (x5) (x6) (x7) (x8) (x9) (x10) (x11) (x12) (x13) (x14)
             (fun (y8_0, y8_1, y8_2, y8_3, y8_4, y8_5, y8_6, y8_7, y8_8, y8_9, y8_10, y8_11) =>
               bif y8_1 != (0 : Int) then
                ret (y8_1, y8_2, y8_3, y8_4, y8_5, y8_6, y8_7, y8_8, y8_9, y8_10, y8_11, Bool.false, (0 : Int))
               else
                c (x0, x1, Go.IntKind.i64.wrap (Go.IntKind.i64.wrap ((2 : Int) * x2) + y8_0), x3, Go.IntKind.i64.wrap (x4 + (1 : Int)), y8_2, y8_3, y8_4, y8_5, y8_6, y8_7, y8_8, y8_9, y8_10, y8_11, x15, x16, y4_1)))))
      else
       (f156_aa3 (Go.IntKind.i64.wrap (x0 + Go.IntKind.i64.wrap ((23 : Int) + x1))) (x5) (x6) (x7) (x8) (x9) (x10) (x11) (x12) (x13) (x14)
         (fun (y4_0, y4_1, y4_2, y4_3, y4_4, y4_5, y4_6, y4_7, y4_8, y4_9, y4_10, y4_11) =>
           bif y4_1 != (0 : Int) then
            ret (y4_1, y4_2, y4_3, y4_4, y4_5, y4_6, y4_7, y4_8, y4_9, y4_10, y4_11, Bool.false, (0 : Int))
           else
            c (x0, x1, Go.IntKind.i64.wrap (Go.IntKind.i64.wrap ((2 : Int) * x2) + y4_0), x3, Go.IntKind.i64.wrap (x4 + (1 : Int)), y4_2, y4_3, y4_4, y4_5, y4_6, y4_7, y4_8, y4_9, y4_10, y4_11, x15, x16, x17)))
     else
      b (x0, x2, x5, x6, x7, x8, x9, x10, x11, x12, x13, x14, x15, x16)) (fun v => R (T173_aa3_2 v)) (E173_aa3_2 K) := by
  kernel_rfl
theorem S173_aa3_2_ok (fuel : Nat) (R : Ev.St → Option Ans) (K : Ev.Ex → Ev.St → Option Ans) (x0 : Int) (x1 : Int) (x2 : Int) (x3 : Int) (x4 : Int) (x5 : Int) (x6 : Int) (x7 : Int) (x8 : Int) (x9 : Int) (x10 : Int) (x11 : Bool) (x12 : Bool) (x13 : (List Int)) (x14 : (List Int)) (x15 : Bool) (x16 : Int) (x17 : Int) : evalCode tab (G173_aa3 fuel) (J173_aa3_2 fuel) kp173_aa3 fuel (bodyOf 2 Tryz.f173) (T173_aa3_2 (x0, x1, x2, x3, x4, x5, x6, x7, x8, x9, x10, x11, x12, x13, x14, x15, x16, x17)) (lc kp173_aa3 14 2 R K) = S_number_get_aa3_2 fuel (x0, x1, x2, x3, x4, x5, x6, x7, x8, x9, x10, x11, x12, x13, x14, x15, x16, x17) (fun v => R (T173_aa3_2 v)) (E173_aa3_2 K) :=
  S173_aa3_2_okg fuel (F_coder_Decoder_Get_aa3 fuel) (F_number_tail_take fuel) R K x0 x1 x2 x3 x4 x5 x6 x7 x8 x9 x10 x11 x12 x13 x14 x15 x16 x17
noncomputable def B173_aa3_2 (fuel : Nat) : Ev.Blk := fun st K => match canonO (kp173_aa3 14) st with
  | some s => (match s with
    | ⟨[(q0, .c (.ptr q1 q2)), (q3, .c (.int .i64 x0)), (q4, .c (.ptr q5 q6)), (q7, .c (.int .i64 x1)), (q8, .c (.int .i64 x2)), (q9, .c (.ptr q10 q11)), (q12, .c (.int .i64 x3)), (q13, .c (.int .i64 x4))], [(q14, .cells q15 cs0), (q16, .vec q17 (.int .i64) x13 false), (q18, .vec q19 (.int .u8) x14 false), (q20, .cells q21 [.bool x15, .int .i64 x16]), (q22, .cells q23 [.int .i64 x17])], q24, q25⟩ => (match splitRun 2 [(.i64, 2048), (.i64, 1792), (.i64, 1568), (.i64, 1372), (.i64, 1201), (.i64, 1051), (.i64, 920), (.i64, 805), (.i64, 705), (.i64, 617), (.i64, 540), (.i64, 473), (.i64, 414), (.i64, 363), (.i64, 318), (.i64, 279), (.i64, 245), (.i64, 215), (.i64, 189), (.i64, 166), (.i64, 146), (.i64, 128), (.i64, 112), (.i64, 98), (.i64, 86), (.i64, 76), (.i64, 67), (.i64, 59), (.i64, 52), (.i64, 46), (.i64, 41), (.i64, 36)] cs0 with | some ([.int .i64 x5, .own q26], [.int .u64 x6, .int .u64 x7, .own q27, .int .i64 x8, .int .u64 x9, .int .i64 x10, .bool x11, .bool x12]) => bif Nat.beq q0 0 && Nat.beq q1 0 && Nat.beq q2 0 && Nat.beq q3 1 && Nat.beq q4 4 && Nat.beq q5 3 && Nat.beq q6 0 && Nat.beq q7 8 && Nat.beq q8 9 && Nat.beq q9 10 && Nat.beq q10 4 && Nat.beq q11 0 && Nat.beq q12 49 && Nat.beq q13 50 && Nat.beq q14 0 && Nat.beq q15 168 && Nat.beq q16 1 && Nat.beq q17 3 && Nat.beq q18 2 && Nat.beq q19 5 && Nat.beq q20 3 && Nat.beq q21 138 && Nat.beq q22 4 && Nat.beq q23 221 && Nat.beq q24 5 && Nat.beq q25 3 && Nat.beq q26 1 && Nat.beq q27 2 then iter (S_number_get_aa3_2 fuel) fuel (x0, x1, x2, x3, x4, x5, x6, x7, x8, x9, x10, x11, x12, x13, x14, x15, x16, x17) (E173_aa3_2 K) else none | _ => none)
    | _ => none)
  | none => none
theorem B173_aa3_2_ok (fuel : Nat) (st : Ev.St) (K : Ev.Ex → Ev.St → Option Ans) (r : Ans) (h : B173_aa3_2 fuel st K = some r) : evalCode tab (G173_aa3 fuel) (J173_aa3_2 fuel) kp173_aa3 fuel (.block 2 (.loop (bodyOf 2 Tryz.f173))) st K = some r := by
  unfold B173_aa3_2 at h
  split at h
  · rename_i s hs
    split at h
    · skip
      split at h
      rotate_left 1
      · cases h
      rename_i hsp
      have esp := splitRun_eq hsp
      subst esp
      obtain ⟨hb, h⟩ := cond_some' h
      simp only [Bool.and_eq_true, Nat.beq_eq, decide_eq_true_eq] at hb
      obtain ⟨⟨⟨⟨⟨⟨⟨⟨⟨⟨⟨⟨⟨⟨⟨⟨⟨⟨⟨⟨⟨⟨⟨⟨⟨⟨⟨rfl, rfl⟩, rfl⟩, rfl⟩, rfl⟩, rfl⟩, rfl⟩, rfl⟩, rfl⟩, rfl⟩, rfl⟩, rfl⟩, rfl⟩, rfl⟩, rfl⟩, rfl⟩, rfl⟩, rfl⟩, rfl⟩, rfl⟩, rfl⟩, rfl⟩, rfl⟩, rfl⟩, rfl⟩, rfl⟩, rfl⟩, rfl⟩ := hb
      exact blk_loop (S := T173_aa3_2) (ks := E173_aa3_2) (step := S_number_get_aa3_2 fuel) (v := (_, _, _, _, _, _, _, _, _, _, _, _, _, _, _, _, _, _)) (by kernel_rfl) (by kernel_rfl) (fun R K v => by obtain ⟨x0, x1, x2, x3, x4, x5, x6, x7, x8, x9, x10, x11, x12, x13, x14, x15, x16, x17⟩ := v; exact S173_aa3_2_ok fuel R K x0 x1 x2 x3 x4 x5 x6 x7 x8 x9 x10 x11 x12 x13 x14 x15 x16 x17) hs h
    · cases h
  · cases h
noncomputable def J173_aa3 (fuel : Nat) (i : Nat) : Option Ev.Blk := Ev.look i [(100000, B173_aa3_0 fuel), (100002, B173_aa3_2 fuel)]
noncomputable def F_number_get_aa3 (fuel : Nat) (x0 : Int) (x1 : Int) (x2 : Int) (x3 : Int) (x4 : Int) (x5 : Int) (x6 : Int) (x7 : Bool) (x8 : Bool) (x9 : (List Int)) (x10 : (List Int)) (k0 : (Bool × Int × Int × Int × Int × Int × Int × Int × Int × Bool × Bool × (List Int) × (List Int)) → Option Ans) : Option Ans :=
  (F_coder_Decoder_Get_aa3 fuel (x0) (x1) (x2) (x3) (x4) (x5) (x6) (x7) (x8) (x9) (x10)
    (fun (y2_0, y2_1, y2_2, y2_3, y2_4, y2_5, y2_6, y2_7, y2_8, y2_9, y2_10, y2_11) =>
      bif y2_1 != (0 : Int) then
       k0 (y2_1 == (0 : Int), (0 : Int), y2_1, y2_2, y2_3, y2_4, y2_5, y2_6, y2_7, y2_8, y2_9, y2_10, y2_11)
      else
       bif y2_0 == (1 : Int) then
        k0 (y2_1 == (0 : Int), (0 : Int), y2_1, y2_2, y2_3, y2_4, y2_5, y2_6, y2_7, y2_8, y2_9, y2_10, y2_11)
       else
        (L_number_get_aa3_0 fuel (x0, (0 : Int), y2_2, y2_3, y2_4, y2_5, y2_6, y2_7, y2_8, y2_9, y2_10, y2_11, Bool.false, (0 : Int))
          (fun (ret0_0, ret0_1, ret0_2, ret0_3, ret0_4, ret0_5, ret0_6, ret0_7, ret0_8, ret0_9, ret0_10, ret0_11, ret0_12) =>
            k0 (ret0_11, ret0_12, ret0_0, ret0_1, ret0_2, ret0_3, ret0_4, ret0_5, ret0_6, ret0_7, ret0_8, ret0_9, ret0_10))
          (fun (b0_0, b0_1, b0_2, b0_3, b0_4, b0_5, b0_6, b0_7, b0_8, b0_9, b0_10, b0_11, b0_12, b0_13) =>
            (L_number_get_aa3_2 fuel (b0_0, b0_1, (1 : Int), b0_1, (0 : Int), b0_2, b0_3, b0_4, b0_5, b0_6, b0_7, b0_8, b0_9, b0_10, b0_11, b0_12, b0_13, (44 : Int))
              (fun (ret2_0, ret2_1, ret2_2, ret2_3, ret2_4, ret2_5, ret2_6, ret2_7, ret2_8, ret2_9, ret2_10, ret2_11, ret2_12) =>
                k0 (ret2_11, ret2_12, ret2_0, ret2_1, ret2_2, ret2_3, ret2_4, ret2_5, ret2_6, ret2_7, ret2_8, ret2_9, ret2_10))
              (fun (b2_0, b2_1, b2_2, b2_3, b2_4, b2_5, b2_6, b2_7, b2_8, b2_9, b2_10, b2_11, b2_12, b2_13) =>
                bif Decidable.decide (b2_1 > (1048577 : Int)) then
                 k0 (Bool.false, (0 : Int), (3 : Int), b2_2, b2_3, b2_4, b2_5, b2_6, b2_7, b2_8, b2_9, b2_10, b2_11)
                else
                 bif b2_1 == (1 : Int) then
                  k0 (Bool.false, (0 : Int), (0 : Int), b2_2, b2_3, b2_4, b2_5, b2_6, b2_7, b2_8, b2_9, b2_10, b2_11)
                 else
                  (F_coder_Decoder_Get_aa3 fuel (Go.IntKind.i64.wrap (b2_0 + (22 : Int))) (b2_2) (b2_3) (b2_4) (b2_5) (b2_6) (b2_7) (b2_8) (b2_9) (b2_10) (b2_11)
                    (fun (y18_0, y18_1, y18_2, y18_3, y18_4, y18_5, y18_6, y18_7, y18_8, y18_9, y18_10, y18_11) =>
                      bif y18_1 != (0 : Int) then
                       k0 (Bool.false, (0 : Int), y18_1, y18_2, y18_3, y18_4, y18_5, y18_6, y18_7, y18_8, y18_9, y18_10, y18_11)
                      else
                       k0 (Bool.false, Go.IntKind.i64.wrap (Go.IntKind.i64.wrap (b2_1 - (1 : Int)) * Go.IntKind.i64.wrap ((1 : Int) - Go.IntKind.i64.wrap ((2 : Int) * y18_0))), (0 : Int), y18_2, y18_3, y18_4, y18_5, y18_6, y18_7, y18_8, y18_9, y18_10, y18_11)))))))))
abbrev YF173_aa3 : Type := (Int) → (Int) → (Int) → (Int) → (Int) → (Int) → (Int) → (Bool) → (Bool) → ((List Int)) → ((List Int)) → ((Bool × Int × Int × Int × Int × Int × Int × Int × Int × Bool × Bool × (List Int) × (List Int)) → Option Ans) → Option Ans
theorem F173_aa3_eqg (fuel : Nat) (f156_aa3 : YF156_aa3) (f172 : YF172) (x0 : Int) (x1 : Int) (x2 : Int) (x3 : Int) (x4 : Int) (x5 : Int) (x6 : Int) (x7 : Bool) (x8 : Bool) (x9 : (List Int)) (x10 : (List Int)) (k : Ev.Cont) : evalFn tab (Gg173_aa3 f156_aa3 f172) (J173_aa3 fuel) kp173_aa3 fuel Tryz.f173 [.c (.ptr 0 0), .c (.int .i64 x0)] [.cells 168 (.int .i64 x1 :: .own 1 :: .int .i64 2048 :: .int .i64 1792 :: .int .i64 1568 :: .int .i64 1372 :: .int .i64 1201 :: .int .i64 1051 :: .int .i64 920 :: .int .i64 805 :: .int .i64 705 :: .int .i64 617 :: .int .i64 540 :: .int .i64 473 :: .int .i64 414 :: .int .i64 363 :: .int .i64 318 :: .int .i64 279 :: .int .i64 245 :: .int .i64 215 :: .int .i64 189 :: .int .i64 166 :: .int .i64 146 :: .int .i64 128 :: .int .i64 112 :: .int .i64 98 :: .int .i64 86 :: .int .i64 76 :: .int .i64 67 :: .int .i64 59 :: .int .i64 52 :: .int .i64 46 :: .int .i64 41 :: .int .i64 36 :: .int .u64 x2 :: .int .u64 x3 :: .own 2 :: .int .i64 x4 :: .int .u64 x5 :: .int .i64 x6 :: .bool x7 :: .bool x8 :: []), .vec 3 (.int .i64) x9 false, .vec 5 (.int .u8) x10 false] k = (fun  (k0 : (Bool × Int × Int × Int × Int × Int × Int × Int × Int × Bool × Bool × (List Int) × (List Int)) → Option Ans) =>
  (f156_aa3 (x0) (x1) (x2) (x3) (x4) (x5) (x6) (x7) (x8) (x9) (x10)
    (fun (y2_0, y2_1, y2_2, y2_3, y2_4, y2_5, y2_6, y2_7, y2_8, y2_9, y2_10, y2_11) =>
      bif y2_1 != (0 : Int) then
       k0 (y2_1 == (0 : Int), (0 : Int), y2_1, y2_2, y2_3, y2_4, y2_5, y2_6, y2_7, y2_8, y2_9, y2_10, y2_11)
      else
       bif y2_0 == (1 : Int) then
        k0 (y2_1 == (0 : Int), (0 : Int), y2_1, y2_2, y2_3, y2_4, y2_5, y2_6, y2_7, y2_8, y2_9, y2_10, y2_11)
       else
        (L_number_get_aa3_0 fuel (x0, (0 : Int), y2_2, y2_3, y2_4, y2_5, y2_6, y2_7, y2_8, y2_9, y2_10, y2_11, Bool.false, (0 : Int))
          (fun (ret0_0, ret0_1, ret0_2, ret0_3, ret0_4, ret0_5, ret0_6, ret0_7, ret0_8, ret0_9, ret0_10, ret0_11, ret0_12) =>
            k0 (ret0_11, ret0_12, ret0_0, ret0_1, ret0_2, ret0_3, ret0_4, ret0_5, ret0_6, ret0_7, ret0_8, ret0_9, ret0_10))
          (fun (b0_0, b0_1, b0_2, b0_3, b0_4, b0_5, b0_6, b0_7, b0_8, b0_9, b0_10, b0_11, b0_12, b0_13) =>
            (L_number_get_aa3_2 fuel (b0_0, b0_1, (1 : Int), b0_1, (0 : Int), b0_2, b0_3, b0_4, b0_5, b0_6, b0_7, b0_8, b0_9, b0_10, b0_11, b0_12, b0_13, (44 : Int))
              (fun (ret2_0, ret2_1, ret2_2, ret2_3, ret2_4, ret2_5, ret2_6, ret2_7, ret2_8, ret2_9, ret2_10, ret2_11, ret2_12) =>
                k0 (ret2_11, ret2_12, ret2_0, ret2_1, ret2_2, ret2_3, ret2_4, ret2_5, ret2_6, ret2_7, ret2_8, ret2_9, ret2_10))
              (fun (b2_0, b2_1, b2_2, b2_3, b2_4, b2_5, b2_6, b2_7, b2_8, b2_9, b2_10, b2_11, b2_12, b2_13) =>
                bif Decidable.decide (b2_1 > (1048577 : Int)) then
                 k0 (Bool.false, (0 : Int), (3 : Int), b2_2, b2_3, b2_4, b2_5, b2_6, b2_7, b2_8, b2_9, b2_10, b2_11)
                else
                 bif b2_1 == (1 : Int) then
                  k0 (Bool.false, (0 : Int), (0 : Int), b2_2, b2_3, b2_4, b2_5, b2_6, b2_7, b2_8, b2_9, b2_10, b2_11)
                 else
                  (f156_aa3 (Go.IntKind.i64.wrap (b2_0 + (22 : Int))) (b2_2) (b2_3) (b2_4) (b2_5) (b2_6) (b2_7) (b2_8) (b2_9) (b2_10) (b2_11)
                    (fun (y18_0, y18_1, y18_2, y18_3, y18_4, y18_5, y18_6, y18_7, y18_8, y18_9, y18_10, y18_11) =>
                      bif y18_1 != (0 : Int) then
                       k0 (Bool.false, (0 : Int), y18_1, y18_2, y18_3, y18_4, y18_5, y18_6, y18_7, y18_8, y18_9, y18_10, y18_11)
                      else
                       k0 (Bool.false, Go.IntKind.i64.wrap (Go.IntKind.i64.wrap (b2_1 - (1 : Int)) * Go.IntKind.i64.wrap ((1 : Int) - Go.IntKind.i64.wrap ((2 : Int) * y18_0))), (0 : Int), y18_2, y18_3, y18_4, y18_5, y18_6, y18_7, y18_8, y18_9, y18_10, y18_11)))))))))) (fun r => match r with | (r0, r1, r2, r3, r4, r5, r6, r7, r8, r9, r10, r11, r12) => k (.tup [(true, [.bool r0, .int .i64 r1]), (false, [.int .i64 r2])], [.cells 168 (.int .i64 r3 :: .own 1 :: .int .i64 2048 :: .int .i64 1792 :: .int .i64 1568 :: .int .i64 1372 :: .int .i64 1201 :: .int .i64 1051 :: .int .i64 920 :: .int .i64 805 :: .int .i64 705 :: .int .i64 617 :: .int .i64 540 :: .int .i64 473 :: .int .i64 414 :: .int .i64 363 :: .int .i64 318 :: .int .i64 279 :: .int .i64 245 :: .int .i64 215 :: .int .i64 189 :: .int .i64 166 :: .int .i64 146 :: .int .i64 128 :: .int .i64 112 :: .int .i64 98 :: .int .i64 86 :: .int .i64 76 :: .int .i64 67 :: .int .i64 59 :: .int .i64 52 :: .int .i64 46 :: .int .i64 41 :: .int .i64 36 :: .int .u64 r4 :: .int .u64 r5 :: .own 2 :: .int .i64 r6 :: .int .u64 r7 :: .int .i64 r8 :: .bool r9 :: .bool r10 :: []), .vec 3 (.int .i64) r11 false, .vec 5 (.int .u8) r12 false])) := by
  kernel_rfl
theorem F173_aa3_eq (fuel : Nat) (x0 : Int) (x1 : Int) (x2 : Int) (x3 : Int) (x4 : Int) (x5 : Int) (x6 : Int) (x7 : Bool) (x8 : Bool) (x9 : (List Int)) (x10 : (List Int)) (k : Ev.Cont) : evalFn tab (G173_aa3 fuel) (J173_aa3 fuel) kp173_aa3 fuel Tryz.f173 [.c (.ptr 0 0), .c (.int .i64 x0)] [.cells 168 (.int .i64 x1 :: .own 1 :: .int .i64 2048 :: .int .i64 1792 :: .int .i64 1568 :: .int .i64 1372 :: .int .i64 1201 :: .int .i64 1051 :: .int .i64 920 :: .int .i64 805 :: .int .i64 705 :: .int .i64 617 :: .int .i64 540 :: .int .i64 473 :: .int .i64 414 :: .int .i64 363 :: .int .i64 318 :: .int .i64 279 :: .int .i64 245 :: .int .i64 215 :: .int .i64 189 :: .int .i64 166 :: .int .i64 146 :: .int .i64 128 :: .int .i64 112 :: .int .i64 98 :: .int .i64 86 :: .int .i64 76 :: .int .i64 67 :: .int .i64 59 :: .int .i64 52 :: .int .i64 46 :: .int .i64 41 :: .int .i64 36 :: .int .u64 x2 :: .int .u64 x3 :: .own 2 :: .int .i64 x4 :: .int .u64 x5 :: .int .i64 x6 :: .bool x7 :: .bool x8 :: []), .vec 3 (.int .i64) x9 false, .vec 5 (.int .u8) x10 false] k = F_number_get_aa3 fuel x0 x1 x2 x3 x4 x5 x6 x7 x8 x9 x10 (fun r => match r with | (r0, r1, r2, r3, r4, r5, r6, r7, r8, r9, r10, r11, r12) => k (.tup [(true, [.bool r0, .int .i64 r1]), (false, [.int .i64 r2])], [.cells 168 (.int .i64 r3 :: .own 1 :: .int .i64 2048 :: .int .i64 1792 :: .int .i64 1568 :: .int .i64 1372 :: .int .i64 1201 :: .int .i64 1051 :: .int .i64 920 :: .int .i64 805 :: .int .i64 705 :: .int .i64 617 :: .int .i64 540 :: .int .i64 473 :: .int .i64 414 :: .int .i64 363 :: .int .i64 318 :: .int .i64 279 :: .int .i64 245 :: .int .i64 215 :: .int .i64 189 :: .int .i64 166 :: .int .i64 146 :: .int .i64 128 :: .int .i64 112 :: .int .i64 98 :: .int .i64 86 :: .int .i64 76 :: .int .i64 67 :: .int .i64 59 :: .int .i64 52 :: .int .i64 46 :: .int .i64 41 :: .int .i64 36 :: .int .u64 r4 :: .int .u64 r5 :: .own 2 :: .int .i64 r6 :: .int .u64 r7 :: .int .i64 r8 :: .bool r9 :: .bool r10 :: []), .vec 3 (.int .i64) r11 false, .vec 5 (.int .u8) r12 false])) :=
  F173_aa3_eqg fuel (F_coder_Decoder_Get_aa3 fuel) (F_number_tail_take fuel) x0 x1 x2 x3 x4 x5 x6 x7 x8 x9 x10 k
theorem hG173_aa3 (fuel : Nat) : GOK Tryz.prog (G173_aa3 fuel) :=
  gok_cons ⟨ok156_aa3 fuel, enters_of Tryz.func156 (by kernel_rfl) rfl⟩ <|
  gok_cons ⟨ok172 fuel, enters_of Tryz.func172 (by kernel_rfl) rfl⟩ <|
  gok_nil
theorem B173_aa3_0_blk (fuel : Nat) : BlkOK Tryz.prog Tryz.f173.ntmps (.block 0 (.loop (bodyOf 0 Tryz.f173))) (B173_aa3_0 fuel) :=
  blk_of (blk_of_code tab_ok (hG173_aa3 fuel) mixed (J := J173_aa3_0 fuel) (kp := kp173_aa3) (fuel := fuel) (by kernel_rfl) (fun q hq => by
    rw [(by kernel_rfl : obl (J173_aa3_0 fuel) (.block 0 (.loop (bodyOf 0 Tryz.f173))) = [])] at hq
    cases hq)) (B173_aa3_0_ok fuel)
theorem B173_aa3_2_blk (fuel : Nat) : BlkOK Tryz.prog Tryz.f173.ntmps (.block 2 (.loop (bodyOf 2 Tryz.f173))) (B173_aa3_2 fuel) :=
  blk_of (blk_of_code tab_ok (hG173_aa3 fuel) mixed (J := J173_aa3_2 fuel) (kp := kp173_aa3) (fuel := fuel) (by kernel_rfl) (fun q hq => by
    rw [(by kernel_rfl : obl (J173_aa3_2 fuel) (.block 2 (.loop (bodyOf 2 Tryz.f173))) = [])] at hq
    cases hq)) (B173_aa3_2_ok fuel)
theorem fok173_aa3 (fuel : Nat) : FnOK Tryz.prog 173 (evalFn tab (G173_aa3 fuel) (J173_aa3 fuel) kp173_aa3 fuel Tryz.f173) :=
  fn_ok tab_ok (hG173_aa3 fuel) mixed Tryz.func173 (c := (Tryz.f173.body).getD .skip) rfl (fun q hq => by
    rw [(by kernel_rfl : obl (J173_aa3 fuel) ((Tryz.f173.body).getD .skip) = [(.block 0 (.loop (bodyOf 0 Tryz.f173)), B173_aa3_0 fuel), (.block 2 (.loop (bodyOf 2 Tryz.f173)), B173_aa3_2 fuel)])] at hq
    simp only [List.mem_cons, List.not_mem_nil, or_false] at hq
    rcases hq with rfl | rfl
    · exact B173_aa3_0_blk fuel
    · exact B173_aa3_2_blk fuel)
noncomputable def mt173_aa3 : List Ev.SV → List Ev.Ob → Bool := fun args objs => match args, objs with
  | [.c (.ptr q0 q1), .c (.int .i64 _)], [.cells q2 cs0, .vec q3 (.int .i64) _ false, .vec q4 (.int .u8) _ false] => (match splitRun 2 [(.i64, 2048), (.i64, 1792), (.i64, 1568), (.i64, 1372), (.i64, 1201), (.i64, 1051), (.i64, 920), (.i64, 805), (.i64, 705), (.i64, 617), (.i64, 540), (.i64, 473), (.i64, 414), (.i64, 363), (.i64, 318), (.i64, 279), (.i64, 245), (.i64, 215), (.i64, 189), (.i64, 166), (.i64, 146), (.i64, 128), (.i64, 112), (.i64, 98), (.i64, 86), (.i64, 76), (.i64, 67), (.i64, 59), (.i64, 52), (.i64, 46), (.i64, 41), (.i64, 36)] cs0 with | some ([.int .i64 _, .own q5], [.int .u64 _, .int .u64 _, .own q6, .int .i64 _, .int .u64 _, .int .i64 _, .bool _, .bool _]) => Nat.beq q0 0 && Nat.beq q1 0 && Nat.beq q2 168 && Nat.beq q3 3 && Nat.beq q4 5 && Nat.beq q5 1 && Nat.beq q6 2 | _ => false)
  | _, _ => false
noncomputable def spg173_aa3 (F : YF173_aa3) : Ev.Spec := fun args objs k => match args, objs with
  | [.c (.ptr q0 q1), .c (.int .i64 x0)], [.cells q2 cs0, .vec q3 (.int .i64) x9 false, .vec q4 (.int .u8) x10 false] => (match splitRun 2 [(.i64, 2048), (.i64, 1792), (.i64, 1568), (.i64, 1372), (.i64, 1201), (.i64, 1051), (.i64, 920), (.i64, 805), (.i64, 705), (.i64, 617), (.i64, 540), (.i64, 473), (.i64, 414), (.i64, 363), (.i64, 318), (.i64, 279), (.i64, 245), (.i64, 215), (.i64, 189), (.i64, 166), (.i64, 146), (.i64, 128), (.i64, 112), (.i64, 98), (.i64, 86), (.i64, 76), (.i64, 67), (.i64, 59), (.i64, 52), (.i64, 46), (.i64, 41), (.i64, 36)] cs0 with | some ([.int .i64 x1, .own q5], [.int .u64 x2, .int .u64 x3, .own q6, .int .i64 x4, .int .u64 x5, .int .i64 x6, .bool x7, .bool x8]) => bif Nat.beq q0 0 && Nat.beq q1 0 && Nat.beq q2 168 && Nat.beq q3 3 && Nat.beq q4 5 && Nat.beq q5 1 && Nat.beq q6 2 then F x0 x1 x2 x3 x4 x5 x6 x7 x8 x9 x10 (fun r => match r with | (r0, r1, r2, r3, r4, r5, r6, r7, r8, r9, r10, r11, r12) => k (.tup [(true, [.bool r0, .int .i64 r1]), (false, [.int .i64 r2])], [.cells 168 (.int .i64 r3 :: .own 1 :: .int .i64 2048 :: .int .i64 1792 :: .int .i64 1568 :: .int .i64 1372 :: .int .i64 1201 :: .int .i64 1051 :: .int .i64 920 :: .int .i64 805 :: .int .i64 705 :: .int .i64 617 :: .int .i64 540 :: .int .i64 473 :: .int .i64 414 :: .int .i64 363 :: .int .i64 318 :: .int .i64 279 :: .int .i64 245 :: .int .i64 215 :: .int .i64 189 :: .int .i64 166 :: .int .i64 146 :: .int .i64 128 :: .int .i64 112 :: .int .i64 98 :: .int .i64 86 :: .int .i64 76 :: .int .i64 67 :: .int .i64 59 :: .int .i64 52 :: .int .i64 46 :: .int .i64 41 :: .int .i64 36 :: .int .u64 r4 :: .int .u64 r5 :: .own 2 :: .int .i64 r6 :: .int .u64 r7 :: .int .i64 r8 :: .bool r9 :: .bool r10 :: []), .vec 3 (.int .i64) r11 false, .vec 5 (.int .u8) r12 false])) else none | _ => none)
  | _, _ => none
noncomputable def spec173_aa3 (fuel : Nat) : Ev.Spec := spg173_aa3 (F_number_get_aa3 fuel)
theorem ok173_aa3 (fuel : Nat) : FnOK Tryz.prog 173 (spec173_aa3 fuel) := by
  intro args objs kk r h
  unfold spec173_aa3 spg173_aa3 at h
  split at h
  · skip
    split at h
    rotate_left 1
    · cases h
    rename_i hsp
    have esp := splitRun_eq hsp
    subst esp
    obtain ⟨hb, h⟩ := cond_some' h
    simp only [Bool.and_eq_true, Nat.beq_eq, decide_eq_true_eq] at hb
    obtain ⟨⟨⟨⟨⟨⟨rfl, rfl⟩, rfl⟩, rfl⟩, rfl⟩, rfl⟩, rfl⟩ := hb
    exact fok173_aa3 fuel _ _ kk r ((F173_aa3_eq fuel _ _ _ _ _ _ _ _ _ _ _ kk).trans h)
  · cases h
end Go.Proofs.YtmjeeaemmbkioaaGreat

set_option linter.unusedVariables false
set_option linter.unusedSimpArgs false
set_option maxRecDepth 100000
set_option maxHeartbeats 2000000
namespace Go.Proofs.YtmjeeaemmbkioaaGreat
open Go Ev
def kp137_aa3 (i : Nat) : Option (List Nat) := Ev.look i []
noncomputable def Gg137_aa3 (f76_40a : YF76_40a) (f134 : YF134) (f156_aa3 : YF156_aa3) (f173_aa3 : YF173_aa3) (f : Nat) : Option Ev.Spec := Ev.look f [(76, spg76_40a f76_40a), (134, spg134 f134), (156, spg156_aa3 f156_aa3), (173, spg173_aa3 f173_aa3)]
noncomputable def G137_aa3 (fuel : Nat) : Nat → Option Ev.Spec := Gg137_aa3 (F_coder_Decoder_Model_40a fuel) (F_number_fits fuel) (F_coder_Decoder_Get_aa3 fuel) (F_number_get_aa3 fuel)
noncomputable def J137_aa3 (fuel : Nat) (i : Nat) : Option Ev.Blk := Ev.look i []
noncomputable def F_number_Get_aa3 (fuel : Nat) (x0 : Int) (x1 : Int) (x2 : Int) (x3 : Int) (x4 : Int) (x5 : Int) (x6 : Int) (x7 : Bool) (x8 : Bool) (x9 : (List Int)) (x10 : (List Int)) (k0 : (Bool × Int × Int × Int × Int × Int × Int × Int × Int × Bool × Bool × (List Int) × (List Int)) → Option Ans) : Option Ans :=
  (F_coder_Decoder_Get_aa3 fuel ((-1 : Int)) (x1) (x2) (x3) (x4) (x5) (x6) (x7) (x8) (x9) (x10)
    (fun (y2_0, y2_1, y2_2, y2_3, y2_4, y2_5, y2_6, y2_7, y2_8, y2_9, y2_10, y2_11) =>
      bif y2_1 == (7 : Int) then
       k0 (Bool.false, (0 : Int), y2_1, y2_2, y2_3, y2_4, y2_5, y2_6, y2_7, y2_8, y2_9, y2_10, y2_11)
      else
       (F_coder_Decoder_Model_40a fuel (y2_2) (y2_3) (y2_4) (y2_5) (y2_6) (y2_7) (y2_8) (y2_9) (y2_10) (y2_11)
         (fun (y7_0, y7_1, y7_2, y7_3, y7_4, y7_5, y7_6, y7_7, y7_8, y7_9, y7_10, y7_11) =>
           (F_number_fits fuel (y7_0) (y7_11) (x0) ((48 : Int))
             (fun y11 =>
               bif y11 != (0 : Int) then
                k0 (Bool.false, (0 : Int), y11, y7_1, y7_2, y7_3, y7_4, y7_5, y7_6, y7_7, y7_8, y7_9, y7_10)
               else
                (F_number_get_aa3 fuel (x0) (y7_1) (y7_2) (y7_3) (y7_4) (y7_5) (y7_6) (y7_7) (y7_8) (y7_9) (y7_10)
                  (fun (y16_0, y16_1, y16_2, y16_3, y16_4, y16_5, y16_6, y16_7, y16_8, y16_9, y16_10, y16_11, y16_12) =>
                    k0 (y16_0, y16_1, y16_2, y16_3, y16_4, y16_5, y16_6, y16_7, y16_8, y16_9, y16_10, y16_11, y16_12)))))))))
abbrev YF137_aa3 : Type := (Int) → (Int) → (Int) → (Int) → (Int) → (Int) → (Int) → (Bool) → (Bool) → ((List Int)) → ((List Int)) → ((Bool × Int × Int × Int × Int × Int × Int × Int × Int × Bool × Bool × (List Int) × (List Int)) → Option Ans) → Option Ans
theorem F137_aa3_eqg (fuel : Nat) (f76_40a : YF76_40a) (f134 : YF134) (f156_aa3 : YF156_aa3) (f173_aa3 : YF173_aa3) (x0 : Int) (x1 : Int) (x2 : Int) (x3 : Int) (x4 : Int) (x5 : Int) (x6 : Int) (x7 : Bool) (x8 : Bool) (x9 : (List Int)) (x10 : (List Int)) (k : Ev.Cont) : evalFn tab (Gg137_aa3 f76_40a f134 f156_aa3 f173_aa3) (J137_aa3 fuel) kp137_aa3 fuel Tryz.f137 [.c (.ptr 0 0), .c (.int .i64 x0)] [.cells 168 (.int .i64 x1 :: .own 1 :: .int .i64 2048 :: .int .i64 1792 :: .int .i64 1568 :: .int .i64 1372 :: .int .i64 1201 :: .int .i64 1051 :: .int .i64 920 :: .int .i64 805 :: .int .i64 705 :: .int .i64 617 :: .int .i64 540 :: .int .i64 473 :: .int .i64 414 :: .int .i64 363 :: .int .i64 318 :: .int .i64 279 :: .int .i64 245 :: .int .i64 215 :: .int .i64 189 :: .int .i64 166 :: .int .i64 146 :: .int .i64 128 :: .int .i64 112 :: .int .i64 98 :: .int .i64 86 :: .int .i64 76 :: .int .i64 67 :: .int .i64 59 :: .int .i64 52 :: .int .i64 46 :: .int .i64 41 :: .int .i64 36 :: .int .u64 x2 :: .int .u64 x3 :: .own 2 :: .int .i64 x4 :: .int .u64 x5 :: .int .i64 x6 :: .bool x7 :: .bool x8 :: []), .vec 3 (.int .i64) x9 false, .vec 5 (.int .u8) x10 false] k = (fun  (k0 : (Bool × Int × Int × Int × Int × Int × Int × Int × Int × Bool × Bool × (List Int) × (List Int)) → Option Ans) =>
  (f156_aa3 ((-1 : Int)) (x1) (x2) (x3) (x4) (x5) (x6) (x7) (x8) (x9) (x10)
    (fun (y2_0, y2_1, y2_2, y2_3, y2_4, y2_5, y2_6, y2_7, y2_8, y2_9, y2_10, y2_11) =>
      bif y2_1 == (7 : Int) then
       k0 (Bool.false, (0 : Int), y2_1, y2_2, y2_3, y2_4, y2_5, y2_6, y2_7, y2_8, y2_9, y2_10, y2_11)
      else
       (f76_40a (y2_2) (y2_3) (y2_4) (y2_5) (y2_6) (y2_7) (y2_8) (y2_9) (y2_10) (y2_11)
         (fun (y7_0, y7_1, y7_2, y7_3, y7_4, y7_5, y7_6, y7_7, y7_8, y7_9, y7_10, y7_11) =>
           (f134 (y7_0) (y7_11) (x0) ((48 : Int))
             (fun y11 =>
               bif y11 != (0 : Int) then
                k0 (Bool.false, (0 : Int), y11, y7_1, y7_2, y7_3, y7_4, y7_5, y7_6, y7_7, y7_8, y7_9, y7_10)
               else
                (f173_aa3 (x0) (y7_1) (y7_2) (y7_3) (y7_4) (y7_5) (y7_6) (y7_7) (y7_8) (y7_9) (y7_10)
                  (fun (y16_0, y16_1, y16_2, y16_3, y16_4, y16_5, y16_6, y16_7, y16_8, y16_9, y16_10, y16_11, y16_12) =>
                    k0 (y16_0, y16_1, y16_2, y16_3, y16_4, y16_5, y16_6, y16_7, y16_8, y16_9, y16_10, y16_11, y16_12)))))))))) (fun r => match r with | (r0, r1, r2, r3, r4, r5, r6, r7, r8, r9, r10, r11, r12) => k (.tup [(true, [.bool r0, .int .i64 r1]), (false, [.int .i64 r2])], [.cells 168 (.int .i64 r3 :: .own 1 :: .int .i64 2048 :: .int .i64 1792 :: .int .i64 1568 :: .int .i64 1372 :: .int .i64 1201 :: .int .i64 1051 :: .int .i64 920 :: .int .i64 805 :: .int .i64 705 :: .int .i64 617 :: .int .i64 540 :: .int .i64 473 :: .int .i64 414 :: .int .i64 363 :: .int .i64 318 :: .int .i64 279 :: .int .i64 245 :: .int .i64 215 :: .int .i64 189 :: .int .i64 166 :: .int .i64 146 :: .int .i64 128 :: .int .i64 112 :: .int .i64 98 :: .int .i64 86 :: .int .i64 76 :: .int .i64 67 :: .int .i64 59 :: .int .i64 52 :: .int .i64 46 :: .int .i64 41 :: .int .i64 36 :: .int .u64 r4 :: .int .u64 r5 :: .own 2 :: .int .i64 r6 :: .int .u64 r7 :: .int .i64 r8 :: .bool r9 :: .bool r10 :: []), .vec 3 (.int .i64) r11 false, .vec 5 (.int .u8) r12 false])) := by
  kernel_rfl
theorem F137_aa3_eq (fuel : Nat) (x0 : Int) (x1 : Int) (x2 : Int) (x3 : Int) (x4 : Int) (x5 : Int) (x6 : Int) (x7 : Bool) (x8 : Bool) (x9 : (List Int)) (x10 : (List Int)) (k : Ev.Cont) : evalFn tab (G137_aa3 fuel) (J137_aa3 fuel) kp137_aa3 fuel Tryz.f137 [.c (.ptr 0 0), .c (.int .i64 x0)] [.cells 168 (.int .i64 x1 :: .own 1 :: .int .i64 2048 :: .int .i64 1792 :: .int .i64 1568 :: .int .i64 1372 :: .int .i64 1201 :: .int .i64 1051 :: .int .i64 920 :: .int .i64 805 :: .int .i64 705 :: .int .i64 617 :: .int .i64 540 :: .int .i64 473 :: .int .i64 414 :: .int .i64 363 :: .int .i64 318 :: .int .i64 279 :: .int .i64 245 :: .int .i64 215 :: .int .i64 189 :: .int .i64 166 :: .int .i64 146 :: .int .i64 128 :: .int .i64 112 :: .int .i64 98 :: .int .i64 86 :: .int .i64 76 :: .int .i64 67 :: .int .i64 59 :: .int .i64 52 :: .int .i64 46 :: .int .i64 41 :: .int .i64 36 :: .int .u64 x2 :: .int .u64 x3 :: .own 2 :: .int .i64 x4 :: .int .u64 x5 :: .int .i64 x6 :: .bool x7 :: .bool x8 :: []), .vec 3 (.int .i64) x9 false, .vec 5 (.int .u8) x10 false] k = F_number_Get_aa3 fuel x0 x1 x2 x3 x4 x5 x6 x7 x8 x9 x10 (fun r => match r with | (r0, r1, r2, r3, r4, r5, r6, r7, r8, r9, r10, r11, r12) => k (.tup [(true, [.bool r0, .int .i64 r1]), (false, [.int .i64 r2])], [.cells 168 (.int .i64 r3 :: .own 1 :: .int .i64 2048 :: .int .i64 1792 :: .int .i64 1568 :: .int .i64 1372 :: .int .i64 1201 :: .int .i64 1051 :: .int .i64 920 :: .int .i64 805 :: .int .i64 705 :: .int .i64 617 :: .int .i64 540 :: .int .i64 473 :: .int .i64 414 :: .int .i64 363 :: .int .i64 318 :: .int .i64 279 :: .int .i64 245 :: .int .i64 215 :: .int .i64 189 :: .int .i64 166 :: .int .i64 146 :: .int .i64 128 :: .int .i64 112 :: .int .i64 98 :: .int .i64 86 :: .int .i64 76 :: .int .i64 67 :: .int .i64 59 :: .int .i64 52 :: .int .i64 46 :: .int .i64 41 :: .int .i64 36 :: .int .u64 r4 :: .int .u64 r5 :: .own 2 :: .int .i64 r6 :: .int .u64 r7 :: .int .i64 r8 :: .bool r9 :: .bool r10 :: []), .vec 3 (.int .i64) r11 false, .vec 5 (.int .u8) r12 false])) :=
  F137_aa3_eqg fuel (F_coder_Decoder_Model_40a fuel) (F_number_fits fuel) (F_coder_Decoder_Get_aa3 fuel) (F_number_get_aa3 fuel) x0 x1 x2 x3 x4 x5 x6 x7 x8 x9 x10 k
theorem hG137_aa3 (fuel : Nat) : GOK Tryz.prog (G137_aa3 fuel) :=
  gok_cons ⟨ok76_40a fuel, enters_of Tryz.func76 (by kernel_rfl) rfl⟩ <|
  gok_cons ⟨ok134 fuel, enters_of Tryz.func134 (by kernel_rfl) rfl⟩ <|
  gok_cons ⟨ok156_aa3 fuel, enters_of Tryz.func156 (by kernel_rfl) rfl⟩ <|
  gok_cons ⟨ok173_aa3 fuel, enters_of Tryz.func173 (by kernel_rfl) rfl⟩ <|
  gok_nil
theorem fok137_aa3 (fuel : Nat) : FnOK Tryz.prog 137 (evalFn tab (G137_aa3 fuel) (J137_aa3 fuel) kp137_aa3 fuel Tryz.f137) :=
  fn_ok tab_ok (hG137_aa3 fuel) mixed Tryz.func137 (c := (Tryz.f137.body).getD .skip) rfl (fun q hq => by
    rw [(by kernel_rfl : obl (J137_aa3 fuel) ((Tryz.f137.body).getD .skip) = [])] at hq
    cases hq)
noncomputable def mt137_aa3 : List Ev.SV → List Ev.Ob → Bool := fun args objs => match args, objs with
  | [.c (.ptr q0 q1), .c (.int .i64 _)], [.cells q2 cs0, .vec q3 (.int .i64) _ false, .vec q4 (.int .u8) _ false] => (match splitRun 2 [(.i64, 2048), (.i64, 1792), (.i64, 1568), (.i64, 1372), (.i64, 1201), (.i64, 1051), (.i64, 920), (.i64, 805), (.i64, 705), (.i64, 617), (.i64, 540), (.i64, 473), (.i64, 414), (.i64, 363), (.i64, 318), (.i64, 279), (.i64, 245), (.i64, 215), (.i64, 189), (.i64, 166), (.i64, 146), (.i64, 128), (.i64, 112), (.i64, 98), (.i64, 86), (.i64, 76), (.i64, 67), (.i64, 59), (.i64, 52), (.i64, 46), (.i64, 41), (.i64, 36)] cs0 with | some ([.int .i64 _, .own q5], [.int .u64 _, .int .u64 _, .own q6, .int .i64 _, .int .u64 _, .int .i64 _, .bool _, .bool _]) => Nat.beq q0 0 && Nat.beq q1 0 && Nat.beq q2 168 && Nat.beq q3 3 && Nat.beq q4 5 && Nat.beq q5 1 && Nat.beq q6 2 | _ => false)
  | _, _ => false
noncomputable def spg137_aa3 (F : YF137_aa3) : Ev.Spec := fun args objs k => match args, objs with
  | [.c (.ptr q0 q1), .c (.int .i64 x0)], [.cells q2 cs0, .vec q3 (.int .i64) x9 false, .vec q4 (.int .u8) x10 false] => (match splitRun 2 [(.i64, 2048), (.i64, 1792), (.i64, 1568), (.i64, 1372), (.i64, 1201), (.i64, 1051), (.i64, 920), (.i64, 805), (.i64, 705), (.i64, 617), (.i64, 540), (.i64, 473), (.i64, 414), (.i64, 363), (.i64, 318), (.i64, 279), (.i64, 245), (.i64, 215), (.i64, 189), (.i64, 166), (.i64, 146), (.i64, 128), (.i64, 112), (.i64, 98), (.i64, 86), (.i64, 76), (.i64, 67), (.i64, 59), (.i64, 52), (.i64, 46), (.i64, 41), (.i64, 36)] cs0 with | some ([.int .i64 x1, .own q5], [.int .u64 x2, .int .u64 x3, .own q6, .int .i64 x4, .int .u64 x5, .int .i64 x6, .bool x7, .bool x8]) => bif Nat.beq q0 0 && Nat.beq q1 0 && Nat.beq q2 168 && Nat.beq q3 3 && Nat.beq q4 5 && Nat.beq q5 1 && Nat.beq q6 2 then F x0 x1 x2 x3 x4 x5 x6 x7 x8 x9 x10 (fun r => match r with | (r0, r1, r2, r3, r4, r5, r6, r7, r8, r9, r10, r11, r12) => k (.tup [(true, [.bool r0, .int .i64 r1]), (false, [.int .i64 r2])], [.cells 168 (.int .i64 r3 :: .own 1 :: .int .i64 2048 :: .int .i64 1792 :: .int .i64 1568 :: .int .i64 1372 :: .int .i64 1201 :: .int .i64 1051 :: .int .i64 920 :: .int .i64 805 :: .int .i64 705 :: .int .i64 617 :: .int .i64 540 :: .int .i64 473 :: .int .i64 414 :: .int .i64 363 :: .int .i64 318 :: .int .i64 279 :: .int .i64 245 :: .int .i64 215 :: .int .i64 189 :: .int .i64 166 :: .int .i64 146 :: .int .i64 128 :: .int .i64 112 :: .int .i64 98 :: .int .i64 86 :: .int .i64 76 :: .int .i64 67 :: .int .i64 59 :: .int .i64 52 :: .int .i64 46 :: .int .i64 41 :: .int .i64 36 :: .int .u64 r4 :: .int .u64 r5 :: .own 2 :: .int .i64 r6 :: .int .u64 r7 :: .int .i64 r8 :: .bool r9 :: .bool r10 :: []), .vec 3 (.int .i64) r11 false, .vec 5 (.int .u8) r12 false])) else none | _ => none)
  | _, _ => none
noncomputable def spec137_aa3 (fuel : Nat) : Ev.Spec := spg137_aa3 (F_number_Get_aa3 fuel)
theorem ok137_aa3 (fuel : Nat) : FnOK Tryz.prog 137 (spec137_aa3 fuel) := by
  intro args objs kk r h
  unfold spec137_aa3 spg137_aa3 at h
  split at h
  · skip
    split at h
    rotate_left 1
    · cases h
    rename_i hsp
    have esp := splitRun_eq hsp
    subst esp
    obtain ⟨hb, h⟩ := cond_some' h
    simp only [Bool.and_eq_true, Nat.beq_eq, decide_eq_true_eq] at hb
    obtain ⟨⟨⟨⟨⟨⟨rfl, rfl⟩, rfl⟩, rfl⟩, rfl⟩, rfl⟩, rfl⟩ := hb
    exact fok137_aa3 fuel _ _ kk r ((F137_aa3_eq fuel _ _ _ _ _ _ _ _ _ _ _ kk).trans h)
  · cases h
end Go.Proofs.YtmjeeaemmbkioaaGreat

set_option linter.unusedVariables false
set_option linter.unusedSimpArgs false
set_option maxRecDepth 100000
set_option maxHeartbeats 2000000
namespace Go.Proofs.YtmjeeaemmbkioaaGreat
open Go Ev
def kp158_452 (i : Nat) : Option (List Nat) := Ev.look i [(11, [0, 1, 2, 11, 38, 39]), (100000, [2, 11]), (400000, [6, 7])]
noncomputable def Gg158_452 (f76_40a : YF76_40a) (f134 : YF134) (f156_aa3 : YF156_aa3) (f : Nat) : Option Ev.Spec := Ev.look f [(76, spg76_40a f76_40a), (134, spg134 f134), (156, spg156_aa3 f156_aa3)]
noncomputable def G158_452 (fuel : Nat) : Nat → Option Ev.Spec := Gg158_452 (F_coder_Decoder_Model_40a fuel) (F_number_fits fuel) (F_coder_Decoder_Get_aa3 fuel)
noncomputable def S_number_GetId_452_0 (fuel : Nat) (v : Int × Int × Int × Int × Int × Int × Int × Int × Int × Int × Int × Bool × Bool × (List Int) × (List Int)) (c : (Int × Int × Int × Int × Int × Int × Int × Int × Int × Int × Int × Bool × Bool × (List Int) × (List Int)) → Option Ans) (B : (Int × Int × Int × Int × Int × Int × Int × Int × Bool × Bool × (List Int) × (List Int) → Option Ans) × (Int × Int × Int × Int × Int × Int × Int × Int × Bool × Bool × (List Int) × (List Int) → Option Ans)) : Option Ans := match v, B with
  | (x0, x1, x2, x3, x4, x5, x6, x7, x8, x9, x10, x11, x12, x13, x14), (ret, b) =>
   bif Decidable.decide (x4 < x3) then
      (F_coder_Decoder_Get_aa3 fuel (Go.IntKind.i64.wrap (Go.IntKind.i64.wrap (x0 + x2) - (1 : Int))) (x5) (x6) (x7) (x8) (x9) (x10) (x11) (x12) (x13) (x14)
        (fun (y3_0, y3_1, y3_2, y3_3, y3_4, y3_5, y3_6, y3_7, y3_8, y3_9, y3_10, y3_11) =>
          bif y3_1 != (0 : Int) then
           ret ((0 : Int), y3_1, y3_2, y3_3, y3_4, y3_5, y3_6, y3_7, y3_8, y3_9, y3_10, y3_11)
          else
           c (x0, x1, Go.IntKind.i64.wrap (Go.IntKind.i64.wrap ((2 : Int) * x2) + y3_0), x3, Go.IntKind.i64.wrap (x4 + (1 : Int)), y3_2, y3_3, y3_4, y3_5, y3_6, y3_7, y3_8, y3_9, y3_10, y3_11)))
     else
      b (x1, x2, x5, x6, x7, x8, x9, x10, x11, x12, x13, x14)
noncomputable def L_number_GetId_452_0 (fuel : Nat) (v : Int × Int × Int × Int × Int × Int × Int × Int × Int × Int × Int × Bool × Bool × (List Int) × (List Int)) (ret : (Int × Int × Int × Int × Int × Int × Int × Int × Bool × Bool × (List Int) × (List Int) → Option Ans)) (b : (Int × Int × Int × Int × Int × Int × Int × Int × Bool × Bool × (List Int) × (List Int) → Option Ans)) : Option Ans := iter (S_number_GetId_452_0 fuel) fuel v (ret, b)
noncomputable def J158_452_0 (fuel : Nat) (i : Nat) : Option Ev.Blk := Ev.look i []
noncomputable def T158_452_0 (v : Int × Int × Int × Int × Int × Int × Int × Int × Int × Int × Int × Bool × Bool × (List Int) × (List Int)) : Ev.St := match v with | (x0, x1, x2, x3, x4, x5, x6, x7, x8, x9, x10, x11, x12, x13, x14) => ⟨[(0, .c (.ptr 0 0)), (1, .c (.int .i64 x0)), (2, .c (.int .i64 x1)), (11, .c (.int .i64 x2)), (38, .c (.int .i64 x3)), (39, .c (.int .i64 x4))], [(0, .cells 168 (.int .i64 x5 :: .own 1 :: .int .i64 2048 :: .int .i64 1792 :: .int .i64 1568 :: .int .i64 1372 :: .int .i64 1201 :: .int .i64 1051 :: .int .i64 920 :: .int .i64 805 :: .int .i64 705 :: .int .i64 617 :: .int .i64 540 :: .int .i64 473 :: .int .i64 414 :: .int .i64 363 :: .int .i64 318 :: .int .i64 279 :: .int .i64 245 :: .int .i64 215 :: .int .i64 189 :: .int .i64 166 :: .int .i64 146 :: .int .i64 128 :: .int .i64 112 :: .int .i64 98 :: .int .i64 86 :: .int .i64 76 :: .int .i64 67 :: .int .i64 59 :: .int .i64 52 :: .int .i64 46 :: .int .i64 41 :: .int .i64 36 :: .int .u64 x6 :: .int .u64 x7 :: .own 2 :: .int .i64 x8 :: .int .u64 x9 :: .int .i64 x10 :: .bool x11 :: .bool x12 :: [])), (1, .vec 3 (.int .i64) x13 false), (2, .vec 5 (.int .u8) x14 false)], 3, 3⟩
noncomputable def E158_452_0 (K : Ev.Ex → Ev.St → Option Ans) : (Int × Int × Int × Int × Int × Int × Int × Int × Bool × Bool × (List Int) × (List Int) → Option Ans) × (Int × Int × Int × Int × Int × Int × Int × Int × Bool × Bool × (List Int) × (List Int) → Option Ans) := ((fun v => match v with | (x0, x1, x2, x3, x4, x5, x6, x7, x8, x9, x10, x11) => K .ret ⟨[(6, .c (.int .i64 x0)), (7, .c (.int .i64 x1))], [(0, .cells 168 (.int .i64 x2 :: .own 1 :: .int .i64 2048 :: .int .i64 1792 :: .int .i64 1568 :: .int .i64 1372 :: .int .i64 1201 :: .int .i64 1051 :: .int .i64 920 :: .int .i64 805 :: .int .i64 705 :: .int .i64 617 :: .int .i64 540 :: .int .i64 473 :: .int .i64 414 :: .int .i64 363 :: .int .i64 318 :: .int .i64 279 :: .int .i64 245 :: .int .i64 215 :: .int .i64 189 :: .int .i64 166 :: .int .i64 146 :: .int .i64 128 :: .int .i64 112 :: .int .i64 98 :: .int .i64 86 :: .int .i64 76 :: .int .i64 67 :: .int .i64 59 :: .int .i64 52 :: .int .i64 46 :: .int .i64 41 :: .int .i64 36 :: .int .u64 x3 :: .int .u64 x4 :: .own 2 :: .int .i64 x5 :: .int .u64 x6 :: .int .i64 x7 :: .bool x8 :: .bool x9 :: [])), (1, .vec 3 (.int .i64) x10 false), (2, .vec 5 (.int .u8) x11 false)], 3, 3⟩), (fun v => match v with | (x0, x1, x2, x3, x4, x5, x6, x7, x8, x9, x10, x11) => K .normal ⟨[(2, .c (.int .i64 x0)), (11, .c (.int .i64 x1))], [(0, .cells 168 (.int .i64 x2 :: .own 1 :: .int .i64 2048 :: .int .i64 1792 :: .int .i64 1568 :: .int .i64 1372 :: .int .i64 1201 :: .int .i64 1051 :: .int .i64 920 :: .int .i64 805 :: .int .i64 705 :: .int .i64 617 :: .int .i64 540 :: .int .i64 473 :: .int .i64 414 :: .int .i64 363 :: .int .i64 318 :: .int .i64 279 :: .int .i64 245 :: .int .i64 215 :: .int .i64 189 :: .int .i64 166 :: .int .i64 146 :: .int .i64 128 :: .int .i64 112 :: .int .i64 98 :: .int .i64 86 :: .int .i64 76 :: .int .i64 67 :: .int .i64 59 :: .int .i64 52 :: .int .i64 46 :: .int .i64 41 :: .int .i64 36 :: .int .u64 x3 :: .int .u64 x4 :: .own 2 :: .int .i64 x5 :: .int .u64 x6 :: .int .i64 x7 :: .bool x8 :: .bool x9 :: [])), (1, .vec 3 (.int .i64) x10 false), (2, .vec 5 (.int .u8) x11 false)], 3, 3⟩))
theorem S158_452_0_okg (fuel : Nat) (f76_40a : YF76_40a) (f134 : YF134) (f156_aa3 : YF156_aa3) (R : Ev.St → Option Ans) (K : Ev.Ex → Ev.St → Option Ans) (x0 : Int) (x1 : Int) (x2 : Int) (x3 : Int) (x4 : Int) (x5 : Int) (x6 : Int) (x7 : Int) (x8 : Int) (x9 : Int) (x10 : Int) (x11 : Bool) (x12 : Bool) (x13 : (List Int)) (x14 : (List Int)) : evalCode tab (Gg158_452 f76_40a f134 f156_aa3) (J158_452_0 fuel) kp158_452 fuel (bodyOf 0 Tryz.f158) (T158_452_0 (x0, x1, x2, x3, x4, x5, x6, x7, x8, x9, x10, x11, x12, x13, x14)) (lc kp158_452 11 0 R K) = (fun (c : (Int × Int × Int × Int × Int × Int × Int × Int × Int × Int × Int × Bool × Bool × (List Int) × (List Int)) → Option Ans) (B : (Int × Int × Int × Int × Int × Int × Int × Int × Bool × Bool × (List Int) × (List Int) → Option Ans) × (Int × Int × Int × Int × Int × Int × Int × Int × Bool × Bool × (List Int) × (List Int) → Option Ans)) => match B with
  | (ret, b) =>
   bif Decidable.decide (x4 < x3) then
      (f156_aa3 (Go.IntKind.i64.wrap (Go.IntKind.i64.wrap (x0 + x2) - (1 : Int))) (x5) (x6) (x7) (x8) (x9) (x10) (x11) (x12) (x13) (x14)
        (fun (y3_0, y3_1, y3_2, y3_3, y3_4, y3_5, y3_6, y3_7, y3_8, y3_9, y3_10, y3_11) =>
          bif y3_1 != (0 : Int) then
           ret ((0 : Int), y3_1, y3_2, y3_3, y3_4, y3_5, y3_6, y3_7, y3_8, y3_9, y3_10, y3_11)
          else
           c (x0, x1, Go.IntKind.i64.wrap (Go.IntKind.i64.wrap ((2 : Int) * x2) + y3_0), x3, Go.IntKind.i64.wrap (x4 + (1 : Int)), y3_2, y3_3, y3_4, y3_5, y3_6, y3_7, y3_8, y3_9, y3_10, y3_11)))
     else
      b (x1, x2, x5, x6, x7, x8, x9, x10, x11, x12, x13, x14)) (fun v => R (T158_452_0 v)) (E158_452_0 K) := by
  kernel_rfl
theorem S158_452_0_ok (fuel : Nat) (R : Ev.St → Option Ans) (K : Ev.Ex → Ev.St → Option Ans) (x0 : Int) (x1 : Int) (x2 : Int) (x3 : Int) (x4 : Int) (x5 : Int) (x6 : Int) (x7 : Int) (x8 : Int) (x9 : Int) (x10 : Int) (x11 : Bool) (x12 : Bool) (x13 : (List Int)) (x14 : (List Int)) : evalCode tab (G158_452 fuel) (J158_452_0 fuel) kp158_452 fuel (bodyOf 0 Tryz.f158) (T158_452_0 (x0, x1, x2, x3, x4, x5, x6, x7, x8, x9, x10, x11, x12, x13, x14)) (lc kp158_452 11 0 R K) = S_number_GetId_452_0 fuel (x0, x1, x2, x3, x4, x5, x6, x7, x8, x9, x10, x11, x12, x13, x14) (fun v => R (T158_452_0 v)) (E158_452_0 K) :=
  S158_452_0_okg fuel (F_coder_Decoder_Model_40a fuel) (F_number_fits fuel) (F_coder_Decoder_Get_aa3 fuel) R K x0 x1 x2 x3 x4 x5 x6 x7 x8 x9 x10 x11 x12 x13 x14
noncomputable def B158_452_0 (fuel : Nat) : Ev.Blk := fun st K => match canonO (kp158_452 11) st with
  | some s => (match s with
    | ⟨[(q0, .c (.ptr q1 q2)), (q3, .c (.int .i64 x0)), (q4, .c (.int .i64 x1)), (q5, .c (.int .i64 x2)), (q6, .c (.int .i64 x3)), (q7, .c (.int .i64 x4))], [(q8, .cells q9 cs0), (q10, .vec q11 (.int .i64) x13 false), (q12, .vec q13 (.int .u8) x14 false)], q14, q15⟩ => (match splitRun 2 [(.i64, 2048), (.i64, 1792), (.i64, 1568), (.i64, 1372), (.i64, 1201), (.i64, 1051), (.i64, 920), (.i64, 805), (.i64, 705), (.i64, 617), (.i64, 540), (.i64, 473), (.i64, 414), (.i64, 363), (.i64, 318), (.i64, 279), (.i64, 245), (.i64, 215), (.i64, 189), (.i64, 166), (.i64, 146), (.i64, 128), (.i64, 112), (.i64, 98), (.i64, 86), (.i64, 76), (.i64, 67), (.i64, 59), (.i64, 52), (.i64, 46), (.i64, 41), (.i64, 36)] cs0 with | some ([.int .i64 x5, .own q16], [.int .u64 x6, .int .u64 x7, .own q17, .int .i64 x8, .int .u64 x9, .int .i64 x10, .bool x11, .bool x12]) => bif Nat.beq q0 0 && Nat.beq q1 0 && Nat.beq q2 0 && Nat.beq q3 1 && Nat.beq q4 2 && Nat.beq q5 11 && Nat.beq q6 38 && Nat.beq q7 39 && Nat.beq q8 0 && Nat.beq q9 168 && Nat.beq q10 1 && Nat.beq q11 3 && Nat.beq q12 2 && Nat.beq q13 5 && Nat.beq q14 3 && Nat.beq q15 3 && Nat.beq q16 1 && Nat.beq q17 2 then iter (S_number_GetId_452_0 fuel) fuel (x0, x1, x2, x3, x4, x5, x6, x7, x8, x9, x10, x11, x12, x13, x14) (E158_452_0 K) else none | _ => none)
    | _ => none)
  | none => none
theorem B158_452_0_ok (fuel : Nat) (st : Ev.St) (K : Ev.Ex → Ev.St → Option Ans) (r : Ans) (h : B158_452_0 fuel st K = some r) : evalCode tab (G158_452 fuel) (J158_452_0 fuel) kp158_452 fuel (.block 0 (.loop (bodyOf 0 Tryz.f158))) st K = some r := by
  unfold B158_452_0 at h
  split at h
  · rename_i s hs
    split at h
    · skip
      split at h
      rotate_left 1
      · cases h
      rename_i hsp
      have esp := splitRun_eq hsp
      subst esp
      obtain ⟨hb, h⟩ := cond_some' h
      simp only [Bool.and_eq_true, Nat.beq_eq, decide_eq_true_eq] at hb
      obtain ⟨⟨⟨⟨⟨⟨⟨⟨⟨⟨⟨⟨⟨⟨⟨⟨⟨rfl, rfl⟩, rfl⟩, rfl⟩, rfl⟩, rfl⟩, rfl⟩, rfl⟩, rfl⟩, rfl⟩, rfl⟩, rfl⟩, rfl⟩, rfl⟩, rfl⟩, rfl⟩, rfl⟩, rfl⟩ := hb
      exact blk_loop (S := T158_452_0) (ks := E158_452_0) (step := S_number_GetId_452_0 fuel) (v := (_, _, _, _, _, _, _, _, _, _, _, _, _, _, _)) (by kernel_rfl) (by kernel_rfl) (fun R K v => by obtain ⟨x0, x1, x2, x3, x4, x5, x6, x7, x8, x9, x10, x11, x12, x13, x14⟩ := v; exact S158_452_0_ok fuel R K x0 x1 x2 x3 x4 x5 x6 x7 x8 x9 x10 x11 x12 x13 x14) hs h
    · cases h
  · cases h
noncomputable def J158_452 (fuel : Nat) (i : Nat) : Option Ev.Blk := Ev.look i [(100000, B158_452_0 fuel)]
noncomputable def F_number_GetId_452 (fuel : Nat) (x0 : Int) (x1 : Int) (x2 : Int) (x3 : Int) (x4 : Int) (x5 : Int) (x6 : Int) (x7 : Int) (x8 : Bool) (x9 : Bool) (x10 : (List Int)) (x11 : (List Int)) (k0 : (Int × Int × Int × Int × Int × Int × Int × Int × Bool × Bool × (List Int) × (List Int)) → Option Ans) : Option Ans :=
  (F_coder_Decoder_Get_aa3 fuel ((-1 : Int)) (x2) (x3) (x4) (x5) (x6) (x7) (x8) (x9) (x10) (x11)
    (fun (y2_0, y2_1, y2_2, y2_3, y2_4, y2_5, y2_6, y2_7, y2_8, y2_9, y2_10, y2_11) =>
      bif y2_1 == (7 : Int) then
       k0 ((0 : Int), y2_1, y2_2, y2_3, y2_4, y2_5, y2_6, y2_7, y2_8, y2_9, y2_10, y2_11)
      else
       bif Decidable.decide (x1 < (0 : Int)) then
        k0 ((0 : Int), (2 : Int), y2_2, y2_3, y2_4, y2_5, y2_6, y2_7, y2_8, y2_9, y2_10, y2_11)
       else
        bif Decidable.decide (x1 > (10 : Int)) then
         k0 ((0 : Int), (2 : Int), y2_2, y2_3, y2_4, y2_5, y2_6, y2_7, y2_8, y2_9, y2_10, y2_11)
        else
         bif Decidable.decide (x1 < (0 : Int)) then
          none
         else
          (F_coder_Decoder_Model_40a fuel (y2_2) (y2_3) (y2_4) (y2_5) (y2_6) (y2_7) (y2_8) (y2_9) (y2_10) (y2_11)
            (fun (y10_0, y10_1, y10_2, y10_3, y10_4, y10_5, y10_6, y10_7, y10_8, y10_9, y10_10, y10_11) =>
              (F_number_fits fuel (y10_0) (y10_11) (x0) (Go.IntKind.i64.wrap (Ev.ishl Go.IntKind.i64 (1 : Int) x1 - (1 : Int)))
                (fun y14 =>
                  bif y14 != (0 : Int) then
                   k0 ((0 : Int), y14, y10_1, y10_2, y10_3, y10_4, y10_5, y10_6, y10_7, y10_8, y10_9, y10_10)
                  else
                   (L_number_GetId_452_0 fuel (x0, x1, (1 : Int), x1, (0 : Int), y10_1, y10_2, y10_3, y10_4, y10_5, y10_6, y10_7, y10_8, y10_9, y10_10)
                     (fun (ret0_0, ret0_1, ret0_2, ret0_3, ret0_4, ret0_5, ret0_6, ret0_7, ret0_8, ret0_9, ret0_10, ret0_11) =>
                       k0 (ret0_0, ret0_1, ret0_2, ret0_3, ret0_4, ret0_5, ret0_6, ret0_7, ret0_8, ret0_9, ret0_10, ret0_11))
                     (fun (b0_0, b0_1, b0_2, b0_3, b0_4, b0_5, b0_6, b0_7, b0_8, b0_9, b0_10, b0_11) =>
                       bif Decidable.decide (b0_0 < (0 : Int)) then
                        none
                       else
                        k0 (Go.IntKind.i64.wrap (b0_1 - Ev.ishl Go.IntKind.i64 (1 : Int) b0_0), (0 : Int), b0_2, b0_3, b0_4, b0_5, b0_6, b0_7, b0_8, b0_9, b0_10, b0_11)))))))))
abbrev YF158_452 : Type := (Int) → (Int) → (Int) → (Int) → (Int) → (Int) → (Int) → (Int) → (Bool) → (Bool) → ((List Int)) → ((List Int)) → ((Int × Int × Int × Int × Int × Int × Int × Int × Bool × Bool × (List Int) × (List Int)) → Option Ans) → Option Ans
theorem F158_452_eqg (fuel : Nat) (f76_40a : YF76_40a) (f134 : YF134) (f156_aa3 : YF156_aa3) (x0 : Int) (x1 : Int) (x2 : Int) (x3 : Int) (x4 : Int) (x5 : Int) (x6 : Int) (x7 : Int) (x8 : Bool) (x9 : Bool) (x10 : (List Int)) (x11 : (List Int)) (k : Ev.Cont) : evalFn tab (Gg158_452 f76_40a f134 f156_aa3) (J158_452 fuel) kp158_452 fuel Tryz.f158 [.c (.ptr 0 0), .c (.int .i64 x0), .c (.int .i64 x1)] [.cells 168 (.int .i64 x2 :: .own 1 :: .int .i64 2048 :: .int .i64 1792 :: .int .i64 1568 :: .int .i64 1372 :: .int .i64 1201 :: .int .i64 1051 :: .int .i64 920 :: .int .i64 805 :: .int .i64 705 :: .int .i64 617 :: .int .i64 540 :: .int .i64 473 :: .int .i64 414 :: .int .i64 363 :: .int .i64 318 :: .int .i64 279 :: .int .i64 245 :: .int .i64 215 :: .int .i64 189 :: .int .i64 166 :: .int .i64 146 :: .int .i64 128 :: .int .i64 112 :: .int .i64 98 :: .int .i64 86 :: .int .i64 76 :: .int .i64 67 :: .int .i64 59 :: .int .i64 52 :: .int .i64 46 :: .int .i64 41 :: .int .i64 36 :: .int .u64 x3 :: .int .u64 x4 :: .own 2 :: .int .i64 x5 :: .int .u64 x6 :: .int .i64 x7 :: .bool x8 :: .bool x9 :: []), .vec 3 (.int .i64) x10 false, .vec 5 (.int .u8) x11 false] k = (fun  (k0 : (Int × Int × Int × Int × Int × Int × Int × Int × Bool × Bool × (List Int) × (List Int)) → Option Ans) =>
  (f156_aa3 ((-1 : Int)) (x2) (x3) (x4) (x5) (x6) (x7) (x8) (x9) (x10) (x11)
    (fun (y2_0, y2_1, y2_2, y2_3, y2_4, y2_5, y2_6, y2_7, y2_8, y2_9, y2_10, y2_11) =>
      bif y2_1 == (7 : Int) then
       k0 ((0 : Int), y2_1, y2_2, y2_3, y2_4, y2_5, y2_6, y2_7, y2_8, y2_9, y2_10, y2_11)
      else
       bif Decidable.decide (x1 < (0 : Int)) then
        k0 ((0 : Int), (2 : Int), y2_2, y2_3, y2_4, y2_5, y2_6, y2_7, y2_8, y2_9, y2_10, y2_11)
       else
        bif Decidable.decide (x1 > (10 : Int)) then
         k0 ((0 : Int), (2 : Int), y2_2, y2_3, y2_4, y2_5, y2_6, y2_7, y2_8, y2_9, y2_10, y2_11)
        else
         bif Decidable.decide (x1 < (0 : Int)) then
          none
         else
          (f76_40a (y2_2) (y2_3) (y2_4) (y2_5) (y2_6) (y2_7) (y2_8) (y2_9) (y2_10) (y2_11)
            (fun (y10_0, y10_1, y10_2, y10_3, y10_4, y10_5, y10_6, y10_7, y10_8, y10_9, y10_10, y10_11) =>
              (f134 (y10_0) (y10_11) (x0) (Go.IntKind.i64.wrap (Ev.ishl Go.IntKind.i64 (1 : Int) x1 - (1 : Int)))
                (fun y14 =>
                  bif y14 != (0 : Int) then
                   k0 ((0 : Int), y14, y10_1, y10_2, y10_3, y10_4, y10_5, y10_6, y10_7, y10_8, y10_9, y10_10)
                  else
                   (L_number_GetId_452_0 fuel (x0, x1, (1 : Int), x1, (0 : Int), y10_1, y10_2, y10_3, y10_4, y10_5, y10_6, y10_7, y10_8, y10_9, y10_10)
                     (fun (ret0_0, ret0_1, ret0_2, ret0_3, ret0_4, ret0_5, ret0_6, ret0_7, ret0_8, ret0_9, ret0_10, ret0_11) =>
                       k0 (ret0_0, ret0_1, ret0_2, ret0_3, ret0_4, ret0_5, ret0_6, ret0_7, ret0_8, ret0_9, ret0_10, ret0_11))
                     (fun (b0_0, b0_1, b0_2, b0_3, b0_4, b0_5, b0_6, b0_7, b0_8, b0_9, b0_10, b0_11) =>
                       bif Decidable.decide (b0_0 < (0 : Int)) then
                        none
                       else
                        k0 (Go.IntKind.i64.wrap (b0_1 - Ev.ishl Go.IntKind.i64 (1 : Int) b0_0), (0 : Int), b0_2, b0_3, b0_4, b0_5, b0_6, b0_7, b0_8, b0_9, b0_10, b0_11)))))))))) (fun r => match r with | (r0, r1, r2, r3, r4, r5, r6, r7, r8, r9, r10, r11) => k (.tup [(false, [.int .i64 r0]), (false, [.int .i64 r1])], [.cells 168 (.int .i64 r2 :: .own 1 :: .int .i64 2048 :: .int .i64 1792 :: .int .i64 1568 :: .int .i64 1372 :: .int .i64 1201 :: .int .i64 1051 :: .int .i64 920 :: .int .i64 805 :: .int .i64 705 :: .int .i64 617 :: .int .i64 540 :: .int .i64 473 :: .int .i64 414 :: .int .i64 363 :: .int .i64 318 :: .int .i64 279 :: .int .i64 245 :: .int .i64 215 :: .int .i64 189 :: .int .i64 166 :: .int .i64 146 :: .int .i64 128 :: .int .i64 112 :: .int .i64 98 :: .int .i64 86 :: .int .i64 76 :: .int .i64 67 :: .int .i64 59 :: .int .i64 52 :: .int .i64 46 :: .int .i64 41 :: .int .i64 36 :: .int .u64 r3 :: .int .u64 r4 :: .own 2 :: .int .i64 r5 :: .int .u64 r6 :: .int .i64 r7 :: .bool r8 :: .bool r9 :: []), .vec 3 (.int .i64) r10 false, .vec 5 (.int .u8) r11 false])) := by
  kernel_rfl
theorem F158_452_eq (fuel : Nat) (x0 : Int) (x1 : Int) (x2 : Int) (x3 : Int) (x4 : Int) (x5 : Int) (x6 : Int) (x7 : Int) (x8 : Bool) (x9 : Bool) (x10 : (List Int)) (x11 : (List Int)) (k : Ev.Cont) : evalFn tab (G158_452 fuel) (J158_452 fuel) kp158_452 fuel Tryz.f158 [.c (.ptr 0 0), .c (.int .i64 x0), .c (.int .i64 x1)] [.cells 168 (.int .i64 x2 :: .own 1 :: .int .i64 2048 :: .int .i64 1792 :: .int .i64 1568 :: .int .i64 1372 :: .int .i64 1201 :: .int .i64 1051 :: .int .i64 920 :: .int .i64 805 :: .int .i64 705 :: .int .i64 617 :: .int .i64 540 :: .int .i64 473 :: .int .i64 414 :: .int .i64 363 :: .int .i64 318 :: .int .i64 279 :: .int .i64 245 :: .int .i64 215 :: .int .i64 189 :: .int .i64 166 :: .int .i64 146 :: .int .i64 128 :: .int .i64 112 :: .int .i64 98 :: .int .i64 86 :: .int .i64 76 :: .int .i64 67 :: .int .i64 59 :: .int .i64 52 :: .int .i64 46 :: .int .i64 41 :: .int .i64 36 :: .int .u64 x3 :: .int .u64 x4 :: .own 2 :: .int .i64 x5 :: .int .u64 x6 :: .int .i64 x7 :: .bool x8 :: .bool x9 :: []), .vec 3 (.int .i64) x10 false, .vec 5 (.int .u8) x11 false] k = F_number_GetId_452 fuel x0 x1 x2 x3 x4 x5 x6 x7 x8 x9 x10 x11 (fun r => match r with | (r0, r1, r2, r3, r4, r5, r6, r7, r8, r9, r10, r11) => k (.tup [(false, [.int .i64 r0]), (false, [.int .i64 r1])], [.cells 168 (.int .i64 r2 :: .own 1 :: .int .i64 2048 :: .int .i64 1792 :: .int .i64 1568 :: .int .i64 1372 :: .int .i64 1201 :: .int .i64 1051 :: .int .i64 920 :: .int .i64 805 :: .int .i64 705 :: .int .i64 617 :: .int .i64 540 :: .int .i64 473 :: .int .i64 414 :: .int .i64 363 :: .int .i64 318 :: .int .i64 279 :: .int .i64 245 :: .int .i64 215 :: .int .i64 189 :: .int .i64 166 :: .int .i64 146 :: .int .i64 128 :: .int .i64 112 :: .int .i64 98 :: .int .i64 86 :: .int .i64 76 :: .int .i64 67 :: .int .i64 59 :: .int .i64 52 :: .int .i64 46 :: .int .i64 41 :: .int .i64 36 :: .int .u64 r3 :: .int .u64 r4 :: .own 2 :: .int .i64 r5 :: .int .u64 r6 :: .int .i64 r7 :: .bool r8 :: .bool r9 :: []), .vec 3 (.int .i64) r10 false, .vec 5 (.int .u8) r11 false])) :=
  F158_452_eqg fuel (F_coder_Decoder_Model_40a fuel) (F_number_fits fuel) (F_coder_Decoder_Get_aa3 fuel) x0 x1 x2 x3 x4 x5 x6 x7 x8 x9 x10 x11 k
theorem hG158_452 (fuel : Nat) : GOK Tryz.prog (G158_452 fuel) :=
  gok_cons ⟨ok76_40a fuel, enters_of Tryz.func76 (by kernel_rfl) rfl⟩ <|
  gok_cons ⟨ok134 fuel, enters_of Tryz.func134 (by kernel_rfl) rfl⟩ <|
  gok_cons ⟨ok156_aa3 fuel, enters_of Tryz.func156 (by kernel_rfl) rfl⟩ <|
  gok_nil
theorem B158_452_0_blk (fuel : Nat) : BlkOK Tryz.prog Tryz.f158.ntmps (.block 0 (.loop (bodyOf 0 Tryz.f158))) (B158_452_0 fuel) :=
  blk_of (blk_of_code tab_ok (hG158_452 fuel) mixed (J := J158_452_0 fuel) (kp := kp158_452) (fuel := fuel) (by kernel_rfl) (fun q hq => by
    rw [(by kernel_rfl : obl (J158_452_0 fuel) (.block 0 (.loop (bodyOf 0 Tryz.f158))) = [])] at hq
    cases hq)) (B158_452_0_ok fuel)
theorem fok158_452 (fuel : Nat) : FnOK Tryz.prog 158 (evalFn tab (G158_452 fuel) (J158_452 fuel) kp158_452 fuel Tryz.f158) :=
  fn_ok tab_ok (hG158_452 fuel) mixed Tryz.func158 (c := (Tryz.f158.body).getD .skip) rfl (fun q hq => by
    rw [(by kernel_rfl : obl (J158_452 fuel) ((Tryz.f158.body).getD .skip) = [(.block 0 (.loop (bodyOf 0 Tryz.f158)), B158_452_0 fuel)])] at hq
    simp only [List.mem_cons, List.not_mem_nil, or_false] at hq
    subst hq
    · exact B158_452_0_blk fuel)
noncomputable def mt158_452 : List Ev.SV → List Ev.Ob → Bool := fun args objs => match args, objs with
  | [.c (.ptr q0 q1), .c (.int .i64 _), .c (.int .i64 _)], [.cells q2 cs0, .vec q3 (.int .i64) _ false, .vec q4 (.int .u8) _ false] => (match splitRun 2 [(.i64, 2048), (.i64, 1792), (.i64, 1568), (.i64, 1372), (.i64, 1201), (.i64, 1051), (.i64, 920), (.i64, 805), (.i64, 705), (.i64, 617), (.i64, 540), (.i64, 473), (.i64, 414), (.i64, 363), (.i64, 318), (.i64, 279), (.i64, 245), (.i64, 215), (.i64, 189), (.i64, 166), (.i64, 146), (.i64, 128), (.i64, 112), (.i64, 98), (.i64, 86), (.i64, 76), (.i64, 67), (.i64, 59), (.i64, 52), (.i64, 46), (.i64, 41), (.i64, 36)] cs0 with | some ([.int .i64 _, .own q5], [.int .u64 _, .int .u64 _, .own q6, .int .i64 _, .int .u64 _, .int .i64 _, .bool _, .bool _]) => Nat.beq q0 0 && Nat.beq q1 0 && Nat.beq q2 168 && Nat.beq q3 3 && Nat.beq q4 5 && Nat.beq q5 1 && Nat.beq q6 2 | _ => false)
  | _, _ => false
noncomputable def spg158_452 (F : YF158_452) : Ev.Spec := fun args objs k => match args, objs with
  | [.c (.ptr q0 q1), .c (.int .i64 x0), .c (.int .i64 x1)], [.cells q2 cs0, .vec q3 (.int .i64) x10 false, .vec q4 (.int .u8) x11 false] => (match splitRun 2 [(.i64, 2048), (.i64, 1792), (.i64, 1568), (.i64, 1372), (.i64, 1201), (.i64, 1051), (.i64, 920), (.i64, 805), (.i64, 705), (.i64, 617), (.i64, 540), (.i64, 473), (.i64, 414), (.i64, 363), (.i64, 318), (.i64, 279), (.i64, 245), (.i64, 215), (.i64, 189), (.i64, 166), (.i64, 146), (.i64, 128), (.i64, 112), (.i64, 98), (.i64, 86), (.i64, 76), (.i64, 67), (.i64, 59), (.i64, 52), (.i64, 46), (.i64, 41), (.i64, 36)] cs0 with | some ([.int .i64 x2, .own q5], [.int .u64 x3, .int .u64 x4, .own q6, .int .i64 x5, .int .u64 x6, .int .i64 x7, .bool x8, .bool x9]) => bif Nat.beq q0 0 && Nat.beq q1 0 && Nat.beq q2 168 && Nat.beq q3 3 && Nat.beq q4 5 && Nat.beq q5 1 && Nat.beq q6 2 then F x0 x1 x2 x3 x4 x5 x6 x7 x8 x9 x10 x11 (fun r => match r with | (r0, r1, r2, r3, r4, r5, r6, r7, r8, r9, r10, r11) => k (.tup [(false, [.int .i64 r0]), (false, [.int .i64 r1])], [.cells 168 (.int .i64 r2 :: .own 1 :: .int .i64 2048 :: .int .i64 1792 :: .int .i64 1568 :: .int .i64 1372 :: .int .i64 1201 :: .int .i64 1051 :: .int .i64 920 :: .int .i64 805 :: .int .i64 705 :: .int .i64 617 :: .int .i64 540 :: .int .i64 473 :: .int .i64 414 :: .int .i64 363 :: .int .i64 318 :: .int .i64 279 :: .int .i64 245 :: .int .i64 215 :: .int .i64 189 :: .int .i64 166 :: .int .i64 146 :: .int .i64 128 :: .int .i64 112 :: .int .i64 98 :: .int .i64 86 :: .int .i64 76 :: .int .i64 67 :: .int .i64 59 :: .int .i64 52 :: .int .i64 46 :: .int .i64 41 :: .int .i64 36 :: .int .u64 r3 :: .int .u64 r4 :: .own 2 :: .int .i64 r5 :: .int .u64 r6 :: .int .i64 r7 :: .bool r8 :: .bool r9 :: []), .vec 3 (.int .i64) r10 false, .vec 5 (.int .u8) r11 false])) else none | _ => none)
  | _, _ => none
noncomputable def spec158_452 (fuel : Nat) : Ev.Spec := spg158_452 (F_number_GetId_452 fuel)
theorem ok158_452 (fuel : Nat) : FnOK Tryz.prog 158 (spec158_452 fuel) := by
  intro args objs kk r h
  unfold spec158_452 spg158_452 at h
  split at h
  · skip
    split at h
    rotate_left 1
    · cases h
    rename_i hsp
    have esp := splitRun_eq hsp
    subst esp
    obtain ⟨hb, h⟩ := cond_some' h
    simp only [Bool.and_eq_true, Nat.beq_eq, decide_eq_true_eq] at hb
    obtain ⟨⟨⟨⟨⟨⟨rfl, rfl⟩, rfl⟩, rfl⟩, rfl⟩, rfl⟩, rfl⟩ := hb
    exact fok158_452 fuel _ _ kk r ((F158_452_eq fuel _ _ _ _ _ _ _ _ _ _ _ _ kk).trans h)
  · cases h
end Go.Proofs.YtmjeeaemmbkioaaGreat

set_option linter.unusedVariables false
set_option linter.unusedSimpArgs false
set_option maxRecDepth 100000
set_option maxHeartbeats 2000000
namespace Go.Proofs.YtmjeeaemmbkioaaGreat
open Go Ev
def kp158_9ef (i : Nat) : Option (List Nat) := Ev.look i [(11, [0, 1, 2, 11, 38, 39]), (100000, [2, 11]), (400000, [6, 7])]
noncomputable def Gg158_9ef (f76_975 : YF76_975) (f134 : YF134) (f156_020 : YF156_020) (f : Nat) : Option Ev.Spec := Ev.look f [(76, spg76_975 f76_975), (134, spg134 f134), (156, spg156_020 f156_020)]
noncomputable def G158_9ef (fuel : Nat) : Nat → Option Ev.Spec := Gg158_9ef (F_coder_Decoder_Model_975 fuel) (F_number_fits fuel) (F_coder_Decoder_Get_020 fuel)
noncomputable def S_number_GetId_9ef_0 (fuel : Nat) (v : Int × Int × Int × Int × Int) (c : (Int × Int × Int × Int × Int) → Option Ans) (B : (Int × Int → Option Ans) × (Int × Int → Option Ans)) : Option Ans := match v, B with
  | (x0, x1, x2, x3, x4), (ret, b) =>
   bif Decidable.decide (x4 < x3) then
      (F_coder_Decoder_Get_020 fuel (Go.IntKind.i64.wrap (Go.IntKind.i64.wrap (x0 + x2) - (1 : Int)))
        (fun (y3_0, y3_1) =>
          bif y3_1 != (0 : Int) then
           ret ((0 : Int), y3_1)
          else
           c (x0, x1, Go.IntKind.i64.wrap (Go.IntKind.i64.wrap ((2 : Int) * x2) + y3_0), x3, Go.IntKind.i64.wrap (x4 + (1 : Int)))))
     else
      b (x1, x2)
noncomputable def L_number_GetId_9ef_0 (fuel : Nat) (v : Int × Int × Int × Int × Int) (ret : (Int × Int → Option Ans)) (b : (Int × Int → Option Ans)) : Option Ans := iter (S_number_GetId_9ef_0 fuel) fuel v (ret, b)
noncomputable def J158_9ef_0 (fuel : Nat) (i : Nat) : Option Ev.Blk := Ev.look i []
noncomputable def T158_9ef_0 (v : Int × Int × Int × Int × Int) : Ev.St := match v with | (x0, x1, x2, x3, x4) => ⟨[(0, .c (.nilptr)), (1, .c (.int .i64 x0)), (2, .c (.int .i64 x1)), (11, .c (.int .i64 x2)), (38, .c (.int .i64 x3)), (39, .c (.int .i64 x4))], [], 0, 0⟩
noncomputable def E158_9ef_0 (K : Ev.Ex → Ev.St → Option Ans) : (Int × Int → Option Ans) × (Int × Int → Option Ans) := ((fun v => match v with | (x0, x1) => K .ret ⟨[(6, .c (.int .i64 x0)), (7, .c (.int .i64 x1))], [], 0, 0⟩), (fun v => match v with | (x0, x1) => K .normal ⟨[(2, .c (.int .i64 x0)), (11, .c (.int .i64 x1))], [], 0, 0⟩))
theorem S158_9ef_0_okg (fuel : Nat) (f76_975 : YF76_975) (f134 : YF134) (f156_020 : YF156_020) (R : Ev.St → Option Ans) (K : Ev.Ex → Ev.St → Option Ans) (x0 : Int) (x1 : Int) (x2 : Int) (x3 : Int) (x4 : Int) : evalCode tab (Gg158_9ef f76_975 f134 f156_020) (J158_9ef_0 fuel) kp158_9ef fuel (bodyOf 0 Tryz.f158) (T158_9ef_0 (x0, x1, x2, x3, x4)) (lc kp158_9ef 11 0 R K) = (fun (c : (Int × Int × Int × Int × Int) → Option Ans) (B : (Int × Int → Option Ans) × (Int × Int → Option Ans)) => match B with
  | (ret, b) =>
   bif Decidable.decide (x4 < x3) then
      (f156_020 (Go.IntKind.i64.wrap (Go.IntKind.i64.wrap (x0 + x2) - (1 : Int)))
        (fun (y3_0, y3_1) =>
          bif y3_1 != (0 : Int) then
           ret ((0 : Int), y3_1)
          else
           c (x0, x1, Go.IntKind.i64.wrap (Go.IntKind.i64.wrap ((2 : Int) * x2) + y3_0), x3, Go.IntKind.i64.wrap (x4 + (1 : Int)))))
     else
      b (x1, x2)) (fun v => R (T158_9ef_0 v)) (E158_9ef_0 K) := by
  kernel_rfl
theorem S158_9ef_0_ok (fuel : Nat) (R : Ev.St → Option Ans) (K : Ev.Ex → Ev.St → Option Ans) (x0 : Int) (x1 : Int) (x2 : Int) (x3 : Int) (x4 : Int) : evalCode tab (G158_9ef fuel) (J158_9ef_0 fuel) kp158_9ef fuel (bodyOf 0 Tryz.f158) (T158_9ef_0 (x0, x1, x2, x3, x4)) (lc kp158_9ef 11 0 R K) = S_number_GetId_9ef_0 fuel (x0, x1, x2, x3, x4) (fun v => R (T158_9ef_0 v)) (E158_9ef_0 K) :=
  S158_9ef_0_okg fuel (F_coder_Decoder_Model_975 fuel) (F_number_fits fuel) (F_coder_Decoder_Get_020 fuel) R K x0 x1 x2 x3 x4
noncomputable def B158_9ef_0 (fuel : Nat) : Ev.Blk := fun st K => match canonO (kp158_9ef 11) st with
  | some s => (match s with
    | ⟨[(q0, .c (.nilptr)), (q1, .c (.int .i64 x0)), (q2, .c (.int .i64 x1)), (q3, .c (.int .i64 x2)), (q4, .c (.int .i64 x3)), (q5, .c (.int .i64 x4))], [], q6, q7⟩ => bif Nat.beq q0 0 && Nat.beq q1 1 && Nat.beq q2 2 && Nat.beq q3 11 && Nat.beq q4 38 && Nat.beq q5 39 && Nat.beq q6 0 && Nat.beq q7 0 then iter (S_number_GetId_9ef_0 fuel) fuel (x0, x1, x2, x3, x4) (E158_9ef_0 K) else none
    | _ => none)
  | none => none
theorem B158_9ef_0_ok (fuel : Nat) (st : Ev.St) (K : Ev.Ex → Ev.St → Option Ans) (r : Ans) (h : B158_9ef_0 fuel st K = some r) : evalCode tab (G158_9ef fuel) (J158_9ef_0 fuel) kp158_9ef fuel (.block 0 (.loop (bodyOf 0 Tryz.f158))) st K = some r := by
  unfold B158_9ef_0 at h
  split at h
  · rename_i s hs
    split at h
    · skip
      obtain ⟨hb, h⟩ := cond_some' h
      simp only [Bool.and_eq_true, Nat.beq_eq, decide_eq_true_eq] at hb
      obtain ⟨⟨⟨⟨⟨⟨⟨rfl, rfl⟩, rfl⟩, rfl⟩, rfl⟩, rfl⟩, rfl⟩, rfl⟩ := hb
      exact blk_loop (S := T158_9ef_0) (ks := E158_9ef_0) (step := S_number_GetId_9ef_0 fuel) (v := (_, _, _, _, _)) (by kernel_rfl) (by kernel_rfl) (fun R K v => by obtain ⟨x0, x1, x2, x3, x4⟩ := v; exact S158_9ef_0_ok fuel R K x0 x1 x2 x3 x4) hs h
    · cases h
  · cases h
noncomputable def J158_9ef (fuel : Nat) (i : Nat) : Option Ev.Blk := Ev.look i [(100000, B158_9ef_0 fuel)]
noncomputable def F_number_GetId_9ef (fuel : Nat) (x0 : Int) (x1 : Int) (k0 : (Int × Int) → Option Ans) : Option Ans :=
  (F_coder_Decoder_Get_020 fuel ((-1 : Int))
    (fun (y2_0, y2_1) =>
      bif y2_1 == (7 : Int) then
       k0 ((0 : Int), y2_1)
      else
       bif Decidable.decide (x1 < (0 : Int)) then
        k0 ((0 : Int), (2 : Int))
       else
        bif Decidable.decide (x1 > (10 : Int)) then
         k0 ((0 : Int), (2 : Int))
        else
         bif Decidable.decide (x1 < (0 : Int)) then
          none
         else
          (F_coder_Decoder_Model_975 fuel
            (fun (y10_0, y10_1) =>
              (F_number_fits fuel (y10_0) (y10_1) (x0) (Go.IntKind.i64.wrap (Ev.ishl Go.IntKind.i64 (1 : Int) x1 - (1 : Int)))
                (fun y14 =>
                  bif y14 != (0 : Int) then
                   k0 ((0 : Int), y14)
                  else
                   (L_number_GetId_9ef_0 fuel (x0, x1, (1 : Int), x1, (0 : Int))
                     (fun (ret0_0, ret0_1) =>
                       k0 (ret0_0, ret0_1))
                     (fun (b0_0, b0_1) =>
                       bif Decidable.decide (b0_0 < (0 : Int)) then
                        none
                       else
                        k0 (Go.IntKind.i64.wrap (b0_1 - Ev.ishl Go.IntKind.i64 (1 : Int) b0_0), (0 : Int))))))))))
abbrev YF158_9ef : Type := (Int) → (Int) → ((Int × Int) → Option Ans) → Option Ans
theorem F158_9ef_eqg (fuel : Nat) (f76_975 : YF76_975) (f134 : YF134) (f156_020 : YF156_020) (x0 : Int) (x1 : Int) (k : Ev.Cont) : evalFn tab (Gg158_9ef f76_975 f134 f156_020) (J158_9ef fuel) kp158_9ef fuel Tryz.f158 [.c (.nilptr), .c (.int .i64 x0), .c (.int .i64 x1)] [] k = (fun  (k0 : (Int × Int) → Option Ans) =>
  (f156_020 ((-1 : Int))
    (fun (y2_0, y2_1) =>
      bif y2_1 == (7 : Int) then
       k0 ((0 : Int), y2_1)
      else
       bif Decidable.decide (x1 < (0 : Int)) then
        k0 ((0 : Int), (2 : Int))
       else
        bif Decidable.decide (x1 > (10 : Int)) then
         k0 ((0 : Int), (2 : Int))
        else
         bif Decidable.decide (x1 < (0 : Int)) then
          none
         else
          (f76_975
            (fun (y10_0, y10_1) =>
              (f134 (y10_0) (y10_1) (x0) (Go.IntKind.i64.wrap (Ev.ishl Go.IntKind.i64 (1 : Int) x1 - (1 : Int)))
                (fun y14 =>
                  bif y14 != (0 : Int) then
                   k0 ((0 : Int), y14)
                  else
                   (L_number_GetId_9ef_0 fuel (x0, x1, (1 : Int), x1, (0 : Int))
                     (fun (ret0_0, ret0_1) =>
                       k0 (ret0_0, ret0_1))
                     (fun (b0_0, b0_1) =>
                       bif Decidable.decide (b0_0 < (0 : Int)) then
                        none
                       else
                        k0 (Go.IntKind.i64.wrap (b0_1 - Ev.ishl Go.IntKind.i64 (1 : Int) b0_0), (0 : Int))))))))))) (fun r => match r with | (r0, r1) => k (.tup [(false, [.int .i64 r0]), (false, [.int .i64 r1])], [])) := by
  kernel_rfl
theorem F158_9ef_eq (fuel : Nat) (x0 : Int) (x1 : Int) (k : Ev.Cont) : evalFn tab (G158_9ef fuel) (J158_9ef fuel) kp158_9ef fuel Tryz.f158 [.c (.nilptr), .c (.int .i64 x0), .c (.int .i64 x1)] [] k = F_number_GetId_9ef fuel x0 x1 (fun r => match r with | (r0, r1) => k (.tup [(false, [.int .i64 r0]), (false, [.int .i64 r1])], [])) :=
  F158_9ef_eqg fuel (F_coder_Decoder_Model_975 fuel) (F_number_fits fuel) (F_coder_Decoder_Get_020 fuel) x0 x1 k
theorem hG158_9ef (fuel : Nat) : GOK Tryz.prog (G158_9ef fuel) :=
  gok_cons ⟨ok76_975 fuel, enters_of Tryz.func76 (by kernel_rfl) rfl⟩ <|
  gok_cons ⟨ok134 fuel, enters_of Tryz.func134 (by kernel_rfl) rfl⟩ <|
  gok_cons ⟨ok156_020 fuel, enters_of Tryz.func156 (by kernel_rfl) rfl⟩ <|
  gok_nil
theorem B158_9ef_0_blk (fuel : Nat) : BlkOK Tryz.prog Tryz.f158.ntmps (.block 0 (.loop (bodyOf 0 Tryz.f158))) (B158_9ef_0 fuel) :=
  blk_of (blk_of_code tab_ok (hG158_9ef fuel) mixed (J := J158_9ef_0 fuel) (kp := kp158_9ef) (fuel := fuel) (by kernel_rfl) (fun q hq => by
    rw [(by kernel_rfl : obl (J158_9ef_0 fuel) (.block 0 (.loop (bodyOf 0 Tryz.f158))) = [])] at hq
    cases hq)) (B158_9ef_0_ok fuel)
theorem fok158_9ef (fuel : Nat) : FnOK Tryz.prog 158 (evalFn tab (G158_9ef fuel) (J158_9ef fuel) kp158_9ef fuel Tryz.f158) :=
  fn_ok tab_ok (hG158_9ef fuel) mixed Tryz.func158 (c := (Tryz.f158.body).getD .skip) rfl (fun q hq => by
    rw [(by kernel_rfl : obl (J158_9ef fuel) ((Tryz.f158.body).getD .skip) = [(.block 0 (.loop (bodyOf 0 Tryz.f158)), B158_9ef_0 fuel)])] at hq
    simp only [List.mem_cons, List.not_mem_nil, or_false] at hq
    subst hq
    · exact B158_9ef_0_blk fuel)
noncomputable def mt158_9ef : List Ev.SV → List Ev.Ob → Bool := fun args objs => match args, objs with
  | [.c (.nilptr), .c (.int .i64 _), .c (.int .i64 _)], [] => true
  | _, _ => false
noncomputable def spg158_9ef (F : YF158_9ef) : Ev.Spec := fun args objs k => match args, objs with
  | [.c (.nilptr), .c (.int .i64 x0), .c (.int .i64 x1)], [] => bif true then F x0 x1 (fun r => match r with | (r0, r1) => k (.tup [(false, [.int .i64 r0]), (false, [.int .i64 r1])], [])) else none
  | _, _ => none
noncomputable def spec158_9ef (fuel : Nat) : Ev.Spec := spg158_9ef (F_number_GetId_9ef fuel)
theorem ok158_9ef (fuel : Nat) : FnOK Tryz.prog 158 (spec158_9ef fuel) := by
  intro args objs kk r h
  unfold spec158_9ef spg158_9ef at h
  split at h
  · skip
    obtain ⟨hb, h⟩ := cond_some' h
    simp only [Bool.and_eq_true, Nat.beq_eq, decide_eq_true_eq] at hb
    clear hb
    exact fok158_9ef fuel _ _ kk r ((F158_9ef_eq fuel _ _ kk).trans h)
  · cases h
end Go.Proofs.YtmjeeaemmbkioaaGreat

set_option linter.unusedVariables false
set_option maxRecDepth 100000
set_option maxHeartbeats 0
namespace Go.Proofs.YtmjeeaemmbkioaaGreat
open Go Ev
noncomputable def fns11 : List (Nat × Func) := [(7, Tryz.f7), (9, Tryz.f9), (11, Tryz.f11), (23, Tryz.f23), (25, Tryz.f25), (27, Tryz.f27), (28, Tryz.f28), (29, Tryz.f29), (30, Tryz.f30), (31, Tryz.f31), (32, Tryz.f32), (33, Tryz.f33), (35, Tryz.f35), (36, Tryz.f36), (37, Tryz.f37), (42, Tryz.f42), (60, Tryz.f60), (61, Tryz.f61), (64, Tryz.f64), (65, Tryz.f65), (66, Tryz.f66), (67, Tryz.f67), (68, Tryz.f68), (70, Tryz.f70), (72, Tryz.f72), (73, Tryz.f73), (74, Tryz.f74), (75, Tryz.f75), (77, Tryz.f77), (78, Tryz.f78), (108, Tryz.f108), (109, Tryz.f109), (113, Tryz.f113), (115, Tryz.f115), (116, Tryz.f116), (118, Tryz.f118), (121, Tryz.f121), (122, Tryz.f122), (123, Tryz.f123), (125, Tryz.f125), (131, Tryz.f131), (149, Tryz.f149), (150, Tryz.f150), (153, Tryz.f153), (154, Tryz.f154), (155, Tryz.f155), (157, Tryz.f157), (159, Tryz.f159), (165, Tryz.f165), (166, Tryz.f166), (167, Tryz.f167), (168, Tryz.f168), (169, Tryz.f169), (170, Tryz.f170), (171, Tryz.f171), (179, Tryz.f179), (180, Tryz.f180), (181, Tryz.f181), (182, Tryz.f182), (183, Tryz.f183), (184, Tryz.f184), (185, Tryz.f185), (186, Tryz.f186), (190, Tryz.f190), (192, Tryz.f192), (193, Tryz.f193), (194, Tryz.f194), (195, Tryz.f195), (196, Tryz.f196), (197, Tryz.f197), (1000167, Tryz.f167)]
def kpt11 : List (Nat × List (Nat × List Nat)) := [(23, [(200001, [2]), (900001, [2, 4, 5])]), (25, [(200001, [1]), (900001, [1, 3, 4])]), (27, [(200010, [14]), (200013, [14]), (900010, [3, 4, 11, 14, 15, 17]), (900013, [10, 11, 12])]), (30, [(10, [2, 3, 12, 15, 16, 18, 19]), (100000, [2, 3, 12, 15, 16, 18]), (200008, [15]), (200016, [18]), (200017, [15, 18]), (400000, [10, 11, 12, 13]), (900008, [2, 3, 12, 15, 16, 18]), (900016, [10, 11, 12, 13]), (900017, [10, 11, 12, 13])]), (31, [(4, [0, 1, 5]), (100000, []), (200006, [0, 1]), (400000, [4]), (900006, [0, 1, 5, 41])]), (32, [(4, [0, 1, 5]), (100000, []), (200006, [0, 1]), (400000, [4]), (900006, [0, 1, 5, 25])]), (36, [(2, [0, 1, 9, 10, 11]), (8, [0, 1, 20, 21, 22]), (100000, [0, 1]), (100002, [0, 1]), (200010, [1, 8]), (400000, [4]), (400002, [4]), (900010, [0, 1, 20, 21, 22, 55])]), (65, [(600000, [])]), (66, [(200002, [2, 3, 5]), (900002, [4, 5])]), (67, [(1, [0, 1, 4, 1000002, 1000004]), (6, [0, 1, 4, 5, 6, 1000002]), (100000, []), (100002, [0, 1, 4]), (400000, []), (400002, [])]), (68, [(1, [0, 1, 4, 1000004]), (4, [0, 1, 4, 5]), (100000, []), (100002, [0, 1, 4, 5]), (400000, []), (400002, [])]), (70, [(200001, [2, 3]), (900001, [4])]), (72, [(5, [6, 17]), (100000, [6]), (400000, [4, 5]), (600000, [])]), (74, [(3, [0, 1, 4, 5, 1000002, 1000003]), (100000, []), (400000, [1000002, 1000003]), (900008, [0, 1, 4, 44])]), (75, [(3, [0, 1, 5, 6]), (10, [0, 1, 5, 6, 36, 37]), (100000, [5]), (100002, [0, 1, 5, 6]), (400000, [4]), (400002, [4])]), (77, [(2, [0, 1, 7, 8]), (100000, []), (400000, [4])]), (78, [(4, [23, 24, 25]), (100000, []), (400000, [2])]), (116, [(200003, [0, 3]), (200005, [0, 3]), (200008, [0, 3]), (200009, [3]), (600000, []), (900003, [0, 3]), (900005, [0, 3]), (900008, [0, 3]), (900009, [])]), (123, [(200004, [0]), (200005, [0]), (200006, [6]), (200010, [0]), (200012, [6]), (600000, []), (900004, [0, 6, 8]), (900005, [0, 1, 2, 6, 8]), (900006, [0, 1, 2, 6, 79]), (900010, [0, 6, 8]), (900012, [])]), (131, [(11, [0, 1, 7, 8, 11, 52, 53, 1000002]), (20, [0, 1, 7, 8, 11, 12, 13, 52, 53, 75, 76, 1000002]), (100001, []), (100003, [0, 1, 7, 8, 11, 52, 53]), (200007, [7]), (400001, [10]), (400003, [10]), (600000, []), (900007, [0, 1, 7, 8, 9, 35]), (900024, [0, 1, 7, 8, 11, 12, 13, 52, 53, 75, 76])]), (153, [(200009, [7, 8, 9]), (600000, []), (900009, [0, 1, 7, 8, 9, 42])]), (157, [(13, [0, 1, 3, 4, 8, 11, 12, 18, 66, 67]), (100000, [3, 4, 12, 18]), (200009, [8, 11]), (400000, [12, 13]), (600000, []), (900009, [0, 1, 3, 4, 8, 11, 12, 60])]), (159, [(13, [0, 1, 3, 4, 12, 18, 64, 65]), (100000, [3, 4, 12, 18]), (200009, [8]), (200011, [8, 11]), (400000, [12, 13]), (600000, []), (900009, [0, 1, 3, 4, 8, 11, 12, 53]), (900011, [0, 1, 3, 4, 12, 18])]), (166, [(200001, [3, 5]), (900001, [6])]), (168, [(2, [0, 1, 12, 13]), (100000, []), (400000, [4])]), (169, [(3, [0, 1, 2, 8, 29]), (100000, [8]), (200001, [0]), (200005, [0]), (400000, [6, 7]), (900001, [0, 1, 2, 8]), (900005, [0, 1, 2, 8, 29, 60])]), (170, [(3, [0, 1, 2, 7, 17, 18, 19]), (8, [0, 1, 2, 7, 41, 42, 43]), (100000, [0, 1, 2, 7]), (100002, [7]), (200005, [0, 9]), (200010, [0, 11]), (400000, [6]), (400002, [6]), (900005, [0, 1, 2, 7, 17, 18, 19]), (900010, [0, 1, 2, 7, 41, 42, 43])]), (179, [(2, [2, 3, 8, 9, 10]), (100000, []), (400000, [4])]), (181, [(200001, [3, 5]), (900001, [6])]), (182, [(4, [0, 1, 7, 8, 9, 10, 27, 28, 1000002]), (13, [0, 1, 7, 8, 9, 10, 11, 27, 28, 60, 61]), (100000, []), (100002, [0, 1, 7, 8, 9, 10, 27, 28]), (200008, [8, 9]), (200017, [8]), (400000, []), (400002, []), (900008, [0, 1, 7, 8, 9, 10, 11, 12, 27, 28, 49]), (900017, [0, 1, 7, 8, 9, 10, 11, 27, 28, 60, 61])]), (183, [(5, [2, 6, 8, 9, 34, 35]), (100000, [6, 8, 9]), (400000, [6, 7])]), (184, [(200001, [3]), (900001, [6])]), (185, [(9, [0, 1, 2, 4, 11, 53, 54]), (100000, []), (200006, [11]), (200011, [0, 11]), (200015, [0]), (400000, [12]), (900006, []), (900011, [0, 1, 2, 4, 11, 15, 53, 54, 66]), (900015, [0, 1, 2, 4, 11, 53, 54])]), (186, [(8, [0, 1, 2, 3, 9, 44, 45]), (100000, []), (400000, [8])]), (194, [(3, [0, 1, 5, 7, 15, 16]), (100000, [7]), (200005, [0, 5]), (400000, [6]), (900005, [0, 1, 5, 7, 8, 15, 16, 29])]), (195, [(3, [0, 1, 2, 7, 13, 14, 15]), (100000, [7]), (400000, [6])]), (197, [(200003, [0]), (900003, [6])])]
def kpa11 (f i : Nat) : Option (List Nat) := match Ev.look f kpt11 with | some l => Ev.look i l | none => none
theorem vma_ok {fl : Nat} (hfl : 10000 ≤ fl) {kd : Int} {st : List Int} (h : vMa kd st = true) {K : Bool → Option Ans} : F_coder_Valid fl kd st K = K true := by
  unfold vMa at h
  simp only [Bool.and_eq_true, Bool.or_eq_true, decide_eq_true_eq, List.all_eq_true] at h
  obtain ⟨h1, h2, h3⟩ := h
  have lp : ∀ e : Int, (∀ s ∈ st, s < e) → ∀ (ret : Bool → Option Ans) (b : Unit → Option Ans), L_coder_Valid_0 fl (e, st, (st.length : Int), 0) ret b = b () := by
    intro e he ret b
    unfold L_coder_Valid_0
    refine iter_upto (step := S_coder_Valid_0 fl) (fun i : Nat => (e, st, (st.length : Int), (i : Int))) st.length (fun i hi c => ?_) (fun c => ?_) (by omega)
    · have hm : st.getD i 0 ∈ st := by rw [List.getD_eq_getElem?_getD, List.getElem?_eq_getElem hi]; exact List.getElem_mem hi
      have a := (h3 _ hm).1
      have b := he _ hm
      simp only [S_coder_Valid_0]
      rw [decY (show (i : Int) < (st.length : Int) by omega), decY (show (0 : Int) ≤ (i : Int) ∧ (i : Int) < (st.length : Int) by omega), Int.toNat_natCast, ndecY (show ¬ st.getD i 0 < 0 by omega), ndecY (show ¬ st.getD i 0 ≥ e by omega), wrapY (by omega) (by omega)]
      rfl
    · simp only [S_coder_Valid_0]
      rw [ndecY (show ¬ (st.length : Int) < (st.length : Int) by omega)]
  unfold F_coder_Valid
  rcases h1 with rfl | rfl
  · have e0 : ((0 : Int) != 0) = false := rfl
    have e1 : ((0 : Int) == 1) = false := rfl
    rw [e0, cond_false, ndecY (show ¬ (st.length : Int) > 8192 by omega), e1, cond_false, lp 64 (fun s hs => (h3 s hs).2)]
  · have e0 : ((1 : Int) != 0) = true := rfl
    have e1 : ((1 : Int) != 1) = false := rfl
    have e2 : ((1 : Int) == 1) = true := rfl
    rw [e0, cond_true, e1, cond_false, ndecY (show ¬ (st.length : Int) > 8192 by omega), e2, cond_true, lp 65536 (fun s hs => (h3 s hs).2)]
def spv11 : Ev.Spec := fun args objs k => match args, objs with
  | [.agg [.int .i64 kd, .sl (.int .i64) st]], [] => bif vMa kd st then k (.c (.bool true), []) else none
  | _, _ => none
theorem vmspec11 {kd : Int} {st : List Int} (kk : Ev.Cont) (h : vMa kd st = true) : spec112 10000 [.agg [.int .i64 kd, .sl (.int .i64) st]] [] kk = kk (.c (.bool true), []) :=
  vma_ok (fl := 10000) (by omega) h (K := fun b => kk (.c (.bool b), []))
theorem spv11_ok : FnOK Tryz.prog 112 spv11 := by
  intro args objs kk r h
  unfold spv11 at h
  split at h
  · obtain ⟨hb, h⟩ := cond_some' h
    exact ok112 10000 _ _ kk r ((vmspec11 kk hb).trans h)
  · cases h
noncomputable def ext11 (f : Nat) : Option Ev.Spec := Ev.look f [(59, spec59 100000), (69, alt mt69_975 (spec69_975 100000) (spec69_a20 100000)), (71, alt mt71_975 (spec71_975 100000) (spec71_a20 100000)), (76, alt mt76_40a (spec76_40a 100000) (spec76_975 100000)), (84, spec84 100000), (87, alt mt87_0b8 (spec87_0b8 100000) (spec87_856 100000)), (112, spv11), (114, spec114 100000), (120, spec120_40a 100000), (129, alt mt129_3d3 (spec129_3d3 100000) (spec129_b82 100000)), (130, alt mt130_9ef (spec130_9ef 100000) (spec130_cf0 100000)), (137, alt mt137_020 (spec137_020 100000) (spec137_aa3 100000)), (156, alt mt156_020 (spec156_020 100000) (spec156_aa3 100000)), (158, alt mt158_452 (spec158_452 100000) (spec158_9ef 100000))]
theorem ext11_ok : GOK Tryz.prog ext11 :=
  gok_cons ⟨ok59 100000, enters_of Tryz.func59 (by kernel_rfl) rfl⟩ <|
  gok_cons ⟨alt_ok (ok69_975 100000) (ok69_a20 100000), enters_of Tryz.func69 (by kernel_rfl) rfl⟩ <|
  gok_cons ⟨alt_ok (ok71_975 100000) (ok71_a20 100000), enters_of Tryz.func71 (by kernel_rfl) rfl⟩ <|
  gok_cons ⟨alt_ok (ok76_40a 100000) (ok76_975 100000), enters_of Tryz.func76 (by kernel_rfl) rfl⟩ <|
  gok_cons ⟨ok84 100000, enters_of Tryz.func84 (by kernel_rfl) rfl⟩ <|
  gok_cons ⟨alt_ok (ok87_0b8 100000) (ok87_856 100000), enters_of Tryz.func87 (by kernel_rfl) rfl⟩ <|
  gok_cons ⟨spv11_ok, enters_of Tryz.func112 (by kernel_rfl) rfl⟩ <|
  gok_cons ⟨ok114 100000, enters_of Tryz.func114 (by kernel_rfl) rfl⟩ <|
  gok_cons ⟨ok120_40a 100000, enters_of Tryz.func120 (by kernel_rfl) rfl⟩ <|
  gok_cons ⟨alt_ok (ok129_3d3 100000) (ok129_b82 100000), enters_of Tryz.func129 (by kernel_rfl) rfl⟩ <|
  gok_cons ⟨alt_ok (ok130_9ef 100000) (ok130_cf0 100000), enters_of Tryz.func130 (by kernel_rfl) rfl⟩ <|
  gok_cons ⟨alt_ok (ok137_020 100000) (ok137_aa3 100000), enters_of Tryz.func137 (by kernel_rfl) rfl⟩ <|
  gok_cons ⟨alt_ok (ok156_020 100000) (ok156_aa3 100000), enters_of Tryz.func156 (by kernel_rfl) rfl⟩ <|
  gok_cons ⟨alt_ok (ok158_452 100000) (ok158_9ef 100000), enters_of Tryz.func158 (by kernel_rfl) rfl⟩ <|
  gok_nil
theorem fns11_ok : Fns Tryz.prog fns11 :=
  fns_cons Tryz.func7 <|
  fns_cons Tryz.func9 <|
  fns_cons Tryz.func11 <|
  fns_cons Tryz.func23 <|
  fns_cons Tryz.func25 <|
  fns_cons Tryz.func27 <|
  fns_cons Tryz.func28 <|
  fns_cons Tryz.func29 <|
  fns_cons Tryz.func30 <|
  fns_cons Tryz.func31 <|
  fns_cons Tryz.func32 <|
  fns_cons Tryz.func33 <|
  fns_cons Tryz.func35 <|
  fns_cons Tryz.func36 <|
  fns_cons Tryz.func37 <|
  fns_cons Tryz.func42 <|
  fns_cons Tryz.func60 <|
  fns_cons Tryz.func61 <|
  fns_cons Tryz.func64 <|
  fns_cons Tryz.func65 <|
  fns_cons Tryz.func66 <|
  fns_cons Tryz.func67 <|
  fns_cons Tryz.func68 <|
  fns_cons Tryz.func70 <|
  fns_cons Tryz.func72 <|
  fns_cons Tryz.func73 <|
  fns_cons Tryz.func74 <|
  fns_cons Tryz.func75 <|
  fns_cons Tryz.func77 <|
  fns_cons Tryz.func78 <|
  fns_cons Tryz.func108 <|
  fns_cons Tryz.func109 <|
  fns_cons Tryz.func113 <|
  fns_cons Tryz.func115 <|
  fns_cons Tryz.func116 <|
  fns_cons Tryz.func118 <|
  fns_cons Tryz.func121 <|
  fns_cons Tryz.func122 <|
  fns_cons Tryz.func123 <|
  fns_cons Tryz.func125 <|
  fns_cons Tryz.func131 <|
  fns_cons Tryz.func149 <|
  fns_cons Tryz.func150 <|
  fns_cons Tryz.func153 <|
  fns_cons Tryz.func154 <|
  fns_cons Tryz.func155 <|
  fns_cons Tryz.func157 <|
  fns_cons Tryz.func159 <|
  fns_cons Tryz.func165 <|
  fns_cons Tryz.func166 <|
  fns_cons Tryz.func167 <|
  fns_cons Tryz.func168 <|
  fns_cons Tryz.func169 <|
  fns_cons Tryz.func170 <|
  fns_cons Tryz.func171 <|
  fns_cons Tryz.func179 <|
  fns_cons Tryz.func180 <|
  fns_cons Tryz.func181 <|
  fns_cons Tryz.func182 <|
  fns_cons Tryz.func183 <|
  fns_cons Tryz.func184 <|
  fns_cons Tryz.func185 <|
  fns_cons Tryz.func186 <|
  fns_cons Tryz.func190 <|
  fns_cons Tryz.func192 <|
  fns_cons Tryz.func193 <|
  fns_cons Tryz.func194 <|
  fns_cons Tryz.func195 <|
  fns_cons Tryz.func196 <|
  fns_cons Tryz.func197 <|
  fns_cons Tryz.func167 <|
  fns_nil
noncomputable def evs11 : Nat → Option Ev.Spec := evs tab fns11 kpa11 100000 ext11 60
theorem evs11_ok : GOK Tryz.prog evs11 := evs_ok tab_ok mixed fns11_ok (by kernel_rfl) ext11_ok 60
theorem aw11_eq : evalFn tab evs11 (fun _ => none) (kpa11 11) 100000 Tryz.f11 [] [] trueR = some () := by
  kernel_rfl
noncomputable def F_law09_Sane (fuel : Nat) (k0 : (Bool) → Option Ans) : Option Ans := k0 true
abbrev YF11 : Type := ((Bool) → Option Ans) → Option Ans
def mt11 : List Ev.SV → List Ev.Ob → Bool := fun args objs => match args, objs with
  | [], [] => true
  | _, _ => false
noncomputable def spg11 (F : YF11) : Ev.Spec := fun args objs k => match args, objs with
  | [], [] => F (fun r => k (.c (.bool r), []))
  | _, _ => none
noncomputable def spec11 (fuel : Nat) : Ev.Spec := spg11 (F_law09_Sane fuel)
theorem ok11 (fuel : Nat) : FnOK Tryz.prog 11 (spec11 fuel) := by
  intro args objs kk r h
  unfold spec11 spg11 at h
  split at h
  · exact true_ok (fn_ok (fuel := 100000) tab_ok evs11_ok mixed Tryz.func11 (kp := kpa11 11) (J := fun _ => none) (c := (Tryz.f11.body).getD .skip) rfl (fun q hq => by rw [obl_none] at hq; cases hq)) aw11_eq h
  · cases h
end Go.Proofs.YtmjeeaemmbkioaaGreat

set_option linter.unusedVariables false
set_option linter.unusedSimpArgs false
set_option maxRecDepth 100000
set_option maxHeartbeats 2000000
namespace Go.Proofs.YtmjeeaemmbkioaaGreat
open Go Ev
def kp126 (i : Nat) : Option (List Nat) := Ev.look i []
noncomputable def Gg126 (f : Nat) : Option Ev.Spec := Ev.look f []
noncomputable def G126 (fuel : Nat) : Nat → Option Ev.Spec := Gg126
noncomputable def J126 (fuel : Nat) (i : Nat) : Option Ev.Blk := Ev.look i []
noncomputable def F_ref05_Sides (fuel : Nat) (x0 : Int) (x1 : Int) (k0 : (Bool) → Option Ans) : Option Ans :=
  bif Decidable.decide (x0 ≥ (0 : Int)) then
   bif Decidable.decide (x1 ≥ (0 : Int)) then
    bif Decidable.decide (x0 ≤ (200 : Int)) then
     bif Decidable.decide (x1 ≤ (200 : Int)) then
      k0 (Decidable.decide (Go.IntKind.i64.wrap (x0 * x1) ≤ (8192 : Int)))
     else
      k0 Bool.false
    else
     k0 Bool.false
   else
    k0 Bool.false
  else
   k0 Bool.false
abbrev YF126 : Type := (Int) → (Int) → ((Bool) → Option Ans) → Option Ans
theorem F126_eq (fuel : Nat) (x0 : Int) (x1 : Int) (k : Ev.Cont) : evalFn tab (G126 fuel) (J126 fuel) kp126 fuel Tryz.f126 [.c (.int .i64 x0), .c (.int .i64 x1)] [] k = F_ref05_Sides fuel x0 x1 (fun r => match r with | r0 => k (.c (.bool r0), [])) := by
  kernel_rfl
theorem hG126 (fuel : Nat) : GOK Tryz.prog (G126 fuel) :=
  gok_nil
theorem fok126 (fuel : Nat) : FnOK Tryz.prog 126 (evalFn tab (G126 fuel) (J126 fuel) kp126 fuel Tryz.f126) :=
  fn_ok tab_ok (hG126 fuel) mixed Tryz.func126 (c := (Tryz.f126.body).getD .skip) rfl (fun q hq => by
    rw [(by kernel_rfl : obl (J126 fuel) ((Tryz.f126.body).getD .skip) = [])] at hq
    cases hq)
noncomputable def mt126 : List Ev.SV → List Ev.Ob → Bool := fun args objs => match args, objs with
  | [.c (.int .i64 _), .c (.int .i64 _)], [] => true
  | _, _ => false
noncomputable def spg126 (F : YF126) : Ev.Spec := fun args objs k => match args, objs with
  | [.c (.int .i64 x0), .c (.int .i64 x1)], [] => bif true then F x0 x1 (fun r => match r with | r0 => k (.c (.bool r0), [])) else none
  | _, _ => none
noncomputable def spec126 (fuel : Nat) : Ev.Spec := spg126 (F_ref05_Sides fuel)
theorem ok126 (fuel : Nat) : FnOK Tryz.prog 126 (spec126 fuel) := by
  intro args objs kk r h
  unfold spec126 spg126 at h
  split at h
  · skip
    obtain ⟨hb, h⟩ := cond_some' h
    simp only [Bool.and_eq_true, Nat.beq_eq, decide_eq_true_eq] at hb
    clear hb
    exact fok126 fuel _ _ kk r ((F126_eq fuel _ _ kk).trans h)
  · cases h
end Go.Proofs.YtmjeeaemmbkioaaGreat

set_option linter.unusedVariables false
set_option linter.unusedSimpArgs false
set_option maxRecDepth 100000
set_option maxHeartbeats 2000000
namespace Go.Proofs.YtmjeeaemmbkioaaGreat
open Go Ev
def kp79 (i : Nat) : Option (List Nat) := Ev.look i [(4, [1, 3]), (100000, []), (400000, [2])]
noncomputable def Gg79 (f126 : YF126) (f : Nat) : Option Ev.Spec := Ev.look f [(126, spg126 f126)]
noncomputable def G79 (fuel : Nat) : Nat → Option Ev.Spec := Gg79 (F_ref05_Sides fuel)
noncomputable def S_ref05_Valid_0 (fuel : Nat) (v : Int × Int × Int × (List Int)) (c : (Int × Int × Int × (List Int)) → Option Ans) (B : (Bool → Option Ans) × (Unit → Option Ans)) : Option Ans := match v, B with
  | (x0, x1, x2, x3), (ret, b) =>
   bif Decidable.decide (x0 < (↑x3.length : Int)) then
      bif Decidable.decide ((0 : Int) ≤ x0 ∧ x0 < (↑x3.length : Int)) then
      bif Decidable.decide (x3.getD x0.toNat (0 : Int) > (1 : Int)) then
        ret Bool.false
       else
        c (Go.IntKind.i64.wrap (x0 + (1 : Int)), x1, x2, x3)
      else none
     else
      b ()
noncomputable def L_ref05_Valid_0 (fuel : Nat) (v : Int × Int × Int × (List Int)) (ret : (Bool → Option Ans)) (b : (Unit → Option Ans)) : Option Ans := iter (S_ref05_Valid_0 fuel) fuel v (ret, b)
noncomputable def J79_0 (fuel : Nat) (i : Nat) : Option Ev.Blk := Ev.look i []
noncomputable def T79_0 (v : Int × Int × Int × (List Int)) : Ev.St := match v with | (x0, x1, x2, x3) => ⟨[(1, .c (.ptr 0 0)), (3, .c (.int .i64 x0))], [(0, .cells 46 [.int .i64 x1, .int .i64 x2, .sl (.int .u8) x3])], 1, 0⟩
noncomputable def E79_0 (K : Ev.Ex → Ev.St → Option Ans) : (Bool → Option Ans) × (Unit → Option Ans) := ((fun v => match v with | x0 => K .ret ⟨[(2, .c (.bool x0))], [], 0, 0⟩), (fun v => match v with | () => K .normal ⟨[], [], 0, 0⟩))
theorem S79_0_okg (fuel : Nat) (f126 : YF126) (R : Ev.St → Option Ans) (K : Ev.Ex → Ev.St → Option Ans) (x0 : Int) (x1 : Int) (x2 : Int) (x3 : (List Int)) : evalCode tab (Gg79 f126) (J79_0 fuel) kp79 fuel (bodyOf 0 Tryz.f79) (T79_0 (x0, x1, x2, x3)) (lc kp79 4 0 R K) = (fun (c : (Int × Int × Int × (List Int)) → Option Ans) (B : (Bool → Option Ans) × (Unit → Option Ans)) => match B with
  | (ret, b) =>
   bif Decidable.decide (x0 < (↑x3.length : Int)) then
      bif Decidable.decide ((0 : Int) ≤ x0 ∧ x0 < (↑x3.length : Int)) then
      bif Decidable.decide (x3.getD x0.toNat (0 : Int) > (1 : Int)) then
        ret Bool.false
       else
        c (Go.IntKind.i64.wrap (x0 + (1 : Int)), x1, x2, x3)
      else none
     else
      b ()) (fun v => R (T79_0 v)) (E79_0 K) := by
  kernel_rfl
theorem S79_0_ok (fuel : Nat) (R : Ev.St → Option Ans) (K : Ev.Ex → Ev.St → Option Ans) (x0 : Int) (x1 : Int) (x2 : Int) (x3 : (List Int)) : evalCode tab (G79 fuel) (J79_0 fuel) kp79 fuel (bodyOf 0 Tryz.f79) (T79_0 (x0, x1, x2, x3)) (lc kp79 4 0 R K) = S_ref05_Valid_0 fuel (x0, x1, x2, x3) (fun v => R (T79_0 v)) (E79_0 K) :=
  S79_0_okg fuel (F_ref05_Sides fuel) R K x0 x1 x2 x3
noncomputable def B79_0 (fuel : Nat) : Ev.Blk := fun st K => match canonO (kp79 4) st with
  | some s => (match s with
    | ⟨[(q0, .c (.ptr q1 q2)), (q3, .c (.int .i64 x0))], [(q4, .cells q5 [.int .i64 x1, .int .i64 x2, .sl (.int .u8) x3])], q6, q7⟩ => bif Nat.beq q0 1 && Nat.beq q1 0 && Nat.beq q2 0 && Nat.beq q3 3 && Nat.beq q4 0 && Nat.beq q5 46 && Nat.beq q6 1 && Nat.beq q7 0 then iter (S_ref05_Valid_0 fuel) fuel (x0, x1, x2, x3) (E79_0 K) else none
    | _ => none)
  | none => none
theorem B79_0_ok (fuel : Nat) (st : Ev.St) (K : Ev.Ex → Ev.St → Option Ans) (r : Ans) (h : B79_0 fuel st K = some r) : evalCode tab (G79 fuel) (J79_0 fuel) kp79 fuel (.block 0 (.loop (bodyOf 0 Tryz.f79))) st K = some r := by
  unfold B79_0 at h
  split at h
  · rename_i s hs
    split at h
    · skip
      obtain ⟨hb, h⟩ := cond_some' h
      simp only [Bool.and_eq_true, Nat.beq_eq, decide_eq_true_eq] at hb
      obtain ⟨⟨⟨⟨⟨⟨⟨rfl, rfl⟩, rfl⟩, rfl⟩, rfl⟩, rfl⟩, rfl⟩, rfl⟩ := hb
      exact blk_loop (S := T79_0) (ks := E79_0) (step := S_ref05_Valid_0 fuel) (v := (_, _, _, _)) (by kernel_rfl) (by kernel_rfl) (fun R K v => by obtain ⟨x0, x1, x2, x3⟩ := v; exact S79_0_ok fuel R K x0 x1 x2 x3) hs h
    · cases h
  · cases h
noncomputable def J79 (fuel : Nat) (i : Nat) : Option Ev.Blk := Ev.look i [(100000, B79_0 fuel)]
noncomputable def F_ref05_Valid (fuel : Nat) (x0 : Int) (x1 : Int) (x2 : (List Int)) (k0 : (Bool) → Option Ans) : Option Ans :=
  (F_ref05_Sides fuel (x0) (x1)
    (fun y2 =>
      bif !y2 then
       k0 Bool.false
      else
       bif (↑x2.length : Int) != Go.IntKind.i64.wrap (x0 * x1) then
        k0 Bool.false
       else
        (L_ref05_Valid_0 fuel ((0 : Int), x0, x1, x2)
          (fun ret0_0 =>
            k0 ret0_0)
          (fun () =>
            k0 Bool.true))))
abbrev YF79 : Type := (Int) → (Int) → ((List Int)) → ((Bool) → Option Ans) → Option Ans
theorem F79_eqg (fuel : Nat) (f126 : YF126) (x0 : Int) (x1 : Int) (x2 : (List Int)) (k : Ev.Cont) : evalFn tab (Gg79 f126) (J79 fuel) kp79 fuel Tryz.f79 [.agg [.int .i64 x0, .int .i64 x1, .sl (.int .u8) x2]] [] k = (fun  (k0 : (Bool) → Option Ans) =>
  (f126 (x0) (x1)
    (fun y2 =>
      bif !y2 then
       k0 Bool.false
      else
       bif (↑x2.length : Int) != Go.IntKind.i64.wrap (x0 * x1) then
        k0 Bool.false
       else
        (L_ref05_Valid_0 fuel ((0 : Int), x0, x1, x2)
          (fun ret0_0 =>
            k0 ret0_0)
          (fun () =>
            k0 Bool.true))))) (fun r => match r with | r0 => k (.c (.bool r0), [])) := by
  kernel_rfl
theorem F79_eq (fuel : Nat) (x0 : Int) (x1 : Int) (x2 : (List Int)) (k : Ev.Cont) : evalFn tab (G79 fuel) (J79 fuel) kp79 fuel Tryz.f79 [.agg [.int .i64 x0, .int .i64 x1, .sl (.int .u8) x2]] [] k = F_ref05_Valid fuel x0 x1 x2 (fun r => match r with | r0 => k (.c (.bool r0), [])) :=
  F79_eqg fuel (F_ref05_Sides fuel) x0 x1 x2 k
theorem hG79 (fuel : Nat) : GOK Tryz.prog (G79 fuel) :=
  gok_cons ⟨ok126 fuel, enters_of Tryz.func126 (by kernel_rfl) rfl⟩ <|
  gok_nil
theorem B79_0_blk (fuel : Nat) : BlkOK Tryz.prog Tryz.f79.ntmps (.block 0 (.loop (bodyOf 0 Tryz.f79))) (B79_0 fuel) :=
  blk_of (blk_of_code tab_ok (hG79 fuel) mixed (J := J79_0 fuel) (kp := kp79) (fuel := fuel) (by kernel_rfl) (fun q hq => by
    rw [(by kernel_rfl : obl (J79_0 fuel) (.block 0 (.loop (bodyOf 0 Tryz.f79))) = [])] at hq
    cases hq)) (B79_0_ok fuel)
theorem fok79 (fuel : Nat) : FnOK Tryz.prog 79 (evalFn tab (G79 fuel) (J79 fuel) kp79 fuel Tryz.f79) :=
  fn_ok tab_ok (hG79 fuel) mixed Tryz.func79 (c := (Tryz.f79.body).getD .skip) rfl (fun q hq => by
    rw [(by kernel_rfl : obl (J79 fuel) ((Tryz.f79.body).getD .skip) = [(.block 0 (.loop (bodyOf 0 Tryz.f79)), B79_0 fuel)])] at hq
    simp only [List.mem_cons, List.not_mem_nil, or_false] at hq
    subst hq
    · exact B79_0_blk fuel)
noncomputable def mt79 : List Ev.SV → List Ev.Ob → Bool := fun args objs => match args, objs with
  | [.agg [.int .i64 _, .int .i64 _, .sl (.int .u8) _]], [] => true
  | _, _ => false
noncomputable def spg79 (F : YF79) : Ev.Spec := fun args objs k => match args, objs with
  | [.agg [.int .i64 x0, .int .i64 x1, .sl (.int .u8) x2]], [] => bif true then F x0 x1 x2 (fun r => match r with | r0 => k (.c (.bool r0), [])) else none
  | _, _ => none
noncomputable def spec79 (fuel : Nat) : Ev.Spec := spg79 (F_ref05_Valid fuel)
theorem ok79 (fuel : Nat) : FnOK Tryz.prog 79 (spec79 fuel) := by
  intro args objs kk r h
  unfold spec79 spg79 at h
  split at h
  · skip
    obtain ⟨hb, h⟩ := cond_some' h
    simp only [Bool.and_eq_true, Nat.beq_eq, decide_eq_true_eq] at hb
    clear hb
    exact fok79 fuel _ _ kk r ((F79_eq fuel _ _ _ kk).trans h)
  · cases h
end Go.Proofs.YtmjeeaemmbkioaaGreat

set_option linter.unusedVariables false
set_option linter.unusedSimpArgs false
set_option maxRecDepth 100000
set_option maxHeartbeats 2000000
namespace Go.Proofs.YtmjeeaemmbkioaaGreat
open Go Ev
def kp39 (i : Nat) : Option (List Nat) := Ev.look i []
noncomputable def Gg39 (f79 : YF79) (f : Nat) : Option Ev.Spec := Ev.look f [(79, spg79 f79)]
noncomputable def G39 (fuel : Nat) : Nat → Option Ev.Spec := Gg39 (F_ref05_Valid fuel)
noncomputable def J39 (fuel : Nat) (i : Nat) : Option Ev.Blk := Ev.look i []
noncomputable def F_ref09_IsShape (fuel : Nat) (x0 : Int) (x1 : Int) (x2 : (List Int)) (k0 : (Bool) → Option Ans) : Option Ans :=
  (F_ref05_Valid fuel (x0) (x1) (x2)
    (fun y2 =>
      bif y2 then
       bif Decidable.decide (x0 ≥ (1 : Int)) then
        bif Decidable.decide (x1 ≥ (1 : Int)) then
         bif Decidable.decide (x0 ≤ (40 : Int)) then
          k0 (Decidable.decide (x1 ≤ (40 : Int)))
         else
          k0 Bool.false
        else
         k0 Bool.false
       else
        k0 Bool.false
      else
       k0 Bool.false))
abbrev YF39 : Type := (Int) → (Int) → ((List Int)) → ((Bool) → Option Ans) → Option Ans
theorem F39_eqg (fuel : Nat) (f79 : YF79) (x0 : Int) (x1 : Int) (x2 : (List Int)) (k : Ev.Cont) : evalFn tab (Gg39 f79) (J39 fuel) kp39 fuel Tryz.f39 [.agg [.int .i64 x0, .int .i64 x1, .sl (.int .u8) x2]] [] k = (fun  (k0 : (Bool) → Option Ans) =>
  (f79 (x0) (x1) (x2)
    (fun y2 =>
      bif y2 then
       bif Decidable.decide (x0 ≥ (1 : Int)) then
        bif Decidable.decide (x1 ≥ (1 : Int)) then
         bif Decidable.decide (x0 ≤ (40 : Int)) then
          k0 (Decidable.decide (x1 ≤ (40 : Int)))
         else
          k0 Bool.false
        else
         k0 Bool.false
       else
        k0 Bool.false
      else
       k0 Bool.false))) (fun r => match r with | r0 => k (.c (.bool r0), [])) := by
  kernel_rfl
theorem F39_eq (fuel : Nat) (x0 : Int) (x1 : Int) (x2 : (List Int)) (k : Ev.Cont) : evalFn tab (G39 fuel) (J39 fuel) kp39 fuel Tryz.f39 [.agg [.int .i64 x0, .int .i64 x1, .sl (.int .u8) x2]] [] k = F_ref09_IsShape fuel x0 x1 x2 (fun r => match r with | r0 => k (.c (.bool r0), [])) :=
  F39_eqg fuel (F_ref05_Valid fuel) x0 x1 x2 k
theorem hG39 (fuel : Nat) : GOK Tryz.prog (G39 fuel) :=
  gok_cons ⟨ok79 fuel, enters_of Tryz.func79 (by kernel_rfl) rfl⟩ <|
  gok_nil
theorem fok39 (fuel : Nat) : FnOK Tryz.prog 39 (evalFn tab (G39 fuel) (J39 fuel) kp39 fuel Tryz.f39) :=
  fn_ok tab_ok (hG39 fuel) mixed Tryz.func39 (c := (Tryz.f39.body).getD .skip) rfl (fun q hq => by
    rw [(by kernel_rfl : obl (J39 fuel) ((Tryz.f39.body).getD .skip) = [])] at hq
    cases hq)
noncomputable def mt39 : List Ev.SV → List Ev.Ob → Bool := fun args objs => match args, objs with
  | [.agg [.int .i64 _, .int .i64 _, .sl (.int .u8) _]], [] => true
  | _, _ => false
noncomputable def spg39 (F : YF39) : Ev.Spec := fun args objs k => match args, objs with
  | [.agg [.int .i64 x0, .int .i64 x1, .sl (.int .u8) x2]], [] => bif true then F x0 x1 x2 (fun r => match r with | r0 => k (.c (.bool r0), [])) else none
  | _, _ => none
noncomputable def spec39 (fuel : Nat) : Ev.Spec := spg39 (F_ref09_IsShape fuel)
theorem ok39 (fuel : Nat) : FnOK Tryz.prog 39 (spec39 fuel) := by
  intro args objs kk r h
  unfold spec39 spg39 at h
  split at h
  · skip
    obtain ⟨hb, h⟩ := cond_some' h
    simp only [Bool.and_eq_true, Nat.beq_eq, decide_eq_true_eq] at hb
    clear hb
    exact fok39 fuel _ _ kk r ((F39_eq fuel _ _ _ kk).trans h)
  · cases h
end Go.Proofs.YtmjeeaemmbkioaaGreat

set_option linter.unusedVariables false
set_option linter.unusedSimpArgs false
set_option maxRecDepth 100000
set_option maxHeartbeats 2000000
namespace Go.Proofs.YtmjeeaemmbkioaaGreat
open Go Ev
def kp17 (i : Nat) : Option (List Nat) := Ev.look i [(3, [0, 4, 5]), (8, [0, 4, 6]), (11, [0, 4, 6, 7]), (14, [0, 4, 6, 7, 8]), (100000, [0, 4]), (100002, [4]), (100004, [0, 4, 6]), (100006, [0, 4, 6, 7]), (400000, [2, 3]), (400002, [2, 3]), (400004, [2, 3]), (400006, [2, 3])]
noncomputable def Gg17 (f39 : YF39) (f : Nat) : Option Ev.Spec := Ev.look f [(39, spg39 f39)]
noncomputable def G17 (fuel : Nat) : Nat → Option Ev.Spec := Gg17 (F_ref09_IsShape fuel)
noncomputable def S_ref09_Order_0 (fuel : Nat) (v : (List (Int × (Int × (List Int)))) × Int × (List Int)) (c : ((List (Int × (Int × (List Int)))) × Int × (List Int)) → Option Ans) (B : (Int × (List Int) → Option Ans) × ((List (Int × (Int × (List Int)))) × (List Int) → Option Ans)) : Option Ans := match v, B with
  | (x0, x1, x2), (ret, b) =>
   bif Decidable.decide (x1 < (↑x0.length : Int)) then
      bif Decidable.decide ((0 : Int) ≤ x1 ∧ x1 < (↑x0.length : Int)) then
      (F_ref09_IsShape fuel ((x0.getD x1.toNat ((0 : Int), (0 : Int), [])).fst) ((x0.getD x1.toNat ((0 : Int), (0 : Int), [])).snd.fst) ((x0.getD x1.toNat ((0 : Int), (0 : Int), [])).snd.snd)
         (fun y4 =>
           bif !y4 then
            ret ((30 : Int), [])
           else
            c (x0, Go.IntKind.i64.wrap (x1 + (1 : Int)), x2)))
      else none
     else
      b (x0, x2)
noncomputable def L_ref09_Order_0 (fuel : Nat) (v : (List (Int × (Int × (List Int)))) × Int × (List Int)) (ret : (Int × (List Int) → Option Ans)) (b : ((List (Int × (Int × (List Int)))) × (List Int) → Option Ans)) : Option Ans := iter (S_ref09_Order_0 fuel) fuel v (ret, b)
noncomputable def J17_0 (fuel : Nat) (i : Nat) : Option Ev.Blk := Ev.look i []
noncomputable def T17_0 (v : (List (Int × (Int × (List Int)))) × Int × (List Int)) : Ev.St := match v with | (x0, x1, x2) => ⟨[(0, .c (.sl (.pair (.int .i64) (.pair (.int .i64) (.sl (.int .u8)))) x0)), (4, .c (.own 0)), (5, .c (.int .i64 x1))], [(0, .vec 3 (.int .i64) x2 true)], 1, 0⟩
noncomputable def E17_0 (K : Ev.Ex → Ev.St → Option Ans) : (Int × (List Int) → Option Ans) × ((List (Int × (Int × (List Int)))) × (List Int) → Option Ans) := ((fun v => match v with | (x0, x1) => K .ret ⟨[(2, .c (.own 0)), (3, .c (.int .i64 x0))], [(0, .vec 3 (.int .i64) x1 true)], 1, 0⟩), (fun v => match v with | (x0, x1) => K .normal ⟨[(0, .c (.sl (.pair (.int .i64) (.pair (.int .i64) (.sl (.int .u8)))) x0)), (4, .c (.own 0))], [(0, .vec 3 (.int .i64) x1 true)], 1, 0⟩))
theorem S17_0_okg (fuel : Nat) (f39 : YF39) (R : Ev.St → Option Ans) (K : Ev.Ex → Ev.St → Option Ans) (x0 : (List (Int × (Int × (List Int))))) (x1 : Int) (x2 : (List Int)) : evalCode tab (Gg17 f39) (J17_0 fuel) kp17 fuel (bodyOf 0 Tryz.f17) (T17_0 (x0, x1, x2)) (lc kp17 3 0 R K) = (fun (c : ((List (Int × (Int × (List Int)))) × Int × (List Int)) → Option Ans) (B : (Int × (List Int) → Option Ans) × ((List (Int × (Int × (List Int)))) × (List Int) → Option Ans)) => match B with
  | (ret, b) =>
   bif Decidable.decide (x1 < (↑x0.length : Int)) then
      bif Decidable.decide ((0 : Int) ≤ x1 ∧ x1 < (↑x0.length : Int)) then
      (f39 ((x0.getD x1.toNat ((0 : Int), (0 : Int), [])).fst) ((x0.getD x1.toNat ((0 : Int), (0 : Int), [])).snd.fst) ((x0.getD x1.toNat ((0 : Int), (0 : Int), [])).snd.snd)
         (fun y4 =>
           bif !y4 then
            ret ((30 : Int), [])
           else
            c (x0, Go.IntKind.i64.wrap (x1 + (1 : Int)), x2)))
      else none
     else
      b (x0, x2)) (fun v => R (T17_0 v)) (E17_0 K) := by
  kernel_rfl
theorem S17_0_ok (fuel : Nat) (R : Ev.St → Option Ans) (K : Ev.Ex → Ev.St → Option Ans) (x0 : (List (Int × (Int × (List Int))))) (x1 : Int) (x2 : (List Int)) : evalCode tab (G17 fuel) (J17_0 fuel) kp17 fuel (bodyOf 0 Tryz.f17) (T17_0 (x0, x1, x2)) (lc kp17 3 0 R K) = S_ref09_Order_0 fuel (x0, x1, x2) (fun v => R (T17_0 v)) (E17_0 K) :=
  S17_0_okg fuel (F_ref09_IsShape fuel) R K x0 x1 x2
noncomputable def B17_0 (fuel : Nat) : Ev.Blk := fun st K => match canonO (kp17 3) st with
  | some s => (match s with
    | ⟨[(q0, .c (.sl (.pair (.int .i64) (.pair (.int .i64) (.sl (.int .u8)))) x0)), (q1, .c (.own q2)), (q3, .c (.int .i64 x1))], [(q4, .vec q5 (.int .i64) x2 true)], q6, q7⟩ => bif Nat.beq q0 0 && Nat.beq q1 4 && Nat.beq q2 0 && Nat.beq q3 5 && Nat.beq q4 0 && Nat.beq q5 3 && Nat.beq q6 1 && Nat.beq q7 0 then iter (S_ref09_Order_0 fuel) fuel (x0, x1, x2) (E17_0 K) else none
    | _ => none)
  | none => none
theorem B17_0_ok (fuel : Nat) (st : Ev.St) (K : Ev.Ex → Ev.St → Option Ans) (r : Ans) (h : B17_0 fuel st K = some r) : evalCode tab (G17 fuel) (J17_0 fuel) kp17 fuel (.block 0 (.loop (bodyOf 0 Tryz.f17))) st K = some r := by
  unfold B17_0 at h
  split at h
  · rename_i s hs
    split at h
    · skip
      obtain ⟨hb, h⟩ := cond_some' h
      simp only [Bool.and_eq_true, Nat.beq_eq, decide_eq_true_eq] at hb
      obtain ⟨⟨⟨⟨⟨⟨⟨rfl, rfl⟩, rfl⟩, rfl⟩, rfl⟩, rfl⟩, rfl⟩, rfl⟩ := hb
      exact blk_loop (S := T17_0) (ks := E17_0) (step := S_ref09_Order_0 fuel) (v := (_, _, _)) (by kernel_rfl) (by kernel_rfl) (fun R K v => by obtain ⟨x0, x1, x2⟩ := v; exact S17_0_ok fuel R K x0 x1 x2) hs h
    · cases h
  · cases h
noncomputable def S_ref09_Order_6 (fuel : Nat) (v : (List (Int × (Int × (List Int)))) × Int × Int × Int × (List Int)) (c : ((List (Int × (Int × (List Int)))) × Int × Int × Int × (List Int)) → Option Ans) (B : ((List (Int × (Int × (List Int)))) × Int × Int × (List Int) → Option Ans)) : Option Ans := match v, B with
  | (x0, x1, x2, x3, x4), b =>
   bif Decidable.decide (x3 < (↑x0.length : Int)) then
      bif Decidable.decide ((0 : Int) ≤ x3 ∧ x3 < (↑x0.length : Int)) then
      bif (x0.getD x3.toNat ((0 : Int), (0 : Int), [])).snd.fst == x1 then
        bif Decidable.decide ((0 : Int) ≤ x3 ∧ x3 < (↑x0.length : Int)) then
        bif (x0.getD x3.toNat ((0 : Int), (0 : Int), [])).fst == x2 then
          bif Decidable.decide ((x4.length + [x3].length) * (8 : Nat) ≤ (140737488355328 : Nat) ∧ x4.length + [x3].length ≤ (140737488355328 : Nat)) then
          c (x0, x1, x2, Go.IntKind.i64.wrap (x3 + (1 : Int)), x4 ++ [x3])
          else none
         else
          c (x0, x1, x2, Go.IntKind.i64.wrap (x3 + (1 : Int)), x4)
        else none
       else
        c (x0, x1, x2, Go.IntKind.i64.wrap (x3 + (1 : Int)), x4)
      else none
     else
      b (x0, x1, x2, x4)
noncomputable def L_ref09_Order_6 (fuel : Nat) (v : (List (Int × (Int × (List Int)))) × Int × Int × Int × (List Int)) (b : ((List (Int × (Int × (List Int)))) × Int × Int × (List Int) → Option Ans)) : Option Ans := iter (S_ref09_Order_6 fuel) fuel v b
noncomputable def J17_6 (fuel : Nat) (i : Nat) : Option Ev.Blk := Ev.look i [(100000, B17_0 fuel)]
noncomputable def T17_6 (v : (List (Int × (Int × (List Int)))) × Int × Int × Int × (List Int)) : Ev.St := match v with | (x0, x1, x2, x3, x4) => ⟨[(0, .c (.sl (.pair (.int .i64) (.pair (.int .i64) (.sl (.int .u8)))) x0)), (4, .c (.own 0)), (6, .c (.int .i64 x1)), (7, .c (.int .i64 x2)), (8, .c (.int .i64 x3))], [(0, .vec 3 (.int .i64) x4 true)], 1, 0⟩
noncomputable def E17_6 (K : Ev.Ex → Ev.St → Option Ans) : ((List (Int × (Int × (List Int)))) × Int × Int × (List Int) → Option Ans) := (fun v => match v with | (x0, x1, x2, x3) => K .normal ⟨[(0, .c (.sl (.pair (.int .i64) (.pair (.int .i64) (.sl (.int .u8)))) x0)), (4, .c (.own 0)), (6, .c (.int .i64 x1)), (7, .c (.int .i64 x2))], [(0, .vec 3 (.int .i64) x3 true)], 1, 0⟩)
theorem S17_6_okg (fuel : Nat) (f39 : YF39) (R : Ev.St → Option Ans) (K : Ev.Ex → Ev.St → Option Ans) (x0 : (List (Int × (Int × (List Int))))) (x1 : Int) (x2 : Int) (x3 : Int) (x4 : (List Int)) : evalCode tab (Gg17 f39) (J17_6 fuel) kp17 fuel (bodyOf 6 Tryz.f17) (T17_6 (x0, x1, x2, x3, x4)) (lc kp17 14 6 R K) = (fun (c : ((List (Int × (Int × (List Int)))) × Int × Int × Int × (List Int)) → Option Ans) (B : ((List (Int × (Int × (List Int)))) × Int × Int × (List Int) → Option Ans)) => match B with
  | b =>
   bif Decidable.decide (x3 < (↑x0.length : Int)) then
      bif Decidable.decide ((0 : Int) ≤ x3 ∧ x3 < (↑x0.length : Int)) then
      bif (x0.getD x3.toNat ((0 : Int), (0 : Int), [])).snd.fst == x1 then
        bif Decidable.decide ((0 : Int) ≤ x3 ∧ x3 < (↑x0.length : Int)) then
        bif (x0.getD x3.toNat ((0 : Int), (0 : Int), [])).fst == x2 then
          bif Decidable.decide ((x4.length + [x3].length) * (8 : Nat) ≤ (140737488355328 : Nat) ∧ x4.length + [x3].length ≤ (140737488355328 : Nat)) then
          c (x0, x1, x2, Go.IntKind.i64.wrap (x3 + (1 : Int)), x4 ++ [x3])
          else none
         else
          c (x0, x1, x2, Go.IntKind.i64.wrap (x3 + (1 : Int)), x4)
        else none
       else
        c (x0, x1, x2, Go.IntKind.i64.wrap (x3 + (1 : Int)), x4)
      else none
     else
      b (x0, x1, x2, x4)) (fun v => R (T17_6 v)) (E17_6 K) := by
  kernel_rfl
theorem S17_6_ok (fuel : Nat) (R : Ev.St → Option Ans) (K : Ev.Ex → Ev.St → Option Ans) (x0 : (List (Int × (Int × (List Int))))) (x1 : Int) (x2 : Int) (x3 : Int) (x4 : (List Int)) : evalCode tab (G17 fuel) (J17_6 fuel) kp17 fuel (bodyOf 6 Tryz.f17) (T17_6 (x0, x1, x2, x3, x4)) (lc kp17 14 6 R K) = S_ref09_Order_6 fuel (x0, x1, x2, x3, x4) (fun v => R (T17_6 v)) (E17_6 K) :=
  S17_6_okg fuel (F_ref09_IsShape fuel) R K x0 x1 x2 x3 x4
noncomputable def B17_6 (fuel : Nat) : Ev.Blk := fun st K => match canonO (kp17 14) st with
  | some s => (match s with
    | ⟨[(q0, .c (.sl (.pair (.int .i64) (.pair (.int .i64) (.sl (.int .u8)))) x0)), (q1, .c (.own q2)), (q3, .c (.int .i64 x1)), (q4, .c (.int .i64 x2)), (q5, .c (.int .i64 x3))], [(q6, .vec q7 (.int .i64) x4 true)], q8, q9⟩ => bif Nat.beq q0 0 && Nat.beq q1 4 && Nat.beq q2 0 && Nat.beq q3 6 && Nat.beq q4 7 && Nat.beq q5 8 && Nat.beq q6 0 && Nat.beq q7 3 && Nat.beq q8 1 && Nat.beq q9 0 then iter (S_ref09_Order_6 fuel) fuel (x0, x1, x2, x3, x4) (E17_6 K) else none
    | _ => none)
  | none => none
theorem B17_6_ok (fuel : Nat) (st : Ev.St) (K : Ev.Ex → Ev.St → Option Ans) (r : Ans) (h : B17_6 fuel st K = some r) : evalCode tab (G17 fuel) (J17_6 fuel) kp17 fuel (.block 6 (.loop (bodyOf 6 Tryz.f17))) st K = some r := by
  unfold B17_6 at h
  split at h
  · rename_i s hs
    split at h
    · skip
      obtain ⟨hb, h⟩ := cond_some' h
      simp only [Bool.and_eq_true, Nat.beq_eq, decide_eq_true_eq] at hb
      obtain ⟨⟨⟨⟨⟨⟨⟨⟨⟨rfl, rfl⟩, rfl⟩, rfl⟩, rfl⟩, rfl⟩, rfl⟩, rfl⟩, rfl⟩, rfl⟩ := hb
      exact blk_loop (S := T17_6) (ks := E17_6) (step := S_ref09_Order_6 fuel) (v := (_, _, _, _, _)) (by kernel_rfl) (by kernel_rfl) (fun R K v => by obtain ⟨x0, x1, x2, x3, x4⟩ := v; exact S17_6_ok fuel R K x0 x1 x2 x3 x4) hs h
    · cases h
  · cases h
noncomputable def S_ref09_Order_4 (fuel : Nat) (v : (List (Int × (Int × (List Int)))) × Int × Int × (List Int)) (c : ((List (Int × (Int × (List Int)))) × Int × Int × (List Int)) → Option Ans) (B : ((List (Int × (Int × (List Int)))) × Int × (List Int) → Option Ans)) : Option Ans := match v, B with
  | (x0, x1, x2, x3), b =>
   bif Decidable.decide (x2 ≤ (40 : Int)) then
      (L_ref09_Order_6 fuel (x0, x1, x2, (0 : Int), x3)
        (fun (b6_0, b6_1, b6_2, b6_3) =>
          c (b6_0, b6_1, Go.IntKind.i64.wrap (b6_2 + (1 : Int)), b6_3)))
     else
      b (x0, x1, x3)
noncomputable def L_ref09_Order_4 (fuel : Nat) (v : (List (Int × (Int × (List Int)))) × Int × Int × (List Int)) (b : ((List (Int × (Int × (List Int)))) × Int × (List Int) → Option Ans)) : Option Ans := iter (S_ref09_Order_4 fuel) fuel v b
noncomputable def J17_4 (fuel : Nat) (i : Nat) : Option Ev.Blk := Ev.look i [(100000, B17_0 fuel), (100006, B17_6 fuel)]
noncomputable def T17_4 (v : (List (Int × (Int × (List Int)))) × Int × Int × (List Int)) : Ev.St := match v with | (x0, x1, x2, x3) => ⟨[(0, .c (.sl (.pair (.int .i64) (.pair (.int .i64) (.sl (.int .u8)))) x0)), (4, .c (.own 0)), (6, .c (.int .i64 x1)), (7, .c (.int .i64 x2))], [(0, .vec 3 (.int .i64) x3 true)], 1, 0⟩
noncomputable def E17_4 (K : Ev.Ex → Ev.St → Option Ans) : ((List (Int × (Int × (List Int)))) × Int × (List Int) → Option Ans) := (fun v => match v with | (x0, x1, x2) => K .normal ⟨[(0, .c (.sl (.pair (.int .i64) (.pair (.int .i64) (.sl (.int .u8)))) x0)), (4, .c (.own 0)), (6, .c (.int .i64 x1))], [(0, .vec 3 (.int .i64) x2 true)], 1, 0⟩)
theorem S17_4_okg (fuel : Nat) (f39 : YF39) (R : Ev.St → Option Ans) (K : Ev.Ex → Ev.St → Option Ans) (x0 : (List (Int × (Int × (List Int))))) (x1 : Int) (x2 : Int) (x3 : (List Int)) : evalCode tab (Gg17 f39) (J17_4 fuel) kp17 fuel (bodyOf 4 Tryz.f17) (T17_4 (x0, x1, x2, x3)) (lc kp17 11 4 R K) = (fun (c : ((List (Int × (Int × (List Int)))) × Int × Int × (List Int)) → Option Ans) (B : ((List (Int × (Int × (List Int)))) × Int × (List Int) → Option Ans)) => match B with
  | b =>
   bif Decidable.decide (x2 ≤ (40 : Int)) then
      (L_ref09_Order_6 fuel (x0, x1, x2, (0 : Int), x3)
        (fun (b6_0, b6_1, b6_2, b6_3) =>
          c (b6_0, b6_1, Go.IntKind.i64.wrap (b6_2 + (1 : Int)), b6_3)))
     else
      b (x0, x1, x3)) (fun v => R (T17_4 v)) (E17_4 K) := by
  kernel_rfl
theorem S17_4_ok (fuel : Nat) (R : Ev.St → Option Ans) (K : Ev.Ex → Ev.St → Option Ans) (x0 : (List (Int × (Int × (List Int))))) (x1 : Int) (x2 : Int) (x3 : (List Int)) : evalCode tab (G17 fuel) (J17_4 fuel) kp17 fuel (bodyOf 4 Tryz.f17) (T17_4 (x0, x1, x2, x3)) (lc kp17 11 4 R K) = S_ref09_Order_4 fuel (x0, x1, x2, x3) (fun v => R (T17_4 v)) (E17_4 K) :=
  S17_4_okg fuel (F_ref09_IsShape fuel) R K x0 x1 x2 x3
noncomputable def B17_4 (fuel : Nat) : Ev.Blk := fun st K => match canonO (kp17 11) st with
  | some s => (match s with
    | ⟨[(q0, .c (.sl (.pair (.int .i64) (.pair (.int .i64) (.sl (.int .u8)))) x0)), (q1, .c (.own q2)), (q3, .c (.int .i64 x1)), (q4, .c (.int .i64 x2))], [(q5, .vec q6 (.int .i64) x3 true)], q7, q8⟩ => bif Nat.beq q0 0 && Nat.beq q1 4 && Nat.beq q2 0 && Nat.beq q3 6 && Nat.beq q4 7 && Nat.beq q5 0 && Nat.beq q6 3 && Nat.beq q7 1 && Nat.beq q8 0 then iter (S_ref09_Order_4 fuel) fuel (x0, x1, x2, x3) (E17_4 K) else none
    | _ => none)
  | none => none
theorem B17_4_ok (fuel : Nat) (st : Ev.St) (K : Ev.Ex → Ev.St → Option Ans) (r : Ans) (h : B17_4 fuel st K = some r) : evalCode tab (G17 fuel) (J17_4 fuel) kp17 fuel (.block 4 (.loop (bodyOf 4 Tryz.f17))) st K = some r := by
  unfold B17_4 at h
  split at h
  · rename_i s hs
    split at h
    · skip
      obtain ⟨hb, h⟩ := cond_some' h
      simp only [Bool.and_eq_true, Nat.beq_eq, decide_eq_true_eq] at hb
      obtain ⟨⟨⟨⟨⟨⟨⟨⟨rfl, rfl⟩, rfl⟩, rfl⟩, rfl⟩, rfl⟩, rfl⟩, rfl⟩, rfl⟩ := hb
      exact blk_loop (S := T17_4) (ks := E17_4) (step := S_ref09_Order_4 fuel) (v := (_, _, _, _)) (by kernel_rfl) (by kernel_rfl) (fun R K v => by obtain ⟨x0, x1, x2, x3⟩ := v; exact S17_4_ok fuel R K x0 x1 x2 x3) hs h
    · cases h
  · cases h
noncomputable def S_ref09_Order_2 (fuel : Nat) (v : (List (Int × (Int × (List Int)))) × Int × (List Int)) (c : ((List (Int × (Int × (List Int)))) × Int × (List Int)) → Option Ans) (B : ((List Int) → Option Ans)) : Option Ans := match v, B with
  | (x0, x1, x2), b =>
   bif Decidable.decide (x1 ≤ (40 : Int)) then
      (L_ref09_Order_4 fuel (x0, x1, (1 : Int), x2)
        (fun (b4_0, b4_1, b4_2) =>
          c (b4_0, Go.IntKind.i64.wrap (b4_1 + (1 : Int)), b4_2)))
     else
      b x2
noncomputable def L_ref09_Order_2 (fuel : Nat) (v : (List (Int × (Int × (List Int)))) × Int × (List Int)) (b : ((List Int) → Option Ans)) : Option Ans := iter (S_ref09_Order_2 fuel) fuel v b
noncomputable def J17_2 (fuel : Nat) (i : Nat) : Option Ev.Blk := Ev.look i [(100000, B17_0 fuel), (100006, B17_6 fuel), (100004, B17_4 fuel)]
noncomputable def T17_2 (v : (List (Int × (Int × (List Int)))) × Int × (List Int)) : Ev.St := match v with | (x0, x1, x2) => ⟨[(0, .c (.sl (.pair (.int .i64) (.pair (.int .i64) (.sl (.int .u8)))) x0)), (4, .c (.own 0)), (6, .c (.int .i64 x1))], [(0, .vec 3 (.int .i64) x2 true)], 1, 0⟩
noncomputable def E17_2 (K : Ev.Ex → Ev.St → Option Ans) : ((List Int) → Option Ans) := (fun v => match v with | x0 => K .normal ⟨[(4, .c (.own 0))], [(0, .vec 3 (.int .i64) x0 true)], 1, 0⟩)
theorem S17_2_okg (fuel : Nat) (f39 : YF39) (R : Ev.St → Option Ans) (K : Ev.Ex → Ev.St → Option Ans) (x0 : (List (Int × (Int × (List Int))))) (x1 : Int) (x2 : (List Int)) : evalCode tab (Gg17 f39) (J17_2 fuel) kp17 fuel (bodyOf 2 Tryz.f17) (T17_2 (x0, x1, x2)) (lc kp17 8 2 R K) = (fun (c : ((List (Int × (Int × (List Int)))) × Int × (List Int)) → Option Ans) (B : ((List Int) → Option Ans)) => match B with
  | b =>
   bif Decidable.decide (x1 ≤ (40 : Int)) then
      (L_ref09_Order_4 fuel (x0, x1, (1 : Int), x2)
        (fun (b4_0, b4_1, b4_2) =>
          c (b4_0, Go.IntKind.i64.wrap (b4_1 + (1 : Int)), b4_2)))
     else
      b x2) (fun v => R (T17_2 v)) (E17_2 K) := by
  kernel_rfl
theorem S17_2_ok (fuel : Nat) (R : Ev.St → Option Ans) (K : Ev.Ex → Ev.St → Option Ans) (x0 : (List (Int × (Int × (List Int))))) (x1 : Int) (x2 : (List Int)) : evalCode tab (G17 fuel) (J17_2 fuel) kp17 fuel (bodyOf 2 Tryz.f17) (T17_2 (x0, x1, x2)) (lc kp17 8 2 R K) = S_ref09_Order_2 fuel (x0, x1, x2) (fun v => R (T17_2 v)) (E17_2 K) :=
  S17_2_okg fuel (F_ref09_IsShape fuel) R K x0 x1 x2
noncomputable def B17_2 (fuel : Nat) : Ev.Blk := fun st K => match canonO (kp17 8) st with
  | some s => (match s with
    | ⟨[(q0, .c (.sl (.pair (.int .i64) (.pair (.int .i64) (.sl (.int .u8)))) x0)), (q1, .c (.own q2)), (q3, .c (.int .i64 x1))], [(q4, .vec q5 (.int .i64) x2 true)], q6, q7⟩ => bif Nat.beq q0 0 && Nat.beq q1 4 && Nat.beq q2 0 && Nat.beq q3 6 && Nat.beq q4 0 && Nat.beq q5 3 && Nat.beq q6 1 && Nat.beq q7 0 then iter (S_ref09_Order_2 fuel) fuel (x0, x1, x2) (E17_2 K) else none
    | _ => none)
  | none => none
theorem B17_2_ok (fuel : Nat) (st : Ev.St) (K : Ev.Ex → Ev.St → Option Ans) (r : Ans) (h : B17_2 fuel st K = some r) : evalCode tab (G17 fuel) (J17_2 fuel) kp17 fuel (.block 2 (.loop (bodyOf 2 Tryz.f17))) st K = some r := by
  unfold B17_2 at h
  split at h
  · rename_i s hs
    split at h
    · skip
      obtain ⟨hb, h⟩ := cond_some' h
      simp only [Bool.and_eq_true, Nat.beq_eq, decide_eq_true_eq] at hb
      obtain ⟨⟨⟨⟨⟨⟨⟨rfl, rfl⟩, rfl⟩, rfl⟩, rfl⟩, rfl⟩, rfl⟩, rfl⟩ := hb
      exact blk_loop (S := T17_2) (ks := E17_2) (step := S_ref09_Order_2 fuel) (v := (_, _, _)) (by kernel_rfl) (by kernel_rfl) (fun R K v => by obtain ⟨x0, x1, x2⟩ := v; exact S17_2_ok fuel R K x0 x1 x2) hs h
    · cases h
  · cases h
noncomputable def J17 (fuel : Nat) (i : Nat) : Option Ev.Blk := Ev.look i [(100000, B17_0 fuel), (100006, B17_6 fuel), (100004, B17_4 fuel), (100002, B17_2 fuel)]
noncomputable def F_ref09_Order (fuel : Nat) (x0 : (List (Int × Int × (List Int)))) (k0 : (Int × (List Int)) → Option Ans) : Option Ans :=
  (L_ref09_Order_0 fuel (x0, (0 : Int), [])
    (fun (ret0_0, ret0_1) =>
      k0 (ret0_0, ret0_1))
    (fun (b0_0, b0_1) =>
      (L_ref09_Order_2 fuel (b0_0, (1 : Int), b0_1)
        (fun b2_0 =>
          k0 ((0 : Int), b2_0)))))
abbrev YF17 : Type := ((List (Int × Int × (List Int)))) → ((Int × (List Int)) → Option Ans) → Option Ans
theorem F17_eqg (fuel : Nat) (f39 : YF39) (x0 : (List (Int × Int × (List Int)))) (k : Ev.Cont) : evalFn tab (Gg17 f39) (J17 fuel) kp17 fuel Tryz.f17 [.c (.sl (.pair (.int .i64) (.pair (.int .i64) (.sl (.int .u8)))) x0)] [] k = (fun  (k0 : (Int × (List Int)) → Option Ans) =>
  (L_ref09_Order_0 fuel (x0, (0 : Int), [])
    (fun (ret0_0, ret0_1) =>
      k0 (ret0_0, ret0_1))
    (fun (b0_0, b0_1) =>
      (L_ref09_Order_2 fuel (b0_0, (1 : Int), b0_1)
        (fun b2_0 =>
          k0 ((0 : Int), b2_0)))))) (fun r => match r with | (r0, r1) => k (.tup [(false, [.own 0]), (false, [.int .i64 r0])], [.vec 3 (.int .i64) r1 true])) := by
  kernel_rfl
theorem F17_eq (fuel : Nat) (x0 : (List (Int × Int × (List Int)))) (k : Ev.Cont) : evalFn tab (G17 fuel) (J17 fuel) kp17 fuel Tryz.f17 [.c (.sl (.pair (.int .i64) (.pair (.int .i64) (.sl (.int .u8)))) x0)] [] k = F_ref09_Order fuel x0 (fun r => match r with | (r0, r1) => k (.tup [(false, [.own 0]), (false, [.int .i64 r0])], [.vec 3 (.int .i64) r1 true])) :=
  F17_eqg fuel (F_ref09_IsShape fuel) x0 k
theorem hG17 (fuel : Nat) : GOK Tryz.prog (G17 fuel) :=
  gok_cons ⟨ok39 fuel, enters_of Tryz.func39 (by kernel_rfl) rfl⟩ <|
  gok_nil
theorem B17_0_blk (fuel : Nat) : BlkOK Tryz.prog Tryz.f17.ntmps (.block 0 (.loop (bodyOf 0 Tryz.f17))) (B17_0 fuel) :=
  blk_of (blk_of_code tab_ok (hG17 fuel) mixed (J := J17_0 fuel) (kp := kp17) (fuel := fuel) (by kernel_rfl) (fun q hq => by
    rw [(by kernel_rfl : obl (J17_0 fuel) (.block 0 (.loop (bodyOf 0 Tryz.f17))) = [])] at hq
    cases hq)) (B17_0_ok fuel)
theorem B17_6_blk (fuel : Nat) : BlkOK Tryz.prog Tryz.f17.ntmps (.block 6 (.loop (bodyOf 6 Tryz.f17))) (B17_6 fuel) :=
  blk_of (blk_of_code tab_ok (hG17 fuel) mixed (J := J17_6 fuel) (kp := kp17) (fuel := fuel) (by kernel_rfl) (fun q hq => by
    rw [(by kernel_rfl : obl (J17_6 fuel) (.block 6 (.loop (bodyOf 6 Tryz.f17))) = [])] at hq
    cases hq)) (B17_6_ok fuel)
theorem B17_4_blk (fuel : Nat) : BlkOK Tryz.prog Tryz.f17.ntmps (.block 4 (.loop (bodyOf 4 Tryz.f17))) (B17_4 fuel) :=
  blk_of (blk_of_code tab_ok (hG17 fuel) mixed (J := J17_4 fuel) (kp := kp17) (fuel := fuel) (by kernel_rfl) (fun q hq => by
    rw [(by kernel_rfl : obl (J17_4 fuel) (.block 4 (.loop (bodyOf 4 Tryz.f17))) = [(.block 6 (.loop (bodyOf 6 Tryz.f17)), B17_6 fuel)])] at hq
    simp only [List.mem_cons, List.not_mem_nil, or_false] at hq
    subst hq
    · exact B17_6_blk fuel)) (B17_4_ok fuel)
theorem B17_2_blk (fuel : Nat) : BlkOK Tryz.prog Tryz.f17.ntmps (.block 2 (.loop (bodyOf 2 Tryz.f17))) (B17_2 fuel) :=
  blk_of (blk_of_code tab_ok (hG17 fuel) mixed (J := J17_2 fuel) (kp := kp17) (fuel := fuel) (by kernel_rfl) (fun q hq => by
    rw [(by kernel_rfl : obl (J17_2 fuel) (.block 2 (.loop (bodyOf 2 Tryz.f17))) = [(.block 4 (.loop (bodyOf 4 Tryz.f17)), B17_4 fuel)])] at hq
    simp only [List.mem_cons, List.not_mem_nil, or_false] at hq
    subst hq
    · exact B17_4_blk fuel)) (B17_2_ok fuel)
theorem fok17 (fuel : Nat) : FnOK Tryz.prog 17 (evalFn tab (G17 fuel) (J17 fuel) kp17 fuel Tryz.f17) :=
  fn_ok tab_ok (hG17 fuel) mixed Tryz.func17 (c := (Tryz.f17.body).getD .skip) rfl (fun q hq => by
    rw [(by kernel_rfl : obl (J17 fuel) ((Tryz.f17.body).getD .skip) = [(.block 0 (.loop (bodyOf 0 Tryz.f17)), B17_0 fuel), (.block 2 (.loop (bodyOf 2 Tryz.f17)), B17_2 fuel)])] at hq
    simp only [List.mem_cons, List.not_mem_nil, or_false] at hq
    rcases hq with rfl | rfl
    · exact B17_0_blk fuel
    · exact B17_2_blk fuel)
noncomputable def mt17 : List Ev.SV → List Ev.Ob → Bool := fun args objs => match args, objs with
  | [.c (.sl (.pair (.int .i64) (.pair (.int .i64) (.sl (.int .u8)))) _)], [] => true
  | _, _ => false
noncomputable def spg17 (F : YF17) : Ev.Spec := fun args objs k => match args, objs with
  | [.c (.sl (.pair (.int .i64) (.pair (.int .i64) (.sl (.int .u8)))) x0)], [] => bif true then F x0 (fun r => match r with | (r0, r1) => k (.tup [(false, [.own 0]), (false, [.int .i64 r0])], [.vec 3 (.int .i64) r1 true])) else none
  | _, _ => none
noncomputable def spec17 (fuel : Nat) : Ev.Spec := spg17 (F_ref09_Order fuel)
theorem ok17 (fuel : Nat) : FnOK Tryz.prog 17 (spec17 fuel) := by
  intro args objs kk r h
  unfold spec17 spg17 at h
  split at h
  · skip
    obtain ⟨hb, h⟩ := cond_some' h
    simp only [Bool.and_eq_true, Nat.beq_eq, decide_eq_true_eq] at hb
    clear hb
    exact fok17 fuel _ _ kk r ((F17_eq fuel _ kk).trans h)
  · cases h
end Go.Proofs.YtmjeeaemmbkioaaGreat

set_option linter.unusedVariables false
set_option linter.unusedSimpArgs false
set_option maxRecDepth 100000
set_option maxHeartbeats 2000000
namespace Go.Proofs.YtmjeeaemmbkioaaGreat
open Go Ev
def kp125 (i : Nat) : Option (List Nat) := Ev.look i []
noncomputable def Gg125 (f : Nat) : Option Ev.Spec := Ev.look f []
noncomputable def G125 (fuel : Nat) : Nat → Option Ev.Spec := Gg125
noncomputable def J125 (fuel : Nat) (i : Nat) : Option Ev.Blk := Ev.look i []
noncomputable def F_bitmap_fits (fuel : Nat) (x0 : Int) (x1 : Int) (k0 : (Bool) → Option Ans) : Option Ans :=
  bif Decidable.decide (x0 ≥ (0 : Int)) then
   bif Decidable.decide (x1 ≥ (0 : Int)) then
    bif Decidable.decide (x0 ≤ (200 : Int)) then
     bif Decidable.decide (x1 ≤ (200 : Int)) then
      k0 (Decidable.decide (Go.IntKind.i64.wrap (x0 * x1) ≤ (8192 : Int)))
     else
      k0 Bool.false
    else
     k0 Bool.false
   else
    k0 Bool.false
  else
   k0 Bool.false
abbrev YF125 : Type := (Int) → (Int) → ((Bool) → Option Ans) → Option Ans
theorem F125_eq (fuel : Nat) (x0 : Int) (x1 : Int) (k : Ev.Cont) : evalFn tab (G125 fuel) (J125 fuel) kp125 fuel Tryz.f125 [.c (.int .i64 x0), .c (.int .i64 x1)] [] k = F_bitmap_fits fuel x0 x1 (fun r => match r with | r0 => k (.c (.bool r0), [])) := by
  kernel_rfl
theorem hG125 (fuel : Nat) : GOK Tryz.prog (G125 fuel) :=
  gok_nil
theorem fok125 (fuel : Nat) : FnOK Tryz.prog 125 (evalFn tab (G125 fuel) (J125 fuel) kp125 fuel Tryz.f125) :=
  fn_ok tab_ok (hG125 fuel) mixed Tryz.func125 (c := (Tryz.f125.body).getD .skip) rfl (fun q hq => by
    rw [(by kernel_rfl : obl (J125 fuel) ((Tryz.f125.body).getD .skip) = [])] at hq
    cases hq)
noncomputable def mt125 : List Ev.SV → List Ev.Ob → Bool := fun args objs => match args, objs with
  | [.c (.int .i64 _), .c (.int .i64 _)], [] => true
  | _, _ => false
noncomputable def spg125 (F : YF125) : Ev.Spec := fun args objs k => match args, objs with
  | [.c (.int .i64 x0), .c (.int .i64 x1)], [] => bif true then F x0 x1 (fun r => match r with | r0 => k (.c (.bool r0), [])) else none
  | _, _ => none
noncomputable def spec125 (fuel : Nat) : Ev.Spec := spg125 (F_bitmap_fits fuel)
theorem ok125 (fuel : Nat) : FnOK Tryz.prog 125 (spec125 fuel) := by
  intro args objs kk r h
  unfold spec125 spg125 at h
  split at h
  · skip
    obtain ⟨hb, h⟩ := cond_some' h
    simp only [Bool.and_eq_true, Nat.beq_eq, decide_eq_true_eq] at hb
    clear hb
    exact fok125 fuel _ _ kk r ((F125_eq fuel _ _ kk).trans h)
  · cases h
end Go.Proofs.YtmjeeaemmbkioaaGreat

set_option linter.unusedVariables false
set_option linter.unusedSimpArgs false
set_option maxRecDepth 100000
set_option maxHeartbeats 2000000
namespace Go.Proofs.YtmjeeaemmbkioaaGreat
open Go Ev
def kp78 (i : Nat) : Option (List Nat) := Ev.look i [(4, [23, 24, 25]), (100000, []), (400000, [2])]
noncomputable def Gg78 (f125 : YF125) (f : Nat) : Option Ev.Spec := Ev.look f [(125, spg125 f125)]
noncomputable def G78 (fuel : Nat) : Nat → Option Ev.Spec := Gg78 (F_bitmap_fits fuel)
noncomputable def S_bitmap_Valid_0 (fuel : Nat) (v : (List Int) × Int × Int) (c : ((List Int) × Int × Int) → Option Ans) (B : (Bool → Option Ans) × (Unit → Option Ans)) : Option Ans := match v, B with
  | (x0, x1, x2), (ret, b) =>
   bif Decidable.decide (x2 < x1) then
      bif Decidable.decide ((0 : Int) ≤ x2 ∧ x2 < (↑x0.length : Int)) then
      bif Decidable.decide (x0.getD x2.toNat (0 : Int) > (1 : Int)) then
        ret Bool.false
       else
        c (x0, x1, Go.IntKind.i64.wrap (x2 + (1 : Int)))
      else none
     else
      b ()
noncomputable def L_bitmap_Valid_0 (fuel : Nat) (v : (List Int) × Int × Int) (ret : (Bool → Option Ans)) (b : (Unit → Option Ans)) : Option Ans := iter (S_bitmap_Valid_0 fuel) fuel v (ret, b)
noncomputable def J78_0 (fuel : Nat) (i : Nat) : Option Ev.Blk := Ev.look i []
noncomputable def T78_0 (v : (List Int) × Int × Int) : Ev.St := match v with | (x0, x1, x2) => ⟨[(23, .c (.sl (.int .u8) x0)), (24, .c (.int .i64 x1)), (25, .c (.int .i64 x2))], [], 0, 0⟩
noncomputable def E78_0 (K : Ev.Ex → Ev.St → Option Ans) : (Bool → Option Ans) × (Unit → Option Ans) := ((fun v => match v with | x0 => K .ret ⟨[(2, .c (.bool x0))], [], 0, 0⟩), (fun v => match v with | () => K .normal ⟨[], [], 0, 0⟩))
theorem S78_0_okg (fuel : Nat) (f125 : YF125) (R : Ev.St → Option Ans) (K : Ev.Ex → Ev.St → Option Ans) (x0 : (List Int)) (x1 : Int) (x2 : Int) : evalCode tab (Gg78 f125) (J78_0 fuel) kp78 fuel (bodyOf 0 Tryz.f78) (T78_0 (x0, x1, x2)) (lc kp78 4 0 R K) = (fun (c : ((List Int) × Int × Int) → Option Ans) (B : (Bool → Option Ans) × (Unit → Option Ans)) => match B with
  | (ret, b) =>
   bif Decidable.decide (x2 < x1) then
      bif Decidable.decide ((0 : Int) ≤ x2 ∧ x2 < (↑x0.length : Int)) then
      bif Decidable.decide (x0.getD x2.toNat (0 : Int) > (1 : Int)) then
        ret Bool.false
       else
        c (x0, x1, Go.IntKind.i64.wrap (x2 + (1 : Int)))
      else none
     else
      b ()) (fun v => R (T78_0 v)) (E78_0 K) := by
  kernel_rfl
theorem S78_0_ok (fuel : Nat) (R : Ev.St → Option Ans) (K : Ev.Ex → Ev.St → Option Ans) (x0 : (List Int)) (x1 : Int) (x2 : Int) : evalCode tab (G78 fuel) (J78_0 fuel) kp78 fuel (bodyOf 0 Tryz.f78) (T78_0 (x0, x1, x2)) (lc kp78 4 0 R K) = S_bitmap_Valid_0 fuel (x0, x1, x2) (fun v => R (T78_0 v)) (E78_0 K) :=
  S78_0_okg fuel (F_bitmap_fits fuel) R K x0 x1 x2
noncomputable def B78_0 (fuel : Nat) : Ev.Blk := fun st K => match canonO (kp78 4) st with
  | some s => (match s with
    | ⟨[(q0, .c (.sl (.int .u8) x0)), (q1, .c (.int .i64 x1)), (q2, .c (.int .i64 x2))], [], q3, q4⟩ => bif Nat.beq q0 23 && Nat.beq q1 24 && Nat.beq q2 25 && Nat.beq q3 0 && Nat.beq q4 0 then iter (S_bitmap_Valid_0 fuel) fuel (x0, x1, x2) (E78_0 K) else none
    | _ => none)
  | none => none
theorem B78_0_ok (fuel : Nat) (st : Ev.St) (K : Ev.Ex → Ev.St → Option Ans) (r : Ans) (h : B78_0 fuel st K = some r) : evalCode tab (G78 fuel) (J78_0 fuel) kp78 fuel (.block 0 (.loop (bodyOf 0 Tryz.f78))) st K = some r := by
  unfold B78_0 at h
  split at h
  · rename_i s hs
    split at h
    · skip
      obtain ⟨hb, h⟩ := cond_some' h
      simp only [Bool.and_eq_true, Nat.beq_eq, decide_eq_true_eq] at hb
      obtain ⟨⟨⟨⟨rfl, rfl⟩, rfl⟩, rfl⟩, rfl⟩ := hb
      exact blk_loop (S := T78_0) (ks := E78_0) (step := S_bitmap_Valid_0 fuel) (v := (_, _, _)) (by kernel_rfl) (by kernel_rfl) (fun R K v => by obtain ⟨x0, x1, x2⟩ := v; exact S78_0_ok fuel R K x0 x1 x2) hs h
    · cases h
  · cases h
noncomputable def J78 (fuel : Nat) (i : Nat) : Option Ev.Blk := Ev.look i [(100000, B78_0 fuel)]
noncomputable def F_bitmap_Valid (fuel : Nat) (x0 : Int) (x1 : Int) (x2 : (List Int)) (k0 : (Bool) → Option Ans) : Option Ans :=
  (F_bitmap_fits fuel (x0) (x1)
    (fun y2 =>
      bif !y2 then
       k0 Bool.false
      else
       bif (↑x2.length : Int) != Go.IntKind.i64.wrap (x0 * x1) then
        k0 Bool.false
       else
        (L_bitmap_Valid_0 fuel (x2, (↑x2.length : Int), (0 : Int))
          (fun ret0_0 =>
            k0 ret0_0)
          (fun () =>
            k0 Bool.true))))
abbrev YF78 : Type := (Int) → (Int) → ((List Int)) → ((Bool) → Option Ans) → Option Ans
theorem F78_eqg (fuel : Nat) (f125 : YF125) (x0 : Int) (x1 : Int) (x2 : (List Int)) (k : Ev.Cont) : evalFn tab (Gg78 f125) (J78 fuel) kp78 fuel Tryz.f78 [.agg [.int .i64 x0, .int .i64 x1, .sl (.int .u8) x2]] [] k = (fun  (k0 : (Bool) → Option Ans) =>
  (f125 (x0) (x1)
    (fun y2 =>
      bif !y2 then
       k0 Bool.false
      else
       bif (↑x2.length : Int) != Go.IntKind.i64.wrap (x0 * x1) then
        k0 Bool.false
       else
        (L_bitmap_Valid_0 fuel (x2, (↑x2.length : Int), (0 : Int))
          (fun ret0_0 =>
            k0 ret0_0)
          (fun () =>
            k0 Bool.true))))) (fun r => match r with | r0 => k (.c (.bool r0), [])) := by
  kernel_rfl
theorem F78_eq (fuel : Nat) (x0 : Int) (x1 : Int) (x2 : (List Int)) (k : Ev.Cont) : evalFn tab (G78 fuel) (J78 fuel) kp78 fuel Tryz.f78 [.agg [.int .i64 x0, .int .i64 x1, .sl (.int .u8) x2]] [] k = F_bitmap_Valid fuel x0 x1 x2 (fun r => match r with | r0 => k (.c (.bool r0), [])) :=
  F78_eqg fuel (F_bitmap_fits fuel) x0 x1 x2 k
theorem hG78 (fuel : Nat) : GOK Tryz.prog (G78 fuel) :=
  gok_cons ⟨ok125 fuel, enters_of Tryz.func125 (by kernel_rfl) rfl⟩ <|
  gok_nil
theorem B78_0_blk (fuel : Nat) : BlkOK Tryz.prog Tryz.f78.ntmps (.block 0 (.loop (bodyOf 0 Tryz.f78))) (B78_0 fuel) :=
  blk_of (blk_of_code tab_ok (hG78 fuel) mixed (J := J78_0 fuel) (kp := kp78) (fuel := fuel) (by kernel_rfl) (fun q hq => by
    rw [(by kernel_rfl : obl (J78_0 fuel) (.block 0 (.loop (bodyOf 0 Tryz.f78))) = [])] at hq
    cases hq)) (B78_0_ok fuel)
theorem fok78 (fuel : Nat) : FnOK Tryz.prog 78 (evalFn tab (G78 fuel) (J78 fuel) kp78 fuel Tryz.f78) :=
  fn_ok tab_ok (hG78 fuel) mixed Tryz.func78 (c := (Tryz.f78.body).getD .skip) rfl (fun q hq => by
    rw [(by kernel_rfl : obl (J78 fuel) ((Tryz.f78.body).getD .skip) = [(.block 0 (.loop (bodyOf 0 Tryz.f78)), B78_0 fuel)])] at hq
    simp only [List.mem_cons, List.not_mem_nil, or_false] at hq
    subst hq
    · exact B78_0_blk fuel)
noncomputable def mt78 : List Ev.SV → List Ev.Ob → Bool := fun args objs => match args, objs with
  | [.agg [.int .i64 _, .int .i64 _, .sl (.int .u8) _]], [] => true
  | _, _ => false
noncomputable def spg78 (F : YF78) : Ev.Spec := fun args objs k => match args, objs with
  | [.agg [.int .i64 x0, .int .i64 x1, .sl (.int .u8) x2]], [] => bif true then F x0 x1 x2 (fun r => match r with | r0 => k (.c (.bool r0), [])) else none
  | _, _ => none
noncomputable def spec78 (fuel : Nat) : Ev.Spec := spg78 (F_bitmap_Valid fuel)
theorem ok78 (fuel : Nat) : FnOK Tryz.prog 78 (spec78 fuel) := by
  intro args objs kk r h
  unfold spec78 spg78 at h
  split at h
  · skip
    obtain ⟨hb, h⟩ := cond_some' h
    simp only [Bool.and_eq_true, Nat.beq_eq, decide_eq_true_eq] at hb
    clear hb
    exact fok78 fuel _ _ kk r ((F78_eq fuel _ _ _ kk).trans h)
  · cases h
end Go.Proofs.YtmjeeaemmbkioaaGreat

set_option linter.unusedVariables false
set_option linter.unusedSimpArgs false
set_option maxRecDepth 100000
set_option maxHeartbeats 2000000
namespace Go.Proofs.YtmjeeaemmbkioaaGreat
open Go Ev
def kp35 (i : Nat) : Option (List Nat) := Ev.look i []
noncomputable def Gg35 (f78 : YF78) (f : Nat) : Option Ev.Spec := Ev.look f [(78, spg78 f78)]
noncomputable def G35 (fuel : Nat) : Nat → Option Ev.Spec := Gg35 (F_bitmap_Valid fuel)
noncomputable def J35 (fuel : Nat) (i : Nat) : Option Ev.Blk := Ev.look i []
noncomputable def F_symbol_isShape (fuel : Nat) (x0 : Int) (x1 : Int) (x2 : (List Int)) (k0 : (Bool) → Option Ans) : Option Ans :=
  (F_bitmap_Valid fuel (x0) (x1) (x2)
    (fun y2 =>
      bif y2 then
       bif Decidable.decide (x0 ≥ (1 : Int)) then
        bif Decidable.decide (x0 ≤ (40 : Int)) then
         bif Decidable.decide (x1 ≥ (1 : Int)) then
          k0 (Decidable.decide (x1 ≤ (40 : Int)))
         else
          k0 Bool.false
        else
         k0 Bool.false
       else
        k0 Bool.false
      else
       k0 Bool.false))
abbrev YF35 : Type := (Int) → (Int) → ((List Int)) → ((Bool) → Option Ans) → Option Ans
theorem F35_eqg (fuel : Nat) (f78 : YF78) (x0 : Int) (x1 : Int) (x2 : (List Int)) (k : Ev.Cont) : evalFn tab (Gg35 f78) (J35 fuel) kp35 fuel Tryz.f35 [.agg [.int .i64 x0, .int .i64 x1, .sl (.int .u8) x2]] [] k = (fun  (k0 : (Bool) → Option Ans) =>
  (f78 (x0) (x1) (x2)
    (fun y2 =>
      bif y2 then
       bif Decidable.decide (x0 ≥ (1 : Int)) then
        bif Decidable.decide (x0 ≤ (40 : Int)) then
         bif Decidable.decide (x1 ≥ (1 : Int)) then
          k0 (Decidable.decide (x1 ≤ (40 : Int)))
         else
          k0 Bool.false
        else
         k0 Bool.false
       else
        k0 Bool.false
      else
       k0 Bool.false))) (fun r => match r with | r0 => k (.c (.bool r0), [])) := by
  kernel_rfl
theorem F35_eq (fuel : Nat) (x0 : Int) (x1 : Int) (x2 : (List Int)) (k : Ev.Cont) : evalFn tab (G35 fuel) (J35 fuel) kp35 fuel Tryz.f35 [.agg [.int .i64 x0, .int .i64 x1, .sl (.int .u8) x2]] [] k = F_symbol_isShape fuel x0 x1 x2 (fun r => match r with | r0 => k (.c (.bool r0), [])) :=
  F35_eqg fuel (F_bitmap_Valid fuel) x0 x1 x2 k
theorem hG35 (fuel : Nat) : GOK Tryz.prog (G35 fuel) :=
  gok_cons ⟨ok78 fuel, enters_of Tryz.func78 (by kernel_rfl) rfl⟩ <|
  gok_nil
theorem fok35 (fuel : Nat) : FnOK Tryz.prog 35 (evalFn tab (G35 fuel) (J35 fuel) kp35 fuel Tryz.f35) :=
  fn_ok tab_ok (hG35 fuel) mixed Tryz.func35 (c := (Tryz.f35.body).getD .skip) rfl (fun q hq => by
    rw [(by kernel_rfl : obl (J35 fuel) ((Tryz.f35.body).getD .skip) = [])] at hq
    cases hq)
noncomputable def mt35 : List Ev.SV → List Ev.Ob → Bool := fun args objs => match args, objs with
  | [.agg [.int .i64 _, .int .i64 _, .sl (.int .u8) _]], [] => true
  | _, _ => false
noncomputable def spg35 (F : YF35) : Ev.Spec := fun args objs k => match args, objs with
  | [.agg [.int .i64 x0, .int .i64 x1, .sl (.int .u8) x2]], [] => bif true then F x0 x1 x2 (fun r => match r with | r0 => k (.c (.bool r0), [])) else none
  | _, _ => none
noncomputable def spec35 (fuel : Nat) : Ev.Spec := spg35 (F_symbol_isShape fuel)
theorem ok35 (fuel : Nat) : FnOK Tryz.prog 35 (spec35 fuel) := by
  intro args objs kk r h
  unfold spec35 spg35 at h
  split at h
  · skip
    obtain ⟨hb, h⟩ := cond_some' h
    simp only [Bool.and_eq_true, Nat.beq_eq, decide_eq_true_eq] at hb
    clear hb
    exact fok35 fuel _ _ kk r ((F35_eq fuel _ _ _ kk).trans h)
  · cases h
end Go.Proofs.YtmjeeaemmbkioaaGreat

set_option linter.unusedVariables false
set_option linter.unusedSimpArgs false
set_option maxRecDepth 100000
set_option maxHeartbeats 2000000
namespace Go.Proofs.YtmjeeaemmbkioaaGreat
open Go Ev
def kp43 (i : Nat) : Option (List Nat) := Ev.look i []
noncomputable def Gg43 (f35 : YF35) (f : Nat) : Option Ev.Spec := Ev.look f [(35, spg35 f35)]
noncomputable def G43 (fuel : Nat) : Nat → Option Ev.Spec := Gg43 (F_symbol_isShape fuel)
noncomputable def J43 (fuel : Nat) (i : Nat) : Option Ev.Blk := Ev.look i []
noncomputable def F_symbol_Order_1 (fuel : Nat) (x0 : Int) (x1 : Int) (x2 : (List Int)) (k0 : (Bool) → Option Ans) : Option Ans :=
  (F_symbol_isShape fuel (x0) (x1) (x2)
    (fun y2 =>
      k0 !y2))
abbrev YF43 : Type := (Int) → (Int) → ((List Int)) → ((Bool) → Option Ans) → Option Ans
theorem F43_eqg (fuel : Nat) (f35 : YF35) (x0 : Int) (x1 : Int) (x2 : (List Int)) (k : Ev.Cont) : evalFn tab (Gg43 f35) (J43 fuel) kp43 fuel Tryz.f43 [.agg [.int .i64 x0, .int .i64 x1, .sl (.int .u8) x2]] [] k = (fun  (k0 : (Bool) → Option Ans) =>
  (f35 (x0) (x1) (x2)
    (fun y2 =>
      k0 !y2))) (fun r => match r with | r0 => k (.c (.bool r0), [])) := by
  kernel_rfl
theorem F43_eq (fuel : Nat) (x0 : Int) (x1 : Int) (x2 : (List Int)) (k : Ev.Cont) : evalFn tab (G43 fuel) (J43 fuel) kp43 fuel Tryz.f43 [.agg [.int .i64 x0, .int .i64 x1, .sl (.int .u8) x2]] [] k = F_symbol_Order_1 fuel x0 x1 x2 (fun r => match r with | r0 => k (.c (.bool r0), [])) :=
  F43_eqg fuel (F_symbol_isShape fuel) x0 x1 x2 k
theorem hG43 (fuel : Nat) : GOK Tryz.prog (G43 fuel) :=
  gok_cons ⟨ok35 fuel, enters_of Tryz.func35 (by kernel_rfl) rfl⟩ <|
  gok_nil
theorem fok43 (fuel : Nat) : FnOK Tryz.prog 43 (evalFn tab (G43 fuel) (J43 fuel) kp43 fuel Tryz.f43) :=
  fn_ok tab_ok (hG43 fuel) mixed Tryz.func43 (c := (Tryz.f43.body).getD .skip) rfl (fun q hq => by
    rw [(by kernel_rfl : obl (J43 fuel) ((Tryz.f43.body).getD .skip) = [])] at hq
    cases hq)
noncomputable def mt43 : List Ev.SV → List Ev.Ob → Bool := fun args objs => match args, objs with
  | [.agg [.int .i64 _, .int .i64 _, .sl (.int .u8) _]], [] => true
  | _, _ => false
noncomputable def spg43 (F : YF43) : Ev.Spec := fun args objs k => match args, objs with
  | [.agg [.int .i64 x0, .int .i64 x1, .sl (.int .u8) x2]], [] => bif true then F x0 x1 x2 (fun r => match r with | r0 => k (.c (.bool r0), [])) else none
  | _, _ => none
noncomputable def spec43 (fuel : Nat) : Ev.Spec := spg43 (F_symbol_Order_1 fuel)
theorem ok43 (fuel : Nat) : FnOK Tryz.prog 43 (spec43 fuel) := by
  intro args objs kk r h
  unfold spec43 spg43 at h
  split at h
  · skip
    obtain ⟨hb, h⟩ := cond_some' h
    simp only [Bool.and_eq_true, Nat.beq_eq, decide_eq_true_eq] at hb
    clear hb
    exact fok43 fuel _ _ kk r ((F43_eq fuel _ _ _ kk).trans h)
  · cases h
end Go.Proofs.YtmjeeaemmbkioaaGreat

set_option linter.unusedVariables false
set_option linter.unusedSimpArgs false
set_option maxRecDepth 100000
set_option maxHeartbeats 2000000
namespace Go.Proofs.YtmjeeaemmbkioaaGreat
open Go Ev
def kp77_34d (i : Nat) : Option (List Nat) := Ev.look i [(2, [0, 1, 7, 8]), (100000, []), (400000, [4])]
noncomputable def Gg77_34d (f43 : YF43) (f : Nat) : Option Ev.Spec := Ev.look f [(43, spg43 f43)]
noncomputable def G77_34d (fuel : Nat) : Nat → Option Ev.Spec := Gg77_34d (F_symbol_Order_1 fuel)
noncomputable def S_slices_IndexFunc_api_Bitmap_api_Bitmap_34d_0 (fuel : Nat) (v : (List (Int × (Int × (List Int)))) × Int × Int) (c : ((List (Int × (Int × (List Int)))) × Int × Int) → Option Ans) (B : (Int → Option Ans) × (Unit → Option Ans)) : Option Ans := match v, B with
  | (x0, x1, x2), (ret, b) =>
   bif Decidable.decide (x2 < x1) then
      bif Decidable.decide ((0 : Int) ≤ x2 ∧ x2 < (↑x0.length : Int)) then
      (F_symbol_Order_1 fuel ((x0.getD x2.toNat ((0 : Int), (0 : Int), [])).fst) ((x0.getD x2.toNat ((0 : Int), (0 : Int), [])).snd.fst) ((x0.getD x2.toNat ((0 : Int), (0 : Int), [])).snd.snd)
         (fun y4 =>
           bif y4 then
            ret x2
           else
            c (x0, x1, Go.IntKind.i64.wrap (x2 + (1 : Int)))))
      else none
     else
      b ()
noncomputable def L_slices_IndexFunc_api_Bitmap_api_Bitmap_34d_0 (fuel : Nat) (v : (List (Int × (Int × (List Int)))) × Int × Int) (ret : (Int → Option Ans)) (b : (Unit → Option Ans)) : Option Ans := iter (S_slices_IndexFunc_api_Bitmap_api_Bitmap_34d_0 fuel) fuel v (ret, b)
noncomputable def J77_34d_0 (fuel : Nat) (i : Nat) : Option Ev.Blk := Ev.look i []
noncomputable def T77_34d_0 (v : (List (Int × (Int × (List Int)))) × Int × Int) : Ev.St := match v with | (x0, x1, x2) => ⟨[(0, .c (.sl (.pair (.int .i64) (.pair (.int .i64) (.sl (.int .u8)))) x0)), (1, .c (.clo 43 [])), (7, .c (.int .i64 x1)), (8, .c (.int .i64 x2))], [], 0, 0⟩
noncomputable def E77_34d_0 (K : Ev.Ex → Ev.St → Option Ans) : (Int → Option Ans) × (Unit → Option Ans) := ((fun v => match v with | x0 => K .ret ⟨[(4, .c (.int .i64 x0))], [], 0, 0⟩), (fun v => match v with | () => K .normal ⟨[], [], 0, 0⟩))
theorem S77_34d_0_okg (fuel : Nat) (f43 : YF43) (R : Ev.St → Option Ans) (K : Ev.Ex → Ev.St → Option Ans) (x0 : (List (Int × (Int × (List Int))))) (x1 : Int) (x2 : Int) : evalCode tab (Gg77_34d f43) (J77_34d_0 fuel) kp77_34d fuel (bodyOf 0 Tryz.f77) (T77_34d_0 (x0, x1, x2)) (lc kp77_34d 2 0 R K) = (fun (c : ((List (Int × (Int × (List Int)))) × Int × Int) → Option Ans) (B : (Int → Option Ans) × (Unit → Option Ans)) => match B with
  | (ret, b) =>
   bif Decidable.decide (x2 < x1) then
      bif Decidable.decide ((0 : Int) ≤ x2 ∧ x2 < (↑x0.length : Int)) then
      (f43 ((x0.getD x2.toNat ((0 : Int), (0 : Int), [])).fst) ((x0.getD x2.toNat ((0 : Int), (0 : Int), [])).snd.fst) ((x0.getD x2.toNat ((0 : Int), (0 : Int), [])).snd.snd)
         (fun y4 =>
           bif y4 then
            ret x2
           else
            c (x0, x1, Go.IntKind.i64.wrap (x2 + (1 : Int)))))
      else none
     else
      b ()) (fun v => R (T77_34d_0 v)) (E77_34d_0 K) := by
  kernel_rfl
theorem S77_34d_0_ok (fuel : Nat) (R : Ev.St → Option Ans) (K : Ev.Ex → Ev.St → Option Ans) (x0 : (List (Int × (Int × (List Int))))) (x1 : Int) (x2 : Int) : evalCode tab (G77_34d fuel) (J77_34d_0 fuel) kp77_34d fuel (bodyOf 0 Tryz.f77) (T77_34d_0 (x0, x1, x2)) (lc kp77_34d 2 0 R K) = S_slices_IndexFunc_api_Bitmap_api_Bitmap_34d_0 fuel (x0, x1, x2) (fun v => R (T77_34d_0 v)) (E77_34d_0 K) :=
  S77_34d_0_okg fuel (F_symbol_Order_1 fuel) R K x0 x1 x2
noncomputable def B77_34d_0 (fuel : Nat) : Ev.Blk := fun st K => match canonO (kp77_34d 2) st with
  | some s => (match s with
    | ⟨[(q0, .c (.sl (.pair (.int .i64) (.pair (.int .i64) (.sl (.int .u8)))) x0)), (q1, .c (.clo q2 [])), (q3, .c (.int .i64 x1)), (q4, .c (.int .i64 x2))], [], q5, q6⟩ => bif Nat.beq q0 0 && Nat.beq q1 1 && Nat.beq q2 43 && Nat.beq q3 7 && Nat.beq q4 8 && Nat.beq q5 0 && Nat.beq q6 0 then iter (S_slices_IndexFunc_api_Bitmap_api_Bitmap_34d_0 fuel) fuel (x0, x1, x2) (E77_34d_0 K) else none
    | _ => none)
  | none => none
theorem B77_34d_0_ok (fuel : Nat) (st : Ev.St) (K : Ev.Ex → Ev.St → Option Ans) (r : Ans) (h : B77_34d_0 fuel st K = some r) : evalCode tab (G77_34d fuel) (J77_34d_0 fuel) kp77_34d fuel (.block 0 (.loop (bodyOf 0 Tryz.f77))) st K = some r := by
  unfold B77_34d_0 at h
  split at h
  · rename_i s hs
    split at h
    · skip
      obtain ⟨hb, h⟩ := cond_some' h
      simp only [Bool.and_eq_true, Nat.beq_eq, decide_eq_true_eq] at hb
      obtain ⟨⟨⟨⟨⟨⟨rfl, rfl⟩, rfl⟩, rfl⟩, rfl⟩, rfl⟩, rfl⟩ := hb
      exact blk_loop (S := T77_34d_0) (ks := E77_34d_0) (step := S_slices_IndexFunc_api_Bitmap_api_Bitmap_34d_0 fuel) (v := (_, _, _)) (by kernel_rfl) (by kernel_rfl) (fun R K v => by obtain ⟨x0, x1, x2⟩ := v; exact S77_34d_0_ok fuel R K x0 x1 x2) hs h
    · cases h
  · cases h
noncomputable def J77_34d (fuel : Nat) (i : Nat) : Option Ev.Blk := Ev.look i [(100000, B77_34d_0 fuel)]
noncomputable def F_slices_IndexFunc_api_Bitmap_api_Bitmap_34d (fuel : Nat) (x0 : (List (Int × (Int × (List Int))))) (k0 : (Int) → Option Ans) : Option Ans :=
  (L_slices_IndexFunc_api_Bitmap_api_Bitmap_34d_0 fuel (x0, (↑x0.length : Int), (0 : Int))
    (fun ret0_0 =>
      k0 ret0_0)
    (fun () =>
      k0 ((-1 : Int))))
abbrev YF77_34d : Type := ((List (Int × (Int × (List Int))))) → ((Int) → Option Ans) → Option Ans
theorem F77_34d_eqg (fuel : Nat) (f43 : YF43) (x0 : (List (Int × (Int × (List Int))))) (k : Ev.Cont) : evalFn tab (Gg77_34d f43) (J77_34d fuel) kp77_34d fuel Tryz.f77 [.c (.sl (.pair (.int .i64) (.pair (.int .i64) (.sl (.int .u8)))) x0), .c (.clo 43 [])] [] k = (fun  (k0 : (Int) → Option Ans) =>
  (L_slices_IndexFunc_api_Bitmap_api_Bitmap_34d_0 fuel (x0, (↑x0.length : Int), (0 : Int))
    (fun ret0_0 =>
      k0 ret0_0)
    (fun () =>
      k0 ((-1 : Int))))) (fun r => match r with | r0 => k (.c (.int .i64 r0), [])) := by
  kernel_rfl
theorem F77_34d_eq (fuel : Nat) (x0 : (List (Int × (Int × (List Int))))) (k : Ev.Cont) : evalFn tab (G77_34d fuel) (J77_34d fuel) kp77_34d fuel Tryz.f77 [.c (.sl (.pair (.int .i64) (.pair (.int .i64) (.sl (.int .u8)))) x0), .c (.clo 43 [])] [] k = F_slices_IndexFunc_api_Bitmap_api_Bitmap_34d fuel x0 (fun r => match r with | r0 => k (.c (.int .i64 r0), [])) :=
  F77_34d_eqg fuel (F_symbol_Order_1 fuel) x0 k
theorem hG77_34d (fuel : Nat) : GOK Tryz.prog (G77_34d fuel) :=
  gok_cons ⟨ok43 fuel, enters_of Tryz.func43 (by kernel_rfl) rfl⟩ <|
  gok_nil
theorem B77_34d_0_blk (fuel : Nat) : BlkOK Tryz.prog Tryz.f77.ntmps (.block 0 (.loop (bodyOf 0 Tryz.f77))) (B77_34d_0 fuel) :=
  blk_of (blk_of_code tab_ok (hG77_34d fuel) mixed (J := J77_34d_0 fuel) (kp := kp77_34d) (fuel := fuel) (by kernel_rfl) (fun q hq => by
    rw [(by kernel_rfl : obl (J77_34d_0 fuel) (.block 0 (.loop (bodyOf 0 Tryz.f77))) = [])] at hq
    cases hq)) (B77_34d_0_ok fuel)
theorem fok77_34d (fuel : Nat) : FnOK Tryz.prog 77 (evalFn tab (G77_34d fuel) (J77_34d fuel) kp77_34d fuel Tryz.f77) :=
  fn_ok tab_ok (hG77_34d fuel) mixed Tryz.func77 (c := (Tryz.f77.body).getD .skip) rfl (fun q hq => by
    rw [(by kernel_rfl : obl (J77_34d fuel) ((Tryz.f77.body).getD .skip) = [(.block 0 (.loop (bodyOf 0 Tryz.f77)), B77_34d_0 fuel)])] at hq
    simp only [List.mem_cons, List.not_mem_nil, or_false] at hq
    subst hq
    · exact B77_34d_0_blk fuel)
noncomputable def mt77_34d : List Ev.SV → List Ev.Ob → Bool := fun args objs => match args, objs with
  | [.c (.sl (.pair (.int .i64) (.pair (.int .i64) (.sl (.int .u8)))) _), .c (.clo q0 [])], [] => Nat.beq q0 43
  | _, _ => false
noncomputable def spg77_34d (F : YF77_34d) : Ev.Spec := fun args objs k => match args, objs with
  | [.c (.sl (.pair (.int .i64) (.pair (.int .i64) (.sl (.int .u8)))) x0), .c (.clo q0 [])], [] => bif Nat.beq q0 43 then F x0 (fun r => match r with | r0 => k (.c (.int .i64 r0), [])) else none
  | _, _ => none
noncomputable def spec77_34d (fuel : Nat) : Ev.Spec := spg77_34d (F_slices_IndexFunc_api_Bitmap_api_Bitmap_34d fuel)
theorem ok77_34d (fuel : Nat) : FnOK Tryz.prog 77 (spec77_34d fuel) := by
  intro args objs kk r h
  unfold spec77_34d spg77_34d at h
  split at h
  · skip
    obtain ⟨hb, h⟩ := cond_some' h
    simp only [Bool.and_eq_true, Nat.beq_eq, decide_eq_true_eq] at hb
    obtain rfl := hb
    exact fok77_34d fuel _ _ kk r ((F77_34d_eq fuel _ kk).trans h)
  · cases h
end Go.Proofs.YtmjeeaemmbkioaaGreat

set_option linter.unusedVariables false
set_option linter.unusedSimpArgs false
set_option maxRecDepth 100000
set_option maxHeartbeats 2000000
namespace Go.Proofs.YtmjeeaemmbkioaaGreat
open Go Ev
def kp33_34d (i : Nat) : Option (List Nat) := Ev.look i []
noncomputable def Gg33_34d (f77_34d : YF77_34d) (f : Nat) : Option Ev.Spec := Ev.look f [(77, spg77_34d f77_34d)]
noncomputable def G33_34d (fuel : Nat) : Nat → Option Ev.Spec := Gg33_34d (F_slices_IndexFunc_api_Bitmap_api_Bitmap_34d fuel)
noncomputable def J33_34d (fuel : Nat) (i : Nat) : Option Ev.Blk := Ev.look i []
noncomputable def F_slices_ContainsFunc_api_Bitmap_api_Bitmap_34d (fuel : Nat) (x0 : (List (Int × (Int × (List Int))))) (k0 : (Bool) → Option Ans) : Option Ans :=
  (F_slices_IndexFunc_api_Bitmap_api_Bitmap_34d fuel (x0)
    (fun y2 =>
      k0 (Decidable.decide (y2 ≥ (0 : Int)))))
abbrev YF33_34d : Type := ((List (Int × (Int × (List Int))))) → ((Bool) → Option Ans) → Option Ans
theorem F33_34d_eqg (fuel : Nat) (f77_34d : YF77_34d) (x0 : (List (Int × (Int × (List Int))))) (k : Ev.Cont) : evalFn tab (Gg33_34d f77_34d) (J33_34d fuel) kp33_34d fuel Tryz.f33 [.c (.sl (.pair (.int .i64) (.pair (.int .i64) (.sl (.int .u8)))) x0), .c (.clo 43 [])] [] k = (fun  (k0 : (Bool) → Option Ans) =>
  (f77_34d (x0)
    (fun y2 =>
      k0 (Decidable.decide (y2 ≥ (0 : Int)))))) (fun r => match r with | r0 => k (.c (.bool r0), [])) := by
  kernel_rfl
theorem F33_34d_eq (fuel : Nat) (x0 : (List (Int × (Int × (List Int))))) (k : Ev.Cont) : evalFn tab (G33_34d fuel) (J33_34d fuel) kp33_34d fuel Tryz.f33 [.c (.sl (.pair (.int .i64) (.pair (.int .i64) (.sl (.int .u8)))) x0), .c (.clo 43 [])] [] k = F_slices_ContainsFunc_api_Bitmap_api_Bitmap_34d fuel x0 (fun r => match r with | r0 => k (.c (.bool r0), [])) :=
  F33_34d_eqg fuel (F_slices_IndexFunc_api_Bitmap_api_Bitmap_34d fuel) x0 k
theorem hG33_34d (fuel : Nat) : GOK Tryz.prog (G33_34d fuel) :=
  gok_cons ⟨ok77_34d fuel, enters_of Tryz.func77 (by kernel_rfl) rfl⟩ <|
  gok_nil
theorem fok33_34d (fuel : Nat) : FnOK Tryz.prog 33 (evalFn tab (G33_34d fuel) (J33_34d fuel) kp33_34d fuel Tryz.f33) :=
  fn_ok tab_ok (hG33_34d fuel) mixed Tryz.func33 (c := (Tryz.f33.body).getD .skip) rfl (fun q hq => by
    rw [(by kernel_rfl : obl (J33_34d fuel) ((Tryz.f33.body).getD .skip) = [])] at hq
    cases hq)
noncomputable def mt33_34d : List Ev.SV → List Ev.Ob → Bool := fun args objs => match args, objs with
  | [.c (.sl (.pair (.int .i64) (.pair (.int .i64) (.sl (.int .u8)))) _), .c (.clo q0 [])], [] => Nat.beq q0 43
  | _, _ => false
noncomputable def spg33_34d (F : YF33_34d) : Ev.Spec := fun args objs k => match args, objs with
  | [.c (.sl (.pair (.int .i64) (.pair (.int .i64) (.sl (.int .u8)))) x0), .c (.clo q0 [])], [] => bif Nat.beq q0 43 then F x0 (fun r => match r with | r0 => k (.c (.bool r0), [])) else none
  | _, _ => none
noncomputable def spec33_34d (fuel : Nat) : Ev.Spec := spg33_34d (F_slices_ContainsFunc_api_Bitmap_api_Bitmap_34d fuel)
theorem ok33_34d (fuel : Nat) : FnOK Tryz.prog 33 (spec33_34d fuel) := by
  intro args objs kk r h
  unfold spec33_34d spg33_34d at h
  split at h
  · skip
    obtain ⟨hb, h⟩ := cond_some' h
    simp only [Bool.and_eq_true, Nat.beq_eq, decide_eq_true_eq] at hb
    obtain rfl := hb
    exact fok33_34d fuel _ _ kk r ((F33_34d_eq fuel _ kk).trans h)
  · cases h
end Go.Proofs.YtmjeeaemmbkioaaGreat

set_option linter.unusedVariables false
set_option linter.unusedSimpArgs false
set_option maxRecDepth 100000
set_option maxHeartbeats 2000000
namespace Go.Proofs.YtmjeeaemmbkioaaGreat
open Go Ev
def kp45_21d (i : Nat) : Option (List Nat) := Ev.look i [(200001, [2]), (200002, [2]), (200003, [2])]
noncomputable def Gg45_21d (f : Nat) : Option Ev.Spec := Ev.look f []
noncomputable def G45_21d (fuel : Nat) : Nat → Option Ev.Spec := Gg45_21d
noncomputable def J45_21d (fuel : Nat) (i : Nat) : Option Ev.Blk := Ev.look i []
noncomputable def F_symbol_Order_2_21d (fuel : Nat) (x0 : Int) (x1 : Int) (x2 : (List (Int × (Int × (List Int))))) (k0 : (Int × (List (Int × (Int × (List Int))))) → Option Ans) : Option Ans :=
  bif Decidable.decide ((0 : Int) ≤ x0 ∧ x0 < (↑x2.length : Int)) then
  bif Decidable.decide ((0 : Int) ≤ x1 ∧ x1 < (↑x2.length : Int)) then
   bif (x2.getD x0.toNat ((0 : Int), (0 : Int), [])).snd.fst != (x2.getD x1.toNat ((0 : Int), (0 : Int), [])).snd.fst then
     bif Decidable.decide ((0 : Int) ≤ x0 ∧ x0 < (↑x2.length : Int)) then
     bif Decidable.decide ((0 : Int) ≤ x1 ∧ x1 < (↑x2.length : Int)) then
      k0 (Go.IntKind.i64.wrap ((x2.getD x0.toNat ((0 : Int), (0 : Int), [])).snd.fst - (x2.getD x1.toNat ((0 : Int), (0 : Int), [])).snd.fst), x2)
      else none
     else none
    else
     bif Decidable.decide ((0 : Int) ≤ x0 ∧ x0 < (↑x2.length : Int)) then
     bif Decidable.decide ((0 : Int) ≤ x1 ∧ x1 < (↑x2.length : Int)) then
      k0 (Go.IntKind.i64.wrap ((x2.getD x0.toNat ((0 : Int), (0 : Int), [])).fst - (x2.getD x1.toNat ((0 : Int), (0 : Int), [])).fst), x2)
      else none
     else none
   else none
  else none
abbrev YF45_21d : Type := (Int) → (Int) → ((List (Int × (Int × (List Int))))) → ((Int × (List (Int × (Int × (List Int))))) → Option Ans) → Option Ans
theorem F45_21d_eq (fuel : Nat) (x0 : Int) (x1 : Int) (x2 : (List (Int × (Int × (List Int))))) (k : Ev.Cont) : evalFn tab (G45_21d fuel) (J45_21d fuel) kp45_21d fuel Tryz.f45 [.c (.int .i64 x0), .c (.int .i64 x1), .c (.ptr 0 0)] [.cells 35 [.sl (.pair (.int .i64) (.pair (.int .i64) (.sl (.int .u8)))) x2]] k = F_symbol_Order_2_21d fuel x0 x1 x2 (fun r => match r with | (r0, r1) => k (.c (.int .i64 r0), [.cells 35 [.sl (.pair (.int .i64) (.pair (.int .i64) (.sl (.int .u8)))) r1]])) := by
  kernel_rfl
theorem hG45_21d (fuel : Nat) : GOK Tryz.prog (G45_21d fuel) :=
  gok_nil
theorem fok45_21d (fuel : Nat) : FnOK Tryz.prog 45 (evalFn tab (G45_21d fuel) (J45_21d fuel) kp45_21d fuel Tryz.f45) :=
  fn_ok tab_ok (hG45_21d fuel) mixed Tryz.func45 (c := (Tryz.f45.body).getD .skip) rfl (fun q hq => by
    rw [(by kernel_rfl : obl (J45_21d fuel) ((Tryz.f45.body).getD .skip) = [])] at hq
    cases hq)
noncomputable def mt45_21d : List Ev.SV → List Ev.Ob → Bool := fun args objs => match args, objs with
  | [.c (.int .i64 _), .c (.int .i64 _), .c (.ptr q0 q1)], [.cells q2 [.sl (.pair (.int .i64) (.pair (.int .i64) (.sl (.int .u8)))) _]] => Nat.beq q0 0 && Nat.beq q1 0 && Nat.beq q2 35
  | _, _ => false
noncomputable def spg45_21d (F : YF45_21d) : Ev.Spec := fun args objs k => match args, objs with
  | [.c (.int .i64 x0), .c (.int .i64 x1), .c (.ptr q0 q1)], [.cells q2 [.sl (.pair (.int .i64) (.pair (.int .i64) (.sl (.int .u8)))) x2]] => bif Nat.beq q0 0 && Nat.beq q1 0 && Nat.beq q2 35 then F x0 x1 x2 (fun r => match r with | (r0, r1) => k (.c (.int .i64 r0), [.cells 35 [.sl (.pair (.int .i64) (.pair (.int .i64) (.sl (.int .u8)))) r1]])) else none
  | _, _ => none
noncomputable def spec45_21d (fuel : Nat) : Ev.Spec := spg45_21d (F_symbol_Order_2_21d fuel)
theorem ok45_21d (fuel : Nat) : FnOK Tryz.prog 45 (spec45_21d fuel) := by
  intro args objs kk r h
  unfold spec45_21d spg45_21d at h
  split at h
  · skip
    obtain ⟨hb, h⟩ := cond_some' h
    simp only [Bool.and_eq_true, Nat.beq_eq, decide_eq_true_eq] at hb
    obtain ⟨⟨rfl, rfl⟩, rfl⟩ := hb
    exact fok45_21d fuel _ _ kk r ((F45_21d_eq fuel _ _ _ kk).trans h)
  · cases h
end Go.Proofs.YtmjeeaemmbkioaaGreat

