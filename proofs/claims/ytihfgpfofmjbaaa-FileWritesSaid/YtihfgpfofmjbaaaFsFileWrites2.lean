/- What the functions that FileWrites reaches do: their typed texts, each with the proof that the machine does it. No condition. -/
import Derived.Test.YtihfgpfofmjbaaaEvX
import Derived.Test.YtihfgpfofmjbaaaFsFileWrites1
set_option linter.unusedVariables false
set_option linter.unusedSimpArgs false
set_option linter.unusedVariables false
set_option linter.unusedSimpArgs false
set_option maxRecDepth 100000
set_option maxHeartbeats 2000000
namespace Go.Proofs.Ytihfgpfofmjbaaa
open Go Ev
def kp140 (i : Nat) : Option (List Nat) := Ev.look i [(3, [0, 4, 13, 14, 15]), (8, [0, 4, 5, 6, 13, 14, 15, 40, 41, 42]), (100000, [4]), (100002, [0, 4, 5, 6, 13, 14, 15]), (200005, [0, 6]), (200011, [0, 4, 6]), (400000, [2, 3]), (400002, [2, 3])]
noncomputable def Gg140 (f64 : YF64) (f194 : YF194) (f : Nat) : Option Ev.Spec := Ev.look f [(64, spg64 f64), (194, spg194 f194)]
noncomputable def G140 (fuel : Nat) : Nat → Option Ev.Spec := Gg140 (F_ref12_Valid fuel) (F_ref12_find fuel)
noncomputable def S_ref12_kept_2 (fuel : Nat) (v : (List (Int × (Int × (Int × ((List Int) × ((List Bool) × (List Int))))))) × Int × (List (Int × (Int × (Int × ((List Int) × ((List Bool) × (List Int))))))) × Int × Int × (List Int) × Int × Int × (List Bool) × Int × Int × Int × (List Int) × (List Bool) × (List Int)) (c : ((List (Int × (Int × (Int × ((List Int) × ((List Bool) × (List Int))))))) × Int × (List (Int × (Int × (Int × ((List Int) × ((List Bool) × (List Int))))))) × Int × Int × (List Int) × Int × Int × (List Bool) × Int × Int × Int × (List Int) × (List Bool) × (List Int)) → Option Ans) (B : (Int × (List Bool) → Option Ans) × ((List (Int × (Int × (Int × ((List Int) × ((List Bool) × (List Int))))))) × Int × (List (Int × (Int × (Int × ((List Int) × ((List Bool) × (List Int))))))) × Int × Int × (List Bool) × Int × Int × Int × (List Int) × (List Bool) × (List Int) → Option Ans)) : Option Ans := match v, B with
  | (x0, x1, x2, x3, x4, x5, x6, x7, x8, x9, x10, x11, x12, x13, x14), (ret, b) =>
   bif Decidable.decide (x7 < x6) then
      bif Decidable.decide ((0 : Int) ≤ x7 ∧ x7 < (↑x5.length : Int)) then
      bif Decidable.decide ((0 : Int) ≤ Ev.loOf Option.none ∧ Ev.loOf Option.none ≤ Ev.hiOf (Option.some x1) (↑x0.length : Int) ∧ Ev.hiOf (Option.some x1) (↑x0.length : Int) ≤ (↑x0.length : Int)) then
       (F_ref12_find fuel (List.take (Ev.hiOf (Option.some x1) (↑x0.length : Int) - Ev.loOf Option.none).toNat (List.drop (Ev.loOf Option.none).toNat x0)) (x5.getD x7.toNat (0 : Int))
          (fun y5 =>
            bif Decidable.decide (y5 < (0 : Int)) then
             ret (x1, [])
            else
             bif Decidable.decide ((0 : Int) ≤ y5 ∧ y5 < (↑x8.length : Int)) then
             bif !x8.getD y5.toNat Bool.false then
               ret (x1, [])
              else
               bif Decidable.decide ((0 : Int) ≤ y5 ∧ y5 < (↑x0.length : Int)) then
               bif (x0.getD y5.toNat ((0 : Int), (0 : Int), (0 : Int), [], [], [])).snd.snd.fst != (0 : Int) then
                 bif Decidable.decide ((0 : Int) ≤ y5 ∧ y5 < (↑x0.length : Int)) then
                 bif (x0.getD y5.toNat ((0 : Int), (0 : Int), (0 : Int), [], [], [])).snd.snd.fst != x11 then
                   ret (x1, [])
                  else
                   bif Decidable.decide ((0 : Int) ≤ x7 ∧ x7 < (↑x13.length : Int)) then
                   bif Decidable.decide ((0 : Int) ≤ y5 ∧ y5 < (↑x8.length : Int)) then
                    c (x0, x1, x2, x3, x4, x5, x6, Go.IntKind.i64.wrap (x7 + (1 : Int)), x8.set y5.toNat (x13.getD x7.toNat Bool.false), x9, x10, x11, x12, x13, x14)
                    else none
                   else none
                 else none
                else
                 bif Decidable.decide ((0 : Int) ≤ x7 ∧ x7 < (↑x13.length : Int)) then
                 bif Decidable.decide ((0 : Int) ≤ y5 ∧ y5 < (↑x8.length : Int)) then
                  c (x0, x1, x2, x3, x4, x5, x6, Go.IntKind.i64.wrap (x7 + (1 : Int)), x8.set y5.toNat (x13.getD x7.toNat Bool.false), x9, x10, x11, x12, x13, x14)
                  else none
                 else none
               else none
             else none))
       else none
      else none
     else
      b (x0, x1, x2, x3, x4, x8, x9, x10, x11, x12, x13, x14)
noncomputable def L_ref12_kept_2 (fuel : Nat) (v : (List (Int × (Int × (Int × ((List Int) × ((List Bool) × (List Int))))))) × Int × (List (Int × (Int × (Int × ((List Int) × ((List Bool) × (List Int))))))) × Int × Int × (List Int) × Int × Int × (List Bool) × Int × Int × Int × (List Int) × (List Bool) × (List Int)) (ret : (Int × (List Bool) → Option Ans)) (b : ((List (Int × (Int × (Int × ((List Int) × ((List Bool) × (List Int))))))) × Int × (List (Int × (Int × (Int × ((List Int) × ((List Bool) × (List Int))))))) × Int × Int × (List Bool) × Int × Int × Int × (List Int) × (List Bool) × (List Int) → Option Ans)) : Option Ans := iter (S_ref12_kept_2 fuel) fuel v (ret, b)
noncomputable def J140_2 (fuel : Nat) (i : Nat) : Option Ev.Blk := Ev.look i []
noncomputable def T140_2 (v : (List (Int × (Int × (Int × ((List Int) × ((List Bool) × (List Int))))))) × Int × (List (Int × (Int × (Int × ((List Int) × ((List Bool) × (List Int))))))) × Int × Int × (List Int) × Int × Int × (List Bool) × Int × Int × Int × (List Int) × (List Bool) × (List Int)) : Ev.St := match v with | (x0, x1, x2, x3, x4, x5, x6, x7, x8, x9, x10, x11, x12, x13, x14) => ⟨[(0, .c (.sl (.pair (.int .i64) (.pair (.int .i64) (.pair (.int .i64) (.pair (.sl (.int .i64)) (.pair (.sl .bool) (.sl (.int .u8))))))) x0)), (4, .c (.own 0)), (5, .c (.int .i64 x1)), (6, .c (.ptr 1 0)), (13, .c (.sl (.pair (.int .i64) (.pair (.int .i64) (.pair (.int .i64) (.pair (.sl (.int .i64)) (.pair (.sl .bool) (.sl (.int .u8))))))) x2)), (14, .c (.int .i64 x3)), (15, .c (.int .i64 x4)), (40, .c (.sl (.int .i64) x5)), (41, .c (.int .i64 x6)), (42, .c (.int .i64 x7))], [(0, .vec 4 .bool x8 true), (1, .cells 103 [.int .i64 x9, .int .i64 x10, .int .i64 x11, .sl (.int .i64) x12, .sl .bool x13, .sl (.int .u8) x14])], 2, 0⟩
noncomputable def E140_2 (K : Ev.Ex → Ev.St → Option Ans) : (Int × (List Bool) → Option Ans) × ((List (Int × (Int × (Int × ((List Int) × ((List Bool) × (List Int))))))) × Int × (List (Int × (Int × (Int × ((List Int) × ((List Bool) × (List Int))))))) × Int × Int × (List Bool) × Int × Int × Int × (List Int) × (List Bool) × (List Int) → Option Ans) := ((fun v => match v with | (x0, x1) => K .ret ⟨[(2, .c (.own 0)), (3, .c (.int .i64 x0))], [(0, .vec 4 .bool x1 true)], 1, 0⟩), (fun v => match v with | (x0, x1, x2, x3, x4, x5, x6, x7, x8, x9, x10, x11) => K .normal ⟨[(0, .c (.sl (.pair (.int .i64) (.pair (.int .i64) (.pair (.int .i64) (.pair (.sl (.int .i64)) (.pair (.sl .bool) (.sl (.int .u8))))))) x0)), (4, .c (.own 0)), (5, .c (.int .i64 x1)), (6, .c (.ptr 1 0)), (13, .c (.sl (.pair (.int .i64) (.pair (.int .i64) (.pair (.int .i64) (.pair (.sl (.int .i64)) (.pair (.sl .bool) (.sl (.int .u8))))))) x2)), (14, .c (.int .i64 x3)), (15, .c (.int .i64 x4))], [(0, .vec 4 .bool x5 true), (1, .cells 103 [.int .i64 x6, .int .i64 x7, .int .i64 x8, .sl (.int .i64) x9, .sl .bool x10, .sl (.int .u8) x11])], 2, 0⟩))
theorem S140_2_okg (fuel : Nat) (f64 : YF64) (f194 : YF194) (R : Ev.St → Option Ans) (K : Ev.Ex → Ev.St → Option Ans) (x0 : (List (Int × (Int × (Int × ((List Int) × ((List Bool) × (List Int)))))))) (x1 : Int) (x2 : (List (Int × (Int × (Int × ((List Int) × ((List Bool) × (List Int)))))))) (x3 : Int) (x4 : Int) (x5 : (List Int)) (x6 : Int) (x7 : Int) (x8 : (List Bool)) (x9 : Int) (x10 : Int) (x11 : Int) (x12 : (List Int)) (x13 : (List Bool)) (x14 : (List Int)) : evalCode tab (Gg140 f64 f194) (J140_2 fuel) kp140 fuel (bodyOf 2 Try.f140) (T140_2 (x0, x1, x2, x3, x4, x5, x6, x7, x8, x9, x10, x11, x12, x13, x14)) (lc kp140 8 2 R K) = (fun (c : ((List (Int × (Int × (Int × ((List Int) × ((List Bool) × (List Int))))))) × Int × (List (Int × (Int × (Int × ((List Int) × ((List Bool) × (List Int))))))) × Int × Int × (List Int) × Int × Int × (List Bool) × Int × Int × Int × (List Int) × (List Bool) × (List Int)) → Option Ans) (B : (Int × (List Bool) → Option Ans) × ((List (Int × (Int × (Int × ((List Int) × ((List Bool) × (List Int))))))) × Int × (List (Int × (Int × (Int × ((List Int) × ((List Bool) × (List Int))))))) × Int × Int × (List Bool) × Int × Int × Int × (List Int) × (List Bool) × (List Int) → Option Ans)) => match B with
  | (ret, b) =>
   bif Decidable.decide (x7 < x6) then
      bif Decidable.decide ((0 : Int) ≤ x7 ∧ x7 < (↑x5.length : Int)) then
      bif Decidable.decide ((0 : Int) ≤ Ev.loOf Option.none ∧ Ev.loOf Option.none ≤ Ev.hiOf (Option.some x1) (↑x0.length : Int) ∧ Ev.hiOf (Option.some x1) (↑x0.length : Int) ≤ (↑x0.length : Int)) then
       (f194 (List.take (Ev.hiOf (Option.some x1) (↑x0.length : Int) - Ev.loOf Option.none).toNat (List.drop (Ev.loOf Option.none).toNat x0)) (x5.getD x7.toNat (0 : Int))
          (fun y5 =>
            bif Decidable.decide (y5 < (0 : Int)) then
             ret (x1, [])
            else
             bif Decidable.decide ((0 : Int) ≤ y5 ∧ y5 < (↑x8.length : Int)) then
             bif !x8.getD y5.toNat Bool.false then
               ret (x1, [])
              else
               bif Decidable.decide ((0 : Int) ≤ y5 ∧ y5 < (↑x0.length : Int)) then
               bif (x0.getD y5.toNat ((0 : Int), (0 : Int), (0 : Int), [], [], [])).snd.snd.fst != (0 : Int) then
                 bif Decidable.decide ((0 : Int) ≤ y5 ∧ y5 < (↑x0.length : Int)) then
                 bif (x0.getD y5.toNat ((0 : Int), (0 : Int), (0 : Int), [], [], [])).snd.snd.fst != x11 then
                   ret (x1, [])
                  else
                   bif Decidable.decide ((0 : Int) ≤ x7 ∧ x7 < (↑x13.length : Int)) then
                   bif Decidable.decide ((0 : Int) ≤ y5 ∧ y5 < (↑x8.length : Int)) then
                    c (x0, x1, x2, x3, x4, x5, x6, Go.IntKind.i64.wrap (x7 + (1 : Int)), x8.set y5.toNat (x13.getD x7.toNat Bool.false), x9, x10, x11, x12, x13, x14)
                    else none
                   else none
                 else none
                else
                 bif Decidable.decide ((0 : Int) ≤ x7 ∧ x7 < (↑x13.length : Int)) then
                 bif Decidable.decide ((0 : Int) ≤ y5 ∧ y5 < (↑x8.length : Int)) then
                  c (x0, x1, x2, x3, x4, x5, x6, Go.IntKind.i64.wrap (x7 + (1 : Int)), x8.set y5.toNat (x13.getD x7.toNat Bool.false), x9, x10, x11, x12, x13, x14)
                  else none
                 else none
               else none
             else none))
       else none
      else none
     else
      b (x0, x1, x2, x3, x4, x8, x9, x10, x11, x12, x13, x14)) (fun v => R (T140_2 v)) (E140_2 K) := by
  kernel_rfl
theorem S140_2_ok (fuel : Nat) (R : Ev.St → Option Ans) (K : Ev.Ex → Ev.St → Option Ans) (x0 : (List (Int × (Int × (Int × ((List Int) × ((List Bool) × (List Int)))))))) (x1 : Int) (x2 : (List (Int × (Int × (Int × ((List Int) × ((List Bool) × (List Int)))))))) (x3 : Int) (x4 : Int) (x5 : (List Int)) (x6 : Int) (x7 : Int) (x8 : (List Bool)) (x9 : Int) (x10 : Int) (x11 : Int) (x12 : (List Int)) (x13 : (List Bool)) (x14 : (List Int)) : evalCode tab (G140 fuel) (J140_2 fuel) kp140 fuel (bodyOf 2 Try.f140) (T140_2 (x0, x1, x2, x3, x4, x5, x6, x7, x8, x9, x10, x11, x12, x13, x14)) (lc kp140 8 2 R K) = S_ref12_kept_2 fuel (x0, x1, x2, x3, x4, x5, x6, x7, x8, x9, x10, x11, x12, x13, x14) (fun v => R (T140_2 v)) (E140_2 K) :=
  S140_2_okg fuel (F_ref12_Valid fuel) (F_ref12_find fuel) R K x0 x1 x2 x3 x4 x5 x6 x7 x8 x9 x10 x11 x12 x13 x14
noncomputable def B140_2 (fuel : Nat) : Ev.Blk := fun st K => match canonO (kp140 8) st with
  | some s => (match s with
    | ⟨[(q0, .c (.sl (.pair (.int .i64) (.pair (.int .i64) (.pair (.int .i64) (.pair (.sl (.int .i64)) (.pair (.sl .bool) (.sl (.int .u8))))))) x0)), (q1, .c (.own q2)), (q3, .c (.int .i64 x1)), (q4, .c (.ptr q5 q6)), (q7, .c (.sl (.pair (.int .i64) (.pair (.int .i64) (.pair (.int .i64) (.pair (.sl (.int .i64)) (.pair (.sl .bool) (.sl (.int .u8))))))) x2)), (q8, .c (.int .i64 x3)), (q9, .c (.int .i64 x4)), (q10, .c (.sl (.int .i64) x5)), (q11, .c (.int .i64 x6)), (q12, .c (.int .i64 x7))], [(q13, .vec q14 .bool x8 true), (q15, .cells q16 [.int .i64 x9, .int .i64 x10, .int .i64 x11, .sl (.int .i64) x12, .sl .bool x13, .sl (.int .u8) x14])], q17, q18⟩ => bif Nat.beq q0 0 && Nat.beq q1 4 && Nat.beq q2 0 && Nat.beq q3 5 && Nat.beq q4 6 && Nat.beq q5 1 && Nat.beq q6 0 && Nat.beq q7 13 && Nat.beq q8 14 && Nat.beq q9 15 && Nat.beq q10 40 && Nat.beq q11 41 && Nat.beq q12 42 && Nat.beq q13 0 && Nat.beq q14 4 && Nat.beq q15 1 && Nat.beq q16 103 && Nat.beq q17 2 && Nat.beq q18 0 then iter (S_ref12_kept_2 fuel) fuel (x0, x1, x2, x3, x4, x5, x6, x7, x8, x9, x10, x11, x12, x13, x14) (E140_2 K) else none
    | _ => none)
  | none => none
theorem B140_2_ok (fuel : Nat) (st : Ev.St) (K : Ev.Ex → Ev.St → Option Ans) (r : Ans) (h : B140_2 fuel st K = some r) : evalCode tab (G140 fuel) (J140_2 fuel) kp140 fuel (.block 2 (.loop (bodyOf 2 Try.f140))) st K = some r := by
  unfold B140_2 at h
  split at h
  · rename_i s hs
    split at h
    · skip
      obtain ⟨hb, h⟩ := cond_some' h
      simp only [Bool.and_eq_true, Nat.beq_eq, decide_eq_true_eq] at hb
      obtain ⟨⟨⟨⟨⟨⟨⟨⟨⟨⟨⟨⟨⟨⟨⟨⟨⟨⟨rfl, rfl⟩, rfl⟩, rfl⟩, rfl⟩, rfl⟩, rfl⟩, rfl⟩, rfl⟩, rfl⟩, rfl⟩, rfl⟩, rfl⟩, rfl⟩, rfl⟩, rfl⟩, rfl⟩, rfl⟩, rfl⟩ := hb
      exact blk_loop (S := T140_2) (ks := E140_2) (step := S_ref12_kept_2 fuel) (v := (_, _, _, _, _, _, _, _, _, _, _, _, _, _, _)) (by kernel_rfl) (by kernel_rfl) (fun R K v => by obtain ⟨x0, x1, x2, x3, x4, x5, x6, x7, x8, x9, x10, x11, x12, x13, x14⟩ := v; exact S140_2_ok fuel R K x0 x1 x2 x3 x4 x5 x6 x7 x8 x9 x10 x11 x12 x13 x14) hs h
    · cases h
  · cases h
noncomputable def S_ref12_kept_0 (fuel : Nat) (v : (List (Int × (Int × (Int × ((List Int) × ((List Bool) × (List Int))))))) × (List (Int × (Int × (Int × ((List Int) × ((List Bool) × (List Int))))))) × Int × Int × (List Bool)) (c : ((List (Int × (Int × (Int × ((List Int) × ((List Bool) × (List Int))))))) × (List (Int × (Int × (Int × ((List Int) × ((List Bool) × (List Int))))))) × Int × Int × (List Bool)) → Option Ans) (B : (Int × (List Bool) → Option Ans) × ((List Bool) → Option Ans)) : Option Ans := match v, B with
  | (x0, x1, x2, x3, x4), (ret, b) =>
   bif Decidable.decide (x3 < x2) then
      bif Decidable.decide ((0 : Int) ≤ x3 ∧ x3 < (↑x1.length : Int)) then
      (F_ref12_Valid fuel ((x1.getD x3.toNat ((0 : Int), (0 : Int), (0 : Int), [], [], [])).fst) ((x1.getD x3.toNat ((0 : Int), (0 : Int), (0 : Int), [], [], [])).snd.fst) ((x1.getD x3.toNat ((0 : Int), (0 : Int), (0 : Int), [], [], [])).snd.snd.fst) ((x1.getD x3.toNat ((0 : Int), (0 : Int), (0 : Int), [], [], [])).snd.snd.snd.fst) ((x1.getD x3.toNat ((0 : Int), (0 : Int), (0 : Int), [], [], [])).snd.snd.snd.snd.fst) ((x1.getD x3.toNat ((0 : Int), (0 : Int), (0 : Int), [], [], [])).snd.snd.snd.snd.snd)
         (fun y4 =>
           bif !y4 then
            ret (x3, [])
           else
            bif Decidable.decide (x3 > (0 : Int)) then
             bif Decidable.decide ((0 : Int) ≤ Go.IntKind.i64.wrap (x3 - (1 : Int)) ∧ Go.IntKind.i64.wrap (x3 - (1 : Int)) < (↑x0.length : Int)) then
             bif Decidable.decide ((x1.getD x3.toNat ((0 : Int), (0 : Int), (0 : Int), [], [], [])).fst ≤ (x0.getD (Go.IntKind.i64.wrap (x3 - (1 : Int))).toNat ((0 : Int), (0 : Int), (0 : Int), [], [], [])).fst) then
               ret (x3, [])
              else
               (L_ref12_kept_2 fuel (x0, x3, x1, x2, x3, (x1.getD x3.toNat ((0 : Int), (0 : Int), (0 : Int), [], [], [])).snd.snd.snd.fst, (↑(List.length (x1.getD x3.toNat ((0 : Int), (0 : Int), (0 : Int), [], [], [])).snd.snd.snd.fst) : Int), (0 : Int), x4, (x1.getD x3.toNat ((0 : Int), (0 : Int), (0 : Int), [], [], [])).fst, (x1.getD x3.toNat ((0 : Int), (0 : Int), (0 : Int), [], [], [])).snd.fst, (x1.getD x3.toNat ((0 : Int), (0 : Int), (0 : Int), [], [], [])).snd.snd.fst, (x1.getD x3.toNat ((0 : Int), (0 : Int), (0 : Int), [], [], [])).snd.snd.snd.fst, (x1.getD x3.toNat ((0 : Int), (0 : Int), (0 : Int), [], [], [])).snd.snd.snd.snd.fst, (x1.getD x3.toNat ((0 : Int), (0 : Int), (0 : Int), [], [], [])).snd.snd.snd.snd.snd)
                 (fun (ret2_0, ret2_1) =>
                   ret (ret2_0, ret2_1))
                 (fun (b2_0, b2_1, b2_2, b2_3, b2_4, b2_5, b2_6, b2_7, b2_8, b2_9, b2_10, b2_11) =>
                   bif Decidable.decide ((0 : Int) ≤ (↑b2_9.length : Int) ∧ (↑b2_9.length : Int) < (↑b2_10.length : Int)) then
                   bif Decidable.decide ((0 : Int) ≤ b2_1 ∧ b2_1 < (↑b2_5.length : Int)) then
                    c (b2_0, b2_2, b2_3, Go.IntKind.i64.wrap (b2_4 + (1 : Int)), b2_5.set b2_1.toNat (b2_10.getD (↑b2_9.length : Int).toNat Bool.false))
                    else none
                   else none))
             else none
            else
             (L_ref12_kept_2 fuel (x0, x3, x1, x2, x3, (x1.getD x3.toNat ((0 : Int), (0 : Int), (0 : Int), [], [], [])).snd.snd.snd.fst, (↑(List.length (x1.getD x3.toNat ((0 : Int), (0 : Int), (0 : Int), [], [], [])).snd.snd.snd.fst) : Int), (0 : Int), x4, (x1.getD x3.toNat ((0 : Int), (0 : Int), (0 : Int), [], [], [])).fst, (x1.getD x3.toNat ((0 : Int), (0 : Int), (0 : Int), [], [], [])).snd.fst, (x1.getD x3.toNat ((0 : Int), (0 : Int), (0 : Int), [], [], [])).snd.snd.fst, (x1.getD x3.toNat ((0 : Int), (0 : Int), (0 : Int), [], [], [])).snd.snd.snd.fst, (x1.getD x3.toNat ((0 : Int), (0 : Int), (0 : Int), [], [], [])).snd.snd.snd.snd.fst, (x1.getD x3.toNat ((0 : Int), (0 : Int), (0 : Int), [], [], [])).snd.snd.snd.snd.snd)
               (fun (ret2_0, ret2_1) =>
                 ret (ret2_0, ret2_1))
               (fun (b2_0, b2_1, b2_2, b2_3, b2_4, b2_5, b2_6, b2_7, b2_8, b2_9, b2_10, b2_11) =>
                 bif Decidable.decide ((0 : Int) ≤ (↑b2_9.length : Int) ∧ (↑b2_9.length : Int) < (↑b2_10.length : Int)) then
                 bif Decidable.decide ((0 : Int) ≤ b2_1 ∧ b2_1 < (↑b2_5.length : Int)) then
                  c (b2_0, b2_2, b2_3, Go.IntKind.i64.wrap (b2_4 + (1 : Int)), b2_5.set b2_1.toNat (b2_10.getD (↑b2_9.length : Int).toNat Bool.false))
                  else none
                 else none))))
      else none
     else
      b x4
noncomputable def L_ref12_kept_0 (fuel : Nat) (v : (List (Int × (Int × (Int × ((List Int) × ((List Bool) × (List Int))))))) × (List (Int × (Int × (Int × ((List Int) × ((List Bool) × (List Int))))))) × Int × Int × (List Bool)) (ret : (Int × (List Bool) → Option Ans)) (b : ((List Bool) → Option Ans)) : Option Ans := iter (S_ref12_kept_0 fuel) fuel v (ret, b)
noncomputable def J140_0 (fuel : Nat) (i : Nat) : Option Ev.Blk := Ev.look i [(100002, B140_2 fuel)]
noncomputable def T140_0 (v : (List (Int × (Int × (Int × ((List Int) × ((List Bool) × (List Int))))))) × (List (Int × (Int × (Int × ((List Int) × ((List Bool) × (List Int))))))) × Int × Int × (List Bool)) : Ev.St := match v with | (x0, x1, x2, x3, x4) => ⟨[(0, .c (.sl (.pair (.int .i64) (.pair (.int .i64) (.pair (.int .i64) (.pair (.sl (.int .i64)) (.pair (.sl .bool) (.sl (.int .u8))))))) x0)), (4, .c (.own 0)), (13, .c (.sl (.pair (.int .i64) (.pair (.int .i64) (.pair (.int .i64) (.pair (.sl (.int .i64)) (.pair (.sl .bool) (.sl (.int .u8))))))) x1)), (14, .c (.int .i64 x2)), (15, .c (.int .i64 x3))], [(0, .vec 4 .bool x4 true)], 1, 0⟩
noncomputable def E140_0 (K : Ev.Ex → Ev.St → Option Ans) : (Int × (List Bool) → Option Ans) × ((List Bool) → Option Ans) := ((fun v => match v with | (x0, x1) => K .ret ⟨[(2, .c (.own 0)), (3, .c (.int .i64 x0))], [(0, .vec 4 .bool x1 true)], 1, 0⟩), (fun v => match v with | x0 => K .normal ⟨[(4, .c (.own 0))], [(0, .vec 4 .bool x0 true)], 1, 0⟩))
theorem S140_0_okg (fuel : Nat) (f64 : YF64) (f194 : YF194) (R : Ev.St → Option Ans) (K : Ev.Ex → Ev.St → Option Ans) (x0 : (List (Int × (Int × (Int × ((List Int) × ((List Bool) × (List Int)))))))) (x1 : (List (Int × (Int × (Int × ((List Int) × ((List Bool) × (List Int)))))))) (x2 : Int) (x3 : Int) (x4 : (List Bool)) : evalCode tab (Gg140 f64 f194) (J140_0 fuel) kp140 fuel (bodyOf 0 Try.f140) (T140_0 (x0, x1, x2, x3, x4)) (lc kp140 3 0 R K) = (fun (c : ((List (Int × (Int × (Int × ((List Int) × ((List Bool) × (List Int))))))) × (List (Int × (Int × (Int × ((List Int) × ((List Bool) × (List Int))))))) × Int × Int × (List Bool)) → Option Ans) (B : (Int × (List Bool) → Option Ans) × ((List Bool) → Option Ans)) => match B with
  | (ret, b) =>
   bif Decidable.decide (x3 < x2) then
      bif Decidable.decide ((0 : Int) ≤ x3 ∧ x3 < (↑x1.length : Int)) then
      (f64 ((x1.getD x3.toNat ((0 : Int), (0 : Int), (0 : Int), [], [], [])).fst) ((x1.getD x3.toNat ((0 : Int), (0 : Int), (0 : Int), [], [], [])).snd.fst) ((x1.getD x3.toNat ((0 : Int), (0 : Int), (0 : Int), [], [], [])).snd.snd.fst) ((x1.getD x3.toNat ((0 : Int), (0 : Int), (0 : Int), [], [], [])).snd.snd.snd.fst) ((x1.getD x3.toNat ((0 : Int), (0 : Int), (0 : Int), [], [], [])).snd.snd.snd.snd.fst) ((x1.getD x3.toNat ((0 : Int), (0 : Int), (0 : Int), [], [], [])).snd.snd.snd.snd.snd)
         (fun y4 =>
           bif !y4 then
            ret (x3, [])
           else
            bif Decidable.decide (x3 > (0 : Int)) then
             bif Decidable.decide ((0 : Int) ≤ Go.IntKind.i64.wrap (x3 - (1 : Int)) ∧ Go.IntKind.i64.wrap (x3 - (1 : Int)) < (↑x0.length : Int)) then
             bif Decidable.decide ((x1.getD x3.toNat ((0 : Int), (0 : Int), (0 : Int), [], [], [])).fst ≤ (x0.getD (Go.IntKind.i64.wrap (x3 - (1 : Int))).toNat ((0 : Int), (0 : Int), (0 : Int), [], [], [])).fst) then
               ret (x3, [])
              else
               (L_ref12_kept_2 fuel (x0, x3, x1, x2, x3, (x1.getD x3.toNat ((0 : Int), (0 : Int), (0 : Int), [], [], [])).snd.snd.snd.fst, (↑(List.length (x1.getD x3.toNat ((0 : Int), (0 : Int), (0 : Int), [], [], [])).snd.snd.snd.fst) : Int), (0 : Int), x4, (x1.getD x3.toNat ((0 : Int), (0 : Int), (0 : Int), [], [], [])).fst, (x1.getD x3.toNat ((0 : Int), (0 : Int), (0 : Int), [], [], [])).snd.fst, (x1.getD x3.toNat ((0 : Int), (0 : Int), (0 : Int), [], [], [])).snd.snd.fst, (x1.getD x3.toNat ((0 : Int), (0 : Int), (0 : Int), [], [], [])).snd.snd.snd.fst, (x1.getD x3.toNat ((0 : Int), (0 : Int), (0 : Int), [], [], [])).snd.snd.snd.snd.fst, (x1.getD x3.toNat ((0 : Int), (0 : Int), (0 : Int), [], [], [])).snd.snd.snd.snd.snd)
                 (fun (ret2_0, ret2_1) =>
                   ret (ret2_0, ret2_1))
                 (fun (b2_0, b2_1, b2_2, b2_3, b2_4, b2_5, b2_6, b2_7, b2_8, b2_9, b2_10, b2_11) =>
                   bif Decidable.decide ((0 : Int) ≤ (↑b2_9.length : Int) ∧ (↑b2_9.length : Int) < (↑b2_10.length : Int)) then
                   bif Decidable.decide ((0 : Int) ≤ b2_1 ∧ b2_1 < (↑b2_5.length : Int)) then
                    c (b2_0, b2_2, b2_3, Go.IntKind.i64.wrap (b2_4 + (1 : Int)), b2_5.set b2_1.toNat (b2_10.getD (↑b2_9.length : Int).toNat Bool.false))
                    else none
                   else none))
             else none
            else
             (L_ref12_kept_2 fuel (x0, x3, x1, x2, x3, (x1.getD x3.toNat ((0 : Int), (0 : Int), (0 : Int), [], [], [])).snd.snd.snd.fst, (↑(List.length (x1.getD x3.toNat ((0 : Int), (0 : Int), (0 : Int), [], [], [])).snd.snd.snd.fst) : Int), (0 : Int), x4, (x1.getD x3.toNat ((0 : Int), (0 : Int), (0 : Int), [], [], [])).fst, (x1.getD x3.toNat ((0 : Int), (0 : Int), (0 : Int), [], [], [])).snd.fst, (x1.getD x3.toNat ((0 : Int), (0 : Int), (0 : Int), [], [], [])).snd.snd.fst, (x1.getD x3.toNat ((0 : Int), (0 : Int), (0 : Int), [], [], [])).snd.snd.snd.fst, (x1.getD x3.toNat ((0 : Int), (0 : Int), (0 : Int), [], [], [])).snd.snd.snd.snd.fst, (x1.getD x3.toNat ((0 : Int), (0 : Int), (0 : Int), [], [], [])).snd.snd.snd.snd.snd)
               (fun (ret2_0, ret2_1) =>
                 ret (ret2_0, ret2_1))
               (fun (b2_0, b2_1, b2_2, b2_3, b2_4, b2_5, b2_6, b2_7, b2_8, b2_9, b2_10, b2_11) =>
                 bif Decidable.decide ((0 : Int) ≤ (↑b2_9.length : Int) ∧ (↑b2_9.length : Int) < (↑b2_10.length : Int)) then
                 bif Decidable.decide ((0 : Int) ≤ b2_1 ∧ b2_1 < (↑b2_5.length : Int)) then
                  c (b2_0, b2_2, b2_3, Go.IntKind.i64.wrap (b2_4 + (1 : Int)), b2_5.set b2_1.toNat (b2_10.getD (↑b2_9.length : Int).toNat Bool.false))
                  else none
                 else none))))
      else none
     else
      b x4) (fun v => R (T140_0 v)) (E140_0 K) := by
  kernel_rfl
theorem S140_0_ok (fuel : Nat) (R : Ev.St → Option Ans) (K : Ev.Ex → Ev.St → Option Ans) (x0 : (List (Int × (Int × (Int × ((List Int) × ((List Bool) × (List Int)))))))) (x1 : (List (Int × (Int × (Int × ((List Int) × ((List Bool) × (List Int)))))))) (x2 : Int) (x3 : Int) (x4 : (List Bool)) : evalCode tab (G140 fuel) (J140_0 fuel) kp140 fuel (bodyOf 0 Try.f140) (T140_0 (x0, x1, x2, x3, x4)) (lc kp140 3 0 R K) = S_ref12_kept_0 fuel (x0, x1, x2, x3, x4) (fun v => R (T140_0 v)) (E140_0 K) :=
  S140_0_okg fuel (F_ref12_Valid fuel) (F_ref12_find fuel) R K x0 x1 x2 x3 x4
noncomputable def B140_0 (fuel : Nat) : Ev.Blk := fun st K => match canonO (kp140 3) st with
  | some s => (match s with
    | ⟨[(q0, .c (.sl (.pair (.int .i64) (.pair (.int .i64) (.pair (.int .i64) (.pair (.sl (.int .i64)) (.pair (.sl .bool) (.sl (.int .u8))))))) x0)), (q1, .c (.own q2)), (q3, .c (.sl (.pair (.int .i64) (.pair (.int .i64) (.pair (.int .i64) (.pair (.sl (.int .i64)) (.pair (.sl .bool) (.sl (.int .u8))))))) x1)), (q4, .c (.int .i64 x2)), (q5, .c (.int .i64 x3))], [(q6, .vec q7 .bool x4 true)], q8, q9⟩ => bif Nat.beq q0 0 && Nat.beq q1 4 && Nat.beq q2 0 && Nat.beq q3 13 && Nat.beq q4 14 && Nat.beq q5 15 && Nat.beq q6 0 && Nat.beq q7 4 && Nat.beq q8 1 && Nat.beq q9 0 then iter (S_ref12_kept_0 fuel) fuel (x0, x1, x2, x3, x4) (E140_0 K) else none
    | _ => none)
  | none => none
theorem B140_0_ok (fuel : Nat) (st : Ev.St) (K : Ev.Ex → Ev.St → Option Ans) (r : Ans) (h : B140_0 fuel st K = some r) : evalCode tab (G140 fuel) (J140_0 fuel) kp140 fuel (.block 0 (.loop (bodyOf 0 Try.f140))) st K = some r := by
  unfold B140_0 at h
  split at h
  · rename_i s hs
    split at h
    · skip
      obtain ⟨hb, h⟩ := cond_some' h
      simp only [Bool.and_eq_true, Nat.beq_eq, decide_eq_true_eq] at hb
      obtain ⟨⟨⟨⟨⟨⟨⟨⟨⟨rfl, rfl⟩, rfl⟩, rfl⟩, rfl⟩, rfl⟩, rfl⟩, rfl⟩, rfl⟩, rfl⟩ := hb
      exact blk_loop (S := T140_0) (ks := E140_0) (step := S_ref12_kept_0 fuel) (v := (_, _, _, _, _)) (by kernel_rfl) (by kernel_rfl) (fun R K v => by obtain ⟨x0, x1, x2, x3, x4⟩ := v; exact S140_0_ok fuel R K x0 x1 x2 x3 x4) hs h
    · cases h
  · cases h
noncomputable def J140 (fuel : Nat) (i : Nat) : Option Ev.Blk := Ev.look i [(100002, B140_2 fuel), (100000, B140_0 fuel)]
noncomputable def F_ref12_kept (fuel : Nat) (x0 : (List (Int × Int × Int × (List Int) × (List Bool) × (List Int)))) (k0 : (Int × (List Bool)) → Option Ans) : Option Ans :=
  bif Decidable.decide ((0 : Int) ≤ (↑x0.length : Int) ∧ (↑x0.length : Int) = (↑x0.length : Int) ∧ (↑(1 : Nat) : Int) * (↑x0.length : Int) ≤ (281474976710656 : Int) ∧ (↑x0.length : Int) ≤ (281474976710656 : Int)) then
  (L_ref12_kept_0 fuel (x0, x0, (↑x0.length : Int), (0 : Int), List.replicate (↑x0.length : Int).toNat Bool.false)
     (fun (ret0_0, ret0_1) =>
       k0 (ret0_0, ret0_1))
     (fun b0_0 =>
       k0 ((-1 : Int), b0_0)))
  else none
abbrev YF140 : Type := ((List (Int × Int × Int × (List Int) × (List Bool) × (List Int)))) → ((Int × (List Bool)) → Option Ans) → Option Ans
theorem F140_eqg (fuel : Nat) (f64 : YF64) (f194 : YF194) (x0 : (List (Int × Int × Int × (List Int) × (List Bool) × (List Int)))) (k : Ev.Cont) : evalFn tab (Gg140 f64 f194) (J140 fuel) kp140 fuel Try.f140 [.c (.sl (.pair (.int .i64) (.pair (.int .i64) (.pair (.int .i64) (.pair (.sl (.int .i64)) (.pair (.sl .bool) (.sl (.int .u8))))))) x0)] [] k = (fun  (k0 : (Int × (List Bool)) → Option Ans) =>
  bif Decidable.decide ((0 : Int) ≤ (↑x0.length : Int) ∧ (↑x0.length : Int) = (↑x0.length : Int) ∧ (↑(1 : Nat) : Int) * (↑x0.length : Int) ≤ (281474976710656 : Int) ∧ (↑x0.length : Int) ≤ (281474976710656 : Int)) then
  (L_ref12_kept_0 fuel (x0, x0, (↑x0.length : Int), (0 : Int), List.replicate (↑x0.length : Int).toNat Bool.false)
     (fun (ret0_0, ret0_1) =>
       k0 (ret0_0, ret0_1))
     (fun b0_0 =>
       k0 ((-1 : Int), b0_0)))
  else none) (fun r => match r with | (r0, r1) => k (.tup [(false, [.own 0]), (false, [.int .i64 r0])], [.vec 4 .bool r1 true])) := by
  kernel_rfl
theorem F140_eq (fuel : Nat) (x0 : (List (Int × Int × Int × (List Int) × (List Bool) × (List Int)))) (k : Ev.Cont) : evalFn tab (G140 fuel) (J140 fuel) kp140 fuel Try.f140 [.c (.sl (.pair (.int .i64) (.pair (.int .i64) (.pair (.int .i64) (.pair (.sl (.int .i64)) (.pair (.sl .bool) (.sl (.int .u8))))))) x0)] [] k = F_ref12_kept fuel x0 (fun r => match r with | (r0, r1) => k (.tup [(false, [.own 0]), (false, [.int .i64 r0])], [.vec 4 .bool r1 true])) :=
  F140_eqg fuel (F_ref12_Valid fuel) (F_ref12_find fuel) x0 k
theorem hG140 (fuel : Nat) : GOK Try.prog (G140 fuel) :=
  gok_cons ⟨ok64 fuel, enters_of Try.func64 (by kernel_rfl) rfl⟩ <|
  gok_cons ⟨ok194 fuel, enters_of Try.func194 (by kernel_rfl) rfl⟩ <|
  gok_nil
theorem B140_2_blk (fuel : Nat) : BlkOK Try.prog Try.f140.ntmps (.block 2 (.loop (bodyOf 2 Try.f140))) (B140_2 fuel) :=
  blk_of (blk_of_code tab_ok (hG140 fuel) mixed (J := J140_2 fuel) (kp := kp140) (fuel := fuel) (by kernel_rfl) (fun q hq => by
    rw [(by kernel_rfl : obl (J140_2 fuel) (.block 2 (.loop (bodyOf 2 Try.f140))) = [])] at hq
    cases hq)) (B140_2_ok fuel)
theorem B140_0_blk (fuel : Nat) : BlkOK Try.prog Try.f140.ntmps (.block 0 (.loop (bodyOf 0 Try.f140))) (B140_0 fuel) :=
  blk_of (blk_of_code tab_ok (hG140 fuel) mixed (J := J140_0 fuel) (kp := kp140) (fuel := fuel) (by kernel_rfl) (fun q hq => by
    rw [(by kernel_rfl : obl (J140_0 fuel) (.block 0 (.loop (bodyOf 0 Try.f140))) = [(.block 2 (.loop (bodyOf 2 Try.f140)), B140_2 fuel)])] at hq
    simp only [List.mem_cons, List.not_mem_nil, or_false] at hq
    subst hq
    · exact B140_2_blk fuel)) (B140_0_ok fuel)
theorem fok140 (fuel : Nat) : FnOK Try.prog 140 (evalFn tab (G140 fuel) (J140 fuel) kp140 fuel Try.f140) :=
  fn_ok tab_ok (hG140 fuel) mixed Try.func140 (c := (Try.f140.body).getD .skip) rfl (fun q hq => by
    rw [(by kernel_rfl : obl (J140 fuel) ((Try.f140.body).getD .skip) = [(.block 0 (.loop (bodyOf 0 Try.f140)), B140_0 fuel)])] at hq
    simp only [List.mem_cons, List.not_mem_nil, or_false] at hq
    subst hq
    · exact B140_0_blk fuel)
noncomputable def mt140 : List Ev.SV → List Ev.Ob → Bool := fun args objs => match args, objs with
  | [.c (.sl (.pair (.int .i64) (.pair (.int .i64) (.pair (.int .i64) (.pair (.sl (.int .i64)) (.pair (.sl .bool) (.sl (.int .u8))))))) _)], [] => true
  | _, _ => false
noncomputable def spg140 (F : YF140) : Ev.Spec := fun args objs k => match args, objs with
  | [.c (.sl (.pair (.int .i64) (.pair (.int .i64) (.pair (.int .i64) (.pair (.sl (.int .i64)) (.pair (.sl .bool) (.sl (.int .u8))))))) x0)], [] => bif true then F x0 (fun r => match r with | (r0, r1) => k (.tup [(false, [.own 0]), (false, [.int .i64 r0])], [.vec 4 .bool r1 true])) else none
  | _, _ => none
noncomputable def spec140 (fuel : Nat) : Ev.Spec := spg140 (F_ref12_kept fuel)
theorem ok140 (fuel : Nat) : FnOK Try.prog 140 (spec140 fuel) := by
  intro args objs kk r h
  unfold spec140 spg140 at h
  split at h
  · skip
    obtain ⟨hb, h⟩ := cond_some' h
    simp only [Bool.and_eq_true, Nat.beq_eq, decide_eq_true_eq] at hb
    clear hb
    exact fok140 fuel _ _ kk r ((F140_eq fuel _ kk).trans h)
  · cases h
end Go.Proofs.Ytihfgpfofmjbaaa

set_option linter.unusedVariables false
set_option linter.unusedSimpArgs false
set_option maxRecDepth 100000
set_option maxHeartbeats 2000000
namespace Go.Proofs.Ytihfgpfofmjbaaa
open Go Ev
def kp65 (i : Nat) : Option (List Nat) := Ev.look i []
noncomputable def Gg65 (f140 : YF140) (f : Nat) : Option Ev.Spec := Ev.look f [(140, spg140 f140)]
noncomputable def G65 (fuel : Nat) : Nat → Option Ev.Spec := Gg65 (F_ref12_kept fuel)
noncomputable def J65 (fuel : Nat) (i : Nat) : Option Ev.Blk := Ev.look i []
noncomputable def F_ref12_InOrder (fuel : Nat) (x0 : (List (Int × Int × Int × (List Int) × (List Bool) × (List Int)))) (k0 : (Int × Int) → Option Ans) : Option Ans :=
  (F_ref12_kept fuel (x0)
    (fun (y2_0, y2_1) =>
      bif Decidable.decide (y2_0 ≥ (0 : Int)) then
       k0 (y2_0, (40 : Int))
      else
       k0 ((-1 : Int), (0 : Int))))
abbrev YF65 : Type := ((List (Int × Int × Int × (List Int) × (List Bool) × (List Int)))) → ((Int × Int) → Option Ans) → Option Ans
theorem F65_eqg (fuel : Nat) (f140 : YF140) (x0 : (List (Int × Int × Int × (List Int) × (List Bool) × (List Int)))) (k : Ev.Cont) : evalFn tab (Gg65 f140) (J65 fuel) kp65 fuel Try.f65 [.c (.sl (.pair (.int .i64) (.pair (.int .i64) (.pair (.int .i64) (.pair (.sl (.int .i64)) (.pair (.sl .bool) (.sl (.int .u8))))))) x0)] [] k = (fun  (k0 : (Int × Int) → Option Ans) =>
  (f140 (x0)
    (fun (y2_0, y2_1) =>
      bif Decidable.decide (y2_0 ≥ (0 : Int)) then
       k0 (y2_0, (40 : Int))
      else
       k0 ((-1 : Int), (0 : Int))))) (fun r => match r with | (r0, r1) => k (.tup [(false, [.int .i64 r0]), (false, [.int .i64 r1])], [])) := by
  kernel_rfl
theorem F65_eq (fuel : Nat) (x0 : (List (Int × Int × Int × (List Int) × (List Bool) × (List Int)))) (k : Ev.Cont) : evalFn tab (G65 fuel) (J65 fuel) kp65 fuel Try.f65 [.c (.sl (.pair (.int .i64) (.pair (.int .i64) (.pair (.int .i64) (.pair (.sl (.int .i64)) (.pair (.sl .bool) (.sl (.int .u8))))))) x0)] [] k = F_ref12_InOrder fuel x0 (fun r => match r with | (r0, r1) => k (.tup [(false, [.int .i64 r0]), (false, [.int .i64 r1])], [])) :=
  F65_eqg fuel (F_ref12_kept fuel) x0 k
theorem hG65 (fuel : Nat) : GOK Try.prog (G65 fuel) :=
  gok_cons ⟨ok140 fuel, enters_of Try.func140 (by kernel_rfl) rfl⟩ <|
  gok_nil
theorem fok65 (fuel : Nat) : FnOK Try.prog 65 (evalFn tab (G65 fuel) (J65 fuel) kp65 fuel Try.f65) :=
  fn_ok tab_ok (hG65 fuel) mixed Try.func65 (c := (Try.f65.body).getD .skip) rfl (fun q hq => by
    rw [(by kernel_rfl : obl (J65 fuel) ((Try.f65.body).getD .skip) = [])] at hq
    cases hq)
noncomputable def mt65 : List Ev.SV → List Ev.Ob → Bool := fun args objs => match args, objs with
  | [.c (.sl (.pair (.int .i64) (.pair (.int .i64) (.pair (.int .i64) (.pair (.sl (.int .i64)) (.pair (.sl .bool) (.sl (.int .u8))))))) _)], [] => true
  | _, _ => false
noncomputable def spg65 (F : YF65) : Ev.Spec := fun args objs k => match args, objs with
  | [.c (.sl (.pair (.int .i64) (.pair (.int .i64) (.pair (.int .i64) (.pair (.sl (.int .i64)) (.pair (.sl .bool) (.sl (.int .u8))))))) x0)], [] => bif true then F x0 (fun r => match r with | (r0, r1) => k (.tup [(false, [.int .i64 r0]), (false, [.int .i64 r1])], [])) else none
  | _, _ => none
noncomputable def spec65 (fuel : Nat) : Ev.Spec := spg65 (F_ref12_InOrder fuel)
theorem ok65 (fuel : Nat) : FnOK Try.prog 65 (spec65 fuel) := by
  intro args objs kk r h
  unfold spec65 spg65 at h
  split at h
  · skip
    obtain ⟨hb, h⟩ := cond_some' h
    simp only [Bool.and_eq_true, Nat.beq_eq, decide_eq_true_eq] at hb
    clear hb
    exact fok65 fuel _ _ kk r ((F65_eq fuel _ kk).trans h)
  · cases h
end Go.Proofs.Ytihfgpfofmjbaaa

set_option linter.unusedVariables false
set_option linter.unusedSimpArgs false
set_option maxRecDepth 100000
set_option maxHeartbeats 2000000
namespace Go.Proofs.Ytihfgpfofmjbaaa
open Go Ev
def kp66 (i : Nat) : Option (List Nat) := Ev.look i [(2, [0, 1, 7, 8, 9]), (100000, [0, 1]), (400000, [4])]
noncomputable def Gg66 (f : Nat) : Option Ev.Spec := Ev.look f []
noncomputable def G66 (fuel : Nat) : Nat → Option Ev.Spec := Gg66
noncomputable def S_ref14_ends_0 (fuel : Nat) (v : Int × (List (Int × (Int × (Int × ((List Int) × ((List Bool) × (List Int))))))) × (List (Int × (Int × (Int × ((List Int) × ((List Bool) × (List Int))))))) × Int × Int) (c : (Int × (List (Int × (Int × (Int × ((List Int) × ((List Bool) × (List Int))))))) × (List (Int × (Int × (Int × ((List Int) × ((List Bool) × (List Int))))))) × Int × Int) → Option Ans) (B : (Bool → Option Ans) × (Int × (List (Int × (Int × (Int × ((List Int) × ((List Bool) × (List Int))))))) → Option Ans)) : Option Ans := match v, B with
  | (x0, x1, x2, x3, x4), (ret, b) =>
   bif Decidable.decide (x4 < x3) then
      bif Decidable.decide ((0 : Int) ≤ x4 ∧ x4 < (↑x2.length : Int)) then
      bif Decidable.decide (x0 < (2 : Int)) then
        bif !((x2.getD x4.toNat ((0 : Int), (0 : Int), (0 : Int), [], [], [])).snd.fst == (9 : Int)) == (x4 == Go.IntKind.i64.wrap ((↑x1.length : Int) - (1 : Int))) then
         ret Bool.false
        else
         c (x0, x1, x2, x3, Go.IntKind.i64.wrap (x4 + (1 : Int)))
       else
        bif !((x2.getD x4.toNat ((0 : Int), (0 : Int), (0 : Int), [], [], [])).snd.fst == (9 : Int)) == Bool.false then
         ret Bool.false
        else
         c (x0, x1, x2, x3, Go.IntKind.i64.wrap (x4 + (1 : Int)))
      else none
     else
      b (x0, x1)
noncomputable def L_ref14_ends_0 (fuel : Nat) (v : Int × (List (Int × (Int × (Int × ((List Int) × ((List Bool) × (List Int))))))) × (List (Int × (Int × (Int × ((List Int) × ((List Bool) × (List Int))))))) × Int × Int) (ret : (Bool → Option Ans)) (b : (Int × (List (Int × (Int × (Int × ((List Int) × ((List Bool) × (List Int))))))) → Option Ans)) : Option Ans := iter (S_ref14_ends_0 fuel) fuel v (ret, b)
noncomputable def J66_0 (fuel : Nat) (i : Nat) : Option Ev.Blk := Ev.look i []
noncomputable def T66_0 (v : Int × (List (Int × (Int × (Int × ((List Int) × ((List Bool) × (List Int))))))) × (List (Int × (Int × (Int × ((List Int) × ((List Bool) × (List Int))))))) × Int × Int) : Ev.St := match v with | (x0, x1, x2, x3, x4) => ⟨[(0, .c (.int .i64 x0)), (1, .c (.sl (.pair (.int .i64) (.pair (.int .i64) (.pair (.int .i64) (.pair (.sl (.int .i64)) (.pair (.sl .bool) (.sl (.int .u8))))))) x1)), (7, .c (.sl (.pair (.int .i64) (.pair (.int .i64) (.pair (.int .i64) (.pair (.sl (.int .i64)) (.pair (.sl .bool) (.sl (.int .u8))))))) x2)), (8, .c (.int .i64 x3)), (9, .c (.int .i64 x4))], [], 0, 0⟩
noncomputable def E66_0 (K : Ev.Ex → Ev.St → Option Ans) : (Bool → Option Ans) × (Int × (List (Int × (Int × (Int × ((List Int) × ((List Bool) × (List Int))))))) → Option Ans) := ((fun v => match v with | x0 => K .ret ⟨[(4, .c (.bool x0))], [], 0, 0⟩), (fun v => match v with | (x0, x1) => K .normal ⟨[(0, .c (.int .i64 x0)), (1, .c (.sl (.pair (.int .i64) (.pair (.int .i64) (.pair (.int .i64) (.pair (.sl (.int .i64)) (.pair (.sl .bool) (.sl (.int .u8))))))) x1))], [], 0, 0⟩))
theorem S66_0_ok (fuel : Nat) (R : Ev.St → Option Ans) (K : Ev.Ex → Ev.St → Option Ans) (x0 : Int) (x1 : (List (Int × (Int × (Int × ((List Int) × ((List Bool) × (List Int)))))))) (x2 : (List (Int × (Int × (Int × ((List Int) × ((List Bool) × (List Int)))))))) (x3 : Int) (x4 : Int) : evalCode tab (G66 fuel) (J66_0 fuel) kp66 fuel (bodyOf 0 Try.f66) (T66_0 (x0, x1, x2, x3, x4)) (lc kp66 2 0 R K) = S_ref14_ends_0 fuel (x0, x1, x2, x3, x4) (fun v => R (T66_0 v)) (E66_0 K) := by
  kernel_rfl
noncomputable def B66_0 (fuel : Nat) : Ev.Blk := fun st K => match canonO (kp66 2) st with
  | some s => (match s with
    | ⟨[(q0, .c (.int .i64 x0)), (q1, .c (.sl (.pair (.int .i64) (.pair (.int .i64) (.pair (.int .i64) (.pair (.sl (.int .i64)) (.pair (.sl .bool) (.sl (.int .u8))))))) x1)), (q2, .c (.sl (.pair (.int .i64) (.pair (.int .i64) (.pair (.int .i64) (.pair (.sl (.int .i64)) (.pair (.sl .bool) (.sl (.int .u8))))))) x2)), (q3, .c (.int .i64 x3)), (q4, .c (.int .i64 x4))], [], q5, q6⟩ => bif Nat.beq q0 0 && Nat.beq q1 1 && Nat.beq q2 7 && Nat.beq q3 8 && Nat.beq q4 9 && Nat.beq q5 0 && Nat.beq q6 0 then iter (S_ref14_ends_0 fuel) fuel (x0, x1, x2, x3, x4) (E66_0 K) else none
    | _ => none)
  | none => none
theorem B66_0_ok (fuel : Nat) (st : Ev.St) (K : Ev.Ex → Ev.St → Option Ans) (r : Ans) (h : B66_0 fuel st K = some r) : evalCode tab (G66 fuel) (J66_0 fuel) kp66 fuel (.block 0 (.loop (bodyOf 0 Try.f66))) st K = some r := by
  unfold B66_0 at h
  split at h
  · rename_i s hs
    split at h
    · skip
      obtain ⟨hb, h⟩ := cond_some' h
      simp only [Bool.and_eq_true, Nat.beq_eq, decide_eq_true_eq] at hb
      obtain ⟨⟨⟨⟨⟨⟨rfl, rfl⟩, rfl⟩, rfl⟩, rfl⟩, rfl⟩, rfl⟩ := hb
      exact blk_loop (S := T66_0) (ks := E66_0) (step := S_ref14_ends_0 fuel) (v := (_, _, _, _, _)) (by kernel_rfl) (by kernel_rfl) (fun R K v => by obtain ⟨x0, x1, x2, x3, x4⟩ := v; exact S66_0_ok fuel R K x0 x1 x2 x3 x4) hs h
    · cases h
  · cases h
noncomputable def J66 (fuel : Nat) (i : Nat) : Option Ev.Blk := Ev.look i [(100000, B66_0 fuel)]
noncomputable def F_ref14_ends (fuel : Nat) (x0 : Int) (x1 : (List (Int × Int × Int × (List Int) × (List Bool) × (List Int)))) (k0 : (Bool) → Option Ans) : Option Ans :=
  (L_ref14_ends_0 fuel (x0, x1, x1, (↑x1.length : Int), (0 : Int))
    (fun ret0_0 =>
      k0 ret0_0)
    (fun (b0_0, b0_1) =>
      bif b0_0 == (2 : Int) then
       k0 Bool.true
      else
       k0 (Decidable.decide ((↑b0_1.length : Int) > (0 : Int)))))
abbrev YF66 : Type := (Int) → ((List (Int × Int × Int × (List Int) × (List Bool) × (List Int)))) → ((Bool) → Option Ans) → Option Ans
theorem F66_eq (fuel : Nat) (x0 : Int) (x1 : (List (Int × Int × Int × (List Int) × (List Bool) × (List Int)))) (k : Ev.Cont) : evalFn tab (G66 fuel) (J66 fuel) kp66 fuel Try.f66 [.c (.int .i64 x0), .c (.sl (.pair (.int .i64) (.pair (.int .i64) (.pair (.int .i64) (.pair (.sl (.int .i64)) (.pair (.sl .bool) (.sl (.int .u8))))))) x1)] [] k = F_ref14_ends fuel x0 x1 (fun r => match r with | r0 => k (.c (.bool r0), [])) := by
  kernel_rfl
theorem hG66 (fuel : Nat) : GOK Try.prog (G66 fuel) :=
  gok_nil
theorem B66_0_blk (fuel : Nat) : BlkOK Try.prog Try.f66.ntmps (.block 0 (.loop (bodyOf 0 Try.f66))) (B66_0 fuel) :=
  blk_of (blk_of_code tab_ok (hG66 fuel) mixed (J := J66_0 fuel) (kp := kp66) (fuel := fuel) (by kernel_rfl) (fun q hq => by
    rw [(by kernel_rfl : obl (J66_0 fuel) (.block 0 (.loop (bodyOf 0 Try.f66))) = [])] at hq
    cases hq)) (B66_0_ok fuel)
theorem fok66 (fuel : Nat) : FnOK Try.prog 66 (evalFn tab (G66 fuel) (J66 fuel) kp66 fuel Try.f66) :=
  fn_ok tab_ok (hG66 fuel) mixed Try.func66 (c := (Try.f66.body).getD .skip) rfl (fun q hq => by
    rw [(by kernel_rfl : obl (J66 fuel) ((Try.f66.body).getD .skip) = [(.block 0 (.loop (bodyOf 0 Try.f66)), B66_0 fuel)])] at hq
    simp only [List.mem_cons, List.not_mem_nil, or_false] at hq
    subst hq
    · exact B66_0_blk fuel)
noncomputable def mt66 : List Ev.SV → List Ev.Ob → Bool := fun args objs => match args, objs with
  | [.c (.int .i64 _), .c (.sl (.pair (.int .i64) (.pair (.int .i64) (.pair (.int .i64) (.pair (.sl (.int .i64)) (.pair (.sl .bool) (.sl (.int .u8))))))) _)], [] => true
  | _, _ => false
noncomputable def spg66 (F : YF66) : Ev.Spec := fun args objs k => match args, objs with
  | [.c (.int .i64 x0), .c (.sl (.pair (.int .i64) (.pair (.int .i64) (.pair (.int .i64) (.pair (.sl (.int .i64)) (.pair (.sl .bool) (.sl (.int .u8))))))) x1)], [] => bif true then F x0 x1 (fun r => match r with | r0 => k (.c (.bool r0), [])) else none
  | _, _ => none
noncomputable def spec66 (fuel : Nat) : Ev.Spec := spg66 (F_ref14_ends fuel)
theorem ok66 (fuel : Nat) : FnOK Try.prog 66 (spec66 fuel) := by
  intro args objs kk r h
  unfold spec66 spg66 at h
  split at h
  · skip
    obtain ⟨hb, h⟩ := cond_some' h
    simp only [Bool.and_eq_true, Nat.beq_eq, decide_eq_true_eq] at hb
    clear hb
    exact fok66 fuel _ _ kk r ((F66_eq fuel _ _ kk).trans h)
  · cases h
end Go.Proofs.Ytihfgpfofmjbaaa

set_option linter.unusedVariables false
set_option linter.unusedSimpArgs false
set_option maxRecDepth 100000
set_option maxHeartbeats 2000000
namespace Go.Proofs.Ytihfgpfofmjbaaa
open Go Ev
def kp67 (i : Nat) : Option (List Nat) := Ev.look i []
noncomputable def Gg67 (f : Nat) : Option Ev.Spec := Ev.look f []
noncomputable def G67 (fuel : Nat) : Nat → Option Ev.Spec := Gg67
noncomputable def J67 (fuel : Nat) (i : Nat) : Option Ev.Blk := Ev.look i []
noncomputable def F_ref14_lead (fuel : Nat) (x0 : Int) (k0 : ((List Int)) → Option Ans) : Option Ans :=
  k0 ([(73 : Int), (78 : Int), (67 : Int), (49 : Int), Go.IntKind.u8.wrap x0])
abbrev YF67 : Type := (Int) → (((List Int)) → Option Ans) → Option Ans
theorem F67_eq (fuel : Nat) (x0 : Int) (k : Ev.Cont) : evalFn tab (G67 fuel) (J67 fuel) kp67 fuel Try.f67 [.c (.int .i64 x0)] [] k = F_ref14_lead fuel x0 (fun r => match r with | r0 => k (.c (.own 0), [.vec 5 (.int .u8) r0 true])) := by
  kernel_rfl
theorem hG67 (fuel : Nat) : GOK Try.prog (G67 fuel) :=
  gok_nil
theorem fok67 (fuel : Nat) : FnOK Try.prog 67 (evalFn tab (G67 fuel) (J67 fuel) kp67 fuel Try.f67) :=
  fn_ok tab_ok (hG67 fuel) mixed Try.func67 (c := (Try.f67.body).getD .skip) rfl (fun q hq => by
    rw [(by kernel_rfl : obl (J67 fuel) ((Try.f67.body).getD .skip) = [])] at hq
    cases hq)
noncomputable def mt67 : List Ev.SV → List Ev.Ob → Bool := fun args objs => match args, objs with
  | [.c (.int .i64 _)], [] => true
  | _, _ => false
noncomputable def spg67 (F : YF67) : Ev.Spec := fun args objs k => match args, objs with
  | [.c (.int .i64 x0)], [] => bif true then F x0 (fun r => match r with | r0 => k (.c (.own 0), [.vec 5 (.int .u8) r0 true])) else none
  | _, _ => none
noncomputable def spec67 (fuel : Nat) : Ev.Spec := spg67 (F_ref14_lead fuel)
theorem ok67 (fuel : Nat) : FnOK Try.prog 67 (spec67 fuel) := by
  intro args objs kk r h
  unfold spec67 spg67 at h
  split at h
  · skip
    obtain ⟨hb, h⟩ := cond_some' h
    simp only [Bool.and_eq_true, Nat.beq_eq, decide_eq_true_eq] at hb
    clear hb
    exact fok67 fuel _ _ kk r ((F67_eq fuel _ kk).trans h)
  · cases h
end Go.Proofs.Ytihfgpfofmjbaaa

set_option linter.unusedVariables false
set_option linter.unusedSimpArgs false
set_option maxRecDepth 100000
set_option maxHeartbeats 2000000
namespace Go.Proofs.Ytihfgpfofmjbaaa
open Go Ev
def kp18 (i : Nat) : Option (List Nat) := Ev.look i [(4, [0, 1, 22, 23, 24]), (19, [0, 1, 10, 11, 47, 48, 49]), (100000, [0, 1]), (100002, [1, 10, 11]), (400000, [4, 5]), (400002, [4, 5])]
noncomputable def Gg18 (f64 : YF64) (f65 : YF65) (f66 : YF66) (f67 : YF67) (f68 : YF68) (f : Nat) : Option Ev.Spec := Ev.look f [(64, spg64 f64), (65, spg65 f65), (66, spg66 f66), (67, spg67 f67), (68, spg68 f68)]
noncomputable def G18 (fuel : Nat) : Nat → Option Ev.Spec := Gg18 (F_ref12_Valid fuel) (F_ref12_InOrder fuel) (F_ref14_ends fuel) (F_ref14_lead fuel) (F_ref12_Header fuel)
noncomputable def S_ref14_Write_0 (fuel : Nat) (v : Int × (List (Int × (Int × (Int × ((List Int) × ((List Bool) × (List Int))))))) × (List (Int × (Int × (Int × ((List Int) × ((List Bool) × (List Int))))))) × Int × Int) (c : (Int × (List (Int × (Int × (Int × ((List Int) × ((List Bool) × (List Int))))))) × (List (Int × (Int × (Int × ((List Int) × ((List Bool) × (List Int))))))) × Int × Int) → Option Ans) (B : (Int × (List Int) → Option Ans) × (Int × (List (Int × (Int × (Int × ((List Int) × ((List Bool) × (List Int))))))) → Option Ans)) : Option Ans := match v, B with
  | (x0, x1, x2, x3, x4), (ret, b) =>
   bif Decidable.decide (x4 < x3) then
      bif Decidable.decide ((0 : Int) ≤ x4 ∧ x4 < (↑x2.length : Int)) then
      (F_ref12_Valid fuel ((x2.getD x4.toNat ((0 : Int), (0 : Int), (0 : Int), [], [], [])).fst) ((x2.getD x4.toNat ((0 : Int), (0 : Int), (0 : Int), [], [], [])).snd.fst) ((x2.getD x4.toNat ((0 : Int), (0 : Int), (0 : Int), [], [], [])).snd.snd.fst) ((x2.getD x4.toNat ((0 : Int), (0 : Int), (0 : Int), [], [], [])).snd.snd.snd.fst) ((x2.getD x4.toNat ((0 : Int), (0 : Int), (0 : Int), [], [], [])).snd.snd.snd.snd.fst) ((x2.getD x4.toNat ((0 : Int), (0 : Int), (0 : Int), [], [], [])).snd.snd.snd.snd.snd)
         (fun y4 =>
           bif !y4 then
            ret ((2 : Int), [])
           else
            c (x0, x1, x2, x3, Go.IntKind.i64.wrap (x4 + (1 : Int)))))
      else none
     else
      b (x0, x1)
noncomputable def L_ref14_Write_0 (fuel : Nat) (v : Int × (List (Int × (Int × (Int × ((List Int) × ((List Bool) × (List Int))))))) × (List (Int × (Int × (Int × ((List Int) × ((List Bool) × (List Int))))))) × Int × Int) (ret : (Int × (List Int) → Option Ans)) (b : (Int × (List (Int × (Int × (Int × ((List Int) × ((List Bool) × (List Int))))))) → Option Ans)) : Option Ans := iter (S_ref14_Write_0 fuel) fuel v (ret, b)
noncomputable def J18_0 (fuel : Nat) (i : Nat) : Option Ev.Blk := Ev.look i []
noncomputable def T18_0 (v : Int × (List (Int × (Int × (Int × ((List Int) × ((List Bool) × (List Int))))))) × (List (Int × (Int × (Int × ((List Int) × ((List Bool) × (List Int))))))) × Int × Int) : Ev.St := match v with | (x0, x1, x2, x3, x4) => ⟨[(0, .c (.int .i64 x0)), (1, .c (.sl (.pair (.int .i64) (.pair (.int .i64) (.pair (.int .i64) (.pair (.sl (.int .i64)) (.pair (.sl .bool) (.sl (.int .u8))))))) x1)), (22, .c (.sl (.pair (.int .i64) (.pair (.int .i64) (.pair (.int .i64) (.pair (.sl (.int .i64)) (.pair (.sl .bool) (.sl (.int .u8))))))) x2)), (23, .c (.int .i64 x3)), (24, .c (.int .i64 x4))], [], 0, 0⟩
noncomputable def E18_0 (K : Ev.Ex → Ev.St → Option Ans) : (Int × (List Int) → Option Ans) × (Int × (List (Int × (Int × (Int × ((List Int) × ((List Bool) × (List Int))))))) → Option Ans) := ((fun v => match v with | (x0, x1) => K .ret ⟨[(4, .c (.own 0)), (5, .c (.int .i64 x0))], [(0, .vec 5 (.int .u8) x1 true)], 1, 0⟩), (fun v => match v with | (x0, x1) => K .normal ⟨[(0, .c (.int .i64 x0)), (1, .c (.sl (.pair (.int .i64) (.pair (.int .i64) (.pair (.int .i64) (.pair (.sl (.int .i64)) (.pair (.sl .bool) (.sl (.int .u8))))))) x1))], [], 0, 0⟩))
theorem S18_0_okg (fuel : Nat) (f64 : YF64) (f65 : YF65) (f66 : YF66) (f67 : YF67) (f68 : YF68) (R : Ev.St → Option Ans) (K : Ev.Ex → Ev.St → Option Ans) (x0 : Int) (x1 : (List (Int × (Int × (Int × ((List Int) × ((List Bool) × (List Int)))))))) (x2 : (List (Int × (Int × (Int × ((List Int) × ((List Bool) × (List Int)))))))) (x3 : Int) (x4 : Int) : evalCode tab (Gg18 f64 f65 f66 f67 f68) (J18_0 fuel) kp18 fuel (bodyOf 0 Try.f18) (T18_0 (x0, x1, x2, x3, x4)) (lc kp18 4 0 R K) = (fun (c : (Int × (List (Int × (Int × (Int × ((List Int) × ((List Bool) × (List Int))))))) × (List (Int × (Int × (Int × ((List Int) × ((List Bool) × (List Int))))))) × Int × Int) → Option Ans) (B : (Int × (List Int) → Option Ans) × (Int × (List (Int × (Int × (Int × ((List Int) × ((List Bool) × (List Int))))))) → Option Ans)) => match B with
  | (ret, b) =>
   bif Decidable.decide (x4 < x3) then
      bif Decidable.decide ((0 : Int) ≤ x4 ∧ x4 < (↑x2.length : Int)) then
      (f64 ((x2.getD x4.toNat ((0 : Int), (0 : Int), (0 : Int), [], [], [])).fst) ((x2.getD x4.toNat ((0 : Int), (0 : Int), (0 : Int), [], [], [])).snd.fst) ((x2.getD x4.toNat ((0 : Int), (0 : Int), (0 : Int), [], [], [])).snd.snd.fst) ((x2.getD x4.toNat ((0 : Int), (0 : Int), (0 : Int), [], [], [])).snd.snd.snd.fst) ((x2.getD x4.toNat ((0 : Int), (0 : Int), (0 : Int), [], [], [])).snd.snd.snd.snd.fst) ((x2.getD x4.toNat ((0 : Int), (0 : Int), (0 : Int), [], [], [])).snd.snd.snd.snd.snd)
         (fun y4 =>
           bif !y4 then
            ret ((2 : Int), [])
           else
            c (x0, x1, x2, x3, Go.IntKind.i64.wrap (x4 + (1 : Int)))))
      else none
     else
      b (x0, x1)) (fun v => R (T18_0 v)) (E18_0 K) := by
  kernel_rfl
theorem S18_0_ok (fuel : Nat) (R : Ev.St → Option Ans) (K : Ev.Ex → Ev.St → Option Ans) (x0 : Int) (x1 : (List (Int × (Int × (Int × ((List Int) × ((List Bool) × (List Int)))))))) (x2 : (List (Int × (Int × (Int × ((List Int) × ((List Bool) × (List Int)))))))) (x3 : Int) (x4 : Int) : evalCode tab (G18 fuel) (J18_0 fuel) kp18 fuel (bodyOf 0 Try.f18) (T18_0 (x0, x1, x2, x3, x4)) (lc kp18 4 0 R K) = S_ref14_Write_0 fuel (x0, x1, x2, x3, x4) (fun v => R (T18_0 v)) (E18_0 K) :=
  S18_0_okg fuel (F_ref12_Valid fuel) (F_ref12_InOrder fuel) (F_ref14_ends fuel) (F_ref14_lead fuel) (F_ref12_Header fuel) R K x0 x1 x2 x3 x4
noncomputable def B18_0 (fuel : Nat) : Ev.Blk := fun st K => match canonO (kp18 4) st with
  | some s => (match s with
    | ⟨[(q0, .c (.int .i64 x0)), (q1, .c (.sl (.pair (.int .i64) (.pair (.int .i64) (.pair (.int .i64) (.pair (.sl (.int .i64)) (.pair (.sl .bool) (.sl (.int .u8))))))) x1)), (q2, .c (.sl (.pair (.int .i64) (.pair (.int .i64) (.pair (.int .i64) (.pair (.sl (.int .i64)) (.pair (.sl .bool) (.sl (.int .u8))))))) x2)), (q3, .c (.int .i64 x3)), (q4, .c (.int .i64 x4))], [], q5, q6⟩ => bif Nat.beq q0 0 && Nat.beq q1 1 && Nat.beq q2 22 && Nat.beq q3 23 && Nat.beq q4 24 && Nat.beq q5 0 && Nat.beq q6 0 then iter (S_ref14_Write_0 fuel) fuel (x0, x1, x2, x3, x4) (E18_0 K) else none
    | _ => none)
  | none => none
theorem B18_0_ok (fuel : Nat) (st : Ev.St) (K : Ev.Ex → Ev.St → Option Ans) (r : Ans) (h : B18_0 fuel st K = some r) : evalCode tab (G18 fuel) (J18_0 fuel) kp18 fuel (.block 0 (.loop (bodyOf 0 Try.f18))) st K = some r := by
  unfold B18_0 at h
  split at h
  · rename_i s hs
    split at h
    · skip
      obtain ⟨hb, h⟩ := cond_some' h
      simp only [Bool.and_eq_true, Nat.beq_eq, decide_eq_true_eq] at hb
      obtain ⟨⟨⟨⟨⟨⟨rfl, rfl⟩, rfl⟩, rfl⟩, rfl⟩, rfl⟩, rfl⟩ := hb
      exact blk_loop (S := T18_0) (ks := E18_0) (step := S_ref14_Write_0 fuel) (v := (_, _, _, _, _)) (by kernel_rfl) (by kernel_rfl) (fun R K v => by obtain ⟨x0, x1, x2, x3, x4⟩ := v; exact S18_0_ok fuel R K x0 x1 x2 x3 x4) hs h
    · cases h
  · cases h
noncomputable def S_ref14_Write_2 (fuel : Nat) (v : Int × (List (Int × (Int × (Int × ((List Int) × ((List Bool) × (List Int))))))) × (List (Int × (Int × (Int × ((List Int) × ((List Bool) × (List Int))))))) × Int × Int × (List Int) × (List Int)) (c : (Int × (List (Int × (Int × (Int × ((List Int) × ((List Bool) × (List Int))))))) × (List (Int × (Int × (Int × ((List Int) × ((List Bool) × (List Int))))))) × Int × Int × (List Int) × (List Int)) → Option Ans) (B : ((List (Int × (Int × (Int × ((List Int) × ((List Bool) × (List Int))))))) × (List Int) × (List Int) → Option Ans)) : Option Ans := match v, B with
  | (x0, x1, x2, x3, x4, x5, x6), b =>
   bif Decidable.decide (x4 < x3) then
      bif Decidable.decide ((0 : Int) ≤ x4 ∧ x4 < (↑x2.length : Int)) then
      (F_ref12_Header fuel ((x2.getD x4.toNat ((0 : Int), (0 : Int), (0 : Int), [], [], [])).fst) ((x2.getD x4.toNat ((0 : Int), (0 : Int), (0 : Int), [], [], [])).snd.fst) ((x2.getD x4.toNat ((0 : Int), (0 : Int), (0 : Int), [], [], [])).snd.snd.fst) ((x2.getD x4.toNat ((0 : Int), (0 : Int), (0 : Int), [], [], [])).snd.snd.snd.fst) ((x2.getD x4.toNat ((0 : Int), (0 : Int), (0 : Int), [], [], [])).snd.snd.snd.snd.fst) ((x2.getD x4.toNat ((0 : Int), (0 : Int), (0 : Int), [], [], [])).snd.snd.snd.snd.snd)
         (fun (y4_0, y4_1) =>
           bif Decidable.decide ((x5.length + y4_1.length) * (1 : Nat) ≤ (140737488355328 : Nat) ∧ x5.length + y4_1.length ≤ (140737488355328 : Nat)) then
           bif x0 == (1 : Int) then
             bif Decidable.decide ((x6.length + List.length (x2.getD x4.toNat ((0 : Int), (0 : Int), (0 : Int), [], [], [])).snd.snd.snd.snd.snd) * (1 : Nat) ≤ (140737488355328 : Nat) ∧ x6.length + List.length (x2.getD x4.toNat ((0 : Int), (0 : Int), (0 : Int), [], [], [])).snd.snd.snd.snd.snd ≤ (140737488355328 : Nat)) then
             c (x0, x1, x2, x3, Go.IntKind.i64.wrap (x4 + (1 : Int)), x5 ++ y4_1, x6 ++ (x2.getD x4.toNat ((0 : Int), (0 : Int), (0 : Int), [], [], [])).snd.snd.snd.snd.snd)
             else none
            else
             bif Decidable.decide (((x5 ++ y4_1).length + List.length (x2.getD x4.toNat ((0 : Int), (0 : Int), (0 : Int), [], [], [])).snd.snd.snd.snd.snd) * (1 : Nat) ≤ (140737488355328 : Nat) ∧ (x5 ++ y4_1).length + List.length (x2.getD x4.toNat ((0 : Int), (0 : Int), (0 : Int), [], [], [])).snd.snd.snd.snd.snd ≤ (140737488355328 : Nat)) then
             c (x0, x1, x2, x3, Go.IntKind.i64.wrap (x4 + (1 : Int)), x5 ++ y4_1 ++ (x2.getD x4.toNat ((0 : Int), (0 : Int), (0 : Int), [], [], [])).snd.snd.snd.snd.snd, x6)
             else none
           else none))
      else none
     else
      b (x1, x5, x6)
noncomputable def L_ref14_Write_2 (fuel : Nat) (v : Int × (List (Int × (Int × (Int × ((List Int) × ((List Bool) × (List Int))))))) × (List (Int × (Int × (Int × ((List Int) × ((List Bool) × (List Int))))))) × Int × Int × (List Int) × (List Int)) (b : ((List (Int × (Int × (Int × ((List Int) × ((List Bool) × (List Int))))))) × (List Int) × (List Int) → Option Ans)) : Option Ans := iter (S_ref14_Write_2 fuel) fuel v b
noncomputable def J18_2 (fuel : Nat) (i : Nat) : Option Ev.Blk := Ev.look i [(100000, B18_0 fuel)]
noncomputable def T18_2 (v : Int × (List (Int × (Int × (Int × ((List Int) × ((List Bool) × (List Int))))))) × (List (Int × (Int × (Int × ((List Int) × ((List Bool) × (List Int))))))) × Int × Int × (List Int) × (List Int)) : Ev.St := match v with | (x0, x1, x2, x3, x4, x5, x6) => ⟨[(0, .c (.int .i64 x0)), (1, .c (.sl (.pair (.int .i64) (.pair (.int .i64) (.pair (.int .i64) (.pair (.sl (.int .i64)) (.pair (.sl .bool) (.sl (.int .u8))))))) x1)), (10, .c (.own 0)), (11, .c (.own 1)), (47, .c (.sl (.pair (.int .i64) (.pair (.int .i64) (.pair (.int .i64) (.pair (.sl (.int .i64)) (.pair (.sl .bool) (.sl (.int .u8))))))) x2)), (48, .c (.int .i64 x3)), (49, .c (.int .i64 x4))], [(0, .vec 5 (.int .u8) x5 true), (1, .vec 5 (.int .u8) x6 true)], 2, 0⟩
noncomputable def E18_2 (K : Ev.Ex → Ev.St → Option Ans) : ((List (Int × (Int × (Int × ((List Int) × ((List Bool) × (List Int))))))) × (List Int) × (List Int) → Option Ans) := (fun v => match v with | (x0, x1, x2) => K .normal ⟨[(1, .c (.sl (.pair (.int .i64) (.pair (.int .i64) (.pair (.int .i64) (.pair (.sl (.int .i64)) (.pair (.sl .bool) (.sl (.int .u8))))))) x0)), (10, .c (.own 0)), (11, .c (.own 1))], [(0, .vec 5 (.int .u8) x1 true), (1, .vec 5 (.int .u8) x2 true)], 2, 0⟩)
theorem S18_2_okg (fuel : Nat) (f64 : YF64) (f65 : YF65) (f66 : YF66) (f67 : YF67) (f68 : YF68) (R : Ev.St → Option Ans) (K : Ev.Ex → Ev.St → Option Ans) (x0 : Int) (x1 : (List (Int × (Int × (Int × ((List Int) × ((List Bool) × (List Int)))))))) (x2 : (List (Int × (Int × (Int × ((List Int) × ((List Bool) × (List Int)))))))) (x3 : Int) (x4 : Int) (x5 : (List Int)) (x6 : (List Int)) : evalCode tab (Gg18 f64 f65 f66 f67 f68) (J18_2 fuel) kp18 fuel (bodyOf 2 Try.f18) (T18_2 (x0, x1, x2, x3, x4, x5, x6)) (lc kp18 19 2 R K) = (fun (c : (Int × (List (Int × (Int × (Int × ((List Int) × ((List Bool) × (List Int))))))) × (List (Int × (Int × (Int × ((List Int) × ((List Bool) × (List Int))))))) × Int × Int × (List Int) × (List Int)) → Option Ans) (B : ((List (Int × (Int × (Int × ((List Int) × ((List Bool) × (List Int))))))) × (List Int) × (List Int) → Option Ans)) => match B with
  | b =>
   bif Decidable.decide (x4 < x3) then
      bif Decidable.decide ((0 : Int) ≤ x4 ∧ x4 < (↑x2.length : Int)) then
      (f68 ((x2.getD x4.toNat ((0 : Int), (0 : Int), (0 : Int), [], [], [])).fst) ((x2.getD x4.toNat ((0 : Int), (0 : Int), (0 : Int), [], [], [])).snd.fst) ((x2.getD x4.toNat ((0 : Int), (0 : Int), (0 : Int), [], [], [])).snd.snd.fst) ((x2.getD x4.toNat ((0 : Int), (0 : Int), (0 : Int), [], [], [])).snd.snd.snd.fst) ((x2.getD x4.toNat ((0 : Int), (0 : Int), (0 : Int), [], [], [])).snd.snd.snd.snd.fst) ((x2.getD x4.toNat ((0 : Int), (0 : Int), (0 : Int), [], [], [])).snd.snd.snd.snd.snd)
         (fun (y4_0, y4_1) =>
           bif Decidable.decide ((x5.length + y4_1.length) * (1 : Nat) ≤ (140737488355328 : Nat) ∧ x5.length + y4_1.length ≤ (140737488355328 : Nat)) then
           bif x0 == (1 : Int) then
             bif Decidable.decide ((x6.length + List.length (x2.getD x4.toNat ((0 : Int), (0 : Int), (0 : Int), [], [], [])).snd.snd.snd.snd.snd) * (1 : Nat) ≤ (140737488355328 : Nat) ∧ x6.length + List.length (x2.getD x4.toNat ((0 : Int), (0 : Int), (0 : Int), [], [], [])).snd.snd.snd.snd.snd ≤ (140737488355328 : Nat)) then
             c (x0, x1, x2, x3, Go.IntKind.i64.wrap (x4 + (1 : Int)), x5 ++ y4_1, x6 ++ (x2.getD x4.toNat ((0 : Int), (0 : Int), (0 : Int), [], [], [])).snd.snd.snd.snd.snd)
             else none
            else
             bif Decidable.decide (((x5 ++ y4_1).length + List.length (x2.getD x4.toNat ((0 : Int), (0 : Int), (0 : Int), [], [], [])).snd.snd.snd.snd.snd) * (1 : Nat) ≤ (140737488355328 : Nat) ∧ (x5 ++ y4_1).length + List.length (x2.getD x4.toNat ((0 : Int), (0 : Int), (0 : Int), [], [], [])).snd.snd.snd.snd.snd ≤ (140737488355328 : Nat)) then
             c (x0, x1, x2, x3, Go.IntKind.i64.wrap (x4 + (1 : Int)), x5 ++ y4_1 ++ (x2.getD x4.toNat ((0 : Int), (0 : Int), (0 : Int), [], [], [])).snd.snd.snd.snd.snd, x6)
             else none
           else none))
      else none
     else
      b (x1, x5, x6)) (fun v => R (T18_2 v)) (E18_2 K) := by
  kernel_rfl
theorem S18_2_ok (fuel : Nat) (R : Ev.St → Option Ans) (K : Ev.Ex → Ev.St → Option Ans) (x0 : Int) (x1 : (List (Int × (Int × (Int × ((List Int) × ((List Bool) × (List Int)))))))) (x2 : (List (Int × (Int × (Int × ((List Int) × ((List Bool) × (List Int)))))))) (x3 : Int) (x4 : Int) (x5 : (List Int)) (x6 : (List Int)) : evalCode tab (G18 fuel) (J18_2 fuel) kp18 fuel (bodyOf 2 Try.f18) (T18_2 (x0, x1, x2, x3, x4, x5, x6)) (lc kp18 19 2 R K) = S_ref14_Write_2 fuel (x0, x1, x2, x3, x4, x5, x6) (fun v => R (T18_2 v)) (E18_2 K) :=
  S18_2_okg fuel (F_ref12_Valid fuel) (F_ref12_InOrder fuel) (F_ref14_ends fuel) (F_ref14_lead fuel) (F_ref12_Header fuel) R K x0 x1 x2 x3 x4 x5 x6
noncomputable def B18_2 (fuel : Nat) : Ev.Blk := fun st K => match canonO (kp18 19) st with
  | some s => (match s with
    | ⟨[(q0, .c (.int .i64 x0)), (q1, .c (.sl (.pair (.int .i64) (.pair (.int .i64) (.pair (.int .i64) (.pair (.sl (.int .i64)) (.pair (.sl .bool) (.sl (.int .u8))))))) x1)), (q2, .c (.own q3)), (q4, .c (.own q5)), (q6, .c (.sl (.pair (.int .i64) (.pair (.int .i64) (.pair (.int .i64) (.pair (.sl (.int .i64)) (.pair (.sl .bool) (.sl (.int .u8))))))) x2)), (q7, .c (.int .i64 x3)), (q8, .c (.int .i64 x4))], [(q9, .vec q10 (.int .u8) x5 true), (q11, .vec q12 (.int .u8) x6 true)], q13, q14⟩ => bif Nat.beq q0 0 && Nat.beq q1 1 && Nat.beq q2 10 && Nat.beq q3 0 && Nat.beq q4 11 && Nat.beq q5 1 && Nat.beq q6 47 && Nat.beq q7 48 && Nat.beq q8 49 && Nat.beq q9 0 && Nat.beq q10 5 && Nat.beq q11 1 && Nat.beq q12 5 && Nat.beq q13 2 && Nat.beq q14 0 then iter (S_ref14_Write_2 fuel) fuel (x0, x1, x2, x3, x4, x5, x6) (E18_2 K) else none
    | _ => none)
  | none => none
theorem B18_2_ok (fuel : Nat) (st : Ev.St) (K : Ev.Ex → Ev.St → Option Ans) (r : Ans) (h : B18_2 fuel st K = some r) : evalCode tab (G18 fuel) (J18_2 fuel) kp18 fuel (.block 2 (.loop (bodyOf 2 Try.f18))) st K = some r := by
  unfold B18_2 at h
  split at h
  · rename_i s hs
    split at h
    · skip
      obtain ⟨hb, h⟩ := cond_some' h
      simp only [Bool.and_eq_true, Nat.beq_eq, decide_eq_true_eq] at hb
      obtain ⟨⟨⟨⟨⟨⟨⟨⟨⟨⟨⟨⟨⟨⟨rfl, rfl⟩, rfl⟩, rfl⟩, rfl⟩, rfl⟩, rfl⟩, rfl⟩, rfl⟩, rfl⟩, rfl⟩, rfl⟩, rfl⟩, rfl⟩, rfl⟩ := hb
      exact blk_loop (S := T18_2) (ks := E18_2) (step := S_ref14_Write_2 fuel) (v := (_, _, _, _, _, _, _)) (by kernel_rfl) (by kernel_rfl) (fun R K v => by obtain ⟨x0, x1, x2, x3, x4, x5, x6⟩ := v; exact S18_2_ok fuel R K x0 x1 x2 x3 x4 x5 x6) hs h
    · cases h
  · cases h
noncomputable def J18 (fuel : Nat) (i : Nat) : Option Ev.Blk := Ev.look i [(100000, B18_0 fuel), (100002, B18_2 fuel)]
noncomputable def F_ref14_Write (fuel : Nat) (x0 : Int) (x1 : (List (Int × Int × Int × (List Int) × (List Bool) × (List Int)))) (k0 : (Int × (List Int)) → Option Ans) : Option Ans :=
  bif Decidable.decide (x0 < (0 : Int)) then
   k0 ((2 : Int), [])
  else
   bif Decidable.decide (x0 > (2 : Int)) then
    k0 ((2 : Int), [])
   else
    (L_ref14_Write_0 fuel (x0, x1, x1, (↑x1.length : Int), (0 : Int))
      (fun (ret0_0, ret0_1) =>
        k0 (ret0_0, ret0_1))
      (fun (b0_0, b0_1) =>
        (F_ref12_InOrder fuel (b0_1)
          (fun (y8_0, y8_1) =>
            bif y8_1 != (0 : Int) then
             k0 ((40 : Int), [])
            else
             (F_ref14_ends fuel (b0_0) (b0_1)
               (fun y13 =>
                 bif !y13 then
                  k0 ((60 : Int), [])
                 else
                  (F_ref14_lead fuel (b0_0)
                    (fun y18 =>
                      bif b0_0 == (2 : Int) then
                       (L_ref14_Write_2 fuel (b0_0, b0_1, b0_1, (↑b0_1.length : Int), (0 : Int), [], [])
                         (fun (b2_0, b2_1, b2_2) =>
                           bif Decidable.decide ((b2_1.length + b2_2.length) * (1 : Nat) ≤ (140737488355328 : Nat) ∧ b2_1.length + b2_2.length ≤ (140737488355328 : Nat)) then
                           bif Decidable.decide ((↑(b2_1 ++ b2_2).length : Int) > (40000 : Int)) then
                             k0 ((4 : Int), [])
                            else
                             bif Decidable.decide ((↑b2_0.length : Int) > (100 : Int)) then
                              k0 ((4 : Int), [])
                             else
                              k0 ((0 : Int), b2_1 ++ b2_2)
                           else none))
                      else
                       (L_ref14_Write_2 fuel (b0_0, b0_1, b0_1, (↑b0_1.length : Int), (0 : Int), y18, [])
                         (fun (b2_0, b2_1, b2_2) =>
                           bif Decidable.decide ((b2_1.length + b2_2.length) * (1 : Nat) ≤ (140737488355328 : Nat) ∧ b2_1.length + b2_2.length ≤ (140737488355328 : Nat)) then
                           bif Decidable.decide ((↑(b2_1 ++ b2_2).length : Int) > (40000 : Int)) then
                             k0 ((4 : Int), [])
                            else
                             bif Decidable.decide ((↑b2_0.length : Int) > (100 : Int)) then
                              k0 ((4 : Int), [])
                             else
                              k0 ((0 : Int), b2_1 ++ b2_2)
                           else none))))))))))
abbrev YF18 : Type := (Int) → ((List (Int × Int × Int × (List Int) × (List Bool) × (List Int)))) → ((Int × (List Int)) → Option Ans) → Option Ans
theorem F18_eqg (fuel : Nat) (f64 : YF64) (f65 : YF65) (f66 : YF66) (f67 : YF67) (f68 : YF68) (x0 : Int) (x1 : (List (Int × Int × Int × (List Int) × (List Bool) × (List Int)))) (k : Ev.Cont) : evalFn tab (Gg18 f64 f65 f66 f67 f68) (J18 fuel) kp18 fuel Try.f18 [.c (.int .i64 x0), .c (.sl (.pair (.int .i64) (.pair (.int .i64) (.pair (.int .i64) (.pair (.sl (.int .i64)) (.pair (.sl .bool) (.sl (.int .u8))))))) x1)] [] k = (fun  (k0 : (Int × (List Int)) → Option Ans) =>
  bif Decidable.decide (x0 < (0 : Int)) then
   k0 ((2 : Int), [])
  else
   bif Decidable.decide (x0 > (2 : Int)) then
    k0 ((2 : Int), [])
   else
    (L_ref14_Write_0 fuel (x0, x1, x1, (↑x1.length : Int), (0 : Int))
      (fun (ret0_0, ret0_1) =>
        k0 (ret0_0, ret0_1))
      (fun (b0_0, b0_1) =>
        (f65 (b0_1)
          (fun (y8_0, y8_1) =>
            bif y8_1 != (0 : Int) then
             k0 ((40 : Int), [])
            else
             (f66 (b0_0) (b0_1)
               (fun y13 =>
                 bif !y13 then
                  k0 ((60 : Int), [])
                 else
                  (f67 (b0_0)
                    (fun y18 =>
                      bif b0_0 == (2 : Int) then
                       (L_ref14_Write_2 fuel (b0_0, b0_1, b0_1, (↑b0_1.length : Int), (0 : Int), [], [])
                         (fun (b2_0, b2_1, b2_2) =>
                           bif Decidable.decide ((b2_1.length + b2_2.length) * (1 : Nat) ≤ (140737488355328 : Nat) ∧ b2_1.length + b2_2.length ≤ (140737488355328 : Nat)) then
                           bif Decidable.decide ((↑(b2_1 ++ b2_2).length : Int) > (40000 : Int)) then
                             k0 ((4 : Int), [])
                            else
                             bif Decidable.decide ((↑b2_0.length : Int) > (100 : Int)) then
                              k0 ((4 : Int), [])
                             else
                              k0 ((0 : Int), b2_1 ++ b2_2)
                           else none))
                      else
                       (L_ref14_Write_2 fuel (b0_0, b0_1, b0_1, (↑b0_1.length : Int), (0 : Int), y18, [])
                         (fun (b2_0, b2_1, b2_2) =>
                           bif Decidable.decide ((b2_1.length + b2_2.length) * (1 : Nat) ≤ (140737488355328 : Nat) ∧ b2_1.length + b2_2.length ≤ (140737488355328 : Nat)) then
                           bif Decidable.decide ((↑(b2_1 ++ b2_2).length : Int) > (40000 : Int)) then
                             k0 ((4 : Int), [])
                            else
                             bif Decidable.decide ((↑b2_0.length : Int) > (100 : Int)) then
                              k0 ((4 : Int), [])
                             else
                              k0 ((0 : Int), b2_1 ++ b2_2)
                           else none))))))))))) (fun r => match r with | (r0, r1) => k (.tup [(false, [.own 0]), (false, [.int .i64 r0])], [.vec 5 (.int .u8) r1 true])) := by
  kernel_rfl
theorem F18_eq (fuel : Nat) (x0 : Int) (x1 : (List (Int × Int × Int × (List Int) × (List Bool) × (List Int)))) (k : Ev.Cont) : evalFn tab (G18 fuel) (J18 fuel) kp18 fuel Try.f18 [.c (.int .i64 x0), .c (.sl (.pair (.int .i64) (.pair (.int .i64) (.pair (.int .i64) (.pair (.sl (.int .i64)) (.pair (.sl .bool) (.sl (.int .u8))))))) x1)] [] k = F_ref14_Write fuel x0 x1 (fun r => match r with | (r0, r1) => k (.tup [(false, [.own 0]), (false, [.int .i64 r0])], [.vec 5 (.int .u8) r1 true])) :=
  F18_eqg fuel (F_ref12_Valid fuel) (F_ref12_InOrder fuel) (F_ref14_ends fuel) (F_ref14_lead fuel) (F_ref12_Header fuel) x0 x1 k
theorem hG18 (fuel : Nat) : GOK Try.prog (G18 fuel) :=
  gok_cons ⟨ok64 fuel, enters_of Try.func64 (by kernel_rfl) rfl⟩ <|
  gok_cons ⟨ok65 fuel, enters_of Try.func65 (by kernel_rfl) rfl⟩ <|
  gok_cons ⟨ok66 fuel, enters_of Try.func66 (by kernel_rfl) rfl⟩ <|
  gok_cons ⟨ok67 fuel, enters_of Try.func67 (by kernel_rfl) rfl⟩ <|
  gok_cons ⟨ok68 fuel, enters_of Try.func68 (by kernel_rfl) rfl⟩ <|
  gok_nil
theorem B18_0_blk (fuel : Nat) : BlkOK Try.prog Try.f18.ntmps (.block 0 (.loop (bodyOf 0 Try.f18))) (B18_0 fuel) :=
  blk_of (blk_of_code tab_ok (hG18 fuel) mixed (J := J18_0 fuel) (kp := kp18) (fuel := fuel) (by kernel_rfl) (fun q hq => by
    rw [(by kernel_rfl : obl (J18_0 fuel) (.block 0 (.loop (bodyOf 0 Try.f18))) = [])] at hq
    cases hq)) (B18_0_ok fuel)
theorem B18_2_blk (fuel : Nat) : BlkOK Try.prog Try.f18.ntmps (.block 2 (.loop (bodyOf 2 Try.f18))) (B18_2 fuel) :=
  blk_of (blk_of_code tab_ok (hG18 fuel) mixed (J := J18_2 fuel) (kp := kp18) (fuel := fuel) (by kernel_rfl) (fun q hq => by
    rw [(by kernel_rfl : obl (J18_2 fuel) (.block 2 (.loop (bodyOf 2 Try.f18))) = [])] at hq
    cases hq)) (B18_2_ok fuel)
theorem fok18 (fuel : Nat) : FnOK Try.prog 18 (evalFn tab (G18 fuel) (J18 fuel) kp18 fuel Try.f18) :=
  fn_ok tab_ok (hG18 fuel) mixed Try.func18 (c := (Try.f18.body).getD .skip) rfl (fun q hq => by
    rw [(by kernel_rfl : obl (J18 fuel) ((Try.f18.body).getD .skip) = [(.block 0 (.loop (bodyOf 0 Try.f18)), B18_0 fuel), (.block 2 (.loop (bodyOf 2 Try.f18)), B18_2 fuel)])] at hq
    simp only [List.mem_cons, List.not_mem_nil, or_false] at hq
    rcases hq with rfl | rfl
    · exact B18_0_blk fuel
    · exact B18_2_blk fuel)
noncomputable def mt18 : List Ev.SV → List Ev.Ob → Bool := fun args objs => match args, objs with
  | [.c (.int .i64 _), .c (.sl (.pair (.int .i64) (.pair (.int .i64) (.pair (.int .i64) (.pair (.sl (.int .i64)) (.pair (.sl .bool) (.sl (.int .u8))))))) _)], [] => true
  | _, _ => false
noncomputable def spg18 (F : YF18) : Ev.Spec := fun args objs k => match args, objs with
  | [.c (.int .i64 x0), .c (.sl (.pair (.int .i64) (.pair (.int .i64) (.pair (.int .i64) (.pair (.sl (.int .i64)) (.pair (.sl .bool) (.sl (.int .u8))))))) x1)], [] => bif true then F x0 x1 (fun r => match r with | (r0, r1) => k (.tup [(false, [.own 0]), (false, [.int .i64 r0])], [.vec 5 (.int .u8) r1 true])) else none
  | _, _ => none
noncomputable def spec18 (fuel : Nat) : Ev.Spec := spg18 (F_ref14_Write fuel)
theorem ok18 (fuel : Nat) : FnOK Try.prog 18 (spec18 fuel) := by
  intro args objs kk r h
  unfold spec18 spg18 at h
  split at h
  · skip
    obtain ⟨hb, h⟩ := cond_some' h
    simp only [Bool.and_eq_true, Nat.beq_eq, decide_eq_true_eq] at hb
    clear hb
    exact fok18 fuel _ _ kk r ((F18_eq fuel _ _ kk).trans h)
  · cases h
end Go.Proofs.Ytihfgpfofmjbaaa

set_option linter.unusedVariables false
set_option linter.unusedSimpArgs false
set_option maxRecDepth 100000
set_option maxHeartbeats 2000000
namespace Go.Proofs.Ytihfgpfofmjbaaa
open Go Ev
def kp3 (i : Nat) : Option (List Nat) := Ev.look i []
noncomputable def Gg3 (f15 : YF15) (f16 : YF16) (f17 : YF17) (f18 : YF18) (f19 : YF19) (f : Nat) : Option Ev.Spec := Ev.look f [(15, spg15 f15), (16, spg16 f16), (17, spg17 f17), (18, spg18 f18), (19, spg19 f19)]
noncomputable def G3 (fuel : Nat) : Nat → Option Ev.Spec := Gg3 (F_law14_large fuel) (F_law14_Awake fuel) (F_file_Write fuel) (F_ref14_Write fuel) (F_ref02_SameBytes fuel)
noncomputable def J3 (fuel : Nat) (i : Nat) : Option Ev.Blk := Ev.look i []
noncomputable def F_law14_FileWrites (fuel : Nat) (x0 : Int) (x1 : (List (Int × Int × Int × (List Int) × (List Bool) × (List Int)))) (k0 : (Bool) → Option Ans) : Option Ans :=
  (F_law14_large fuel (x1)
    (fun y2 =>
      bif y2 then
       (F_law14_Awake fuel
         (fun y7 =>
           k0 y7))
      else
       (F_file_Write fuel (x0) (x1)
         (fun (y7_0, y7_1) =>
           (F_ref14_Write fuel (x0) (x1)
             (fun (y11_0, y11_1) =>
               bif y7_0 == y11_0 then
                (F_ref02_SameBytes fuel (y7_1) (y11_1)
                  (fun y16 =>
                    bif y16 then
                     (F_law14_Awake fuel
                       (fun y21 =>
                         k0 y21))
                    else
                     k0 Bool.false))
               else
                k0 Bool.false))))))
abbrev YF3 : Type := (Int) → ((List (Int × Int × Int × (List Int) × (List Bool) × (List Int)))) → ((Bool) → Option Ans) → Option Ans
theorem F3_eqg (fuel : Nat) (f15 : YF15) (f16 : YF16) (f17 : YF17) (f18 : YF18) (f19 : YF19) (x0 : Int) (x1 : (List (Int × Int × Int × (List Int) × (List Bool) × (List Int)))) (k : Ev.Cont) : evalFn tab (Gg3 f15 f16 f17 f18 f19) (J3 fuel) kp3 fuel Try.f3 [.c (.int .i64 x0), .c (.sl (.pair (.int .i64) (.pair (.int .i64) (.pair (.int .i64) (.pair (.sl (.int .i64)) (.pair (.sl .bool) (.sl (.int .u8))))))) x1)] [] k = (fun  (k0 : (Bool) → Option Ans) =>
  (f15 (x1)
    (fun y2 =>
      bif y2 then
       (f16
         (fun y7 =>
           k0 y7))
      else
       (f17 (x0) (x1)
         (fun (y7_0, y7_1) =>
           (f18 (x0) (x1)
             (fun (y11_0, y11_1) =>
               bif y7_0 == y11_0 then
                (f19 (y7_1) (y11_1)
                  (fun y16 =>
                    bif y16 then
                     (f16
                       (fun y21 =>
                         k0 y21))
                    else
                     k0 Bool.false))
               else
                k0 Bool.false))))))) (fun r => match r with | r0 => k (.c (.bool r0), [])) := by
  kernel_rfl
theorem F3_eq (fuel : Nat) (x0 : Int) (x1 : (List (Int × Int × Int × (List Int) × (List Bool) × (List Int)))) (k : Ev.Cont) : evalFn tab (G3 fuel) (J3 fuel) kp3 fuel Try.f3 [.c (.int .i64 x0), .c (.sl (.pair (.int .i64) (.pair (.int .i64) (.pair (.int .i64) (.pair (.sl (.int .i64)) (.pair (.sl .bool) (.sl (.int .u8))))))) x1)] [] k = F_law14_FileWrites fuel x0 x1 (fun r => match r with | r0 => k (.c (.bool r0), [])) :=
  F3_eqg fuel (F_law14_large fuel) (F_law14_Awake fuel) (F_file_Write fuel) (F_ref14_Write fuel) (F_ref02_SameBytes fuel) x0 x1 k
theorem hG3 (fuel : Nat) : GOK Try.prog (G3 fuel) :=
  gok_cons ⟨ok15 fuel, enters_of Try.func15 (by kernel_rfl) rfl⟩ <|
  gok_cons ⟨ok16 fuel, enters_of Try.func16 (by kernel_rfl) rfl⟩ <|
  gok_cons ⟨ok17 fuel, enters_of Try.func17 (by kernel_rfl) rfl⟩ <|
  gok_cons ⟨ok18 fuel, enters_of Try.func18 (by kernel_rfl) rfl⟩ <|
  gok_cons ⟨ok19 fuel, enters_of Try.func19 (by kernel_rfl) rfl⟩ <|
  gok_nil
theorem fok3 (fuel : Nat) : FnOK Try.prog 3 (evalFn tab (G3 fuel) (J3 fuel) kp3 fuel Try.f3) :=
  fn_ok tab_ok (hG3 fuel) mixed Try.func3 (c := (Try.f3.body).getD .skip) rfl (fun q hq => by
    rw [(by kernel_rfl : obl (J3 fuel) ((Try.f3.body).getD .skip) = [])] at hq
    cases hq)
noncomputable def mt3 : List Ev.SV → List Ev.Ob → Bool := fun args objs => match args, objs with
  | [.c (.int .i64 _), .c (.sl (.pair (.int .i64) (.pair (.int .i64) (.pair (.int .i64) (.pair (.sl (.int .i64)) (.pair (.sl .bool) (.sl (.int .u8))))))) _)], [] => true
  | _, _ => false
noncomputable def spg3 (F : YF3) : Ev.Spec := fun args objs k => match args, objs with
  | [.c (.int .i64 x0), .c (.sl (.pair (.int .i64) (.pair (.int .i64) (.pair (.int .i64) (.pair (.sl (.int .i64)) (.pair (.sl .bool) (.sl (.int .u8))))))) x1)], [] => bif true then F x0 x1 (fun r => match r with | r0 => k (.c (.bool r0), [])) else none
  | _, _ => none
noncomputable def spec3 (fuel : Nat) : Ev.Spec := spg3 (F_law14_FileWrites fuel)
theorem ok3 (fuel : Nat) : FnOK Try.prog 3 (spec3 fuel) := by
  intro args objs kk r h
  unfold spec3 spg3 at h
  split at h
  · skip
    obtain ⟨hb, h⟩ := cond_some' h
    simp only [Bool.and_eq_true, Nat.beq_eq, decide_eq_true_eq] at hb
    clear hb
    exact fok3 fuel _ _ kk r ((F3_eq fuel _ _ kk).trans h)
  · cases h
end Go.Proofs.Ytihfgpfofmjbaaa

set_option linter.unusedVariables false
set_option linter.unusedSimpArgs false
set_option maxRecDepth 100000
set_option maxHeartbeats 2000000
namespace Go.Proofs.Ytihfgpfofmjbaaa
open Go Ev
def kp159 (i : Nat) : Option (List Nat) := Ev.look i []
noncomputable def Gg159 (f : Nat) : Option Ev.Spec := Ev.look f []
noncomputable def G159 (fuel : Nat) : Nat → Option Ev.Spec := Gg159
noncomputable def J159 (fuel : Nat) (i : Nat) : Option Ev.Blk := Ev.look i []
noncomputable def F_bitmap_fits (fuel : Nat) (x0 : Int) (x1 : Int) (k0 : (Bool) → Option Ans) : Option Ans :=
  bif Decidable.decide (x0 ≥ (0 : Int)) then
   bif Decidable.decide (x1 ≥ (0 : Int)) then
    bif Decidable.decide (x0 ≤ (200 : Int)) then
     bif Decidable.decide (x1 ≤ (200 : Int)) then
      k0 (Decidable.decide (Go.IntKind.i64.wrap (x0 * x1) ≤ (8192 : Int)))
     else
      k0 Bool.false
    else
     k0 Bool.false
   else
    k0 Bool.false
  else
   k0 Bool.false
abbrev YF159 : Type := (Int) → (Int) → ((Bool) → Option Ans) → Option Ans
theorem F159_eq (fuel : Nat) (x0 : Int) (x1 : Int) (k : Ev.Cont) : evalFn tab (G159 fuel) (J159 fuel) kp159 fuel Try.f159 [.c (.int .i64 x0), .c (.int .i64 x1)] [] k = F_bitmap_fits fuel x0 x1 (fun r => match r with | r0 => k (.c (.bool r0), [])) := by
  kernel_rfl
theorem hG159 (fuel : Nat) : GOK Try.prog (G159 fuel) :=
  gok_nil
theorem fok159 (fuel : Nat) : FnOK Try.prog 159 (evalFn tab (G159 fuel) (J159 fuel) kp159 fuel Try.f159) :=
  fn_ok tab_ok (hG159 fuel) mixed Try.func159 (c := (Try.f159.body).getD .skip) rfl (fun q hq => by
    rw [(by kernel_rfl : obl (J159 fuel) ((Try.f159.body).getD .skip) = [])] at hq
    cases hq)
noncomputable def mt159 : List Ev.SV → List Ev.Ob → Bool := fun args objs => match args, objs with
  | [.c (.int .i64 _), .c (.int .i64 _)], [] => true
  | _, _ => false
noncomputable def spg159 (F : YF159) : Ev.Spec := fun args objs k => match args, objs with
  | [.c (.int .i64 x0), .c (.int .i64 x1)], [] => bif true then F x0 x1 (fun r => match r with | r0 => k (.c (.bool r0), [])) else none
  | _, _ => none
noncomputable def spec159 (fuel : Nat) : Ev.Spec := spg159 (F_bitmap_fits fuel)
theorem ok159 (fuel : Nat) : FnOK Try.prog 159 (spec159 fuel) := by
  intro args objs kk r h
  unfold spec159 spg159 at h
  split at h
  · skip
    obtain ⟨hb, h⟩ := cond_some' h
    simp only [Bool.and_eq_true, Nat.beq_eq, decide_eq_true_eq] at hb
    clear hb
    exact fok159 fuel _ _ kk r ((F159_eq fuel _ _ kk).trans h)
  · cases h
end Go.Proofs.Ytihfgpfofmjbaaa

set_option linter.unusedVariables false
set_option linter.unusedSimpArgs false
set_option maxRecDepth 100000
set_option maxHeartbeats 2000000
namespace Go.Proofs.Ytihfgpfofmjbaaa
open Go Ev
def kp89 (i : Nat) : Option (List Nat) := Ev.look i [(4, [23, 24, 25]), (100000, []), (400000, [2])]
noncomputable def Gg89 (f159 : YF159) (f : Nat) : Option Ev.Spec := Ev.look f [(159, spg159 f159)]
noncomputable def G89 (fuel : Nat) : Nat → Option Ev.Spec := Gg89 (F_bitmap_fits fuel)
noncomputable def S_bitmap_Valid_0 (fuel : Nat) (v : (List Int) × Int × Int) (c : ((List Int) × Int × Int) → Option Ans) (B : (Bool → Option Ans) × (Unit → Option Ans)) : Option Ans := match v, B with
  | (x0, x1, x2), (ret, b) =>
   bif Decidable.decide (x2 < x1) then
      bif Decidable.decide ((0 : Int) ≤ x2 ∧ x2 < (↑x0.length : Int)) then
      bif Decidable.decide (x0.getD x2.toNat (0 : Int) > (1 : Int)) then
        ret Bool.false
       else
        c (x0, x1, Go.IntKind.i64.wrap (x2 + (1 : Int)))
      else none
     else
      b ()
noncomputable def L_bitmap_Valid_0 (fuel : Nat) (v : (List Int) × Int × Int) (ret : (Bool → Option Ans)) (b : (Unit → Option Ans)) : Option Ans := iter (S_bitmap_Valid_0 fuel) fuel v (ret, b)
noncomputable def J89_0 (fuel : Nat) (i : Nat) : Option Ev.Blk := Ev.look i []
noncomputable def T89_0 (v : (List Int) × Int × Int) : Ev.St := match v with | (x0, x1, x2) => ⟨[(23, .c (.sl (.int .u8) x0)), (24, .c (.int .i64 x1)), (25, .c (.int .i64 x2))], [], 0, 0⟩
noncomputable def E89_0 (K : Ev.Ex → Ev.St → Option Ans) : (Bool → Option Ans) × (Unit → Option Ans) := ((fun v => match v with | x0 => K .ret ⟨[(2, .c (.bool x0))], [], 0, 0⟩), (fun v => match v with | () => K .normal ⟨[], [], 0, 0⟩))
theorem S89_0_okg (fuel : Nat) (f159 : YF159) (R : Ev.St → Option Ans) (K : Ev.Ex → Ev.St → Option Ans) (x0 : (List Int)) (x1 : Int) (x2 : Int) : evalCode tab (Gg89 f159) (J89_0 fuel) kp89 fuel (bodyOf 0 Try.f89) (T89_0 (x0, x1, x2)) (lc kp89 4 0 R K) = (fun (c : ((List Int) × Int × Int) → Option Ans) (B : (Bool → Option Ans) × (Unit → Option Ans)) => match B with
  | (ret, b) =>
   bif Decidable.decide (x2 < x1) then
      bif Decidable.decide ((0 : Int) ≤ x2 ∧ x2 < (↑x0.length : Int)) then
      bif Decidable.decide (x0.getD x2.toNat (0 : Int) > (1 : Int)) then
        ret Bool.false
       else
        c (x0, x1, Go.IntKind.i64.wrap (x2 + (1 : Int)))
      else none
     else
      b ()) (fun v => R (T89_0 v)) (E89_0 K) := by
  kernel_rfl
theorem S89_0_ok (fuel : Nat) (R : Ev.St → Option Ans) (K : Ev.Ex → Ev.St → Option Ans) (x0 : (List Int)) (x1 : Int) (x2 : Int) : evalCode tab (G89 fuel) (J89_0 fuel) kp89 fuel (bodyOf 0 Try.f89) (T89_0 (x0, x1, x2)) (lc kp89 4 0 R K) = S_bitmap_Valid_0 fuel (x0, x1, x2) (fun v => R (T89_0 v)) (E89_0 K) :=
  S89_0_okg fuel (F_bitmap_fits fuel) R K x0 x1 x2
noncomputable def B89_0 (fuel : Nat) : Ev.Blk := fun st K => match canonO (kp89 4) st with
  | some s => (match s with
    | ⟨[(q0, .c (.sl (.int .u8) x0)), (q1, .c (.int .i64 x1)), (q2, .c (.int .i64 x2))], [], q3, q4⟩ => bif Nat.beq q0 23 && Nat.beq q1 24 && Nat.beq q2 25 && Nat.beq q3 0 && Nat.beq q4 0 then iter (S_bitmap_Valid_0 fuel) fuel (x0, x1, x2) (E89_0 K) else none
    | _ => none)
  | none => none
theorem B89_0_ok (fuel : Nat) (st : Ev.St) (K : Ev.Ex → Ev.St → Option Ans) (r : Ans) (h : B89_0 fuel st K = some r) : evalCode tab (G89 fuel) (J89_0 fuel) kp89 fuel (.block 0 (.loop (bodyOf 0 Try.f89))) st K = some r := by
  unfold B89_0 at h
  split at h
  · rename_i s hs
    split at h
    · skip
      obtain ⟨hb, h⟩ := cond_some' h
      simp only [Bool.and_eq_true, Nat.beq_eq, decide_eq_true_eq] at hb
      obtain ⟨⟨⟨⟨rfl, rfl⟩, rfl⟩, rfl⟩, rfl⟩ := hb
      exact blk_loop (S := T89_0) (ks := E89_0) (step := S_bitmap_Valid_0 fuel) (v := (_, _, _)) (by kernel_rfl) (by kernel_rfl) (fun R K v => by obtain ⟨x0, x1, x2⟩ := v; exact S89_0_ok fuel R K x0 x1 x2) hs h
    · cases h
  · cases h
noncomputable def J89 (fuel : Nat) (i : Nat) : Option Ev.Blk := Ev.look i [(100000, B89_0 fuel)]
noncomputable def F_bitmap_Valid (fuel : Nat) (x0 : Int) (x1 : Int) (x2 : (List Int)) (k0 : (Bool) → Option Ans) : Option Ans :=
  (F_bitmap_fits fuel (x0) (x1)
    (fun y2 =>
      bif !y2 then
       k0 Bool.false
      else
       bif (↑x2.length : Int) != Go.IntKind.i64.wrap (x0 * x1) then
        k0 Bool.false
       else
        (L_bitmap_Valid_0 fuel (x2, (↑x2.length : Int), (0 : Int))
          (fun ret0_0 =>
            k0 ret0_0)
          (fun () =>
            k0 Bool.true))))
abbrev YF89 : Type := (Int) → (Int) → ((List Int)) → ((Bool) → Option Ans) → Option Ans
theorem F89_eqg (fuel : Nat) (f159 : YF159) (x0 : Int) (x1 : Int) (x2 : (List Int)) (k : Ev.Cont) : evalFn tab (Gg89 f159) (J89 fuel) kp89 fuel Try.f89 [.agg [.int .i64 x0, .int .i64 x1, .sl (.int .u8) x2]] [] k = (fun  (k0 : (Bool) → Option Ans) =>
  (f159 (x0) (x1)
    (fun y2 =>
      bif !y2 then
       k0 Bool.false
      else
       bif (↑x2.length : Int) != Go.IntKind.i64.wrap (x0 * x1) then
        k0 Bool.false
       else
        (L_bitmap_Valid_0 fuel (x2, (↑x2.length : Int), (0 : Int))
          (fun ret0_0 =>
            k0 ret0_0)
          (fun () =>
            k0 Bool.true))))) (fun r => match r with | r0 => k (.c (.bool r0), [])) := by
  kernel_rfl
theorem F89_eq (fuel : Nat) (x0 : Int) (x1 : Int) (x2 : (List Int)) (k : Ev.Cont) : evalFn tab (G89 fuel) (J89 fuel) kp89 fuel Try.f89 [.agg [.int .i64 x0, .int .i64 x1, .sl (.int .u8) x2]] [] k = F_bitmap_Valid fuel x0 x1 x2 (fun r => match r with | r0 => k (.c (.bool r0), [])) :=
  F89_eqg fuel (F_bitmap_fits fuel) x0 x1 x2 k
theorem hG89 (fuel : Nat) : GOK Try.prog (G89 fuel) :=
  gok_cons ⟨ok159 fuel, enters_of Try.func159 (by kernel_rfl) rfl⟩ <|
  gok_nil
theorem B89_0_blk (fuel : Nat) : BlkOK Try.prog Try.f89.ntmps (.block 0 (.loop (bodyOf 0 Try.f89))) (B89_0 fuel) :=
  blk_of (blk_of_code tab_ok (hG89 fuel) mixed (J := J89_0 fuel) (kp := kp89) (fuel := fuel) (by kernel_rfl) (fun q hq => by
    rw [(by kernel_rfl : obl (J89_0 fuel) (.block 0 (.loop (bodyOf 0 Try.f89))) = [])] at hq
    cases hq)) (B89_0_ok fuel)
theorem fok89 (fuel : Nat) : FnOK Try.prog 89 (evalFn tab (G89 fuel) (J89 fuel) kp89 fuel Try.f89) :=
  fn_ok tab_ok (hG89 fuel) mixed Try.func89 (c := (Try.f89.body).getD .skip) rfl (fun q hq => by
    rw [(by kernel_rfl : obl (J89 fuel) ((Try.f89.body).getD .skip) = [(.block 0 (.loop (bodyOf 0 Try.f89)), B89_0 fuel)])] at hq
    simp only [List.mem_cons, List.not_mem_nil, or_false] at hq
    subst hq
    · exact B89_0_blk fuel)
noncomputable def mt89 : List Ev.SV → List Ev.Ob → Bool := fun args objs => match args, objs with
  | [.agg [.int .i64 _, .int .i64 _, .sl (.int .u8) _]], [] => true
  | _, _ => false
noncomputable def spg89 (F : YF89) : Ev.Spec := fun args objs k => match args, objs with
  | [.agg [.int .i64 x0, .int .i64 x1, .sl (.int .u8) x2]], [] => bif true then F x0 x1 x2 (fun r => match r with | r0 => k (.c (.bool r0), [])) else none
  | _, _ => none
noncomputable def spec89 (fuel : Nat) : Ev.Spec := spg89 (F_bitmap_Valid fuel)
theorem ok89 (fuel : Nat) : FnOK Try.prog 89 (spec89 fuel) := by
  intro args objs kk r h
  unfold spec89 spg89 at h
  split at h
  · skip
    obtain ⟨hb, h⟩ := cond_some' h
    simp only [Bool.and_eq_true, Nat.beq_eq, decide_eq_true_eq] at hb
    clear hb
    exact fok89 fuel _ _ kk r ((F89_eq fuel _ _ _ kk).trans h)
  · cases h
end Go.Proofs.Ytihfgpfofmjbaaa

set_option linter.unusedVariables false
set_option linter.unusedSimpArgs false
set_option maxRecDepth 100000
set_option maxHeartbeats 2000000
namespace Go.Proofs.Ytihfgpfofmjbaaa
open Go Ev
def kp112 (i : Nat) : Option (List Nat) := Ev.look i []
noncomputable def Gg112 (f : Nat) : Option Ev.Spec := Ev.look f []
noncomputable def G112 (fuel : Nat) : Nat → Option Ev.Spec := Gg112
noncomputable def J112 (fuel : Nat) (i : Nat) : Option Ev.Blk := Ev.look i []
noncomputable def F_ref05_Sides (fuel : Nat) (x0 : Int) (x1 : Int) (k0 : (Bool) → Option Ans) : Option Ans :=
  bif Decidable.decide (x0 ≥ (0 : Int)) then
   bif Decidable.decide (x1 ≥ (0 : Int)) then
    bif Decidable.decide (x0 ≤ (200 : Int)) then
     bif Decidable.decide (x1 ≤ (200 : Int)) then
      k0 (Decidable.decide (Go.IntKind.i64.wrap (x0 * x1) ≤ (8192 : Int)))
     else
      k0 Bool.false
    else
     k0 Bool.false
   else
    k0 Bool.false
  else
   k0 Bool.false
abbrev YF112 : Type := (Int) → (Int) → ((Bool) → Option Ans) → Option Ans
theorem F112_eq (fuel : Nat) (x0 : Int) (x1 : Int) (k : Ev.Cont) : evalFn tab (G112 fuel) (J112 fuel) kp112 fuel Try.f112 [.c (.int .i64 x0), .c (.int .i64 x1)] [] k = F_ref05_Sides fuel x0 x1 (fun r => match r with | r0 => k (.c (.bool r0), [])) := by
  kernel_rfl
theorem hG112 (fuel : Nat) : GOK Try.prog (G112 fuel) :=
  gok_nil
theorem fok112 (fuel : Nat) : FnOK Try.prog 112 (evalFn tab (G112 fuel) (J112 fuel) kp112 fuel Try.f112) :=
  fn_ok tab_ok (hG112 fuel) mixed Try.func112 (c := (Try.f112.body).getD .skip) rfl (fun q hq => by
    rw [(by kernel_rfl : obl (J112 fuel) ((Try.f112.body).getD .skip) = [])] at hq
    cases hq)
noncomputable def mt112 : List Ev.SV → List Ev.Ob → Bool := fun args objs => match args, objs with
  | [.c (.int .i64 _), .c (.int .i64 _)], [] => true
  | _, _ => false
noncomputable def spg112 (F : YF112) : Ev.Spec := fun args objs k => match args, objs with
  | [.c (.int .i64 x0), .c (.int .i64 x1)], [] => bif true then F x0 x1 (fun r => match r with | r0 => k (.c (.bool r0), [])) else none
  | _, _ => none
noncomputable def spec112 (fuel : Nat) : Ev.Spec := spg112 (F_ref05_Sides fuel)
theorem ok112 (fuel : Nat) : FnOK Try.prog 112 (spec112 fuel) := by
  intro args objs kk r h
  unfold spec112 spg112 at h
  split at h
  · skip
    obtain ⟨hb, h⟩ := cond_some' h
    simp only [Bool.and_eq_true, Nat.beq_eq, decide_eq_true_eq] at hb
    clear hb
    exact fok112 fuel _ _ kk r ((F112_eq fuel _ _ kk).trans h)
  · cases h
end Go.Proofs.Ytihfgpfofmjbaaa

set_option linter.unusedVariables false
set_option linter.unusedSimpArgs false
set_option maxRecDepth 100000
set_option maxHeartbeats 2000000
namespace Go.Proofs.Ytihfgpfofmjbaaa
open Go Ev
def kp86 (i : Nat) : Option (List Nat) := Ev.look i [(4, [1, 3]), (100000, []), (400000, [2])]
noncomputable def Gg86 (f112 : YF112) (f : Nat) : Option Ev.Spec := Ev.look f [(112, spg112 f112)]
noncomputable def G86 (fuel : Nat) : Nat → Option Ev.Spec := Gg86 (F_ref05_Sides fuel)
noncomputable def S_ref05_Valid_0 (fuel : Nat) (v : Int × Int × Int × (List Int)) (c : (Int × Int × Int × (List Int)) → Option Ans) (B : (Bool → Option Ans) × (Unit → Option Ans)) : Option Ans := match v, B with
  | (x0, x1, x2, x3), (ret, b) =>
   bif Decidable.decide (x0 < (↑x3.length : Int)) then
      bif Decidable.decide ((0 : Int) ≤ x0 ∧ x0 < (↑x3.length : Int)) then
      bif Decidable.decide (x3.getD x0.toNat (0 : Int) > (1 : Int)) then
        ret Bool.false
       else
        c (Go.IntKind.i64.wrap (x0 + (1 : Int)), x1, x2, x3)
      else none
     else
      b ()
noncomputable def L_ref05_Valid_0 (fuel : Nat) (v : Int × Int × Int × (List Int)) (ret : (Bool → Option Ans)) (b : (Unit → Option Ans)) : Option Ans := iter (S_ref05_Valid_0 fuel) fuel v (ret, b)
noncomputable def J86_0 (fuel : Nat) (i : Nat) : Option Ev.Blk := Ev.look i []
noncomputable def T86_0 (v : Int × Int × Int × (List Int)) : Ev.St := match v with | (x0, x1, x2, x3) => ⟨[(1, .c (.ptr 0 0)), (3, .c (.int .i64 x0))], [(0, .cells 39 [.int .i64 x1, .int .i64 x2, .sl (.int .u8) x3])], 1, 0⟩
noncomputable def E86_0 (K : Ev.Ex → Ev.St → Option Ans) : (Bool → Option Ans) × (Unit → Option Ans) := ((fun v => match v with | x0 => K .ret ⟨[(2, .c (.bool x0))], [], 0, 0⟩), (fun v => match v with | () => K .normal ⟨[], [], 0, 0⟩))
theorem S86_0_okg (fuel : Nat) (f112 : YF112) (R : Ev.St → Option Ans) (K : Ev.Ex → Ev.St → Option Ans) (x0 : Int) (x1 : Int) (x2 : Int) (x3 : (List Int)) : evalCode tab (Gg86 f112) (J86_0 fuel) kp86 fuel (bodyOf 0 Try.f86) (T86_0 (x0, x1, x2, x3)) (lc kp86 4 0 R K) = (fun (c : (Int × Int × Int × (List Int)) → Option Ans) (B : (Bool → Option Ans) × (Unit → Option Ans)) => match B with
  | (ret, b) =>
   bif Decidable.decide (x0 < (↑x3.length : Int)) then
      bif Decidable.decide ((0 : Int) ≤ x0 ∧ x0 < (↑x3.length : Int)) then
      bif Decidable.decide (x3.getD x0.toNat (0 : Int) > (1 : Int)) then
        ret Bool.false
       else
        c (Go.IntKind.i64.wrap (x0 + (1 : Int)), x1, x2, x3)
      else none
     else
      b ()) (fun v => R (T86_0 v)) (E86_0 K) := by
  kernel_rfl
theorem S86_0_ok (fuel : Nat) (R : Ev.St → Option Ans) (K : Ev.Ex → Ev.St → Option Ans) (x0 : Int) (x1 : Int) (x2 : Int) (x3 : (List Int)) : evalCode tab (G86 fuel) (J86_0 fuel) kp86 fuel (bodyOf 0 Try.f86) (T86_0 (x0, x1, x2, x3)) (lc kp86 4 0 R K) = S_ref05_Valid_0 fuel (x0, x1, x2, x3) (fun v => R (T86_0 v)) (E86_0 K) :=
  S86_0_okg fuel (F_ref05_Sides fuel) R K x0 x1 x2 x3
noncomputable def B86_0 (fuel : Nat) : Ev.Blk := fun st K => match canonO (kp86 4) st with
  | some s => (match s with
    | ⟨[(q0, .c (.ptr q1 q2)), (q3, .c (.int .i64 x0))], [(q4, .cells q5 [.int .i64 x1, .int .i64 x2, .sl (.int .u8) x3])], q6, q7⟩ => bif Nat.beq q0 1 && Nat.beq q1 0 && Nat.beq q2 0 && Nat.beq q3 3 && Nat.beq q4 0 && Nat.beq q5 39 && Nat.beq q6 1 && Nat.beq q7 0 then iter (S_ref05_Valid_0 fuel) fuel (x0, x1, x2, x3) (E86_0 K) else none
    | _ => none)
  | none => none
theorem B86_0_ok (fuel : Nat) (st : Ev.St) (K : Ev.Ex → Ev.St → Option Ans) (r : Ans) (h : B86_0 fuel st K = some r) : evalCode tab (G86 fuel) (J86_0 fuel) kp86 fuel (.block 0 (.loop (bodyOf 0 Try.f86))) st K = some r := by
  unfold B86_0 at h
  split at h
  · rename_i s hs
    split at h
    · skip
      obtain ⟨hb, h⟩ := cond_some' h
      simp only [Bool.and_eq_true, Nat.beq_eq, decide_eq_true_eq] at hb
      obtain ⟨⟨⟨⟨⟨⟨⟨rfl, rfl⟩, rfl⟩, rfl⟩, rfl⟩, rfl⟩, rfl⟩, rfl⟩ := hb
      exact blk_loop (S := T86_0) (ks := E86_0) (step := S_ref05_Valid_0 fuel) (v := (_, _, _, _)) (by kernel_rfl) (by kernel_rfl) (fun R K v => by obtain ⟨x0, x1, x2, x3⟩ := v; exact S86_0_ok fuel R K x0 x1 x2 x3) hs h
    · cases h
  · cases h
noncomputable def J86 (fuel : Nat) (i : Nat) : Option Ev.Blk := Ev.look i [(100000, B86_0 fuel)]
noncomputable def F_ref05_Valid (fuel : Nat) (x0 : Int) (x1 : Int) (x2 : (List Int)) (k0 : (Bool) → Option Ans) : Option Ans :=
  (F_ref05_Sides fuel (x0) (x1)
    (fun y2 =>
      bif !y2 then
       k0 Bool.false
      else
       bif (↑x2.length : Int) != Go.IntKind.i64.wrap (x0 * x1) then
        k0 Bool.false
       else
        (L_ref05_Valid_0 fuel ((0 : Int), x0, x1, x2)
          (fun ret0_0 =>
            k0 ret0_0)
          (fun () =>
            k0 Bool.true))))
abbrev YF86 : Type := (Int) → (Int) → ((List Int)) → ((Bool) → Option Ans) → Option Ans
theorem F86_eqg (fuel : Nat) (f112 : YF112) (x0 : Int) (x1 : Int) (x2 : (List Int)) (k : Ev.Cont) : evalFn tab (Gg86 f112) (J86 fuel) kp86 fuel Try.f86 [.agg [.int .i64 x0, .int .i64 x1, .sl (.int .u8) x2]] [] k = (fun  (k0 : (Bool) → Option Ans) =>
  (f112 (x0) (x1)
    (fun y2 =>
      bif !y2 then
       k0 Bool.false
      else
       bif (↑x2.length : Int) != Go.IntKind.i64.wrap (x0 * x1) then
        k0 Bool.false
       else
        (L_ref05_Valid_0 fuel ((0 : Int), x0, x1, x2)
          (fun ret0_0 =>
            k0 ret0_0)
          (fun () =>
            k0 Bool.true))))) (fun r => match r with | r0 => k (.c (.bool r0), [])) := by
  kernel_rfl
theorem F86_eq (fuel : Nat) (x0 : Int) (x1 : Int) (x2 : (List Int)) (k : Ev.Cont) : evalFn tab (G86 fuel) (J86 fuel) kp86 fuel Try.f86 [.agg [.int .i64 x0, .int .i64 x1, .sl (.int .u8) x2]] [] k = F_ref05_Valid fuel x0 x1 x2 (fun r => match r with | r0 => k (.c (.bool r0), [])) :=
  F86_eqg fuel (F_ref05_Sides fuel) x0 x1 x2 k
theorem hG86 (fuel : Nat) : GOK Try.prog (G86 fuel) :=
  gok_cons ⟨ok112 fuel, enters_of Try.func112 (by kernel_rfl) rfl⟩ <|
  gok_nil
theorem B86_0_blk (fuel : Nat) : BlkOK Try.prog Try.f86.ntmps (.block 0 (.loop (bodyOf 0 Try.f86))) (B86_0 fuel) :=
  blk_of (blk_of_code tab_ok (hG86 fuel) mixed (J := J86_0 fuel) (kp := kp86) (fuel := fuel) (by kernel_rfl) (fun q hq => by
    rw [(by kernel_rfl : obl (J86_0 fuel) (.block 0 (.loop (bodyOf 0 Try.f86))) = [])] at hq
    cases hq)) (B86_0_ok fuel)
theorem fok86 (fuel : Nat) : FnOK Try.prog 86 (evalFn tab (G86 fuel) (J86 fuel) kp86 fuel Try.f86) :=
  fn_ok tab_ok (hG86 fuel) mixed Try.func86 (c := (Try.f86.body).getD .skip) rfl (fun q hq => by
    rw [(by kernel_rfl : obl (J86 fuel) ((Try.f86.body).getD .skip) = [(.block 0 (.loop (bodyOf 0 Try.f86)), B86_0 fuel)])] at hq
    simp only [List.mem_cons, List.not_mem_nil, or_false] at hq
    subst hq
    · exact B86_0_blk fuel)
noncomputable def mt86 : List Ev.SV → List Ev.Ob → Bool := fun args objs => match args, objs with
  | [.agg [.int .i64 _, .int .i64 _, .sl (.int .u8) _]], [] => true
  | _, _ => false
noncomputable def spg86 (F : YF86) : Ev.Spec := fun args objs k => match args, objs with
  | [.agg [.int .i64 x0, .int .i64 x1, .sl (.int .u8) x2]], [] => bif true then F x0 x1 x2 (fun r => match r with | r0 => k (.c (.bool r0), [])) else none
  | _, _ => none
noncomputable def spec86 (fuel : Nat) : Ev.Spec := spg86 (F_ref05_Valid fuel)
theorem ok86 (fuel : Nat) : FnOK Try.prog 86 (spec86 fuel) := by
  intro args objs kk r h
  unfold spec86 spg86 at h
  split at h
  · skip
    obtain ⟨hb, h⟩ := cond_some' h
    simp only [Bool.and_eq_true, Nat.beq_eq, decide_eq_true_eq] at hb
    clear hb
    exact fok86 fuel _ _ kk r ((F86_eq fuel _ _ _ kk).trans h)
  · cases h
end Go.Proofs.Ytihfgpfofmjbaaa

set_option linter.unusedVariables false
set_option linter.unusedSimpArgs false
set_option maxRecDepth 100000
set_option maxHeartbeats 2000000
namespace Go.Proofs.Ytihfgpfofmjbaaa
open Go Ev
def kp156 (i : Nat) : Option (List Nat) := Ev.look i []
noncomputable def Gg156 (f : Nat) : Option Ev.Spec := Ev.look f []
noncomputable def G156 (fuel : Nat) : Nat → Option Ev.Spec := Gg156
noncomputable def J156 (fuel : Nat) (i : Nat) : Option Ev.Blk := Ev.look i []
noncomputable def F_ref05_inside (fuel : Nat) (x0 : Int) (x1 : Int) (x2 : (List Int)) (x3 : Int) (x4 : Int) (k0 : (Bool) → Option Ans) : Option Ans :=
  bif Decidable.decide (x3 ≥ (0 : Int)) then
   bif Decidable.decide (x4 ≥ (0 : Int)) then
    bif Decidable.decide (x3 < x0) then
     k0 (Decidable.decide (x4 < x1))
    else
     k0 Bool.false
   else
    k0 Bool.false
  else
   k0 Bool.false
abbrev YF156 : Type := (Int) → (Int) → ((List Int)) → (Int) → (Int) → ((Bool) → Option Ans) → Option Ans
theorem F156_eq (fuel : Nat) (x0 : Int) (x1 : Int) (x2 : (List Int)) (x3 : Int) (x4 : Int) (k : Ev.Cont) : evalFn tab (G156 fuel) (J156 fuel) kp156 fuel Try.f156 [.agg [.int .i64 x0, .int .i64 x1, .sl (.int .u8) x2], .c (.int .i64 x3), .c (.int .i64 x4)] [] k = F_ref05_inside fuel x0 x1 x2 x3 x4 (fun r => match r with | r0 => k (.c (.bool r0), [])) := by
  kernel_rfl
theorem hG156 (fuel : Nat) : GOK Try.prog (G156 fuel) :=
  gok_nil
theorem fok156 (fuel : Nat) : FnOK Try.prog 156 (evalFn tab (G156 fuel) (J156 fuel) kp156 fuel Try.f156) :=
  fn_ok tab_ok (hG156 fuel) mixed Try.func156 (c := (Try.f156.body).getD .skip) rfl (fun q hq => by
    rw [(by kernel_rfl : obl (J156 fuel) ((Try.f156.body).getD .skip) = [])] at hq
    cases hq)
noncomputable def mt156 : List Ev.SV → List Ev.Ob → Bool := fun args objs => match args, objs with
  | [.agg [.int .i64 _, .int .i64 _, .sl (.int .u8) _], .c (.int .i64 _), .c (.int .i64 _)], [] => true
  | _, _ => false
noncomputable def spg156 (F : YF156) : Ev.Spec := fun args objs k => match args, objs with
  | [.agg [.int .i64 x0, .int .i64 x1, .sl (.int .u8) x2], .c (.int .i64 x3), .c (.int .i64 x4)], [] => bif true then F x0 x1 x2 x3 x4 (fun r => match r with | r0 => k (.c (.bool r0), [])) else none
  | _, _ => none
noncomputable def spec156 (fuel : Nat) : Ev.Spec := spg156 (F_ref05_inside fuel)
theorem ok156 (fuel : Nat) : FnOK Try.prog 156 (spec156 fuel) := by
  intro args objs kk r h
  unfold spec156 spg156 at h
  split at h
  · skip
    obtain ⟨hb, h⟩ := cond_some' h
    simp only [Bool.and_eq_true, Nat.beq_eq, decide_eq_true_eq] at hb
    clear hb
    exact fok156 fuel _ _ kk r ((F156_eq fuel _ _ _ _ _ kk).trans h)
  · cases h
end Go.Proofs.Ytihfgpfofmjbaaa

set_option linter.unusedVariables false
set_option linter.unusedSimpArgs false
set_option maxRecDepth 100000
set_option maxHeartbeats 2000000
namespace Go.Proofs.Ytihfgpfofmjbaaa
open Go Ev
def kp125 (i : Nat) : Option (List Nat) := Ev.look i []
noncomputable def Gg125 (f156 : YF156) (f : Nat) : Option Ev.Spec := Ev.look f [(156, spg156 f156)]
noncomputable def G125 (fuel : Nat) : Nat → Option Ev.Spec := Gg125 (F_ref05_inside fuel)
noncomputable def J125 (fuel : Nat) (i : Nat) : Option Ev.Blk := Ev.look i []
noncomputable def F_ref05_At (fuel : Nat) (x0 : Int) (x1 : Int) (x2 : (List Int)) (x3 : Int) (x4 : Int) (k0 : (Int) → Option Ans) : Option Ans :=
  (F_ref05_inside fuel (x0) (x1) (x2) (x3) (x4)
    (fun y2 =>
      bif !y2 then
       k0 ((0 : Int))
      else
       bif Decidable.decide ((0 : Int) ≤ Go.IntKind.i64.wrap (Go.IntKind.i64.wrap (x4 * x0) + x3) ∧ Go.IntKind.i64.wrap (Go.IntKind.i64.wrap (x4 * x0) + x3) < (↑x2.length : Int)) then
       k0 (Go.IntKind.i64.wrap (x2.getD (Go.IntKind.i64.wrap (Go.IntKind.i64.wrap (x4 * x0) + x3)).toNat (0 : Int)))
       else none))
abbrev YF125 : Type := (Int) → (Int) → ((List Int)) → (Int) → (Int) → ((Int) → Option Ans) → Option Ans
theorem F125_eqg (fuel : Nat) (f156 : YF156) (x0 : Int) (x1 : Int) (x2 : (List Int)) (x3 : Int) (x4 : Int) (k : Ev.Cont) : evalFn tab (Gg125 f156) (J125 fuel) kp125 fuel Try.f125 [.agg [.int .i64 x0, .int .i64 x1, .sl (.int .u8) x2], .c (.int .i64 x3), .c (.int .i64 x4)] [] k = (fun  (k0 : (Int) → Option Ans) =>
  (f156 (x0) (x1) (x2) (x3) (x4)
    (fun y2 =>
      bif !y2 then
       k0 ((0 : Int))
      else
       bif Decidable.decide ((0 : Int) ≤ Go.IntKind.i64.wrap (Go.IntKind.i64.wrap (x4 * x0) + x3) ∧ Go.IntKind.i64.wrap (Go.IntKind.i64.wrap (x4 * x0) + x3) < (↑x2.length : Int)) then
       k0 (Go.IntKind.i64.wrap (x2.getD (Go.IntKind.i64.wrap (Go.IntKind.i64.wrap (x4 * x0) + x3)).toNat (0 : Int)))
       else none))) (fun r => match r with | r0 => k (.c (.int .i64 r0), [])) := by
  kernel_rfl
theorem F125_eq (fuel : Nat) (x0 : Int) (x1 : Int) (x2 : (List Int)) (x3 : Int) (x4 : Int) (k : Ev.Cont) : evalFn tab (G125 fuel) (J125 fuel) kp125 fuel Try.f125 [.agg [.int .i64 x0, .int .i64 x1, .sl (.int .u8) x2], .c (.int .i64 x3), .c (.int .i64 x4)] [] k = F_ref05_At fuel x0 x1 x2 x3 x4 (fun r => match r with | r0 => k (.c (.int .i64 r0), [])) :=
  F125_eqg fuel (F_ref05_inside fuel) x0 x1 x2 x3 x4 k
theorem hG125 (fuel : Nat) : GOK Try.prog (G125 fuel) :=
  gok_cons ⟨ok156 fuel, enters_of Try.func156 (by kernel_rfl) rfl⟩ <|
  gok_nil
theorem fok125 (fuel : Nat) : FnOK Try.prog 125 (evalFn tab (G125 fuel) (J125 fuel) kp125 fuel Try.f125) :=
  fn_ok tab_ok (hG125 fuel) mixed Try.func125 (c := (Try.f125.body).getD .skip) rfl (fun q hq => by
    rw [(by kernel_rfl : obl (J125 fuel) ((Try.f125.body).getD .skip) = [])] at hq
    cases hq)
noncomputable def mt125 : List Ev.SV → List Ev.Ob → Bool := fun args objs => match args, objs with
  | [.agg [.int .i64 _, .int .i64 _, .sl (.int .u8) _], .c (.int .i64 _), .c (.int .i64 _)], [] => true
  | _, _ => false
noncomputable def spg125 (F : YF125) : Ev.Spec := fun args objs k => match args, objs with
  | [.agg [.int .i64 x0, .int .i64 x1, .sl (.int .u8) x2], .c (.int .i64 x3), .c (.int .i64 x4)], [] => bif true then F x0 x1 x2 x3 x4 (fun r => match r with | r0 => k (.c (.int .i64 r0), [])) else none
  | _, _ => none
noncomputable def spec125 (fuel : Nat) : Ev.Spec := spg125 (F_ref05_At fuel)
theorem ok125 (fuel : Nat) : FnOK Try.prog 125 (spec125 fuel) := by
  intro args objs kk r h
  unfold spec125 spg125 at h
  split at h
  · skip
    obtain ⟨hb, h⟩ := cond_some' h
    simp only [Bool.and_eq_true, Nat.beq_eq, decide_eq_true_eq] at hb
    clear hb
    exact fok125 fuel _ _ kk r ((F125_eq fuel _ _ _ _ _ kk).trans h)
  · cases h
end Go.Proofs.Ytihfgpfofmjbaaa

