/- What the functions that SymbolOrders reaches do: their typed texts, each with the proof that the machine does it. No condition. -/
import Derived.Test.YtmjeeaemmbkioaaGreatEvX
import Derived.Test.YtmjeeaemmbkioaaGreatFsSymbolOrders3
set_option linter.unusedVariables false
set_option linter.unusedSimpArgs false
set_option linter.unusedSectionVars false
set_option linter.unusedVariables false
set_option linter.unusedSimpArgs false
set_option maxRecDepth 100000
set_option maxHeartbeats 2000000
namespace Go.Proofs.YtmjeeaemmbkioaaGreat
open Go Ev
def kp127_dbe (i : Nat) : Option (List Nat) := Ev.look i [(1, [0, 1, 2, 3, 8]), (4, [0, 1, 2, 3, 8, 9]), (100000, []), (100002, [0, 1, 2, 3, 8]), (200004, [0]), (400000, []), (400002, [])]
noncomputable def Gg127_dbe (f45_21d : YF45_21d) (f : Nat) : Option Ev.Spec := Ev.look f [(45, spg45_21d f45_21d)]
noncomputable def G127_dbe (fuel : Nat) : Nat → Option Ev.Spec := Gg127_dbe (F_symbol_Order_2_21d fuel)
noncomputable def S_slices_insertionSortCmpFunc_int_dbe_2 (fuel : Nat) (v : Int × Int × Int × Int × (List Int) × (List (Int × (Int × (List Int))))) (c : (Int × Int × Int × Int × (List Int) × (List (Int × (Int × (List Int))))) → Option Ans) (B : (Int × Int × Int × (List Int) × (List (Int × (Int × (List Int)))) → Option Ans)) : Option Ans := match v, B with
  | (x0, x1, x2, x3, x4, x5), b =>
   bif Decidable.decide (x3 > x0) then
      bif Decidable.decide ((0 : Int) ≤ x3 ∧ x3 < (↑x4.length : Int)) then
      bif Decidable.decide ((0 : Int) ≤ Go.IntKind.i64.wrap (x3 - (1 : Int)) ∧ Go.IntKind.i64.wrap (x3 - (1 : Int)) < (↑x4.length : Int)) then
       both ((F_symbol_Order_2_21d fuel (x4.getD x3.toNat (0 : Int)) (x4.getD (Go.IntKind.i64.wrap (x3 - (1 : Int))).toNat (0 : Int)) (x5)
            (fun (y7_0, y7_1) =>
              bif Decidable.decide (y7_0 < (0 : Int)) then
               bif Decidable.decide ((0 : Int) ≤ Go.IntKind.i64.wrap (x3 - (1 : Int)) ∧ Go.IntKind.i64.wrap (x3 - (1 : Int)) < (↑x4.length : Int)) then
               bif Decidable.decide ((0 : Int) ≤ x3 ∧ x3 < (↑x4.length : Int)) then
                both (bif Decidable.decide ((0 : Int) ≤ x3 ∧ x3 < (↑x4.length : Int)) then
                   bif Decidable.decide ((0 : Int) ≤ Go.IntKind.i64.wrap (x3 - (1 : Int)) ∧ Go.IntKind.i64.wrap (x3 - (1 : Int)) < (↑(x4.set x3.toNat (x4.getD (Go.IntKind.i64.wrap (x3 - (1 : Int))).toNat (0 : Int))).length : Int)) then
                    c (x0, x1, x2, Go.IntKind.i64.wrap (x3 - (1 : Int)), (x4.set x3.toNat (x4.getD (Go.IntKind.i64.wrap (x3 - (1 : Int))).toNat (0 : Int))).set (Go.IntKind.i64.wrap (x3 - (1 : Int))).toNat (x4.getD x3.toNat (0 : Int)), y7_1)
                    else none
                   else none)
                  (bif Decidable.decide ((0 : Int) ≤ x3 ∧ x3 < (↑x4.length : Int)) then
                   bif Decidable.decide ((0 : Int) ≤ Go.IntKind.i64.wrap (x3 - (1 : Int)) ∧ Go.IntKind.i64.wrap (x3 - (1 : Int)) < (↑(x4.set x3.toNat (x4.getD (Go.IntKind.i64.wrap (x3 - (1 : Int))).toNat (0 : Int))).length : Int)) then
                    c (x0, x1, x2, Go.IntKind.i64.wrap (x3 - (1 : Int)), (x4.set x3.toNat (x4.getD (Go.IntKind.i64.wrap (x3 - (1 : Int))).toNat (0 : Int))).set (Go.IntKind.i64.wrap (x3 - (1 : Int))).toNat (x4.getD x3.toNat (0 : Int)), y7_1)
                    else none
                   else none)
                else none
               else none
              else
               b (x0, x1, x2, x4, y7_1))))
         ((F_symbol_Order_2_21d fuel (x4.getD x3.toNat (0 : Int)) (x4.getD (Go.IntKind.i64.wrap (x3 - (1 : Int))).toNat (0 : Int)) (x5)
            (fun (y7_0, y7_1) =>
              bif Decidable.decide (y7_0 < (0 : Int)) then
               bif Decidable.decide ((0 : Int) ≤ Go.IntKind.i64.wrap (x3 - (1 : Int)) ∧ Go.IntKind.i64.wrap (x3 - (1 : Int)) < (↑x4.length : Int)) then
               bif Decidable.decide ((0 : Int) ≤ x3 ∧ x3 < (↑x4.length : Int)) then
                both (bif Decidable.decide ((0 : Int) ≤ x3 ∧ x3 < (↑x4.length : Int)) then
                   bif Decidable.decide ((0 : Int) ≤ Go.IntKind.i64.wrap (x3 - (1 : Int)) ∧ Go.IntKind.i64.wrap (x3 - (1 : Int)) < (↑(x4.set x3.toNat (x4.getD (Go.IntKind.i64.wrap (x3 - (1 : Int))).toNat (0 : Int))).length : Int)) then
                    c (x0, x1, x2, Go.IntKind.i64.wrap (x3 - (1 : Int)), (x4.set x3.toNat (x4.getD (Go.IntKind.i64.wrap (x3 - (1 : Int))).toNat (0 : Int))).set (Go.IntKind.i64.wrap (x3 - (1 : Int))).toNat (x4.getD x3.toNat (0 : Int)), y7_1)
                    else none
                   else none)
                  (bif Decidable.decide ((0 : Int) ≤ x3 ∧ x3 < (↑x4.length : Int)) then
                   bif Decidable.decide ((0 : Int) ≤ Go.IntKind.i64.wrap (x3 - (1 : Int)) ∧ Go.IntKind.i64.wrap (x3 - (1 : Int)) < (↑(x4.set x3.toNat (x4.getD (Go.IntKind.i64.wrap (x3 - (1 : Int))).toNat (0 : Int))).length : Int)) then
                    c (x0, x1, x2, Go.IntKind.i64.wrap (x3 - (1 : Int)), (x4.set x3.toNat (x4.getD (Go.IntKind.i64.wrap (x3 - (1 : Int))).toNat (0 : Int))).set (Go.IntKind.i64.wrap (x3 - (1 : Int))).toNat (x4.getD x3.toNat (0 : Int)), y7_1)
                    else none
                   else none)
                else none
               else none
              else
               b (x0, x1, x2, x4, y7_1))))
       else none
      else none
     else
      b (x0, x1, x2, x4, x5)
noncomputable def L_slices_insertionSortCmpFunc_int_dbe_2 (fuel : Nat) (v : Int × Int × Int × Int × (List Int) × (List (Int × (Int × (List Int))))) (b : (Int × Int × Int × (List Int) × (List (Int × (Int × (List Int)))) → Option Ans)) : Option Ans := iter (S_slices_insertionSortCmpFunc_int_dbe_2 fuel) fuel v b
noncomputable def J127_dbe_2 (fuel : Nat) (i : Nat) : Option Ev.Blk := Ev.look i []
noncomputable def T127_dbe_2 (v : Int × Int × Int × Int × (List Int) × (List (Int × (Int × (List Int))))) : Ev.St := match v with | (x0, x1, x2, x3, x4, x5) => ⟨[(0, .c (.own 0)), (1, .c (.int .i64 x0)), (2, .c (.int .i64 x1)), (3, .c (.clo 45 [1])), (8, .c (.int .i64 x2)), (9, .c (.int .i64 x3))], [(0, .vec 3 (.int .i64) x4 false), (1, .cells 35 [.sl (.pair (.int .i64) (.pair (.int .i64) (.sl (.int .u8)))) x5])], 2, 2⟩
noncomputable def E127_dbe_2 (K : Ev.Ex → Ev.St → Option Ans) : (Int × Int × Int × (List Int) × (List (Int × (Int × (List Int)))) → Option Ans) := (fun v => match v with | (x0, x1, x2, x3, x4) => K .normal ⟨[(0, .c (.own 0)), (1, .c (.int .i64 x0)), (2, .c (.int .i64 x1)), (3, .c (.clo 45 [1])), (8, .c (.int .i64 x2))], [(0, .vec 3 (.int .i64) x3 false), (1, .cells 35 [.sl (.pair (.int .i64) (.pair (.int .i64) (.sl (.int .u8)))) x4])], 2, 2⟩)
theorem S127_dbe_2_okg (fuel : Nat) (f45_21d : YF45_21d) (R : Ev.St → Option Ans) (K : Ev.Ex → Ev.St → Option Ans) (x0 : Int) (x1 : Int) (x2 : Int) (x3 : Int) (x4 : (List Int)) (x5 : (List (Int × (Int × (List Int))))) : evalCode tab (Gg127_dbe f45_21d) (J127_dbe_2 fuel) kp127_dbe fuel (bodyOf 2 Tryz.f127) (T127_dbe_2 (x0, x1, x2, x3, x4, x5)) (lc kp127_dbe 4 2 R K) = (fun (c : (Int × Int × Int × Int × (List Int) × (List (Int × (Int × (List Int))))) → Option Ans) (B : (Int × Int × Int × (List Int) × (List (Int × (Int × (List Int)))) → Option Ans)) => match B with
  | b =>
   bif Decidable.decide (x3 > x0) then
      bif Decidable.decide ((0 : Int) ≤ x3 ∧ x3 < (↑x4.length : Int)) then
      bif Decidable.decide ((0 : Int) ≤ Go.IntKind.i64.wrap (x3 - (1 : Int)) ∧ Go.IntKind.i64.wrap (x3 - (1 : Int)) < (↑x4.length : Int)) then
       both ((f45_21d (x4.getD x3.toNat (0 : Int)) (x4.getD (Go.IntKind.i64.wrap (x3 - (1 : Int))).toNat (0 : Int)) (x5)
            (fun (y7_0, y7_1) =>
              bif Decidable.decide (y7_0 < (0 : Int)) then
               bif Decidable.decide ((0 : Int) ≤ Go.IntKind.i64.wrap (x3 - (1 : Int)) ∧ Go.IntKind.i64.wrap (x3 - (1 : Int)) < (↑x4.length : Int)) then
               bif Decidable.decide ((0 : Int) ≤ x3 ∧ x3 < (↑x4.length : Int)) then
                both (bif Decidable.decide ((0 : Int) ≤ x3 ∧ x3 < (↑x4.length : Int)) then
                   bif Decidable.decide ((0 : Int) ≤ Go.IntKind.i64.wrap (x3 - (1 : Int)) ∧ Go.IntKind.i64.wrap (x3 - (1 : Int)) < (↑(x4.set x3.toNat (x4.getD (Go.IntKind.i64.wrap (x3 - (1 : Int))).toNat (0 : Int))).length : Int)) then
                    c (x0, x1, x2, Go.IntKind.i64.wrap (x3 - (1 : Int)), (x4.set x3.toNat (x4.getD (Go.IntKind.i64.wrap (x3 - (1 : Int))).toNat (0 : Int))).set (Go.IntKind.i64.wrap (x3 - (1 : Int))).toNat (x4.getD x3.toNat (0 : Int)), y7_1)
                    else none
                   else none)
                  (bif Decidable.decide ((0 : Int) ≤ x3 ∧ x3 < (↑x4.length : Int)) then
                   bif Decidable.decide ((0 : Int) ≤ Go.IntKind.i64.wrap (x3 - (1 : Int)) ∧ Go.IntKind.i64.wrap (x3 - (1 : Int)) < (↑(x4.set x3.toNat (x4.getD (Go.IntKind.i64.wrap (x3 - (1 : Int))).toNat (0 : Int))).length : Int)) then
                    c (x0, x1, x2, Go.IntKind.i64.wrap (x3 - (1 : Int)), (x4.set x3.toNat (x4.getD (Go.IntKind.i64.wrap (x3 - (1 : Int))).toNat (0 : Int))).set (Go.IntKind.i64.wrap (x3 - (1 : Int))).toNat (x4.getD x3.toNat (0 : Int)), y7_1)
                    else none
                   else none)
                else none
               else none
              else
               b (x0, x1, x2, x4, y7_1))))
         ((f45_21d (x4.getD x3.toNat (0 : Int)) (x4.getD (Go.IntKind.i64.wrap (x3 - (1 : Int))).toNat (0 : Int)) (x5)
            (fun (y7_0, y7_1) =>
              bif Decidable.decide (y7_0 < (0 : Int)) then
               bif Decidable.decide ((0 : Int) ≤ Go.IntKind.i64.wrap (x3 - (1 : Int)) ∧ Go.IntKind.i64.wrap (x3 - (1 : Int)) < (↑x4.length : Int)) then
               bif Decidable.decide ((0 : Int) ≤ x3 ∧ x3 < (↑x4.length : Int)) then
                both (bif Decidable.decide ((0 : Int) ≤ x3 ∧ x3 < (↑x4.length : Int)) then
                   bif Decidable.decide ((0 : Int) ≤ Go.IntKind.i64.wrap (x3 - (1 : Int)) ∧ Go.IntKind.i64.wrap (x3 - (1 : Int)) < (↑(x4.set x3.toNat (x4.getD (Go.IntKind.i64.wrap (x3 - (1 : Int))).toNat (0 : Int))).length : Int)) then
                    c (x0, x1, x2, Go.IntKind.i64.wrap (x3 - (1 : Int)), (x4.set x3.toNat (x4.getD (Go.IntKind.i64.wrap (x3 - (1 : Int))).toNat (0 : Int))).set (Go.IntKind.i64.wrap (x3 - (1 : Int))).toNat (x4.getD x3.toNat (0 : Int)), y7_1)
                    else none
                   else none)
                  (bif Decidable.decide ((0 : Int) ≤ x3 ∧ x3 < (↑x4.length : Int)) then
                   bif Decidable.decide ((0 : Int) ≤ Go.IntKind.i64.wrap (x3 - (1 : Int)) ∧ Go.IntKind.i64.wrap (x3 - (1 : Int)) < (↑(x4.set x3.toNat (x4.getD (Go.IntKind.i64.wrap (x3 - (1 : Int))).toNat (0 : Int))).length : Int)) then
                    c (x0, x1, x2, Go.IntKind.i64.wrap (x3 - (1 : Int)), (x4.set x3.toNat (x4.getD (Go.IntKind.i64.wrap (x3 - (1 : Int))).toNat (0 : Int))).set (Go.IntKind.i64.wrap (x3 - (1 : Int))).toNat (x4.getD x3.toNat (0 : Int)), y7_1)
                    else none
                   else none)
                else none
               else none
              else
               b (x0, x1, x2, x4, y7_1))))
       else none
      else none
     else
      b (x0, x1, x2, x4, x5)) (fun v => R (T127_dbe_2 v)) (E127_dbe_2 K) := by
  kernel_rfl
theorem S127_dbe_2_ok (fuel : Nat) (R : Ev.St → Option Ans) (K : Ev.Ex → Ev.St → Option Ans) (x0 : Int) (x1 : Int) (x2 : Int) (x3 : Int) (x4 : (List Int)) (x5 : (List (Int × (Int × (List Int))))) : evalCode tab (G127_dbe fuel) (J127_dbe_2 fuel) kp127_dbe fuel (bodyOf 2 Tryz.f127) (T127_dbe_2 (x0, x1, x2, x3, x4, x5)) (lc kp127_dbe 4 2 R K) = S_slices_insertionSortCmpFunc_int_dbe_2 fuel (x0, x1, x2, x3, x4, x5) (fun v => R (T127_dbe_2 v)) (E127_dbe_2 K) :=
  S127_dbe_2_okg fuel (F_symbol_Order_2_21d fuel) R K x0 x1 x2 x3 x4 x5
noncomputable def B127_dbe_2 (fuel : Nat) : Ev.Blk := fun st K => match canonO (kp127_dbe 4) st with
  | some s => (match s with
    | ⟨[(q0, .c (.own q1)), (q2, .c (.int .i64 x0)), (q3, .c (.int .i64 x1)), (q4, .c (.clo q5 [q6])), (q7, .c (.int .i64 x2)), (q8, .c (.int .i64 x3))], [(q9, .vec q10 (.int .i64) x4 false), (q11, .cells q12 [.sl (.pair (.int .i64) (.pair (.int .i64) (.sl (.int .u8)))) x5])], q13, q14⟩ => bif Nat.beq q0 0 && Nat.beq q1 0 && Nat.beq q2 1 && Nat.beq q3 2 && Nat.beq q4 3 && Nat.beq q5 45 && Nat.beq q6 1 && Nat.beq q7 8 && Nat.beq q8 9 && Nat.beq q9 0 && Nat.beq q10 3 && Nat.beq q11 1 && Nat.beq q12 35 && Nat.beq q13 2 && Nat.beq q14 2 then iter (S_slices_insertionSortCmpFunc_int_dbe_2 fuel) fuel (x0, x1, x2, x3, x4, x5) (E127_dbe_2 K) else none
    | _ => none)
  | none => none
theorem B127_dbe_2_ok (fuel : Nat) (st : Ev.St) (K : Ev.Ex → Ev.St → Option Ans) (r : Ans) (h : B127_dbe_2 fuel st K = some r) : evalCode tab (G127_dbe fuel) (J127_dbe_2 fuel) kp127_dbe fuel (.block 2 (.loop (bodyOf 2 Tryz.f127))) st K = some r := by
  unfold B127_dbe_2 at h
  split at h
  · rename_i s hs
    split at h
    · skip
      obtain ⟨hb, h⟩ := cond_some' h
      simp only [Bool.and_eq_true, Nat.beq_eq, decide_eq_true_eq] at hb
      obtain ⟨⟨⟨⟨⟨⟨⟨⟨⟨⟨⟨⟨⟨⟨rfl, rfl⟩, rfl⟩, rfl⟩, rfl⟩, rfl⟩, rfl⟩, rfl⟩, rfl⟩, rfl⟩, rfl⟩, rfl⟩, rfl⟩, rfl⟩, rfl⟩ := hb
      exact blk_loop (S := T127_dbe_2) (ks := E127_dbe_2) (step := S_slices_insertionSortCmpFunc_int_dbe_2 fuel) (v := (_, _, _, _, _, _)) (by kernel_rfl) (by kernel_rfl) (fun R K v => by obtain ⟨x0, x1, x2, x3, x4, x5⟩ := v; exact S127_dbe_2_ok fuel R K x0 x1 x2 x3 x4 x5) hs h
    · cases h
  · cases h
noncomputable def S_slices_insertionSortCmpFunc_int_dbe_0 (fuel : Nat) (v : Int × Int × Int × (List Int) × (List (Int × (Int × (List Int))))) (c : (Int × Int × Int × (List Int) × (List (Int × (Int × (List Int))))) → Option Ans) (B : ((List Int) × (List (Int × (Int × (List Int)))) → Option Ans)) : Option Ans := match v, B with
  | (x0, x1, x2, x3, x4), b =>
   bif Decidable.decide (x2 < x1) then
      (L_slices_insertionSortCmpFunc_int_dbe_2 fuel (x0, x1, x2, x2, x3, x4)
        (fun (b2_0, b2_1, b2_2, b2_3, b2_4) =>
          c (b2_0, b2_1, Go.IntKind.i64.wrap (b2_2 + (1 : Int)), b2_3, b2_4)))
     else
      b (x3, x4)
noncomputable def L_slices_insertionSortCmpFunc_int_dbe_0 (fuel : Nat) (v : Int × Int × Int × (List Int) × (List (Int × (Int × (List Int))))) (b : ((List Int) × (List (Int × (Int × (List Int)))) → Option Ans)) : Option Ans := iter (S_slices_insertionSortCmpFunc_int_dbe_0 fuel) fuel v b
noncomputable def J127_dbe_0 (fuel : Nat) (i : Nat) : Option Ev.Blk := Ev.look i [(100002, B127_dbe_2 fuel)]
noncomputable def T127_dbe_0 (v : Int × Int × Int × (List Int) × (List (Int × (Int × (List Int))))) : Ev.St := match v with | (x0, x1, x2, x3, x4) => ⟨[(0, .c (.own 0)), (1, .c (.int .i64 x0)), (2, .c (.int .i64 x1)), (3, .c (.clo 45 [1])), (8, .c (.int .i64 x2))], [(0, .vec 3 (.int .i64) x3 false), (1, .cells 35 [.sl (.pair (.int .i64) (.pair (.int .i64) (.sl (.int .u8)))) x4])], 2, 2⟩
noncomputable def E127_dbe_0 (K : Ev.Ex → Ev.St → Option Ans) : ((List Int) × (List (Int × (Int × (List Int)))) → Option Ans) := (fun v => match v with | (x0, x1) => K .normal ⟨[], [(0, .vec 3 (.int .i64) x0 false), (1, .cells 35 [.sl (.pair (.int .i64) (.pair (.int .i64) (.sl (.int .u8)))) x1])], 2, 2⟩)
theorem S127_dbe_0_okg (fuel : Nat) (f45_21d : YF45_21d) (R : Ev.St → Option Ans) (K : Ev.Ex → Ev.St → Option Ans) (x0 : Int) (x1 : Int) (x2 : Int) (x3 : (List Int)) (x4 : (List (Int × (Int × (List Int))))) : evalCode tab (Gg127_dbe f45_21d) (J127_dbe_0 fuel) kp127_dbe fuel (bodyOf 0 Tryz.f127) (T127_dbe_0 (x0, x1, x2, x3, x4)) (lc kp127_dbe 1 0 R K) = (fun (c : (Int × Int × Int × (List Int) × (List (Int × (Int × (List Int))))) → Option Ans) (B : ((List Int) × (List (Int × (Int × (List Int)))) → Option Ans)) => match B with
  | b =>
   bif Decidable.decide (x2 < x1) then
      (L_slices_insertionSortCmpFunc_int_dbe_2 fuel (x0, x1, x2, x2, x3, x4)
        (fun (b2_0, b2_1, b2_2, b2_3, b2_4) =>
          c (b2_0, b2_1, Go.IntKind.i64.wrap (b2_2 + (1 : Int)), b2_3, b2_4)))
     else
      b (x3, x4)) (fun v => R (T127_dbe_0 v)) (E127_dbe_0 K) := by
  kernel_rfl
theorem S127_dbe_0_ok (fuel : Nat) (R : Ev.St → Option Ans) (K : Ev.Ex → Ev.St → Option Ans) (x0 : Int) (x1 : Int) (x2 : Int) (x3 : (List Int)) (x4 : (List (Int × (Int × (List Int))))) : evalCode tab (G127_dbe fuel) (J127_dbe_0 fuel) kp127_dbe fuel (bodyOf 0 Tryz.f127) (T127_dbe_0 (x0, x1, x2, x3, x4)) (lc kp127_dbe 1 0 R K) = S_slices_insertionSortCmpFunc_int_dbe_0 fuel (x0, x1, x2, x3, x4) (fun v => R (T127_dbe_0 v)) (E127_dbe_0 K) :=
  S127_dbe_0_okg fuel (F_symbol_Order_2_21d fuel) R K x0 x1 x2 x3 x4
noncomputable def B127_dbe_0 (fuel : Nat) : Ev.Blk := fun st K => match canonO (kp127_dbe 1) st with
  | some s => (match s with
    | ⟨[(q0, .c (.own q1)), (q2, .c (.int .i64 x0)), (q3, .c (.int .i64 x1)), (q4, .c (.clo q5 [q6])), (q7, .c (.int .i64 x2))], [(q8, .vec q9 (.int .i64) x3 false), (q10, .cells q11 [.sl (.pair (.int .i64) (.pair (.int .i64) (.sl (.int .u8)))) x4])], q12, q13⟩ => bif Nat.beq q0 0 && Nat.beq q1 0 && Nat.beq q2 1 && Nat.beq q3 2 && Nat.beq q4 3 && Nat.beq q5 45 && Nat.beq q6 1 && Nat.beq q7 8 && Nat.beq q8 0 && Nat.beq q9 3 && Nat.beq q10 1 && Nat.beq q11 35 && Nat.beq q12 2 && Nat.beq q13 2 then iter (S_slices_insertionSortCmpFunc_int_dbe_0 fuel) fuel (x0, x1, x2, x3, x4) (E127_dbe_0 K) else none
    | _ => none)
  | none => none
theorem B127_dbe_0_ok (fuel : Nat) (st : Ev.St) (K : Ev.Ex → Ev.St → Option Ans) (r : Ans) (h : B127_dbe_0 fuel st K = some r) : evalCode tab (G127_dbe fuel) (J127_dbe_0 fuel) kp127_dbe fuel (.block 0 (.loop (bodyOf 0 Tryz.f127))) st K = some r := by
  unfold B127_dbe_0 at h
  split at h
  · rename_i s hs
    split at h
    · skip
      obtain ⟨hb, h⟩ := cond_some' h
      simp only [Bool.and_eq_true, Nat.beq_eq, decide_eq_true_eq] at hb
      obtain ⟨⟨⟨⟨⟨⟨⟨⟨⟨⟨⟨⟨⟨rfl, rfl⟩, rfl⟩, rfl⟩, rfl⟩, rfl⟩, rfl⟩, rfl⟩, rfl⟩, rfl⟩, rfl⟩, rfl⟩, rfl⟩, rfl⟩ := hb
      exact blk_loop (S := T127_dbe_0) (ks := E127_dbe_0) (step := S_slices_insertionSortCmpFunc_int_dbe_0 fuel) (v := (_, _, _, _, _)) (by kernel_rfl) (by kernel_rfl) (fun R K v => by obtain ⟨x0, x1, x2, x3, x4⟩ := v; exact S127_dbe_0_ok fuel R K x0 x1 x2 x3 x4) hs h
    · cases h
  · cases h
noncomputable def J127_dbe (fuel : Nat) (i : Nat) : Option Ev.Blk := Ev.look i [(100002, B127_dbe_2 fuel), (100000, B127_dbe_0 fuel)]
noncomputable def F_slices_insertionSortCmpFunc_int_dbe (fuel : Nat) (x0 : Int) (x1 : Int) (x2 : (List Int)) (x3 : (List (Int × (Int × (List Int))))) (k0 : ((List Int) × (List (Int × (Int × (List Int))))) → Option Ans) : Option Ans :=
  (L_slices_insertionSortCmpFunc_int_dbe_0 fuel (x0, x1, Go.IntKind.i64.wrap (x0 + (1 : Int)), x2, x3)
    (fun (b0_0, b0_1) =>
      k0 (b0_0, b0_1)))
abbrev YF127_dbe : Type := (Int) → (Int) → ((List Int)) → ((List (Int × (Int × (List Int))))) → (((List Int) × (List (Int × (Int × (List Int))))) → Option Ans) → Option Ans
theorem F127_dbe_eqg (fuel : Nat) (f45_21d : YF45_21d) (x0 : Int) (x1 : Int) (x2 : (List Int)) (x3 : (List (Int × (Int × (List Int))))) (k : Ev.Cont) : evalFn tab (Gg127_dbe f45_21d) (J127_dbe fuel) kp127_dbe fuel Tryz.f127 [.c (.own 0), .c (.int .i64 x0), .c (.int .i64 x1), .c (.clo 45 [1])] [.vec 3 (.int .i64) x2 false, .cells 35 [.sl (.pair (.int .i64) (.pair (.int .i64) (.sl (.int .u8)))) x3]] k = (fun  (k0 : ((List Int) × (List (Int × (Int × (List Int))))) → Option Ans) =>
  (L_slices_insertionSortCmpFunc_int_dbe_0 fuel (x0, x1, Go.IntKind.i64.wrap (x0 + (1 : Int)), x2, x3)
    (fun (b0_0, b0_1) =>
      k0 (b0_0, b0_1)))) (fun r => match r with | (r0, r1) => k (.tup [], [.vec 3 (.int .i64) r0 false, .cells 35 [.sl (.pair (.int .i64) (.pair (.int .i64) (.sl (.int .u8)))) r1]])) := by
  kernel_rfl
theorem F127_dbe_eq (fuel : Nat) (x0 : Int) (x1 : Int) (x2 : (List Int)) (x3 : (List (Int × (Int × (List Int))))) (k : Ev.Cont) : evalFn tab (G127_dbe fuel) (J127_dbe fuel) kp127_dbe fuel Tryz.f127 [.c (.own 0), .c (.int .i64 x0), .c (.int .i64 x1), .c (.clo 45 [1])] [.vec 3 (.int .i64) x2 false, .cells 35 [.sl (.pair (.int .i64) (.pair (.int .i64) (.sl (.int .u8)))) x3]] k = F_slices_insertionSortCmpFunc_int_dbe fuel x0 x1 x2 x3 (fun r => match r with | (r0, r1) => k (.tup [], [.vec 3 (.int .i64) r0 false, .cells 35 [.sl (.pair (.int .i64) (.pair (.int .i64) (.sl (.int .u8)))) r1]])) :=
  F127_dbe_eqg fuel (F_symbol_Order_2_21d fuel) x0 x1 x2 x3 k
theorem hG127_dbe (fuel : Nat) : GOK Tryz.prog (G127_dbe fuel) :=
  gok_cons ⟨ok45_21d fuel, enters_of Tryz.func45 (by kernel_rfl) rfl⟩ <|
  gok_nil
theorem B127_dbe_2_blk (fuel : Nat) : BlkOK Tryz.prog Tryz.f127.ntmps (.block 2 (.loop (bodyOf 2 Tryz.f127))) (B127_dbe_2 fuel) :=
  blk_of (blk_of_code tab_ok (hG127_dbe fuel) mixed (J := J127_dbe_2 fuel) (kp := kp127_dbe) (fuel := fuel) (by kernel_rfl) (fun q hq => by
    rw [(by kernel_rfl : obl (J127_dbe_2 fuel) (.block 2 (.loop (bodyOf 2 Tryz.f127))) = [])] at hq
    cases hq)) (B127_dbe_2_ok fuel)
theorem B127_dbe_0_blk (fuel : Nat) : BlkOK Tryz.prog Tryz.f127.ntmps (.block 0 (.loop (bodyOf 0 Tryz.f127))) (B127_dbe_0 fuel) :=
  blk_of (blk_of_code tab_ok (hG127_dbe fuel) mixed (J := J127_dbe_0 fuel) (kp := kp127_dbe) (fuel := fuel) (by kernel_rfl) (fun q hq => by
    rw [(by kernel_rfl : obl (J127_dbe_0 fuel) (.block 0 (.loop (bodyOf 0 Tryz.f127))) = [(.block 2 (.loop (bodyOf 2 Tryz.f127)), B127_dbe_2 fuel)])] at hq
    simp only [List.mem_cons, List.not_mem_nil, or_false] at hq
    subst hq
    · exact B127_dbe_2_blk fuel)) (B127_dbe_0_ok fuel)
theorem fok127_dbe (fuel : Nat) : FnOK Tryz.prog 127 (evalFn tab (G127_dbe fuel) (J127_dbe fuel) kp127_dbe fuel Tryz.f127) :=
  fn_ok tab_ok (hG127_dbe fuel) mixed Tryz.func127 (c := (Tryz.f127.body).getD .skip) rfl (fun q hq => by
    rw [(by kernel_rfl : obl (J127_dbe fuel) ((Tryz.f127.body).getD .skip) = [(.block 0 (.loop (bodyOf 0 Tryz.f127)), B127_dbe_0 fuel)])] at hq
    simp only [List.mem_cons, List.not_mem_nil, or_false] at hq
    subst hq
    · exact B127_dbe_0_blk fuel)
noncomputable def mt127_dbe : List Ev.SV → List Ev.Ob → Bool := fun args objs => match args, objs with
  | [.c (.own q0), .c (.int .i64 _), .c (.int .i64 _), .c (.clo q1 [q2])], [.vec q3 (.int .i64) _ false, .cells q4 [.sl (.pair (.int .i64) (.pair (.int .i64) (.sl (.int .u8)))) _]] => Nat.beq q0 0 && Nat.beq q1 45 && Nat.beq q2 1 && Nat.beq q3 3 && Nat.beq q4 35
  | _, _ => false
noncomputable def spg127_dbe (F : YF127_dbe) : Ev.Spec := fun args objs k => match args, objs with
  | [.c (.own q0), .c (.int .i64 x0), .c (.int .i64 x1), .c (.clo q1 [q2])], [.vec q3 (.int .i64) x2 false, .cells q4 [.sl (.pair (.int .i64) (.pair (.int .i64) (.sl (.int .u8)))) x3]] => bif Nat.beq q0 0 && Nat.beq q1 45 && Nat.beq q2 1 && Nat.beq q3 3 && Nat.beq q4 35 then F x0 x1 x2 x3 (fun r => match r with | (r0, r1) => k (.tup [], [.vec 3 (.int .i64) r0 false, .cells 35 [.sl (.pair (.int .i64) (.pair (.int .i64) (.sl (.int .u8)))) r1]])) else none
  | _, _ => none
noncomputable def spec127_dbe (fuel : Nat) : Ev.Spec := spg127_dbe (F_slices_insertionSortCmpFunc_int_dbe fuel)
theorem ok127_dbe (fuel : Nat) : FnOK Tryz.prog 127 (spec127_dbe fuel) := by
  intro args objs kk r h
  unfold spec127_dbe spg127_dbe at h
  split at h
  · skip
    obtain ⟨hb, h⟩ := cond_some' h
    simp only [Bool.and_eq_true, Nat.beq_eq, decide_eq_true_eq] at hb
    obtain ⟨⟨⟨⟨rfl, rfl⟩, rfl⟩, rfl⟩, rfl⟩ := hb
    exact fok127_dbe fuel _ _ kk r ((F127_dbe_eq fuel _ _ _ _ kk).trans h)
  · cases h
end Go.Proofs.YtmjeeaemmbkioaaGreat

set_option linter.unusedVariables false
set_option linter.unusedSimpArgs false
set_option maxRecDepth 100000
set_option maxHeartbeats 2000000
namespace Go.Proofs.YtmjeeaemmbkioaaGreat
open Go Ev
def kp187_dbb (i : Nat) : Option (List Nat) := Ev.look i [(1, [0, 1, 2, 3, 10]), (100000, []), (400000, [])]
noncomputable def Gg187_dbb (f : Nat) : Option Ev.Spec := Ev.look f []
noncomputable def G187_dbb (fuel : Nat) : Nat → Option Ev.Spec := Gg187_dbb
noncomputable def S_slices_swapRangeCmpFunc_int_dbb_0 (fuel : Nat) (v : Int × Int × Int × Int × (List Int) × (List (Int × (Int × (List Int))))) (c : (Int × Int × Int × Int × (List Int) × (List (Int × (Int × (List Int))))) → Option Ans) (B : ((List Int) × (List (Int × (Int × (List Int)))) → Option Ans)) : Option Ans := match v, B with
  | (x0, x1, x2, x3, x4, x5), b =>
   bif Decidable.decide (x3 < x2) then
      bif Decidable.decide ((0 : Int) ≤ Go.IntKind.i64.wrap (x1 + x3) ∧ Go.IntKind.i64.wrap (x1 + x3) < (↑x4.length : Int)) then
      bif Decidable.decide ((0 : Int) ≤ Go.IntKind.i64.wrap (x0 + x3) ∧ Go.IntKind.i64.wrap (x0 + x3) < (↑x4.length : Int)) then
       both (bif Decidable.decide ((0 : Int) ≤ Go.IntKind.i64.wrap (x0 + x3) ∧ Go.IntKind.i64.wrap (x0 + x3) < (↑x4.length : Int)) then
          bif Decidable.decide ((0 : Int) ≤ Go.IntKind.i64.wrap (x1 + x3) ∧ Go.IntKind.i64.wrap (x1 + x3) < (↑(x4.set (Go.IntKind.i64.wrap (x0 + x3)).toNat (x4.getD (Go.IntKind.i64.wrap (x1 + x3)).toNat (0 : Int))).length : Int)) then
           c (x0, x1, x2, Go.IntKind.i64.wrap (x3 + (1 : Int)), (x4.set (Go.IntKind.i64.wrap (x0 + x3)).toNat (x4.getD (Go.IntKind.i64.wrap (x1 + x3)).toNat (0 : Int))).set (Go.IntKind.i64.wrap (x1 + x3)).toNat (x4.getD (Go.IntKind.i64.wrap (x0 + x3)).toNat (0 : Int)), x5)
           else none
          else none)
         (bif Decidable.decide ((0 : Int) ≤ Go.IntKind.i64.wrap (x0 + x3) ∧ Go.IntKind.i64.wrap (x0 + x3) < (↑x4.length : Int)) then
          bif Decidable.decide ((0 : Int) ≤ Go.IntKind.i64.wrap (x1 + x3) ∧ Go.IntKind.i64.wrap (x1 + x3) < (↑(x4.set (Go.IntKind.i64.wrap (x0 + x3)).toNat (x4.getD (Go.IntKind.i64.wrap (x1 + x3)).toNat (0 : Int))).length : Int)) then
           c (x0, x1, x2, Go.IntKind.i64.wrap (x3 + (1 : Int)), (x4.set (Go.IntKind.i64.wrap (x0 + x3)).toNat (x4.getD (Go.IntKind.i64.wrap (x1 + x3)).toNat (0 : Int))).set (Go.IntKind.i64.wrap (x1 + x3)).toNat (x4.getD (Go.IntKind.i64.wrap (x0 + x3)).toNat (0 : Int)), x5)
           else none
          else none)
       else none
      else none
     else
      b (x4, x5)
noncomputable def L_slices_swapRangeCmpFunc_int_dbb_0 (fuel : Nat) (v : Int × Int × Int × Int × (List Int) × (List (Int × (Int × (List Int))))) (b : ((List Int) × (List (Int × (Int × (List Int)))) → Option Ans)) : Option Ans := iter (S_slices_swapRangeCmpFunc_int_dbb_0 fuel) fuel v b
noncomputable def J187_dbb_0 (fuel : Nat) (i : Nat) : Option Ev.Blk := Ev.look i []
noncomputable def T187_dbb_0 (v : Int × Int × Int × Int × (List Int) × (List (Int × (Int × (List Int))))) : Ev.St := match v with | (x0, x1, x2, x3, x4, x5) => ⟨[(0, .c (.own 0)), (1, .c (.int .i64 x0)), (2, .c (.int .i64 x1)), (3, .c (.int .i64 x2)), (10, .c (.int .i64 x3))], [(0, .vec 3 (.int .i64) x4 false), (1, .cells 35 [.sl (.pair (.int .i64) (.pair (.int .i64) (.sl (.int .u8)))) x5])], 2, 2⟩
noncomputable def E187_dbb_0 (K : Ev.Ex → Ev.St → Option Ans) : ((List Int) × (List (Int × (Int × (List Int)))) → Option Ans) := (fun v => match v with | (x0, x1) => K .normal ⟨[], [(0, .vec 3 (.int .i64) x0 false), (1, .cells 35 [.sl (.pair (.int .i64) (.pair (.int .i64) (.sl (.int .u8)))) x1])], 2, 2⟩)
theorem S187_dbb_0_ok (fuel : Nat) (R : Ev.St → Option Ans) (K : Ev.Ex → Ev.St → Option Ans) (x0 : Int) (x1 : Int) (x2 : Int) (x3 : Int) (x4 : (List Int)) (x5 : (List (Int × (Int × (List Int))))) : evalCode tab (G187_dbb fuel) (J187_dbb_0 fuel) kp187_dbb fuel (bodyOf 0 Tryz.f187) (T187_dbb_0 (x0, x1, x2, x3, x4, x5)) (lc kp187_dbb 1 0 R K) = S_slices_swapRangeCmpFunc_int_dbb_0 fuel (x0, x1, x2, x3, x4, x5) (fun v => R (T187_dbb_0 v)) (E187_dbb_0 K) := by
  kernel_rfl
noncomputable def B187_dbb_0 (fuel : Nat) : Ev.Blk := fun st K => match canonO (kp187_dbb 1) st with
  | some s => (match s with
    | ⟨[(q0, .c (.own q1)), (q2, .c (.int .i64 x0)), (q3, .c (.int .i64 x1)), (q4, .c (.int .i64 x2)), (q5, .c (.int .i64 x3))], [(q6, .vec q7 (.int .i64) x4 false), (q8, .cells q9 [.sl (.pair (.int .i64) (.pair (.int .i64) (.sl (.int .u8)))) x5])], q10, q11⟩ => bif Nat.beq q0 0 && Nat.beq q1 0 && Nat.beq q2 1 && Nat.beq q3 2 && Nat.beq q4 3 && Nat.beq q5 10 && Nat.beq q6 0 && Nat.beq q7 3 && Nat.beq q8 1 && Nat.beq q9 35 && Nat.beq q10 2 && Nat.beq q11 2 then iter (S_slices_swapRangeCmpFunc_int_dbb_0 fuel) fuel (x0, x1, x2, x3, x4, x5) (E187_dbb_0 K) else none
    | _ => none)
  | none => none
theorem B187_dbb_0_ok (fuel : Nat) (st : Ev.St) (K : Ev.Ex → Ev.St → Option Ans) (r : Ans) (h : B187_dbb_0 fuel st K = some r) : evalCode tab (G187_dbb fuel) (J187_dbb_0 fuel) kp187_dbb fuel (.block 0 (.loop (bodyOf 0 Tryz.f187))) st K = some r := by
  unfold B187_dbb_0 at h
  split at h
  · rename_i s hs
    split at h
    · skip
      obtain ⟨hb, h⟩ := cond_some' h
      simp only [Bool.and_eq_true, Nat.beq_eq, decide_eq_true_eq] at hb
      obtain ⟨⟨⟨⟨⟨⟨⟨⟨⟨⟨⟨rfl, rfl⟩, rfl⟩, rfl⟩, rfl⟩, rfl⟩, rfl⟩, rfl⟩, rfl⟩, rfl⟩, rfl⟩, rfl⟩ := hb
      exact blk_loop (S := T187_dbb_0) (ks := E187_dbb_0) (step := S_slices_swapRangeCmpFunc_int_dbb_0 fuel) (v := (_, _, _, _, _, _)) (by kernel_rfl) (by kernel_rfl) (fun R K v => by obtain ⟨x0, x1, x2, x3, x4, x5⟩ := v; exact S187_dbb_0_ok fuel R K x0 x1 x2 x3 x4 x5) hs h
    · cases h
  · cases h
noncomputable def J187_dbb (fuel : Nat) (i : Nat) : Option Ev.Blk := Ev.look i [(100000, B187_dbb_0 fuel)]
noncomputable def F_slices_swapRangeCmpFunc_int_dbb (fuel : Nat) (x0 : Int) (x1 : Int) (x2 : Int) (x3 : (List Int)) (x4 : (List (Int × (Int × (List Int))))) (k0 : ((List Int) × (List (Int × (Int × (List Int))))) → Option Ans) : Option Ans :=
  (L_slices_swapRangeCmpFunc_int_dbb_0 fuel (x0, x1, x2, (0 : Int), x3, x4)
    (fun (b0_0, b0_1) =>
      k0 (b0_0, b0_1)))
abbrev YF187_dbb : Type := (Int) → (Int) → (Int) → ((List Int)) → ((List (Int × (Int × (List Int))))) → (((List Int) × (List (Int × (Int × (List Int))))) → Option Ans) → Option Ans
theorem F187_dbb_eq (fuel : Nat) (x0 : Int) (x1 : Int) (x2 : Int) (x3 : (List Int)) (x4 : (List (Int × (Int × (List Int))))) (k : Ev.Cont) : evalFn tab (G187_dbb fuel) (J187_dbb fuel) kp187_dbb fuel Tryz.f187 [.c (.own 0), .c (.int .i64 x0), .c (.int .i64 x1), .c (.int .i64 x2), .c (.clo 45 [1])] [.vec 3 (.int .i64) x3 false, .cells 35 [.sl (.pair (.int .i64) (.pair (.int .i64) (.sl (.int .u8)))) x4]] k = F_slices_swapRangeCmpFunc_int_dbb fuel x0 x1 x2 x3 x4 (fun r => match r with | (r0, r1) => k (.tup [], [.vec 3 (.int .i64) r0 false, .cells 35 [.sl (.pair (.int .i64) (.pair (.int .i64) (.sl (.int .u8)))) r1]])) := by
  kernel_rfl
theorem hG187_dbb (fuel : Nat) : GOK Tryz.prog (G187_dbb fuel) :=
  gok_nil
theorem B187_dbb_0_blk (fuel : Nat) : BlkOK Tryz.prog Tryz.f187.ntmps (.block 0 (.loop (bodyOf 0 Tryz.f187))) (B187_dbb_0 fuel) :=
  blk_of (blk_of_code tab_ok (hG187_dbb fuel) mixed (J := J187_dbb_0 fuel) (kp := kp187_dbb) (fuel := fuel) (by kernel_rfl) (fun q hq => by
    rw [(by kernel_rfl : obl (J187_dbb_0 fuel) (.block 0 (.loop (bodyOf 0 Tryz.f187))) = [])] at hq
    cases hq)) (B187_dbb_0_ok fuel)
theorem fok187_dbb (fuel : Nat) : FnOK Tryz.prog 187 (evalFn tab (G187_dbb fuel) (J187_dbb fuel) kp187_dbb fuel Tryz.f187) :=
  fn_ok tab_ok (hG187_dbb fuel) mixed Tryz.func187 (c := (Tryz.f187.body).getD .skip) rfl (fun q hq => by
    rw [(by kernel_rfl : obl (J187_dbb fuel) ((Tryz.f187.body).getD .skip) = [(.block 0 (.loop (bodyOf 0 Tryz.f187)), B187_dbb_0 fuel)])] at hq
    simp only [List.mem_cons, List.not_mem_nil, or_false] at hq
    subst hq
    · exact B187_dbb_0_blk fuel)
noncomputable def mt187_dbb : List Ev.SV → List Ev.Ob → Bool := fun args objs => match args, objs with
  | [.c (.own q0), .c (.int .i64 _), .c (.int .i64 _), .c (.int .i64 _), .c (.clo q1 [q2])], [.vec q3 (.int .i64) _ false, .cells q4 [.sl (.pair (.int .i64) (.pair (.int .i64) (.sl (.int .u8)))) _]] => Nat.beq q0 0 && Nat.beq q1 45 && Nat.beq q2 1 && Nat.beq q3 3 && Nat.beq q4 35
  | _, _ => false
noncomputable def spg187_dbb (F : YF187_dbb) : Ev.Spec := fun args objs k => match args, objs with
  | [.c (.own q0), .c (.int .i64 x0), .c (.int .i64 x1), .c (.int .i64 x2), .c (.clo q1 [q2])], [.vec q3 (.int .i64) x3 false, .cells q4 [.sl (.pair (.int .i64) (.pair (.int .i64) (.sl (.int .u8)))) x4]] => bif Nat.beq q0 0 && Nat.beq q1 45 && Nat.beq q2 1 && Nat.beq q3 3 && Nat.beq q4 35 then F x0 x1 x2 x3 x4 (fun r => match r with | (r0, r1) => k (.tup [], [.vec 3 (.int .i64) r0 false, .cells 35 [.sl (.pair (.int .i64) (.pair (.int .i64) (.sl (.int .u8)))) r1]])) else none
  | _, _ => none
noncomputable def spec187_dbb (fuel : Nat) : Ev.Spec := spg187_dbb (F_slices_swapRangeCmpFunc_int_dbb fuel)
theorem ok187_dbb (fuel : Nat) : FnOK Tryz.prog 187 (spec187_dbb fuel) := by
  intro args objs kk r h
  unfold spec187_dbb spg187_dbb at h
  split at h
  · skip
    obtain ⟨hb, h⟩ := cond_some' h
    simp only [Bool.and_eq_true, Nat.beq_eq, decide_eq_true_eq] at hb
    obtain ⟨⟨⟨⟨rfl, rfl⟩, rfl⟩, rfl⟩, rfl⟩ := hb
    exact fok187_dbb fuel _ _ kk r ((F187_dbb_eq fuel _ _ _ _ _ kk).trans h)
  · cases h
end Go.Proofs.YtmjeeaemmbkioaaGreat

set_option linter.unusedVariables false
set_option linter.unusedSimpArgs false
set_option maxRecDepth 100000
set_option maxHeartbeats 2000000
namespace Go.Proofs.YtmjeeaemmbkioaaGreat
open Go Ev
def kp160_dbb (i : Nat) : Option (List Nat) := Ev.look i [(2, [0, 2, 4, 10, 11]), (100000, [0, 2, 4, 10]), (400000, [])]
noncomputable def Gg160_dbb (f187_dbb : YF187_dbb) (f : Nat) : Option Ev.Spec := Ev.look f [(1000187, spg187_dbb f187_dbb)]
noncomputable def G160_dbb (fuel : Nat) : Nat → Option Ev.Spec := Gg160_dbb (F_slices_swapRangeCmpFunc_int_dbb fuel)
noncomputable def S_slices_rotateCmpFunc_int_dbb_0 (fuel : Nat) (v : Int × Int × Int × (List Int) × (List (Int × (Int × (List Int))))) (c : (Int × Int × Int × (List Int) × (List (Int × (Int × (List Int))))) → Option Ans) (B : (Int × Int × (List Int) × (List (Int × (Int × (List Int)))) → Option Ans)) : Option Ans := match v, B with
  | (x0, x1, x2, x3, x4), b =>
   bif x1 != x2 then
      bif Decidable.decide (x1 > x2) then
       (F_slices_swapRangeCmpFunc_int_dbb fuel (Go.IntKind.i64.wrap (x0 - x1)) (x0) (x2) (x3) (x4)
         (fun (y4_0, y4_1) =>
           c (x0, Go.IntKind.i64.wrap (x1 - x2), x2, y4_0, y4_1)))
      else
       (F_slices_swapRangeCmpFunc_int_dbb fuel (Go.IntKind.i64.wrap (x0 - x1)) (Go.IntKind.i64.wrap (Go.IntKind.i64.wrap (x0 + x2) - x1)) (x1) (x3) (x4)
         (fun (y4_0, y4_1) =>
           c (x0, x1, Go.IntKind.i64.wrap (x2 - x1), y4_0, y4_1)))
     else
      b (x0, x1, x3, x4)
noncomputable def L_slices_rotateCmpFunc_int_dbb_0 (fuel : Nat) (v : Int × Int × Int × (List Int) × (List (Int × (Int × (List Int))))) (b : (Int × Int × (List Int) × (List (Int × (Int × (List Int)))) → Option Ans)) : Option Ans := iter (S_slices_rotateCmpFunc_int_dbb_0 fuel) fuel v b
noncomputable def J160_dbb_0 (fuel : Nat) (i : Nat) : Option Ev.Blk := Ev.look i []
noncomputable def T160_dbb_0 (v : Int × Int × Int × (List Int) × (List (Int × (Int × (List Int))))) : Ev.St := match v with | (x0, x1, x2, x3, x4) => ⟨[(0, .c (.own 0)), (2, .c (.int .i64 x0)), (4, .c (.clo 45 [1])), (10, .c (.int .i64 x1)), (11, .c (.int .i64 x2))], [(0, .vec 3 (.int .i64) x3 false), (1, .cells 35 [.sl (.pair (.int .i64) (.pair (.int .i64) (.sl (.int .u8)))) x4])], 2, 2⟩
noncomputable def E160_dbb_0 (K : Ev.Ex → Ev.St → Option Ans) : (Int × Int × (List Int) × (List (Int × (Int × (List Int)))) → Option Ans) := (fun v => match v with | (x0, x1, x2, x3) => K .normal ⟨[(0, .c (.own 0)), (2, .c (.int .i64 x0)), (4, .c (.clo 45 [1])), (10, .c (.int .i64 x1))], [(0, .vec 3 (.int .i64) x2 false), (1, .cells 35 [.sl (.pair (.int .i64) (.pair (.int .i64) (.sl (.int .u8)))) x3])], 2, 2⟩)
theorem S160_dbb_0_okg (fuel : Nat) (f187_dbb : YF187_dbb) (R : Ev.St → Option Ans) (K : Ev.Ex → Ev.St → Option Ans) (x0 : Int) (x1 : Int) (x2 : Int) (x3 : (List Int)) (x4 : (List (Int × (Int × (List Int))))) : evalCode tab (Gg160_dbb f187_dbb) (J160_dbb_0 fuel) kp160_dbb fuel (bodyOf 0 Tryz.f160) (T160_dbb_0 (x0, x1, x2, x3, x4)) (lc kp160_dbb 2 0 R K) = (fun (c : (Int × Int × Int × (List Int) × (List (Int × (Int × (List Int))))) → Option Ans) (B : (Int × Int × (List Int) × (List (Int × (Int × (List Int)))) → Option Ans)) => match B with
  | b =>
   bif x1 != x2 then
      bif Decidable.decide (x1 > x2) then
       (f187_dbb (Go.IntKind.i64.wrap (x0 - x1)) (x0) (x2) (x3) (x4)
         (fun (y4_0, y4_1) =>
           c (x0, Go.IntKind.i64.wrap (x1 - x2), x2, y4_0, y4_1)))
      else
       (f187_dbb (Go.IntKind.i64.wrap (x0 - x1)) (Go.IntKind.i64.wrap (Go.IntKind.i64.wrap (x0 + x2) - x1)) (x1) (x3) (x4)
         (fun (y4_0, y4_1) =>
           c (x0, x1, Go.IntKind.i64.wrap (x2 - x1), y4_0, y4_1)))
     else
      b (x0, x1, x3, x4)) (fun v => R (T160_dbb_0 v)) (E160_dbb_0 K) := by
  kernel_rfl
theorem S160_dbb_0_ok (fuel : Nat) (R : Ev.St → Option Ans) (K : Ev.Ex → Ev.St → Option Ans) (x0 : Int) (x1 : Int) (x2 : Int) (x3 : (List Int)) (x4 : (List (Int × (Int × (List Int))))) : evalCode tab (G160_dbb fuel) (J160_dbb_0 fuel) kp160_dbb fuel (bodyOf 0 Tryz.f160) (T160_dbb_0 (x0, x1, x2, x3, x4)) (lc kp160_dbb 2 0 R K) = S_slices_rotateCmpFunc_int_dbb_0 fuel (x0, x1, x2, x3, x4) (fun v => R (T160_dbb_0 v)) (E160_dbb_0 K) :=
  S160_dbb_0_okg fuel (F_slices_swapRangeCmpFunc_int_dbb fuel) R K x0 x1 x2 x3 x4
noncomputable def B160_dbb_0 (fuel : Nat) : Ev.Blk := fun st K => match canonO (kp160_dbb 2) st with
  | some s => (match s with
    | ⟨[(q0, .c (.own q1)), (q2, .c (.int .i64 x0)), (q3, .c (.clo q4 [q5])), (q6, .c (.int .i64 x1)), (q7, .c (.int .i64 x2))], [(q8, .vec q9 (.int .i64) x3 false), (q10, .cells q11 [.sl (.pair (.int .i64) (.pair (.int .i64) (.sl (.int .u8)))) x4])], q12, q13⟩ => bif Nat.beq q0 0 && Nat.beq q1 0 && Nat.beq q2 2 && Nat.beq q3 4 && Nat.beq q4 45 && Nat.beq q5 1 && Nat.beq q6 10 && Nat.beq q7 11 && Nat.beq q8 0 && Nat.beq q9 3 && Nat.beq q10 1 && Nat.beq q11 35 && Nat.beq q12 2 && Nat.beq q13 2 then iter (S_slices_rotateCmpFunc_int_dbb_0 fuel) fuel (x0, x1, x2, x3, x4) (E160_dbb_0 K) else none
    | _ => none)
  | none => none
theorem B160_dbb_0_ok (fuel : Nat) (st : Ev.St) (K : Ev.Ex → Ev.St → Option Ans) (r : Ans) (h : B160_dbb_0 fuel st K = some r) : evalCode tab (G160_dbb fuel) (J160_dbb_0 fuel) kp160_dbb fuel (.block 0 (.loop (bodyOf 0 Tryz.f160))) st K = some r := by
  unfold B160_dbb_0 at h
  split at h
  · rename_i s hs
    split at h
    · skip
      obtain ⟨hb, h⟩ := cond_some' h
      simp only [Bool.and_eq_true, Nat.beq_eq, decide_eq_true_eq] at hb
      obtain ⟨⟨⟨⟨⟨⟨⟨⟨⟨⟨⟨⟨⟨rfl, rfl⟩, rfl⟩, rfl⟩, rfl⟩, rfl⟩, rfl⟩, rfl⟩, rfl⟩, rfl⟩, rfl⟩, rfl⟩, rfl⟩, rfl⟩ := hb
      exact blk_loop (S := T160_dbb_0) (ks := E160_dbb_0) (step := S_slices_rotateCmpFunc_int_dbb_0 fuel) (v := (_, _, _, _, _)) (by kernel_rfl) (by kernel_rfl) (fun R K v => by obtain ⟨x0, x1, x2, x3, x4⟩ := v; exact S160_dbb_0_ok fuel R K x0 x1 x2 x3 x4) hs h
    · cases h
  · cases h
noncomputable def J160_dbb (fuel : Nat) (i : Nat) : Option Ev.Blk := Ev.look i [(100000, B160_dbb_0 fuel)]
noncomputable def F_slices_rotateCmpFunc_int_dbb (fuel : Nat) (x0 : Int) (x1 : Int) (x2 : Int) (x3 : (List Int)) (x4 : (List (Int × (Int × (List Int))))) (k0 : ((List Int) × (List (Int × (Int × (List Int))))) → Option Ans) : Option Ans :=
  (L_slices_rotateCmpFunc_int_dbb_0 fuel (x1, Go.IntKind.i64.wrap (x1 - x0), Go.IntKind.i64.wrap (x2 - x1), x3, x4)
    (fun (b0_0, b0_1, b0_2, b0_3) =>
      (F_slices_swapRangeCmpFunc_int_dbb fuel (Go.IntKind.i64.wrap (b0_0 - b0_1)) (b0_0) (b0_1) (b0_2) (b0_3)
        (fun (y6_0, y6_1) =>
          k0 (y6_0, y6_1)))))
abbrev YF160_dbb : Type := (Int) → (Int) → (Int) → ((List Int)) → ((List (Int × (Int × (List Int))))) → (((List Int) × (List (Int × (Int × (List Int))))) → Option Ans) → Option Ans
theorem F160_dbb_eqg (fuel : Nat) (f187_dbb : YF187_dbb) (x0 : Int) (x1 : Int) (x2 : Int) (x3 : (List Int)) (x4 : (List (Int × (Int × (List Int))))) (k : Ev.Cont) : evalFn tab (Gg160_dbb f187_dbb) (J160_dbb fuel) kp160_dbb fuel Tryz.f160 [.c (.own 0), .c (.int .i64 x0), .c (.int .i64 x1), .c (.int .i64 x2), .c (.clo 45 [1])] [.vec 3 (.int .i64) x3 false, .cells 35 [.sl (.pair (.int .i64) (.pair (.int .i64) (.sl (.int .u8)))) x4]] k = (fun  (k0 : ((List Int) × (List (Int × (Int × (List Int))))) → Option Ans) =>
  (L_slices_rotateCmpFunc_int_dbb_0 fuel (x1, Go.IntKind.i64.wrap (x1 - x0), Go.IntKind.i64.wrap (x2 - x1), x3, x4)
    (fun (b0_0, b0_1, b0_2, b0_3) =>
      (f187_dbb (Go.IntKind.i64.wrap (b0_0 - b0_1)) (b0_0) (b0_1) (b0_2) (b0_3)
        (fun (y6_0, y6_1) =>
          k0 (y6_0, y6_1)))))) (fun r => match r with | (r0, r1) => k (.tup [], [.vec 3 (.int .i64) r0 false, .cells 35 [.sl (.pair (.int .i64) (.pair (.int .i64) (.sl (.int .u8)))) r1]])) := by
  kernel_rfl
theorem F160_dbb_eq (fuel : Nat) (x0 : Int) (x1 : Int) (x2 : Int) (x3 : (List Int)) (x4 : (List (Int × (Int × (List Int))))) (k : Ev.Cont) : evalFn tab (G160_dbb fuel) (J160_dbb fuel) kp160_dbb fuel Tryz.f160 [.c (.own 0), .c (.int .i64 x0), .c (.int .i64 x1), .c (.int .i64 x2), .c (.clo 45 [1])] [.vec 3 (.int .i64) x3 false, .cells 35 [.sl (.pair (.int .i64) (.pair (.int .i64) (.sl (.int .u8)))) x4]] k = F_slices_rotateCmpFunc_int_dbb fuel x0 x1 x2 x3 x4 (fun r => match r with | (r0, r1) => k (.tup [], [.vec 3 (.int .i64) r0 false, .cells 35 [.sl (.pair (.int .i64) (.pair (.int .i64) (.sl (.int .u8)))) r1]])) :=
  F160_dbb_eqg fuel (F_slices_swapRangeCmpFunc_int_dbb fuel) x0 x1 x2 x3 x4 k
theorem hG160_dbb (fuel : Nat) : GOK Tryz.prog (G160_dbb fuel) :=
  gok_cons ⟨ok187_dbb fuel, enters_of Tryz.func187 (by kernel_rfl) rfl⟩ <|
  gok_nil
theorem B160_dbb_0_blk (fuel : Nat) : BlkOK Tryz.prog Tryz.f160.ntmps (.block 0 (.loop (bodyOf 0 Tryz.f160))) (B160_dbb_0 fuel) :=
  blk_of (blk_of_code tab_ok (hG160_dbb fuel) mixed (J := J160_dbb_0 fuel) (kp := kp160_dbb) (fuel := fuel) (by kernel_rfl) (fun q hq => by
    rw [(by kernel_rfl : obl (J160_dbb_0 fuel) (.block 0 (.loop (bodyOf 0 Tryz.f160))) = [])] at hq
    cases hq)) (B160_dbb_0_ok fuel)
theorem fok160_dbb (fuel : Nat) : FnOK Tryz.prog 160 (evalFn tab (G160_dbb fuel) (J160_dbb fuel) kp160_dbb fuel Tryz.f160) :=
  fn_ok tab_ok (hG160_dbb fuel) mixed Tryz.func160 (c := (Tryz.f160.body).getD .skip) rfl (fun q hq => by
    rw [(by kernel_rfl : obl (J160_dbb fuel) ((Tryz.f160.body).getD .skip) = [(.block 0 (.loop (bodyOf 0 Tryz.f160)), B160_dbb_0 fuel)])] at hq
    simp only [List.mem_cons, List.not_mem_nil, or_false] at hq
    subst hq
    · exact B160_dbb_0_blk fuel)
noncomputable def mt160_dbb : List Ev.SV → List Ev.Ob → Bool := fun args objs => match args, objs with
  | [.c (.own q0), .c (.int .i64 _), .c (.int .i64 _), .c (.int .i64 _), .c (.clo q1 [q2])], [.vec q3 (.int .i64) _ false, .cells q4 [.sl (.pair (.int .i64) (.pair (.int .i64) (.sl (.int .u8)))) _]] => Nat.beq q0 0 && Nat.beq q1 45 && Nat.beq q2 1 && Nat.beq q3 3 && Nat.beq q4 35
  | _, _ => false
noncomputable def spg160_dbb (F : YF160_dbb) : Ev.Spec := fun args objs k => match args, objs with
  | [.c (.own q0), .c (.int .i64 x0), .c (.int .i64 x1), .c (.int .i64 x2), .c (.clo q1 [q2])], [.vec q3 (.int .i64) x3 false, .cells q4 [.sl (.pair (.int .i64) (.pair (.int .i64) (.sl (.int .u8)))) x4]] => bif Nat.beq q0 0 && Nat.beq q1 45 && Nat.beq q2 1 && Nat.beq q3 3 && Nat.beq q4 35 then F x0 x1 x2 x3 x4 (fun r => match r with | (r0, r1) => k (.tup [], [.vec 3 (.int .i64) r0 false, .cells 35 [.sl (.pair (.int .i64) (.pair (.int .i64) (.sl (.int .u8)))) r1]])) else none
  | _, _ => none
noncomputable def spec160_dbb (fuel : Nat) : Ev.Spec := spg160_dbb (F_slices_rotateCmpFunc_int_dbb fuel)
theorem ok160_dbb (fuel : Nat) : FnOK Tryz.prog 160 (spec160_dbb fuel) := by
  intro args objs kk r h
  unfold spec160_dbb spg160_dbb at h
  split at h
  · skip
    obtain ⟨hb, h⟩ := cond_some' h
    simp only [Bool.and_eq_true, Nat.beq_eq, decide_eq_true_eq] at hb
    obtain ⟨⟨⟨⟨rfl, rfl⟩, rfl⟩, rfl⟩, rfl⟩ := hb
    exact fok160_dbb fuel _ _ kk r ((F160_dbb_eq fuel _ _ _ _ _ kk).trans h)
  · cases h
end Go.Proofs.YtmjeeaemmbkioaaGreat

set_option linter.unusedVariables false
set_option linter.unusedSimpArgs false
set_option maxRecDepth 100000
set_option maxHeartbeats 2000000
namespace Go.Proofs.YtmjeeaemmbkioaaGreat
open Go Ev
def kp128_dbb (i : Nat) : Option (List Nat) := Ev.look i [(3, [0, 1, 4, 10, 11]), (9, [0, 10, 13]), (15, [0, 2, 4, 14, 15]), (21, [0, 14, 17]), (33, [0, 1, 2, 3, 4, 18, 19, 20, 21, 22]), (100000, [0, 1, 10]), (100002, []), (100004, [0, 2, 14]), (100006, []), (100008, [0, 1, 2, 3, 4, 18, 19, 20]), (200005, [0]), (200017, [0]), (200035, [0]), (400000, []), (400002, []), (400004, []), (400006, []), (400008, [])]
abbrev YF128_dbb : Type := (Int) → (Int) → (Int) → ((List Int)) → ((List (Int × (Int × (List Int))))) → (((List Int) × (List (Int × (Int × (List Int))))) → Option Ans) → Option Ans
noncomputable def spg128_dbb (F : YF128_dbb) : Ev.Spec := fun args objs k => match args, objs with
  | [.c (.own q0), .c (.int .i64 x0), .c (.int .i64 x1), .c (.int .i64 x2), .c (.clo q1 [q2])], [.vec q3 (.int .i64) x3 false, .cells q4 [.sl (.pair (.int .i64) (.pair (.int .i64) (.sl (.int .u8)))) x4]] => bif Nat.beq q0 0 && Nat.beq q1 45 && Nat.beq q2 1 && Nat.beq q3 3 && Nat.beq q4 35 then F x0 x1 x2 x3 x4 (fun r => match r with | (r0, r1) => k (.tup [], [.vec 3 (.int .i64) r0 false, .cells 35 [.sl (.pair (.int .i64) (.pair (.int .i64) (.sl (.int .u8)))) r1]])) else none
  | _, _ => none
noncomputable def Gg128_dbb (f45_21d : YF45_21d) (f128_dbb : YF128_dbb) (f160_dbb : YF160_dbb) (f : Nat) : Option Ev.Spec := Ev.look f [(45, spg45_21d f45_21d), (1000128, spg128_dbb f128_dbb), (1000160, spg160_dbb f160_dbb)]
noncomputable def G128_dbb (fuel : Nat) (f128_dbb : YF128_dbb) : Nat → Option Ev.Spec := Gg128_dbb (F_symbol_Order_2_21d fuel) f128_dbb (F_slices_rotateCmpFunc_int_dbb fuel)
noncomputable def S_slices_symMergeCmpFunc_int_dbb_0 (fuel : Nat) (v : Int × Int × Int × (List Int) × (List (Int × (Int × (List Int))))) (c : (Int × Int × Int × (List Int) × (List (Int × (Int × (List Int))))) → Option Ans) (B : (Int × Int × (List Int) × (List (Int × (Int × (List Int)))) → Option Ans)) : Option Ans := match v, B with
  | (x0, x1, x2, x3, x4), b =>
   bif Decidable.decide (x1 < x2) then
      bif Decidable.decide ((0 : Int) ≤ Go.IntKind.i64.wrap (Ev.ishr Go.IntKind.u64 (Go.IntKind.u64.wrap (Go.IntKind.i64.wrap (x1 + x2))) (1 : Int)) ∧ Go.IntKind.i64.wrap (Ev.ishr Go.IntKind.u64 (Go.IntKind.u64.wrap (Go.IntKind.i64.wrap (x1 + x2))) (1 : Int)) < (↑x3.length : Int)) then
      bif Decidable.decide ((0 : Int) ≤ x0 ∧ x0 < (↑x3.length : Int)) then
       both ((F_symbol_Order_2_21d fuel (x3.getD (Go.IntKind.i64.wrap (Ev.ishr Go.IntKind.u64 (Go.IntKind.u64.wrap (Go.IntKind.i64.wrap (x1 + x2))) (1 : Int))).toNat (0 : Int)) (x3.getD x0.toNat (0 : Int)) (x4)
            (fun (y7_0, y7_1) =>
              bif Decidable.decide (y7_0 < (0 : Int)) then
               c (x0, Go.IntKind.i64.wrap (Go.IntKind.i64.wrap (Ev.ishr Go.IntKind.u64 (Go.IntKind.u64.wrap (Go.IntKind.i64.wrap (x1 + x2))) (1 : Int)) + (1 : Int)), x2, x3, y7_1)
              else
               c (x0, x1, Go.IntKind.i64.wrap (Ev.ishr Go.IntKind.u64 (Go.IntKind.u64.wrap (Go.IntKind.i64.wrap (x1 + x2))) (1 : Int)), x3, y7_1))))
         ((F_symbol_Order_2_21d fuel (x3.getD (Go.IntKind.i64.wrap (Ev.ishr Go.IntKind.u64 (Go.IntKind.u64.wrap (Go.IntKind.i64.wrap (x1 + x2))) (1 : Int))).toNat (0 : Int)) (x3.getD x0.toNat (0 : Int)) (x4)
            (fun (y7_0, y7_1) =>
              bif Decidable.decide (y7_0 < (0 : Int)) then
               c (x0, Go.IntKind.i64.wrap (Go.IntKind.i64.wrap (Ev.ishr Go.IntKind.u64 (Go.IntKind.u64.wrap (Go.IntKind.i64.wrap (x1 + x2))) (1 : Int)) + (1 : Int)), x2, x3, y7_1)
              else
               c (x0, x1, Go.IntKind.i64.wrap (Ev.ishr Go.IntKind.u64 (Go.IntKind.u64.wrap (Go.IntKind.i64.wrap (x1 + x2))) (1 : Int)), x3, y7_1))))
       else none
      else none
     else
      b (x0, x1, x3, x4)
noncomputable def L_slices_symMergeCmpFunc_int_dbb_0 (fuel : Nat) (v : Int × Int × Int × (List Int) × (List (Int × (Int × (List Int))))) (b : (Int × Int × (List Int) × (List (Int × (Int × (List Int)))) → Option Ans)) : Option Ans := iter (S_slices_symMergeCmpFunc_int_dbb_0 fuel) fuel v b
noncomputable def J128_dbb_0 (fuel : Nat) (i : Nat) : Option Ev.Blk := Ev.look i []
noncomputable def T128_dbb_0 (v : Int × Int × Int × (List Int) × (List (Int × (Int × (List Int))))) : Ev.St := match v with | (x0, x1, x2, x3, x4) => ⟨[(0, .c (.own 0)), (1, .c (.int .i64 x0)), (4, .c (.clo 45 [1])), (10, .c (.int .i64 x1)), (11, .c (.int .i64 x2))], [(0, .vec 3 (.int .i64) x3 false), (1, .cells 35 [.sl (.pair (.int .i64) (.pair (.int .i64) (.sl (.int .u8)))) x4])], 2, 2⟩
noncomputable def E128_dbb_0 (K : Ev.Ex → Ev.St → Option Ans) : (Int × Int × (List Int) × (List (Int × (Int × (List Int)))) → Option Ans) := (fun v => match v with | (x0, x1, x2, x3) => K .normal ⟨[(0, .c (.own 0)), (1, .c (.int .i64 x0)), (10, .c (.int .i64 x1))], [(0, .vec 3 (.int .i64) x2 false), (1, .cells 35 [.sl (.pair (.int .i64) (.pair (.int .i64) (.sl (.int .u8)))) x3])], 2, 2⟩)
theorem S128_dbb_0_okg (fuel : Nat) (f45_21d : YF45_21d) (f128_dbb : YF128_dbb) (f160_dbb : YF160_dbb) (R : Ev.St → Option Ans) (K : Ev.Ex → Ev.St → Option Ans) (x0 : Int) (x1 : Int) (x2 : Int) (x3 : (List Int)) (x4 : (List (Int × (Int × (List Int))))) : evalCode tab (Gg128_dbb f45_21d f128_dbb f160_dbb) (J128_dbb_0 fuel) kp128_dbb fuel (bodyOf 0 Tryz.f128) (T128_dbb_0 (x0, x1, x2, x3, x4)) (lc kp128_dbb 3 0 R K) = (fun (c : (Int × Int × Int × (List Int) × (List (Int × (Int × (List Int))))) → Option Ans) (B : (Int × Int × (List Int) × (List (Int × (Int × (List Int)))) → Option Ans)) => match B with
  | b =>
   bif Decidable.decide (x1 < x2) then
      bif Decidable.decide ((0 : Int) ≤ Go.IntKind.i64.wrap (Ev.ishr Go.IntKind.u64 (Go.IntKind.u64.wrap (Go.IntKind.i64.wrap (x1 + x2))) (1 : Int)) ∧ Go.IntKind.i64.wrap (Ev.ishr Go.IntKind.u64 (Go.IntKind.u64.wrap (Go.IntKind.i64.wrap (x1 + x2))) (1 : Int)) < (↑x3.length : Int)) then
      bif Decidable.decide ((0 : Int) ≤ x0 ∧ x0 < (↑x3.length : Int)) then
       both ((f45_21d (x3.getD (Go.IntKind.i64.wrap (Ev.ishr Go.IntKind.u64 (Go.IntKind.u64.wrap (Go.IntKind.i64.wrap (x1 + x2))) (1 : Int))).toNat (0 : Int)) (x3.getD x0.toNat (0 : Int)) (x4)
            (fun (y7_0, y7_1) =>
              bif Decidable.decide (y7_0 < (0 : Int)) then
               c (x0, Go.IntKind.i64.wrap (Go.IntKind.i64.wrap (Ev.ishr Go.IntKind.u64 (Go.IntKind.u64.wrap (Go.IntKind.i64.wrap (x1 + x2))) (1 : Int)) + (1 : Int)), x2, x3, y7_1)
              else
               c (x0, x1, Go.IntKind.i64.wrap (Ev.ishr Go.IntKind.u64 (Go.IntKind.u64.wrap (Go.IntKind.i64.wrap (x1 + x2))) (1 : Int)), x3, y7_1))))
         ((f45_21d (x3.getD (Go.IntKind.i64.wrap (Ev.ishr Go.IntKind.u64 (Go.IntKind.u64.wrap (Go.IntKind.i64.wrap (x1 + x2))) (1 : Int))).toNat (0 : Int)) (x3.getD x0.toNat (0 : Int)) (x4)
            (fun (y7_0, y7_1) =>
              bif Decidable.decide (y7_0 < (0 : Int)) then
               c (x0, Go.IntKind.i64.wrap (Go.IntKind.i64.wrap (Ev.ishr Go.IntKind.u64 (Go.IntKind.u64.wrap (Go.IntKind.i64.wrap (x1 + x2))) (1 : Int)) + (1 : Int)), x2, x3, y7_1)
              else
               c (x0, x1, Go.IntKind.i64.wrap (Ev.ishr Go.IntKind.u64 (Go.IntKind.u64.wrap (Go.IntKind.i64.wrap (x1 + x2))) (1 : Int)), x3, y7_1))))
       else none
      else none
     else
      b (x0, x1, x3, x4)) (fun v => R (T128_dbb_0 v)) (E128_dbb_0 K) := by
  kernel_rfl
theorem S128_dbb_0_ok (fuel : Nat) (f128_dbb : YF128_dbb) (R : Ev.St → Option Ans) (K : Ev.Ex → Ev.St → Option Ans) (x0 : Int) (x1 : Int) (x2 : Int) (x3 : (List Int)) (x4 : (List (Int × (Int × (List Int))))) : evalCode tab (G128_dbb fuel f128_dbb) (J128_dbb_0 fuel) kp128_dbb fuel (bodyOf 0 Tryz.f128) (T128_dbb_0 (x0, x1, x2, x3, x4)) (lc kp128_dbb 3 0 R K) = S_slices_symMergeCmpFunc_int_dbb_0 fuel (x0, x1, x2, x3, x4) (fun v => R (T128_dbb_0 v)) (E128_dbb_0 K) :=
  S128_dbb_0_okg fuel (F_symbol_Order_2_21d fuel) f128_dbb (F_slices_rotateCmpFunc_int_dbb fuel) R K x0 x1 x2 x3 x4
noncomputable def B128_dbb_0 (fuel : Nat) : Ev.Blk := fun st K => match canonO (kp128_dbb 3) st with
  | some s => (match s with
    | ⟨[(q0, .c (.own q1)), (q2, .c (.int .i64 x0)), (q3, .c (.clo q4 [q5])), (q6, .c (.int .i64 x1)), (q7, .c (.int .i64 x2))], [(q8, .vec q9 (.int .i64) x3 false), (q10, .cells q11 [.sl (.pair (.int .i64) (.pair (.int .i64) (.sl (.int .u8)))) x4])], q12, q13⟩ => bif Nat.beq q0 0 && Nat.beq q1 0 && Nat.beq q2 1 && Nat.beq q3 4 && Nat.beq q4 45 && Nat.beq q5 1 && Nat.beq q6 10 && Nat.beq q7 11 && Nat.beq q8 0 && Nat.beq q9 3 && Nat.beq q10 1 && Nat.beq q11 35 && Nat.beq q12 2 && Nat.beq q13 2 then iter (S_slices_symMergeCmpFunc_int_dbb_0 fuel) fuel (x0, x1, x2, x3, x4) (E128_dbb_0 K) else none
    | _ => none)
  | none => none
theorem B128_dbb_0_ok (fuel : Nat) (f128_dbb : YF128_dbb) (st : Ev.St) (K : Ev.Ex → Ev.St → Option Ans) (r : Ans) (h : B128_dbb_0 fuel st K = some r) : evalCode tab (G128_dbb fuel f128_dbb) (J128_dbb_0 fuel) kp128_dbb fuel (.block 0 (.loop (bodyOf 0 Tryz.f128))) st K = some r := by
  unfold B128_dbb_0 at h
  split at h
  · rename_i s hs
    split at h
    · skip
      obtain ⟨hb, h⟩ := cond_some' h
      simp only [Bool.and_eq_true, Nat.beq_eq, decide_eq_true_eq] at hb
      obtain ⟨⟨⟨⟨⟨⟨⟨⟨⟨⟨⟨⟨⟨rfl, rfl⟩, rfl⟩, rfl⟩, rfl⟩, rfl⟩, rfl⟩, rfl⟩, rfl⟩, rfl⟩, rfl⟩, rfl⟩, rfl⟩, rfl⟩ := hb
      exact blk_loop (S := T128_dbb_0) (ks := E128_dbb_0) (step := S_slices_symMergeCmpFunc_int_dbb_0 fuel) (v := (_, _, _, _, _)) (by kernel_rfl) (by kernel_rfl) (fun R K v => by obtain ⟨x0, x1, x2, x3, x4⟩ := v; exact S128_dbb_0_ok fuel f128_dbb R K x0 x1 x2 x3 x4) hs h
    · cases h
  · cases h
noncomputable def S_slices_symMergeCmpFunc_int_dbb_2 (fuel : Nat) (v : Int × Int × (List Int) × (List (Int × (Int × (List Int))))) (c : (Int × Int × (List Int) × (List (Int × (Int × (List Int))))) → Option Ans) (B : ((List Int) × (List (Int × (Int × (List Int)))) → Option Ans)) : Option Ans := match v, B with
  | (x0, x1, x2, x3), b =>
   bif Decidable.decide (x1 < Go.IntKind.i64.wrap (x0 - (1 : Int))) then
      bif Decidable.decide ((0 : Int) ≤ Go.IntKind.i64.wrap (x1 + (1 : Int)) ∧ Go.IntKind.i64.wrap (x1 + (1 : Int)) < (↑x2.length : Int)) then
      bif Decidable.decide ((0 : Int) ≤ x1 ∧ x1 < (↑x2.length : Int)) then
       both (bif Decidable.decide ((0 : Int) ≤ x1 ∧ x1 < (↑x2.length : Int)) then
          bif Decidable.decide ((0 : Int) ≤ Go.IntKind.i64.wrap (x1 + (1 : Int)) ∧ Go.IntKind.i64.wrap (x1 + (1 : Int)) < (↑(x2.set x1.toNat (x2.getD (Go.IntKind.i64.wrap (x1 + (1 : Int))).toNat (0 : Int))).length : Int)) then
           c (x0, Go.IntKind.i64.wrap (x1 + (1 : Int)), (x2.set x1.toNat (x2.getD (Go.IntKind.i64.wrap (x1 + (1 : Int))).toNat (0 : Int))).set (Go.IntKind.i64.wrap (x1 + (1 : Int))).toNat (x2.getD x1.toNat (0 : Int)), x3)
           else none
          else none)
         (bif Decidable.decide ((0 : Int) ≤ x1 ∧ x1 < (↑x2.length : Int)) then
          bif Decidable.decide ((0 : Int) ≤ Go.IntKind.i64.wrap (x1 + (1 : Int)) ∧ Go.IntKind.i64.wrap (x1 + (1 : Int)) < (↑(x2.set x1.toNat (x2.getD (Go.IntKind.i64.wrap (x1 + (1 : Int))).toNat (0 : Int))).length : Int)) then
           c (x0, Go.IntKind.i64.wrap (x1 + (1 : Int)), (x2.set x1.toNat (x2.getD (Go.IntKind.i64.wrap (x1 + (1 : Int))).toNat (0 : Int))).set (Go.IntKind.i64.wrap (x1 + (1 : Int))).toNat (x2.getD x1.toNat (0 : Int)), x3)
           else none
          else none)
       else none
      else none
     else
      b (x2, x3)
noncomputable def L_slices_symMergeCmpFunc_int_dbb_2 (fuel : Nat) (v : Int × Int × (List Int) × (List (Int × (Int × (List Int))))) (b : ((List Int) × (List (Int × (Int × (List Int)))) → Option Ans)) : Option Ans := iter (S_slices_symMergeCmpFunc_int_dbb_2 fuel) fuel v b
noncomputable def J128_dbb_2 (fuel : Nat) (i : Nat) : Option Ev.Blk := Ev.look i [(100000, B128_dbb_0 fuel)]
noncomputable def T128_dbb_2 (v : Int × Int × (List Int) × (List (Int × (Int × (List Int))))) : Ev.St := match v with | (x0, x1, x2, x3) => ⟨[(0, .c (.own 0)), (10, .c (.int .i64 x0)), (13, .c (.int .i64 x1))], [(0, .vec 3 (.int .i64) x2 false), (1, .cells 35 [.sl (.pair (.int .i64) (.pair (.int .i64) (.sl (.int .u8)))) x3])], 2, 2⟩
noncomputable def E128_dbb_2 (K : Ev.Ex → Ev.St → Option Ans) : ((List Int) × (List (Int × (Int × (List Int)))) → Option Ans) := (fun v => match v with | (x0, x1) => K .normal ⟨[], [(0, .vec 3 (.int .i64) x0 false), (1, .cells 35 [.sl (.pair (.int .i64) (.pair (.int .i64) (.sl (.int .u8)))) x1])], 2, 2⟩)
theorem S128_dbb_2_okg (fuel : Nat) (f45_21d : YF45_21d) (f128_dbb : YF128_dbb) (f160_dbb : YF160_dbb) (R : Ev.St → Option Ans) (K : Ev.Ex → Ev.St → Option Ans) (x0 : Int) (x1 : Int) (x2 : (List Int)) (x3 : (List (Int × (Int × (List Int))))) : evalCode tab (Gg128_dbb f45_21d f128_dbb f160_dbb) (J128_dbb_2 fuel) kp128_dbb fuel (bodyOf 2 Tryz.f128) (T128_dbb_2 (x0, x1, x2, x3)) (lc kp128_dbb 9 2 R K) = (fun (c : (Int × Int × (List Int) × (List (Int × (Int × (List Int))))) → Option Ans) (B : ((List Int) × (List (Int × (Int × (List Int)))) → Option Ans)) => match B with
  | b =>
   bif Decidable.decide (x1 < Go.IntKind.i64.wrap (x0 - (1 : Int))) then
      bif Decidable.decide ((0 : Int) ≤ Go.IntKind.i64.wrap (x1 + (1 : Int)) ∧ Go.IntKind.i64.wrap (x1 + (1 : Int)) < (↑x2.length : Int)) then
      bif Decidable.decide ((0 : Int) ≤ x1 ∧ x1 < (↑x2.length : Int)) then
       both (bif Decidable.decide ((0 : Int) ≤ x1 ∧ x1 < (↑x2.length : Int)) then
          bif Decidable.decide ((0 : Int) ≤ Go.IntKind.i64.wrap (x1 + (1 : Int)) ∧ Go.IntKind.i64.wrap (x1 + (1 : Int)) < (↑(x2.set x1.toNat (x2.getD (Go.IntKind.i64.wrap (x1 + (1 : Int))).toNat (0 : Int))).length : Int)) then
           c (x0, Go.IntKind.i64.wrap (x1 + (1 : Int)), (x2.set x1.toNat (x2.getD (Go.IntKind.i64.wrap (x1 + (1 : Int))).toNat (0 : Int))).set (Go.IntKind.i64.wrap (x1 + (1 : Int))).toNat (x2.getD x1.toNat (0 : Int)), x3)
           else none
          else none)
         (bif Decidable.decide ((0 : Int) ≤ x1 ∧ x1 < (↑x2.length : Int)) then
          bif Decidable.decide ((0 : Int) ≤ Go.IntKind.i64.wrap (x1 + (1 : Int)) ∧ Go.IntKind.i64.wrap (x1 + (1 : Int)) < (↑(x2.set x1.toNat (x2.getD (Go.IntKind.i64.wrap (x1 + (1 : Int))).toNat (0 : Int))).length : Int)) then
           c (x0, Go.IntKind.i64.wrap (x1 + (1 : Int)), (x2.set x1.toNat (x2.getD (Go.IntKind.i64.wrap (x1 + (1 : Int))).toNat (0 : Int))).set (Go.IntKind.i64.wrap (x1 + (1 : Int))).toNat (x2.getD x1.toNat (0 : Int)), x3)
           else none
          else none)
       else none
      else none
     else
      b (x2, x3)) (fun v => R (T128_dbb_2 v)) (E128_dbb_2 K) := by
  kernel_rfl
theorem S128_dbb_2_ok (fuel : Nat) (f128_dbb : YF128_dbb) (R : Ev.St → Option Ans) (K : Ev.Ex → Ev.St → Option Ans) (x0 : Int) (x1 : Int) (x2 : (List Int)) (x3 : (List (Int × (Int × (List Int))))) : evalCode tab (G128_dbb fuel f128_dbb) (J128_dbb_2 fuel) kp128_dbb fuel (bodyOf 2 Tryz.f128) (T128_dbb_2 (x0, x1, x2, x3)) (lc kp128_dbb 9 2 R K) = S_slices_symMergeCmpFunc_int_dbb_2 fuel (x0, x1, x2, x3) (fun v => R (T128_dbb_2 v)) (E128_dbb_2 K) :=
  S128_dbb_2_okg fuel (F_symbol_Order_2_21d fuel) f128_dbb (F_slices_rotateCmpFunc_int_dbb fuel) R K x0 x1 x2 x3
noncomputable def B128_dbb_2 (fuel : Nat) : Ev.Blk := fun st K => match canonO (kp128_dbb 9) st with
  | some s => (match s with
    | ⟨[(q0, .c (.own q1)), (q2, .c (.int .i64 x0)), (q3, .c (.int .i64 x1))], [(q4, .vec q5 (.int .i64) x2 false), (q6, .cells q7 [.sl (.pair (.int .i64) (.pair (.int .i64) (.sl (.int .u8)))) x3])], q8, q9⟩ => bif Nat.beq q0 0 && Nat.beq q1 0 && Nat.beq q2 10 && Nat.beq q3 13 && Nat.beq q4 0 && Nat.beq q5 3 && Nat.beq q6 1 && Nat.beq q7 35 && Nat.beq q8 2 && Nat.beq q9 2 then iter (S_slices_symMergeCmpFunc_int_dbb_2 fuel) fuel (x0, x1, x2, x3) (E128_dbb_2 K) else none
    | _ => none)
  | none => none
theorem B128_dbb_2_ok (fuel : Nat) (f128_dbb : YF128_dbb) (st : Ev.St) (K : Ev.Ex → Ev.St → Option Ans) (r : Ans) (h : B128_dbb_2 fuel st K = some r) : evalCode tab (G128_dbb fuel f128_dbb) (J128_dbb_2 fuel) kp128_dbb fuel (.block 2 (.loop (bodyOf 2 Tryz.f128))) st K = some r := by
  unfold B128_dbb_2 at h
  split at h
  · rename_i s hs
    split at h
    · skip
      obtain ⟨hb, h⟩ := cond_some' h
      simp only [Bool.and_eq_true, Nat.beq_eq, decide_eq_true_eq] at hb
      obtain ⟨⟨⟨⟨⟨⟨⟨⟨⟨rfl, rfl⟩, rfl⟩, rfl⟩, rfl⟩, rfl⟩, rfl⟩, rfl⟩, rfl⟩, rfl⟩ := hb
      exact blk_loop (S := T128_dbb_2) (ks := E128_dbb_2) (step := S_slices_symMergeCmpFunc_int_dbb_2 fuel) (v := (_, _, _, _)) (by kernel_rfl) (by kernel_rfl) (fun R K v => by obtain ⟨x0, x1, x2, x3⟩ := v; exact S128_dbb_2_ok fuel f128_dbb R K x0 x1 x2 x3) hs h
    · cases h
  · cases h
noncomputable def S_slices_symMergeCmpFunc_int_dbb_4 (fuel : Nat) (v : Int × Int × Int × (List Int) × (List (Int × (Int × (List Int))))) (c : (Int × Int × Int × (List Int) × (List (Int × (Int × (List Int))))) → Option Ans) (B : (Int × Int × (List Int) × (List (Int × (Int × (List Int)))) → Option Ans)) : Option Ans := match v, B with
  | (x0, x1, x2, x3, x4), b =>
   bif Decidable.decide (x1 < x2) then
      bif Decidable.decide ((0 : Int) ≤ x0 ∧ x0 < (↑x3.length : Int)) then
      bif Decidable.decide ((0 : Int) ≤ Go.IntKind.i64.wrap (Ev.ishr Go.IntKind.u64 (Go.IntKind.u64.wrap (Go.IntKind.i64.wrap (x1 + x2))) (1 : Int)) ∧ Go.IntKind.i64.wrap (Ev.ishr Go.IntKind.u64 (Go.IntKind.u64.wrap (Go.IntKind.i64.wrap (x1 + x2))) (1 : Int)) < (↑x3.length : Int)) then
       both ((F_symbol_Order_2_21d fuel (x3.getD x0.toNat (0 : Int)) (x3.getD (Go.IntKind.i64.wrap (Ev.ishr Go.IntKind.u64 (Go.IntKind.u64.wrap (Go.IntKind.i64.wrap (x1 + x2))) (1 : Int))).toNat (0 : Int)) (x4)
            (fun (y7_0, y7_1) =>
              bif !Decidable.decide (y7_0 < (0 : Int)) then
               c (x0, Go.IntKind.i64.wrap (Go.IntKind.i64.wrap (Ev.ishr Go.IntKind.u64 (Go.IntKind.u64.wrap (Go.IntKind.i64.wrap (x1 + x2))) (1 : Int)) + (1 : Int)), x2, x3, y7_1)
              else
               c (x0, x1, Go.IntKind.i64.wrap (Ev.ishr Go.IntKind.u64 (Go.IntKind.u64.wrap (Go.IntKind.i64.wrap (x1 + x2))) (1 : Int)), x3, y7_1))))
         ((F_symbol_Order_2_21d fuel (x3.getD x0.toNat (0 : Int)) (x3.getD (Go.IntKind.i64.wrap (Ev.ishr Go.IntKind.u64 (Go.IntKind.u64.wrap (Go.IntKind.i64.wrap (x1 + x2))) (1 : Int))).toNat (0 : Int)) (x4)
            (fun (y7_0, y7_1) =>
              bif !Decidable.decide (y7_0 < (0 : Int)) then
               c (x0, Go.IntKind.i64.wrap (Go.IntKind.i64.wrap (Ev.ishr Go.IntKind.u64 (Go.IntKind.u64.wrap (Go.IntKind.i64.wrap (x1 + x2))) (1 : Int)) + (1 : Int)), x2, x3, y7_1)
              else
               c (x0, x1, Go.IntKind.i64.wrap (Ev.ishr Go.IntKind.u64 (Go.IntKind.u64.wrap (Go.IntKind.i64.wrap (x1 + x2))) (1 : Int)), x3, y7_1))))
       else none
      else none
     else
      b (x0, x1, x3, x4)
noncomputable def L_slices_symMergeCmpFunc_int_dbb_4 (fuel : Nat) (v : Int × Int × Int × (List Int) × (List (Int × (Int × (List Int))))) (b : (Int × Int × (List Int) × (List (Int × (Int × (List Int)))) → Option Ans)) : Option Ans := iter (S_slices_symMergeCmpFunc_int_dbb_4 fuel) fuel v b
noncomputable def J128_dbb_4 (fuel : Nat) (i : Nat) : Option Ev.Blk := Ev.look i [(100000, B128_dbb_0 fuel), (100002, B128_dbb_2 fuel)]
noncomputable def T128_dbb_4 (v : Int × Int × Int × (List Int) × (List (Int × (Int × (List Int))))) : Ev.St := match v with | (x0, x1, x2, x3, x4) => ⟨[(0, .c (.own 0)), (2, .c (.int .i64 x0)), (4, .c (.clo 45 [1])), (14, .c (.int .i64 x1)), (15, .c (.int .i64 x2))], [(0, .vec 3 (.int .i64) x3 false), (1, .cells 35 [.sl (.pair (.int .i64) (.pair (.int .i64) (.sl (.int .u8)))) x4])], 2, 2⟩
noncomputable def E128_dbb_4 (K : Ev.Ex → Ev.St → Option Ans) : (Int × Int × (List Int) × (List (Int × (Int × (List Int)))) → Option Ans) := (fun v => match v with | (x0, x1, x2, x3) => K .normal ⟨[(0, .c (.own 0)), (2, .c (.int .i64 x0)), (14, .c (.int .i64 x1))], [(0, .vec 3 (.int .i64) x2 false), (1, .cells 35 [.sl (.pair (.int .i64) (.pair (.int .i64) (.sl (.int .u8)))) x3])], 2, 2⟩)
theorem S128_dbb_4_okg (fuel : Nat) (f45_21d : YF45_21d) (f128_dbb : YF128_dbb) (f160_dbb : YF160_dbb) (R : Ev.St → Option Ans) (K : Ev.Ex → Ev.St → Option Ans) (x0 : Int) (x1 : Int) (x2 : Int) (x3 : (List Int)) (x4 : (List (Int × (Int × (List Int))))) : evalCode tab (Gg128_dbb f45_21d f128_dbb f160_dbb) (J128_dbb_4 fuel) kp128_dbb fuel (bodyOf 4 Tryz.f128) (T128_dbb_4 (x0, x1, x2, x3, x4)) (lc kp128_dbb 15 4 R K) = (fun (c : (Int × Int × Int × (List Int) × (List (Int × (Int × (List Int))))) → Option Ans) (B : (Int × Int × (List Int) × (List (Int × (Int × (List Int)))) → Option Ans)) => match B with
  | b =>
   bif Decidable.decide (x1 < x2) then
      bif Decidable.decide ((0 : Int) ≤ x0 ∧ x0 < (↑x3.length : Int)) then
      bif Decidable.decide ((0 : Int) ≤ Go.IntKind.i64.wrap (Ev.ishr Go.IntKind.u64 (Go.IntKind.u64.wrap (Go.IntKind.i64.wrap (x1 + x2))) (1 : Int)) ∧ Go.IntKind.i64.wrap (Ev.ishr Go.IntKind.u64 (Go.IntKind.u64.wrap (Go.IntKind.i64.wrap (x1 + x2))) (1 : Int)) < (↑x3.length : Int)) then
       both ((f45_21d (x3.getD x0.toNat (0 : Int)) (x3.getD (Go.IntKind.i64.wrap (Ev.ishr Go.IntKind.u64 (Go.IntKind.u64.wrap (Go.IntKind.i64.wrap (x1 + x2))) (1 : Int))).toNat (0 : Int)) (x4)
            (fun (y7_0, y7_1) =>
              bif !Decidable.decide (y7_0 < (0 : Int)) then
               c (x0, Go.IntKind.i64.wrap (Go.IntKind.i64.wrap (Ev.ishr Go.IntKind.u64 (Go.IntKind.u64.wrap (Go.IntKind.i64.wrap (x1 + x2))) (1 : Int)) + (1 : Int)), x2, x3, y7_1)
              else
               c (x0, x1, Go.IntKind.i64.wrap (Ev.ishr Go.IntKind.u64 (Go.IntKind.u64.wrap (Go.IntKind.i64.wrap (x1 + x2))) (1 : Int)), x3, y7_1))))
         ((f45_21d (x3.getD x0.toNat (0 : Int)) (x3.getD (Go.IntKind.i64.wrap (Ev.ishr Go.IntKind.u64 (Go.IntKind.u64.wrap (Go.IntKind.i64.wrap (x1 + x2))) (1 : Int))).toNat (0 : Int)) (x4)
            (fun (y7_0, y7_1) =>
              bif !Decidable.decide (y7_0 < (0 : Int)) then
               c (x0, Go.IntKind.i64.wrap (Go.IntKind.i64.wrap (Ev.ishr Go.IntKind.u64 (Go.IntKind.u64.wrap (Go.IntKind.i64.wrap (x1 + x2))) (1 : Int)) + (1 : Int)), x2, x3, y7_1)
              else
               c (x0, x1, Go.IntKind.i64.wrap (Ev.ishr Go.IntKind.u64 (Go.IntKind.u64.wrap (Go.IntKind.i64.wrap (x1 + x2))) (1 : Int)), x3, y7_1))))
       else none
      else none
     else
      b (x0, x1, x3, x4)) (fun v => R (T128_dbb_4 v)) (E128_dbb_4 K) := by
  kernel_rfl
theorem S128_dbb_4_ok (fuel : Nat) (f128_dbb : YF128_dbb) (R : Ev.St → Option Ans) (K : Ev.Ex → Ev.St → Option Ans) (x0 : Int) (x1 : Int) (x2 : Int) (x3 : (List Int)) (x4 : (List (Int × (Int × (List Int))))) : evalCode tab (G128_dbb fuel f128_dbb) (J128_dbb_4 fuel) kp128_dbb fuel (bodyOf 4 Tryz.f128) (T128_dbb_4 (x0, x1, x2, x3, x4)) (lc kp128_dbb 15 4 R K) = S_slices_symMergeCmpFunc_int_dbb_4 fuel (x0, x1, x2, x3, x4) (fun v => R (T128_dbb_4 v)) (E128_dbb_4 K) :=
  S128_dbb_4_okg fuel (F_symbol_Order_2_21d fuel) f128_dbb (F_slices_rotateCmpFunc_int_dbb fuel) R K x0 x1 x2 x3 x4
noncomputable def B128_dbb_4 (fuel : Nat) : Ev.Blk := fun st K => match canonO (kp128_dbb 15) st with
  | some s => (match s with
    | ⟨[(q0, .c (.own q1)), (q2, .c (.int .i64 x0)), (q3, .c (.clo q4 [q5])), (q6, .c (.int .i64 x1)), (q7, .c (.int .i64 x2))], [(q8, .vec q9 (.int .i64) x3 false), (q10, .cells q11 [.sl (.pair (.int .i64) (.pair (.int .i64) (.sl (.int .u8)))) x4])], q12, q13⟩ => bif Nat.beq q0 0 && Nat.beq q1 0 && Nat.beq q2 2 && Nat.beq q3 4 && Nat.beq q4 45 && Nat.beq q5 1 && Nat.beq q6 14 && Nat.beq q7 15 && Nat.beq q8 0 && Nat.beq q9 3 && Nat.beq q10 1 && Nat.beq q11 35 && Nat.beq q12 2 && Nat.beq q13 2 then iter (S_slices_symMergeCmpFunc_int_dbb_4 fuel) fuel (x0, x1, x2, x3, x4) (E128_dbb_4 K) else none
    | _ => none)
  | none => none
theorem B128_dbb_4_ok (fuel : Nat) (f128_dbb : YF128_dbb) (st : Ev.St) (K : Ev.Ex → Ev.St → Option Ans) (r : Ans) (h : B128_dbb_4 fuel st K = some r) : evalCode tab (G128_dbb fuel f128_dbb) (J128_dbb_4 fuel) kp128_dbb fuel (.block 4 (.loop (bodyOf 4 Tryz.f128))) st K = some r := by
  unfold B128_dbb_4 at h
  split at h
  · rename_i s hs
    split at h
    · skip
      obtain ⟨hb, h⟩ := cond_some' h
      simp only [Bool.and_eq_true, Nat.beq_eq, decide_eq_true_eq] at hb
      obtain ⟨⟨⟨⟨⟨⟨⟨⟨⟨⟨⟨⟨⟨rfl, rfl⟩, rfl⟩, rfl⟩, rfl⟩, rfl⟩, rfl⟩, rfl⟩, rfl⟩, rfl⟩, rfl⟩, rfl⟩, rfl⟩, rfl⟩ := hb
      exact blk_loop (S := T128_dbb_4) (ks := E128_dbb_4) (step := S_slices_symMergeCmpFunc_int_dbb_4 fuel) (v := (_, _, _, _, _)) (by kernel_rfl) (by kernel_rfl) (fun R K v => by obtain ⟨x0, x1, x2, x3, x4⟩ := v; exact S128_dbb_4_ok fuel f128_dbb R K x0 x1 x2 x3 x4) hs h
    · cases h
  · cases h
noncomputable def S_slices_symMergeCmpFunc_int_dbb_6 (fuel : Nat) (v : Int × Int × (List Int) × (List (Int × (Int × (List Int))))) (c : (Int × Int × (List Int) × (List (Int × (Int × (List Int))))) → Option Ans) (B : ((List Int) × (List (Int × (Int × (List Int)))) → Option Ans)) : Option Ans := match v, B with
  | (x0, x1, x2, x3), b =>
   bif Decidable.decide (x1 > x0) then
      bif Decidable.decide ((0 : Int) ≤ Go.IntKind.i64.wrap (x1 - (1 : Int)) ∧ Go.IntKind.i64.wrap (x1 - (1 : Int)) < (↑x2.length : Int)) then
      bif Decidable.decide ((0 : Int) ≤ x1 ∧ x1 < (↑x2.length : Int)) then
       both (bif Decidable.decide ((0 : Int) ≤ x1 ∧ x1 < (↑x2.length : Int)) then
          bif Decidable.decide ((0 : Int) ≤ Go.IntKind.i64.wrap (x1 - (1 : Int)) ∧ Go.IntKind.i64.wrap (x1 - (1 : Int)) < (↑(x2.set x1.toNat (x2.getD (Go.IntKind.i64.wrap (x1 - (1 : Int))).toNat (0 : Int))).length : Int)) then
           c (x0, Go.IntKind.i64.wrap (x1 - (1 : Int)), (x2.set x1.toNat (x2.getD (Go.IntKind.i64.wrap (x1 - (1 : Int))).toNat (0 : Int))).set (Go.IntKind.i64.wrap (x1 - (1 : Int))).toNat (x2.getD x1.toNat (0 : Int)), x3)
           else none
          else none)
         (bif Decidable.decide ((0 : Int) ≤ x1 ∧ x1 < (↑x2.length : Int)) then
          bif Decidable.decide ((0 : Int) ≤ Go.IntKind.i64.wrap (x1 - (1 : Int)) ∧ Go.IntKind.i64.wrap (x1 - (1 : Int)) < (↑(x2.set x1.toNat (x2.getD (Go.IntKind.i64.wrap (x1 - (1 : Int))).toNat (0 : Int))).length : Int)) then
           c (x0, Go.IntKind.i64.wrap (x1 - (1 : Int)), (x2.set x1.toNat (x2.getD (Go.IntKind.i64.wrap (x1 - (1 : Int))).toNat (0 : Int))).set (Go.IntKind.i64.wrap (x1 - (1 : Int))).toNat (x2.getD x1.toNat (0 : Int)), x3)
           else none
          else none)
       else none
      else none
     else
      b (x2, x3)
noncomputable def L_slices_symMergeCmpFunc_int_dbb_6 (fuel : Nat) (v : Int × Int × (List Int) × (List (Int × (Int × (List Int))))) (b : ((List Int) × (List (Int × (Int × (List Int)))) → Option Ans)) : Option Ans := iter (S_slices_symMergeCmpFunc_int_dbb_6 fuel) fuel v b
noncomputable def J128_dbb_6 (fuel : Nat) (i : Nat) : Option Ev.Blk := Ev.look i [(100000, B128_dbb_0 fuel), (100002, B128_dbb_2 fuel), (100004, B128_dbb_4 fuel)]
noncomputable def T128_dbb_6 (v : Int × Int × (List Int) × (List (Int × (Int × (List Int))))) : Ev.St := match v with | (x0, x1, x2, x3) => ⟨[(0, .c (.own 0)), (14, .c (.int .i64 x0)), (17, .c (.int .i64 x1))], [(0, .vec 3 (.int .i64) x2 false), (1, .cells 35 [.sl (.pair (.int .i64) (.pair (.int .i64) (.sl (.int .u8)))) x3])], 2, 2⟩
noncomputable def E128_dbb_6 (K : Ev.Ex → Ev.St → Option Ans) : ((List Int) × (List (Int × (Int × (List Int)))) → Option Ans) := (fun v => match v with | (x0, x1) => K .normal ⟨[], [(0, .vec 3 (.int .i64) x0 false), (1, .cells 35 [.sl (.pair (.int .i64) (.pair (.int .i64) (.sl (.int .u8)))) x1])], 2, 2⟩)
theorem S128_dbb_6_okg (fuel : Nat) (f45_21d : YF45_21d) (f128_dbb : YF128_dbb) (f160_dbb : YF160_dbb) (R : Ev.St → Option Ans) (K : Ev.Ex → Ev.St → Option Ans) (x0 : Int) (x1 : Int) (x2 : (List Int)) (x3 : (List (Int × (Int × (List Int))))) : evalCode tab (Gg128_dbb f45_21d f128_dbb f160_dbb) (J128_dbb_6 fuel) kp128_dbb fuel (bodyOf 6 Tryz.f128) (T128_dbb_6 (x0, x1, x2, x3)) (lc kp128_dbb 21 6 R K) = (fun (c : (Int × Int × (List Int) × (List (Int × (Int × (List Int))))) → Option Ans) (B : ((List Int) × (List (Int × (Int × (List Int)))) → Option Ans)) => match B with
  | b =>
   bif Decidable.decide (x1 > x0) then
      bif Decidable.decide ((0 : Int) ≤ Go.IntKind.i64.wrap (x1 - (1 : Int)) ∧ Go.IntKind.i64.wrap (x1 - (1 : Int)) < (↑x2.length : Int)) then
      bif Decidable.decide ((0 : Int) ≤ x1 ∧ x1 < (↑x2.length : Int)) then
       both (bif Decidable.decide ((0 : Int) ≤ x1 ∧ x1 < (↑x2.length : Int)) then
          bif Decidable.decide ((0 : Int) ≤ Go.IntKind.i64.wrap (x1 - (1 : Int)) ∧ Go.IntKind.i64.wrap (x1 - (1 : Int)) < (↑(x2.set x1.toNat (x2.getD (Go.IntKind.i64.wrap (x1 - (1 : Int))).toNat (0 : Int))).length : Int)) then
           c (x0, Go.IntKind.i64.wrap (x1 - (1 : Int)), (x2.set x1.toNat (x2.getD (Go.IntKind.i64.wrap (x1 - (1 : Int))).toNat (0 : Int))).set (Go.IntKind.i64.wrap (x1 - (1 : Int))).toNat (x2.getD x1.toNat (0 : Int)), x3)
           else none
          else none)
         (bif Decidable.decide ((0 : Int) ≤ x1 ∧ x1 < (↑x2.length : Int)) then
          bif Decidable.decide ((0 : Int) ≤ Go.IntKind.i64.wrap (x1 - (1 : Int)) ∧ Go.IntKind.i64.wrap (x1 - (1 : Int)) < (↑(x2.set x1.toNat (x2.getD (Go.IntKind.i64.wrap (x1 - (1 : Int))).toNat (0 : Int))).length : Int)) then
           c (x0, Go.IntKind.i64.wrap (x1 - (1 : Int)), (x2.set x1.toNat (x2.getD (Go.IntKind.i64.wrap (x1 - (1 : Int))).toNat (0 : Int))).set (Go.IntKind.i64.wrap (x1 - (1 : Int))).toNat (x2.getD x1.toNat (0 : Int)), x3)
           else none
          else none)
       else none
      else none
     else
      b (x2, x3)) (fun v => R (T128_dbb_6 v)) (E128_dbb_6 K) := by
  kernel_rfl
theorem S128_dbb_6_ok (fuel : Nat) (f128_dbb : YF128_dbb) (R : Ev.St → Option Ans) (K : Ev.Ex → Ev.St → Option Ans) (x0 : Int) (x1 : Int) (x2 : (List Int)) (x3 : (List (Int × (Int × (List Int))))) : evalCode tab (G128_dbb fuel f128_dbb) (J128_dbb_6 fuel) kp128_dbb fuel (bodyOf 6 Tryz.f128) (T128_dbb_6 (x0, x1, x2, x3)) (lc kp128_dbb 21 6 R K) = S_slices_symMergeCmpFunc_int_dbb_6 fuel (x0, x1, x2, x3) (fun v => R (T128_dbb_6 v)) (E128_dbb_6 K) :=
  S128_dbb_6_okg fuel (F_symbol_Order_2_21d fuel) f128_dbb (F_slices_rotateCmpFunc_int_dbb fuel) R K x0 x1 x2 x3
noncomputable def B128_dbb_6 (fuel : Nat) : Ev.Blk := fun st K => match canonO (kp128_dbb 21) st with
  | some s => (match s with
    | ⟨[(q0, .c (.own q1)), (q2, .c (.int .i64 x0)), (q3, .c (.int .i64 x1))], [(q4, .vec q5 (.int .i64) x2 false), (q6, .cells q7 [.sl (.pair (.int .i64) (.pair (.int .i64) (.sl (.int .u8)))) x3])], q8, q9⟩ => bif Nat.beq q0 0 && Nat.beq q1 0 && Nat.beq q2 14 && Nat.beq q3 17 && Nat.beq q4 0 && Nat.beq q5 3 && Nat.beq q6 1 && Nat.beq q7 35 && Nat.beq q8 2 && Nat.beq q9 2 then iter (S_slices_symMergeCmpFunc_int_dbb_6 fuel) fuel (x0, x1, x2, x3) (E128_dbb_6 K) else none
    | _ => none)
  | none => none
theorem B128_dbb_6_ok (fuel : Nat) (f128_dbb : YF128_dbb) (st : Ev.St) (K : Ev.Ex → Ev.St → Option Ans) (r : Ans) (h : B128_dbb_6 fuel st K = some r) : evalCode tab (G128_dbb fuel f128_dbb) (J128_dbb_6 fuel) kp128_dbb fuel (.block 6 (.loop (bodyOf 6 Tryz.f128))) st K = some r := by
  unfold B128_dbb_6 at h
  split at h
  · rename_i s hs
    split at h
    · skip
      obtain ⟨hb, h⟩ := cond_some' h
      simp only [Bool.and_eq_true, Nat.beq_eq, decide_eq_true_eq] at hb
      obtain ⟨⟨⟨⟨⟨⟨⟨⟨⟨rfl, rfl⟩, rfl⟩, rfl⟩, rfl⟩, rfl⟩, rfl⟩, rfl⟩, rfl⟩, rfl⟩ := hb
      exact blk_loop (S := T128_dbb_6) (ks := E128_dbb_6) (step := S_slices_symMergeCmpFunc_int_dbb_6 fuel) (v := (_, _, _, _)) (by kernel_rfl) (by kernel_rfl) (fun R K v => by obtain ⟨x0, x1, x2, x3⟩ := v; exact S128_dbb_6_ok fuel f128_dbb R K x0 x1 x2 x3) hs h
    · cases h
  · cases h
noncomputable def S_slices_symMergeCmpFunc_int_dbb_8 (fuel : Nat) (v : Int × Int × Int × Int × Int × Int × Int × Int × (List Int) × (List (Int × (Int × (List Int))))) (c : (Int × Int × Int × Int × Int × Int × Int × Int × (List Int) × (List (Int × (Int × (List Int))))) → Option Ans) (B : (Int × Int × Int × Int × Int × Int × (List Int) × (List (Int × (Int × (List Int)))) → Option Ans)) : Option Ans := match v, B with
  | (x0, x1, x2, x3, x4, x5, x6, x7, x8, x9), b =>
   bif Decidable.decide (x5 < x6) then
      bif Decidable.decide ((0 : Int) ≤ Go.IntKind.i64.wrap (x7 - Go.IntKind.i64.wrap (Ev.ishr Go.IntKind.u64 (Go.IntKind.u64.wrap (Go.IntKind.i64.wrap (x5 + x6))) (1 : Int))) ∧ Go.IntKind.i64.wrap (x7 - Go.IntKind.i64.wrap (Ev.ishr Go.IntKind.u64 (Go.IntKind.u64.wrap (Go.IntKind.i64.wrap (x5 + x6))) (1 : Int))) < (↑x8.length : Int)) then
      bif Decidable.decide ((0 : Int) ≤ Go.IntKind.i64.wrap (Ev.ishr Go.IntKind.u64 (Go.IntKind.u64.wrap (Go.IntKind.i64.wrap (x5 + x6))) (1 : Int)) ∧ Go.IntKind.i64.wrap (Ev.ishr Go.IntKind.u64 (Go.IntKind.u64.wrap (Go.IntKind.i64.wrap (x5 + x6))) (1 : Int)) < (↑x8.length : Int)) then
       both ((F_symbol_Order_2_21d fuel (x8.getD (Go.IntKind.i64.wrap (x7 - Go.IntKind.i64.wrap (Ev.ishr Go.IntKind.u64 (Go.IntKind.u64.wrap (Go.IntKind.i64.wrap (x5 + x6))) (1 : Int)))).toNat (0 : Int)) (x8.getD (Go.IntKind.i64.wrap (Ev.ishr Go.IntKind.u64 (Go.IntKind.u64.wrap (Go.IntKind.i64.wrap (x5 + x6))) (1 : Int))).toNat (0 : Int)) (x9)
            (fun (y7_0, y7_1) =>
              bif !Decidable.decide (y7_0 < (0 : Int)) then
               c (x0, x1, x2, x3, x4, Go.IntKind.i64.wrap (Go.IntKind.i64.wrap (Ev.ishr Go.IntKind.u64 (Go.IntKind.u64.wrap (Go.IntKind.i64.wrap (x5 + x6))) (1 : Int)) + (1 : Int)), x6, x7, x8, y7_1)
              else
               c (x0, x1, x2, x3, x4, x5, Go.IntKind.i64.wrap (Ev.ishr Go.IntKind.u64 (Go.IntKind.u64.wrap (Go.IntKind.i64.wrap (x5 + x6))) (1 : Int)), x7, x8, y7_1))))
         ((F_symbol_Order_2_21d fuel (x8.getD (Go.IntKind.i64.wrap (x7 - Go.IntKind.i64.wrap (Ev.ishr Go.IntKind.u64 (Go.IntKind.u64.wrap (Go.IntKind.i64.wrap (x5 + x6))) (1 : Int)))).toNat (0 : Int)) (x8.getD (Go.IntKind.i64.wrap (Ev.ishr Go.IntKind.u64 (Go.IntKind.u64.wrap (Go.IntKind.i64.wrap (x5 + x6))) (1 : Int))).toNat (0 : Int)) (x9)
            (fun (y7_0, y7_1) =>
              bif !Decidable.decide (y7_0 < (0 : Int)) then
               c (x0, x1, x2, x3, x4, Go.IntKind.i64.wrap (Go.IntKind.i64.wrap (Ev.ishr Go.IntKind.u64 (Go.IntKind.u64.wrap (Go.IntKind.i64.wrap (x5 + x6))) (1 : Int)) + (1 : Int)), x6, x7, x8, y7_1)
              else
               c (x0, x1, x2, x3, x4, x5, Go.IntKind.i64.wrap (Ev.ishr Go.IntKind.u64 (Go.IntKind.u64.wrap (Go.IntKind.i64.wrap (x5 + x6))) (1 : Int)), x7, x8, y7_1))))
       else none
      else none
     else
      b (x0, x1, x2, x3, x4, x5, x8, x9)
noncomputable def L_slices_symMergeCmpFunc_int_dbb_8 (fuel : Nat) (v : Int × Int × Int × Int × Int × Int × Int × Int × (List Int) × (List (Int × (Int × (List Int))))) (b : (Int × Int × Int × Int × Int × Int × (List Int) × (List (Int × (Int × (List Int)))) → Option Ans)) : Option Ans := iter (S_slices_symMergeCmpFunc_int_dbb_8 fuel) fuel v b
noncomputable def J128_dbb_8 (fuel : Nat) (i : Nat) : Option Ev.Blk := Ev.look i [(100000, B128_dbb_0 fuel), (100002, B128_dbb_2 fuel), (100004, B128_dbb_4 fuel), (100006, B128_dbb_6 fuel)]
noncomputable def T128_dbb_8 (v : Int × Int × Int × Int × Int × Int × Int × Int × (List Int) × (List (Int × (Int × (List Int))))) : Ev.St := match v with | (x0, x1, x2, x3, x4, x5, x6, x7, x8, x9) => ⟨[(0, .c (.own 0)), (1, .c (.int .i64 x0)), (2, .c (.int .i64 x1)), (3, .c (.int .i64 x2)), (4, .c (.clo 45 [1])), (18, .c (.int .i64 x3)), (19, .c (.int .i64 x4)), (20, .c (.int .i64 x5)), (21, .c (.int .i64 x6)), (22, .c (.int .i64 x7))], [(0, .vec 3 (.int .i64) x8 false), (1, .cells 35 [.sl (.pair (.int .i64) (.pair (.int .i64) (.sl (.int .u8)))) x9])], 2, 2⟩
noncomputable def E128_dbb_8 (K : Ev.Ex → Ev.St → Option Ans) : (Int × Int × Int × Int × Int × Int × (List Int) × (List (Int × (Int × (List Int)))) → Option Ans) := (fun v => match v with | (x0, x1, x2, x3, x4, x5, x6, x7) => K .normal ⟨[(0, .c (.own 0)), (1, .c (.int .i64 x0)), (2, .c (.int .i64 x1)), (3, .c (.int .i64 x2)), (4, .c (.clo 45 [1])), (18, .c (.int .i64 x3)), (19, .c (.int .i64 x4)), (20, .c (.int .i64 x5))], [(0, .vec 3 (.int .i64) x6 false), (1, .cells 35 [.sl (.pair (.int .i64) (.pair (.int .i64) (.sl (.int .u8)))) x7])], 2, 2⟩)
theorem S128_dbb_8_okg (fuel : Nat) (f45_21d : YF45_21d) (f128_dbb : YF128_dbb) (f160_dbb : YF160_dbb) (R : Ev.St → Option Ans) (K : Ev.Ex → Ev.St → Option Ans) (x0 : Int) (x1 : Int) (x2 : Int) (x3 : Int) (x4 : Int) (x5 : Int) (x6 : Int) (x7 : Int) (x8 : (List Int)) (x9 : (List (Int × (Int × (List Int))))) : evalCode tab (Gg128_dbb f45_21d f128_dbb f160_dbb) (J128_dbb_8 fuel) kp128_dbb fuel (bodyOf 8 Tryz.f128) (T128_dbb_8 (x0, x1, x2, x3, x4, x5, x6, x7, x8, x9)) (lc kp128_dbb 33 8 R K) = (fun (c : (Int × Int × Int × Int × Int × Int × Int × Int × (List Int) × (List (Int × (Int × (List Int))))) → Option Ans) (B : (Int × Int × Int × Int × Int × Int × (List Int) × (List (Int × (Int × (List Int)))) → Option Ans)) => match B with
  | b =>
   bif Decidable.decide (x5 < x6) then
      bif Decidable.decide ((0 : Int) ≤ Go.IntKind.i64.wrap (x7 - Go.IntKind.i64.wrap (Ev.ishr Go.IntKind.u64 (Go.IntKind.u64.wrap (Go.IntKind.i64.wrap (x5 + x6))) (1 : Int))) ∧ Go.IntKind.i64.wrap (x7 - Go.IntKind.i64.wrap (Ev.ishr Go.IntKind.u64 (Go.IntKind.u64.wrap (Go.IntKind.i64.wrap (x5 + x6))) (1 : Int))) < (↑x8.length : Int)) then
      bif Decidable.decide ((0 : Int) ≤ Go.IntKind.i64.wrap (Ev.ishr Go.IntKind.u64 (Go.IntKind.u64.wrap (Go.IntKind.i64.wrap (x5 + x6))) (1 : Int)) ∧ Go.IntKind.i64.wrap (Ev.ishr Go.IntKind.u64 (Go.IntKind.u64.wrap (Go.IntKind.i64.wrap (x5 + x6))) (1 : Int)) < (↑x8.length : Int)) then
       both ((f45_21d (x8.getD (Go.IntKind.i64.wrap (x7 - Go.IntKind.i64.wrap (Ev.ishr Go.IntKind.u64 (Go.IntKind.u64.wrap (Go.IntKind.i64.wrap (x5 + x6))) (1 : Int)))).toNat (0 : Int)) (x8.getD (Go.IntKind.i64.wrap (Ev.ishr Go.IntKind.u64 (Go.IntKind.u64.wrap (Go.IntKind.i64.wrap (x5 + x6))) (1 : Int))).toNat (0 : Int)) (x9)
            (fun (y7_0, y7_1) =>
              bif !Decidable.decide (y7_0 < (0 : Int)) then
               c (x0, x1, x2, x3, x4, Go.IntKind.i64.wrap (Go.IntKind.i64.wrap (Ev.ishr Go.IntKind.u64 (Go.IntKind.u64.wrap (Go.IntKind.i64.wrap (x5 + x6))) (1 : Int)) + (1 : Int)), x6, x7, x8, y7_1)
              else
               c (x0, x1, x2, x3, x4, x5, Go.IntKind.i64.wrap (Ev.ishr Go.IntKind.u64 (Go.IntKind.u64.wrap (Go.IntKind.i64.wrap (x5 + x6))) (1 : Int)), x7, x8, y7_1))))
         ((f45_21d (x8.getD (Go.IntKind.i64.wrap (x7 - Go.IntKind.i64.wrap (Ev.ishr Go.IntKind.u64 (Go.IntKind.u64.wrap (Go.IntKind.i64.wrap (x5 + x6))) (1 : Int)))).toNat (0 : Int)) (x8.getD (Go.IntKind.i64.wrap (Ev.ishr Go.IntKind.u64 (Go.IntKind.u64.wrap (Go.IntKind.i64.wrap (x5 + x6))) (1 : Int))).toNat (0 : Int)) (x9)
            (fun (y7_0, y7_1) =>
              bif !Decidable.decide (y7_0 < (0 : Int)) then
               c (x0, x1, x2, x3, x4, Go.IntKind.i64.wrap (Go.IntKind.i64.wrap (Ev.ishr Go.IntKind.u64 (Go.IntKind.u64.wrap (Go.IntKind.i64.wrap (x5 + x6))) (1 : Int)) + (1 : Int)), x6, x7, x8, y7_1)
              else
               c (x0, x1, x2, x3, x4, x5, Go.IntKind.i64.wrap (Ev.ishr Go.IntKind.u64 (Go.IntKind.u64.wrap (Go.IntKind.i64.wrap (x5 + x6))) (1 : Int)), x7, x8, y7_1))))
       else none
      else none
     else
      b (x0, x1, x2, x3, x4, x5, x8, x9)) (fun v => R (T128_dbb_8 v)) (E128_dbb_8 K) := by
  kernel_rfl
theorem S128_dbb_8_ok (fuel : Nat) (f128_dbb : YF128_dbb) (R : Ev.St → Option Ans) (K : Ev.Ex → Ev.St → Option Ans) (x0 : Int) (x1 : Int) (x2 : Int) (x3 : Int) (x4 : Int) (x5 : Int) (x6 : Int) (x7 : Int) (x8 : (List Int)) (x9 : (List (Int × (Int × (List Int))))) : evalCode tab (G128_dbb fuel f128_dbb) (J128_dbb_8 fuel) kp128_dbb fuel (bodyOf 8 Tryz.f128) (T128_dbb_8 (x0, x1, x2, x3, x4, x5, x6, x7, x8, x9)) (lc kp128_dbb 33 8 R K) = S_slices_symMergeCmpFunc_int_dbb_8 fuel (x0, x1, x2, x3, x4, x5, x6, x7, x8, x9) (fun v => R (T128_dbb_8 v)) (E128_dbb_8 K) :=
  S128_dbb_8_okg fuel (F_symbol_Order_2_21d fuel) f128_dbb (F_slices_rotateCmpFunc_int_dbb fuel) R K x0 x1 x2 x3 x4 x5 x6 x7 x8 x9
noncomputable def B128_dbb_8 (fuel : Nat) : Ev.Blk := fun st K => match canonO (kp128_dbb 33) st with
  | some s => (match s with
    | ⟨[(q0, .c (.own q1)), (q2, .c (.int .i64 x0)), (q3, .c (.int .i64 x1)), (q4, .c (.int .i64 x2)), (q5, .c (.clo q6 [q7])), (q8, .c (.int .i64 x3)), (q9, .c (.int .i64 x4)), (q10, .c (.int .i64 x5)), (q11, .c (.int .i64 x6)), (q12, .c (.int .i64 x7))], [(q13, .vec q14 (.int .i64) x8 false), (q15, .cells q16 [.sl (.pair (.int .i64) (.pair (.int .i64) (.sl (.int .u8)))) x9])], q17, q18⟩ => bif Nat.beq q0 0 && Nat.beq q1 0 && Nat.beq q2 1 && Nat.beq q3 2 && Nat.beq q4 3 && Nat.beq q5 4 && Nat.beq q6 45 && Nat.beq q7 1 && Nat.beq q8 18 && Nat.beq q9 19 && Nat.beq q10 20 && Nat.beq q11 21 && Nat.beq q12 22 && Nat.beq q13 0 && Nat.beq q14 3 && Nat.beq q15 1 && Nat.beq q16 35 && Nat.beq q17 2 && Nat.beq q18 2 then iter (S_slices_symMergeCmpFunc_int_dbb_8 fuel) fuel (x0, x1, x2, x3, x4, x5, x6, x7, x8, x9) (E128_dbb_8 K) else none
    | _ => none)
  | none => none
theorem B128_dbb_8_ok (fuel : Nat) (f128_dbb : YF128_dbb) (st : Ev.St) (K : Ev.Ex → Ev.St → Option Ans) (r : Ans) (h : B128_dbb_8 fuel st K = some r) : evalCode tab (G128_dbb fuel f128_dbb) (J128_dbb_8 fuel) kp128_dbb fuel (.block 8 (.loop (bodyOf 8 Tryz.f128))) st K = some r := by
  unfold B128_dbb_8 at h
  split at h
  · rename_i s hs
    split at h
    · skip
      obtain ⟨hb, h⟩ := cond_some' h
      simp only [Bool.and_eq_true, Nat.beq_eq, decide_eq_true_eq] at hb
      obtain ⟨⟨⟨⟨⟨⟨⟨⟨⟨⟨⟨⟨⟨⟨⟨⟨⟨⟨rfl, rfl⟩, rfl⟩, rfl⟩, rfl⟩, rfl⟩, rfl⟩, rfl⟩, rfl⟩, rfl⟩, rfl⟩, rfl⟩, rfl⟩, rfl⟩, rfl⟩, rfl⟩, rfl⟩, rfl⟩, rfl⟩ := hb
      exact blk_loop (S := T128_dbb_8) (ks := E128_dbb_8) (step := S_slices_symMergeCmpFunc_int_dbb_8 fuel) (v := (_, _, _, _, _, _, _, _, _, _)) (by kernel_rfl) (by kernel_rfl) (fun R K v => by obtain ⟨x0, x1, x2, x3, x4, x5, x6, x7, x8, x9⟩ := v; exact S128_dbb_8_ok fuel f128_dbb R K x0 x1 x2 x3 x4 x5 x6 x7 x8 x9) hs h
    · cases h
  · cases h
noncomputable def J128_dbb (fuel : Nat) (i : Nat) : Option Ev.Blk := Ev.look i [(100000, B128_dbb_0 fuel), (100002, B128_dbb_2 fuel), (100004, B128_dbb_4 fuel), (100006, B128_dbb_6 fuel), (100008, B128_dbb_8 fuel)]
noncomputable def Fb_slices_symMergeCmpFunc_int_dbb (f128_dbb : YF128_dbb) (fuel : Nat) (x0 : Int) (x1 : Int) (x2 : Int) (x3 : (List Int)) (x4 : (List (Int × (Int × (List Int))))) (k0 : ((List Int) × (List (Int × (Int × (List Int))))) → Option Ans) : Option Ans :=
  bif Go.IntKind.i64.wrap (x1 - x0) == (1 : Int) then
   (L_slices_symMergeCmpFunc_int_dbb_0 fuel (x0, x1, x2, x3, x4)
     (fun (b0_0, b0_1, b0_2, b0_3) =>
       (L_slices_symMergeCmpFunc_int_dbb_2 fuel (b0_1, b0_0, b0_2, b0_3)
         (fun (b2_0, b2_1) =>
           k0 (b2_0, b2_1)))))
  else
   bif Go.IntKind.i64.wrap (x2 - x1) == (1 : Int) then
    (L_slices_symMergeCmpFunc_int_dbb_4 fuel (x1, x0, x1, x3, x4)
      (fun (b4_0, b4_1, b4_2, b4_3) =>
        (L_slices_symMergeCmpFunc_int_dbb_6 fuel (b4_1, b4_0, b4_2, b4_3)
          (fun (b6_0, b6_1) =>
            k0 (b6_0, b6_1)))))
   else
    bif Decidable.decide (x1 > Go.IntKind.i64.wrap (Ev.ishr Go.IntKind.u64 (Go.IntKind.u64.wrap (Go.IntKind.i64.wrap (x0 + x2))) (1 : Int))) then
     (L_slices_symMergeCmpFunc_int_dbb_8 fuel (x0, x1, x2, Go.IntKind.i64.wrap (Ev.ishr Go.IntKind.u64 (Go.IntKind.u64.wrap (Go.IntKind.i64.wrap (x0 + x2))) (1 : Int)), Go.IntKind.i64.wrap (Go.IntKind.i64.wrap (Ev.ishr Go.IntKind.u64 (Go.IntKind.u64.wrap (Go.IntKind.i64.wrap (x0 + x2))) (1 : Int)) + x1), Go.IntKind.i64.wrap (Go.IntKind.i64.wrap (Go.IntKind.i64.wrap (Ev.ishr Go.IntKind.u64 (Go.IntKind.u64.wrap (Go.IntKind.i64.wrap (x0 + x2))) (1 : Int)) + x1) - x2), Go.IntKind.i64.wrap (Ev.ishr Go.IntKind.u64 (Go.IntKind.u64.wrap (Go.IntKind.i64.wrap (x0 + x2))) (1 : Int)), Go.IntKind.i64.wrap (Go.IntKind.i64.wrap (Go.IntKind.i64.wrap (Ev.ishr Go.IntKind.u64 (Go.IntKind.u64.wrap (Go.IntKind.i64.wrap (x0 + x2))) (1 : Int)) + x1) - (1 : Int)), x3, x4)
       (fun (b8_0, b8_1, b8_2, b8_3, b8_4, b8_5, b8_6, b8_7) =>
         bif Decidable.decide (b8_5 < b8_1) then
          bif Decidable.decide (b8_1 < Go.IntKind.i64.wrap (b8_4 - b8_5)) then
           (F_slices_rotateCmpFunc_int_dbb fuel (b8_5) (b8_1) (Go.IntKind.i64.wrap (b8_4 - b8_5)) (b8_6) (b8_7)
             (fun (y11_0, y11_1) =>
               bif Decidable.decide (b8_0 < b8_5) then
                bif Decidable.decide (b8_5 < b8_3) then
                 (f128_dbb (b8_0) (b8_5) (b8_3) (y11_0) (y11_1)
                   (fun (y17_0, y17_1) =>
                     bif Decidable.decide (b8_3 < Go.IntKind.i64.wrap (b8_4 - b8_5)) then
                      bif Decidable.decide (Go.IntKind.i64.wrap (b8_4 - b8_5) < b8_2) then
                       (f128_dbb (b8_3) (Go.IntKind.i64.wrap (b8_4 - b8_5)) (b8_2) (y17_0) (y17_1)
                         (fun (y23_0, y23_1) =>
                           k0 (y23_0, y23_1)))
                      else
                       k0 (y17_0, y17_1)
                     else
                      k0 (y17_0, y17_1)))
                else
                 bif Decidable.decide (b8_3 < Go.IntKind.i64.wrap (b8_4 - b8_5)) then
                  bif Decidable.decide (Go.IntKind.i64.wrap (b8_4 - b8_5) < b8_2) then
                   (f128_dbb (b8_3) (Go.IntKind.i64.wrap (b8_4 - b8_5)) (b8_2) (y11_0) (y11_1)
                     (fun (y19_0, y19_1) =>
                       k0 (y19_0, y19_1)))
                  else
                   k0 (y11_0, y11_1)
                 else
                  k0 (y11_0, y11_1)
               else
                bif Decidable.decide (b8_3 < Go.IntKind.i64.wrap (b8_4 - b8_5)) then
                 bif Decidable.decide (Go.IntKind.i64.wrap (b8_4 - b8_5) < b8_2) then
                  (f128_dbb (b8_3) (Go.IntKind.i64.wrap (b8_4 - b8_5)) (b8_2) (y11_0) (y11_1)
                    (fun (y18_0, y18_1) =>
                      k0 (y18_0, y18_1)))
                 else
                  k0 (y11_0, y11_1)
                else
                 k0 (y11_0, y11_1)))
          else
           bif Decidable.decide (b8_0 < b8_5) then
            bif Decidable.decide (b8_5 < b8_3) then
             (f128_dbb (b8_0) (b8_5) (b8_3) (b8_6) (b8_7)
               (fun (y13_0, y13_1) =>
                 bif Decidable.decide (b8_3 < Go.IntKind.i64.wrap (b8_4 - b8_5)) then
                  bif Decidable.decide (Go.IntKind.i64.wrap (b8_4 - b8_5) < b8_2) then
                   (f128_dbb (b8_3) (Go.IntKind.i64.wrap (b8_4 - b8_5)) (b8_2) (y13_0) (y13_1)
                     (fun (y19_0, y19_1) =>
                       k0 (y19_0, y19_1)))
                  else
                   k0 (y13_0, y13_1)
                 else
                  k0 (y13_0, y13_1)))
            else
             bif Decidable.decide (b8_3 < Go.IntKind.i64.wrap (b8_4 - b8_5)) then
              bif Decidable.decide (Go.IntKind.i64.wrap (b8_4 - b8_5) < b8_2) then
               (f128_dbb (b8_3) (Go.IntKind.i64.wrap (b8_4 - b8_5)) (b8_2) (b8_6) (b8_7)
                 (fun (y15_0, y15_1) =>
                   k0 (y15_0, y15_1)))
              else
               k0 (b8_6, b8_7)
             else
              k0 (b8_6, b8_7)
           else
            bif Decidable.decide (b8_3 < Go.IntKind.i64.wrap (b8_4 - b8_5)) then
             bif Decidable.decide (Go.IntKind.i64.wrap (b8_4 - b8_5) < b8_2) then
              (f128_dbb (b8_3) (Go.IntKind.i64.wrap (b8_4 - b8_5)) (b8_2) (b8_6) (b8_7)
                (fun (y14_0, y14_1) =>
                  k0 (y14_0, y14_1)))
             else
              k0 (b8_6, b8_7)
            else
             k0 (b8_6, b8_7)
         else
          bif Decidable.decide (b8_0 < b8_5) then
           bif Decidable.decide (b8_5 < b8_3) then
            (f128_dbb (b8_0) (b8_5) (b8_3) (b8_6) (b8_7)
              (fun (y12_0, y12_1) =>
                bif Decidable.decide (b8_3 < Go.IntKind.i64.wrap (b8_4 - b8_5)) then
                 bif Decidable.decide (Go.IntKind.i64.wrap (b8_4 - b8_5) < b8_2) then
                  (f128_dbb (b8_3) (Go.IntKind.i64.wrap (b8_4 - b8_5)) (b8_2) (y12_0) (y12_1)
                    (fun (y18_0, y18_1) =>
                      k0 (y18_0, y18_1)))
                 else
                  k0 (y12_0, y12_1)
                else
                 k0 (y12_0, y12_1)))
           else
            bif Decidable.decide (b8_3 < Go.IntKind.i64.wrap (b8_4 - b8_5)) then
             bif Decidable.decide (Go.IntKind.i64.wrap (b8_4 - b8_5) < b8_2) then
              (f128_dbb (b8_3) (Go.IntKind.i64.wrap (b8_4 - b8_5)) (b8_2) (b8_6) (b8_7)
                (fun (y14_0, y14_1) =>
                  k0 (y14_0, y14_1)))
             else
              k0 (b8_6, b8_7)
            else
             k0 (b8_6, b8_7)
          else
           bif Decidable.decide (b8_3 < Go.IntKind.i64.wrap (b8_4 - b8_5)) then
            bif Decidable.decide (Go.IntKind.i64.wrap (b8_4 - b8_5) < b8_2) then
             (f128_dbb (b8_3) (Go.IntKind.i64.wrap (b8_4 - b8_5)) (b8_2) (b8_6) (b8_7)
               (fun (y13_0, y13_1) =>
                 k0 (y13_0, y13_1)))
            else
             k0 (b8_6, b8_7)
           else
            k0 (b8_6, b8_7)))
    else
     (L_slices_symMergeCmpFunc_int_dbb_8 fuel (x0, x1, x2, Go.IntKind.i64.wrap (Ev.ishr Go.IntKind.u64 (Go.IntKind.u64.wrap (Go.IntKind.i64.wrap (x0 + x2))) (1 : Int)), Go.IntKind.i64.wrap (Go.IntKind.i64.wrap (Ev.ishr Go.IntKind.u64 (Go.IntKind.u64.wrap (Go.IntKind.i64.wrap (x0 + x2))) (1 : Int)) + x1), x0, x1, Go.IntKind.i64.wrap (Go.IntKind.i64.wrap (Go.IntKind.i64.wrap (Ev.ishr Go.IntKind.u64 (Go.IntKind.u64.wrap (Go.IntKind.i64.wrap (x0 + x2))) (1 : Int)) + x1) - (1 : Int)), x3, x4)
       (fun (b8_0, b8_1, b8_2, b8_3, b8_4, b8_5, b8_6, b8_7) =>
         bif Decidable.decide (b8_5 < b8_1) then
          bif Decidable.decide (b8_1 < Go.IntKind.i64.wrap (b8_4 - b8_5)) then
           (F_slices_rotateCmpFunc_int_dbb fuel (b8_5) (b8_1) (Go.IntKind.i64.wrap (b8_4 - b8_5)) (b8_6) (b8_7)
             (fun (y11_0, y11_1) =>
               bif Decidable.decide (b8_0 < b8_5) then
                bif Decidable.decide (b8_5 < b8_3) then
                 (f128_dbb (b8_0) (b8_5) (b8_3) (y11_0) (y11_1)
                   (fun (y17_0, y17_1) =>
                     bif Decidable.decide (b8_3 < Go.IntKind.i64.wrap (b8_4 - b8_5)) then
                      bif Decidable.decide (Go.IntKind.i64.wrap (b8_4 - b8_5) < b8_2) then
                       (f128_dbb (b8_3) (Go.IntKind.i64.wrap (b8_4 - b8_5)) (b8_2) (y17_0) (y17_1)
                         (fun (y23_0, y23_1) =>
                           k0 (y23_0, y23_1)))
                      else
                       k0 (y17_0, y17_1)
                     else
                      k0 (y17_0, y17_1)))
                else
                 bif Decidable.decide (b8_3 < Go.IntKind.i64.wrap (b8_4 - b8_5)) then
                  bif Decidable.decide (Go.IntKind.i64.wrap (b8_4 - b8_5) < b8_2) then
                   (f128_dbb (b8_3) (Go.IntKind.i64.wrap (b8_4 - b8_5)) (b8_2) (y11_0) (y11_1)
                     (fun (y19_0, y19_1) =>
                       k0 (y19_0, y19_1)))
                  else
                   k0 (y11_0, y11_1)
                 else
                  k0 (y11_0, y11_1)
               else
                bif Decidable.decide (b8_3 < Go.IntKind.i64.wrap (b8_4 - b8_5)) then
                 bif Decidable.decide (Go.IntKind.i64.wrap (b8_4 - b8_5) < b8_2) then
                  (f128_dbb (b8_3) (Go.IntKind.i64.wrap (b8_4 - b8_5)) (b8_2) (y11_0) (y11_1)
                    (fun (y18_0, y18_1) =>
                      k0 (y18_0, y18_1)))
                 else
                  k0 (y11_0, y11_1)
                else
                 k0 (y11_0, y11_1)))
          else
           bif Decidable.decide (b8_0 < b8_5) then
            bif Decidable.decide (b8_5 < b8_3) then
             (f128_dbb (b8_0) (b8_5) (b8_3) (b8_6) (b8_7)
               (fun (y13_0, y13_1) =>
                 bif Decidable.decide (b8_3 < Go.IntKind.i64.wrap (b8_4 - b8_5)) then
                  bif Decidable.decide (Go.IntKind.i64.wrap (b8_4 - b8_5) < b8_2) then
                   (f128_dbb (b8_3) (Go.IntKind.i64.wrap (b8_4 - b8_5)) (b8_2) (y13_0) (y13_1)
                     (fun (y19_0, y19_1) =>
                       k0 (y19_0, y19_1)))
                  else
                   k0 (y13_0, y13_1)
                 else
                  k0 (y13_0, y13_1)))
            else
             bif Decidable.decide (b8_3 < Go.IntKind.i64.wrap (b8_4 - b8_5)) then
              bif Decidable.decide (Go.IntKind.i64.wrap (b8_4 - b8_5) < b8_2) then
               (f128_dbb (b8_3) (Go.IntKind.i64.wrap (b8_4 - b8_5)) (b8_2) (b8_6) (b8_7)
                 (fun (y15_0, y15_1) =>
                   k0 (y15_0, y15_1)))
              else
               k0 (b8_6, b8_7)
             else
              k0 (b8_6, b8_7)
           else
            bif Decidable.decide (b8_3 < Go.IntKind.i64.wrap (b8_4 - b8_5)) then
             bif Decidable.decide (Go.IntKind.i64.wrap (b8_4 - b8_5) < b8_2) then
              (f128_dbb (b8_3) (Go.IntKind.i64.wrap (b8_4 - b8_5)) (b8_2) (b8_6) (b8_7)
                (fun (y14_0, y14_1) =>
                  k0 (y14_0, y14_1)))
             else
              k0 (b8_6, b8_7)
            else
             k0 (b8_6, b8_7)
         else
          bif Decidable.decide (b8_0 < b8_5) then
           bif Decidable.decide (b8_5 < b8_3) then
            (f128_dbb (b8_0) (b8_5) (b8_3) (b8_6) (b8_7)
              (fun (y12_0, y12_1) =>
                bif Decidable.decide (b8_3 < Go.IntKind.i64.wrap (b8_4 - b8_5)) then
                 bif Decidable.decide (Go.IntKind.i64.wrap (b8_4 - b8_5) < b8_2) then
                  (f128_dbb (b8_3) (Go.IntKind.i64.wrap (b8_4 - b8_5)) (b8_2) (y12_0) (y12_1)
                    (fun (y18_0, y18_1) =>
                      k0 (y18_0, y18_1)))
                 else
                  k0 (y12_0, y12_1)
                else
                 k0 (y12_0, y12_1)))
           else
            bif Decidable.decide (b8_3 < Go.IntKind.i64.wrap (b8_4 - b8_5)) then
             bif Decidable.decide (Go.IntKind.i64.wrap (b8_4 - b8_5) < b8_2) then
              (f128_dbb (b8_3) (Go.IntKind.i64.wrap (b8_4 - b8_5)) (b8_2) (b8_6) (b8_7)
                (fun (y14_0, y14_1) =>
                  k0 (y14_0, y14_1)))
             else
              k0 (b8_6, b8_7)
            else
             k0 (b8_6, b8_7)
          else
           bif Decidable.decide (b8_3 < Go.IntKind.i64.wrap (b8_4 - b8_5)) then
            bif Decidable.decide (Go.IntKind.i64.wrap (b8_4 - b8_5) < b8_2) then
             (f128_dbb (b8_3) (Go.IntKind.i64.wrap (b8_4 - b8_5)) (b8_2) (b8_6) (b8_7)
               (fun (y13_0, y13_1) =>
                 k0 (y13_0, y13_1)))
            else
             k0 (b8_6, b8_7)
           else
            k0 (b8_6, b8_7)))
noncomputable def Fr_slices_symMergeCmpFunc_int_dbb (fuel : Nat) : Nat → YF128_dbb
  | 0 => fun _ _ _ _ _ _ => none
  | n + 1 => fun x0 x1 x2 x3 x4 k0 => Fb_slices_symMergeCmpFunc_int_dbb (Fr_slices_symMergeCmpFunc_int_dbb fuel n) fuel x0 x1 x2 x3 x4 k0
noncomputable def F_slices_symMergeCmpFunc_int_dbb (fuel : Nat) (x0 : Int) (x1 : Int) (x2 : Int) (x3 : (List Int)) (x4 : (List (Int × (Int × (List Int))))) (k0 : ((List Int) × (List (Int × (Int × (List Int))))) → Option Ans) : Option Ans := Fr_slices_symMergeCmpFunc_int_dbb fuel fuel x0 x1 x2 x3 x4 k0
theorem F128_dbb_eqg (fuel : Nat) (f45_21d : YF45_21d) (f128_dbb : YF128_dbb) (f160_dbb : YF160_dbb) (x0 : Int) (x1 : Int) (x2 : Int) (x3 : (List Int)) (x4 : (List (Int × (Int × (List Int))))) (k : Ev.Cont) : evalFn tab (Gg128_dbb f45_21d f128_dbb f160_dbb) (J128_dbb fuel) kp128_dbb fuel Tryz.f128 [.c (.own 0), .c (.int .i64 x0), .c (.int .i64 x1), .c (.int .i64 x2), .c (.clo 45 [1])] [.vec 3 (.int .i64) x3 false, .cells 35 [.sl (.pair (.int .i64) (.pair (.int .i64) (.sl (.int .u8)))) x4]] k = (fun  (k0 : ((List Int) × (List (Int × (Int × (List Int))))) → Option Ans) =>
  bif Go.IntKind.i64.wrap (x1 - x0) == (1 : Int) then
   (L_slices_symMergeCmpFunc_int_dbb_0 fuel (x0, x1, x2, x3, x4)
     (fun (b0_0, b0_1, b0_2, b0_3) =>
       (L_slices_symMergeCmpFunc_int_dbb_2 fuel (b0_1, b0_0, b0_2, b0_3)
         (fun (b2_0, b2_1) =>
           k0 (b2_0, b2_1)))))
  else
   bif Go.IntKind.i64.wrap (x2 - x1) == (1 : Int) then
    (L_slices_symMergeCmpFunc_int_dbb_4 fuel (x1, x0, x1, x3, x4)
      (fun (b4_0, b4_1, b4_2, b4_3) =>
        (L_slices_symMergeCmpFunc_int_dbb_6 fuel (b4_1, b4_0, b4_2, b4_3)
          (fun (b6_0, b6_1) =>
            k0 (b6_0, b6_1)))))
   else
    bif Decidable.decide (x1 > Go.IntKind.i64.wrap (Ev.ishr Go.IntKind.u64 (Go.IntKind.u64.wrap (Go.IntKind.i64.wrap (x0 + x2))) (1 : Int))) then
     (L_slices_symMergeCmpFunc_int_dbb_8 fuel (x0, x1, x2, Go.IntKind.i64.wrap (Ev.ishr Go.IntKind.u64 (Go.IntKind.u64.wrap (Go.IntKind.i64.wrap (x0 + x2))) (1 : Int)), Go.IntKind.i64.wrap (Go.IntKind.i64.wrap (Ev.ishr Go.IntKind.u64 (Go.IntKind.u64.wrap (Go.IntKind.i64.wrap (x0 + x2))) (1 : Int)) + x1), Go.IntKind.i64.wrap (Go.IntKind.i64.wrap (Go.IntKind.i64.wrap (Ev.ishr Go.IntKind.u64 (Go.IntKind.u64.wrap (Go.IntKind.i64.wrap (x0 + x2))) (1 : Int)) + x1) - x2), Go.IntKind.i64.wrap (Ev.ishr Go.IntKind.u64 (Go.IntKind.u64.wrap (Go.IntKind.i64.wrap (x0 + x2))) (1 : Int)), Go.IntKind.i64.wrap (Go.IntKind.i64.wrap (Go.IntKind.i64.wrap (Ev.ishr Go.IntKind.u64 (Go.IntKind.u64.wrap (Go.IntKind.i64.wrap (x0 + x2))) (1 : Int)) + x1) - (1 : Int)), x3, x4)
       (fun (b8_0, b8_1, b8_2, b8_3, b8_4, b8_5, b8_6, b8_7) =>
         bif Decidable.decide (b8_5 < b8_1) then
          bif Decidable.decide (b8_1 < Go.IntKind.i64.wrap (b8_4 - b8_5)) then
           (f160_dbb (b8_5) (b8_1) (Go.IntKind.i64.wrap (b8_4 - b8_5)) (b8_6) (b8_7)
             (fun (y11_0, y11_1) =>
               bif Decidable.decide (b8_0 < b8_5) then
                bif Decidable.decide (b8_5 < b8_3) then
                 (f128_dbb (b8_0) (b8_5) (b8_3) (y11_0) (y11_1)
                   (fun (y17_0, y17_1) =>
                     bif Decidable.decide (b8_3 < Go.IntKind.i64.wrap (b8_4 - b8_5)) then
                      bif Decidable.decide (Go.IntKind.i64.wrap (b8_4 - b8_5) < b8_2) then
                       (f128_dbb (b8_3) (Go.IntKind.i64.wrap (b8_4 - b8_5)) (b8_2) (y17_0) (y17_1)
                         (fun (y23_0, y23_1) =>
                           k0 (y23_0, y23_1)))
                      else
                       k0 (y17_0, y17_1)
                     else
                      k0 (y17_0, y17_1)))
                else
                 bif Decidable.decide (b8_3 < Go.IntKind.i64.wrap (b8_4 - b8_5)) then
                  bif Decidable.decide (Go.IntKind.i64.wrap (b8_4 - b8_5) < b8_2) then
                   (f128_dbb (b8_3) (Go.IntKind.i64.wrap (b8_4 - b8_5)) (b8_2) (y11_0) (y11_1)
                     (fun (y19_0, y19_1) =>
                       k0 (y19_0, y19_1)))
                  else
                   k0 (y11_0, y11_1)
                 else
                  k0 (y11_0, y11_1)
               else
                bif Decidable.decide (b8_3 < Go.IntKind.i64.wrap (b8_4 - b8_5)) then
                 bif Decidable.decide (Go.IntKind.i64.wrap (b8_4 - b8_5) < b8_2) then
                  (f128_dbb (b8_3) (Go.IntKind.i64.wrap (b8_4 - b8_5)) (b8_2) (y11_0) (y11_1)
                    (fun (y18_0, y18_1) =>
                      k0 (y18_0, y18_1)))
                 else
                  k0 (y11_0, y11_1)
                else
                 k0 (y11_0, y11_1)))
          else
           bif Decidable.decide (b8_0 < b8_5) then
            bif Decidable.decide (b8_5 < b8_3) then
             (f128_dbb (b8_0) (b8_5) (b8_3) (b8_6) (b8_7)
               (fun (y13_0, y13_1) =>
                 bif Decidable.decide (b8_3 < Go.IntKind.i64.wrap (b8_4 - b8_5)) then
                  bif Decidable.decide (Go.IntKind.i64.wrap (b8_4 - b8_5) < b8_2) then
                   (f128_dbb (b8_3) (Go.IntKind.i64.wrap (b8_4 - b8_5)) (b8_2) (y13_0) (y13_1)
                     (fun (y19_0, y19_1) =>
                       k0 (y19_0, y19_1)))
                  else
                   k0 (y13_0, y13_1)
                 else
                  k0 (y13_0, y13_1)))
            else
             bif Decidable.decide (b8_3 < Go.IntKind.i64.wrap (b8_4 - b8_5)) then
              bif Decidable.decide (Go.IntKind.i64.wrap (b8_4 - b8_5) < b8_2) then
               (f128_dbb (b8_3) (Go.IntKind.i64.wrap (b8_4 - b8_5)) (b8_2) (b8_6) (b8_7)
                 (fun (y15_0, y15_1) =>
                   k0 (y15_0, y15_1)))
              else
               k0 (b8_6, b8_7)
             else
              k0 (b8_6, b8_7)
           else
            bif Decidable.decide (b8_3 < Go.IntKind.i64.wrap (b8_4 - b8_5)) then
             bif Decidable.decide (Go.IntKind.i64.wrap (b8_4 - b8_5) < b8_2) then
              (f128_dbb (b8_3) (Go.IntKind.i64.wrap (b8_4 - b8_5)) (b8_2) (b8_6) (b8_7)
                (fun (y14_0, y14_1) =>
                  k0 (y14_0, y14_1)))
             else
              k0 (b8_6, b8_7)
            else
             k0 (b8_6, b8_7)
         else
          bif Decidable.decide (b8_0 < b8_5) then
           bif Decidable.decide (b8_5 < b8_3) then
            (f128_dbb (b8_0) (b8_5) (b8_3) (b8_6) (b8_7)
              (fun (y12_0, y12_1) =>
                bif Decidable.decide (b8_3 < Go.IntKind.i64.wrap (b8_4 - b8_5)) then
                 bif Decidable.decide (Go.IntKind.i64.wrap (b8_4 - b8_5) < b8_2) then
                  (f128_dbb (b8_3) (Go.IntKind.i64.wrap (b8_4 - b8_5)) (b8_2) (y12_0) (y12_1)
                    (fun (y18_0, y18_1) =>
                      k0 (y18_0, y18_1)))
                 else
                  k0 (y12_0, y12_1)
                else
                 k0 (y12_0, y12_1)))
           else
            bif Decidable.decide (b8_3 < Go.IntKind.i64.wrap (b8_4 - b8_5)) then
             bif Decidable.decide (Go.IntKind.i64.wrap (b8_4 - b8_5) < b8_2) then
              (f128_dbb (b8_3) (Go.IntKind.i64.wrap (b8_4 - b8_5)) (b8_2) (b8_6) (b8_7)
                (fun (y14_0, y14_1) =>
                  k0 (y14_0, y14_1)))
             else
              k0 (b8_6, b8_7)
            else
             k0 (b8_6, b8_7)
          else
           bif Decidable.decide (b8_3 < Go.IntKind.i64.wrap (b8_4 - b8_5)) then
            bif Decidable.decide (Go.IntKind.i64.wrap (b8_4 - b8_5) < b8_2) then
             (f128_dbb (b8_3) (Go.IntKind.i64.wrap (b8_4 - b8_5)) (b8_2) (b8_6) (b8_7)
               (fun (y13_0, y13_1) =>
                 k0 (y13_0, y13_1)))
            else
             k0 (b8_6, b8_7)
           else
            k0 (b8_6, b8_7)))
    else
     (L_slices_symMergeCmpFunc_int_dbb_8 fuel (x0, x1, x2, Go.IntKind.i64.wrap (Ev.ishr Go.IntKind.u64 (Go.IntKind.u64.wrap (Go.IntKind.i64.wrap (x0 + x2))) (1 : Int)), Go.IntKind.i64.wrap (Go.IntKind.i64.wrap (Ev.ishr Go.IntKind.u64 (Go.IntKind.u64.wrap (Go.IntKind.i64.wrap (x0 + x2))) (1 : Int)) + x1), x0, x1, Go.IntKind.i64.wrap (Go.IntKind.i64.wrap (Go.IntKind.i64.wrap (Ev.ishr Go.IntKind.u64 (Go.IntKind.u64.wrap (Go.IntKind.i64.wrap (x0 + x2))) (1 : Int)) + x1) - (1 : Int)), x3, x4)
       (fun (b8_0, b8_1, b8_2, b8_3, b8_4, b8_5, b8_6, b8_7) =>
         bif Decidable.decide (b8_5 < b8_1) then
          bif Decidable.decide (b8_1 < Go.IntKind.i64.wrap (b8_4 - b8_5)) then
           (f160_dbb (b8_5) (b8_1) (Go.IntKind.i64.wrap (b8_4 - b8_5)) (b8_6) (b8_7)
             (fun (y11_0, y11_1) =>
               bif Decidable.decide (b8_0 < b8_5) then
                bif Decidable.decide (b8_5 < b8_3) then
                 (f128_dbb (b8_0) (b8_5) (b8_3) (y11_0) (y11_1)
                   (fun (y17_0, y17_1) =>
                     bif Decidable.decide (b8_3 < Go.IntKind.i64.wrap (b8_4 - b8_5)) then
                      bif Decidable.decide (Go.IntKind.i64.wrap (b8_4 - b8_5) < b8_2) then
                       (f128_dbb (b8_3) (Go.IntKind.i64.wrap (b8_4 - b8_5)) (b8_2) (y17_0) (y17_1)
                         (fun (y23_0, y23_1) =>
                           k0 (y23_0, y23_1)))
                      else
                       k0 (y17_0, y17_1)
                     else
                      k0 (y17_0, y17_1)))
                else
                 bif Decidable.decide (b8_3 < Go.IntKind.i64.wrap (b8_4 - b8_5)) then
                  bif Decidable.decide (Go.IntKind.i64.wrap (b8_4 - b8_5) < b8_2) then
                   (f128_dbb (b8_3) (Go.IntKind.i64.wrap (b8_4 - b8_5)) (b8_2) (y11_0) (y11_1)
                     (fun (y19_0, y19_1) =>
                       k0 (y19_0, y19_1)))
                  else
                   k0 (y11_0, y11_1)
                 else
                  k0 (y11_0, y11_1)
               else
                bif Decidable.decide (b8_3 < Go.IntKind.i64.wrap (b8_4 - b8_5)) then
                 bif Decidable.decide (Go.IntKind.i64.wrap (b8_4 - b8_5) < b8_2) then
                  (f128_dbb (b8_3) (Go.IntKind.i64.wrap (b8_4 - b8_5)) (b8_2) (y11_0) (y11_1)
                    (fun (y18_0, y18_1) =>
                      k0 (y18_0, y18_1)))
                 else
                  k0 (y11_0, y11_1)
                else
                 k0 (y11_0, y11_1)))
          else
           bif Decidable.decide (b8_0 < b8_5) then
            bif Decidable.decide (b8_5 < b8_3) then
             (f128_dbb (b8_0) (b8_5) (b8_3) (b8_6) (b8_7)
               (fun (y13_0, y13_1) =>
                 bif Decidable.decide (b8_3 < Go.IntKind.i64.wrap (b8_4 - b8_5)) then
                  bif Decidable.decide (Go.IntKind.i64.wrap (b8_4 - b8_5) < b8_2) then
                   (f128_dbb (b8_3) (Go.IntKind.i64.wrap (b8_4 - b8_5)) (b8_2) (y13_0) (y13_1)
                     (fun (y19_0, y19_1) =>
                       k0 (y19_0, y19_1)))
                  else
                   k0 (y13_0, y13_1)
                 else
                  k0 (y13_0, y13_1)))
            else
             bif Decidable.decide (b8_3 < Go.IntKind.i64.wrap (b8_4 - b8_5)) then
              bif Decidable.decide (Go.IntKind.i64.wrap (b8_4 - b8_5) < b8_2) then
               (f128_dbb (b8_3) (Go.IntKind.i64.wrap (b8_4 - b8_5)) (b8_2) (b8_6) (b8_7)
                 (fun (y15_0, y15_1) =>
                   k0 (y15_0, y15_1)))
              else
               k0 (b8_6, b8_7)
             else
              k0 (b8_6, b8_7)
           else
            bif Decidable.decide (b8_3 < Go.IntKind.i64.wrap (b8_4 - b8_5)) then
             bif Decidable.decide (Go.IntKind.i64.wrap (b8_4 - b8_5) < b8_2) then
              (f128_dbb (b8_3) (Go.IntKind.i64.wrap (b8_4 - b8_5)) (b8_2) (b8_6) (b8_7)
                (fun (y14_0, y14_1) =>
                  k0 (y14_0, y14_1)))
             else
              k0 (b8_6, b8_7)
            else
             k0 (b8_6, b8_7)
         else
          bif Decidable.decide (b8_0 < b8_5) then
           bif Decidable.decide (b8_5 < b8_3) then
            (f128_dbb (b8_0) (b8_5) (b8_3) (b8_6) (b8_7)
              (fun (y12_0, y12_1) =>
                bif Decidable.decide (b8_3 < Go.IntKind.i64.wrap (b8_4 - b8_5)) then
                 bif Decidable.decide (Go.IntKind.i64.wrap (b8_4 - b8_5) < b8_2) then
                  (f128_dbb (b8_3) (Go.IntKind.i64.wrap (b8_4 - b8_5)) (b8_2) (y12_0) (y12_1)
                    (fun (y18_0, y18_1) =>
                      k0 (y18_0, y18_1)))
                 else
                  k0 (y12_0, y12_1)
                else
                 k0 (y12_0, y12_1)))
           else
            bif Decidable.decide (b8_3 < Go.IntKind.i64.wrap (b8_4 - b8_5)) then
             bif Decidable.decide (Go.IntKind.i64.wrap (b8_4 - b8_5) < b8_2) then
              (f128_dbb (b8_3) (Go.IntKind.i64.wrap (b8_4 - b8_5)) (b8_2) (b8_6) (b8_7)
                (fun (y14_0, y14_1) =>
                  k0 (y14_0, y14_1)))
             else
              k0 (b8_6, b8_7)
            else
             k0 (b8_6, b8_7)
          else
           bif Decidable.decide (b8_3 < Go.IntKind.i64.wrap (b8_4 - b8_5)) then
            bif Decidable.decide (Go.IntKind.i64.wrap (b8_4 - b8_5) < b8_2) then
             (f128_dbb (b8_3) (Go.IntKind.i64.wrap (b8_4 - b8_5)) (b8_2) (b8_6) (b8_7)
               (fun (y13_0, y13_1) =>
                 k0 (y13_0, y13_1)))
            else
             k0 (b8_6, b8_7)
           else
            k0 (b8_6, b8_7)))) (fun r => match r with | (r0, r1) => k (.tup [], [.vec 3 (.int .i64) r0 false, .cells 35 [.sl (.pair (.int .i64) (.pair (.int .i64) (.sl (.int .u8)))) r1]])) := by
  kernel_rfl
theorem F128_dbb_eq (fuel : Nat) (f128_dbb : YF128_dbb) (x0 : Int) (x1 : Int) (x2 : Int) (x3 : (List Int)) (x4 : (List (Int × (Int × (List Int))))) (k : Ev.Cont) : evalFn tab (G128_dbb fuel f128_dbb) (J128_dbb fuel) kp128_dbb fuel Tryz.f128 [.c (.own 0), .c (.int .i64 x0), .c (.int .i64 x1), .c (.int .i64 x2), .c (.clo 45 [1])] [.vec 3 (.int .i64) x3 false, .cells 35 [.sl (.pair (.int .i64) (.pair (.int .i64) (.sl (.int .u8)))) x4]] k = Fb_slices_symMergeCmpFunc_int_dbb f128_dbb fuel x0 x1 x2 x3 x4 (fun r => match r with | (r0, r1) => k (.tup [], [.vec 3 (.int .i64) r0 false, .cells 35 [.sl (.pair (.int .i64) (.pair (.int .i64) (.sl (.int .u8)))) r1]])) :=
  F128_dbb_eqg fuel (F_symbol_Order_2_21d fuel) f128_dbb (F_slices_rotateCmpFunc_int_dbb fuel) x0 x1 x2 x3 x4 k
theorem hG128_dbb (fuel : Nat) (f128_dbb : YF128_dbb) (hself : FnOK Tryz.prog 128 (spg128_dbb f128_dbb)) : GOK Tryz.prog (G128_dbb fuel f128_dbb) :=
  gok_cons ⟨ok45_21d fuel, enters_of Tryz.func45 (by kernel_rfl) rfl⟩ <|
  gok_cons ⟨hself, enters_of Tryz.func128 (by kernel_rfl) rfl⟩ <|
  gok_cons ⟨ok160_dbb fuel, enters_of Tryz.func160 (by kernel_rfl) rfl⟩ <|
  gok_nil
theorem B128_dbb_0_blk (fuel : Nat) (f128_dbb : YF128_dbb) (hself : FnOK Tryz.prog 128 (spg128_dbb f128_dbb)) : BlkOK Tryz.prog Tryz.f128.ntmps (.block 0 (.loop (bodyOf 0 Tryz.f128))) (B128_dbb_0 fuel) :=
  blk_of (blk_of_code tab_ok (hG128_dbb fuel f128_dbb hself) mixed (J := J128_dbb_0 fuel) (kp := kp128_dbb) (fuel := fuel) (by kernel_rfl) (fun q hq => by
    rw [(by kernel_rfl : obl (J128_dbb_0 fuel) (.block 0 (.loop (bodyOf 0 Tryz.f128))) = [])] at hq
    cases hq)) (B128_dbb_0_ok fuel f128_dbb)
theorem B128_dbb_2_blk (fuel : Nat) (f128_dbb : YF128_dbb) (hself : FnOK Tryz.prog 128 (spg128_dbb f128_dbb)) : BlkOK Tryz.prog Tryz.f128.ntmps (.block 2 (.loop (bodyOf 2 Tryz.f128))) (B128_dbb_2 fuel) :=
  blk_of (blk_of_code tab_ok (hG128_dbb fuel f128_dbb hself) mixed (J := J128_dbb_2 fuel) (kp := kp128_dbb) (fuel := fuel) (by kernel_rfl) (fun q hq => by
    rw [(by kernel_rfl : obl (J128_dbb_2 fuel) (.block 2 (.loop (bodyOf 2 Tryz.f128))) = [])] at hq
    cases hq)) (B128_dbb_2_ok fuel f128_dbb)
theorem B128_dbb_4_blk (fuel : Nat) (f128_dbb : YF128_dbb) (hself : FnOK Tryz.prog 128 (spg128_dbb f128_dbb)) : BlkOK Tryz.prog Tryz.f128.ntmps (.block 4 (.loop (bodyOf 4 Tryz.f128))) (B128_dbb_4 fuel) :=
  blk_of (blk_of_code tab_ok (hG128_dbb fuel f128_dbb hself) mixed (J := J128_dbb_4 fuel) (kp := kp128_dbb) (fuel := fuel) (by kernel_rfl) (fun q hq => by
    rw [(by kernel_rfl : obl (J128_dbb_4 fuel) (.block 4 (.loop (bodyOf 4 Tryz.f128))) = [])] at hq
    cases hq)) (B128_dbb_4_ok fuel f128_dbb)
theorem B128_dbb_6_blk (fuel : Nat) (f128_dbb : YF128_dbb) (hself : FnOK Tryz.prog 128 (spg128_dbb f128_dbb)) : BlkOK Tryz.prog Tryz.f128.ntmps (.block 6 (.loop (bodyOf 6 Tryz.f128))) (B128_dbb_6 fuel) :=
  blk_of (blk_of_code tab_ok (hG128_dbb fuel f128_dbb hself) mixed (J := J128_dbb_6 fuel) (kp := kp128_dbb) (fuel := fuel) (by kernel_rfl) (fun q hq => by
    rw [(by kernel_rfl : obl (J128_dbb_6 fuel) (.block 6 (.loop (bodyOf 6 Tryz.f128))) = [])] at hq
    cases hq)) (B128_dbb_6_ok fuel f128_dbb)
theorem B128_dbb_8_blk (fuel : Nat) (f128_dbb : YF128_dbb) (hself : FnOK Tryz.prog 128 (spg128_dbb f128_dbb)) : BlkOK Tryz.prog Tryz.f128.ntmps (.block 8 (.loop (bodyOf 8 Tryz.f128))) (B128_dbb_8 fuel) :=
  blk_of (blk_of_code tab_ok (hG128_dbb fuel f128_dbb hself) mixed (J := J128_dbb_8 fuel) (kp := kp128_dbb) (fuel := fuel) (by kernel_rfl) (fun q hq => by
    rw [(by kernel_rfl : obl (J128_dbb_8 fuel) (.block 8 (.loop (bodyOf 8 Tryz.f128))) = [])] at hq
    cases hq)) (B128_dbb_8_ok fuel f128_dbb)
theorem fok128_dbb (fuel : Nat) (f128_dbb : YF128_dbb) (hself : FnOK Tryz.prog 128 (spg128_dbb f128_dbb)) : FnOK Tryz.prog 128 (evalFn tab (G128_dbb fuel f128_dbb) (J128_dbb fuel) kp128_dbb fuel Tryz.f128) :=
  fn_ok tab_ok (hG128_dbb fuel f128_dbb hself) mixed Tryz.func128 (c := (Tryz.f128.body).getD .skip) rfl (fun q hq => by
    rw [(by kernel_rfl : obl (J128_dbb fuel) ((Tryz.f128.body).getD .skip) = [(.block 0 (.loop (bodyOf 0 Tryz.f128)), B128_dbb_0 fuel), (.block 2 (.loop (bodyOf 2 Tryz.f128)), B128_dbb_2 fuel), (.block 4 (.loop (bodyOf 4 Tryz.f128)), B128_dbb_4 fuel), (.block 6 (.loop (bodyOf 6 Tryz.f128)), B128_dbb_6 fuel), (.block 8 (.loop (bodyOf 8 Tryz.f128)), B128_dbb_8 fuel)])] at hq
    simp only [List.mem_cons, List.not_mem_nil, or_false] at hq
    rcases hq with rfl | rfl | rfl | rfl | rfl
    · exact B128_dbb_0_blk fuel f128_dbb hself
    · exact B128_dbb_2_blk fuel f128_dbb hself
    · exact B128_dbb_4_blk fuel f128_dbb hself
    · exact B128_dbb_6_blk fuel f128_dbb hself
    · exact B128_dbb_8_blk fuel f128_dbb hself)
noncomputable def mt128_dbb : List Ev.SV → List Ev.Ob → Bool := fun args objs => match args, objs with
  | [.c (.own q0), .c (.int .i64 _), .c (.int .i64 _), .c (.int .i64 _), .c (.clo q1 [q2])], [.vec q3 (.int .i64) _ false, .cells q4 [.sl (.pair (.int .i64) (.pair (.int .i64) (.sl (.int .u8)))) _]] => Nat.beq q0 0 && Nat.beq q1 45 && Nat.beq q2 1 && Nat.beq q3 3 && Nat.beq q4 35
  | _, _ => false
noncomputable def spec128_dbb (fuel : Nat) : Ev.Spec := spg128_dbb (F_slices_symMergeCmpFunc_int_dbb fuel)
theorem okr128_dbb (fuel : Nat) : ∀ n : Nat, FnOK Tryz.prog 128 (spg128_dbb (Fr_slices_symMergeCmpFunc_int_dbb fuel n))
  | 0 => by
    intro args objs kk r h
    unfold spg128_dbb at h
    split at h
    · skip
      obtain ⟨hb, h⟩ := cond_some' h
      cases h
    · cases h
  | n + 1 => by
    intro args objs kk r h
    unfold spg128_dbb at h
    split at h
    · skip
      obtain ⟨hb, h⟩ := cond_some' h
      simp only [Bool.and_eq_true, Nat.beq_eq, decide_eq_true_eq] at hb
      obtain ⟨⟨⟨⟨rfl, rfl⟩, rfl⟩, rfl⟩, rfl⟩ := hb
      exact fok128_dbb fuel (Fr_slices_symMergeCmpFunc_int_dbb fuel n) (okr128_dbb fuel n) _ _ kk r ((F128_dbb_eq fuel (Fr_slices_symMergeCmpFunc_int_dbb fuel n) _ _ _ _ _ kk).trans h)
    · cases h
theorem ok128_dbb (fuel : Nat) : FnOK Tryz.prog 128 (spec128_dbb fuel) := okr128_dbb fuel fuel
end Go.Proofs.YtmjeeaemmbkioaaGreat

set_option linter.unusedVariables false
set_option linter.unusedSimpArgs false
set_option maxRecDepth 100000
set_option maxHeartbeats 2000000
namespace Go.Proofs.YtmjeeaemmbkioaaGreat
open Go Ev
def kp80_e48 (i : Nat) : Option (List Nat) := Ev.look i [(2, [0, 1, 2, 6, 7, 8]), (7, [0, 1, 2, 6]), (9, [0, 1, 2, 6, 7, 8]), (100000, [0, 1, 2, 6, 7]), (100002, []), (100004, [0, 1, 2, 6, 7]), (400000, []), (400002, []), (400004, [])]
noncomputable def Gg80_e48 (f127_dbe : YF127_dbe) (f128_dbb : YF128_dbb) (f : Nat) : Option Ev.Spec := Ev.look f [(1000127, spg127_dbe f127_dbe), (1000128, spg128_dbb f128_dbb)]
noncomputable def G80_e48 (fuel : Nat) : Nat → Option Ev.Spec := Gg80_e48 (F_slices_insertionSortCmpFunc_int_dbe fuel) (F_slices_symMergeCmpFunc_int_dbb fuel)
noncomputable def S_slices_stableCmpFunc_int_e48_0 (fuel : Nat) (v : Int × Int × Int × Int × (List Int) × (List (Int × (Int × (List Int))))) (c : (Int × Int × Int × Int × (List Int) × (List (Int × (Int × (List Int))))) → Option Ans) (B : (Int × Int × Int × (List Int) × (List (Int × (Int × (List Int)))) → Option Ans)) : Option Ans := match v, B with
  | (x0, x1, x2, x3, x4, x5), b =>
   bif Decidable.decide (x3 ≤ x0) then
      (F_slices_insertionSortCmpFunc_int_dbe fuel (x2) (x3) (x4) (x5)
        (fun (y3_0, y3_1) =>
          c (x0, x1, x3, Go.IntKind.i64.wrap (x3 + x1), y3_0, y3_1)))
     else
      b (x0, x1, x2, x4, x5)
noncomputable def L_slices_stableCmpFunc_int_e48_0 (fuel : Nat) (v : Int × Int × Int × Int × (List Int) × (List (Int × (Int × (List Int))))) (b : (Int × Int × Int × (List Int) × (List (Int × (Int × (List Int)))) → Option Ans)) : Option Ans := iter (S_slices_stableCmpFunc_int_e48_0 fuel) fuel v b
noncomputable def J80_e48_0 (fuel : Nat) (i : Nat) : Option Ev.Blk := Ev.look i []
noncomputable def T80_e48_0 (v : Int × Int × Int × Int × (List Int) × (List (Int × (Int × (List Int))))) : Ev.St := match v with | (x0, x1, x2, x3, x4, x5) => ⟨[(0, .c (.own 0)), (1, .c (.int .i64 x0)), (2, .c (.clo 45 [1])), (6, .c (.int .i64 x1)), (7, .c (.int .i64 x2)), (8, .c (.int .i64 x3))], [(0, .vec 3 (.int .i64) x4 false), (1, .cells 35 [.sl (.pair (.int .i64) (.pair (.int .i64) (.sl (.int .u8)))) x5])], 2, 2⟩
noncomputable def E80_e48_0 (K : Ev.Ex → Ev.St → Option Ans) : (Int × Int × Int × (List Int) × (List (Int × (Int × (List Int)))) → Option Ans) := (fun v => match v with | (x0, x1, x2, x3, x4) => K .normal ⟨[(0, .c (.own 0)), (1, .c (.int .i64 x0)), (2, .c (.clo 45 [1])), (6, .c (.int .i64 x1)), (7, .c (.int .i64 x2))], [(0, .vec 3 (.int .i64) x3 false), (1, .cells 35 [.sl (.pair (.int .i64) (.pair (.int .i64) (.sl (.int .u8)))) x4])], 2, 2⟩)
theorem S80_e48_0_okg (fuel : Nat) (f127_dbe : YF127_dbe) (f128_dbb : YF128_dbb) (R : Ev.St → Option Ans) (K : Ev.Ex → Ev.St → Option Ans) (x0 : Int) (x1 : Int) (x2 : Int) (x3 : Int) (x4 : (List Int)) (x5 : (List (Int × (Int × (List Int))))) : evalCode tab (Gg80_e48 f127_dbe f128_dbb) (J80_e48_0 fuel) kp80_e48 fuel (bodyOf 0 Tryz.f80) (T80_e48_0 (x0, x1, x2, x3, x4, x5)) (lc kp80_e48 2 0 R K) = (fun (c : (Int × Int × Int × Int × (List Int) × (List (Int × (Int × (List Int))))) → Option Ans) (B : (Int × Int × Int × (List Int) × (List (Int × (Int × (List Int)))) → Option Ans)) => match B with
  | b =>
   bif Decidable.decide (x3 ≤ x0) then
      (f127_dbe (x2) (x3) (x4) (x5)
        (fun (y3_0, y3_1) =>
          c (x0, x1, x3, Go.IntKind.i64.wrap (x3 + x1), y3_0, y3_1)))
     else
      b (x0, x1, x2, x4, x5)) (fun v => R (T80_e48_0 v)) (E80_e48_0 K) := by
  kernel_rfl
theorem S80_e48_0_ok (fuel : Nat) (R : Ev.St → Option Ans) (K : Ev.Ex → Ev.St → Option Ans) (x0 : Int) (x1 : Int) (x2 : Int) (x3 : Int) (x4 : (List Int)) (x5 : (List (Int × (Int × (List Int))))) : evalCode tab (G80_e48 fuel) (J80_e48_0 fuel) kp80_e48 fuel (bodyOf 0 Tryz.f80) (T80_e48_0 (x0, x1, x2, x3, x4, x5)) (lc kp80_e48 2 0 R K) = S_slices_stableCmpFunc_int_e48_0 fuel (x0, x1, x2, x3, x4, x5) (fun v => R (T80_e48_0 v)) (E80_e48_0 K) :=
  S80_e48_0_okg fuel (F_slices_insertionSortCmpFunc_int_dbe fuel) (F_slices_symMergeCmpFunc_int_dbb fuel) R K x0 x1 x2 x3 x4 x5
noncomputable def B80_e48_0 (fuel : Nat) : Ev.Blk := fun st K => match canonO (kp80_e48 2) st with
  | some s => (match s with
    | ⟨[(q0, .c (.own q1)), (q2, .c (.int .i64 x0)), (q3, .c (.clo q4 [q5])), (q6, .c (.int .i64 x1)), (q7, .c (.int .i64 x2)), (q8, .c (.int .i64 x3))], [(q9, .vec q10 (.int .i64) x4 false), (q11, .cells q12 [.sl (.pair (.int .i64) (.pair (.int .i64) (.sl (.int .u8)))) x5])], q13, q14⟩ => bif Nat.beq q0 0 && Nat.beq q1 0 && Nat.beq q2 1 && Nat.beq q3 2 && Nat.beq q4 45 && Nat.beq q5 1 && Nat.beq q6 6 && Nat.beq q7 7 && Nat.beq q8 8 && Nat.beq q9 0 && Nat.beq q10 3 && Nat.beq q11 1 && Nat.beq q12 35 && Nat.beq q13 2 && Nat.beq q14 2 then iter (S_slices_stableCmpFunc_int_e48_0 fuel) fuel (x0, x1, x2, x3, x4, x5) (E80_e48_0 K) else none
    | _ => none)
  | none => none
theorem B80_e48_0_ok (fuel : Nat) (st : Ev.St) (K : Ev.Ex → Ev.St → Option Ans) (r : Ans) (h : B80_e48_0 fuel st K = some r) : evalCode tab (G80_e48 fuel) (J80_e48_0 fuel) kp80_e48 fuel (.block 0 (.loop (bodyOf 0 Tryz.f80))) st K = some r := by
  unfold B80_e48_0 at h
  split at h
  · rename_i s hs
    split at h
    · skip
      obtain ⟨hb, h⟩ := cond_some' h
      simp only [Bool.and_eq_true, Nat.beq_eq, decide_eq_true_eq] at hb
      obtain ⟨⟨⟨⟨⟨⟨⟨⟨⟨⟨⟨⟨⟨⟨rfl, rfl⟩, rfl⟩, rfl⟩, rfl⟩, rfl⟩, rfl⟩, rfl⟩, rfl⟩, rfl⟩, rfl⟩, rfl⟩, rfl⟩, rfl⟩, rfl⟩ := hb
      exact blk_loop (S := T80_e48_0) (ks := E80_e48_0) (step := S_slices_stableCmpFunc_int_e48_0 fuel) (v := (_, _, _, _, _, _)) (by kernel_rfl) (by kernel_rfl) (fun R K v => by obtain ⟨x0, x1, x2, x3, x4, x5⟩ := v; exact S80_e48_0_ok fuel R K x0 x1 x2 x3 x4 x5) hs h
    · cases h
  · cases h
noncomputable def S_slices_stableCmpFunc_int_e48_4 (fuel : Nat) (v : Int × Int × Int × Int × (List Int) × (List (Int × (Int × (List Int))))) (c : (Int × Int × Int × Int × (List Int) × (List (Int × (Int × (List Int))))) → Option Ans) (B : (Int × Int × Int × (List Int) × (List (Int × (Int × (List Int)))) → Option Ans)) : Option Ans := match v, B with
  | (x0, x1, x2, x3, x4, x5), b =>
   bif Decidable.decide (x3 ≤ x0) then
      (F_slices_symMergeCmpFunc_int_dbb fuel (x2) (Go.IntKind.i64.wrap (x2 + x1)) (x3) (x4) (x5)
        (fun (y3_0, y3_1) =>
          c (x0, x1, x3, Go.IntKind.i64.wrap (x3 + Go.IntKind.i64.wrap ((2 : Int) * x1)), y3_0, y3_1)))
     else
      b (x0, x1, x2, x4, x5)
noncomputable def L_slices_stableCmpFunc_int_e48_4 (fuel : Nat) (v : Int × Int × Int × Int × (List Int) × (List (Int × (Int × (List Int))))) (b : (Int × Int × Int × (List Int) × (List (Int × (Int × (List Int)))) → Option Ans)) : Option Ans := iter (S_slices_stableCmpFunc_int_e48_4 fuel) fuel v b
noncomputable def J80_e48_4 (fuel : Nat) (i : Nat) : Option Ev.Blk := Ev.look i [(100000, B80_e48_0 fuel)]
noncomputable def T80_e48_4 (v : Int × Int × Int × Int × (List Int) × (List (Int × (Int × (List Int))))) : Ev.St := match v with | (x0, x1, x2, x3, x4, x5) => ⟨[(0, .c (.own 0)), (1, .c (.int .i64 x0)), (2, .c (.clo 45 [1])), (6, .c (.int .i64 x1)), (7, .c (.int .i64 x2)), (8, .c (.int .i64 x3))], [(0, .vec 3 (.int .i64) x4 false), (1, .cells 35 [.sl (.pair (.int .i64) (.pair (.int .i64) (.sl (.int .u8)))) x5])], 2, 2⟩
noncomputable def E80_e48_4 (K : Ev.Ex → Ev.St → Option Ans) : (Int × Int × Int × (List Int) × (List (Int × (Int × (List Int)))) → Option Ans) := (fun v => match v with | (x0, x1, x2, x3, x4) => K .normal ⟨[(0, .c (.own 0)), (1, .c (.int .i64 x0)), (2, .c (.clo 45 [1])), (6, .c (.int .i64 x1)), (7, .c (.int .i64 x2))], [(0, .vec 3 (.int .i64) x3 false), (1, .cells 35 [.sl (.pair (.int .i64) (.pair (.int .i64) (.sl (.int .u8)))) x4])], 2, 2⟩)
theorem S80_e48_4_okg (fuel : Nat) (f127_dbe : YF127_dbe) (f128_dbb : YF128_dbb) (R : Ev.St → Option Ans) (K : Ev.Ex → Ev.St → Option Ans) (x0 : Int) (x1 : Int) (x2 : Int) (x3 : Int) (x4 : (List Int)) (x5 : (List (Int × (Int × (List Int))))) : evalCode tab (Gg80_e48 f127_dbe f128_dbb) (J80_e48_4 fuel) kp80_e48 fuel (bodyOf 4 Tryz.f80) (T80_e48_4 (x0, x1, x2, x3, x4, x5)) (lc kp80_e48 9 4 R K) = (fun (c : (Int × Int × Int × Int × (List Int) × (List (Int × (Int × (List Int))))) → Option Ans) (B : (Int × Int × Int × (List Int) × (List (Int × (Int × (List Int)))) → Option Ans)) => match B with
  | b =>
   bif Decidable.decide (x3 ≤ x0) then
      (f128_dbb (x2) (Go.IntKind.i64.wrap (x2 + x1)) (x3) (x4) (x5)
        (fun (y3_0, y3_1) =>
          c (x0, x1, x3, Go.IntKind.i64.wrap (x3 + Go.IntKind.i64.wrap ((2 : Int) * x1)), y3_0, y3_1)))
     else
      b (x0, x1, x2, x4, x5)) (fun v => R (T80_e48_4 v)) (E80_e48_4 K) := by
  kernel_rfl
theorem S80_e48_4_ok (fuel : Nat) (R : Ev.St → Option Ans) (K : Ev.Ex → Ev.St → Option Ans) (x0 : Int) (x1 : Int) (x2 : Int) (x3 : Int) (x4 : (List Int)) (x5 : (List (Int × (Int × (List Int))))) : evalCode tab (G80_e48 fuel) (J80_e48_4 fuel) kp80_e48 fuel (bodyOf 4 Tryz.f80) (T80_e48_4 (x0, x1, x2, x3, x4, x5)) (lc kp80_e48 9 4 R K) = S_slices_stableCmpFunc_int_e48_4 fuel (x0, x1, x2, x3, x4, x5) (fun v => R (T80_e48_4 v)) (E80_e48_4 K) :=
  S80_e48_4_okg fuel (F_slices_insertionSortCmpFunc_int_dbe fuel) (F_slices_symMergeCmpFunc_int_dbb fuel) R K x0 x1 x2 x3 x4 x5
noncomputable def B80_e48_4 (fuel : Nat) : Ev.Blk := fun st K => match canonO (kp80_e48 9) st with
  | some s => (match s with
    | ⟨[(q0, .c (.own q1)), (q2, .c (.int .i64 x0)), (q3, .c (.clo q4 [q5])), (q6, .c (.int .i64 x1)), (q7, .c (.int .i64 x2)), (q8, .c (.int .i64 x3))], [(q9, .vec q10 (.int .i64) x4 false), (q11, .cells q12 [.sl (.pair (.int .i64) (.pair (.int .i64) (.sl (.int .u8)))) x5])], q13, q14⟩ => bif Nat.beq q0 0 && Nat.beq q1 0 && Nat.beq q2 1 && Nat.beq q3 2 && Nat.beq q4 45 && Nat.beq q5 1 && Nat.beq q6 6 && Nat.beq q7 7 && Nat.beq q8 8 && Nat.beq q9 0 && Nat.beq q10 3 && Nat.beq q11 1 && Nat.beq q12 35 && Nat.beq q13 2 && Nat.beq q14 2 then iter (S_slices_stableCmpFunc_int_e48_4 fuel) fuel (x0, x1, x2, x3, x4, x5) (E80_e48_4 K) else none
    | _ => none)
  | none => none
theorem B80_e48_4_ok (fuel : Nat) (st : Ev.St) (K : Ev.Ex → Ev.St → Option Ans) (r : Ans) (h : B80_e48_4 fuel st K = some r) : evalCode tab (G80_e48 fuel) (J80_e48_4 fuel) kp80_e48 fuel (.block 4 (.loop (bodyOf 4 Tryz.f80))) st K = some r := by
  unfold B80_e48_4 at h
  split at h
  · rename_i s hs
    split at h
    · skip
      obtain ⟨hb, h⟩ := cond_some' h
      simp only [Bool.and_eq_true, Nat.beq_eq, decide_eq_true_eq] at hb
      obtain ⟨⟨⟨⟨⟨⟨⟨⟨⟨⟨⟨⟨⟨⟨rfl, rfl⟩, rfl⟩, rfl⟩, rfl⟩, rfl⟩, rfl⟩, rfl⟩, rfl⟩, rfl⟩, rfl⟩, rfl⟩, rfl⟩, rfl⟩, rfl⟩ := hb
      exact blk_loop (S := T80_e48_4) (ks := E80_e48_4) (step := S_slices_stableCmpFunc_int_e48_4 fuel) (v := (_, _, _, _, _, _)) (by kernel_rfl) (by kernel_rfl) (fun R K v => by obtain ⟨x0, x1, x2, x3, x4, x5⟩ := v; exact S80_e48_4_ok fuel R K x0 x1 x2 x3 x4 x5) hs h
    · cases h
  · cases h
noncomputable def S_slices_stableCmpFunc_int_e48_2 (fuel : Nat) (v : Int × Int × (List Int) × (List (Int × (Int × (List Int))))) (c : (Int × Int × (List Int) × (List (Int × (Int × (List Int))))) → Option Ans) (B : ((List Int) × (List (Int × (Int × (List Int)))) → Option Ans)) : Option Ans := match v, B with
  | (x0, x1, x2, x3), b =>
   bif Decidable.decide (x1 < x0) then
      (L_slices_stableCmpFunc_int_e48_4 fuel (x0, x1, (0 : Int), Go.IntKind.i64.wrap ((2 : Int) * x1), x2, x3)
        (fun (b4_0, b4_1, b4_2, b4_3, b4_4) =>
          bif Decidable.decide (Go.IntKind.i64.wrap (b4_2 + b4_1) < b4_0) then
           (F_slices_symMergeCmpFunc_int_dbb fuel (b4_2) (Go.IntKind.i64.wrap (b4_2 + b4_1)) (b4_0) (b4_3) (b4_4)
             (fun (y8_0, y8_1) =>
               c (b4_0, Go.IntKind.i64.wrap (b4_1 * (2 : Int)), y8_0, y8_1)))
          else
           c (b4_0, Go.IntKind.i64.wrap (b4_1 * (2 : Int)), b4_3, b4_4)))
     else
      b (x2, x3)
noncomputable def L_slices_stableCmpFunc_int_e48_2 (fuel : Nat) (v : Int × Int × (List Int) × (List (Int × (Int × (List Int))))) (b : ((List Int) × (List (Int × (Int × (List Int)))) → Option Ans)) : Option Ans := iter (S_slices_stableCmpFunc_int_e48_2 fuel) fuel v b
noncomputable def J80_e48_2 (fuel : Nat) (i : Nat) : Option Ev.Blk := Ev.look i [(100000, B80_e48_0 fuel), (100004, B80_e48_4 fuel)]
noncomputable def T80_e48_2 (v : Int × Int × (List Int) × (List (Int × (Int × (List Int))))) : Ev.St := match v with | (x0, x1, x2, x3) => ⟨[(0, .c (.own 0)), (1, .c (.int .i64 x0)), (2, .c (.clo 45 [1])), (6, .c (.int .i64 x1))], [(0, .vec 3 (.int .i64) x2 false), (1, .cells 35 [.sl (.pair (.int .i64) (.pair (.int .i64) (.sl (.int .u8)))) x3])], 2, 2⟩
noncomputable def E80_e48_2 (K : Ev.Ex → Ev.St → Option Ans) : ((List Int) × (List (Int × (Int × (List Int)))) → Option Ans) := (fun v => match v with | (x0, x1) => K .normal ⟨[], [(0, .vec 3 (.int .i64) x0 false), (1, .cells 35 [.sl (.pair (.int .i64) (.pair (.int .i64) (.sl (.int .u8)))) x1])], 2, 2⟩)
theorem S80_e48_2_okg (fuel : Nat) (f127_dbe : YF127_dbe) (f128_dbb : YF128_dbb) (R : Ev.St → Option Ans) (K : Ev.Ex → Ev.St → Option Ans) (x0 : Int) (x1 : Int) (x2 : (List Int)) (x3 : (List (Int × (Int × (List Int))))) : evalCode tab (Gg80_e48 f127_dbe f128_dbb) (J80_e48_2 fuel) kp80_e48 fuel (bodyOf 2 Tryz.f80) (T80_e48_2 (x0, x1, x2, x3)) (lc kp80_e48 7 2 R K) = (fun (c : (Int × Int × (List Int) × (List (Int × (Int × (List Int))))) → Option Ans) (B : ((List Int) × (List (Int × (Int × (List Int)))) → Option Ans)) => match B with
  | b =>
   bif Decidable.decide (x1 < x0) then
      (L_slices_stableCmpFunc_int_e48_4 fuel (x0, x1, (0 : Int), Go.IntKind.i64.wrap ((2 : Int) * x1), x2, x3)
        (fun (b4_0, b4_1, b4_2, b4_3, b4_4) =>
          bif Decidable.decide (Go.IntKind.i64.wrap (b4_2 + b4_1) < b4_0) then
           (f128_dbb (b4_2) (Go.IntKind.i64.wrap (b4_2 + b4_1)) (b4_0) (b4_3) (b4_4)
             (fun (y8_0, y8_1) =>
               c (b4_0, Go.IntKind.i64.wrap (b4_1 * (2 : Int)), y8_0, y8_1)))
          else
           c (b4_0, Go.IntKind.i64.wrap (b4_1 * (2 : Int)), b4_3, b4_4)))
     else
      b (x2, x3)) (fun v => R (T80_e48_2 v)) (E80_e48_2 K) := by
  kernel_rfl
theorem S80_e48_2_ok (fuel : Nat) (R : Ev.St → Option Ans) (K : Ev.Ex → Ev.St → Option Ans) (x0 : Int) (x1 : Int) (x2 : (List Int)) (x3 : (List (Int × (Int × (List Int))))) : evalCode tab (G80_e48 fuel) (J80_e48_2 fuel) kp80_e48 fuel (bodyOf 2 Tryz.f80) (T80_e48_2 (x0, x1, x2, x3)) (lc kp80_e48 7 2 R K) = S_slices_stableCmpFunc_int_e48_2 fuel (x0, x1, x2, x3) (fun v => R (T80_e48_2 v)) (E80_e48_2 K) :=
  S80_e48_2_okg fuel (F_slices_insertionSortCmpFunc_int_dbe fuel) (F_slices_symMergeCmpFunc_int_dbb fuel) R K x0 x1 x2 x3
noncomputable def B80_e48_2 (fuel : Nat) : Ev.Blk := fun st K => match canonO (kp80_e48 7) st with
  | some s => (match s with
    | ⟨[(q0, .c (.own q1)), (q2, .c (.int .i64 x0)), (q3, .c (.clo q4 [q5])), (q6, .c (.int .i64 x1))], [(q7, .vec q8 (.int .i64) x2 false), (q9, .cells q10 [.sl (.pair (.int .i64) (.pair (.int .i64) (.sl (.int .u8)))) x3])], q11, q12⟩ => bif Nat.beq q0 0 && Nat.beq q1 0 && Nat.beq q2 1 && Nat.beq q3 2 && Nat.beq q4 45 && Nat.beq q5 1 && Nat.beq q6 6 && Nat.beq q7 0 && Nat.beq q8 3 && Nat.beq q9 1 && Nat.beq q10 35 && Nat.beq q11 2 && Nat.beq q12 2 then iter (S_slices_stableCmpFunc_int_e48_2 fuel) fuel (x0, x1, x2, x3) (E80_e48_2 K) else none
    | _ => none)
  | none => none
theorem B80_e48_2_ok (fuel : Nat) (st : Ev.St) (K : Ev.Ex → Ev.St → Option Ans) (r : Ans) (h : B80_e48_2 fuel st K = some r) : evalCode tab (G80_e48 fuel) (J80_e48_2 fuel) kp80_e48 fuel (.block 2 (.loop (bodyOf 2 Tryz.f80))) st K = some r := by
  unfold B80_e48_2 at h
  split at h
  · rename_i s hs
    split at h
    · skip
      obtain ⟨hb, h⟩ := cond_some' h
      simp only [Bool.and_eq_true, Nat.beq_eq, decide_eq_true_eq] at hb
      obtain ⟨⟨⟨⟨⟨⟨⟨⟨⟨⟨⟨⟨rfl, rfl⟩, rfl⟩, rfl⟩, rfl⟩, rfl⟩, rfl⟩, rfl⟩, rfl⟩, rfl⟩, rfl⟩, rfl⟩, rfl⟩ := hb
      exact blk_loop (S := T80_e48_2) (ks := E80_e48_2) (step := S_slices_stableCmpFunc_int_e48_2 fuel) (v := (_, _, _, _)) (by kernel_rfl) (by kernel_rfl) (fun R K v => by obtain ⟨x0, x1, x2, x3⟩ := v; exact S80_e48_2_ok fuel R K x0 x1 x2 x3) hs h
    · cases h
  · cases h
noncomputable def J80_e48 (fuel : Nat) (i : Nat) : Option Ev.Blk := Ev.look i [(100000, B80_e48_0 fuel), (100004, B80_e48_4 fuel), (100002, B80_e48_2 fuel)]
noncomputable def F_slices_stableCmpFunc_int_e48 (fuel : Nat) (x0 : Int) (x1 : (List Int)) (x2 : (List (Int × (Int × (List Int))))) (k0 : ((List Int) × (List (Int × (Int × (List Int))))) → Option Ans) : Option Ans :=
  (L_slices_stableCmpFunc_int_e48_0 fuel (x0, (20 : Int), (0 : Int), (20 : Int), x1, x2)
    (fun (b0_0, b0_1, b0_2, b0_3, b0_4) =>
      (F_slices_insertionSortCmpFunc_int_dbe fuel (b0_2) (b0_0) (b0_3) (b0_4)
        (fun (y6_0, y6_1) =>
          (L_slices_stableCmpFunc_int_e48_2 fuel (b0_0, b0_1, y6_0, y6_1)
            (fun (b2_0, b2_1) =>
              k0 (b2_0, b2_1)))))))
abbrev YF80_e48 : Type := (Int) → ((List Int)) → ((List (Int × (Int × (List Int))))) → (((List Int) × (List (Int × (Int × (List Int))))) → Option Ans) → Option Ans
theorem F80_e48_eqg (fuel : Nat) (f127_dbe : YF127_dbe) (f128_dbb : YF128_dbb) (x0 : Int) (x1 : (List Int)) (x2 : (List (Int × (Int × (List Int))))) (k : Ev.Cont) : evalFn tab (Gg80_e48 f127_dbe f128_dbb) (J80_e48 fuel) kp80_e48 fuel Tryz.f80 [.c (.own 0), .c (.int .i64 x0), .c (.clo 45 [1])] [.vec 3 (.int .i64) x1 false, .cells 35 [.sl (.pair (.int .i64) (.pair (.int .i64) (.sl (.int .u8)))) x2]] k = (fun  (k0 : ((List Int) × (List (Int × (Int × (List Int))))) → Option Ans) =>
  (L_slices_stableCmpFunc_int_e48_0 fuel (x0, (20 : Int), (0 : Int), (20 : Int), x1, x2)
    (fun (b0_0, b0_1, b0_2, b0_3, b0_4) =>
      (f127_dbe (b0_2) (b0_0) (b0_3) (b0_4)
        (fun (y6_0, y6_1) =>
          (L_slices_stableCmpFunc_int_e48_2 fuel (b0_0, b0_1, y6_0, y6_1)
            (fun (b2_0, b2_1) =>
              k0 (b2_0, b2_1)))))))) (fun r => match r with | (r0, r1) => k (.tup [], [.vec 3 (.int .i64) r0 false, .cells 35 [.sl (.pair (.int .i64) (.pair (.int .i64) (.sl (.int .u8)))) r1]])) := by
  kernel_rfl
theorem F80_e48_eq (fuel : Nat) (x0 : Int) (x1 : (List Int)) (x2 : (List (Int × (Int × (List Int))))) (k : Ev.Cont) : evalFn tab (G80_e48 fuel) (J80_e48 fuel) kp80_e48 fuel Tryz.f80 [.c (.own 0), .c (.int .i64 x0), .c (.clo 45 [1])] [.vec 3 (.int .i64) x1 false, .cells 35 [.sl (.pair (.int .i64) (.pair (.int .i64) (.sl (.int .u8)))) x2]] k = F_slices_stableCmpFunc_int_e48 fuel x0 x1 x2 (fun r => match r with | (r0, r1) => k (.tup [], [.vec 3 (.int .i64) r0 false, .cells 35 [.sl (.pair (.int .i64) (.pair (.int .i64) (.sl (.int .u8)))) r1]])) :=
  F80_e48_eqg fuel (F_slices_insertionSortCmpFunc_int_dbe fuel) (F_slices_symMergeCmpFunc_int_dbb fuel) x0 x1 x2 k
theorem hG80_e48 (fuel : Nat) : GOK Tryz.prog (G80_e48 fuel) :=
  gok_cons ⟨ok127_dbe fuel, enters_of Tryz.func127 (by kernel_rfl) rfl⟩ <|
  gok_cons ⟨ok128_dbb fuel, enters_of Tryz.func128 (by kernel_rfl) rfl⟩ <|
  gok_nil
theorem B80_e48_0_blk (fuel : Nat) : BlkOK Tryz.prog Tryz.f80.ntmps (.block 0 (.loop (bodyOf 0 Tryz.f80))) (B80_e48_0 fuel) :=
  blk_of (blk_of_code tab_ok (hG80_e48 fuel) mixed (J := J80_e48_0 fuel) (kp := kp80_e48) (fuel := fuel) (by kernel_rfl) (fun q hq => by
    rw [(by kernel_rfl : obl (J80_e48_0 fuel) (.block 0 (.loop (bodyOf 0 Tryz.f80))) = [])] at hq
    cases hq)) (B80_e48_0_ok fuel)
theorem B80_e48_4_blk (fuel : Nat) : BlkOK Tryz.prog Tryz.f80.ntmps (.block 4 (.loop (bodyOf 4 Tryz.f80))) (B80_e48_4 fuel) :=
  blk_of (blk_of_code tab_ok (hG80_e48 fuel) mixed (J := J80_e48_4 fuel) (kp := kp80_e48) (fuel := fuel) (by kernel_rfl) (fun q hq => by
    rw [(by kernel_rfl : obl (J80_e48_4 fuel) (.block 4 (.loop (bodyOf 4 Tryz.f80))) = [])] at hq
    cases hq)) (B80_e48_4_ok fuel)
theorem B80_e48_2_blk (fuel : Nat) : BlkOK Tryz.prog Tryz.f80.ntmps (.block 2 (.loop (bodyOf 2 Tryz.f80))) (B80_e48_2 fuel) :=
  blk_of (blk_of_code tab_ok (hG80_e48 fuel) mixed (J := J80_e48_2 fuel) (kp := kp80_e48) (fuel := fuel) (by kernel_rfl) (fun q hq => by
    rw [(by kernel_rfl : obl (J80_e48_2 fuel) (.block 2 (.loop (bodyOf 2 Tryz.f80))) = [(.block 4 (.loop (bodyOf 4 Tryz.f80)), B80_e48_4 fuel)])] at hq
    simp only [List.mem_cons, List.not_mem_nil, or_false] at hq
    subst hq
    · exact B80_e48_4_blk fuel)) (B80_e48_2_ok fuel)
theorem fok80_e48 (fuel : Nat) : FnOK Tryz.prog 80 (evalFn tab (G80_e48 fuel) (J80_e48 fuel) kp80_e48 fuel Tryz.f80) :=
  fn_ok tab_ok (hG80_e48 fuel) mixed Tryz.func80 (c := (Tryz.f80.body).getD .skip) rfl (fun q hq => by
    rw [(by kernel_rfl : obl (J80_e48 fuel) ((Tryz.f80.body).getD .skip) = [(.block 0 (.loop (bodyOf 0 Tryz.f80)), B80_e48_0 fuel), (.block 2 (.loop (bodyOf 2 Tryz.f80)), B80_e48_2 fuel)])] at hq
    simp only [List.mem_cons, List.not_mem_nil, or_false] at hq
    rcases hq with rfl | rfl
    · exact B80_e48_0_blk fuel
    · exact B80_e48_2_blk fuel)
noncomputable def mt80_e48 : List Ev.SV → List Ev.Ob → Bool := fun args objs => match args, objs with
  | [.c (.own q0), .c (.int .i64 _), .c (.clo q1 [q2])], [.vec q3 (.int .i64) _ false, .cells q4 [.sl (.pair (.int .i64) (.pair (.int .i64) (.sl (.int .u8)))) _]] => Nat.beq q0 0 && Nat.beq q1 45 && Nat.beq q2 1 && Nat.beq q3 3 && Nat.beq q4 35
  | _, _ => false
noncomputable def spg80_e48 (F : YF80_e48) : Ev.Spec := fun args objs k => match args, objs with
  | [.c (.own q0), .c (.int .i64 x0), .c (.clo q1 [q2])], [.vec q3 (.int .i64) x1 false, .cells q4 [.sl (.pair (.int .i64) (.pair (.int .i64) (.sl (.int .u8)))) x2]] => bif Nat.beq q0 0 && Nat.beq q1 45 && Nat.beq q2 1 && Nat.beq q3 3 && Nat.beq q4 35 then F x0 x1 x2 (fun r => match r with | (r0, r1) => k (.tup [], [.vec 3 (.int .i64) r0 false, .cells 35 [.sl (.pair (.int .i64) (.pair (.int .i64) (.sl (.int .u8)))) r1]])) else none
  | _, _ => none
noncomputable def spec80_e48 (fuel : Nat) : Ev.Spec := spg80_e48 (F_slices_stableCmpFunc_int_e48 fuel)
theorem ok80_e48 (fuel : Nat) : FnOK Tryz.prog 80 (spec80_e48 fuel) := by
  intro args objs kk r h
  unfold spec80_e48 spg80_e48 at h
  split at h
  · skip
    obtain ⟨hb, h⟩ := cond_some' h
    simp only [Bool.and_eq_true, Nat.beq_eq, decide_eq_true_eq] at hb
    obtain ⟨⟨⟨⟨rfl, rfl⟩, rfl⟩, rfl⟩, rfl⟩ := hb
    exact fok80_e48 fuel _ _ kk r ((F80_e48_eq fuel _ _ _ kk).trans h)
  · cases h
end Go.Proofs.YtmjeeaemmbkioaaGreat

set_option linter.unusedVariables false
set_option linter.unusedSimpArgs false
set_option maxRecDepth 100000
set_option maxHeartbeats 2000000
namespace Go.Proofs.YtmjeeaemmbkioaaGreat
open Go Ev
def kp44_a59 (i : Nat) : Option (List Nat) := Ev.look i []
noncomputable def Gg44_a59 (f80_e48 : YF80_e48) (f : Nat) : Option Ev.Spec := Ev.look f [(1000080, spg80_e48 f80_e48)]
noncomputable def G44_a59 (fuel : Nat) : Nat → Option Ev.Spec := Gg44_a59 (F_slices_stableCmpFunc_int_e48 fuel)
noncomputable def J44_a59 (fuel : Nat) (i : Nat) : Option Ev.Blk := Ev.look i []
noncomputable def F_slices_SortStableFunc_int_int_a59 (fuel : Nat) (x0 : (List Int)) (x1 : (List (Int × (Int × (List Int))))) (k0 : ((List Int) × (List (Int × (Int × (List Int))))) → Option Ans) : Option Ans :=
  (F_slices_stableCmpFunc_int_e48 fuel ((↑x0.length : Int)) (x0) (x1)
    (fun (y2_0, y2_1) =>
      k0 (y2_0, y2_1)))
abbrev YF44_a59 : Type := ((List Int)) → ((List (Int × (Int × (List Int))))) → (((List Int) × (List (Int × (Int × (List Int))))) → Option Ans) → Option Ans
theorem F44_a59_eqg (fuel : Nat) (f80_e48 : YF80_e48) (x0 : (List Int)) (x1 : (List (Int × (Int × (List Int))))) (k : Ev.Cont) : evalFn tab (Gg44_a59 f80_e48) (J44_a59 fuel) kp44_a59 fuel Tryz.f44 [.c (.own 0), .c (.clo 45 [1])] [.vec 3 (.int .i64) x0 false, .cells 35 [.sl (.pair (.int .i64) (.pair (.int .i64) (.sl (.int .u8)))) x1]] k = (fun  (k0 : ((List Int) × (List (Int × (Int × (List Int))))) → Option Ans) =>
  (f80_e48 ((↑x0.length : Int)) (x0) (x1)
    (fun (y2_0, y2_1) =>
      k0 (y2_0, y2_1)))) (fun r => match r with | (r0, r1) => k (.tup [], [.vec 3 (.int .i64) r0 false, .cells 35 [.sl (.pair (.int .i64) (.pair (.int .i64) (.sl (.int .u8)))) r1]])) := by
  kernel_rfl
theorem F44_a59_eq (fuel : Nat) (x0 : (List Int)) (x1 : (List (Int × (Int × (List Int))))) (k : Ev.Cont) : evalFn tab (G44_a59 fuel) (J44_a59 fuel) kp44_a59 fuel Tryz.f44 [.c (.own 0), .c (.clo 45 [1])] [.vec 3 (.int .i64) x0 false, .cells 35 [.sl (.pair (.int .i64) (.pair (.int .i64) (.sl (.int .u8)))) x1]] k = F_slices_SortStableFunc_int_int_a59 fuel x0 x1 (fun r => match r with | (r0, r1) => k (.tup [], [.vec 3 (.int .i64) r0 false, .cells 35 [.sl (.pair (.int .i64) (.pair (.int .i64) (.sl (.int .u8)))) r1]])) :=
  F44_a59_eqg fuel (F_slices_stableCmpFunc_int_e48 fuel) x0 x1 k
theorem hG44_a59 (fuel : Nat) : GOK Tryz.prog (G44_a59 fuel) :=
  gok_cons ⟨ok80_e48 fuel, enters_of Tryz.func80 (by kernel_rfl) rfl⟩ <|
  gok_nil
theorem fok44_a59 (fuel : Nat) : FnOK Tryz.prog 44 (evalFn tab (G44_a59 fuel) (J44_a59 fuel) kp44_a59 fuel Tryz.f44) :=
  fn_ok tab_ok (hG44_a59 fuel) mixed Tryz.func44 (c := (Tryz.f44.body).getD .skip) rfl (fun q hq => by
    rw [(by kernel_rfl : obl (J44_a59 fuel) ((Tryz.f44.body).getD .skip) = [])] at hq
    cases hq)
noncomputable def mt44_a59 : List Ev.SV → List Ev.Ob → Bool := fun args objs => match args, objs with
  | [.c (.own q0), .c (.clo q1 [q2])], [.vec q3 (.int .i64) _ false, .cells q4 [.sl (.pair (.int .i64) (.pair (.int .i64) (.sl (.int .u8)))) _]] => Nat.beq q0 0 && Nat.beq q1 45 && Nat.beq q2 1 && Nat.beq q3 3 && Nat.beq q4 35
  | _, _ => false
noncomputable def spg44_a59 (F : YF44_a59) : Ev.Spec := fun args objs k => match args, objs with
  | [.c (.own q0), .c (.clo q1 [q2])], [.vec q3 (.int .i64) x0 false, .cells q4 [.sl (.pair (.int .i64) (.pair (.int .i64) (.sl (.int .u8)))) x1]] => bif Nat.beq q0 0 && Nat.beq q1 45 && Nat.beq q2 1 && Nat.beq q3 3 && Nat.beq q4 35 then F x0 x1 (fun r => match r with | (r0, r1) => k (.tup [], [.vec 3 (.int .i64) r0 false, .cells 35 [.sl (.pair (.int .i64) (.pair (.int .i64) (.sl (.int .u8)))) r1]])) else none
  | _, _ => none
noncomputable def spec44_a59 (fuel : Nat) : Ev.Spec := spg44_a59 (F_slices_SortStableFunc_int_int_a59 fuel)
theorem ok44_a59 (fuel : Nat) : FnOK Tryz.prog 44 (spec44_a59 fuel) := by
  intro args objs kk r h
  unfold spec44_a59 spg44_a59 at h
  split at h
  · skip
    obtain ⟨hb, h⟩ := cond_some' h
    simp only [Bool.and_eq_true, Nat.beq_eq, decide_eq_true_eq] at hb
    obtain ⟨⟨⟨⟨rfl, rfl⟩, rfl⟩, rfl⟩, rfl⟩ := hb
    exact fok44_a59 fuel _ _ kk r ((F44_a59_eq fuel _ _ kk).trans h)
  · cases h
end Go.Proofs.YtmjeeaemmbkioaaGreat

set_option linter.unusedVariables false
set_option linter.unusedSimpArgs false
set_option maxRecDepth 100000
set_option maxHeartbeats 2000000
namespace Go.Proofs.YtmjeeaemmbkioaaGreat
open Go Ev
def kp16 (i : Nat) : Option (List Nat) := Ev.look i [(5, [1, 4, 9, 10]), (100000, [1, 4]), (400000, [2, 3])]
noncomputable def Gg16 (f33_34d : YF33_34d) (f44_a59 : YF44_a59) (f : Nat) : Option Ev.Spec := Ev.look f [(33, spg33_34d f33_34d), (1000044, spg44_a59 f44_a59)]
noncomputable def G16 (fuel : Nat) : Nat → Option Ev.Spec := Gg16 (F_slices_ContainsFunc_api_Bitmap_api_Bitmap_34d fuel) (F_slices_SortStableFunc_int_int_a59 fuel)
noncomputable def S_symbol_Order_0 (fuel : Nat) (v : Int × Int × (List (Int × (Int × (List Int)))) × (List Int)) (c : (Int × Int × (List (Int × (Int × (List Int)))) × (List Int)) → Option Ans) (B : ((List (Int × (Int × (List Int)))) × (List Int) → Option Ans)) : Option Ans := match v, B with
  | (x0, x1, x2, x3), b =>
   bif Decidable.decide (x1 < x0) then
      bif Decidable.decide ((x3.length + [x1].length) * (8 : Nat) ≤ (140737488355328 : Nat) ∧ x3.length + [x1].length ≤ (140737488355328 : Nat)) then
      c (x0, Go.IntKind.i64.wrap (x1 + (1 : Int)), x2, x3 ++ [x1])
      else none
     else
      b (x2, x3)
noncomputable def L_symbol_Order_0 (fuel : Nat) (v : Int × Int × (List (Int × (Int × (List Int)))) × (List Int)) (b : ((List (Int × (Int × (List Int)))) × (List Int) → Option Ans)) : Option Ans := iter (S_symbol_Order_0 fuel) fuel v b
noncomputable def J16_0 (fuel : Nat) (i : Nat) : Option Ev.Blk := Ev.look i []
noncomputable def T16_0 (v : Int × Int × (List (Int × (Int × (List Int)))) × (List Int)) : Ev.St := match v with | (x0, x1, x2, x3) => ⟨[(1, .c (.ptr 0 0)), (4, .c (.own 1)), (9, .c (.int .i64 x0)), (10, .c (.int .i64 x1))], [(0, .cells 35 [.sl (.pair (.int .i64) (.pair (.int .i64) (.sl (.int .u8)))) x2]), (1, .vec 3 (.int .i64) x3 true)], 2, 0⟩
noncomputable def E16_0 (K : Ev.Ex → Ev.St → Option Ans) : ((List (Int × (Int × (List Int)))) × (List Int) → Option Ans) := (fun v => match v with | (x0, x1) => K .normal ⟨[(1, .c (.ptr 0 0)), (4, .c (.own 1))], [(0, .cells 35 [.sl (.pair (.int .i64) (.pair (.int .i64) (.sl (.int .u8)))) x0]), (1, .vec 3 (.int .i64) x1 true)], 2, 0⟩)
theorem S16_0_okg (fuel : Nat) (f33_34d : YF33_34d) (f44_a59 : YF44_a59) (R : Ev.St → Option Ans) (K : Ev.Ex → Ev.St → Option Ans) (x0 : Int) (x1 : Int) (x2 : (List (Int × (Int × (List Int))))) (x3 : (List Int)) : evalCode tab (Gg16 f33_34d f44_a59) (J16_0 fuel) kp16 fuel (bodyOf 0 Tryz.f16) (T16_0 (x0, x1, x2, x3)) (lc kp16 5 0 R K) = (fun (c : (Int × Int × (List (Int × (Int × (List Int)))) × (List Int)) → Option Ans) (B : ((List (Int × (Int × (List Int)))) × (List Int) → Option Ans)) => match B with
  | b =>
   bif Decidable.decide (x1 < x0) then
      bif Decidable.decide ((x3.length + [x1].length) * (8 : Nat) ≤ (140737488355328 : Nat) ∧ x3.length + [x1].length ≤ (140737488355328 : Nat)) then
      c (x0, Go.IntKind.i64.wrap (x1 + (1 : Int)), x2, x3 ++ [x1])
      else none
     else
      b (x2, x3)) (fun v => R (T16_0 v)) (E16_0 K) := by
  kernel_rfl
theorem S16_0_ok (fuel : Nat) (R : Ev.St → Option Ans) (K : Ev.Ex → Ev.St → Option Ans) (x0 : Int) (x1 : Int) (x2 : (List (Int × (Int × (List Int))))) (x3 : (List Int)) : evalCode tab (G16 fuel) (J16_0 fuel) kp16 fuel (bodyOf 0 Tryz.f16) (T16_0 (x0, x1, x2, x3)) (lc kp16 5 0 R K) = S_symbol_Order_0 fuel (x0, x1, x2, x3) (fun v => R (T16_0 v)) (E16_0 K) :=
  S16_0_okg fuel (F_slices_ContainsFunc_api_Bitmap_api_Bitmap_34d fuel) (F_slices_SortStableFunc_int_int_a59 fuel) R K x0 x1 x2 x3
noncomputable def B16_0 (fuel : Nat) : Ev.Blk := fun st K => match canonO (kp16 5) st with
  | some s => (match s with
    | ⟨[(q0, .c (.ptr q1 q2)), (q3, .c (.own q4)), (q5, .c (.int .i64 x0)), (q6, .c (.int .i64 x1))], [(q7, .cells q8 [.sl (.pair (.int .i64) (.pair (.int .i64) (.sl (.int .u8)))) x2]), (q9, .vec q10 (.int .i64) x3 true)], q11, q12⟩ => bif Nat.beq q0 1 && Nat.beq q1 0 && Nat.beq q2 0 && Nat.beq q3 4 && Nat.beq q4 1 && Nat.beq q5 9 && Nat.beq q6 10 && Nat.beq q7 0 && Nat.beq q8 35 && Nat.beq q9 1 && Nat.beq q10 3 && Nat.beq q11 2 && Nat.beq q12 0 then iter (S_symbol_Order_0 fuel) fuel (x0, x1, x2, x3) (E16_0 K) else none
    | _ => none)
  | none => none
theorem B16_0_ok (fuel : Nat) (st : Ev.St) (K : Ev.Ex → Ev.St → Option Ans) (r : Ans) (h : B16_0 fuel st K = some r) : evalCode tab (G16 fuel) (J16_0 fuel) kp16 fuel (.block 0 (.loop (bodyOf 0 Tryz.f16))) st K = some r := by
  unfold B16_0 at h
  split at h
  · rename_i s hs
    split at h
    · skip
      obtain ⟨hb, h⟩ := cond_some' h
      simp only [Bool.and_eq_true, Nat.beq_eq, decide_eq_true_eq] at hb
      obtain ⟨⟨⟨⟨⟨⟨⟨⟨⟨⟨⟨⟨rfl, rfl⟩, rfl⟩, rfl⟩, rfl⟩, rfl⟩, rfl⟩, rfl⟩, rfl⟩, rfl⟩, rfl⟩, rfl⟩, rfl⟩ := hb
      exact blk_loop (S := T16_0) (ks := E16_0) (step := S_symbol_Order_0 fuel) (v := (_, _, _, _)) (by kernel_rfl) (by kernel_rfl) (fun R K v => by obtain ⟨x0, x1, x2, x3⟩ := v; exact S16_0_ok fuel R K x0 x1 x2 x3) hs h
    · cases h
  · cases h
noncomputable def J16 (fuel : Nat) (i : Nat) : Option Ev.Blk := Ev.look i [(100000, B16_0 fuel)]
noncomputable def F_symbol_Order (fuel : Nat) (x0 : (List (Int × Int × (List Int)))) (k0 : (Int × (List Int)) → Option Ans) : Option Ans :=
  (F_slices_ContainsFunc_api_Bitmap_api_Bitmap_34d fuel (x0)
    (fun y2 =>
      bif y2 then
       k0 ((30 : Int), [])
      else
       (L_symbol_Order_0 fuel ((↑x0.length : Int), (0 : Int), x0, [])
         (fun (b0_0, b0_1) =>
           (F_slices_SortStableFunc_int_int_a59 fuel (b0_1) (b0_0)
             (fun (y11_0, y11_1) =>
               k0 ((0 : Int), y11_0)))))))
abbrev YF16 : Type := ((List (Int × Int × (List Int)))) → ((Int × (List Int)) → Option Ans) → Option Ans
theorem F16_eqg (fuel : Nat) (f33_34d : YF33_34d) (f44_a59 : YF44_a59) (x0 : (List (Int × Int × (List Int)))) (k : Ev.Cont) : evalFn tab (Gg16 f33_34d f44_a59) (J16 fuel) kp16 fuel Tryz.f16 [.c (.sl (.pair (.int .i64) (.pair (.int .i64) (.sl (.int .u8)))) x0)] [] k = (fun  (k0 : (Int × (List Int)) → Option Ans) =>
  (f33_34d (x0)
    (fun y2 =>
      bif y2 then
       k0 ((30 : Int), [])
      else
       (L_symbol_Order_0 fuel ((↑x0.length : Int), (0 : Int), x0, [])
         (fun (b0_0, b0_1) =>
           (f44_a59 (b0_1) (b0_0)
             (fun (y11_0, y11_1) =>
               k0 ((0 : Int), y11_0)))))))) (fun r => match r with | (r0, r1) => k (.tup [(false, [.own 0]), (false, [.int .i64 r0])], [.vec 3 (.int .i64) r1 true])) := by
  kernel_rfl
theorem F16_eq (fuel : Nat) (x0 : (List (Int × Int × (List Int)))) (k : Ev.Cont) : evalFn tab (G16 fuel) (J16 fuel) kp16 fuel Tryz.f16 [.c (.sl (.pair (.int .i64) (.pair (.int .i64) (.sl (.int .u8)))) x0)] [] k = F_symbol_Order fuel x0 (fun r => match r with | (r0, r1) => k (.tup [(false, [.own 0]), (false, [.int .i64 r0])], [.vec 3 (.int .i64) r1 true])) :=
  F16_eqg fuel (F_slices_ContainsFunc_api_Bitmap_api_Bitmap_34d fuel) (F_slices_SortStableFunc_int_int_a59 fuel) x0 k
theorem hG16 (fuel : Nat) : GOK Tryz.prog (G16 fuel) :=
  gok_cons ⟨ok33_34d fuel, enters_of Tryz.func33 (by kernel_rfl) rfl⟩ <|
  gok_cons ⟨ok44_a59 fuel, enters_of Tryz.func44 (by kernel_rfl) rfl⟩ <|
  gok_nil
theorem B16_0_blk (fuel : Nat) : BlkOK Tryz.prog Tryz.f16.ntmps (.block 0 (.loop (bodyOf 0 Tryz.f16))) (B16_0 fuel) :=
  blk_of (blk_of_code tab_ok (hG16 fuel) mixed (J := J16_0 fuel) (kp := kp16) (fuel := fuel) (by kernel_rfl) (fun q hq => by
    rw [(by kernel_rfl : obl (J16_0 fuel) (.block 0 (.loop (bodyOf 0 Tryz.f16))) = [])] at hq
    cases hq)) (B16_0_ok fuel)
theorem fok16 (fuel : Nat) : FnOK Tryz.prog 16 (evalFn tab (G16 fuel) (J16 fuel) kp16 fuel Tryz.f16) :=
  fn_ok tab_ok (hG16 fuel) mixed Tryz.func16 (c := (Tryz.f16.body).getD .skip) rfl (fun q hq => by
    rw [(by kernel_rfl : obl (J16 fuel) ((Tryz.f16.body).getD .skip) = [(.block 0 (.loop (bodyOf 0 Tryz.f16)), B16_0 fuel)])] at hq
    simp only [List.mem_cons, List.not_mem_nil, or_false] at hq
    subst hq
    · exact B16_0_blk fuel)
noncomputable def mt16 : List Ev.SV → List Ev.Ob → Bool := fun args objs => match args, objs with
  | [.c (.sl (.pair (.int .i64) (.pair (.int .i64) (.sl (.int .u8)))) _)], [] => true
  | _, _ => false
noncomputable def spg16 (F : YF16) : Ev.Spec := fun args objs k => match args, objs with
  | [.c (.sl (.pair (.int .i64) (.pair (.int .i64) (.sl (.int .u8)))) x0)], [] => bif true then F x0 (fun r => match r with | (r0, r1) => k (.tup [(false, [.own 0]), (false, [.int .i64 r0])], [.vec 3 (.int .i64) r1 true])) else none
  | _, _ => none
noncomputable def spec16 (fuel : Nat) : Ev.Spec := spg16 (F_symbol_Order fuel)
theorem ok16 (fuel : Nat) : FnOK Tryz.prog 16 (spec16 fuel) := by
  intro args objs kk r h
  unfold spec16 spg16 at h
  split at h
  · skip
    obtain ⟨hb, h⟩ := cond_some' h
    simp only [Bool.and_eq_true, Nat.beq_eq, decide_eq_true_eq] at hb
    clear hb
    exact fok16 fuel _ _ kk r ((F16_eq fuel _ kk).trans h)
  · cases h
end Go.Proofs.YtmjeeaemmbkioaaGreat

set_option linter.unusedVariables false
set_option linter.unusedSimpArgs false
set_option maxRecDepth 100000
set_option maxHeartbeats 2000000
namespace Go.Proofs.YtmjeeaemmbkioaaGreat
open Go Ev
def kp5 (i : Nat) : Option (List Nat) := Ev.look i [(3, [0, 3, 4]), (13, [5, 7, 9]), (100000, [0, 3]), (100002, []), (200015, [5, 7]), (400000, [2]), (400002, [2])]
noncomputable def Gg5 (f11 : YF11) (f16 : YF16) (f17 : YF17) (f : Nat) : Option Ev.Spec := Ev.look f [(11, spg11 f11), (16, spg16 f16), (17, spg17 f17)]
noncomputable def G5 (fuel : Nat) : Nat → Option Ev.Spec := Gg5 (F_law09_Sane fuel) (F_symbol_Order fuel) (F_ref09_Order fuel)
noncomputable def S_law09_SymbolOrders_0 (fuel : Nat) (v : (List (Int × (Int × (List Int)))) × Int × Int) (c : ((List (Int × (Int × (List Int)))) × Int × Int) → Option Ans) (B : ((List (Int × (Int × (List Int)))) × Int → Option Ans)) : Option Ans := match v, B with
  | (x0, x1, x2), b =>
   bif Decidable.decide (x2 < (↑x0.length : Int)) then
      bif Decidable.decide ((0 : Int) ≤ x2 ∧ x2 < (↑x0.length : Int)) then
      c (x0, Go.IntKind.i64.wrap (x1 + (↑(List.length (x0.getD x2.toNat ((0 : Int), (0 : Int), [])).snd.snd) : Int)), Go.IntKind.i64.wrap (x2 + (1 : Int)))
      else none
     else
      b (x0, x1)
noncomputable def L_law09_SymbolOrders_0 (fuel : Nat) (v : (List (Int × (Int × (List Int)))) × Int × Int) (b : ((List (Int × (Int × (List Int)))) × Int → Option Ans)) : Option Ans := iter (S_law09_SymbolOrders_0 fuel) fuel v b
noncomputable def J5_0 (fuel : Nat) (i : Nat) : Option Ev.Blk := Ev.look i []
noncomputable def T5_0 (v : (List (Int × (Int × (List Int)))) × Int × Int) : Ev.St := match v with | (x0, x1, x2) => ⟨[(0, .c (.sl (.pair (.int .i64) (.pair (.int .i64) (.sl (.int .u8)))) x0)), (3, .c (.int .i64 x1)), (4, .c (.int .i64 x2))], [], 0, 0⟩
noncomputable def E5_0 (K : Ev.Ex → Ev.St → Option Ans) : ((List (Int × (Int × (List Int)))) × Int → Option Ans) := (fun v => match v with | (x0, x1) => K .normal ⟨[(0, .c (.sl (.pair (.int .i64) (.pair (.int .i64) (.sl (.int .u8)))) x0)), (3, .c (.int .i64 x1))], [], 0, 0⟩)
theorem S5_0_okg (fuel : Nat) (f11 : YF11) (f16 : YF16) (f17 : YF17) (R : Ev.St → Option Ans) (K : Ev.Ex → Ev.St → Option Ans) (x0 : (List (Int × (Int × (List Int))))) (x1 : Int) (x2 : Int) : evalCode tab (Gg5 f11 f16 f17) (J5_0 fuel) kp5 fuel (bodyOf 0 Tryz.f5) (T5_0 (x0, x1, x2)) (lc kp5 3 0 R K) = (fun (c : ((List (Int × (Int × (List Int)))) × Int × Int) → Option Ans) (B : ((List (Int × (Int × (List Int)))) × Int → Option Ans)) => match B with
  | b =>
   bif Decidable.decide (x2 < (↑x0.length : Int)) then
      bif Decidable.decide ((0 : Int) ≤ x2 ∧ x2 < (↑x0.length : Int)) then
      c (x0, Go.IntKind.i64.wrap (x1 + (↑(List.length (x0.getD x2.toNat ((0 : Int), (0 : Int), [])).snd.snd) : Int)), Go.IntKind.i64.wrap (x2 + (1 : Int)))
      else none
     else
      b (x0, x1)) (fun v => R (T5_0 v)) (E5_0 K) := by
  kernel_rfl
theorem S5_0_ok (fuel : Nat) (R : Ev.St → Option Ans) (K : Ev.Ex → Ev.St → Option Ans) (x0 : (List (Int × (Int × (List Int))))) (x1 : Int) (x2 : Int) : evalCode tab (G5 fuel) (J5_0 fuel) kp5 fuel (bodyOf 0 Tryz.f5) (T5_0 (x0, x1, x2)) (lc kp5 3 0 R K) = S_law09_SymbolOrders_0 fuel (x0, x1, x2) (fun v => R (T5_0 v)) (E5_0 K) :=
  S5_0_okg fuel (F_law09_Sane fuel) (F_symbol_Order fuel) (F_ref09_Order fuel) R K x0 x1 x2
noncomputable def B5_0 (fuel : Nat) : Ev.Blk := fun st K => match canonO (kp5 3) st with
  | some s => (match s with
    | ⟨[(q0, .c (.sl (.pair (.int .i64) (.pair (.int .i64) (.sl (.int .u8)))) x0)), (q1, .c (.int .i64 x1)), (q2, .c (.int .i64 x2))], [], q3, q4⟩ => bif Nat.beq q0 0 && Nat.beq q1 3 && Nat.beq q2 4 && Nat.beq q3 0 && Nat.beq q4 0 then iter (S_law09_SymbolOrders_0 fuel) fuel (x0, x1, x2) (E5_0 K) else none
    | _ => none)
  | none => none
theorem B5_0_ok (fuel : Nat) (st : Ev.St) (K : Ev.Ex → Ev.St → Option Ans) (r : Ans) (h : B5_0 fuel st K = some r) : evalCode tab (G5 fuel) (J5_0 fuel) kp5 fuel (.block 0 (.loop (bodyOf 0 Tryz.f5))) st K = some r := by
  unfold B5_0 at h
  split at h
  · rename_i s hs
    split at h
    · skip
      obtain ⟨hb, h⟩ := cond_some' h
      simp only [Bool.and_eq_true, Nat.beq_eq, decide_eq_true_eq] at hb
      obtain ⟨⟨⟨⟨rfl, rfl⟩, rfl⟩, rfl⟩, rfl⟩ := hb
      exact blk_loop (S := T5_0) (ks := E5_0) (step := S_law09_SymbolOrders_0 fuel) (v := (_, _, _)) (by kernel_rfl) (by kernel_rfl) (fun R K v => by obtain ⟨x0, x1, x2⟩ := v; exact S5_0_ok fuel R K x0 x1 x2) hs h
    · cases h
  · cases h
noncomputable def S_law09_SymbolOrders_2 (fuel : Nat) (v : Int × (List Int) × (List Int)) (c : (Int × (List Int) × (List Int)) → Option Ans) (B : (Bool → Option Ans) × (Unit → Option Ans)) : Option Ans := match v, B with
  | (x0, x1, x2), (ret, b) =>
   bif Decidable.decide (x0 < (↑x1.length : Int)) then
      bif Decidable.decide ((0 : Int) ≤ x0 ∧ x0 < (↑x1.length : Int)) then
      bif Decidable.decide ((0 : Int) ≤ x0 ∧ x0 < (↑x2.length : Int)) then
       both (bif x1.getD x0.toNat (0 : Int) != x2.getD x0.toNat (0 : Int) then
           ret Bool.false
          else
           c (Go.IntKind.i64.wrap (x0 + (1 : Int)), x1, x2))
         (bif x1.getD x0.toNat (0 : Int) != x2.getD x0.toNat (0 : Int) then
           ret Bool.false
          else
           c (Go.IntKind.i64.wrap (x0 + (1 : Int)), x1, x2))
       else none
      else none
     else
      b ()
noncomputable def L_law09_SymbolOrders_2 (fuel : Nat) (v : Int × (List Int) × (List Int)) (ret : (Bool → Option Ans)) (b : (Unit → Option Ans)) : Option Ans := iter (S_law09_SymbolOrders_2 fuel) fuel v (ret, b)
noncomputable def J5_2 (fuel : Nat) (i : Nat) : Option Ev.Blk := Ev.look i [(100000, B5_0 fuel)]
noncomputable def T5_2 (v : Int × (List Int) × (List Int)) : Ev.St := match v with | (x0, x1, x2) => ⟨[(5, .c (.own 0)), (7, .c (.own 1)), (9, .c (.int .i64 x0))], [(0, .vec 3 (.int .i64) x1 true), (1, .vec 3 (.int .i64) x2 true)], 2, 0⟩
noncomputable def E5_2 (K : Ev.Ex → Ev.St → Option Ans) : (Bool → Option Ans) × (Unit → Option Ans) := ((fun v => match v with | x0 => K .ret ⟨[(2, .c (.bool x0))], [], 0, 0⟩), (fun v => match v with | () => K .normal ⟨[], [], 0, 0⟩))
theorem S5_2_okg (fuel : Nat) (f11 : YF11) (f16 : YF16) (f17 : YF17) (R : Ev.St → Option Ans) (K : Ev.Ex → Ev.St → Option Ans) (x0 : Int) (x1 : (List Int)) (x2 : (List Int)) : evalCode tab (Gg5 f11 f16 f17) (J5_2 fuel) kp5 fuel (bodyOf 2 Tryz.f5) (T5_2 (x0, x1, x2)) (lc kp5 13 2 R K) = (fun (c : (Int × (List Int) × (List Int)) → Option Ans) (B : (Bool → Option Ans) × (Unit → Option Ans)) => match B with
  | (ret, b) =>
   bif Decidable.decide (x0 < (↑x1.length : Int)) then
      bif Decidable.decide ((0 : Int) ≤ x0 ∧ x0 < (↑x1.length : Int)) then
      bif Decidable.decide ((0 : Int) ≤ x0 ∧ x0 < (↑x2.length : Int)) then
       both (bif x1.getD x0.toNat (0 : Int) != x2.getD x0.toNat (0 : Int) then
           ret Bool.false
          else
           c (Go.IntKind.i64.wrap (x0 + (1 : Int)), x1, x2))
         (bif x1.getD x0.toNat (0 : Int) != x2.getD x0.toNat (0 : Int) then
           ret Bool.false
          else
           c (Go.IntKind.i64.wrap (x0 + (1 : Int)), x1, x2))
       else none
      else none
     else
      b ()) (fun v => R (T5_2 v)) (E5_2 K) := by
  kernel_rfl
theorem S5_2_ok (fuel : Nat) (R : Ev.St → Option Ans) (K : Ev.Ex → Ev.St → Option Ans) (x0 : Int) (x1 : (List Int)) (x2 : (List Int)) : evalCode tab (G5 fuel) (J5_2 fuel) kp5 fuel (bodyOf 2 Tryz.f5) (T5_2 (x0, x1, x2)) (lc kp5 13 2 R K) = S_law09_SymbolOrders_2 fuel (x0, x1, x2) (fun v => R (T5_2 v)) (E5_2 K) :=
  S5_2_okg fuel (F_law09_Sane fuel) (F_symbol_Order fuel) (F_ref09_Order fuel) R K x0 x1 x2
noncomputable def B5_2 (fuel : Nat) : Ev.Blk := fun st K => match canonO (kp5 13) st with
  | some s => (match s with
    | ⟨[(q0, .c (.own q1)), (q2, .c (.own q3)), (q4, .c (.int .i64 x0))], [(q5, .vec q6 (.int .i64) x1 true), (q7, .vec q8 (.int .i64) x2 true)], q9, q10⟩ => bif Nat.beq q0 5 && Nat.beq q1 0 && Nat.beq q2 7 && Nat.beq q3 1 && Nat.beq q4 9 && Nat.beq q5 0 && Nat.beq q6 3 && Nat.beq q7 1 && Nat.beq q8 3 && Nat.beq q9 2 && Nat.beq q10 0 then iter (S_law09_SymbolOrders_2 fuel) fuel (x0, x1, x2) (E5_2 K) else none
    | _ => none)
  | none => none
theorem B5_2_ok (fuel : Nat) (st : Ev.St) (K : Ev.Ex → Ev.St → Option Ans) (r : Ans) (h : B5_2 fuel st K = some r) : evalCode tab (G5 fuel) (J5_2 fuel) kp5 fuel (.block 2 (.loop (bodyOf 2 Tryz.f5))) st K = some r := by
  unfold B5_2 at h
  split at h
  · rename_i s hs
    split at h
    · skip
      obtain ⟨hb, h⟩ := cond_some' h
      simp only [Bool.and_eq_true, Nat.beq_eq, decide_eq_true_eq] at hb
      obtain ⟨⟨⟨⟨⟨⟨⟨⟨⟨⟨rfl, rfl⟩, rfl⟩, rfl⟩, rfl⟩, rfl⟩, rfl⟩, rfl⟩, rfl⟩, rfl⟩, rfl⟩ := hb
      exact blk_loop (S := T5_2) (ks := E5_2) (step := S_law09_SymbolOrders_2 fuel) (v := (_, _, _)) (by kernel_rfl) (by kernel_rfl) (fun R K v => by obtain ⟨x0, x1, x2⟩ := v; exact S5_2_ok fuel R K x0 x1 x2) hs h
    · cases h
  · cases h
noncomputable def J5 (fuel : Nat) (i : Nat) : Option Ev.Blk := Ev.look i [(100000, B5_0 fuel), (100002, B5_2 fuel)]
noncomputable def F_law09_SymbolOrders (fuel : Nat) (x0 : (List (Int × Int × (List Int)))) (k0 : (Bool) → Option Ans) : Option Ans :=
  (L_law09_SymbolOrders_0 fuel (x0, (0 : Int), (0 : Int))
    (fun (b0_0, b0_1) =>
      bif Decidable.decide (b0_1 > (3000 : Int)) then
       (F_law09_Sane fuel
         (fun y7 =>
           k0 y7))
      else
       bif Decidable.decide ((↑b0_0.length : Int) > (80 : Int)) then
        (F_law09_Sane fuel
          (fun y8 =>
            k0 y8))
       else
        (F_symbol_Order fuel (b0_0)
          (fun (y8_0, y8_1) =>
            (F_ref09_Order fuel (b0_0)
              (fun (y12_0, y12_1) =>
                bif y8_0 != y12_0 then
                 k0 Bool.false
                else
                 bif (↑y8_1.length : Int) != (↑y12_1.length : Int) then
                  k0 Bool.false
                 else
                  (L_law09_SymbolOrders_2 fuel ((0 : Int), y8_1, y12_1)
                    (fun ret2_0 =>
                      k0 ret2_0)
                    (fun () =>
                      (F_law09_Sane fuel
                        (fun y22 =>
                          k0 y22))))))))))
abbrev YF5 : Type := ((List (Int × Int × (List Int)))) → ((Bool) → Option Ans) → Option Ans
theorem F5_eqg (fuel : Nat) (f11 : YF11) (f16 : YF16) (f17 : YF17) (x0 : (List (Int × Int × (List Int)))) (k : Ev.Cont) : evalFn tab (Gg5 f11 f16 f17) (J5 fuel) kp5 fuel Tryz.f5 [.c (.sl (.pair (.int .i64) (.pair (.int .i64) (.sl (.int .u8)))) x0)] [] k = (fun  (k0 : (Bool) → Option Ans) =>
  (L_law09_SymbolOrders_0 fuel (x0, (0 : Int), (0 : Int))
    (fun (b0_0, b0_1) =>
      bif Decidable.decide (b0_1 > (3000 : Int)) then
       (f11
         (fun y7 =>
           k0 y7))
      else
       bif Decidable.decide ((↑b0_0.length : Int) > (80 : Int)) then
        (f11
          (fun y8 =>
            k0 y8))
       else
        (f16 (b0_0)
          (fun (y8_0, y8_1) =>
            (f17 (b0_0)
              (fun (y12_0, y12_1) =>
                bif y8_0 != y12_0 then
                 k0 Bool.false
                else
                 bif (↑y8_1.length : Int) != (↑y12_1.length : Int) then
                  k0 Bool.false
                 else
                  (L_law09_SymbolOrders_2 fuel ((0 : Int), y8_1, y12_1)
                    (fun ret2_0 =>
                      k0 ret2_0)
                    (fun () =>
                      (f11
                        (fun y22 =>
                          k0 y22))))))))))) (fun r => match r with | r0 => k (.c (.bool r0), [])) := by
  kernel_rfl
theorem F5_eq (fuel : Nat) (x0 : (List (Int × Int × (List Int)))) (k : Ev.Cont) : evalFn tab (G5 fuel) (J5 fuel) kp5 fuel Tryz.f5 [.c (.sl (.pair (.int .i64) (.pair (.int .i64) (.sl (.int .u8)))) x0)] [] k = F_law09_SymbolOrders fuel x0 (fun r => match r with | r0 => k (.c (.bool r0), [])) :=
  F5_eqg fuel (F_law09_Sane fuel) (F_symbol_Order fuel) (F_ref09_Order fuel) x0 k
theorem hG5 (fuel : Nat) : GOK Tryz.prog (G5 fuel) :=
  gok_cons ⟨ok11 fuel, enters_of Tryz.func11 (by kernel_rfl) rfl⟩ <|
  gok_cons ⟨ok16 fuel, enters_of Tryz.func16 (by kernel_rfl) rfl⟩ <|
  gok_cons ⟨ok17 fuel, enters_of Tryz.func17 (by kernel_rfl) rfl⟩ <|
  gok_nil
theorem B5_0_blk (fuel : Nat) : BlkOK Tryz.prog Tryz.f5.ntmps (.block 0 (.loop (bodyOf 0 Tryz.f5))) (B5_0 fuel) :=
  blk_of (blk_of_code tab_ok (hG5 fuel) mixed (J := J5_0 fuel) (kp := kp5) (fuel := fuel) (by kernel_rfl) (fun q hq => by
    rw [(by kernel_rfl : obl (J5_0 fuel) (.block 0 (.loop (bodyOf 0 Tryz.f5))) = [])] at hq
    cases hq)) (B5_0_ok fuel)
theorem B5_2_blk (fuel : Nat) : BlkOK Tryz.prog Tryz.f5.ntmps (.block 2 (.loop (bodyOf 2 Tryz.f5))) (B5_2 fuel) :=
  blk_of (blk_of_code tab_ok (hG5 fuel) mixed (J := J5_2 fuel) (kp := kp5) (fuel := fuel) (by kernel_rfl) (fun q hq => by
    rw [(by kernel_rfl : obl (J5_2 fuel) (.block 2 (.loop (bodyOf 2 Tryz.f5))) = [])] at hq
    cases hq)) (B5_2_ok fuel)
theorem fok5 (fuel : Nat) : FnOK Tryz.prog 5 (evalFn tab (G5 fuel) (J5 fuel) kp5 fuel Tryz.f5) :=
  fn_ok tab_ok (hG5 fuel) mixed Tryz.func5 (c := (Tryz.f5.body).getD .skip) rfl (fun q hq => by
    rw [(by kernel_rfl : obl (J5 fuel) ((Tryz.f5.body).getD .skip) = [(.block 0 (.loop (bodyOf 0 Tryz.f5)), B5_0 fuel), (.block 2 (.loop (bodyOf 2 Tryz.f5)), B5_2 fuel)])] at hq
    simp only [List.mem_cons, List.not_mem_nil, or_false] at hq
    rcases hq with rfl | rfl
    · exact B5_0_blk fuel
    · exact B5_2_blk fuel)
noncomputable def mt5 : List Ev.SV → List Ev.Ob → Bool := fun args objs => match args, objs with
  | [.c (.sl (.pair (.int .i64) (.pair (.int .i64) (.sl (.int .u8)))) _)], [] => true
  | _, _ => false
noncomputable def spg5 (F : YF5) : Ev.Spec := fun args objs k => match args, objs with
  | [.c (.sl (.pair (.int .i64) (.pair (.int .i64) (.sl (.int .u8)))) x0)], [] => bif true then F x0 (fun r => match r with | r0 => k (.c (.bool r0), [])) else none
  | _, _ => none
noncomputable def spec5 (fuel : Nat) : Ev.Spec := spg5 (F_law09_SymbolOrders fuel)
theorem ok5 (fuel : Nat) : FnOK Tryz.prog 5 (spec5 fuel) := by
  intro args objs kk r h
  unfold spec5 spg5 at h
  split at h
  · skip
    obtain ⟨hb, h⟩ := cond_some' h
    simp only [Bool.and_eq_true, Nat.beq_eq, decide_eq_true_eq] at hb
    clear hb
    exact fok5 fuel _ _ kk r ((F5_eq fuel _ kk).trans h)
  · cases h
end Go.Proofs.YtmjeeaemmbkioaaGreat

