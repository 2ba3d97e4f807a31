/- What the functions that ToneScreens reaches do: their typed texts, each with the proof that the machine does it. No condition. -/
import Derived.Test.YtipdidpalcmlhaaEvX
import Derived.Test.YtipdidpalcmlhaaFsToneScreens1
set_option linter.unusedVariables false
set_option linter.unusedSimpArgs false
set_option linter.unusedVariables false
set_option linter.unusedSimpArgs false
set_option maxRecDepth 100000
set_option maxHeartbeats 2000000
namespace Go.Proofs.Ytipdidpalcmlhaa
open Go Ev
def kp141_e63 (i : Nat) : Option (List Nat) := Ev.look i [(1, [0, 1, 2, 3, 8]), (4, [0, 1, 2, 3, 8, 9]), (100000, []), (100002, [0, 1, 2, 3, 8]), (200004, [0]), (400000, []), (400002, [])]
noncomputable def Gg141_e63 (f39_b33 : YF39_b33) (f : Nat) : Option Ev.Spec := Ev.look f [(39, spg39_b33 f39_b33)]
noncomputable def G141_e63 (fuel : Nat) : Nat → Option Ev.Spec := Gg141_e63 (F_tone_Screen_1_b33 fuel)
noncomputable def S_slices_insertionSortCmpFunc_int_e63_2 (fuel : Nat) (v : Int × Int × Int × Int × (List Int) × Int × Int) (c : (Int × Int × Int × Int × (List Int) × Int × Int) → Option Ans) (B : (Int × Int × Int × (List Int) × Int × Int → Option Ans)) : Option Ans := match v, B with
  | (x0, x1, x2, x3, x4, x5, x6), b =>
   bif Decidable.decide (x3 > x0) then
      bif Decidable.decide ((0 : Int) ≤ x3 ∧ x3 < (↑x4.length : Int)) then
      bif Decidable.decide ((0 : Int) ≤ Go.IntKind.i64.wrap (x3 - (1 : Int)) ∧ Go.IntKind.i64.wrap (x3 - (1 : Int)) < (↑x4.length : Int)) then
       both ((F_tone_Screen_1_b33 fuel (x4.getD x3.toNat (0 : Int)) (x4.getD (Go.IntKind.i64.wrap (x3 - (1 : Int))).toNat (0 : Int)) (x5) (x6)
            (fun (y7_0, y7_1, y7_2) =>
              bif Decidable.decide (y7_0 < (0 : Int)) then
               bif Decidable.decide ((0 : Int) ≤ Go.IntKind.i64.wrap (x3 - (1 : Int)) ∧ Go.IntKind.i64.wrap (x3 - (1 : Int)) < (↑x4.length : Int)) then
               bif Decidable.decide ((0 : Int) ≤ x3 ∧ x3 < (↑x4.length : Int)) then
                both (bif Decidable.decide ((0 : Int) ≤ x3 ∧ x3 < (↑x4.length : Int)) then
                   bif Decidable.decide ((0 : Int) ≤ Go.IntKind.i64.wrap (x3 - (1 : Int)) ∧ Go.IntKind.i64.wrap (x3 - (1 : Int)) < (↑(x4.set x3.toNat (x4.getD (Go.IntKind.i64.wrap (x3 - (1 : Int))).toNat (0 : Int))).length : Int)) then
                    c (x0, x1, x2, Go.IntKind.i64.wrap (x3 - (1 : Int)), (x4.set x3.toNat (x4.getD (Go.IntKind.i64.wrap (x3 - (1 : Int))).toNat (0 : Int))).set (Go.IntKind.i64.wrap (x3 - (1 : Int))).toNat (x4.getD x3.toNat (0 : Int)), y7_1, y7_2)
                    else none
                   else none)
                  (bif Decidable.decide ((0 : Int) ≤ x3 ∧ x3 < (↑x4.length : Int)) then
                   bif Decidable.decide ((0 : Int) ≤ Go.IntKind.i64.wrap (x3 - (1 : Int)) ∧ Go.IntKind.i64.wrap (x3 - (1 : Int)) < (↑(x4.set x3.toNat (x4.getD (Go.IntKind.i64.wrap (x3 - (1 : Int))).toNat (0 : Int))).length : Int)) then
                    c (x0, x1, x2, Go.IntKind.i64.wrap (x3 - (1 : Int)), (x4.set x3.toNat (x4.getD (Go.IntKind.i64.wrap (x3 - (1 : Int))).toNat (0 : Int))).set (Go.IntKind.i64.wrap (x3 - (1 : Int))).toNat (x4.getD x3.toNat (0 : Int)), y7_1, y7_2)
                    else none
                   else none)
                else none
               else none
              else
               b (x0, x1, x2, x4, y7_1, y7_2))))
         ((F_tone_Screen_1_b33 fuel (x4.getD x3.toNat (0 : Int)) (x4.getD (Go.IntKind.i64.wrap (x3 - (1 : Int))).toNat (0 : Int)) (x5) (x6)
            (fun (y7_0, y7_1, y7_2) =>
              bif Decidable.decide (y7_0 < (0 : Int)) then
               bif Decidable.decide ((0 : Int) ≤ Go.IntKind.i64.wrap (x3 - (1 : Int)) ∧ Go.IntKind.i64.wrap (x3 - (1 : Int)) < (↑x4.length : Int)) then
               bif Decidable.decide ((0 : Int) ≤ x3 ∧ x3 < (↑x4.length : Int)) then
                both (bif Decidable.decide ((0 : Int) ≤ x3 ∧ x3 < (↑x4.length : Int)) then
                   bif Decidable.decide ((0 : Int) ≤ Go.IntKind.i64.wrap (x3 - (1 : Int)) ∧ Go.IntKind.i64.wrap (x3 - (1 : Int)) < (↑(x4.set x3.toNat (x4.getD (Go.IntKind.i64.wrap (x3 - (1 : Int))).toNat (0 : Int))).length : Int)) then
                    c (x0, x1, x2, Go.IntKind.i64.wrap (x3 - (1 : Int)), (x4.set x3.toNat (x4.getD (Go.IntKind.i64.wrap (x3 - (1 : Int))).toNat (0 : Int))).set (Go.IntKind.i64.wrap (x3 - (1 : Int))).toNat (x4.getD x3.toNat (0 : Int)), y7_1, y7_2)
                    else none
                   else none)
                  (bif Decidable.decide ((0 : Int) ≤ x3 ∧ x3 < (↑x4.length : Int)) then
                   bif Decidable.decide ((0 : Int) ≤ Go.IntKind.i64.wrap (x3 - (1 : Int)) ∧ Go.IntKind.i64.wrap (x3 - (1 : Int)) < (↑(x4.set x3.toNat (x4.getD (Go.IntKind.i64.wrap (x3 - (1 : Int))).toNat (0 : Int))).length : Int)) then
                    c (x0, x1, x2, Go.IntKind.i64.wrap (x3 - (1 : Int)), (x4.set x3.toNat (x4.getD (Go.IntKind.i64.wrap (x3 - (1 : Int))).toNat (0 : Int))).set (Go.IntKind.i64.wrap (x3 - (1 : Int))).toNat (x4.getD x3.toNat (0 : Int)), y7_1, y7_2)
                    else none
                   else none)
                else none
               else none
              else
               b (x0, x1, x2, x4, y7_1, y7_2))))
       else none
      else none
     else
      b (x0, x1, x2, x4, x5, x6)
noncomputable def L_slices_insertionSortCmpFunc_int_e63_2 (fuel : Nat) (v : Int × Int × Int × Int × (List Int) × Int × Int) (b : (Int × Int × Int × (List Int) × Int × Int → Option Ans)) : Option Ans := iter (S_slices_insertionSortCmpFunc_int_e63_2 fuel) fuel v b
noncomputable def J141_e63_2 (fuel : Nat) (i : Nat) : Option Ev.Blk := Ev.look i []
noncomputable def T141_e63_2 (v : Int × Int × Int × Int × (List Int) × Int × Int) : Ev.St := match v with | (x0, x1, x2, x3, x4, x5, x6) => ⟨[(0, .c (.own 0)), (1, .c (.int .i64 x0)), (2, .c (.int .i64 x1)), (3, .c (.clo 39 [1, 2])), (8, .c (.int .i64 x2)), (9, .c (.int .i64 x3))], [(0, .vec 3 (.int .i64) x4 false), (1, .cells 3 [.int .i64 x5]), (2, .cells 3 [.int .i64 x6])], 3, 3⟩
noncomputable def E141_e63_2 (K : Ev.Ex → Ev.St → Option Ans) : (Int × Int × Int × (List Int) × Int × Int → Option Ans) := (fun v => match v with | (x0, x1, x2, x3, x4, x5) => K .normal ⟨[(0, .c (.own 0)), (1, .c (.int .i64 x0)), (2, .c (.int .i64 x1)), (3, .c (.clo 39 [1, 2])), (8, .c (.int .i64 x2))], [(0, .vec 3 (.int .i64) x3 false), (1, .cells 3 [.int .i64 x4]), (2, .cells 3 [.int .i64 x5])], 3, 3⟩)
theorem S141_e63_2_okg (fuel : Nat) (f39_b33 : YF39_b33) (R : Ev.St → Option Ans) (K : Ev.Ex → Ev.St → Option Ans) (x0 : Int) (x1 : Int) (x2 : Int) (x3 : Int) (x4 : (List Int)) (x5 : Int) (x6 : Int) : evalCode tab (Gg141_e63 f39_b33) (J141_e63_2 fuel) kp141_e63 fuel (bodyOf 2 Try.f141) (T141_e63_2 (x0, x1, x2, x3, x4, x5, x6)) (lc kp141_e63 4 2 R K) = (fun (c : (Int × Int × Int × Int × (List Int) × Int × Int) → Option Ans) (B : (Int × Int × Int × (List Int) × Int × Int → Option Ans)) => match B with
  | b =>
   bif Decidable.decide (x3 > x0) then
      bif Decidable.decide ((0 : Int) ≤ x3 ∧ x3 < (↑x4.length : Int)) then
      bif Decidable.decide ((0 : Int) ≤ Go.IntKind.i64.wrap (x3 - (1 : Int)) ∧ Go.IntKind.i64.wrap (x3 - (1 : Int)) < (↑x4.length : Int)) then
       both ((f39_b33 (x4.getD x3.toNat (0 : Int)) (x4.getD (Go.IntKind.i64.wrap (x3 - (1 : Int))).toNat (0 : Int)) (x5) (x6)
            (fun (y7_0, y7_1, y7_2) =>
              bif Decidable.decide (y7_0 < (0 : Int)) then
               bif Decidable.decide ((0 : Int) ≤ Go.IntKind.i64.wrap (x3 - (1 : Int)) ∧ Go.IntKind.i64.wrap (x3 - (1 : Int)) < (↑x4.length : Int)) then
               bif Decidable.decide ((0 : Int) ≤ x3 ∧ x3 < (↑x4.length : Int)) then
                both (bif Decidable.decide ((0 : Int) ≤ x3 ∧ x3 < (↑x4.length : Int)) then
                   bif Decidable.decide ((0 : Int) ≤ Go.IntKind.i64.wrap (x3 - (1 : Int)) ∧ Go.IntKind.i64.wrap (x3 - (1 : Int)) < (↑(x4.set x3.toNat (x4.getD (Go.IntKind.i64.wrap (x3 - (1 : Int))).toNat (0 : Int))).length : Int)) then
                    c (x0, x1, x2, Go.IntKind.i64.wrap (x3 - (1 : Int)), (x4.set x3.toNat (x4.getD (Go.IntKind.i64.wrap (x3 - (1 : Int))).toNat (0 : Int))).set (Go.IntKind.i64.wrap (x3 - (1 : Int))).toNat (x4.getD x3.toNat (0 : Int)), y7_1, y7_2)
                    else none
                   else none)
                  (bif Decidable.decide ((0 : Int) ≤ x3 ∧ x3 < (↑x4.length : Int)) then
                   bif Decidable.decide ((0 : Int) ≤ Go.IntKind.i64.wrap (x3 - (1 : Int)) ∧ Go.IntKind.i64.wrap (x3 - (1 : Int)) < (↑(x4.set x3.toNat (x4.getD (Go.IntKind.i64.wrap (x3 - (1 : Int))).toNat (0 : Int))).length : Int)) then
                    c (x0, x1, x2, Go.IntKind.i64.wrap (x3 - (1 : Int)), (x4.set x3.toNat (x4.getD (Go.IntKind.i64.wrap (x3 - (1 : Int))).toNat (0 : Int))).set (Go.IntKind.i64.wrap (x3 - (1 : Int))).toNat (x4.getD x3.toNat (0 : Int)), y7_1, y7_2)
                    else none
                   else none)
                else none
               else none
              else
               b (x0, x1, x2, x4, y7_1, y7_2))))
         ((f39_b33 (x4.getD x3.toNat (0 : Int)) (x4.getD (Go.IntKind.i64.wrap (x3 - (1 : Int))).toNat (0 : Int)) (x5) (x6)
            (fun (y7_0, y7_1, y7_2) =>
              bif Decidable.decide (y7_0 < (0 : Int)) then
               bif Decidable.decide ((0 : Int) ≤ Go.IntKind.i64.wrap (x3 - (1 : Int)) ∧ Go.IntKind.i64.wrap (x3 - (1 : Int)) < (↑x4.length : Int)) then
               bif Decidable.decide ((0 : Int) ≤ x3 ∧ x3 < (↑x4.length : Int)) then
                both (bif Decidable.decide ((0 : Int) ≤ x3 ∧ x3 < (↑x4.length : Int)) then
                   bif Decidable.decide ((0 : Int) ≤ Go.IntKind.i64.wrap (x3 - (1 : Int)) ∧ Go.IntKind.i64.wrap (x3 - (1 : Int)) < (↑(x4.set x3.toNat (x4.getD (Go.IntKind.i64.wrap (x3 - (1 : Int))).toNat (0 : Int))).length : Int)) then
                    c (x0, x1, x2, Go.IntKind.i64.wrap (x3 - (1 : Int)), (x4.set x3.toNat (x4.getD (Go.IntKind.i64.wrap (x3 - (1 : Int))).toNat (0 : Int))).set (Go.IntKind.i64.wrap (x3 - (1 : Int))).toNat (x4.getD x3.toNat (0 : Int)), y7_1, y7_2)
                    else none
                   else none)
                  (bif Decidable.decide ((0 : Int) ≤ x3 ∧ x3 < (↑x4.length : Int)) then
                   bif Decidable.decide ((0 : Int) ≤ Go.IntKind.i64.wrap (x3 - (1 : Int)) ∧ Go.IntKind.i64.wrap (x3 - (1 : Int)) < (↑(x4.set x3.toNat (x4.getD (Go.IntKind.i64.wrap (x3 - (1 : Int))).toNat (0 : Int))).length : Int)) then
                    c (x0, x1, x2, Go.IntKind.i64.wrap (x3 - (1 : Int)), (x4.set x3.toNat (x4.getD (Go.IntKind.i64.wrap (x3 - (1 : Int))).toNat (0 : Int))).set (Go.IntKind.i64.wrap (x3 - (1 : Int))).toNat (x4.getD x3.toNat (0 : Int)), y7_1, y7_2)
                    else none
                   else none)
                else none
               else none
              else
               b (x0, x1, x2, x4, y7_1, y7_2))))
       else none
      else none
     else
      b (x0, x1, x2, x4, x5, x6)) (fun v => R (T141_e63_2 v)) (E141_e63_2 K) := by
  kernel_rfl
theorem S141_e63_2_ok (fuel : Nat) (R : Ev.St → Option Ans) (K : Ev.Ex → Ev.St → Option Ans) (x0 : Int) (x1 : Int) (x2 : Int) (x3 : Int) (x4 : (List Int)) (x5 : Int) (x6 : Int) : evalCode tab (G141_e63 fuel) (J141_e63_2 fuel) kp141_e63 fuel (bodyOf 2 Try.f141) (T141_e63_2 (x0, x1, x2, x3, x4, x5, x6)) (lc kp141_e63 4 2 R K) = S_slices_insertionSortCmpFunc_int_e63_2 fuel (x0, x1, x2, x3, x4, x5, x6) (fun v => R (T141_e63_2 v)) (E141_e63_2 K) :=
  S141_e63_2_okg fuel (F_tone_Screen_1_b33 fuel) R K x0 x1 x2 x3 x4 x5 x6
noncomputable def B141_e63_2 (fuel : Nat) : Ev.Blk := fun st K => match canonO (kp141_e63 4) st with
  | some s => (match s with
    | ⟨[(q0, .c (.own q1)), (q2, .c (.int .i64 x0)), (q3, .c (.int .i64 x1)), (q4, .c (.clo q5 [q6, q7])), (q8, .c (.int .i64 x2)), (q9, .c (.int .i64 x3))], [(q10, .vec q11 (.int .i64) x4 false), (q12, .cells q13 [.int .i64 x5]), (q14, .cells q15 [.int .i64 x6])], q16, q17⟩ => bif Nat.beq q0 0 && Nat.beq q1 0 && Nat.beq q2 1 && Nat.beq q3 2 && Nat.beq q4 3 && Nat.beq q5 39 && Nat.beq q6 1 && Nat.beq q7 2 && Nat.beq q8 8 && Nat.beq q9 9 && Nat.beq q10 0 && Nat.beq q11 3 && Nat.beq q12 1 && Nat.beq q13 3 && Nat.beq q14 2 && Nat.beq q15 3 && Nat.beq q16 3 && Nat.beq q17 3 then iter (S_slices_insertionSortCmpFunc_int_e63_2 fuel) fuel (x0, x1, x2, x3, x4, x5, x6) (E141_e63_2 K) else none
    | _ => none)
  | none => none
theorem B141_e63_2_ok (fuel : Nat) (st : Ev.St) (K : Ev.Ex → Ev.St → Option Ans) (r : Ans) (h : B141_e63_2 fuel st K = some r) : evalCode tab (G141_e63 fuel) (J141_e63_2 fuel) kp141_e63 fuel (.block 2 (.loop (bodyOf 2 Try.f141))) st K = some r := by
  unfold B141_e63_2 at h
  split at h
  · rename_i s hs
    split at h
    · skip
      obtain ⟨hb, h⟩ := cond_some' h
      simp only [Bool.and_eq_true, Nat.beq_eq, decide_eq_true_eq] at hb
      obtain ⟨⟨⟨⟨⟨⟨⟨⟨⟨⟨⟨⟨⟨⟨⟨⟨⟨rfl, rfl⟩, rfl⟩, rfl⟩, rfl⟩, rfl⟩, rfl⟩, rfl⟩, rfl⟩, rfl⟩, rfl⟩, rfl⟩, rfl⟩, rfl⟩, rfl⟩, rfl⟩, rfl⟩, rfl⟩ := hb
      exact blk_loop (S := T141_e63_2) (ks := E141_e63_2) (step := S_slices_insertionSortCmpFunc_int_e63_2 fuel) (v := (_, _, _, _, _, _, _)) (by kernel_rfl) (by kernel_rfl) (fun R K v => by obtain ⟨x0, x1, x2, x3, x4, x5, x6⟩ := v; exact S141_e63_2_ok fuel R K x0 x1 x2 x3 x4 x5 x6) hs h
    · cases h
  · cases h
noncomputable def S_slices_insertionSortCmpFunc_int_e63_0 (fuel : Nat) (v : Int × Int × Int × (List Int) × Int × Int) (c : (Int × Int × Int × (List Int) × Int × Int) → Option Ans) (B : ((List Int) × Int × Int → Option Ans)) : Option Ans := match v, B with
  | (x0, x1, x2, x3, x4, x5), b =>
   bif Decidable.decide (x2 < x1) then
      (L_slices_insertionSortCmpFunc_int_e63_2 fuel (x0, x1, x2, x2, x3, x4, x5)
        (fun (b2_0, b2_1, b2_2, b2_3, b2_4, b2_5) =>
          c (b2_0, b2_1, Go.IntKind.i64.wrap (b2_2 + (1 : Int)), b2_3, b2_4, b2_5)))
     else
      b (x3, x4, x5)
noncomputable def L_slices_insertionSortCmpFunc_int_e63_0 (fuel : Nat) (v : Int × Int × Int × (List Int) × Int × Int) (b : ((List Int) × Int × Int → Option Ans)) : Option Ans := iter (S_slices_insertionSortCmpFunc_int_e63_0 fuel) fuel v b
noncomputable def J141_e63_0 (fuel : Nat) (i : Nat) : Option Ev.Blk := Ev.look i [(100002, B141_e63_2 fuel)]
noncomputable def T141_e63_0 (v : Int × Int × Int × (List Int) × Int × Int) : Ev.St := match v with | (x0, x1, x2, x3, x4, x5) => ⟨[(0, .c (.own 0)), (1, .c (.int .i64 x0)), (2, .c (.int .i64 x1)), (3, .c (.clo 39 [1, 2])), (8, .c (.int .i64 x2))], [(0, .vec 3 (.int .i64) x3 false), (1, .cells 3 [.int .i64 x4]), (2, .cells 3 [.int .i64 x5])], 3, 3⟩
noncomputable def E141_e63_0 (K : Ev.Ex → Ev.St → Option Ans) : ((List Int) × Int × Int → Option Ans) := (fun v => match v with | (x0, x1, x2) => K .normal ⟨[], [(0, .vec 3 (.int .i64) x0 false), (1, .cells 3 [.int .i64 x1]), (2, .cells 3 [.int .i64 x2])], 3, 3⟩)
theorem S141_e63_0_okg (fuel : Nat) (f39_b33 : YF39_b33) (R : Ev.St → Option Ans) (K : Ev.Ex → Ev.St → Option Ans) (x0 : Int) (x1 : Int) (x2 : Int) (x3 : (List Int)) (x4 : Int) (x5 : Int) : evalCode tab (Gg141_e63 f39_b33) (J141_e63_0 fuel) kp141_e63 fuel (bodyOf 0 Try.f141) (T141_e63_0 (x0, x1, x2, x3, x4, x5)) (lc kp141_e63 1 0 R K) = (fun (c : (Int × Int × Int × (List Int) × Int × Int) → Option Ans) (B : ((List Int) × Int × Int → Option Ans)) => match B with
  | b =>
   bif Decidable.decide (x2 < x1) then
      (L_slices_insertionSortCmpFunc_int_e63_2 fuel (x0, x1, x2, x2, x3, x4, x5)
        (fun (b2_0, b2_1, b2_2, b2_3, b2_4, b2_5) =>
          c (b2_0, b2_1, Go.IntKind.i64.wrap (b2_2 + (1 : Int)), b2_3, b2_4, b2_5)))
     else
      b (x3, x4, x5)) (fun v => R (T141_e63_0 v)) (E141_e63_0 K) := by
  kernel_rfl
theorem S141_e63_0_ok (fuel : Nat) (R : Ev.St → Option Ans) (K : Ev.Ex → Ev.St → Option Ans) (x0 : Int) (x1 : Int) (x2 : Int) (x3 : (List Int)) (x4 : Int) (x5 : Int) : evalCode tab (G141_e63 fuel) (J141_e63_0 fuel) kp141_e63 fuel (bodyOf 0 Try.f141) (T141_e63_0 (x0, x1, x2, x3, x4, x5)) (lc kp141_e63 1 0 R K) = S_slices_insertionSortCmpFunc_int_e63_0 fuel (x0, x1, x2, x3, x4, x5) (fun v => R (T141_e63_0 v)) (E141_e63_0 K) :=
  S141_e63_0_okg fuel (F_tone_Screen_1_b33 fuel) R K x0 x1 x2 x3 x4 x5
noncomputable def B141_e63_0 (fuel : Nat) : Ev.Blk := fun st K => match canonO (kp141_e63 1) st with
  | some s => (match s with
    | ⟨[(q0, .c (.own q1)), (q2, .c (.int .i64 x0)), (q3, .c (.int .i64 x1)), (q4, .c (.clo q5 [q6, q7])), (q8, .c (.int .i64 x2))], [(q9, .vec q10 (.int .i64) x3 false), (q11, .cells q12 [.int .i64 x4]), (q13, .cells q14 [.int .i64 x5])], q15, q16⟩ => bif Nat.beq q0 0 && Nat.beq q1 0 && Nat.beq q2 1 && Nat.beq q3 2 && Nat.beq q4 3 && Nat.beq q5 39 && Nat.beq q6 1 && Nat.beq q7 2 && Nat.beq q8 8 && Nat.beq q9 0 && Nat.beq q10 3 && Nat.beq q11 1 && Nat.beq q12 3 && Nat.beq q13 2 && Nat.beq q14 3 && Nat.beq q15 3 && Nat.beq q16 3 then iter (S_slices_insertionSortCmpFunc_int_e63_0 fuel) fuel (x0, x1, x2, x3, x4, x5) (E141_e63_0 K) else none
    | _ => none)
  | none => none
theorem B141_e63_0_ok (fuel : Nat) (st : Ev.St) (K : Ev.Ex → Ev.St → Option Ans) (r : Ans) (h : B141_e63_0 fuel st K = some r) : evalCode tab (G141_e63 fuel) (J141_e63_0 fuel) kp141_e63 fuel (.block 0 (.loop (bodyOf 0 Try.f141))) st K = some r := by
  unfold B141_e63_0 at h
  split at h
  · rename_i s hs
    split at h
    · skip
      obtain ⟨hb, h⟩ := cond_some' h
      simp only [Bool.and_eq_true, Nat.beq_eq, decide_eq_true_eq] at hb
      obtain ⟨⟨⟨⟨⟨⟨⟨⟨⟨⟨⟨⟨⟨⟨⟨⟨rfl, rfl⟩, rfl⟩, rfl⟩, rfl⟩, rfl⟩, rfl⟩, rfl⟩, rfl⟩, rfl⟩, rfl⟩, rfl⟩, rfl⟩, rfl⟩, rfl⟩, rfl⟩, rfl⟩ := hb
      exact blk_loop (S := T141_e63_0) (ks := E141_e63_0) (step := S_slices_insertionSortCmpFunc_int_e63_0 fuel) (v := (_, _, _, _, _, _)) (by kernel_rfl) (by kernel_rfl) (fun R K v => by obtain ⟨x0, x1, x2, x3, x4, x5⟩ := v; exact S141_e63_0_ok fuel R K x0 x1 x2 x3 x4 x5) hs h
    · cases h
  · cases h
noncomputable def J141_e63 (fuel : Nat) (i : Nat) : Option Ev.Blk := Ev.look i [(100002, B141_e63_2 fuel), (100000, B141_e63_0 fuel)]
noncomputable def F_slices_insertionSortCmpFunc_int_e63 (fuel : Nat) (x0 : Int) (x1 : Int) (x2 : (List Int)) (x3 : Int) (x4 : Int) (k0 : ((List Int) × Int × Int) → Option Ans) : Option Ans :=
  (L_slices_insertionSortCmpFunc_int_e63_0 fuel (x0, x1, Go.IntKind.i64.wrap (x0 + (1 : Int)), x2, x3, x4)
    (fun (b0_0, b0_1, b0_2) =>
      k0 (b0_0, b0_1, b0_2)))
abbrev YF141_e63 : Type := (Int) → (Int) → ((List Int)) → (Int) → (Int) → (((List Int) × Int × Int) → Option Ans) → Option Ans
theorem F141_e63_eqg (fuel : Nat) (f39_b33 : YF39_b33) (x0 : Int) (x1 : Int) (x2 : (List Int)) (x3 : Int) (x4 : Int) (k : Ev.Cont) : evalFn tab (Gg141_e63 f39_b33) (J141_e63 fuel) kp141_e63 fuel Try.f141 [.c (.own 0), .c (.int .i64 x0), .c (.int .i64 x1), .c (.clo 39 [1, 2])] [.vec 3 (.int .i64) x2 false, .cells 3 [.int .i64 x3], .cells 3 [.int .i64 x4]] k = (fun  (k0 : ((List Int) × Int × Int) → Option Ans) =>
  (L_slices_insertionSortCmpFunc_int_e63_0 fuel (x0, x1, Go.IntKind.i64.wrap (x0 + (1 : Int)), x2, x3, x4)
    (fun (b0_0, b0_1, b0_2) =>
      k0 (b0_0, b0_1, b0_2)))) (fun r => match r with | (r0, r1, r2) => k (.tup [], [.vec 3 (.int .i64) r0 false, .cells 3 [.int .i64 r1], .cells 3 [.int .i64 r2]])) := by
  kernel_rfl
theorem F141_e63_eq (fuel : Nat) (x0 : Int) (x1 : Int) (x2 : (List Int)) (x3 : Int) (x4 : Int) (k : Ev.Cont) : evalFn tab (G141_e63 fuel) (J141_e63 fuel) kp141_e63 fuel Try.f141 [.c (.own 0), .c (.int .i64 x0), .c (.int .i64 x1), .c (.clo 39 [1, 2])] [.vec 3 (.int .i64) x2 false, .cells 3 [.int .i64 x3], .cells 3 [.int .i64 x4]] k = F_slices_insertionSortCmpFunc_int_e63 fuel x0 x1 x2 x3 x4 (fun r => match r with | (r0, r1, r2) => k (.tup [], [.vec 3 (.int .i64) r0 false, .cells 3 [.int .i64 r1], .cells 3 [.int .i64 r2]])) :=
  F141_e63_eqg fuel (F_tone_Screen_1_b33 fuel) x0 x1 x2 x3 x4 k
theorem hG141_e63 (fuel : Nat) : GOK Try.prog (G141_e63 fuel) :=
  gok_cons ⟨ok39_b33 fuel, enters_of Try.func39 (by kernel_rfl) rfl⟩ <|
  gok_nil
theorem B141_e63_2_blk (fuel : Nat) : BlkOK Try.prog Try.f141.ntmps (.block 2 (.loop (bodyOf 2 Try.f141))) (B141_e63_2 fuel) :=
  blk_of (blk_of_code tab_ok (hG141_e63 fuel) mixed (J := J141_e63_2 fuel) (kp := kp141_e63) (fuel := fuel) (by kernel_rfl) (fun q hq => by
    rw [(by kernel_rfl : obl (J141_e63_2 fuel) (.block 2 (.loop (bodyOf 2 Try.f141))) = [])] at hq
    cases hq)) (B141_e63_2_ok fuel)
theorem B141_e63_0_blk (fuel : Nat) : BlkOK Try.prog Try.f141.ntmps (.block 0 (.loop (bodyOf 0 Try.f141))) (B141_e63_0 fuel) :=
  blk_of (blk_of_code tab_ok (hG141_e63 fuel) mixed (J := J141_e63_0 fuel) (kp := kp141_e63) (fuel := fuel) (by kernel_rfl) (fun q hq => by
    rw [(by kernel_rfl : obl (J141_e63_0 fuel) (.block 0 (.loop (bodyOf 0 Try.f141))) = [(.block 2 (.loop (bodyOf 2 Try.f141)), B141_e63_2 fuel)])] at hq
    simp only [List.mem_cons, List.not_mem_nil, or_false] at hq
    subst hq
    · exact B141_e63_2_blk fuel)) (B141_e63_0_ok fuel)
theorem fok141_e63 (fuel : Nat) : FnOK Try.prog 141 (evalFn tab (G141_e63 fuel) (J141_e63 fuel) kp141_e63 fuel Try.f141) :=
  fn_ok tab_ok (hG141_e63 fuel) mixed Try.func141 (c := (Try.f141.body).getD .skip) rfl (fun q hq => by
    rw [(by kernel_rfl : obl (J141_e63 fuel) ((Try.f141.body).getD .skip) = [(.block 0 (.loop (bodyOf 0 Try.f141)), B141_e63_0 fuel)])] at hq
    simp only [List.mem_cons, List.not_mem_nil, or_false] at hq
    subst hq
    · exact B141_e63_0_blk fuel)
noncomputable def mt141_e63 : List Ev.SV → List Ev.Ob → Bool := fun args objs => match args, objs with
  | [.c (.own q0), .c (.int .i64 _), .c (.int .i64 _), .c (.clo q1 [q2, q3])], [.vec q4 (.int .i64) _ false, .cells q5 [.int .i64 _], .cells q6 [.int .i64 _]] => Nat.beq q0 0 && Nat.beq q1 39 && Nat.beq q2 1 && Nat.beq q3 2 && Nat.beq q4 3 && Nat.beq q5 3 && Nat.beq q6 3
  | _, _ => false
noncomputable def spg141_e63 (F : YF141_e63) : Ev.Spec := fun args objs k => match args, objs with
  | [.c (.own q0), .c (.int .i64 x0), .c (.int .i64 x1), .c (.clo q1 [q2, q3])], [.vec q4 (.int .i64) x2 false, .cells q5 [.int .i64 x3], .cells q6 [.int .i64 x4]] => bif Nat.beq q0 0 && Nat.beq q1 39 && Nat.beq q2 1 && Nat.beq q3 2 && Nat.beq q4 3 && Nat.beq q5 3 && Nat.beq q6 3 then F x0 x1 x2 x3 x4 (fun r => match r with | (r0, r1, r2) => k (.tup [], [.vec 3 (.int .i64) r0 false, .cells 3 [.int .i64 r1], .cells 3 [.int .i64 r2]])) else none
  | _, _ => none
noncomputable def spec141_e63 (fuel : Nat) : Ev.Spec := spg141_e63 (F_slices_insertionSortCmpFunc_int_e63 fuel)
theorem ok141_e63 (fuel : Nat) : FnOK Try.prog 141 (spec141_e63 fuel) := by
  intro args objs kk r h
  unfold spec141_e63 spg141_e63 at h
  split at h
  · skip
    obtain ⟨hb, h⟩ := cond_some' h
    simp only [Bool.and_eq_true, Nat.beq_eq, decide_eq_true_eq] at hb
    obtain ⟨⟨⟨⟨⟨⟨rfl, rfl⟩, rfl⟩, rfl⟩, rfl⟩, rfl⟩, rfl⟩ := hb
    exact fok141_e63 fuel _ _ kk r ((F141_e63_eq fuel _ _ _ _ _ kk).trans h)
  · cases h
end Go.Proofs.Ytipdidpalcmlhaa

set_option linter.unusedVariables false
set_option linter.unusedSimpArgs false
set_option maxRecDepth 100000
set_option maxHeartbeats 2000000
namespace Go.Proofs.Ytipdidpalcmlhaa
open Go Ev
def kp185_ed8 (i : Nat) : Option (List Nat) := Ev.look i [(1, [0, 1, 2, 3, 10]), (100000, []), (400000, [])]
noncomputable def Gg185_ed8 (f : Nat) : Option Ev.Spec := Ev.look f []
noncomputable def G185_ed8 (fuel : Nat) : Nat → Option Ev.Spec := Gg185_ed8
noncomputable def S_slices_swapRangeCmpFunc_int_ed8_0 (fuel : Nat) (v : Int × Int × Int × Int × (List Int) × Int × Int) (c : (Int × Int × Int × Int × (List Int) × Int × Int) → Option Ans) (B : ((List Int) × Int × Int → Option Ans)) : Option Ans := match v, B with
  | (x0, x1, x2, x3, x4, x5, x6), b =>
   bif Decidable.decide (x3 < x2) then
      bif Decidable.decide ((0 : Int) ≤ Go.IntKind.i64.wrap (x1 + x3) ∧ Go.IntKind.i64.wrap (x1 + x3) < (↑x4.length : Int)) then
      bif Decidable.decide ((0 : Int) ≤ Go.IntKind.i64.wrap (x0 + x3) ∧ Go.IntKind.i64.wrap (x0 + x3) < (↑x4.length : Int)) then
       both (bif Decidable.decide ((0 : Int) ≤ Go.IntKind.i64.wrap (x0 + x3) ∧ Go.IntKind.i64.wrap (x0 + x3) < (↑x4.length : Int)) then
          bif Decidable.decide ((0 : Int) ≤ Go.IntKind.i64.wrap (x1 + x3) ∧ Go.IntKind.i64.wrap (x1 + x3) < (↑(x4.set (Go.IntKind.i64.wrap (x0 + x3)).toNat (x4.getD (Go.IntKind.i64.wrap (x1 + x3)).toNat (0 : Int))).length : Int)) then
           c (x0, x1, x2, Go.IntKind.i64.wrap (x3 + (1 : Int)), (x4.set (Go.IntKind.i64.wrap (x0 + x3)).toNat (x4.getD (Go.IntKind.i64.wrap (x1 + x3)).toNat (0 : Int))).set (Go.IntKind.i64.wrap (x1 + x3)).toNat (x4.getD (Go.IntKind.i64.wrap (x0 + x3)).toNat (0 : Int)), x5, x6)
           else none
          else none)
         (bif Decidable.decide ((0 : Int) ≤ Go.IntKind.i64.wrap (x0 + x3) ∧ Go.IntKind.i64.wrap (x0 + x3) < (↑x4.length : Int)) then
          bif Decidable.decide ((0 : Int) ≤ Go.IntKind.i64.wrap (x1 + x3) ∧ Go.IntKind.i64.wrap (x1 + x3) < (↑(x4.set (Go.IntKind.i64.wrap (x0 + x3)).toNat (x4.getD (Go.IntKind.i64.wrap (x1 + x3)).toNat (0 : Int))).length : Int)) then
           c (x0, x1, x2, Go.IntKind.i64.wrap (x3 + (1 : Int)), (x4.set (Go.IntKind.i64.wrap (x0 + x3)).toNat (x4.getD (Go.IntKind.i64.wrap (x1 + x3)).toNat (0 : Int))).set (Go.IntKind.i64.wrap (x1 + x3)).toNat (x4.getD (Go.IntKind.i64.wrap (x0 + x3)).toNat (0 : Int)), x5, x6)
           else none
          else none)
       else none
      else none
     else
      b (x4, x5, x6)
noncomputable def L_slices_swapRangeCmpFunc_int_ed8_0 (fuel : Nat) (v : Int × Int × Int × Int × (List Int) × Int × Int) (b : ((List Int) × Int × Int → Option Ans)) : Option Ans := iter (S_slices_swapRangeCmpFunc_int_ed8_0 fuel) fuel v b
noncomputable def J185_ed8_0 (fuel : Nat) (i : Nat) : Option Ev.Blk := Ev.look i []
noncomputable def T185_ed8_0 (v : Int × Int × Int × Int × (List Int) × Int × Int) : Ev.St := match v with | (x0, x1, x2, x3, x4, x5, x6) => ⟨[(0, .c (.own 0)), (1, .c (.int .i64 x0)), (2, .c (.int .i64 x1)), (3, .c (.int .i64 x2)), (10, .c (.int .i64 x3))], [(0, .vec 3 (.int .i64) x4 false), (1, .cells 3 [.int .i64 x5]), (2, .cells 3 [.int .i64 x6])], 3, 3⟩
noncomputable def E185_ed8_0 (K : Ev.Ex → Ev.St → Option Ans) : ((List Int) × Int × Int → Option Ans) := (fun v => match v with | (x0, x1, x2) => K .normal ⟨[], [(0, .vec 3 (.int .i64) x0 false), (1, .cells 3 [.int .i64 x1]), (2, .cells 3 [.int .i64 x2])], 3, 3⟩)
theorem S185_ed8_0_ok (fuel : Nat) (R : Ev.St → Option Ans) (K : Ev.Ex → Ev.St → Option Ans) (x0 : Int) (x1 : Int) (x2 : Int) (x3 : Int) (x4 : (List Int)) (x5 : Int) (x6 : Int) : evalCode tab (G185_ed8 fuel) (J185_ed8_0 fuel) kp185_ed8 fuel (bodyOf 0 Try.f185) (T185_ed8_0 (x0, x1, x2, x3, x4, x5, x6)) (lc kp185_ed8 1 0 R K) = S_slices_swapRangeCmpFunc_int_ed8_0 fuel (x0, x1, x2, x3, x4, x5, x6) (fun v => R (T185_ed8_0 v)) (E185_ed8_0 K) := by
  kernel_rfl
noncomputable def B185_ed8_0 (fuel : Nat) : Ev.Blk := fun st K => match canonO (kp185_ed8 1) st with
  | some s => (match s with
    | ⟨[(q0, .c (.own q1)), (q2, .c (.int .i64 x0)), (q3, .c (.int .i64 x1)), (q4, .c (.int .i64 x2)), (q5, .c (.int .i64 x3))], [(q6, .vec q7 (.int .i64) x4 false), (q8, .cells q9 [.int .i64 x5]), (q10, .cells q11 [.int .i64 x6])], q12, q13⟩ => bif Nat.beq q0 0 && Nat.beq q1 0 && Nat.beq q2 1 && Nat.beq q3 2 && Nat.beq q4 3 && Nat.beq q5 10 && Nat.beq q6 0 && Nat.beq q7 3 && Nat.beq q8 1 && Nat.beq q9 3 && Nat.beq q10 2 && Nat.beq q11 3 && Nat.beq q12 3 && Nat.beq q13 3 then iter (S_slices_swapRangeCmpFunc_int_ed8_0 fuel) fuel (x0, x1, x2, x3, x4, x5, x6) (E185_ed8_0 K) else none
    | _ => none)
  | none => none
theorem B185_ed8_0_ok (fuel : Nat) (st : Ev.St) (K : Ev.Ex → Ev.St → Option Ans) (r : Ans) (h : B185_ed8_0 fuel st K = some r) : evalCode tab (G185_ed8 fuel) (J185_ed8_0 fuel) kp185_ed8 fuel (.block 0 (.loop (bodyOf 0 Try.f185))) st K = some r := by
  unfold B185_ed8_0 at h
  split at h
  · rename_i s hs
    split at h
    · skip
      obtain ⟨hb, h⟩ := cond_some' h
      simp only [Bool.and_eq_true, Nat.beq_eq, decide_eq_true_eq] at hb
      obtain ⟨⟨⟨⟨⟨⟨⟨⟨⟨⟨⟨⟨⟨rfl, rfl⟩, rfl⟩, rfl⟩, rfl⟩, rfl⟩, rfl⟩, rfl⟩, rfl⟩, rfl⟩, rfl⟩, rfl⟩, rfl⟩, rfl⟩ := hb
      exact blk_loop (S := T185_ed8_0) (ks := E185_ed8_0) (step := S_slices_swapRangeCmpFunc_int_ed8_0 fuel) (v := (_, _, _, _, _, _, _)) (by kernel_rfl) (by kernel_rfl) (fun R K v => by obtain ⟨x0, x1, x2, x3, x4, x5, x6⟩ := v; exact S185_ed8_0_ok fuel R K x0 x1 x2 x3 x4 x5 x6) hs h
    · cases h
  · cases h
noncomputable def J185_ed8 (fuel : Nat) (i : Nat) : Option Ev.Blk := Ev.look i [(100000, B185_ed8_0 fuel)]
noncomputable def F_slices_swapRangeCmpFunc_int_ed8 (fuel : Nat) (x0 : Int) (x1 : Int) (x2 : Int) (x3 : (List Int)) (x4 : Int) (x5 : Int) (k0 : ((List Int) × Int × Int) → Option Ans) : Option Ans :=
  (L_slices_swapRangeCmpFunc_int_ed8_0 fuel (x0, x1, x2, (0 : Int), x3, x4, x5)
    (fun (b0_0, b0_1, b0_2) =>
      k0 (b0_0, b0_1, b0_2)))
abbrev YF185_ed8 : Type := (Int) → (Int) → (Int) → ((List Int)) → (Int) → (Int) → (((List Int) × Int × Int) → Option Ans) → Option Ans
theorem F185_ed8_eq (fuel : Nat) (x0 : Int) (x1 : Int) (x2 : Int) (x3 : (List Int)) (x4 : Int) (x5 : Int) (k : Ev.Cont) : evalFn tab (G185_ed8 fuel) (J185_ed8 fuel) kp185_ed8 fuel Try.f185 [.c (.own 0), .c (.int .i64 x0), .c (.int .i64 x1), .c (.int .i64 x2), .c (.clo 39 [1, 2])] [.vec 3 (.int .i64) x3 false, .cells 3 [.int .i64 x4], .cells 3 [.int .i64 x5]] k = F_slices_swapRangeCmpFunc_int_ed8 fuel x0 x1 x2 x3 x4 x5 (fun r => match r with | (r0, r1, r2) => k (.tup [], [.vec 3 (.int .i64) r0 false, .cells 3 [.int .i64 r1], .cells 3 [.int .i64 r2]])) := by
  kernel_rfl
theorem hG185_ed8 (fuel : Nat) : GOK Try.prog (G185_ed8 fuel) :=
  gok_nil
theorem B185_ed8_0_blk (fuel : Nat) : BlkOK Try.prog Try.f185.ntmps (.block 0 (.loop (bodyOf 0 Try.f185))) (B185_ed8_0 fuel) :=
  blk_of (blk_of_code tab_ok (hG185_ed8 fuel) mixed (J := J185_ed8_0 fuel) (kp := kp185_ed8) (fuel := fuel) (by kernel_rfl) (fun q hq => by
    rw [(by kernel_rfl : obl (J185_ed8_0 fuel) (.block 0 (.loop (bodyOf 0 Try.f185))) = [])] at hq
    cases hq)) (B185_ed8_0_ok fuel)
theorem fok185_ed8 (fuel : Nat) : FnOK Try.prog 185 (evalFn tab (G185_ed8 fuel) (J185_ed8 fuel) kp185_ed8 fuel Try.f185) :=
  fn_ok tab_ok (hG185_ed8 fuel) mixed Try.func185 (c := (Try.f185.body).getD .skip) rfl (fun q hq => by
    rw [(by kernel_rfl : obl (J185_ed8 fuel) ((Try.f185.body).getD .skip) = [(.block 0 (.loop (bodyOf 0 Try.f185)), B185_ed8_0 fuel)])] at hq
    simp only [List.mem_cons, List.not_mem_nil, or_false] at hq
    subst hq
    · exact B185_ed8_0_blk fuel)
noncomputable def mt185_ed8 : List Ev.SV → List Ev.Ob → Bool := fun args objs => match args, objs with
  | [.c (.own q0), .c (.int .i64 _), .c (.int .i64 _), .c (.int .i64 _), .c (.clo q1 [q2, q3])], [.vec q4 (.int .i64) _ false, .cells q5 [.int .i64 _], .cells q6 [.int .i64 _]] => Nat.beq q0 0 && Nat.beq q1 39 && Nat.beq q2 1 && Nat.beq q3 2 && Nat.beq q4 3 && Nat.beq q5 3 && Nat.beq q6 3
  | _, _ => false
noncomputable def spg185_ed8 (F : YF185_ed8) : Ev.Spec := fun args objs k => match args, objs with
  | [.c (.own q0), .c (.int .i64 x0), .c (.int .i64 x1), .c (.int .i64 x2), .c (.clo q1 [q2, q3])], [.vec q4 (.int .i64) x3 false, .cells q5 [.int .i64 x4], .cells q6 [.int .i64 x5]] => bif Nat.beq q0 0 && Nat.beq q1 39 && Nat.beq q2 1 && Nat.beq q3 2 && Nat.beq q4 3 && Nat.beq q5 3 && Nat.beq q6 3 then F x0 x1 x2 x3 x4 x5 (fun r => match r with | (r0, r1, r2) => k (.tup [], [.vec 3 (.int .i64) r0 false, .cells 3 [.int .i64 r1], .cells 3 [.int .i64 r2]])) else none
  | _, _ => none
noncomputable def spec185_ed8 (fuel : Nat) : Ev.Spec := spg185_ed8 (F_slices_swapRangeCmpFunc_int_ed8 fuel)
theorem ok185_ed8 (fuel : Nat) : FnOK Try.prog 185 (spec185_ed8 fuel) := by
  intro args objs kk r h
  unfold spec185_ed8 spg185_ed8 at h
  split at h
  · skip
    obtain ⟨hb, h⟩ := cond_some' h
    simp only [Bool.and_eq_true, Nat.beq_eq, decide_eq_true_eq] at hb
    obtain ⟨⟨⟨⟨⟨⟨rfl, rfl⟩, rfl⟩, rfl⟩, rfl⟩, rfl⟩, rfl⟩ := hb
    exact fok185_ed8 fuel _ _ kk r ((F185_ed8_eq fuel _ _ _ _ _ _ kk).trans h)
  · cases h
end Go.Proofs.Ytipdidpalcmlhaa

set_option linter.unusedVariables false
set_option linter.unusedSimpArgs false
set_option maxRecDepth 100000
set_option maxHeartbeats 2000000
namespace Go.Proofs.Ytipdidpalcmlhaa
open Go Ev
def kp174_ed8 (i : Nat) : Option (List Nat) := Ev.look i [(2, [0, 2, 4, 10, 11]), (100000, [0, 2, 4, 10]), (400000, [])]
noncomputable def Gg174_ed8 (f185_ed8 : YF185_ed8) (f : Nat) : Option Ev.Spec := Ev.look f [(1000185, spg185_ed8 f185_ed8)]
noncomputable def G174_ed8 (fuel : Nat) : Nat → Option Ev.Spec := Gg174_ed8 (F_slices_swapRangeCmpFunc_int_ed8 fuel)
noncomputable def S_slices_rotateCmpFunc_int_ed8_0 (fuel : Nat) (v : Int × Int × Int × (List Int) × Int × Int) (c : (Int × Int × Int × (List Int) × Int × Int) → Option Ans) (B : (Int × Int × (List Int) × Int × Int → Option Ans)) : Option Ans := match v, B with
  | (x0, x1, x2, x3, x4, x5), b =>
   bif x1 != x2 then
      bif Decidable.decide (x1 > x2) then
       (F_slices_swapRangeCmpFunc_int_ed8 fuel (Go.IntKind.i64.wrap (x0 - x1)) (x0) (x2) (x3) (x4) (x5)
         (fun (y4_0, y4_1, y4_2) =>
           c (x0, Go.IntKind.i64.wrap (x1 - x2), x2, y4_0, y4_1, y4_2)))
      else
       (F_slices_swapRangeCmpFunc_int_ed8 fuel (Go.IntKind.i64.wrap (x0 - x1)) (Go.IntKind.i64.wrap (Go.IntKind.i64.wrap (x0 + x2) - x1)) (x1) (x3) (x4) (x5)
         (fun (y4_0, y4_1, y4_2) =>
           c (x0, x1, Go.IntKind.i64.wrap (x2 - x1), y4_0, y4_1, y4_2)))
     else
      b (x0, x1, x3, x4, x5)
noncomputable def L_slices_rotateCmpFunc_int_ed8_0 (fuel : Nat) (v : Int × Int × Int × (List Int) × Int × Int) (b : (Int × Int × (List Int) × Int × Int → Option Ans)) : Option Ans := iter (S_slices_rotateCmpFunc_int_ed8_0 fuel) fuel v b
noncomputable def J174_ed8_0 (fuel : Nat) (i : Nat) : Option Ev.Blk := Ev.look i []
noncomputable def T174_ed8_0 (v : Int × Int × Int × (List Int) × Int × Int) : Ev.St := match v with | (x0, x1, x2, x3, x4, x5) => ⟨[(0, .c (.own 0)), (2, .c (.int .i64 x0)), (4, .c (.clo 39 [1, 2])), (10, .c (.int .i64 x1)), (11, .c (.int .i64 x2))], [(0, .vec 3 (.int .i64) x3 false), (1, .cells 3 [.int .i64 x4]), (2, .cells 3 [.int .i64 x5])], 3, 3⟩
noncomputable def E174_ed8_0 (K : Ev.Ex → Ev.St → Option Ans) : (Int × Int × (List Int) × Int × Int → Option Ans) := (fun v => match v with | (x0, x1, x2, x3, x4) => K .normal ⟨[(0, .c (.own 0)), (2, .c (.int .i64 x0)), (4, .c (.clo 39 [1, 2])), (10, .c (.int .i64 x1))], [(0, .vec 3 (.int .i64) x2 false), (1, .cells 3 [.int .i64 x3]), (2, .cells 3 [.int .i64 x4])], 3, 3⟩)
theorem S174_ed8_0_okg (fuel : Nat) (f185_ed8 : YF185_ed8) (R : Ev.St → Option Ans) (K : Ev.Ex → Ev.St → Option Ans) (x0 : Int) (x1 : Int) (x2 : Int) (x3 : (List Int)) (x4 : Int) (x5 : Int) : evalCode tab (Gg174_ed8 f185_ed8) (J174_ed8_0 fuel) kp174_ed8 fuel (bodyOf 0 Try.f174) (T174_ed8_0 (x0, x1, x2, x3, x4, x5)) (lc kp174_ed8 2 0 R K) = (fun (c : (Int × Int × Int × (List Int) × Int × Int) → Option Ans) (B : (Int × Int × (List Int) × Int × Int → Option Ans)) => match B with
  | b =>
   bif x1 != x2 then
      bif Decidable.decide (x1 > x2) then
       (f185_ed8 (Go.IntKind.i64.wrap (x0 - x1)) (x0) (x2) (x3) (x4) (x5)
         (fun (y4_0, y4_1, y4_2) =>
           c (x0, Go.IntKind.i64.wrap (x1 - x2), x2, y4_0, y4_1, y4_2)))
      else
       (f185_ed8 (Go.IntKind.i64.wrap (x0 - x1)) (Go.IntKind.i64.wrap (Go.IntKind.i64.wrap (x0 + x2) - x1)) (x1) (x3) (x4) (x5)
         (fun (y4_0, y4_1, y4_2) =>
           c (x0, x1, Go.IntKind.i64.wrap (x2 - x1), y4_0, y4_1, y4_2)))
     else
      b (x0, x1, x3, x4, x5)) (fun v => R (T174_ed8_0 v)) (E174_ed8_0 K) := by
  kernel_rfl
theorem S174_ed8_0_ok (fuel : Nat) (R : Ev.St → Option Ans) (K : Ev.Ex → Ev.St → Option Ans) (x0 : Int) (x1 : Int) (x2 : Int) (x3 : (List Int)) (x4 : Int) (x5 : Int) : evalCode tab (G174_ed8 fuel) (J174_ed8_0 fuel) kp174_ed8 fuel (bodyOf 0 Try.f174) (T174_ed8_0 (x0, x1, x2, x3, x4, x5)) (lc kp174_ed8 2 0 R K) = S_slices_rotateCmpFunc_int_ed8_0 fuel (x0, x1, x2, x3, x4, x5) (fun v => R (T174_ed8_0 v)) (E174_ed8_0 K) :=
  S174_ed8_0_okg fuel (F_slices_swapRangeCmpFunc_int_ed8 fuel) R K x0 x1 x2 x3 x4 x5
noncomputable def B174_ed8_0 (fuel : Nat) : Ev.Blk := fun st K => match canonO (kp174_ed8 2) st with
  | some s => (match s with
    | ⟨[(q0, .c (.own q1)), (q2, .c (.int .i64 x0)), (q3, .c (.clo q4 [q5, q6])), (q7, .c (.int .i64 x1)), (q8, .c (.int .i64 x2))], [(q9, .vec q10 (.int .i64) x3 false), (q11, .cells q12 [.int .i64 x4]), (q13, .cells q14 [.int .i64 x5])], q15, q16⟩ => bif Nat.beq q0 0 && Nat.beq q1 0 && Nat.beq q2 2 && Nat.beq q3 4 && Nat.beq q4 39 && Nat.beq q5 1 && Nat.beq q6 2 && Nat.beq q7 10 && Nat.beq q8 11 && Nat.beq q9 0 && Nat.beq q10 3 && Nat.beq q11 1 && Nat.beq q12 3 && Nat.beq q13 2 && Nat.beq q14 3 && Nat.beq q15 3 && Nat.beq q16 3 then iter (S_slices_rotateCmpFunc_int_ed8_0 fuel) fuel (x0, x1, x2, x3, x4, x5) (E174_ed8_0 K) else none
    | _ => none)
  | none => none
theorem B174_ed8_0_ok (fuel : Nat) (st : Ev.St) (K : Ev.Ex → Ev.St → Option Ans) (r : Ans) (h : B174_ed8_0 fuel st K = some r) : evalCode tab (G174_ed8 fuel) (J174_ed8_0 fuel) kp174_ed8 fuel (.block 0 (.loop (bodyOf 0 Try.f174))) st K = some r := by
  unfold B174_ed8_0 at h
  split at h
  · rename_i s hs
    split at h
    · skip
      obtain ⟨hb, h⟩ := cond_some' h
      simp only [Bool.and_eq_true, Nat.beq_eq, decide_eq_true_eq] at hb
      obtain ⟨⟨⟨⟨⟨⟨⟨⟨⟨⟨⟨⟨⟨⟨⟨⟨rfl, rfl⟩, rfl⟩, rfl⟩, rfl⟩, rfl⟩, rfl⟩, rfl⟩, rfl⟩, rfl⟩, rfl⟩, rfl⟩, rfl⟩, rfl⟩, rfl⟩, rfl⟩, rfl⟩ := hb
      exact blk_loop (S := T174_ed8_0) (ks := E174_ed8_0) (step := S_slices_rotateCmpFunc_int_ed8_0 fuel) (v := (_, _, _, _, _, _)) (by kernel_rfl) (by kernel_rfl) (fun R K v => by obtain ⟨x0, x1, x2, x3, x4, x5⟩ := v; exact S174_ed8_0_ok fuel R K x0 x1 x2 x3 x4 x5) hs h
    · cases h
  · cases h
noncomputable def J174_ed8 (fuel : Nat) (i : Nat) : Option Ev.Blk := Ev.look i [(100000, B174_ed8_0 fuel)]
noncomputable def F_slices_rotateCmpFunc_int_ed8 (fuel : Nat) (x0 : Int) (x1 : Int) (x2 : Int) (x3 : (List Int)) (x4 : Int) (x5 : Int) (k0 : ((List Int) × Int × Int) → Option Ans) : Option Ans :=
  (L_slices_rotateCmpFunc_int_ed8_0 fuel (x1, Go.IntKind.i64.wrap (x1 - x0), Go.IntKind.i64.wrap (x2 - x1), x3, x4, x5)
    (fun (b0_0, b0_1, b0_2, b0_3, b0_4) =>
      (F_slices_swapRangeCmpFunc_int_ed8 fuel (Go.IntKind.i64.wrap (b0_0 - b0_1)) (b0_0) (b0_1) (b0_2) (b0_3) (b0_4)
        (fun (y6_0, y6_1, y6_2) =>
          k0 (y6_0, y6_1, y6_2)))))
abbrev YF174_ed8 : Type := (Int) → (Int) → (Int) → ((List Int)) → (Int) → (Int) → (((List Int) × Int × Int) → Option Ans) → Option Ans
theorem F174_ed8_eqg (fuel : Nat) (f185_ed8 : YF185_ed8) (x0 : Int) (x1 : Int) (x2 : Int) (x3 : (List Int)) (x4 : Int) (x5 : Int) (k : Ev.Cont) : evalFn tab (Gg174_ed8 f185_ed8) (J174_ed8 fuel) kp174_ed8 fuel Try.f174 [.c (.own 0), .c (.int .i64 x0), .c (.int .i64 x1), .c (.int .i64 x2), .c (.clo 39 [1, 2])] [.vec 3 (.int .i64) x3 false, .cells 3 [.int .i64 x4], .cells 3 [.int .i64 x5]] k = (fun  (k0 : ((List Int) × Int × Int) → Option Ans) =>
  (L_slices_rotateCmpFunc_int_ed8_0 fuel (x1, Go.IntKind.i64.wrap (x1 - x0), Go.IntKind.i64.wrap (x2 - x1), x3, x4, x5)
    (fun (b0_0, b0_1, b0_2, b0_3, b0_4) =>
      (f185_ed8 (Go.IntKind.i64.wrap (b0_0 - b0_1)) (b0_0) (b0_1) (b0_2) (b0_3) (b0_4)
        (fun (y6_0, y6_1, y6_2) =>
          k0 (y6_0, y6_1, y6_2)))))) (fun r => match r with | (r0, r1, r2) => k (.tup [], [.vec 3 (.int .i64) r0 false, .cells 3 [.int .i64 r1], .cells 3 [.int .i64 r2]])) := by
  kernel_rfl
theorem F174_ed8_eq (fuel : Nat) (x0 : Int) (x1 : Int) (x2 : Int) (x3 : (List Int)) (x4 : Int) (x5 : Int) (k : Ev.Cont) : evalFn tab (G174_ed8 fuel) (J174_ed8 fuel) kp174_ed8 fuel Try.f174 [.c (.own 0), .c (.int .i64 x0), .c (.int .i64 x1), .c (.int .i64 x2), .c (.clo 39 [1, 2])] [.vec 3 (.int .i64) x3 false, .cells 3 [.int .i64 x4], .cells 3 [.int .i64 x5]] k = F_slices_rotateCmpFunc_int_ed8 fuel x0 x1 x2 x3 x4 x5 (fun r => match r with | (r0, r1, r2) => k (.tup [], [.vec 3 (.int .i64) r0 false, .cells 3 [.int .i64 r1], .cells 3 [.int .i64 r2]])) :=
  F174_ed8_eqg fuel (F_slices_swapRangeCmpFunc_int_ed8 fuel) x0 x1 x2 x3 x4 x5 k
theorem hG174_ed8 (fuel : Nat) : GOK Try.prog (G174_ed8 fuel) :=
  gok_cons ⟨ok185_ed8 fuel, enters_of Try.func185 (by kernel_rfl) rfl⟩ <|
  gok_nil
theorem B174_ed8_0_blk (fuel : Nat) : BlkOK Try.prog Try.f174.ntmps (.block 0 (.loop (bodyOf 0 Try.f174))) (B174_ed8_0 fuel) :=
  blk_of (blk_of_code tab_ok (hG174_ed8 fuel) mixed (J := J174_ed8_0 fuel) (kp := kp174_ed8) (fuel := fuel) (by kernel_rfl) (fun q hq => by
    rw [(by kernel_rfl : obl (J174_ed8_0 fuel) (.block 0 (.loop (bodyOf 0 Try.f174))) = [])] at hq
    cases hq)) (B174_ed8_0_ok fuel)
theorem fok174_ed8 (fuel : Nat) : FnOK Try.prog 174 (evalFn tab (G174_ed8 fuel) (J174_ed8 fuel) kp174_ed8 fuel Try.f174) :=
  fn_ok tab_ok (hG174_ed8 fuel) mixed Try.func174 (c := (Try.f174.body).getD .skip) rfl (fun q hq => by
    rw [(by kernel_rfl : obl (J174_ed8 fuel) ((Try.f174.body).getD .skip) = [(.block 0 (.loop (bodyOf 0 Try.f174)), B174_ed8_0 fuel)])] at hq
    simp only [List.mem_cons, List.not_mem_nil, or_false] at hq
    subst hq
    · exact B174_ed8_0_blk fuel)
noncomputable def mt174_ed8 : List Ev.SV → List Ev.Ob → Bool := fun args objs => match args, objs with
  | [.c (.own q0), .c (.int .i64 _), .c (.int .i64 _), .c (.int .i64 _), .c (.clo q1 [q2, q3])], [.vec q4 (.int .i64) _ false, .cells q5 [.int .i64 _], .cells q6 [.int .i64 _]] => Nat.beq q0 0 && Nat.beq q1 39 && Nat.beq q2 1 && Nat.beq q3 2 && Nat.beq q4 3 && Nat.beq q5 3 && Nat.beq q6 3
  | _, _ => false
noncomputable def spg174_ed8 (F : YF174_ed8) : Ev.Spec := fun args objs k => match args, objs with
  | [.c (.own q0), .c (.int .i64 x0), .c (.int .i64 x1), .c (.int .i64 x2), .c (.clo q1 [q2, q3])], [.vec q4 (.int .i64) x3 false, .cells q5 [.int .i64 x4], .cells q6 [.int .i64 x5]] => bif Nat.beq q0 0 && Nat.beq q1 39 && Nat.beq q2 1 && Nat.beq q3 2 && Nat.beq q4 3 && Nat.beq q5 3 && Nat.beq q6 3 then F x0 x1 x2 x3 x4 x5 (fun r => match r with | (r0, r1, r2) => k (.tup [], [.vec 3 (.int .i64) r0 false, .cells 3 [.int .i64 r1], .cells 3 [.int .i64 r2]])) else none
  | _, _ => none
noncomputable def spec174_ed8 (fuel : Nat) : Ev.Spec := spg174_ed8 (F_slices_rotateCmpFunc_int_ed8 fuel)
theorem ok174_ed8 (fuel : Nat) : FnOK Try.prog 174 (spec174_ed8 fuel) := by
  intro args objs kk r h
  unfold spec174_ed8 spg174_ed8 at h
  split at h
  · skip
    obtain ⟨hb, h⟩ := cond_some' h
    simp only [Bool.and_eq_true, Nat.beq_eq, decide_eq_true_eq] at hb
    obtain ⟨⟨⟨⟨⟨⟨rfl, rfl⟩, rfl⟩, rfl⟩, rfl⟩, rfl⟩, rfl⟩ := hb
    exact fok174_ed8 fuel _ _ kk r ((F174_ed8_eq fuel _ _ _ _ _ _ kk).trans h)
  · cases h
end Go.Proofs.Ytipdidpalcmlhaa

set_option linter.unusedVariables false
set_option linter.unusedSimpArgs false
set_option maxRecDepth 100000
set_option maxHeartbeats 2000000
namespace Go.Proofs.Ytipdidpalcmlhaa
open Go Ev
def kp142_ed8 (i : Nat) : Option (List Nat) := Ev.look i [(3, [0, 1, 4, 10, 11]), (9, [0, 10, 13]), (15, [0, 2, 4, 14, 15]), (21, [0, 14, 17]), (33, [0, 1, 2, 3, 4, 18, 19, 20, 21, 22]), (100000, [0, 1, 10]), (100002, []), (100004, [0, 2, 14]), (100006, []), (100008, [0, 1, 2, 3, 4, 18, 19, 20]), (200005, [0]), (200017, [0]), (200035, [0]), (400000, []), (400002, []), (400004, []), (400006, []), (400008, [])]
abbrev YF142_ed8 : Type := (Int) → (Int) → (Int) → ((List Int)) → (Int) → (Int) → (((List Int) × Int × Int) → Option Ans) → Option Ans
noncomputable def spg142_ed8 (F : YF142_ed8) : Ev.Spec := fun args objs k => match args, objs with
  | [.c (.own q0), .c (.int .i64 x0), .c (.int .i64 x1), .c (.int .i64 x2), .c (.clo q1 [q2, q3])], [.vec q4 (.int .i64) x3 false, .cells q5 [.int .i64 x4], .cells q6 [.int .i64 x5]] => bif Nat.beq q0 0 && Nat.beq q1 39 && Nat.beq q2 1 && Nat.beq q3 2 && Nat.beq q4 3 && Nat.beq q5 3 && Nat.beq q6 3 then F x0 x1 x2 x3 x4 x5 (fun r => match r with | (r0, r1, r2) => k (.tup [], [.vec 3 (.int .i64) r0 false, .cells 3 [.int .i64 r1], .cells 3 [.int .i64 r2]])) else none
  | _, _ => none
noncomputable def Gg142_ed8 (f39_b33 : YF39_b33) (f142_ed8 : YF142_ed8) (f174_ed8 : YF174_ed8) (f : Nat) : Option Ev.Spec := Ev.look f [(39, spg39_b33 f39_b33), (1000142, spg142_ed8 f142_ed8), (1000174, spg174_ed8 f174_ed8)]
noncomputable def G142_ed8 (fuel : Nat) (f142_ed8 : YF142_ed8) : Nat → Option Ev.Spec := Gg142_ed8 (F_tone_Screen_1_b33 fuel) f142_ed8 (F_slices_rotateCmpFunc_int_ed8 fuel)
noncomputable def S_slices_symMergeCmpFunc_int_ed8_0 (fuel : Nat) (v : Int × Int × Int × (List Int) × Int × Int) (c : (Int × Int × Int × (List Int) × Int × Int) → Option Ans) (B : (Int × Int × (List Int) × Int × Int → Option Ans)) : Option Ans := match v, B with
  | (x0, x1, x2, x3, x4, x5), b =>
   bif Decidable.decide (x1 < x2) then
      bif Decidable.decide ((0 : Int) ≤ Go.IntKind.i64.wrap (Ev.ishr Go.IntKind.u64 (Go.IntKind.u64.wrap (Go.IntKind.i64.wrap (x1 + x2))) (1 : Int)) ∧ Go.IntKind.i64.wrap (Ev.ishr Go.IntKind.u64 (Go.IntKind.u64.wrap (Go.IntKind.i64.wrap (x1 + x2))) (1 : Int)) < (↑x3.length : Int)) then
      bif Decidable.decide ((0 : Int) ≤ x0 ∧ x0 < (↑x3.length : Int)) then
       both ((F_tone_Screen_1_b33 fuel (x3.getD (Go.IntKind.i64.wrap (Ev.ishr Go.IntKind.u64 (Go.IntKind.u64.wrap (Go.IntKind.i64.wrap (x1 + x2))) (1 : Int))).toNat (0 : Int)) (x3.getD x0.toNat (0 : Int)) (x4) (x5)
            (fun (y7_0, y7_1, y7_2) =>
              bif Decidable.decide (y7_0 < (0 : Int)) then
               c (x0, Go.IntKind.i64.wrap (Go.IntKind.i64.wrap (Ev.ishr Go.IntKind.u64 (Go.IntKind.u64.wrap (Go.IntKind.i64.wrap (x1 + x2))) (1 : Int)) + (1 : Int)), x2, x3, y7_1, y7_2)
              else
               c (x0, x1, Go.IntKind.i64.wrap (Ev.ishr Go.IntKind.u64 (Go.IntKind.u64.wrap (Go.IntKind.i64.wrap (x1 + x2))) (1 : Int)), x3, y7_1, y7_2))))
         ((F_tone_Screen_1_b33 fuel (x3.getD (Go.IntKind.i64.wrap (Ev.ishr Go.IntKind.u64 (Go.IntKind.u64.wrap (Go.IntKind.i64.wrap (x1 + x2))) (1 : Int))).toNat (0 : Int)) (x3.getD x0.toNat (0 : Int)) (x4) (x5)
            (fun (y7_0, y7_1, y7_2) =>
              bif Decidable.decide (y7_0 < (0 : Int)) then
               c (x0, Go.IntKind.i64.wrap (Go.IntKind.i64.wrap (Ev.ishr Go.IntKind.u64 (Go.IntKind.u64.wrap (Go.IntKind.i64.wrap (x1 + x2))) (1 : Int)) + (1 : Int)), x2, x3, y7_1, y7_2)
              else
               c (x0, x1, Go.IntKind.i64.wrap (Ev.ishr Go.IntKind.u64 (Go.IntKind.u64.wrap (Go.IntKind.i64.wrap (x1 + x2))) (1 : Int)), x3, y7_1, y7_2))))
       else none
      else none
     else
      b (x0, x1, x3, x4, x5)
noncomputable def L_slices_symMergeCmpFunc_int_ed8_0 (fuel : Nat) (v : Int × Int × Int × (List Int) × Int × Int) (b : (Int × Int × (List Int) × Int × Int → Option Ans)) : Option Ans := iter (S_slices_symMergeCmpFunc_int_ed8_0 fuel) fuel v b
noncomputable def J142_ed8_0 (fuel : Nat) (i : Nat) : Option Ev.Blk := Ev.look i []
noncomputable def T142_ed8_0 (v : Int × Int × Int × (List Int) × Int × Int) : Ev.St := match v with | (x0, x1, x2, x3, x4, x5) => ⟨[(0, .c (.own 0)), (1, .c (.int .i64 x0)), (4, .c (.clo 39 [1, 2])), (10, .c (.int .i64 x1)), (11, .c (.int .i64 x2))], [(0, .vec 3 (.int .i64) x3 false), (1, .cells 3 [.int .i64 x4]), (2, .cells 3 [.int .i64 x5])], 3, 3⟩
noncomputable def E142_ed8_0 (K : Ev.Ex → Ev.St → Option Ans) : (Int × Int × (List Int) × Int × Int → Option Ans) := (fun v => match v with | (x0, x1, x2, x3, x4) => K .normal ⟨[(0, .c (.own 0)), (1, .c (.int .i64 x0)), (10, .c (.int .i64 x1))], [(0, .vec 3 (.int .i64) x2 false), (1, .cells 3 [.int .i64 x3]), (2, .cells 3 [.int .i64 x4])], 3, 3⟩)
theorem S142_ed8_0_okg (fuel : Nat) (f39_b33 : YF39_b33) (f142_ed8 : YF142_ed8) (f174_ed8 : YF174_ed8) (R : Ev.St → Option Ans) (K : Ev.Ex → Ev.St → Option Ans) (x0 : Int) (x1 : Int) (x2 : Int) (x3 : (List Int)) (x4 : Int) (x5 : Int) : evalCode tab (Gg142_ed8 f39_b33 f142_ed8 f174_ed8) (J142_ed8_0 fuel) kp142_ed8 fuel (bodyOf 0 Try.f142) (T142_ed8_0 (x0, x1, x2, x3, x4, x5)) (lc kp142_ed8 3 0 R K) = (fun (c : (Int × Int × Int × (List Int) × Int × Int) → Option Ans) (B : (Int × Int × (List Int) × Int × Int → Option Ans)) => match B with
  | b =>
   bif Decidable.decide (x1 < x2) then
      bif Decidable.decide ((0 : Int) ≤ Go.IntKind.i64.wrap (Ev.ishr Go.IntKind.u64 (Go.IntKind.u64.wrap (Go.IntKind.i64.wrap (x1 + x2))) (1 : Int)) ∧ Go.IntKind.i64.wrap (Ev.ishr Go.IntKind.u64 (Go.IntKind.u64.wrap (Go.IntKind.i64.wrap (x1 + x2))) (1 : Int)) < (↑x3.length : Int)) then
      bif Decidable.decide ((0 : Int) ≤ x0 ∧ x0 < (↑x3.length : Int)) then
       both ((f39_b33 (x3.getD (Go.IntKind.i64.wrap (Ev.ishr Go.IntKind.u64 (Go.IntKind.u64.wrap (Go.IntKind.i64.wrap (x1 + x2))) (1 : Int))).toNat (0 : Int)) (x3.getD x0.toNat (0 : Int)) (x4) (x5)
            (fun (y7_0, y7_1, y7_2) =>
              bif Decidable.decide (y7_0 < (0 : Int)) then
               c (x0, Go.IntKind.i64.wrap (Go.IntKind.i64.wrap (Ev.ishr Go.IntKind.u64 (Go.IntKind.u64.wrap (Go.IntKind.i64.wrap (x1 + x2))) (1 : Int)) + (1 : Int)), x2, x3, y7_1, y7_2)
              else
               c (x0, x1, Go.IntKind.i64.wrap (Ev.ishr Go.IntKind.u64 (Go.IntKind.u64.wrap (Go.IntKind.i64.wrap (x1 + x2))) (1 : Int)), x3, y7_1, y7_2))))
         ((f39_b33 (x3.getD (Go.IntKind.i64.wrap (Ev.ishr Go.IntKind.u64 (Go.IntKind.u64.wrap (Go.IntKind.i64.wrap (x1 + x2))) (1 : Int))).toNat (0 : Int)) (x3.getD x0.toNat (0 : Int)) (x4) (x5)
            (fun (y7_0, y7_1, y7_2) =>
              bif Decidable.decide (y7_0 < (0 : Int)) then
               c (x0, Go.IntKind.i64.wrap (Go.IntKind.i64.wrap (Ev.ishr Go.IntKind.u64 (Go.IntKind.u64.wrap (Go.IntKind.i64.wrap (x1 + x2))) (1 : Int)) + (1 : Int)), x2, x3, y7_1, y7_2)
              else
               c (x0, x1, Go.IntKind.i64.wrap (Ev.ishr Go.IntKind.u64 (Go.IntKind.u64.wrap (Go.IntKind.i64.wrap (x1 + x2))) (1 : Int)), x3, y7_1, y7_2))))
       else none
      else none
     else
      b (x0, x1, x3, x4, x5)) (fun v => R (T142_ed8_0 v)) (E142_ed8_0 K) := by
  kernel_rfl
theorem S142_ed8_0_ok (fuel : Nat) (f142_ed8 : YF142_ed8) (R : Ev.St → Option Ans) (K : Ev.Ex → Ev.St → Option Ans) (x0 : Int) (x1 : Int) (x2 : Int) (x3 : (List Int)) (x4 : Int) (x5 : Int) : evalCode tab (G142_ed8 fuel f142_ed8) (J142_ed8_0 fuel) kp142_ed8 fuel (bodyOf 0 Try.f142) (T142_ed8_0 (x0, x1, x2, x3, x4, x5)) (lc kp142_ed8 3 0 R K) = S_slices_symMergeCmpFunc_int_ed8_0 fuel (x0, x1, x2, x3, x4, x5) (fun v => R (T142_ed8_0 v)) (E142_ed8_0 K) :=
  S142_ed8_0_okg fuel (F_tone_Screen_1_b33 fuel) f142_ed8 (F_slices_rotateCmpFunc_int_ed8 fuel) R K x0 x1 x2 x3 x4 x5
noncomputable def B142_ed8_0 (fuel : Nat) : Ev.Blk := fun st K => match canonO (kp142_ed8 3) st with
  | some s => (match s with
    | ⟨[(q0, .c (.own q1)), (q2, .c (.int .i64 x0)), (q3, .c (.clo q4 [q5, q6])), (q7, .c (.int .i64 x1)), (q8, .c (.int .i64 x2))], [(q9, .vec q10 (.int .i64) x3 false), (q11, .cells q12 [.int .i64 x4]), (q13, .cells q14 [.int .i64 x5])], q15, q16⟩ => bif Nat.beq q0 0 && Nat.beq q1 0 && Nat.beq q2 1 && Nat.beq q3 4 && Nat.beq q4 39 && Nat.beq q5 1 && Nat.beq q6 2 && Nat.beq q7 10 && Nat.beq q8 11 && Nat.beq q9 0 && Nat.beq q10 3 && Nat.beq q11 1 && Nat.beq q12 3 && Nat.beq q13 2 && Nat.beq q14 3 && Nat.beq q15 3 && Nat.beq q16 3 then iter (S_slices_symMergeCmpFunc_int_ed8_0 fuel) fuel (x0, x1, x2, x3, x4, x5) (E142_ed8_0 K) else none
    | _ => none)
  | none => none
theorem B142_ed8_0_ok (fuel : Nat) (f142_ed8 : YF142_ed8) (st : Ev.St) (K : Ev.Ex → Ev.St → Option Ans) (r : Ans) (h : B142_ed8_0 fuel st K = some r) : evalCode tab (G142_ed8 fuel f142_ed8) (J142_ed8_0 fuel) kp142_ed8 fuel (.block 0 (.loop (bodyOf 0 Try.f142))) st K = some r := by
  unfold B142_ed8_0 at h
  split at h
  · rename_i s hs
    split at h
    · skip
      obtain ⟨hb, h⟩ := cond_some' h
      simp only [Bool.and_eq_true, Nat.beq_eq, decide_eq_true_eq] at hb
      obtain ⟨⟨⟨⟨⟨⟨⟨⟨⟨⟨⟨⟨⟨⟨⟨⟨rfl, rfl⟩, rfl⟩, rfl⟩, rfl⟩, rfl⟩, rfl⟩, rfl⟩, rfl⟩, rfl⟩, rfl⟩, rfl⟩, rfl⟩, rfl⟩, rfl⟩, rfl⟩, rfl⟩ := hb
      exact blk_loop (S := T142_ed8_0) (ks := E142_ed8_0) (step := S_slices_symMergeCmpFunc_int_ed8_0 fuel) (v := (_, _, _, _, _, _)) (by kernel_rfl) (by kernel_rfl) (fun R K v => by obtain ⟨x0, x1, x2, x3, x4, x5⟩ := v; exact S142_ed8_0_ok fuel f142_ed8 R K x0 x1 x2 x3 x4 x5) hs h
    · cases h
  · cases h
noncomputable def S_slices_symMergeCmpFunc_int_ed8_2 (fuel : Nat) (v : Int × Int × (List Int) × Int × Int) (c : (Int × Int × (List Int) × Int × Int) → Option Ans) (B : ((List Int) × Int × Int → Option Ans)) : Option Ans := match v, B with
  | (x0, x1, x2, x3, x4), b =>
   bif Decidable.decide (x1 < Go.IntKind.i64.wrap (x0 - (1 : Int))) then
      bif Decidable.decide ((0 : Int) ≤ Go.IntKind.i64.wrap (x1 + (1 : Int)) ∧ Go.IntKind.i64.wrap (x1 + (1 : Int)) < (↑x2.length : Int)) then
      bif Decidable.decide ((0 : Int) ≤ x1 ∧ x1 < (↑x2.length : Int)) then
       both (bif Decidable.decide ((0 : Int) ≤ x1 ∧ x1 < (↑x2.length : Int)) then
          bif Decidable.decide ((0 : Int) ≤ Go.IntKind.i64.wrap (x1 + (1 : Int)) ∧ Go.IntKind.i64.wrap (x1 + (1 : Int)) < (↑(x2.set x1.toNat (x2.getD (Go.IntKind.i64.wrap (x1 + (1 : Int))).toNat (0 : Int))).length : Int)) then
           c (x0, Go.IntKind.i64.wrap (x1 + (1 : Int)), (x2.set x1.toNat (x2.getD (Go.IntKind.i64.wrap (x1 + (1 : Int))).toNat (0 : Int))).set (Go.IntKind.i64.wrap (x1 + (1 : Int))).toNat (x2.getD x1.toNat (0 : Int)), x3, x4)
           else none
          else none)
         (bif Decidable.decide ((0 : Int) ≤ x1 ∧ x1 < (↑x2.length : Int)) then
          bif Decidable.decide ((0 : Int) ≤ Go.IntKind.i64.wrap (x1 + (1 : Int)) ∧ Go.IntKind.i64.wrap (x1 + (1 : Int)) < (↑(x2.set x1.toNat (x2.getD (Go.IntKind.i64.wrap (x1 + (1 : Int))).toNat (0 : Int))).length : Int)) then
           c (x0, Go.IntKind.i64.wrap (x1 + (1 : Int)), (x2.set x1.toNat (x2.getD (Go.IntKind.i64.wrap (x1 + (1 : Int))).toNat (0 : Int))).set (Go.IntKind.i64.wrap (x1 + (1 : Int))).toNat (x2.getD x1.toNat (0 : Int)), x3, x4)
           else none
          else none)
       else none
      else none
     else
      b (x2, x3, x4)
noncomputable def L_slices_symMergeCmpFunc_int_ed8_2 (fuel : Nat) (v : Int × Int × (List Int) × Int × Int) (b : ((List Int) × Int × Int → Option Ans)) : Option Ans := iter (S_slices_symMergeCmpFunc_int_ed8_2 fuel) fuel v b
noncomputable def J142_ed8_2 (fuel : Nat) (i : Nat) : Option Ev.Blk := Ev.look i [(100000, B142_ed8_0 fuel)]
noncomputable def T142_ed8_2 (v : Int × Int × (List Int) × Int × Int) : Ev.St := match v with | (x0, x1, x2, x3, x4) => ⟨[(0, .c (.own 0)), (10, .c (.int .i64 x0)), (13, .c (.int .i64 x1))], [(0, .vec 3 (.int .i64) x2 false), (1, .cells 3 [.int .i64 x3]), (2, .cells 3 [.int .i64 x4])], 3, 3⟩
noncomputable def E142_ed8_2 (K : Ev.Ex → Ev.St → Option Ans) : ((List Int) × Int × Int → Option Ans) := (fun v => match v with | (x0, x1, x2) => K .normal ⟨[], [(0, .vec 3 (.int .i64) x0 false), (1, .cells 3 [.int .i64 x1]), (2, .cells 3 [.int .i64 x2])], 3, 3⟩)
theorem S142_ed8_2_okg (fuel : Nat) (f39_b33 : YF39_b33) (f142_ed8 : YF142_ed8) (f174_ed8 : YF174_ed8) (R : Ev.St → Option Ans) (K : Ev.Ex → Ev.St → Option Ans) (x0 : Int) (x1 : Int) (x2 : (List Int)) (x3 : Int) (x4 : Int) : evalCode tab (Gg142_ed8 f39_b33 f142_ed8 f174_ed8) (J142_ed8_2 fuel) kp142_ed8 fuel (bodyOf 2 Try.f142) (T142_ed8_2 (x0, x1, x2, x3, x4)) (lc kp142_ed8 9 2 R K) = (fun (c : (Int × Int × (List Int) × Int × Int) → Option Ans) (B : ((List Int) × Int × Int → Option Ans)) => match B with
  | b =>
   bif Decidable.decide (x1 < Go.IntKind.i64.wrap (x0 - (1 : Int))) then
      bif Decidable.decide ((0 : Int) ≤ Go.IntKind.i64.wrap (x1 + (1 : Int)) ∧ Go.IntKind.i64.wrap (x1 + (1 : Int)) < (↑x2.length : Int)) then
      bif Decidable.decide ((0 : Int) ≤ x1 ∧ x1 < (↑x2.length : Int)) then
       both (bif Decidable.decide ((0 : Int) ≤ x1 ∧ x1 < (↑x2.length : Int)) then
          bif Decidable.decide ((0 : Int) ≤ Go.IntKind.i64.wrap (x1 + (1 : Int)) ∧ Go.IntKind.i64.wrap (x1 + (1 : Int)) < (↑(x2.set x1.toNat (x2.getD (Go.IntKind.i64.wrap (x1 + (1 : Int))).toNat (0 : Int))).length : Int)) then
           c (x0, Go.IntKind.i64.wrap (x1 + (1 : Int)), (x2.set x1.toNat (x2.getD (Go.IntKind.i64.wrap (x1 + (1 : Int))).toNat (0 : Int))).set (Go.IntKind.i64.wrap (x1 + (1 : Int))).toNat (x2.getD x1.toNat (0 : Int)), x3, x4)
           else none
          else none)
         (bif Decidable.decide ((0 : Int) ≤ x1 ∧ x1 < (↑x2.length : Int)) then
          bif Decidable.decide ((0 : Int) ≤ Go.IntKind.i64.wrap (x1 + (1 : Int)) ∧ Go.IntKind.i64.wrap (x1 + (1 : Int)) < (↑(x2.set x1.toNat (x2.getD (Go.IntKind.i64.wrap (x1 + (1 : Int))).toNat (0 : Int))).length : Int)) then
           c (x0, Go.IntKind.i64.wrap (x1 + (1 : Int)), (x2.set x1.toNat (x2.getD (Go.IntKind.i64.wrap (x1 + (1 : Int))).toNat (0 : Int))).set (Go.IntKind.i64.wrap (x1 + (1 : Int))).toNat (x2.getD x1.toNat (0 : Int)), x3, x4)
           else none
          else none)
       else none
      else none
     else
      b (x2, x3, x4)) (fun v => R (T142_ed8_2 v)) (E142_ed8_2 K) := by
  kernel_rfl
theorem S142_ed8_2_ok (fuel : Nat) (f142_ed8 : YF142_ed8) (R : Ev.St → Option Ans) (K : Ev.Ex → Ev.St → Option Ans) (x0 : Int) (x1 : Int) (x2 : (List Int)) (x3 : Int) (x4 : Int) : evalCode tab (G142_ed8 fuel f142_ed8) (J142_ed8_2 fuel) kp142_ed8 fuel (bodyOf 2 Try.f142) (T142_ed8_2 (x0, x1, x2, x3, x4)) (lc kp142_ed8 9 2 R K) = S_slices_symMergeCmpFunc_int_ed8_2 fuel (x0, x1, x2, x3, x4) (fun v => R (T142_ed8_2 v)) (E142_ed8_2 K) :=
  S142_ed8_2_okg fuel (F_tone_Screen_1_b33 fuel) f142_ed8 (F_slices_rotateCmpFunc_int_ed8 fuel) R K x0 x1 x2 x3 x4
noncomputable def B142_ed8_2 (fuel : Nat) : Ev.Blk := fun st K => match canonO (kp142_ed8 9) st with
  | some s => (match s with
    | ⟨[(q0, .c (.own q1)), (q2, .c (.int .i64 x0)), (q3, .c (.int .i64 x1))], [(q4, .vec q5 (.int .i64) x2 false), (q6, .cells q7 [.int .i64 x3]), (q8, .cells q9 [.int .i64 x4])], q10, q11⟩ => bif Nat.beq q0 0 && Nat.beq q1 0 && Nat.beq q2 10 && Nat.beq q3 13 && Nat.beq q4 0 && Nat.beq q5 3 && Nat.beq q6 1 && Nat.beq q7 3 && Nat.beq q8 2 && Nat.beq q9 3 && Nat.beq q10 3 && Nat.beq q11 3 then iter (S_slices_symMergeCmpFunc_int_ed8_2 fuel) fuel (x0, x1, x2, x3, x4) (E142_ed8_2 K) else none
    | _ => none)
  | none => none
theorem B142_ed8_2_ok (fuel : Nat) (f142_ed8 : YF142_ed8) (st : Ev.St) (K : Ev.Ex → Ev.St → Option Ans) (r : Ans) (h : B142_ed8_2 fuel st K = some r) : evalCode tab (G142_ed8 fuel f142_ed8) (J142_ed8_2 fuel) kp142_ed8 fuel (.block 2 (.loop (bodyOf 2 Try.f142))) st K = some r := by
  unfold B142_ed8_2 at h
  split at h
  · rename_i s hs
    split at h
    · skip
      obtain ⟨hb, h⟩ := cond_some' h
      simp only [Bool.and_eq_true, Nat.beq_eq, decide_eq_true_eq] at hb
      obtain ⟨⟨⟨⟨⟨⟨⟨⟨⟨⟨⟨rfl, rfl⟩, rfl⟩, rfl⟩, rfl⟩, rfl⟩, rfl⟩, rfl⟩, rfl⟩, rfl⟩, rfl⟩, rfl⟩ := hb
      exact blk_loop (S := T142_ed8_2) (ks := E142_ed8_2) (step := S_slices_symMergeCmpFunc_int_ed8_2 fuel) (v := (_, _, _, _, _)) (by kernel_rfl) (by kernel_rfl) (fun R K v => by obtain ⟨x0, x1, x2, x3, x4⟩ := v; exact S142_ed8_2_ok fuel f142_ed8 R K x0 x1 x2 x3 x4) hs h
    · cases h
  · cases h
noncomputable def S_slices_symMergeCmpFunc_int_ed8_4 (fuel : Nat) (v : Int × Int × Int × (List Int) × Int × Int) (c : (Int × Int × Int × (List Int) × Int × Int) → Option Ans) (B : (Int × Int × (List Int) × Int × Int → Option Ans)) : Option Ans := match v, B with
  | (x0, x1, x2, x3, x4, x5), b =>
   bif Decidable.decide (x1 < x2) then
      bif Decidable.decide ((0 : Int) ≤ x0 ∧ x0 < (↑x3.length : Int)) then
      bif Decidable.decide ((0 : Int) ≤ Go.IntKind.i64.wrap (Ev.ishr Go.IntKind.u64 (Go.IntKind.u64.wrap (Go.IntKind.i64.wrap (x1 + x2))) (1 : Int)) ∧ Go.IntKind.i64.wrap (Ev.ishr Go.IntKind.u64 (Go.IntKind.u64.wrap (Go.IntKind.i64.wrap (x1 + x2))) (1 : Int)) < (↑x3.length : Int)) then
       both ((F_tone_Screen_1_b33 fuel (x3.getD x0.toNat (0 : Int)) (x3.getD (Go.IntKind.i64.wrap (Ev.ishr Go.IntKind.u64 (Go.IntKind.u64.wrap (Go.IntKind.i64.wrap (x1 + x2))) (1 : Int))).toNat (0 : Int)) (x4) (x5)
            (fun (y7_0, y7_1, y7_2) =>
              bif !Decidable.decide (y7_0 < (0 : Int)) then
               c (x0, Go.IntKind.i64.wrap (Go.IntKind.i64.wrap (Ev.ishr Go.IntKind.u64 (Go.IntKind.u64.wrap (Go.IntKind.i64.wrap (x1 + x2))) (1 : Int)) + (1 : Int)), x2, x3, y7_1, y7_2)
              else
               c (x0, x1, Go.IntKind.i64.wrap (Ev.ishr Go.IntKind.u64 (Go.IntKind.u64.wrap (Go.IntKind.i64.wrap (x1 + x2))) (1 : Int)), x3, y7_1, y7_2))))
         ((F_tone_Screen_1_b33 fuel (x3.getD x0.toNat (0 : Int)) (x3.getD (Go.IntKind.i64.wrap (Ev.ishr Go.IntKind.u64 (Go.IntKind.u64.wrap (Go.IntKind.i64.wrap (x1 + x2))) (1 : Int))).toNat (0 : Int)) (x4) (x5)
            (fun (y7_0, y7_1, y7_2) =>
              bif !Decidable.decide (y7_0 < (0 : Int)) then
               c (x0, Go.IntKind.i64.wrap (Go.IntKind.i64.wrap (Ev.ishr Go.IntKind.u64 (Go.IntKind.u64.wrap (Go.IntKind.i64.wrap (x1 + x2))) (1 : Int)) + (1 : Int)), x2, x3, y7_1, y7_2)
              else
               c (x0, x1, Go.IntKind.i64.wrap (Ev.ishr Go.IntKind.u64 (Go.IntKind.u64.wrap (Go.IntKind.i64.wrap (x1 + x2))) (1 : Int)), x3, y7_1, y7_2))))
       else none
      else none
     else
      b (x0, x1, x3, x4, x5)
noncomputable def L_slices_symMergeCmpFunc_int_ed8_4 (fuel : Nat) (v : Int × Int × Int × (List Int) × Int × Int) (b : (Int × Int × (List Int) × Int × Int → Option Ans)) : Option Ans := iter (S_slices_symMergeCmpFunc_int_ed8_4 fuel) fuel v b
noncomputable def J142_ed8_4 (fuel : Nat) (i : Nat) : Option Ev.Blk := Ev.look i [(100000, B142_ed8_0 fuel), (100002, B142_ed8_2 fuel)]
noncomputable def T142_ed8_4 (v : Int × Int × Int × (List Int) × Int × Int) : Ev.St := match v with | (x0, x1, x2, x3, x4, x5) => ⟨[(0, .c (.own 0)), (2, .c (.int .i64 x0)), (4, .c (.clo 39 [1, 2])), (14, .c (.int .i64 x1)), (15, .c (.int .i64 x2))], [(0, .vec 3 (.int .i64) x3 false), (1, .cells 3 [.int .i64 x4]), (2, .cells 3 [.int .i64 x5])], 3, 3⟩
noncomputable def E142_ed8_4 (K : Ev.Ex → Ev.St → Option Ans) : (Int × Int × (List Int) × Int × Int → Option Ans) := (fun v => match v with | (x0, x1, x2, x3, x4) => K .normal ⟨[(0, .c (.own 0)), (2, .c (.int .i64 x0)), (14, .c (.int .i64 x1))], [(0, .vec 3 (.int .i64) x2 false), (1, .cells 3 [.int .i64 x3]), (2, .cells 3 [.int .i64 x4])], 3, 3⟩)
theorem S142_ed8_4_okg (fuel : Nat) (f39_b33 : YF39_b33) (f142_ed8 : YF142_ed8) (f174_ed8 : YF174_ed8) (R : Ev.St → Option Ans) (K : Ev.Ex → Ev.St → Option Ans) (x0 : Int) (x1 : Int) (x2 : Int) (x3 : (List Int)) (x4 : Int) (x5 : Int) : evalCode tab (Gg142_ed8 f39_b33 f142_ed8 f174_ed8) (J142_ed8_4 fuel) kp142_ed8 fuel (bodyOf 4 Try.f142) (T142_ed8_4 (x0, x1, x2, x3, x4, x5)) (lc kp142_ed8 15 4 R K) = (fun (c : (Int × Int × Int × (List Int) × Int × Int) → Option Ans) (B : (Int × Int × (List Int) × Int × Int → Option Ans)) => match B with
  | b =>
   bif Decidable.decide (x1 < x2) then
      bif Decidable.decide ((0 : Int) ≤ x0 ∧ x0 < (↑x3.length : Int)) then
      bif Decidable.decide ((0 : Int) ≤ Go.IntKind.i64.wrap (Ev.ishr Go.IntKind.u64 (Go.IntKind.u64.wrap (Go.IntKind.i64.wrap (x1 + x2))) (1 : Int)) ∧ Go.IntKind.i64.wrap (Ev.ishr Go.IntKind.u64 (Go.IntKind.u64.wrap (Go.IntKind.i64.wrap (x1 + x2))) (1 : Int)) < (↑x3.length : Int)) then
       both ((f39_b33 (x3.getD x0.toNat (0 : Int)) (x3.getD (Go.IntKind.i64.wrap (Ev.ishr Go.IntKind.u64 (Go.IntKind.u64.wrap (Go.IntKind.i64.wrap (x1 + x2))) (1 : Int))).toNat (0 : Int)) (x4) (x5)
            (fun (y7_0, y7_1, y7_2) =>
              bif !Decidable.decide (y7_0 < (0 : Int)) then
               c (x0, Go.IntKind.i64.wrap (Go.IntKind.i64.wrap (Ev.ishr Go.IntKind.u64 (Go.IntKind.u64.wrap (Go.IntKind.i64.wrap (x1 + x2))) (1 : Int)) + (1 : Int)), x2, x3, y7_1, y7_2)
              else
               c (x0, x1, Go.IntKind.i64.wrap (Ev.ishr Go.IntKind.u64 (Go.IntKind.u64.wrap (Go.IntKind.i64.wrap (x1 + x2))) (1 : Int)), x3, y7_1, y7_2))))
         ((f39_b33 (x3.getD x0.toNat (0 : Int)) (x3.getD (Go.IntKind.i64.wrap (Ev.ishr Go.IntKind.u64 (Go.IntKind.u64.wrap (Go.IntKind.i64.wrap (x1 + x2))) (1 : Int))).toNat (0 : Int)) (x4) (x5)
            (fun (y7_0, y7_1, y7_2) =>
              bif !Decidable.decide (y7_0 < (0 : Int)) then
               c (x0, Go.IntKind.i64.wrap (Go.IntKind.i64.wrap (Ev.ishr Go.IntKind.u64 (Go.IntKind.u64.wrap (Go.IntKind.i64.wrap (x1 + x2))) (1 : Int)) + (1 : Int)), x2, x3, y7_1, y7_2)
              else
               c (x0, x1, Go.IntKind.i64.wrap (Ev.ishr Go.IntKind.u64 (Go.IntKind.u64.wrap (Go.IntKind.i64.wrap (x1 + x2))) (1 : Int)), x3, y7_1, y7_2))))
       else none
      else none
     else
      b (x0, x1, x3, x4, x5)) (fun v => R (T142_ed8_4 v)) (E142_ed8_4 K) := by
  kernel_rfl
theorem S142_ed8_4_ok (fuel : Nat) (f142_ed8 : YF142_ed8) (R : Ev.St → Option Ans) (K : Ev.Ex → Ev.St → Option Ans) (x0 : Int) (x1 : Int) (x2 : Int) (x3 : (List Int)) (x4 : Int) (x5 : Int) : evalCode tab (G142_ed8 fuel f142_ed8) (J142_ed8_4 fuel) kp142_ed8 fuel (bodyOf 4 Try.f142) (T142_ed8_4 (x0, x1, x2, x3, x4, x5)) (lc kp142_ed8 15 4 R K) = S_slices_symMergeCmpFunc_int_ed8_4 fuel (x0, x1, x2, x3, x4, x5) (fun v => R (T142_ed8_4 v)) (E142_ed8_4 K) :=
  S142_ed8_4_okg fuel (F_tone_Screen_1_b33 fuel) f142_ed8 (F_slices_rotateCmpFunc_int_ed8 fuel) R K x0 x1 x2 x3 x4 x5
noncomputable def B142_ed8_4 (fuel : Nat) : Ev.Blk := fun st K => match canonO (kp142_ed8 15) st with
  | some s => (match s with
    | ⟨[(q0, .c (.own q1)), (q2, .c (.int .i64 x0)), (q3, .c (.clo q4 [q5, q6])), (q7, .c (.int .i64 x1)), (q8, .c (.int .i64 x2))], [(q9, .vec q10 (.int .i64) x3 false), (q11, .cells q12 [.int .i64 x4]), (q13, .cells q14 [.int .i64 x5])], q15, q16⟩ => bif Nat.beq q0 0 && Nat.beq q1 0 && Nat.beq q2 2 && Nat.beq q3 4 && Nat.beq q4 39 && Nat.beq q5 1 && Nat.beq q6 2 && Nat.beq q7 14 && Nat.beq q8 15 && Nat.beq q9 0 && Nat.beq q10 3 && Nat.beq q11 1 && Nat.beq q12 3 && Nat.beq q13 2 && Nat.beq q14 3 && Nat.beq q15 3 && Nat.beq q16 3 then iter (S_slices_symMergeCmpFunc_int_ed8_4 fuel) fuel (x0, x1, x2, x3, x4, x5) (E142_ed8_4 K) else none
    | _ => none)
  | none => none
theorem B142_ed8_4_ok (fuel : Nat) (f142_ed8 : YF142_ed8) (st : Ev.St) (K : Ev.Ex → Ev.St → Option Ans) (r : Ans) (h : B142_ed8_4 fuel st K = some r) : evalCode tab (G142_ed8 fuel f142_ed8) (J142_ed8_4 fuel) kp142_ed8 fuel (.block 4 (.loop (bodyOf 4 Try.f142))) st K = some r := by
  unfold B142_ed8_4 at h
  split at h
  · rename_i s hs
    split at h
    · skip
      obtain ⟨hb, h⟩ := cond_some' h
      simp only [Bool.and_eq_true, Nat.beq_eq, decide_eq_true_eq] at hb
      obtain ⟨⟨⟨⟨⟨⟨⟨⟨⟨⟨⟨⟨⟨⟨⟨⟨rfl, rfl⟩, rfl⟩, rfl⟩, rfl⟩, rfl⟩, rfl⟩, rfl⟩, rfl⟩, rfl⟩, rfl⟩, rfl⟩, rfl⟩, rfl⟩, rfl⟩, rfl⟩, rfl⟩ := hb
      exact blk_loop (S := T142_ed8_4) (ks := E142_ed8_4) (step := S_slices_symMergeCmpFunc_int_ed8_4 fuel) (v := (_, _, _, _, _, _)) (by kernel_rfl) (by kernel_rfl) (fun R K v => by obtain ⟨x0, x1, x2, x3, x4, x5⟩ := v; exact S142_ed8_4_ok fuel f142_ed8 R K x0 x1 x2 x3 x4 x5) hs h
    · cases h
  · cases h
noncomputable def S_slices_symMergeCmpFunc_int_ed8_6 (fuel : Nat) (v : Int × Int × (List Int) × Int × Int) (c : (Int × Int × (List Int) × Int × Int) → Option Ans) (B : ((List Int) × Int × Int → Option Ans)) : Option Ans := match v, B with
  | (x0, x1, x2, x3, x4), b =>
   bif Decidable.decide (x1 > x0) then
      bif Decidable.decide ((0 : Int) ≤ Go.IntKind.i64.wrap (x1 - (1 : Int)) ∧ Go.IntKind.i64.wrap (x1 - (1 : Int)) < (↑x2.length : Int)) then
      bif Decidable.decide ((0 : Int) ≤ x1 ∧ x1 < (↑x2.length : Int)) then
       both (bif Decidable.decide ((0 : Int) ≤ x1 ∧ x1 < (↑x2.length : Int)) then
          bif Decidable.decide ((0 : Int) ≤ Go.IntKind.i64.wrap (x1 - (1 : Int)) ∧ Go.IntKind.i64.wrap (x1 - (1 : Int)) < (↑(x2.set x1.toNat (x2.getD (Go.IntKind.i64.wrap (x1 - (1 : Int))).toNat (0 : Int))).length : Int)) then
           c (x0, Go.IntKind.i64.wrap (x1 - (1 : Int)), (x2.set x1.toNat (x2.getD (Go.IntKind.i64.wrap (x1 - (1 : Int))).toNat (0 : Int))).set (Go.IntKind.i64.wrap (x1 - (1 : Int))).toNat (x2.getD x1.toNat (0 : Int)), x3, x4)
           else none
          else none)
         (bif Decidable.decide ((0 : Int) ≤ x1 ∧ x1 < (↑x2.length : Int)) then
          bif Decidable.decide ((0 : Int) ≤ Go.IntKind.i64.wrap (x1 - (1 : Int)) ∧ Go.IntKind.i64.wrap (x1 - (1 : Int)) < (↑(x2.set x1.toNat (x2.getD (Go.IntKind.i64.wrap (x1 - (1 : Int))).toNat (0 : Int))).length : Int)) then
           c (x0, Go.IntKind.i64.wrap (x1 - (1 : Int)), (x2.set x1.toNat (x2.getD (Go.IntKind.i64.wrap (x1 - (1 : Int))).toNat (0 : Int))).set (Go.IntKind.i64.wrap (x1 - (1 : Int))).toNat (x2.getD x1.toNat (0 : Int)), x3, x4)
           else none
          else none)
       else none
      else none
     else
      b (x2, x3, x4)
noncomputable def L_slices_symMergeCmpFunc_int_ed8_6 (fuel : Nat) (v : Int × Int × (List Int) × Int × Int) (b : ((List Int) × Int × Int → Option Ans)) : Option Ans := iter (S_slices_symMergeCmpFunc_int_ed8_6 fuel) fuel v b
noncomputable def J142_ed8_6 (fuel : Nat) (i : Nat) : Option Ev.Blk := Ev.look i [(100000, B142_ed8_0 fuel), (100002, B142_ed8_2 fuel), (100004, B142_ed8_4 fuel)]
noncomputable def T142_ed8_6 (v : Int × Int × (List Int) × Int × Int) : Ev.St := match v with | (x0, x1, x2, x3, x4) => ⟨[(0, .c (.own 0)), (14, .c (.int .i64 x0)), (17, .c (.int .i64 x1))], [(0, .vec 3 (.int .i64) x2 false), (1, .cells 3 [.int .i64 x3]), (2, .cells 3 [.int .i64 x4])], 3, 3⟩
noncomputable def E142_ed8_6 (K : Ev.Ex → Ev.St → Option Ans) : ((List Int) × Int × Int → Option Ans) := (fun v => match v with | (x0, x1, x2) => K .normal ⟨[], [(0, .vec 3 (.int .i64) x0 false), (1, .cells 3 [.int .i64 x1]), (2, .cells 3 [.int .i64 x2])], 3, 3⟩)
theorem S142_ed8_6_okg (fuel : Nat) (f39_b33 : YF39_b33) (f142_ed8 : YF142_ed8) (f174_ed8 : YF174_ed8) (R : Ev.St → Option Ans) (K : Ev.Ex → Ev.St → Option Ans) (x0 : Int) (x1 : Int) (x2 : (List Int)) (x3 : Int) (x4 : Int) : evalCode tab (Gg142_ed8 f39_b33 f142_ed8 f174_ed8) (J142_ed8_6 fuel) kp142_ed8 fuel (bodyOf 6 Try.f142) (T142_ed8_6 (x0, x1, x2, x3, x4)) (lc kp142_ed8 21 6 R K) = (fun (c : (Int × Int × (List Int) × Int × Int) → Option Ans) (B : ((List Int) × Int × Int → Option Ans)) => match B with
  | b =>
   bif Decidable.decide (x1 > x0) then
      bif Decidable.decide ((0 : Int) ≤ Go.IntKind.i64.wrap (x1 - (1 : Int)) ∧ Go.IntKind.i64.wrap (x1 - (1 : Int)) < (↑x2.length : Int)) then
      bif Decidable.decide ((0 : Int) ≤ x1 ∧ x1 < (↑x2.length : Int)) then
       both (bif Decidable.decide ((0 : Int) ≤ x1 ∧ x1 < (↑x2.length : Int)) then
          bif Decidable.decide ((0 : Int) ≤ Go.IntKind.i64.wrap (x1 - (1 : Int)) ∧ Go.IntKind.i64.wrap (x1 - (1 : Int)) < (↑(x2.set x1.toNat (x2.getD (Go.IntKind.i64.wrap (x1 - (1 : Int))).toNat (0 : Int))).length : Int)) then
           c (x0, Go.IntKind.i64.wrap (x1 - (1 : Int)), (x2.set x1.toNat (x2.getD (Go.IntKind.i64.wrap (x1 - (1 : Int))).toNat (0 : Int))).set (Go.IntKind.i64.wrap (x1 - (1 : Int))).toNat (x2.getD x1.toNat (0 : Int)), x3, x4)
           else none
          else none)
         (bif Decidable.decide ((0 : Int) ≤ x1 ∧ x1 < (↑x2.length : Int)) then
          bif Decidable.decide ((0 : Int) ≤ Go.IntKind.i64.wrap (x1 - (1 : Int)) ∧ Go.IntKind.i64.wrap (x1 - (1 : Int)) < (↑(x2.set x1.toNat (x2.getD (Go.IntKind.i64.wrap (x1 - (1 : Int))).toNat (0 : Int))).length : Int)) then
           c (x0, Go.IntKind.i64.wrap (x1 - (1 : Int)), (x2.set x1.toNat (x2.getD (Go.IntKind.i64.wrap (x1 - (1 : Int))).toNat (0 : Int))).set (Go.IntKind.i64.wrap (x1 - (1 : Int))).toNat (x2.getD x1.toNat (0 : Int)), x3, x4)
           else none
          else none)
       else none
      else none
     else
      b (x2, x3, x4)) (fun v => R (T142_ed8_6 v)) (E142_ed8_6 K) := by
  kernel_rfl
theorem S142_ed8_6_ok (fuel : Nat) (f142_ed8 : YF142_ed8) (R : Ev.St → Option Ans) (K : Ev.Ex → Ev.St → Option Ans) (x0 : Int) (x1 : Int) (x2 : (List Int)) (x3 : Int) (x4 : Int) : evalCode tab (G142_ed8 fuel f142_ed8) (J142_ed8_6 fuel) kp142_ed8 fuel (bodyOf 6 Try.f142) (T142_ed8_6 (x0, x1, x2, x3, x4)) (lc kp142_ed8 21 6 R K) = S_slices_symMergeCmpFunc_int_ed8_6 fuel (x0, x1, x2, x3, x4) (fun v => R (T142_ed8_6 v)) (E142_ed8_6 K) :=
  S142_ed8_6_okg fuel (F_tone_Screen_1_b33 fuel) f142_ed8 (F_slices_rotateCmpFunc_int_ed8 fuel) R K x0 x1 x2 x3 x4
noncomputable def B142_ed8_6 (fuel : Nat) : Ev.Blk := fun st K => match canonO (kp142_ed8 21) st with
  | some s => (match s with
    | ⟨[(q0, .c (.own q1)), (q2, .c (.int .i64 x0)), (q3, .c (.int .i64 x1))], [(q4, .vec q5 (.int .i64) x2 false), (q6, .cells q7 [.int .i64 x3]), (q8, .cells q9 [.int .i64 x4])], q10, q11⟩ => bif Nat.beq q0 0 && Nat.beq q1 0 && Nat.beq q2 14 && Nat.beq q3 17 && Nat.beq q4 0 && Nat.beq q5 3 && Nat.beq q6 1 && Nat.beq q7 3 && Nat.beq q8 2 && Nat.beq q9 3 && Nat.beq q10 3 && Nat.beq q11 3 then iter (S_slices_symMergeCmpFunc_int_ed8_6 fuel) fuel (x0, x1, x2, x3, x4) (E142_ed8_6 K) else none
    | _ => none)
  | none => none
theorem B142_ed8_6_ok (fuel : Nat) (f142_ed8 : YF142_ed8) (st : Ev.St) (K : Ev.Ex → Ev.St → Option Ans) (r : Ans) (h : B142_ed8_6 fuel st K = some r) : evalCode tab (G142_ed8 fuel f142_ed8) (J142_ed8_6 fuel) kp142_ed8 fuel (.block 6 (.loop (bodyOf 6 Try.f142))) st K = some r := by
  unfold B142_ed8_6 at h
  split at h
  · rename_i s hs
    split at h
    · skip
      obtain ⟨hb, h⟩ := cond_some' h
      simp only [Bool.and_eq_true, Nat.beq_eq, decide_eq_true_eq] at hb
      obtain ⟨⟨⟨⟨⟨⟨⟨⟨⟨⟨⟨rfl, rfl⟩, rfl⟩, rfl⟩, rfl⟩, rfl⟩, rfl⟩, rfl⟩, rfl⟩, rfl⟩, rfl⟩, rfl⟩ := hb
      exact blk_loop (S := T142_ed8_6) (ks := E142_ed8_6) (step := S_slices_symMergeCmpFunc_int_ed8_6 fuel) (v := (_, _, _, _, _)) (by kernel_rfl) (by kernel_rfl) (fun R K v => by obtain ⟨x0, x1, x2, x3, x4⟩ := v; exact S142_ed8_6_ok fuel f142_ed8 R K x0 x1 x2 x3 x4) hs h
    · cases h
  · cases h
noncomputable def S_slices_symMergeCmpFunc_int_ed8_8 (fuel : Nat) (v : Int × Int × Int × Int × Int × Int × Int × Int × (List Int) × Int × Int) (c : (Int × Int × Int × Int × Int × Int × Int × Int × (List Int) × Int × Int) → Option Ans) (B : (Int × Int × Int × Int × Int × Int × (List Int) × Int × Int → Option Ans)) : Option Ans := match v, B with
  | (x0, x1, x2, x3, x4, x5, x6, x7, x8, x9, x10), b =>
   bif Decidable.decide (x5 < x6) then
      bif Decidable.decide ((0 : Int) ≤ Go.IntKind.i64.wrap (x7 - Go.IntKind.i64.wrap (Ev.ishr Go.IntKind.u64 (Go.IntKind.u64.wrap (Go.IntKind.i64.wrap (x5 + x6))) (1 : Int))) ∧ Go.IntKind.i64.wrap (x7 - Go.IntKind.i64.wrap (Ev.ishr Go.IntKind.u64 (Go.IntKind.u64.wrap (Go.IntKind.i64.wrap (x5 + x6))) (1 : Int))) < (↑x8.length : Int)) then
      bif Decidable.decide ((0 : Int) ≤ Go.IntKind.i64.wrap (Ev.ishr Go.IntKind.u64 (Go.IntKind.u64.wrap (Go.IntKind.i64.wrap (x5 + x6))) (1 : Int)) ∧ Go.IntKind.i64.wrap (Ev.ishr Go.IntKind.u64 (Go.IntKind.u64.wrap (Go.IntKind.i64.wrap (x5 + x6))) (1 : Int)) < (↑x8.length : Int)) then
       both ((F_tone_Screen_1_b33 fuel (x8.getD (Go.IntKind.i64.wrap (x7 - Go.IntKind.i64.wrap (Ev.ishr Go.IntKind.u64 (Go.IntKind.u64.wrap (Go.IntKind.i64.wrap (x5 + x6))) (1 : Int)))).toNat (0 : Int)) (x8.getD (Go.IntKind.i64.wrap (Ev.ishr Go.IntKind.u64 (Go.IntKind.u64.wrap (Go.IntKind.i64.wrap (x5 + x6))) (1 : Int))).toNat (0 : Int)) (x9) (x10)
            (fun (y7_0, y7_1, y7_2) =>
              bif !Decidable.decide (y7_0 < (0 : Int)) then
               c (x0, x1, x2, x3, x4, Go.IntKind.i64.wrap (Go.IntKind.i64.wrap (Ev.ishr Go.IntKind.u64 (Go.IntKind.u64.wrap (Go.IntKind.i64.wrap (x5 + x6))) (1 : Int)) + (1 : Int)), x6, x7, x8, y7_1, y7_2)
              else
               c (x0, x1, x2, x3, x4, x5, Go.IntKind.i64.wrap (Ev.ishr Go.IntKind.u64 (Go.IntKind.u64.wrap (Go.IntKind.i64.wrap (x5 + x6))) (1 : Int)), x7, x8, y7_1, y7_2))))
         ((F_tone_Screen_1_b33 fuel (x8.getD (Go.IntKind.i64.wrap (x7 - Go.IntKind.i64.wrap (Ev.ishr Go.IntKind.u64 (Go.IntKind.u64.wrap (Go.IntKind.i64.wrap (x5 + x6))) (1 : Int)))).toNat (0 : Int)) (x8.getD (Go.IntKind.i64.wrap (Ev.ishr Go.IntKind.u64 (Go.IntKind.u64.wrap (Go.IntKind.i64.wrap (x5 + x6))) (1 : Int))).toNat (0 : Int)) (x9) (x10)
            (fun (y7_0, y7_1, y7_2) =>
              bif !Decidable.decide (y7_0 < (0 : Int)) then
               c (x0, x1, x2, x3, x4, Go.IntKind.i64.wrap (Go.IntKind.i64.wrap (Ev.ishr Go.IntKind.u64 (Go.IntKind.u64.wrap (Go.IntKind.i64.wrap (x5 + x6))) (1 : Int)) + (1 : Int)), x6, x7, x8, y7_1, y7_2)
              else
               c (x0, x1, x2, x3, x4, x5, Go.IntKind.i64.wrap (Ev.ishr Go.IntKind.u64 (Go.IntKind.u64.wrap (Go.IntKind.i64.wrap (x5 + x6))) (1 : Int)), x7, x8, y7_1, y7_2))))
       else none
      else none
     else
      b (x0, x1, x2, x3, x4, x5, x8, x9, x10)
noncomputable def L_slices_symMergeCmpFunc_int_ed8_8 (fuel : Nat) (v : Int × Int × Int × Int × Int × Int × Int × Int × (List Int) × Int × Int) (b : (Int × Int × Int × Int × Int × Int × (List Int) × Int × Int → Option Ans)) : Option Ans := iter (S_slices_symMergeCmpFunc_int_ed8_8 fuel) fuel v b
noncomputable def J142_ed8_8 (fuel : Nat) (i : Nat) : Option Ev.Blk := Ev.look i [(100000, B142_ed8_0 fuel), (100002, B142_ed8_2 fuel), (100004, B142_ed8_4 fuel), (100006, B142_ed8_6 fuel)]
noncomputable def T142_ed8_8 (v : Int × Int × Int × Int × Int × Int × Int × Int × (List Int) × Int × Int) : Ev.St := match v with | (x0, x1, x2, x3, x4, x5, x6, x7, x8, x9, x10) => ⟨[(0, .c (.own 0)), (1, .c (.int .i64 x0)), (2, .c (.int .i64 x1)), (3, .c (.int .i64 x2)), (4, .c (.clo 39 [1, 2])), (18, .c (.int .i64 x3)), (19, .c (.int .i64 x4)), (20, .c (.int .i64 x5)), (21, .c (.int .i64 x6)), (22, .c (.int .i64 x7))], [(0, .vec 3 (.int .i64) x8 false), (1, .cells 3 [.int .i64 x9]), (2, .cells 3 [.int .i64 x10])], 3, 3⟩
noncomputable def E142_ed8_8 (K : Ev.Ex → Ev.St → Option Ans) : (Int × Int × Int × Int × Int × Int × (List Int) × Int × Int → Option Ans) := (fun v => match v with | (x0, x1, x2, x3, x4, x5, x6, x7, x8) => K .normal ⟨[(0, .c (.own 0)), (1, .c (.int .i64 x0)), (2, .c (.int .i64 x1)), (3, .c (.int .i64 x2)), (4, .c (.clo 39 [1, 2])), (18, .c (.int .i64 x3)), (19, .c (.int .i64 x4)), (20, .c (.int .i64 x5))], [(0, .vec 3 (.int .i64) x6 false), (1, .cells 3 [.int .i64 x7]), (2, .cells 3 [.int .i64 x8])], 3, 3⟩)
theorem S142_ed8_8_okg (fuel : Nat) (f39_b33 : YF39_b33) (f142_ed8 : YF142_ed8) (f174_ed8 : YF174_ed8) (R : Ev.St → Option Ans) (K : Ev.Ex → Ev.St → Option Ans) (x0 : Int) (x1 : Int) (x2 : Int) (x3 : Int) (x4 : Int) (x5 : Int) (x6 : Int) (x7 : Int) (x8 : (List Int)) (x9 : Int) (x10 : Int) : evalCode tab (Gg142_ed8 f39_b33 f142_ed8 f174_ed8) (J142_ed8_8 fuel) kp142_ed8 fuel (bodyOf 8 Try.f142) (T142_ed8_8 (x0, x1, x2, x3, x4, x5, x6, x7, x8, x9, x10)) (lc kp142_ed8 33 8 R K) = (fun (c : (Int × Int × Int × Int × Int × Int × Int × Int × (List Int) × Int × Int) → Option Ans) (B : (Int × Int × Int × Int × Int × Int × (List Int) × Int × Int → Option Ans)) => match B with
  | b =>
   bif Decidable.decide (x5 < x6) then
      bif Decidable.decide ((0 : Int) ≤ Go.IntKind.i64.wrap (x7 - Go.IntKind.i64.wrap (Ev.ishr Go.IntKind.u64 (Go.IntKind.u64.wrap (Go.IntKind.i64.wrap (x5 + x6))) (1 : Int))) ∧ Go.IntKind.i64.wrap (x7 - Go.IntKind.i64.wrap (Ev.ishr Go.IntKind.u64 (Go.IntKind.u64.wrap (Go.IntKind.i64.wrap (x5 + x6))) (1 : Int))) < (↑x8.length : Int)) then
      bif Decidable.decide ((0 : Int) ≤ Go.IntKind.i64.wrap (Ev.ishr Go.IntKind.u64 (Go.IntKind.u64.wrap (Go.IntKind.i64.wrap (x5 + x6))) (1 : Int)) ∧ Go.IntKind.i64.wrap (Ev.ishr Go.IntKind.u64 (Go.IntKind.u64.wrap (Go.IntKind.i64.wrap (x5 + x6))) (1 : Int)) < (↑x8.length : Int)) then
       both ((f39_b33 (x8.getD (Go.IntKind.i64.wrap (x7 - Go.IntKind.i64.wrap (Ev.ishr Go.IntKind.u64 (Go.IntKind.u64.wrap (Go.IntKind.i64.wrap (x5 + x6))) (1 : Int)))).toNat (0 : Int)) (x8.getD (Go.IntKind.i64.wrap (Ev.ishr Go.IntKind.u64 (Go.IntKind.u64.wrap (Go.IntKind.i64.wrap (x5 + x6))) (1 : Int))).toNat (0 : Int)) (x9) (x10)
            (fun (y7_0, y7_1, y7_2) =>
              bif !Decidable.decide (y7_0 < (0 : Int)) then
               c (x0, x1, x2, x3, x4, Go.IntKind.i64.wrap (Go.IntKind.i64.wrap (Ev.ishr Go.IntKind.u64 (Go.IntKind.u64.wrap (Go.IntKind.i64.wrap (x5 + x6))) (1 : Int)) + (1 : Int)), x6, x7, x8, y7_1, y7_2)
              else
               c (x0, x1, x2, x3, x4, x5, Go.IntKind.i64.wrap (Ev.ishr Go.IntKind.u64 (Go.IntKind.u64.wrap (Go.IntKind.i64.wrap (x5 + x6))) (1 : Int)), x7, x8, y7_1, y7_2))))
         ((f39_b33 (x8.getD (Go.IntKind.i64.wrap (x7 - Go.IntKind.i64.wrap (Ev.ishr Go.IntKind.u64 (Go.IntKind.u64.wrap (Go.IntKind.i64.wrap (x5 + x6))) (1 : Int)))).toNat (0 : Int)) (x8.getD (Go.IntKind.i64.wrap (Ev.ishr Go.IntKind.u64 (Go.IntKind.u64.wrap (Go.IntKind.i64.wrap (x5 + x6))) (1 : Int))).toNat (0 : Int)) (x9) (x10)
            (fun (y7_0, y7_1, y7_2) =>
              bif !Decidable.decide (y7_0 < (0 : Int)) then
               c (x0, x1, x2, x3, x4, Go.IntKind.i64.wrap (Go.IntKind.i64.wrap (Ev.ishr Go.IntKind.u64 (Go.IntKind.u64.wrap (Go.IntKind.i64.wrap (x5 + x6))) (1 : Int)) + (1 : Int)), x6, x7, x8, y7_1, y7_2)
              else
               c (x0, x1, x2, x3, x4, x5, Go.IntKind.i64.wrap (Ev.ishr Go.IntKind.u64 (Go.IntKind.u64.wrap (Go.IntKind.i64.wrap (x5 + x6))) (1 : Int)), x7, x8, y7_1, y7_2))))
       else none
      else none
     else
      b (x0, x1, x2, x3, x4, x5, x8, x9, x10)) (fun v => R (T142_ed8_8 v)) (E142_ed8_8 K) := by
  kernel_rfl
theorem S142_ed8_8_ok (fuel : Nat) (f142_ed8 : YF142_ed8) (R : Ev.St → Option Ans) (K : Ev.Ex → Ev.St → Option Ans) (x0 : Int) (x1 : Int) (x2 : Int) (x3 : Int) (x4 : Int) (x5 : Int) (x6 : Int) (x7 : Int) (x8 : (List Int)) (x9 : Int) (x10 : Int) : evalCode tab (G142_ed8 fuel f142_ed8) (J142_ed8_8 fuel) kp142_ed8 fuel (bodyOf 8 Try.f142) (T142_ed8_8 (x0, x1, x2, x3, x4, x5, x6, x7, x8, x9, x10)) (lc kp142_ed8 33 8 R K) = S_slices_symMergeCmpFunc_int_ed8_8 fuel (x0, x1, x2, x3, x4, x5, x6, x7, x8, x9, x10) (fun v => R (T142_ed8_8 v)) (E142_ed8_8 K) :=
  S142_ed8_8_okg fuel (F_tone_Screen_1_b33 fuel) f142_ed8 (F_slices_rotateCmpFunc_int_ed8 fuel) R K x0 x1 x2 x3 x4 x5 x6 x7 x8 x9 x10
noncomputable def B142_ed8_8 (fuel : Nat) : Ev.Blk := fun st K => match canonO (kp142_ed8 33) st with
  | some s => (match s with
    | ⟨[(q0, .c (.own q1)), (q2, .c (.int .i64 x0)), (q3, .c (.int .i64 x1)), (q4, .c (.int .i64 x2)), (q5, .c (.clo q6 [q7, q8])), (q9, .c (.int .i64 x3)), (q10, .c (.int .i64 x4)), (q11, .c (.int .i64 x5)), (q12, .c (.int .i64 x6)), (q13, .c (.int .i64 x7))], [(q14, .vec q15 (.int .i64) x8 false), (q16, .cells q17 [.int .i64 x9]), (q18, .cells q19 [.int .i64 x10])], q20, q21⟩ => bif Nat.beq q0 0 && Nat.beq q1 0 && Nat.beq q2 1 && Nat.beq q3 2 && Nat.beq q4 3 && Nat.beq q5 4 && Nat.beq q6 39 && Nat.beq q7 1 && Nat.beq q8 2 && Nat.beq q9 18 && Nat.beq q10 19 && Nat.beq q11 20 && Nat.beq q12 21 && Nat.beq q13 22 && Nat.beq q14 0 && Nat.beq q15 3 && Nat.beq q16 1 && Nat.beq q17 3 && Nat.beq q18 2 && Nat.beq q19 3 && Nat.beq q20 3 && Nat.beq q21 3 then iter (S_slices_symMergeCmpFunc_int_ed8_8 fuel) fuel (x0, x1, x2, x3, x4, x5, x6, x7, x8, x9, x10) (E142_ed8_8 K) else none
    | _ => none)
  | none => none
theorem B142_ed8_8_ok (fuel : Nat) (f142_ed8 : YF142_ed8) (st : Ev.St) (K : Ev.Ex → Ev.St → Option Ans) (r : Ans) (h : B142_ed8_8 fuel st K = some r) : evalCode tab (G142_ed8 fuel f142_ed8) (J142_ed8_8 fuel) kp142_ed8 fuel (.block 8 (.loop (bodyOf 8 Try.f142))) st K = some r := by
  unfold B142_ed8_8 at h
  split at h
  · rename_i s hs
    split at h
    · skip
      obtain ⟨hb, h⟩ := cond_some' h
      simp only [Bool.and_eq_true, Nat.beq_eq, decide_eq_true_eq] at hb
      obtain ⟨⟨⟨⟨⟨⟨⟨⟨⟨⟨⟨⟨⟨⟨⟨⟨⟨⟨⟨⟨⟨rfl, rfl⟩, rfl⟩, rfl⟩, rfl⟩, rfl⟩, rfl⟩, rfl⟩, rfl⟩, rfl⟩, rfl⟩, rfl⟩, rfl⟩, rfl⟩, rfl⟩, rfl⟩, rfl⟩, rfl⟩, rfl⟩, rfl⟩, rfl⟩, rfl⟩ := hb
      exact blk_loop (S := T142_ed8_8) (ks := E142_ed8_8) (step := S_slices_symMergeCmpFunc_int_ed8_8 fuel) (v := (_, _, _, _, _, _, _, _, _, _, _)) (by kernel_rfl) (by kernel_rfl) (fun R K v => by obtain ⟨x0, x1, x2, x3, x4, x5, x6, x7, x8, x9, x10⟩ := v; exact S142_ed8_8_ok fuel f142_ed8 R K x0 x1 x2 x3 x4 x5 x6 x7 x8 x9 x10) hs h
    · cases h
  · cases h
noncomputable def J142_ed8 (fuel : Nat) (i : Nat) : Option Ev.Blk := Ev.look i [(100000, B142_ed8_0 fuel), (100002, B142_ed8_2 fuel), (100004, B142_ed8_4 fuel), (100006, B142_ed8_6 fuel), (100008, B142_ed8_8 fuel)]
noncomputable def Fb_slices_symMergeCmpFunc_int_ed8 (f142_ed8 : YF142_ed8) (fuel : Nat) (x0 : Int) (x1 : Int) (x2 : Int) (x3 : (List Int)) (x4 : Int) (x5 : Int) (k0 : ((List Int) × Int × Int) → Option Ans) : Option Ans :=
  bif Go.IntKind.i64.wrap (x1 - x0) == (1 : Int) then
   (L_slices_symMergeCmpFunc_int_ed8_0 fuel (x0, x1, x2, x3, x4, x5)
     (fun (b0_0, b0_1, b0_2, b0_3, b0_4) =>
       (L_slices_symMergeCmpFunc_int_ed8_2 fuel (b0_1, b0_0, b0_2, b0_3, b0_4)
         (fun (b2_0, b2_1, b2_2) =>
           k0 (b2_0, b2_1, b2_2)))))
  else
   bif Go.IntKind.i64.wrap (x2 - x1) == (1 : Int) then
    (L_slices_symMergeCmpFunc_int_ed8_4 fuel (x1, x0, x1, x3, x4, x5)
      (fun (b4_0, b4_1, b4_2, b4_3, b4_4) =>
        (L_slices_symMergeCmpFunc_int_ed8_6 fuel (b4_1, b4_0, b4_2, b4_3, b4_4)
          (fun (b6_0, b6_1, b6_2) =>
            k0 (b6_0, b6_1, b6_2)))))
   else
    bif Decidable.decide (x1 > Go.IntKind.i64.wrap (Ev.ishr Go.IntKind.u64 (Go.IntKind.u64.wrap (Go.IntKind.i64.wrap (x0 + x2))) (1 : Int))) then
     (L_slices_symMergeCmpFunc_int_ed8_8 fuel (x0, x1, x2, Go.IntKind.i64.wrap (Ev.ishr Go.IntKind.u64 (Go.IntKind.u64.wrap (Go.IntKind.i64.wrap (x0 + x2))) (1 : Int)), Go.IntKind.i64.wrap (Go.IntKind.i64.wrap (Ev.ishr Go.IntKind.u64 (Go.IntKind.u64.wrap (Go.IntKind.i64.wrap (x0 + x2))) (1 : Int)) + x1), Go.IntKind.i64.wrap (Go.IntKind.i64.wrap (Go.IntKind.i64.wrap (Ev.ishr Go.IntKind.u64 (Go.IntKind.u64.wrap (Go.IntKind.i64.wrap (x0 + x2))) (1 : Int)) + x1) - x2), Go.IntKind.i64.wrap (Ev.ishr Go.IntKind.u64 (Go.IntKind.u64.wrap (Go.IntKind.i64.wrap (x0 + x2))) (1 : Int)), Go.IntKind.i64.wrap (Go.IntKind.i64.wrap (Go.IntKind.i64.wrap (Ev.ishr Go.IntKind.u64 (Go.IntKind.u64.wrap (Go.IntKind.i64.wrap (x0 + x2))) (1 : Int)) + x1) - (1 : Int)), x3, x4, x5)
       (fun (b8_0, b8_1, b8_2, b8_3, b8_4, b8_5, b8_6, b8_7, b8_8) =>
         bif Decidable.decide (b8_5 < b8_1) then
          bif Decidable.decide (b8_1 < Go.IntKind.i64.wrap (b8_4 - b8_5)) then
           (F_slices_rotateCmpFunc_int_ed8 fuel (b8_5) (b8_1) (Go.IntKind.i64.wrap (b8_4 - b8_5)) (b8_6) (b8_7) (b8_8)
             (fun (y11_0, y11_1, y11_2) =>
               bif Decidable.decide (b8_0 < b8_5) then
                bif Decidable.decide (b8_5 < b8_3) then
                 (f142_ed8 (b8_0) (b8_5) (b8_3) (y11_0) (y11_1) (y11_2)
                   (fun (y17_0, y17_1, y17_2) =>
                     bif Decidable.decide (b8_3 < Go.IntKind.i64.wrap (b8_4 - b8_5)) then
                      bif Decidable.decide (Go.IntKind.i64.wrap (b8_4 - b8_5) < b8_2) then
                       (f142_ed8 (b8_3) (Go.IntKind.i64.wrap (b8_4 - b8_5)) (b8_2) (y17_0) (y17_1) (y17_2)
                         (fun (y23_0, y23_1, y23_2) =>
                           k0 (y23_0, y23_1, y23_2)))
                      else
                       k0 (y17_0, y17_1, y17_2)
                     else
                      k0 (y17_0, y17_1, y17_2)))
                else
                 bif Decidable.decide (b8_3 < Go.IntKind.i64.wrap (b8_4 - b8_5)) then
                  bif Decidable.decide (Go.IntKind.i64.wrap (b8_4 - b8_5) < b8_2) then
                   (f142_ed8 (b8_3) (Go.IntKind.i64.wrap (b8_4 - b8_5)) (b8_2) (y11_0) (y11_1) (y11_2)
                     (fun (y19_0, y19_1, y19_2) =>
                       k0 (y19_0, y19_1, y19_2)))
                  else
                   k0 (y11_0, y11_1, y11_2)
                 else
                  k0 (y11_0, y11_1, y11_2)
               else
                bif Decidable.decide (b8_3 < Go.IntKind.i64.wrap (b8_4 - b8_5)) then
                 bif Decidable.decide (Go.IntKind.i64.wrap (b8_4 - b8_5) < b8_2) then
                  (f142_ed8 (b8_3) (Go.IntKind.i64.wrap (b8_4 - b8_5)) (b8_2) (y11_0) (y11_1) (y11_2)
                    (fun (y18_0, y18_1, y18_2) =>
                      k0 (y18_0, y18_1, y18_2)))
                 else
                  k0 (y11_0, y11_1, y11_2)
                else
                 k0 (y11_0, y11_1, y11_2)))
          else
           bif Decidable.decide (b8_0 < b8_5) then
            bif Decidable.decide (b8_5 < b8_3) then
             (f142_ed8 (b8_0) (b8_5) (b8_3) (b8_6) (b8_7) (b8_8)
               (fun (y13_0, y13_1, y13_2) =>
                 bif Decidable.decide (b8_3 < Go.IntKind.i64.wrap (b8_4 - b8_5)) then
                  bif Decidable.decide (Go.IntKind.i64.wrap (b8_4 - b8_5) < b8_2) then
                   (f142_ed8 (b8_3) (Go.IntKind.i64.wrap (b8_4 - b8_5)) (b8_2) (y13_0) (y13_1) (y13_2)
                     (fun (y19_0, y19_1, y19_2) =>
                       k0 (y19_0, y19_1, y19_2)))
                  else
                   k0 (y13_0, y13_1, y13_2)
                 else
                  k0 (y13_0, y13_1, y13_2)))
            else
             bif Decidable.decide (b8_3 < Go.IntKind.i64.wrap (b8_4 - b8_5)) then
              bif Decidable.decide (Go.IntKind.i64.wrap (b8_4 - b8_5) < b8_2) then
               (f142_ed8 (b8_3) (Go.IntKind.i64.wrap (b8_4 - b8_5)) (b8_2) (b8_6) (b8_7) (b8_8)
                 (fun (y15_0, y15_1, y15_2) =>
                   k0 (y15_0, y15_1, y15_2)))
              else
               k0 (b8_6, b8_7, b8_8)
             else
              k0 (b8_6, b8_7, b8_8)
           else
            bif Decidable.decide (b8_3 < Go.IntKind.i64.wrap (b8_4 - b8_5)) then
             bif Decidable.decide (Go.IntKind.i64.wrap (b8_4 - b8_5) < b8_2) then
              (f142_ed8 (b8_3) (Go.IntKind.i64.wrap (b8_4 - b8_5)) (b8_2) (b8_6) (b8_7) (b8_8)
                (fun (y14_0, y14_1, y14_2) =>
                  k0 (y14_0, y14_1, y14_2)))
             else
              k0 (b8_6, b8_7, b8_8)
            else
             k0 (b8_6, b8_7, b8_8)
         else
          bif Decidable.decide (b8_0 < b8_5) then
           bif Decidable.decide (b8_5 < b8_3) then
            (f142_ed8 (b8_0) (b8_5) (b8_3) (b8_6) (b8_7) (b8_8)
              (fun (y12_0, y12_1, y12_2) =>
                bif Decidable.decide (b8_3 < Go.IntKind.i64.wrap (b8_4 - b8_5)) then
                 bif Decidable.decide (Go.IntKind.i64.wrap (b8_4 - b8_5) < b8_2) then
                  (f142_ed8 (b8_3) (Go.IntKind.i64.wrap (b8_4 - b8_5)) (b8_2) (y12_0) (y12_1) (y12_2)
                    (fun (y18_0, y18_1, y18_2) =>
                      k0 (y18_0, y18_1, y18_2)))
                 else
                  k0 (y12_0, y12_1, y12_2)
                else
                 k0 (y12_0, y12_1, y12_2)))
           else
            bif Decidable.decide (b8_3 < Go.IntKind.i64.wrap (b8_4 - b8_5)) then
             bif Decidable.decide (Go.IntKind.i64.wrap (b8_4 - b8_5) < b8_2) then
              (f142_ed8 (b8_3) (Go.IntKind.i64.wrap (b8_4 - b8_5)) (b8_2) (b8_6) (b8_7) (b8_8)
                (fun (y14_0, y14_1, y14_2) =>
                  k0 (y14_0, y14_1, y14_2)))
             else
              k0 (b8_6, b8_7, b8_8)
            else
             k0 (b8_6, b8_7, b8_8)
          else
           bif Decidable.decide (b8_3 < Go.IntKind.i64.wrap (b8_4 - b8_5)) then
            bif Decidable.decide (Go.IntKind.i64.wrap (b8_4 - b8_5) < b8_2) then
             (f142_ed8 (b8_3) (Go.IntKind.i64.wrap (b8_4 - b8_5)) (b8_2) (b8_6) (b8_7) (b8_8)
               (fun (y13_0, y13_1, y13_2) =>
                 k0 (y13_0, y13_1, y13_2)))
            else
             k0 (b8_6, b8_7, b8_8)
           else
            k0 (b8_6, b8_7, b8_8)))
    else
     (L_slices_symMergeCmpFunc_int_ed8_8 fuel (x0, x1, x2, Go.IntKind.i64.wrap (Ev.ishr Go.IntKind.u64 (Go.IntKind.u64.wrap (Go.IntKind.i64.wrap (x0 + x2))) (1 : Int)), Go.IntKind.i64.wrap (Go.IntKind.i64.wrap (Ev.ishr Go.IntKind.u64 (Go.IntKind.u64.wrap (Go.IntKind.i64.wrap (x0 + x2))) (1 : Int)) + x1), x0, x1, Go.IntKind.i64.wrap (Go.IntKind.i64.wrap (Go.IntKind.i64.wrap (Ev.ishr Go.IntKind.u64 (Go.IntKind.u64.wrap (Go.IntKind.i64.wrap (x0 + x2))) (1 : Int)) + x1) - (1 : Int)), x3, x4, x5)
       (fun (b8_0, b8_1, b8_2, b8_3, b8_4, b8_5, b8_6, b8_7, b8_8) =>
         bif Decidable.decide (b8_5 < b8_1) then
          bif Decidable.decide (b8_1 < Go.IntKind.i64.wrap (b8_4 - b8_5)) then
           (F_slices_rotateCmpFunc_int_ed8 fuel (b8_5) (b8_1) (Go.IntKind.i64.wrap (b8_4 - b8_5)) (b8_6) (b8_7) (b8_8)
             (fun (y11_0, y11_1, y11_2) =>
               bif Decidable.decide (b8_0 < b8_5) then
                bif Decidable.decide (b8_5 < b8_3) then
                 (f142_ed8 (b8_0) (b8_5) (b8_3) (y11_0) (y11_1) (y11_2)
                   (fun (y17_0, y17_1, y17_2) =>
                     bif Decidable.decide (b8_3 < Go.IntKind.i64.wrap (b8_4 - b8_5)) then
                      bif Decidable.decide (Go.IntKind.i64.wrap (b8_4 - b8_5) < b8_2) then
                       (f142_ed8 (b8_3) (Go.IntKind.i64.wrap (b8_4 - b8_5)) (b8_2) (y17_0) (y17_1) (y17_2)
                         (fun (y23_0, y23_1, y23_2) =>
                           k0 (y23_0, y23_1, y23_2)))
                      else
                       k0 (y17_0, y17_1, y17_2)
                     else
                      k0 (y17_0, y17_1, y17_2)))
                else
                 bif Decidable.decide (b8_3 < Go.IntKind.i64.wrap (b8_4 - b8_5)) then
                  bif Decidable.decide (Go.IntKind.i64.wrap (b8_4 - b8_5) < b8_2) then
                   (f142_ed8 (b8_3) (Go.IntKind.i64.wrap (b8_4 - b8_5)) (b8_2) (y11_0) (y11_1) (y11_2)
                     (fun (y19_0, y19_1, y19_2) =>
                       k0 (y19_0, y19_1, y19_2)))
                  else
                   k0 (y11_0, y11_1, y11_2)
                 else
                  k0 (y11_0, y11_1, y11_2)
               else
                bif Decidable.decide (b8_3 < Go.IntKind.i64.wrap (b8_4 - b8_5)) then
                 bif Decidable.decide (Go.IntKind.i64.wrap (b8_4 - b8_5) < b8_2) then
                  (f142_ed8 (b8_3) (Go.IntKind.i64.wrap (b8_4 - b8_5)) (b8_2) (y11_0) (y11_1) (y11_2)
                    (fun (y18_0, y18_1, y18_2) =>
                      k0 (y18_0, y18_1, y18_2)))
                 else
                  k0 (y11_0, y11_1, y11_2)
                else
                 k0 (y11_0, y11_1, y11_2)))
          else
           bif Decidable.decide (b8_0 < b8_5) then
            bif Decidable.decide (b8_5 < b8_3) then
             (f142_ed8 (b8_0) (b8_5) (b8_3) (b8_6) (b8_7) (b8_8)
               (fun (y13_0, y13_1, y13_2) =>
                 bif Decidable.decide (b8_3 < Go.IntKind.i64.wrap (b8_4 - b8_5)) then
                  bif Decidable.decide (Go.IntKind.i64.wrap (b8_4 - b8_5) < b8_2) then
                   (f142_ed8 (b8_3) (Go.IntKind.i64.wrap (b8_4 - b8_5)) (b8_2) (y13_0) (y13_1) (y13_2)
                     (fun (y19_0, y19_1, y19_2) =>
                       k0 (y19_0, y19_1, y19_2)))
                  else
                   k0 (y13_0, y13_1, y13_2)
                 else
                  k0 (y13_0, y13_1, y13_2)))
            else
             bif Decidable.decide (b8_3 < Go.IntKind.i64.wrap (b8_4 - b8_5)) then
              bif Decidable.decide (Go.IntKind.i64.wrap (b8_4 - b8_5) < b8_2) then
               (f142_ed8 (b8_3) (Go.IntKind.i64.wrap (b8_4 - b8_5)) (b8_2) (b8_6) (b8_7) (b8_8)
                 (fun (y15_0, y15_1, y15_2) =>
                   k0 (y15_0, y15_1, y15_2)))
              else
               k0 (b8_6, b8_7, b8_8)
             else
              k0 (b8_6, b8_7, b8_8)
           else
            bif Decidable.decide (b8_3 < Go.IntKind.i64.wrap (b8_4 - b8_5)) then
             bif Decidable.decide (Go.IntKind.i64.wrap (b8_4 - b8_5) < b8_2) then
              (f142_ed8 (b8_3) (Go.IntKind.i64.wrap (b8_4 - b8_5)) (b8_2) (b8_6) (b8_7) (b8_8)
                (fun (y14_0, y14_1, y14_2) =>
                  k0 (y14_0, y14_1, y14_2)))
             else
              k0 (b8_6, b8_7, b8_8)
            else
             k0 (b8_6, b8_7, b8_8)
         else
          bif Decidable.decide (b8_0 < b8_5) then
           bif Decidable.decide (b8_5 < b8_3) then
            (f142_ed8 (b8_0) (b8_5) (b8_3) (b8_6) (b8_7) (b8_8)
              (fun (y12_0, y12_1, y12_2) =>
                bif Decidable.decide (b8_3 < Go.IntKind.i64.wrap (b8_4 - b8_5)) then
                 bif Decidable.decide (Go.IntKind.i64.wrap (b8_4 - b8_5) < b8_2) then
                  (f142_ed8 (b8_3) (Go.IntKind.i64.wrap (b8_4 - b8_5)) (b8_2) (y12_0) (y12_1) (y12_2)
                    (fun (y18_0, y18_1, y18_2) =>
                      k0 (y18_0, y18_1, y18_2)))
                 else
                  k0 (y12_0, y12_1, y12_2)
                else
                 k0 (y12_0, y12_1, y12_2)))
           else
            bif Decidable.decide (b8_3 < Go.IntKind.i64.wrap (b8_4 - b8_5)) then
             bif Decidable.decide (Go.IntKind.i64.wrap (b8_4 - b8_5) < b8_2) then
              (f142_ed8 (b8_3) (Go.IntKind.i64.wrap (b8_4 - b8_5)) (b8_2) (b8_6) (b8_7) (b8_8)
                (fun (y14_0, y14_1, y14_2) =>
                  k0 (y14_0, y14_1, y14_2)))
             else
              k0 (b8_6, b8_7, b8_8)
            else
             k0 (b8_6, b8_7, b8_8)
          else
           bif Decidable.decide (b8_3 < Go.IntKind.i64.wrap (b8_4 - b8_5)) then
            bif Decidable.decide (Go.IntKind.i64.wrap (b8_4 - b8_5) < b8_2) then
             (f142_ed8 (b8_3) (Go.IntKind.i64.wrap (b8_4 - b8_5)) (b8_2) (b8_6) (b8_7) (b8_8)
               (fun (y13_0, y13_1, y13_2) =>
                 k0 (y13_0, y13_1, y13_2)))
            else
             k0 (b8_6, b8_7, b8_8)
           else
            k0 (b8_6, b8_7, b8_8)))
noncomputable def Fr_slices_symMergeCmpFunc_int_ed8 (fuel : Nat) : Nat → YF142_ed8
  | 0 => fun _ _ _ _ _ _ _ => none
  | n + 1 => fun x0 x1 x2 x3 x4 x5 k0 => Fb_slices_symMergeCmpFunc_int_ed8 (Fr_slices_symMergeCmpFunc_int_ed8 fuel n) fuel x0 x1 x2 x3 x4 x5 k0
noncomputable def F_slices_symMergeCmpFunc_int_ed8 (fuel : Nat) (x0 : Int) (x1 : Int) (x2 : Int) (x3 : (List Int)) (x4 : Int) (x5 : Int) (k0 : ((List Int) × Int × Int) → Option Ans) : Option Ans := Fr_slices_symMergeCmpFunc_int_ed8 fuel fuel x0 x1 x2 x3 x4 x5 k0
theorem F142_ed8_eqg (fuel : Nat) (f39_b33 : YF39_b33) (f142_ed8 : YF142_ed8) (f174_ed8 : YF174_ed8) (x0 : Int) (x1 : Int) (x2 : Int) (x3 : (List Int)) (x4 : Int) (x5 : Int) (k : Ev.Cont) : evalFn tab (Gg142_ed8 f39_b33 f142_ed8 f174_ed8) (J142_ed8 fuel) kp142_ed8 fuel Try.f142 [.c (.own 0), .c (.int .i64 x0), .c (.int .i64 x1), .c (.int .i64 x2), .c (.clo 39 [1, 2])] [.vec 3 (.int .i64) x3 false, .cells 3 [.int .i64 x4], .cells 3 [.int .i64 x5]] k = (fun  (k0 : ((List Int) × Int × Int) → Option Ans) =>
  bif Go.IntKind.i64.wrap (x1 - x0) == (1 : Int) then
   (L_slices_symMergeCmpFunc_int_ed8_0 fuel (x0, x1, x2, x3, x4, x5)
     (fun (b0_0, b0_1, b0_2, b0_3, b0_4) =>
       (L_slices_symMergeCmpFunc_int_ed8_2 fuel (b0_1, b0_0, b0_2, b0_3, b0_4)
         (fun (b2_0, b2_1, b2_2) =>
           k0 (b2_0, b2_1, b2_2)))))
  else
   bif Go.IntKind.i64.wrap (x2 - x1) == (1 : Int) then
    (L_slices_symMergeCmpFunc_int_ed8_4 fuel (x1, x0, x1, x3, x4, x5)
      (fun (b4_0, b4_1, b4_2, b4_3, b4_4) =>
        (L_slices_symMergeCmpFunc_int_ed8_6 fuel (b4_1, b4_0, b4_2, b4_3, b4_4)
          (fun (b6_0, b6_1, b6_2) =>
            k0 (b6_0, b6_1, b6_2)))))
   else
    bif Decidable.decide (x1 > Go.IntKind.i64.wrap (Ev.ishr Go.IntKind.u64 (Go.IntKind.u64.wrap (Go.IntKind.i64.wrap (x0 + x2))) (1 : Int))) then
     (L_slices_symMergeCmpFunc_int_ed8_8 fuel (x0, x1, x2, Go.IntKind.i64.wrap (Ev.ishr Go.IntKind.u64 (Go.IntKind.u64.wrap (Go.IntKind.i64.wrap (x0 + x2))) (1 : Int)), Go.IntKind.i64.wrap (Go.IntKind.i64.wrap (Ev.ishr Go.IntKind.u64 (Go.IntKind.u64.wrap (Go.IntKind.i64.wrap (x0 + x2))) (1 : Int)) + x1), Go.IntKind.i64.wrap (Go.IntKind.i64.wrap (Go.IntKind.i64.wrap (Ev.ishr Go.IntKind.u64 (Go.IntKind.u64.wrap (Go.IntKind.i64.wrap (x0 + x2))) (1 : Int)) + x1) - x2), Go.IntKind.i64.wrap (Ev.ishr Go.IntKind.u64 (Go.IntKind.u64.wrap (Go.IntKind.i64.wrap (x0 + x2))) (1 : Int)), Go.IntKind.i64.wrap (Go.IntKind.i64.wrap (Go.IntKind.i64.wrap (Ev.ishr Go.IntKind.u64 (Go.IntKind.u64.wrap (Go.IntKind.i64.wrap (x0 + x2))) (1 : Int)) + x1) - (1 : Int)), x3, x4, x5)
       (fun (b8_0, b8_1, b8_2, b8_3, b8_4, b8_5, b8_6, b8_7, b8_8) =>
         bif Decidable.decide (b8_5 < b8_1) then
          bif Decidable.decide (b8_1 < Go.IntKind.i64.wrap (b8_4 - b8_5)) then
           (f174_ed8 (b8_5) (b8_1) (Go.IntKind.i64.wrap (b8_4 - b8_5)) (b8_6) (b8_7) (b8_8)
             (fun (y11_0, y11_1, y11_2) =>
               bif Decidable.decide (b8_0 < b8_5) then
                bif Decidable.decide (b8_5 < b8_3) then
                 (f142_ed8 (b8_0) (b8_5) (b8_3) (y11_0) (y11_1) (y11_2)
                   (fun (y17_0, y17_1, y17_2) =>
                     bif Decidable.decide (b8_3 < Go.IntKind.i64.wrap (b8_4 - b8_5)) then
                      bif Decidable.decide (Go.IntKind.i64.wrap (b8_4 - b8_5) < b8_2) then
                       (f142_ed8 (b8_3) (Go.IntKind.i64.wrap (b8_4 - b8_5)) (b8_2) (y17_0) (y17_1) (y17_2)
                         (fun (y23_0, y23_1, y23_2) =>
                           k0 (y23_0, y23_1, y23_2)))
                      else
                       k0 (y17_0, y17_1, y17_2)
                     else
                      k0 (y17_0, y17_1, y17_2)))
                else
                 bif Decidable.decide (b8_3 < Go.IntKind.i64.wrap (b8_4 - b8_5)) then
                  bif Decidable.decide (Go.IntKind.i64.wrap (b8_4 - b8_5) < b8_2) then
                   (f142_ed8 (b8_3) (Go.IntKind.i64.wrap (b8_4 - b8_5)) (b8_2) (y11_0) (y11_1) (y11_2)
                     (fun (y19_0, y19_1, y19_2) =>
                       k0 (y19_0, y19_1, y19_2)))
                  else
                   k0 (y11_0, y11_1, y11_2)
                 else
                  k0 (y11_0, y11_1, y11_2)
               else
                bif Decidable.decide (b8_3 < Go.IntKind.i64.wrap (b8_4 - b8_5)) then
                 bif Decidable.decide (Go.IntKind.i64.wrap (b8_4 - b8_5) < b8_2) then
                  (f142_ed8 (b8_3) (Go.IntKind.i64.wrap (b8_4 - b8_5)) (b8_2) (y11_0) (y11_1) (y11_2)
                    (fun (y18_0, y18_1, y18_2) =>
                      k0 (y18_0, y18_1, y18_2)))
                 else
                  k0 (y11_0, y11_1, y11_2)
                else
                 k0 (y11_0, y11_1, y11_2)))
          else
           bif Decidable.decide (b8_0 < b8_5) then
            bif Decidable.decide (b8_5 < b8_3) then
             (f142_ed8 (b8_0) (b8_5) (b8_3) (b8_6) (b8_7) (b8_8)
               (fun (y13_0, y13_1, y13_2) =>
                 bif Decidable.decide (b8_3 < Go.IntKind.i64.wrap (b8_4 - b8_5)) then
                  bif Decidable.decide (Go.IntKind.i64.wrap (b8_4 - b8_5) < b8_2) then
                   (f142_ed8 (b8_3) (Go.IntKind.i64.wrap (b8_4 - b8_5)) (b8_2) (y13_0) (y13_1) (y13_2)
                     (fun (y19_0, y19_1, y19_2) =>
                       k0 (y19_0, y19_1, y19_2)))
                  else
                   k0 (y13_0, y13_1, y13_2)
                 else
                  k0 (y13_0, y13_1, y13_2)))
            else
             bif Decidable.decide (b8_3 < Go.IntKind.i64.wrap (b8_4 - b8_5)) then
              bif Decidable.decide (Go.IntKind.i64.wrap (b8_4 - b8_5) < b8_2) then
               (f142_ed8 (b8_3) (Go.IntKind.i64.wrap (b8_4 - b8_5)) (b8_2) (b8_6) (b8_7) (b8_8)
                 (fun (y15_0, y15_1, y15_2) =>
                   k0 (y15_0, y15_1, y15_2)))
              else
               k0 (b8_6, b8_7, b8_8)
             else
              k0 (b8_6, b8_7, b8_8)
           else
            bif Decidable.decide (b8_3 < Go.IntKind.i64.wrap (b8_4 - b8_5)) then
             bif Decidable.decide (Go.IntKind.i64.wrap (b8_4 - b8_5) < b8_2) then
              (f142_ed8 (b8_3) (Go.IntKind.i64.wrap (b8_4 - b8_5)) (b8_2) (b8_6) (b8_7) (b8_8)
                (fun (y14_0, y14_1, y14_2) =>
                  k0 (y14_0, y14_1, y14_2)))
             else
              k0 (b8_6, b8_7, b8_8)
            else
             k0 (b8_6, b8_7, b8_8)
         else
          bif Decidable.decide (b8_0 < b8_5) then
           bif Decidable.decide (b8_5 < b8_3) then
            (f142_ed8 (b8_0) (b8_5) (b8_3) (b8_6) (b8_7) (b8_8)
              (fun (y12_0, y12_1, y12_2) =>
                bif Decidable.decide (b8_3 < Go.IntKind.i64.wrap (b8_4 - b8_5)) then
                 bif Decidable.decide (Go.IntKind.i64.wrap (b8_4 - b8_5) < b8_2) then
                  (f142_ed8 (b8_3) (Go.IntKind.i64.wrap (b8_4 - b8_5)) (b8_2) (y12_0) (y12_1) (y12_2)
                    (fun (y18_0, y18_1, y18_2) =>
                      k0 (y18_0, y18_1, y18_2)))
                 else
                  k0 (y12_0, y12_1, y12_2)
                else
                 k0 (y12_0, y12_1, y12_2)))
           else
            bif Decidable.decide (b8_3 < Go.IntKind.i64.wrap (b8_4 - b8_5)) then
             bif Decidable.decide (Go.IntKind.i64.wrap (b8_4 - b8_5) < b8_2) then
              (f142_ed8 (b8_3) (Go.IntKind.i64.wrap (b8_4 - b8_5)) (b8_2) (b8_6) (b8_7) (b8_8)
                (fun (y14_0, y14_1, y14_2) =>
                  k0 (y14_0, y14_1, y14_2)))
             else
              k0 (b8_6, b8_7, b8_8)
            else
             k0 (b8_6, b8_7, b8_8)
          else
           bif Decidable.decide (b8_3 < Go.IntKind.i64.wrap (b8_4 - b8_5)) then
            bif Decidable.decide (Go.IntKind.i64.wrap (b8_4 - b8_5) < b8_2) then
             (f142_ed8 (b8_3) (Go.IntKind.i64.wrap (b8_4 - b8_5)) (b8_2) (b8_6) (b8_7) (b8_8)
               (fun (y13_0, y13_1, y13_2) =>
                 k0 (y13_0, y13_1, y13_2)))
            else
             k0 (b8_6, b8_7, b8_8)
           else
            k0 (b8_6, b8_7, b8_8)))
    else
     (L_slices_symMergeCmpFunc_int_ed8_8 fuel (x0, x1, x2, Go.IntKind.i64.wrap (Ev.ishr Go.IntKind.u64 (Go.IntKind.u64.wrap (Go.IntKind.i64.wrap (x0 + x2))) (1 : Int)), Go.IntKind.i64.wrap (Go.IntKind.i64.wrap (Ev.ishr Go.IntKind.u64 (Go.IntKind.u64.wrap (Go.IntKind.i64.wrap (x0 + x2))) (1 : Int)) + x1), x0, x1, Go.IntKind.i64.wrap (Go.IntKind.i64.wrap (Go.IntKind.i64.wrap (Ev.ishr Go.IntKind.u64 (Go.IntKind.u64.wrap (Go.IntKind.i64.wrap (x0 + x2))) (1 : Int)) + x1) - (1 : Int)), x3, x4, x5)
       (fun (b8_0, b8_1, b8_2, b8_3, b8_4, b8_5, b8_6, b8_7, b8_8) =>
         bif Decidable.decide (b8_5 < b8_1) then
          bif Decidable.decide (b8_1 < Go.IntKind.i64.wrap (b8_4 - b8_5)) then
           (f174_ed8 (b8_5) (b8_1) (Go.IntKind.i64.wrap (b8_4 - b8_5)) (b8_6) (b8_7) (b8_8)
             (fun (y11_0, y11_1, y11_2) =>
               bif Decidable.decide (b8_0 < b8_5) then
                bif Decidable.decide (b8_5 < b8_3) then
                 (f142_ed8 (b8_0) (b8_5) (b8_3) (y11_0) (y11_1) (y11_2)
                   (fun (y17_0, y17_1, y17_2) =>
                     bif Decidable.decide (b8_3 < Go.IntKind.i64.wrap (b8_4 - b8_5)) then
                      bif Decidable.decide (Go.IntKind.i64.wrap (b8_4 - b8_5) < b8_2) then
                       (f142_ed8 (b8_3) (Go.IntKind.i64.wrap (b8_4 - b8_5)) (b8_2) (y17_0) (y17_1) (y17_2)
                         (fun (y23_0, y23_1, y23_2) =>
                           k0 (y23_0, y23_1, y23_2)))
                      else
                       k0 (y17_0, y17_1, y17_2)
                     else
                      k0 (y17_0, y17_1, y17_2)))
                else
                 bif Decidable.decide (b8_3 < Go.IntKind.i64.wrap (b8_4 - b8_5)) then
                  bif Decidable.decide (Go.IntKind.i64.wrap (b8_4 - b8_5) < b8_2) then
                   (f142_ed8 (b8_3) (Go.IntKind.i64.wrap (b8_4 - b8_5)) (b8_2) (y11_0) (y11_1) (y11_2)
                     (fun (y19_0, y19_1, y19_2) =>
                       k0 (y19_0, y19_1, y19_2)))
                  else
                   k0 (y11_0, y11_1, y11_2)
                 else
                  k0 (y11_0, y11_1, y11_2)
               else
                bif Decidable.decide (b8_3 < Go.IntKind.i64.wrap (b8_4 - b8_5)) then
                 bif Decidable.decide (Go.IntKind.i64.wrap (b8_4 - b8_5) < b8_2) then
                  (f142_ed8 (b8_3) (Go.IntKind.i64.wrap (b8_4 - b8_5)) (b8_2) (y11_0) (y11_1) (y11_2)
                    (fun (y18_0, y18_1, y18_2) =>
                      k0 (y18_0, y18_1, y18_2)))
                 else
                  k0 (y11_0, y11_1, y11_2)
                else
                 k0 (y11_0, y11_1, y11_2)))
          else
           bif Decidable.decide (b8_0 < b8_5) then
            bif Decidable.decide (b8_5 < b8_3) then
             (f142_ed8 (b8_0) (b8_5) (b8_3) (b8_6) (b8_7) (b8_8)
               (fun (y13_0, y13_1, y13_2) =>
                 bif Decidable.decide (b8_3 < Go.IntKind.i64.wrap (b8_4 - b8_5)) then
                  bif Decidable.decide (Go.IntKind.i64.wrap (b8_4 - b8_5) < b8_2) then
                   (f142_ed8 (b8_3) (Go.IntKind.i64.wrap (b8_4 - b8_5)) (b8_2) (y13_0) (y13_1) (y13_2)
                     (fun (y19_0, y19_1, y19_2) =>
                       k0 (y19_0, y19_1, y19_2)))
                  else
                   k0 (y13_0, y13_1, y13_2)
                 else
                  k0 (y13_0, y13_1, y13_2)))
            else
             bif Decidable.decide (b8_3 < Go.IntKind.i64.wrap (b8_4 - b8_5)) then
              bif Decidable.decide (Go.IntKind.i64.wrap (b8_4 - b8_5) < b8_2) then
               (f142_ed8 (b8_3) (Go.IntKind.i64.wrap (b8_4 - b8_5)) (b8_2) (b8_6) (b8_7) (b8_8)
                 (fun (y15_0, y15_1, y15_2) =>
                   k0 (y15_0, y15_1, y15_2)))
              else
               k0 (b8_6, b8_7, b8_8)
             else
              k0 (b8_6, b8_7, b8_8)
           else
            bif Decidable.decide (b8_3 < Go.IntKind.i64.wrap (b8_4 - b8_5)) then
             bif Decidable.decide (Go.IntKind.i64.wrap (b8_4 - b8_5) < b8_2) then
              (f142_ed8 (b8_3) (Go.IntKind.i64.wrap (b8_4 - b8_5)) (b8_2) (b8_6) (b8_7) (b8_8)
                (fun (y14_0, y14_1, y14_2) =>
                  k0 (y14_0, y14_1, y14_2)))
             else
              k0 (b8_6, b8_7, b8_8)
            else
             k0 (b8_6, b8_7, b8_8)
         else
          bif Decidable.decide (b8_0 < b8_5) then
           bif Decidable.decide (b8_5 < b8_3) then
            (f142_ed8 (b8_0) (b8_5) (b8_3) (b8_6) (b8_7) (b8_8)
              (fun (y12_0, y12_1, y12_2) =>
                bif Decidable.decide (b8_3 < Go.IntKind.i64.wrap (b8_4 - b8_5)) then
                 bif Decidable.decide (Go.IntKind.i64.wrap (b8_4 - b8_5) < b8_2) then
                  (f142_ed8 (b8_3) (Go.IntKind.i64.wrap (b8_4 - b8_5)) (b8_2) (y12_0) (y12_1) (y12_2)
                    (fun (y18_0, y18_1, y18_2) =>
                      k0 (y18_0, y18_1, y18_2)))
                 else
                  k0 (y12_0, y12_1, y12_2)
                else
                 k0 (y12_0, y12_1, y12_2)))
           else
            bif Decidable.decide (b8_3 < Go.IntKind.i64.wrap (b8_4 - b8_5)) then
             bif Decidable.decide (Go.IntKind.i64.wrap (b8_4 - b8_5) < b8_2) then
              (f142_ed8 (b8_3) (Go.IntKind.i64.wrap (b8_4 - b8_5)) (b8_2) (b8_6) (b8_7) (b8_8)
                (fun (y14_0, y14_1, y14_2) =>
                  k0 (y14_0, y14_1, y14_2)))
             else
              k0 (b8_6, b8_7, b8_8)
            else
             k0 (b8_6, b8_7, b8_8)
          else
           bif Decidable.decide (b8_3 < Go.IntKind.i64.wrap (b8_4 - b8_5)) then
            bif Decidable.decide (Go.IntKind.i64.wrap (b8_4 - b8_5) < b8_2) then
             (f142_ed8 (b8_3) (Go.IntKind.i64.wrap (b8_4 - b8_5)) (b8_2) (b8_6) (b8_7) (b8_8)
               (fun (y13_0, y13_1, y13_2) =>
                 k0 (y13_0, y13_1, y13_2)))
            else
             k0 (b8_6, b8_7, b8_8)
           else
            k0 (b8_6, b8_7, b8_8)))) (fun r => match r with | (r0, r1, r2) => k (.tup [], [.vec 3 (.int .i64) r0 false, .cells 3 [.int .i64 r1], .cells 3 [.int .i64 r2]])) := by
  kernel_rfl
theorem F142_ed8_eq (fuel : Nat) (f142_ed8 : YF142_ed8) (x0 : Int) (x1 : Int) (x2 : Int) (x3 : (List Int)) (x4 : Int) (x5 : Int) (k : Ev.Cont) : evalFn tab (G142_ed8 fuel f142_ed8) (J142_ed8 fuel) kp142_ed8 fuel Try.f142 [.c (.own 0), .c (.int .i64 x0), .c (.int .i64 x1), .c (.int .i64 x2), .c (.clo 39 [1, 2])] [.vec 3 (.int .i64) x3 false, .cells 3 [.int .i64 x4], .cells 3 [.int .i64 x5]] k = Fb_slices_symMergeCmpFunc_int_ed8 f142_ed8 fuel x0 x1 x2 x3 x4 x5 (fun r => match r with | (r0, r1, r2) => k (.tup [], [.vec 3 (.int .i64) r0 false, .cells 3 [.int .i64 r1], .cells 3 [.int .i64 r2]])) :=
  F142_ed8_eqg fuel (F_tone_Screen_1_b33 fuel) f142_ed8 (F_slices_rotateCmpFunc_int_ed8 fuel) x0 x1 x2 x3 x4 x5 k
theorem hG142_ed8 (fuel : Nat) (f142_ed8 : YF142_ed8) (hself : FnOK Try.prog 142 (spg142_ed8 f142_ed8)) : GOK Try.prog (G142_ed8 fuel f142_ed8) :=
  gok_cons ⟨ok39_b33 fuel, enters_of Try.func39 (by kernel_rfl) rfl⟩ <|
  gok_cons ⟨hself, enters_of Try.func142 (by kernel_rfl) rfl⟩ <|
  gok_cons ⟨ok174_ed8 fuel, enters_of Try.func174 (by kernel_rfl) rfl⟩ <|
  gok_nil
theorem B142_ed8_0_blk (fuel : Nat) (f142_ed8 : YF142_ed8) (hself : FnOK Try.prog 142 (spg142_ed8 f142_ed8)) : BlkOK Try.prog Try.f142.ntmps (.block 0 (.loop (bodyOf 0 Try.f142))) (B142_ed8_0 fuel) :=
  blk_of (blk_of_code tab_ok (hG142_ed8 fuel f142_ed8 hself) mixed (J := J142_ed8_0 fuel) (kp := kp142_ed8) (fuel := fuel) (by kernel_rfl) (fun q hq => by
    rw [(by kernel_rfl : obl (J142_ed8_0 fuel) (.block 0 (.loop (bodyOf 0 Try.f142))) = [])] at hq
    cases hq)) (B142_ed8_0_ok fuel f142_ed8)
theorem B142_ed8_2_blk (fuel : Nat) (f142_ed8 : YF142_ed8) (hself : FnOK Try.prog 142 (spg142_ed8 f142_ed8)) : BlkOK Try.prog Try.f142.ntmps (.block 2 (.loop (bodyOf 2 Try.f142))) (B142_ed8_2 fuel) :=
  blk_of (blk_of_code tab_ok (hG142_ed8 fuel f142_ed8 hself) mixed (J := J142_ed8_2 fuel) (kp := kp142_ed8) (fuel := fuel) (by kernel_rfl) (fun q hq => by
    rw [(by kernel_rfl : obl (J142_ed8_2 fuel) (.block 2 (.loop (bodyOf 2 Try.f142))) = [])] at hq
    cases hq)) (B142_ed8_2_ok fuel f142_ed8)
theorem B142_ed8_4_blk (fuel : Nat) (f142_ed8 : YF142_ed8) (hself : FnOK Try.prog 142 (spg142_ed8 f142_ed8)) : BlkOK Try.prog Try.f142.ntmps (.block 4 (.loop (bodyOf 4 Try.f142))) (B142_ed8_4 fuel) :=
  blk_of (blk_of_code tab_ok (hG142_ed8 fuel f142_ed8 hself) mixed (J := J142_ed8_4 fuel) (kp := kp142_ed8) (fuel := fuel) (by kernel_rfl) (fun q hq => by
    rw [(by kernel_rfl : obl (J142_ed8_4 fuel) (.block 4 (.loop (bodyOf 4 Try.f142))) = [])] at hq
    cases hq)) (B142_ed8_4_ok fuel f142_ed8)
theorem B142_ed8_6_blk (fuel : Nat) (f142_ed8 : YF142_ed8) (hself : FnOK Try.prog 142 (spg142_ed8 f142_ed8)) : BlkOK Try.prog Try.f142.ntmps (.block 6 (.loop (bodyOf 6 Try.f142))) (B142_ed8_6 fuel) :=
  blk_of (blk_of_code tab_ok (hG142_ed8 fuel f142_ed8 hself) mixed (J := J142_ed8_6 fuel) (kp := kp142_ed8) (fuel := fuel) (by kernel_rfl) (fun q hq => by
    rw [(by kernel_rfl : obl (J142_ed8_6 fuel) (.block 6 (.loop (bodyOf 6 Try.f142))) = [])] at hq
    cases hq)) (B142_ed8_6_ok fuel f142_ed8)
theorem B142_ed8_8_blk (fuel : Nat) (f142_ed8 : YF142_ed8) (hself : FnOK Try.prog 142 (spg142_ed8 f142_ed8)) : BlkOK Try.prog Try.f142.ntmps (.block 8 (.loop (bodyOf 8 Try.f142))) (B142_ed8_8 fuel) :=
  blk_of (blk_of_code tab_ok (hG142_ed8 fuel f142_ed8 hself) mixed (J := J142_ed8_8 fuel) (kp := kp142_ed8) (fuel := fuel) (by kernel_rfl) (fun q hq => by
    rw [(by kernel_rfl : obl (J142_ed8_8 fuel) (.block 8 (.loop (bodyOf 8 Try.f142))) = [])] at hq
    cases hq)) (B142_ed8_8_ok fuel f142_ed8)
theorem fok142_ed8 (fuel : Nat) (f142_ed8 : YF142_ed8) (hself : FnOK Try.prog 142 (spg142_ed8 f142_ed8)) : FnOK Try.prog 142 (evalFn tab (G142_ed8 fuel f142_ed8) (J142_ed8 fuel) kp142_ed8 fuel Try.f142) :=
  fn_ok tab_ok (hG142_ed8 fuel f142_ed8 hself) mixed Try.func142 (c := (Try.f142.body).getD .skip) rfl (fun q hq => by
    rw [(by kernel_rfl : obl (J142_ed8 fuel) ((Try.f142.body).getD .skip) = [(.block 0 (.loop (bodyOf 0 Try.f142)), B142_ed8_0 fuel), (.block 2 (.loop (bodyOf 2 Try.f142)), B142_ed8_2 fuel), (.block 4 (.loop (bodyOf 4 Try.f142)), B142_ed8_4 fuel), (.block 6 (.loop (bodyOf 6 Try.f142)), B142_ed8_6 fuel), (.block 8 (.loop (bodyOf 8 Try.f142)), B142_ed8_8 fuel)])] at hq
    simp only [List.mem_cons, List.not_mem_nil, or_false] at hq
    rcases hq with rfl | rfl | rfl | rfl | rfl
    · exact B142_ed8_0_blk fuel f142_ed8 hself
    · exact B142_ed8_2_blk fuel f142_ed8 hself
    · exact B142_ed8_4_blk fuel f142_ed8 hself
    · exact B142_ed8_6_blk fuel f142_ed8 hself
    · exact B142_ed8_8_blk fuel f142_ed8 hself)
noncomputable def mt142_ed8 : List Ev.SV → List Ev.Ob → Bool := fun args objs => match args, objs with
  | [.c (.own q0), .c (.int .i64 _), .c (.int .i64 _), .c (.int .i64 _), .c (.clo q1 [q2, q3])], [.vec q4 (.int .i64) _ false, .cells q5 [.int .i64 _], .cells q6 [.int .i64 _]] => Nat.beq q0 0 && Nat.beq q1 39 && Nat.beq q2 1 && Nat.beq q3 2 && Nat.beq q4 3 && Nat.beq q5 3 && Nat.beq q6 3
  | _, _ => false
noncomputable def spec142_ed8 (fuel : Nat) : Ev.Spec := spg142_ed8 (F_slices_symMergeCmpFunc_int_ed8 fuel)
theorem okr142_ed8 (fuel : Nat) : ∀ n : Nat, FnOK Try.prog 142 (spg142_ed8 (Fr_slices_symMergeCmpFunc_int_ed8 fuel n))
  | 0 => by
    intro args objs kk r h
    unfold spg142_ed8 at h
    split at h
    · skip
      obtain ⟨hb, h⟩ := cond_some' h
      cases h
    · cases h
  | n + 1 => by
    intro args objs kk r h
    unfold spg142_ed8 at h
    split at h
    · skip
      obtain ⟨hb, h⟩ := cond_some' h
      simp only [Bool.and_eq_true, Nat.beq_eq, decide_eq_true_eq] at hb
      obtain ⟨⟨⟨⟨⟨⟨rfl, rfl⟩, rfl⟩, rfl⟩, rfl⟩, rfl⟩, rfl⟩ := hb
      exact fok142_ed8 fuel (Fr_slices_symMergeCmpFunc_int_ed8 fuel n) (okr142_ed8 fuel n) _ _ kk r ((F142_ed8_eq fuel (Fr_slices_symMergeCmpFunc_int_ed8 fuel n) _ _ _ _ _ _ kk).trans h)
    · cases h
theorem ok142_ed8 (fuel : Nat) : FnOK Try.prog 142 (spec142_ed8 fuel) := okr142_ed8 fuel fuel
end Go.Proofs.Ytipdidpalcmlhaa

set_option linter.unusedVariables false
set_option linter.unusedSimpArgs false
set_option maxRecDepth 100000
set_option maxHeartbeats 2000000
namespace Go.Proofs.Ytipdidpalcmlhaa
open Go Ev
def kp87_a94 (i : Nat) : Option (List Nat) := Ev.look i [(2, [0, 1, 2, 6, 7, 8]), (7, [0, 1, 2, 6]), (9, [0, 1, 2, 6, 7, 8]), (100000, [0, 1, 2, 6, 7]), (100002, []), (100004, [0, 1, 2, 6, 7]), (400000, []), (400002, []), (400004, [])]
noncomputable def Gg87_a94 (f141_e63 : YF141_e63) (f142_ed8 : YF142_ed8) (f : Nat) : Option Ev.Spec := Ev.look f [(1000141, spg141_e63 f141_e63), (1000142, spg142_ed8 f142_ed8)]
noncomputable def G87_a94 (fuel : Nat) : Nat → Option Ev.Spec := Gg87_a94 (F_slices_insertionSortCmpFunc_int_e63 fuel) (F_slices_symMergeCmpFunc_int_ed8 fuel)
noncomputable def S_slices_stableCmpFunc_int_a94_0 (fuel : Nat) (v : Int × Int × Int × Int × (List Int) × Int × Int) (c : (Int × Int × Int × Int × (List Int) × Int × Int) → Option Ans) (B : (Int × Int × Int × (List Int) × Int × Int → Option Ans)) : Option Ans := match v, B with
  | (x0, x1, x2, x3, x4, x5, x6), b =>
   bif Decidable.decide (x3 ≤ x0) then
      (F_slices_insertionSortCmpFunc_int_e63 fuel (x2) (x3) (x4) (x5) (x6)
        (fun (y3_0, y3_1, y3_2) =>
          c (x0, x1, x3, Go.IntKind.i64.wrap (x3 + x1), y3_0, y3_1, y3_2)))
     else
      b (x0, x1, x2, x4, x5, x6)
noncomputable def L_slices_stableCmpFunc_int_a94_0 (fuel : Nat) (v : Int × Int × Int × Int × (List Int) × Int × Int) (b : (Int × Int × Int × (List Int) × Int × Int → Option Ans)) : Option Ans := iter (S_slices_stableCmpFunc_int_a94_0 fuel) fuel v b
noncomputable def J87_a94_0 (fuel : Nat) (i : Nat) : Option Ev.Blk := Ev.look i []
noncomputable def T87_a94_0 (v : Int × Int × Int × Int × (List Int) × Int × Int) : Ev.St := match v with | (x0, x1, x2, x3, x4, x5, x6) => ⟨[(0, .c (.own 0)), (1, .c (.int .i64 x0)), (2, .c (.clo 39 [1, 2])), (6, .c (.int .i64 x1)), (7, .c (.int .i64 x2)), (8, .c (.int .i64 x3))], [(0, .vec 3 (.int .i64) x4 false), (1, .cells 3 [.int .i64 x5]), (2, .cells 3 [.int .i64 x6])], 3, 3⟩
noncomputable def E87_a94_0 (K : Ev.Ex → Ev.St → Option Ans) : (Int × Int × Int × (List Int) × Int × Int → Option Ans) := (fun v => match v with | (x0, x1, x2, x3, x4, x5) => K .normal ⟨[(0, .c (.own 0)), (1, .c (.int .i64 x0)), (2, .c (.clo 39 [1, 2])), (6, .c (.int .i64 x1)), (7, .c (.int .i64 x2))], [(0, .vec 3 (.int .i64) x3 false), (1, .cells 3 [.int .i64 x4]), (2, .cells 3 [.int .i64 x5])], 3, 3⟩)
theorem S87_a94_0_okg (fuel : Nat) (f141_e63 : YF141_e63) (f142_ed8 : YF142_ed8) (R : Ev.St → Option Ans) (K : Ev.Ex → Ev.St → Option Ans) (x0 : Int) (x1 : Int) (x2 : Int) (x3 : Int) (x4 : (List Int)) (x5 : Int) (x6 : Int) : evalCode tab (Gg87_a94 f141_e63 f142_ed8) (J87_a94_0 fuel) kp87_a94 fuel (bodyOf 0 Try.f87) (T87_a94_0 (x0, x1, x2, x3, x4, x5, x6)) (lc kp87_a94 2 0 R K) = (fun (c : (Int × Int × Int × Int × (List Int) × Int × Int) → Option Ans) (B : (Int × Int × Int × (List Int) × Int × Int → Option Ans)) => match B with
  | b =>
   bif Decidable.decide (x3 ≤ x0) then
      (f141_e63 (x2) (x3) (x4) (x5) (x6)
        (fun (y3_0, y3_1, y3_2) =>
          c (x0, x1, x3, Go.IntKind.i64.wrap (x3 + x1), y3_0, y3_1, y3_2)))
     else
      b (x0, x1, x2, x4, x5, x6)) (fun v => R (T87_a94_0 v)) (E87_a94_0 K) := by
  kernel_rfl
theorem S87_a94_0_ok (fuel : Nat) (R : Ev.St → Option Ans) (K : Ev.Ex → Ev.St → Option Ans) (x0 : Int) (x1 : Int) (x2 : Int) (x3 : Int) (x4 : (List Int)) (x5 : Int) (x6 : Int) : evalCode tab (G87_a94 fuel) (J87_a94_0 fuel) kp87_a94 fuel (bodyOf 0 Try.f87) (T87_a94_0 (x0, x1, x2, x3, x4, x5, x6)) (lc kp87_a94 2 0 R K) = S_slices_stableCmpFunc_int_a94_0 fuel (x0, x1, x2, x3, x4, x5, x6) (fun v => R (T87_a94_0 v)) (E87_a94_0 K) :=
  S87_a94_0_okg fuel (F_slices_insertionSortCmpFunc_int_e63 fuel) (F_slices_symMergeCmpFunc_int_ed8 fuel) R K x0 x1 x2 x3 x4 x5 x6
noncomputable def B87_a94_0 (fuel : Nat) : Ev.Blk := fun st K => match canonO (kp87_a94 2) st with
  | some s => (match s with
    | ⟨[(q0, .c (.own q1)), (q2, .c (.int .i64 x0)), (q3, .c (.clo q4 [q5, q6])), (q7, .c (.int .i64 x1)), (q8, .c (.int .i64 x2)), (q9, .c (.int .i64 x3))], [(q10, .vec q11 (.int .i64) x4 false), (q12, .cells q13 [.int .i64 x5]), (q14, .cells q15 [.int .i64 x6])], q16, q17⟩ => bif Nat.beq q0 0 && Nat.beq q1 0 && Nat.beq q2 1 && Nat.beq q3 2 && Nat.beq q4 39 && Nat.beq q5 1 && Nat.beq q6 2 && Nat.beq q7 6 && Nat.beq q8 7 && Nat.beq q9 8 && Nat.beq q10 0 && Nat.beq q11 3 && Nat.beq q12 1 && Nat.beq q13 3 && Nat.beq q14 2 && Nat.beq q15 3 && Nat.beq q16 3 && Nat.beq q17 3 then iter (S_slices_stableCmpFunc_int_a94_0 fuel) fuel (x0, x1, x2, x3, x4, x5, x6) (E87_a94_0 K) else none
    | _ => none)
  | none => none
theorem B87_a94_0_ok (fuel : Nat) (st : Ev.St) (K : Ev.Ex → Ev.St → Option Ans) (r : Ans) (h : B87_a94_0 fuel st K = some r) : evalCode tab (G87_a94 fuel) (J87_a94_0 fuel) kp87_a94 fuel (.block 0 (.loop (bodyOf 0 Try.f87))) st K = some r := by
  unfold B87_a94_0 at h
  split at h
  · rename_i s hs
    split at h
    · skip
      obtain ⟨hb, h⟩ := cond_some' h
      simp only [Bool.and_eq_true, Nat.beq_eq, decide_eq_true_eq] at hb
      obtain ⟨⟨⟨⟨⟨⟨⟨⟨⟨⟨⟨⟨⟨⟨⟨⟨⟨rfl, rfl⟩, rfl⟩, rfl⟩, rfl⟩, rfl⟩, rfl⟩, rfl⟩, rfl⟩, rfl⟩, rfl⟩, rfl⟩, rfl⟩, rfl⟩, rfl⟩, rfl⟩, rfl⟩, rfl⟩ := hb
      exact blk_loop (S := T87_a94_0) (ks := E87_a94_0) (step := S_slices_stableCmpFunc_int_a94_0 fuel) (v := (_, _, _, _, _, _, _)) (by kernel_rfl) (by kernel_rfl) (fun R K v => by obtain ⟨x0, x1, x2, x3, x4, x5, x6⟩ := v; exact S87_a94_0_ok fuel R K x0 x1 x2 x3 x4 x5 x6) hs h
    · cases h
  · cases h
noncomputable def S_slices_stableCmpFunc_int_a94_4 (fuel : Nat) (v : Int × Int × Int × Int × (List Int) × Int × Int) (c : (Int × Int × Int × Int × (List Int) × Int × Int) → Option Ans) (B : (Int × Int × Int × (List Int) × Int × Int → Option Ans)) : Option Ans := match v, B with
  | (x0, x1, x2, x3, x4, x5, x6), b =>
   bif Decidable.decide (x3 ≤ x0) then
      (F_slices_symMergeCmpFunc_int_ed8 fuel (x2) (Go.IntKind.i64.wrap (x2 + x1)) (x3) (x4) (x5) (x6)
        (fun (y3_0, y3_1, y3_2) =>
          c (x0, x1, x3, Go.IntKind.i64.wrap (x3 + Go.IntKind.i64.wrap ((2 : Int) * x1)), y3_0, y3_1, y3_2)))
     else
      b (x0, x1, x2, x4, x5, x6)
noncomputable def L_slices_stableCmpFunc_int_a94_4 (fuel : Nat) (v : Int × Int × Int × Int × (List Int) × Int × Int) (b : (Int × Int × Int × (List Int) × Int × Int → Option Ans)) : Option Ans := iter (S_slices_stableCmpFunc_int_a94_4 fuel) fuel v b
noncomputable def J87_a94_4 (fuel : Nat) (i : Nat) : Option Ev.Blk := Ev.look i [(100000, B87_a94_0 fuel)]
noncomputable def T87_a94_4 (v : Int × Int × Int × Int × (List Int) × Int × Int) : Ev.St := match v with | (x0, x1, x2, x3, x4, x5, x6) => ⟨[(0, .c (.own 0)), (1, .c (.int .i64 x0)), (2, .c (.clo 39 [1, 2])), (6, .c (.int .i64 x1)), (7, .c (.int .i64 x2)), (8, .c (.int .i64 x3))], [(0, .vec 3 (.int .i64) x4 false), (1, .cells 3 [.int .i64 x5]), (2, .cells 3 [.int .i64 x6])], 3, 3⟩
noncomputable def E87_a94_4 (K : Ev.Ex → Ev.St → Option Ans) : (Int × Int × Int × (List Int) × Int × Int → Option Ans) := (fun v => match v with | (x0, x1, x2, x3, x4, x5) => K .normal ⟨[(0, .c (.own 0)), (1, .c (.int .i64 x0)), (2, .c (.clo 39 [1, 2])), (6, .c (.int .i64 x1)), (7, .c (.int .i64 x2))], [(0, .vec 3 (.int .i64) x3 false), (1, .cells 3 [.int .i64 x4]), (2, .cells 3 [.int .i64 x5])], 3, 3⟩)
theorem S87_a94_4_okg (fuel : Nat) (f141_e63 : YF141_e63) (f142_ed8 : YF142_ed8) (R : Ev.St → Option Ans) (K : Ev.Ex → Ev.St → Option Ans) (x0 : Int) (x1 : Int) (x2 : Int) (x3 : Int) (x4 : (List Int)) (x5 : Int) (x6 : Int) : evalCode tab (Gg87_a94 f141_e63 f142_ed8) (J87_a94_4 fuel) kp87_a94 fuel (bodyOf 4 Try.f87) (T87_a94_4 (x0, x1, x2, x3, x4, x5, x6)) (lc kp87_a94 9 4 R K) = (fun (c : (Int × Int × Int × Int × (List Int) × Int × Int) → Option Ans) (B : (Int × Int × Int × (List Int) × Int × Int → Option Ans)) => match B with
  | b =>
   bif Decidable.decide (x3 ≤ x0) then
      (f142_ed8 (x2) (Go.IntKind.i64.wrap (x2 + x1)) (x3) (x4) (x5) (x6)
        (fun (y3_0, y3_1, y3_2) =>
          c (x0, x1, x3, Go.IntKind.i64.wrap (x3 + Go.IntKind.i64.wrap ((2 : Int) * x1)), y3_0, y3_1, y3_2)))
     else
      b (x0, x1, x2, x4, x5, x6)) (fun v => R (T87_a94_4 v)) (E87_a94_4 K) := by
  kernel_rfl
theorem S87_a94_4_ok (fuel : Nat) (R : Ev.St → Option Ans) (K : Ev.Ex → Ev.St → Option Ans) (x0 : Int) (x1 : Int) (x2 : Int) (x3 : Int) (x4 : (List Int)) (x5 : Int) (x6 : Int) : evalCode tab (G87_a94 fuel) (J87_a94_4 fuel) kp87_a94 fuel (bodyOf 4 Try.f87) (T87_a94_4 (x0, x1, x2, x3, x4, x5, x6)) (lc kp87_a94 9 4 R K) = S_slices_stableCmpFunc_int_a94_4 fuel (x0, x1, x2, x3, x4, x5, x6) (fun v => R (T87_a94_4 v)) (E87_a94_4 K) :=
  S87_a94_4_okg fuel (F_slices_insertionSortCmpFunc_int_e63 fuel) (F_slices_symMergeCmpFunc_int_ed8 fuel) R K x0 x1 x2 x3 x4 x5 x6
noncomputable def B87_a94_4 (fuel : Nat) : Ev.Blk := fun st K => match canonO (kp87_a94 9) st with
  | some s => (match s with
    | ⟨[(q0, .c (.own q1)), (q2, .c (.int .i64 x0)), (q3, .c (.clo q4 [q5, q6])), (q7, .c (.int .i64 x1)), (q8, .c (.int .i64 x2)), (q9, .c (.int .i64 x3))], [(q10, .vec q11 (.int .i64) x4 false), (q12, .cells q13 [.int .i64 x5]), (q14, .cells q15 [.int .i64 x6])], q16, q17⟩ => bif Nat.beq q0 0 && Nat.beq q1 0 && Nat.beq q2 1 && Nat.beq q3 2 && Nat.beq q4 39 && Nat.beq q5 1 && Nat.beq q6 2 && Nat.beq q7 6 && Nat.beq q8 7 && Nat.beq q9 8 && Nat.beq q10 0 && Nat.beq q11 3 && Nat.beq q12 1 && Nat.beq q13 3 && Nat.beq q14 2 && Nat.beq q15 3 && Nat.beq q16 3 && Nat.beq q17 3 then iter (S_slices_stableCmpFunc_int_a94_4 fuel) fuel (x0, x1, x2, x3, x4, x5, x6) (E87_a94_4 K) else none
    | _ => none)
  | none => none
theorem B87_a94_4_ok (fuel : Nat) (st : Ev.St) (K : Ev.Ex → Ev.St → Option Ans) (r : Ans) (h : B87_a94_4 fuel st K = some r) : evalCode tab (G87_a94 fuel) (J87_a94_4 fuel) kp87_a94 fuel (.block 4 (.loop (bodyOf 4 Try.f87))) st K = some r := by
  unfold B87_a94_4 at h
  split at h
  · rename_i s hs
    split at h
    · skip
      obtain ⟨hb, h⟩ := cond_some' h
      simp only [Bool.and_eq_true, Nat.beq_eq, decide_eq_true_eq] at hb
      obtain ⟨⟨⟨⟨⟨⟨⟨⟨⟨⟨⟨⟨⟨⟨⟨⟨⟨rfl, rfl⟩, rfl⟩, rfl⟩, rfl⟩, rfl⟩, rfl⟩, rfl⟩, rfl⟩, rfl⟩, rfl⟩, rfl⟩, rfl⟩, rfl⟩, rfl⟩, rfl⟩, rfl⟩, rfl⟩ := hb
      exact blk_loop (S := T87_a94_4) (ks := E87_a94_4) (step := S_slices_stableCmpFunc_int_a94_4 fuel) (v := (_, _, _, _, _, _, _)) (by kernel_rfl) (by kernel_rfl) (fun R K v => by obtain ⟨x0, x1, x2, x3, x4, x5, x6⟩ := v; exact S87_a94_4_ok fuel R K x0 x1 x2 x3 x4 x5 x6) hs h
    · cases h
  · cases h
noncomputable def S_slices_stableCmpFunc_int_a94_2 (fuel : Nat) (v : Int × Int × (List Int) × Int × Int) (c : (Int × Int × (List Int) × Int × Int) → Option Ans) (B : ((List Int) × Int × Int → Option Ans)) : Option Ans := match v, B with
  | (x0, x1, x2, x3, x4), b =>
   bif Decidable.decide (x1 < x0) then
      (L_slices_stableCmpFunc_int_a94_4 fuel (x0, x1, (0 : Int), Go.IntKind.i64.wrap ((2 : Int) * x1), x2, x3, x4)
        (fun (b4_0, b4_1, b4_2, b4_3, b4_4, b4_5) =>
          bif Decidable.decide (Go.IntKind.i64.wrap (b4_2 + b4_1) < b4_0) then
           (F_slices_symMergeCmpFunc_int_ed8 fuel (b4_2) (Go.IntKind.i64.wrap (b4_2 + b4_1)) (b4_0) (b4_3) (b4_4) (b4_5)
             (fun (y8_0, y8_1, y8_2) =>
               c (b4_0, Go.IntKind.i64.wrap (b4_1 * (2 : Int)), y8_0, y8_1, y8_2)))
          else
           c (b4_0, Go.IntKind.i64.wrap (b4_1 * (2 : Int)), b4_3, b4_4, b4_5)))
     else
      b (x2, x3, x4)
noncomputable def L_slices_stableCmpFunc_int_a94_2 (fuel : Nat) (v : Int × Int × (List Int) × Int × Int) (b : ((List Int) × Int × Int → Option Ans)) : Option Ans := iter (S_slices_stableCmpFunc_int_a94_2 fuel) fuel v b
noncomputable def J87_a94_2 (fuel : Nat) (i : Nat) : Option Ev.Blk := Ev.look i [(100000, B87_a94_0 fuel), (100004, B87_a94_4 fuel)]
noncomputable def T87_a94_2 (v : Int × Int × (List Int) × Int × Int) : Ev.St := match v with | (x0, x1, x2, x3, x4) => ⟨[(0, .c (.own 0)), (1, .c (.int .i64 x0)), (2, .c (.clo 39 [1, 2])), (6, .c (.int .i64 x1))], [(0, .vec 3 (.int .i64) x2 false), (1, .cells 3 [.int .i64 x3]), (2, .cells 3 [.int .i64 x4])], 3, 3⟩
noncomputable def E87_a94_2 (K : Ev.Ex → Ev.St → Option Ans) : ((List Int) × Int × Int → Option Ans) := (fun v => match v with | (x0, x1, x2) => K .normal ⟨[], [(0, .vec 3 (.int .i64) x0 false), (1, .cells 3 [.int .i64 x1]), (2, .cells 3 [.int .i64 x2])], 3, 3⟩)
theorem S87_a94_2_okg (fuel : Nat) (f141_e63 : YF141_e63) (f142_ed8 : YF142_ed8) (R : Ev.St → Option Ans) (K : Ev.Ex → Ev.St → Option Ans) (x0 : Int) (x1 : Int) (x2 : (List Int)) (x3 : Int) (x4 : Int) : evalCode tab (Gg87_a94 f141_e63 f142_ed8) (J87_a94_2 fuel) kp87_a94 fuel (bodyOf 2 Try.f87) (T87_a94_2 (x0, x1, x2, x3, x4)) (lc kp87_a94 7 2 R K) = (fun (c : (Int × Int × (List Int) × Int × Int) → Option Ans) (B : ((List Int) × Int × Int → Option Ans)) => match B with
  | b =>
   bif Decidable.decide (x1 < x0) then
      (L_slices_stableCmpFunc_int_a94_4 fuel (x0, x1, (0 : Int), Go.IntKind.i64.wrap ((2 : Int) * x1), x2, x3, x4)
        (fun (b4_0, b4_1, b4_2, b4_3, b4_4, b4_5) =>
          bif Decidable.decide (Go.IntKind.i64.wrap (b4_2 + b4_1) < b4_0) then
           (f142_ed8 (b4_2) (Go.IntKind.i64.wrap (b4_2 + b4_1)) (b4_0) (b4_3) (b4_4) (b4_5)
             (fun (y8_0, y8_1, y8_2) =>
               c (b4_0, Go.IntKind.i64.wrap (b4_1 * (2 : Int)), y8_0, y8_1, y8_2)))
          else
           c (b4_0, Go.IntKind.i64.wrap (b4_1 * (2 : Int)), b4_3, b4_4, b4_5)))
     else
      b (x2, x3, x4)) (fun v => R (T87_a94_2 v)) (E87_a94_2 K) := by
  kernel_rfl
theorem S87_a94_2_ok (fuel : Nat) (R : Ev.St → Option Ans) (K : Ev.Ex → Ev.St → Option Ans) (x0 : Int) (x1 : Int) (x2 : (List Int)) (x3 : Int) (x4 : Int) : evalCode tab (G87_a94 fuel) (J87_a94_2 fuel) kp87_a94 fuel (bodyOf 2 Try.f87) (T87_a94_2 (x0, x1, x2, x3, x4)) (lc kp87_a94 7 2 R K) = S_slices_stableCmpFunc_int_a94_2 fuel (x0, x1, x2, x3, x4) (fun v => R (T87_a94_2 v)) (E87_a94_2 K) :=
  S87_a94_2_okg fuel (F_slices_insertionSortCmpFunc_int_e63 fuel) (F_slices_symMergeCmpFunc_int_ed8 fuel) R K x0 x1 x2 x3 x4
noncomputable def B87_a94_2 (fuel : Nat) : Ev.Blk := fun st K => match canonO (kp87_a94 7) st with
  | some s => (match s with
    | ⟨[(q0, .c (.own q1)), (q2, .c (.int .i64 x0)), (q3, .c (.clo q4 [q5, q6])), (q7, .c (.int .i64 x1))], [(q8, .vec q9 (.int .i64) x2 false), (q10, .cells q11 [.int .i64 x3]), (q12, .cells q13 [.int .i64 x4])], q14, q15⟩ => bif Nat.beq q0 0 && Nat.beq q1 0 && Nat.beq q2 1 && Nat.beq q3 2 && Nat.beq q4 39 && Nat.beq q5 1 && Nat.beq q6 2 && Nat.beq q7 6 && Nat.beq q8 0 && Nat.beq q9 3 && Nat.beq q10 1 && Nat.beq q11 3 && Nat.beq q12 2 && Nat.beq q13 3 && Nat.beq q14 3 && Nat.beq q15 3 then iter (S_slices_stableCmpFunc_int_a94_2 fuel) fuel (x0, x1, x2, x3, x4) (E87_a94_2 K) else none
    | _ => none)
  | none => none
theorem B87_a94_2_ok (fuel : Nat) (st : Ev.St) (K : Ev.Ex → Ev.St → Option Ans) (r : Ans) (h : B87_a94_2 fuel st K = some r) : evalCode tab (G87_a94 fuel) (J87_a94_2 fuel) kp87_a94 fuel (.block 2 (.loop (bodyOf 2 Try.f87))) st K = some r := by
  unfold B87_a94_2 at h
  split at h
  · rename_i s hs
    split at h
    · skip
      obtain ⟨hb, h⟩ := cond_some' h
      simp only [Bool.and_eq_true, Nat.beq_eq, decide_eq_true_eq] at hb
      obtain ⟨⟨⟨⟨⟨⟨⟨⟨⟨⟨⟨⟨⟨⟨⟨rfl, rfl⟩, rfl⟩, rfl⟩, rfl⟩, rfl⟩, rfl⟩, rfl⟩, rfl⟩, rfl⟩, rfl⟩, rfl⟩, rfl⟩, rfl⟩, rfl⟩, rfl⟩ := hb
      exact blk_loop (S := T87_a94_2) (ks := E87_a94_2) (step := S_slices_stableCmpFunc_int_a94_2 fuel) (v := (_, _, _, _, _)) (by kernel_rfl) (by kernel_rfl) (fun R K v => by obtain ⟨x0, x1, x2, x3, x4⟩ := v; exact S87_a94_2_ok fuel R K x0 x1 x2 x3 x4) hs h
    · cases h
  · cases h
noncomputable def J87_a94 (fuel : Nat) (i : Nat) : Option Ev.Blk := Ev.look i [(100000, B87_a94_0 fuel), (100004, B87_a94_4 fuel), (100002, B87_a94_2 fuel)]
noncomputable def F_slices_stableCmpFunc_int_a94 (fuel : Nat) (x0 : Int) (x1 : (List Int)) (x2 : Int) (x3 : Int) (k0 : ((List Int) × Int × Int) → Option Ans) : Option Ans :=
  (L_slices_stableCmpFunc_int_a94_0 fuel (x0, (20 : Int), (0 : Int), (20 : Int), x1, x2, x3)
    (fun (b0_0, b0_1, b0_2, b0_3, b0_4, b0_5) =>
      (F_slices_insertionSortCmpFunc_int_e63 fuel (b0_2) (b0_0) (b0_3) (b0_4) (b0_5)
        (fun (y6_0, y6_1, y6_2) =>
          (L_slices_stableCmpFunc_int_a94_2 fuel (b0_0, b0_1, y6_0, y6_1, y6_2)
            (fun (b2_0, b2_1, b2_2) =>
              k0 (b2_0, b2_1, b2_2)))))))
abbrev YF87_a94 : Type := (Int) → ((List Int)) → (Int) → (Int) → (((List Int) × Int × Int) → Option Ans) → Option Ans
theorem F87_a94_eqg (fuel : Nat) (f141_e63 : YF141_e63) (f142_ed8 : YF142_ed8) (x0 : Int) (x1 : (List Int)) (x2 : Int) (x3 : Int) (k : Ev.Cont) : evalFn tab (Gg87_a94 f141_e63 f142_ed8) (J87_a94 fuel) kp87_a94 fuel Try.f87 [.c (.own 0), .c (.int .i64 x0), .c (.clo 39 [1, 2])] [.vec 3 (.int .i64) x1 false, .cells 3 [.int .i64 x2], .cells 3 [.int .i64 x3]] k = (fun  (k0 : ((List Int) × Int × Int) → Option Ans) =>
  (L_slices_stableCmpFunc_int_a94_0 fuel (x0, (20 : Int), (0 : Int), (20 : Int), x1, x2, x3)
    (fun (b0_0, b0_1, b0_2, b0_3, b0_4, b0_5) =>
      (f141_e63 (b0_2) (b0_0) (b0_3) (b0_4) (b0_5)
        (fun (y6_0, y6_1, y6_2) =>
          (L_slices_stableCmpFunc_int_a94_2 fuel (b0_0, b0_1, y6_0, y6_1, y6_2)
            (fun (b2_0, b2_1, b2_2) =>
              k0 (b2_0, b2_1, b2_2)))))))) (fun r => match r with | (r0, r1, r2) => k (.tup [], [.vec 3 (.int .i64) r0 false, .cells 3 [.int .i64 r1], .cells 3 [.int .i64 r2]])) := by
  kernel_rfl
theorem F87_a94_eq (fuel : Nat) (x0 : Int) (x1 : (List Int)) (x2 : Int) (x3 : Int) (k : Ev.Cont) : evalFn tab (G87_a94 fuel) (J87_a94 fuel) kp87_a94 fuel Try.f87 [.c (.own 0), .c (.int .i64 x0), .c (.clo 39 [1, 2])] [.vec 3 (.int .i64) x1 false, .cells 3 [.int .i64 x2], .cells 3 [.int .i64 x3]] k = F_slices_stableCmpFunc_int_a94 fuel x0 x1 x2 x3 (fun r => match r with | (r0, r1, r2) => k (.tup [], [.vec 3 (.int .i64) r0 false, .cells 3 [.int .i64 r1], .cells 3 [.int .i64 r2]])) :=
  F87_a94_eqg fuel (F_slices_insertionSortCmpFunc_int_e63 fuel) (F_slices_symMergeCmpFunc_int_ed8 fuel) x0 x1 x2 x3 k
theorem hG87_a94 (fuel : Nat) : GOK Try.prog (G87_a94 fuel) :=
  gok_cons ⟨ok141_e63 fuel, enters_of Try.func141 (by kernel_rfl) rfl⟩ <|
  gok_cons ⟨ok142_ed8 fuel, enters_of Try.func142 (by kernel_rfl) rfl⟩ <|
  gok_nil
theorem B87_a94_0_blk (fuel : Nat) : BlkOK Try.prog Try.f87.ntmps (.block 0 (.loop (bodyOf 0 Try.f87))) (B87_a94_0 fuel) :=
  blk_of (blk_of_code tab_ok (hG87_a94 fuel) mixed (J := J87_a94_0 fuel) (kp := kp87_a94) (fuel := fuel) (by kernel_rfl) (fun q hq => by
    rw [(by kernel_rfl : obl (J87_a94_0 fuel) (.block 0 (.loop (bodyOf 0 Try.f87))) = [])] at hq
    cases hq)) (B87_a94_0_ok fuel)
theorem B87_a94_4_blk (fuel : Nat) : BlkOK Try.prog Try.f87.ntmps (.block 4 (.loop (bodyOf 4 Try.f87))) (B87_a94_4 fuel) :=
  blk_of (blk_of_code tab_ok (hG87_a94 fuel) mixed (J := J87_a94_4 fuel) (kp := kp87_a94) (fuel := fuel) (by kernel_rfl) (fun q hq => by
    rw [(by kernel_rfl : obl (J87_a94_4 fuel) (.block 4 (.loop (bodyOf 4 Try.f87))) = [])] at hq
    cases hq)) (B87_a94_4_ok fuel)
theorem B87_a94_2_blk (fuel : Nat) : BlkOK Try.prog Try.f87.ntmps (.block 2 (.loop (bodyOf 2 Try.f87))) (B87_a94_2 fuel) :=
  blk_of (blk_of_code tab_ok (hG87_a94 fuel) mixed (J := J87_a94_2 fuel) (kp := kp87_a94) (fuel := fuel) (by kernel_rfl) (fun q hq => by
    rw [(by kernel_rfl : obl (J87_a94_2 fuel) (.block 2 (.loop (bodyOf 2 Try.f87))) = [(.block 4 (.loop (bodyOf 4 Try.f87)), B87_a94_4 fuel)])] at hq
    simp only [List.mem_cons, List.not_mem_nil, or_false] at hq
    subst hq
    · exact B87_a94_4_blk fuel)) (B87_a94_2_ok fuel)
theorem fok87_a94 (fuel : Nat) : FnOK Try.prog 87 (evalFn tab (G87_a94 fuel) (J87_a94 fuel) kp87_a94 fuel Try.f87) :=
  fn_ok tab_ok (hG87_a94 fuel) mixed Try.func87 (c := (Try.f87.body).getD .skip) rfl (fun q hq => by
    rw [(by kernel_rfl : obl (J87_a94 fuel) ((Try.f87.body).getD .skip) = [(.block 0 (.loop (bodyOf 0 Try.f87)), B87_a94_0 fuel), (.block 2 (.loop (bodyOf 2 Try.f87)), B87_a94_2 fuel)])] at hq
    simp only [List.mem_cons, List.not_mem_nil, or_false] at hq
    rcases hq with rfl | rfl
    · exact B87_a94_0_blk fuel
    · exact B87_a94_2_blk fuel)
noncomputable def mt87_a94 : List Ev.SV → List Ev.Ob → Bool := fun args objs => match args, objs with
  | [.c (.own q0), .c (.int .i64 _), .c (.clo q1 [q2, q3])], [.vec q4 (.int .i64) _ false, .cells q5 [.int .i64 _], .cells q6 [.int .i64 _]] => Nat.beq q0 0 && Nat.beq q1 39 && Nat.beq q2 1 && Nat.beq q3 2 && Nat.beq q4 3 && Nat.beq q5 3 && Nat.beq q6 3
  | _, _ => false
noncomputable def spg87_a94 (F : YF87_a94) : Ev.Spec := fun args objs k => match args, objs with
  | [.c (.own q0), .c (.int .i64 x0), .c (.clo q1 [q2, q3])], [.vec q4 (.int .i64) x1 false, .cells q5 [.int .i64 x2], .cells q6 [.int .i64 x3]] => bif Nat.beq q0 0 && Nat.beq q1 39 && Nat.beq q2 1 && Nat.beq q3 2 && Nat.beq q4 3 && Nat.beq q5 3 && Nat.beq q6 3 then F x0 x1 x2 x3 (fun r => match r with | (r0, r1, r2) => k (.tup [], [.vec 3 (.int .i64) r0 false, .cells 3 [.int .i64 r1], .cells 3 [.int .i64 r2]])) else none
  | _, _ => none
noncomputable def spec87_a94 (fuel : Nat) : Ev.Spec := spg87_a94 (F_slices_stableCmpFunc_int_a94 fuel)
theorem ok87_a94 (fuel : Nat) : FnOK Try.prog 87 (spec87_a94 fuel) := by
  intro args objs kk r h
  unfold spec87_a94 spg87_a94 at h
  split at h
  · skip
    obtain ⟨hb, h⟩ := cond_some' h
    simp only [Bool.and_eq_true, Nat.beq_eq, decide_eq_true_eq] at hb
    obtain ⟨⟨⟨⟨⟨⟨rfl, rfl⟩, rfl⟩, rfl⟩, rfl⟩, rfl⟩, rfl⟩ := hb
    exact fok87_a94 fuel _ _ kk r ((F87_a94_eq fuel _ _ _ _ kk).trans h)
  · cases h
end Go.Proofs.Ytipdidpalcmlhaa

set_option linter.unusedVariables false
set_option linter.unusedSimpArgs false
set_option maxRecDepth 100000
set_option maxHeartbeats 2000000
namespace Go.Proofs.Ytipdidpalcmlhaa
open Go Ev
def kp38_f91 (i : Nat) : Option (List Nat) := Ev.look i []
noncomputable def Gg38_f91 (f87_a94 : YF87_a94) (f : Nat) : Option Ev.Spec := Ev.look f [(1000087, spg87_a94 f87_a94)]
noncomputable def G38_f91 (fuel : Nat) : Nat → Option Ev.Spec := Gg38_f91 (F_slices_stableCmpFunc_int_a94 fuel)
noncomputable def J38_f91 (fuel : Nat) (i : Nat) : Option Ev.Blk := Ev.look i []
noncomputable def F_slices_SortStableFunc_int_int_f91 (fuel : Nat) (x0 : (List Int)) (x1 : Int) (x2 : Int) (k0 : ((List Int) × Int × Int) → Option Ans) : Option Ans :=
  (F_slices_stableCmpFunc_int_a94 fuel ((↑x0.length : Int)) (x0) (x1) (x2)
    (fun (y2_0, y2_1, y2_2) =>
      k0 (y2_0, y2_1, y2_2)))
abbrev YF38_f91 : Type := ((List Int)) → (Int) → (Int) → (((List Int) × Int × Int) → Option Ans) → Option Ans
theorem F38_f91_eqg (fuel : Nat) (f87_a94 : YF87_a94) (x0 : (List Int)) (x1 : Int) (x2 : Int) (k : Ev.Cont) : evalFn tab (Gg38_f91 f87_a94) (J38_f91 fuel) kp38_f91 fuel Try.f38 [.c (.own 0), .c (.clo 39 [1, 2])] [.vec 3 (.int .i64) x0 false, .cells 3 [.int .i64 x1], .cells 3 [.int .i64 x2]] k = (fun  (k0 : ((List Int) × Int × Int) → Option Ans) =>
  (f87_a94 ((↑x0.length : Int)) (x0) (x1) (x2)
    (fun (y2_0, y2_1, y2_2) =>
      k0 (y2_0, y2_1, y2_2)))) (fun r => match r with | (r0, r1, r2) => k (.tup [], [.vec 3 (.int .i64) r0 false, .cells 3 [.int .i64 r1], .cells 3 [.int .i64 r2]])) := by
  kernel_rfl
theorem F38_f91_eq (fuel : Nat) (x0 : (List Int)) (x1 : Int) (x2 : Int) (k : Ev.Cont) : evalFn tab (G38_f91 fuel) (J38_f91 fuel) kp38_f91 fuel Try.f38 [.c (.own 0), .c (.clo 39 [1, 2])] [.vec 3 (.int .i64) x0 false, .cells 3 [.int .i64 x1], .cells 3 [.int .i64 x2]] k = F_slices_SortStableFunc_int_int_f91 fuel x0 x1 x2 (fun r => match r with | (r0, r1, r2) => k (.tup [], [.vec 3 (.int .i64) r0 false, .cells 3 [.int .i64 r1], .cells 3 [.int .i64 r2]])) :=
  F38_f91_eqg fuel (F_slices_stableCmpFunc_int_a94 fuel) x0 x1 x2 k
theorem hG38_f91 (fuel : Nat) : GOK Try.prog (G38_f91 fuel) :=
  gok_cons ⟨ok87_a94 fuel, enters_of Try.func87 (by kernel_rfl) rfl⟩ <|
  gok_nil
theorem fok38_f91 (fuel : Nat) : FnOK Try.prog 38 (evalFn tab (G38_f91 fuel) (J38_f91 fuel) kp38_f91 fuel Try.f38) :=
  fn_ok tab_ok (hG38_f91 fuel) mixed Try.func38 (c := (Try.f38.body).getD .skip) rfl (fun q hq => by
    rw [(by kernel_rfl : obl (J38_f91 fuel) ((Try.f38.body).getD .skip) = [])] at hq
    cases hq)
noncomputable def mt38_f91 : List Ev.SV → List Ev.Ob → Bool := fun args objs => match args, objs with
  | [.c (.own q0), .c (.clo q1 [q2, q3])], [.vec q4 (.int .i64) _ false, .cells q5 [.int .i64 _], .cells q6 [.int .i64 _]] => Nat.beq q0 0 && Nat.beq q1 39 && Nat.beq q2 1 && Nat.beq q3 2 && Nat.beq q4 3 && Nat.beq q5 3 && Nat.beq q6 3
  | _, _ => false
noncomputable def spg38_f91 (F : YF38_f91) : Ev.Spec := fun args objs k => match args, objs with
  | [.c (.own q0), .c (.clo q1 [q2, q3])], [.vec q4 (.int .i64) x0 false, .cells q5 [.int .i64 x1], .cells q6 [.int .i64 x2]] => bif Nat.beq q0 0 && Nat.beq q1 39 && Nat.beq q2 1 && Nat.beq q3 2 && Nat.beq q4 3 && Nat.beq q5 3 && Nat.beq q6 3 then F x0 x1 x2 (fun r => match r with | (r0, r1, r2) => k (.tup [], [.vec 3 (.int .i64) r0 false, .cells 3 [.int .i64 r1], .cells 3 [.int .i64 r2]])) else none
  | _, _ => none
noncomputable def spec38_f91 (fuel : Nat) : Ev.Spec := spg38_f91 (F_slices_SortStableFunc_int_int_f91 fuel)
theorem ok38_f91 (fuel : Nat) : FnOK Try.prog 38 (spec38_f91 fuel) := by
  intro args objs kk r h
  unfold spec38_f91 spg38_f91 at h
  split at h
  · skip
    obtain ⟨hb, h⟩ := cond_some' h
    simp only [Bool.and_eq_true, Nat.beq_eq, decide_eq_true_eq] at hb
    obtain ⟨⟨⟨⟨⟨⟨rfl, rfl⟩, rfl⟩, rfl⟩, rfl⟩, rfl⟩, rfl⟩ := hb
    exact fok38_f91 fuel _ _ kk r ((F38_f91_eq fuel _ _ _ kk).trans h)
  · cases h
end Go.Proofs.Ytipdidpalcmlhaa

set_option linter.unusedVariables false
set_option linter.unusedSimpArgs false
set_option maxRecDepth 100000
set_option maxHeartbeats 2000000
namespace Go.Proofs.Ytipdidpalcmlhaa
open Go Ev
def kp12 (i : Nat) : Option (List Nat) := Ev.look i [(6, [1, 2, 6, 7, 32, 33]), (13, [1, 2, 6, 7, 9, 44, 45]), (17, [1, 2, 6, 7, 9, 11, 44, 45, 60, 61, 62]), (100000, [1, 2, 6, 7]), (100002, [9]), (100004, [1, 2, 6, 7, 9, 11, 44, 45]), (400000, [4, 5]), (400002, [4, 5]), (400004, [4, 5])]
noncomputable def Gg12 (f25 : YF25) (f38_f91 : YF38_f91) (f : Nat) : Option Ev.Spec := Ev.look f [(25, spg25 f25), (1000038, spg38_f91 f38_f91)]
noncomputable def G12 (fuel : Nat) : Nat → Option Ev.Spec := Gg12 (F_bitmap_New fuel) (F_slices_SortStableFunc_int_int_f91 fuel)
noncomputable def S_tone_Screen_0 (fuel : Nat) (v : Int × Int × Int × Int × Int × (List Int)) (c : (Int × Int × Int × Int × Int × (List Int)) → Option Ans) (B : (Int × Int × Int × (List Int) → Option Ans)) : Option Ans := match v, B with
  | (x0, x1, x2, x3, x4, x5), b =>
   bif Decidable.decide (x2 < x1) then
      bif Decidable.decide ((x5.length + [x2].length) * (8 : Nat) ≤ (140737488355328 : Nat) ∧ x5.length + [x2].length ≤ (140737488355328 : Nat)) then
      c (x0, x1, Go.IntKind.i64.wrap (x2 + (1 : Int)), x3, x4, x5 ++ [x2])
      else none
     else
      b (x0, x3, x4, x5)
noncomputable def L_tone_Screen_0 (fuel : Nat) (v : Int × Int × Int × Int × Int × (List Int)) (b : (Int × Int × Int × (List Int) → Option Ans)) : Option Ans := iter (S_tone_Screen_0 fuel) fuel v b
noncomputable def J12_0 (fuel : Nat) (i : Nat) : Option Ev.Blk := Ev.look i []
noncomputable def T12_0 (v : Int × Int × Int × Int × Int × (List Int)) : Ev.St := match v with | (x0, x1, x2, x3, x4, x5) => ⟨[(1, .c (.int .i64 x0)), (2, .c (.ptr 0 0)), (6, .c (.ptr 1 0)), (7, .c (.own 2)), (32, .c (.int .i64 x1)), (33, .c (.int .i64 x2))], [(0, .cells 3 [.int .i64 x3]), (1, .cells 3 [.int .i64 x4]), (2, .vec 3 (.int .i64) x5 true)], 3, 0⟩
noncomputable def E12_0 (K : Ev.Ex → Ev.St → Option Ans) : (Int × Int × Int × (List Int) → Option Ans) := (fun v => match v with | (x0, x1, x2, x3) => K .normal ⟨[(1, .c (.int .i64 x0)), (2, .c (.ptr 0 0)), (6, .c (.ptr 1 0)), (7, .c (.own 2))], [(0, .cells 3 [.int .i64 x1]), (1, .cells 3 [.int .i64 x2]), (2, .vec 3 (.int .i64) x3 true)], 3, 0⟩)
theorem S12_0_okg (fuel : Nat) (f25 : YF25) (f38_f91 : YF38_f91) (R : Ev.St → Option Ans) (K : Ev.Ex → Ev.St → Option Ans) (x0 : Int) (x1 : Int) (x2 : Int) (x3 : Int) (x4 : Int) (x5 : (List Int)) : evalCode tab (Gg12 f25 f38_f91) (J12_0 fuel) kp12 fuel (bodyOf 0 Try.f12) (T12_0 (x0, x1, x2, x3, x4, x5)) (lc kp12 6 0 R K) = (fun (c : (Int × Int × Int × Int × Int × (List Int)) → Option Ans) (B : (Int × Int × Int × (List Int) → Option Ans)) => match B with
  | b =>
   bif Decidable.decide (x2 < x1) then
      bif Decidable.decide ((x5.length + [x2].length) * (8 : Nat) ≤ (140737488355328 : Nat) ∧ x5.length + [x2].length ≤ (140737488355328 : Nat)) then
      c (x0, x1, Go.IntKind.i64.wrap (x2 + (1 : Int)), x3, x4, x5 ++ [x2])
      else none
     else
      b (x0, x3, x4, x5)) (fun v => R (T12_0 v)) (E12_0 K) := by
  kernel_rfl
theorem S12_0_ok (fuel : Nat) (R : Ev.St → Option Ans) (K : Ev.Ex → Ev.St → Option Ans) (x0 : Int) (x1 : Int) (x2 : Int) (x3 : Int) (x4 : Int) (x5 : (List Int)) : evalCode tab (G12 fuel) (J12_0 fuel) kp12 fuel (bodyOf 0 Try.f12) (T12_0 (x0, x1, x2, x3, x4, x5)) (lc kp12 6 0 R K) = S_tone_Screen_0 fuel (x0, x1, x2, x3, x4, x5) (fun v => R (T12_0 v)) (E12_0 K) :=
  S12_0_okg fuel (F_bitmap_New fuel) (F_slices_SortStableFunc_int_int_f91 fuel) R K x0 x1 x2 x3 x4 x5
noncomputable def B12_0 (fuel : Nat) : Ev.Blk := fun st K => match canonO (kp12 6) st with
  | some s => (match s with
    | ⟨[(q0, .c (.int .i64 x0)), (q1, .c (.ptr q2 q3)), (q4, .c (.ptr q5 q6)), (q7, .c (.own q8)), (q9, .c (.int .i64 x1)), (q10, .c (.int .i64 x2))], [(q11, .cells q12 [.int .i64 x3]), (q13, .cells q14 [.int .i64 x4]), (q15, .vec q16 (.int .i64) x5 true)], q17, q18⟩ => bif Nat.beq q0 1 && Nat.beq q1 2 && Nat.beq q2 0 && Nat.beq q3 0 && Nat.beq q4 6 && Nat.beq q5 1 && Nat.beq q6 0 && Nat.beq q7 7 && Nat.beq q8 2 && Nat.beq q9 32 && Nat.beq q10 33 && Nat.beq q11 0 && Nat.beq q12 3 && Nat.beq q13 1 && Nat.beq q14 3 && Nat.beq q15 2 && Nat.beq q16 3 && Nat.beq q17 3 && Nat.beq q18 0 then iter (S_tone_Screen_0 fuel) fuel (x0, x1, x2, x3, x4, x5) (E12_0 K) else none
    | _ => none)
  | none => none
theorem B12_0_ok (fuel : Nat) (st : Ev.St) (K : Ev.Ex → Ev.St → Option Ans) (r : Ans) (h : B12_0 fuel st K = some r) : evalCode tab (G12 fuel) (J12_0 fuel) kp12 fuel (.block 0 (.loop (bodyOf 0 Try.f12))) st K = some r := by
  unfold B12_0 at h
  split at h
  · rename_i s hs
    split at h
    · skip
      obtain ⟨hb, h⟩ := cond_some' h
      simp only [Bool.and_eq_true, Nat.beq_eq, decide_eq_true_eq] at hb
      obtain ⟨⟨⟨⟨⟨⟨⟨⟨⟨⟨⟨⟨⟨⟨⟨⟨⟨⟨rfl, rfl⟩, rfl⟩, rfl⟩, rfl⟩, rfl⟩, rfl⟩, rfl⟩, rfl⟩, rfl⟩, rfl⟩, rfl⟩, rfl⟩, rfl⟩, rfl⟩, rfl⟩, rfl⟩, rfl⟩, rfl⟩ := hb
      exact blk_loop (S := T12_0) (ks := E12_0) (step := S_tone_Screen_0 fuel) (v := (_, _, _, _, _, _)) (by kernel_rfl) (by kernel_rfl) (fun R K v => by obtain ⟨x0, x1, x2, x3, x4, x5⟩ := v; exact S12_0_ok fuel R K x0 x1 x2 x3 x4 x5) hs h
    · cases h
  · cases h
noncomputable def S_tone_Screen_4 (fuel : Nat) (v : Int × Int × Int × Nat × Nat × Int × Int × Int × Int × (List Int) × (List (Int × (Int × (List Int)))) × Int × Int × (List Int)) (c : (Int × Int × Int × Nat × Nat × Int × Int × Int × Int × (List Int) × (List (Int × (Int × (List Int)))) × Int × Int × (List Int)) → Option Ans) (B : (Int × Int × Int × Int × Int × (List Int) × (List (Int × (Int × (List Int)))) × Int × Int × (List Int) → Option Ans)) : Option Ans := match v, B with
  | (x0, x1, x2, x3, x4, x5, x6, x7, x8, x9, x10, x11, x12, x13), b =>
   bif Decidable.decide (x6 < x5) then
      bif Decidable.decide ((0 : Int) ≤ x6 ∧ x6 < (↑x4 : Int)) then
      bif Decidable.decide ((0 : Int) ≤ x9.getD (x3 + x6.toNat) (0 : Int) ∧ x9.getD (x3 + x6.toNat) (0 : Int) < (↑x13.length : Int)) then
       c (x0, x1, x2, x3, x4, x5, Go.IntKind.i64.wrap (x6 + (1 : Int)), x7, x8, x9, x10, x11, x12, x13.set (Int.toNat (x9.getD (x3 + x6.toNat) (0 : Int))) (1 : Int))
       else none
      else none
     else
      b (x0, x1, x2, x7, x8, x9, x10, x11, x12, x13)
noncomputable def L_tone_Screen_4 (fuel : Nat) (v : Int × Int × Int × Nat × Nat × Int × Int × Int × Int × (List Int) × (List (Int × (Int × (List Int)))) × Int × Int × (List Int)) (b : (Int × Int × Int × Int × Int × (List Int) × (List (Int × (Int × (List Int)))) × Int × Int × (List Int) → Option Ans)) : Option Ans := iter (S_tone_Screen_4 fuel) fuel v b
noncomputable def J12_4 (fuel : Nat) (i : Nat) : Option Ev.Blk := Ev.look i [(100000, B12_0 fuel)]
noncomputable def T12_4 (v : Int × Int × Int × Nat × Nat × Int × Int × Int × Int × (List Int) × (List (Int × (Int × (List Int)))) × Int × Int × (List Int)) : Ev.St := match v with | (x0, x1, x2, x3, x4, x5, x6, x7, x8, x9, x10, x11, x12, x13) => ⟨[(1, .c (.int .i64 x0)), (2, .c (.ptr 0 0)), (6, .c (.ptr 1 0)), (7, .c (.own 2)), (9, .c (.own 3)), (11, .c (.ptr 4 0)), (44, .c (.int .i64 x1)), (45, .c (.int .i64 x2)), (60, .c (.sub 2 1 x3 x4)), (61, .c (.int .i64 x5)), (62, .c (.int .i64 x6))], [(0, .cells 3 [.int .i64 x7]), (1, .cells 3 [.int .i64 x8]), (2, .vec 3 (.int .i64) x9 true), (3, .vec 35 (.pair (.int .i64) (.pair (.int .i64) (.sl (.int .u8)))) x10 true), (4, .cells 35 [.int .i64 x11, .int .i64 x12, .own 5]), (5, .vec 5 (.int .u8) x13 true)], 6, 0⟩
noncomputable def E12_4 (K : Ev.Ex → Ev.St → Option Ans) : (Int × Int × Int × Int × Int × (List Int) × (List (Int × (Int × (List Int)))) × Int × Int × (List Int) → Option Ans) := (fun v => match v with | (x0, x1, x2, x3, x4, x5, x6, x7, x8, x9) => K .normal ⟨[(1, .c (.int .i64 x0)), (2, .c (.ptr 0 0)), (6, .c (.ptr 1 0)), (7, .c (.own 2)), (9, .c (.own 3)), (11, .c (.ptr 4 0)), (44, .c (.int .i64 x1)), (45, .c (.int .i64 x2))], [(0, .cells 3 [.int .i64 x3]), (1, .cells 3 [.int .i64 x4]), (2, .vec 3 (.int .i64) x5 true), (3, .vec 35 (.pair (.int .i64) (.pair (.int .i64) (.sl (.int .u8)))) x6 true), (4, .cells 35 [.int .i64 x7, .int .i64 x8, .own 5]), (5, .vec 5 (.int .u8) x9 true)], 6, 0⟩)
theorem S12_4_okg (fuel : Nat) (f25 : YF25) (f38_f91 : YF38_f91) (R : Ev.St → Option Ans) (K : Ev.Ex → Ev.St → Option Ans) (x0 : Int) (x1 : Int) (x2 : Int) (x3 : Nat) (x4 : Nat) (x5 : Int) (x6 : Int) (x7 : Int) (x8 : Int) (x9 : (List Int)) (x10 : (List (Int × (Int × (List Int))))) (x11 : Int) (x12 : Int) (x13 : (List Int)) : evalCode tab (Gg12 f25 f38_f91) (J12_4 fuel) kp12 fuel (bodyOf 4 Try.f12) (T12_4 (x0, x1, x2, x3, x4, x5, x6, x7, x8, x9, x10, x11, x12, x13)) (lc kp12 17 4 R K) = (fun (c : (Int × Int × Int × Nat × Nat × Int × Int × Int × Int × (List Int) × (List (Int × (Int × (List Int)))) × Int × Int × (List Int)) → Option Ans) (B : (Int × Int × Int × Int × Int × (List Int) × (List (Int × (Int × (List Int)))) × Int × Int × (List Int) → Option Ans)) => match B with
  | b =>
   bif Decidable.decide (x6 < x5) then
      bif Decidable.decide ((0 : Int) ≤ x6 ∧ x6 < (↑x4 : Int)) then
      bif Decidable.decide ((0 : Int) ≤ x9.getD (x3 + x6.toNat) (0 : Int) ∧ x9.getD (x3 + x6.toNat) (0 : Int) < (↑x13.length : Int)) then
       c (x0, x1, x2, x3, x4, x5, Go.IntKind.i64.wrap (x6 + (1 : Int)), x7, x8, x9, x10, x11, x12, x13.set (Int.toNat (x9.getD (x3 + x6.toNat) (0 : Int))) (1 : Int))
       else none
      else none
     else
      b (x0, x1, x2, x7, x8, x9, x10, x11, x12, x13)) (fun v => R (T12_4 v)) (E12_4 K) := by
  kernel_rfl
theorem S12_4_ok (fuel : Nat) (R : Ev.St → Option Ans) (K : Ev.Ex → Ev.St → Option Ans) (x0 : Int) (x1 : Int) (x2 : Int) (x3 : Nat) (x4 : Nat) (x5 : Int) (x6 : Int) (x7 : Int) (x8 : Int) (x9 : (List Int)) (x10 : (List (Int × (Int × (List Int))))) (x11 : Int) (x12 : Int) (x13 : (List Int)) : evalCode tab (G12 fuel) (J12_4 fuel) kp12 fuel (bodyOf 4 Try.f12) (T12_4 (x0, x1, x2, x3, x4, x5, x6, x7, x8, x9, x10, x11, x12, x13)) (lc kp12 17 4 R K) = S_tone_Screen_4 fuel (x0, x1, x2, x3, x4, x5, x6, x7, x8, x9, x10, x11, x12, x13) (fun v => R (T12_4 v)) (E12_4 K) :=
  S12_4_okg fuel (F_bitmap_New fuel) (F_slices_SortStableFunc_int_int_f91 fuel) R K x0 x1 x2 x3 x4 x5 x6 x7 x8 x9 x10 x11 x12 x13
noncomputable def B12_4 (fuel : Nat) : Ev.Blk := fun st K => match canonO (kp12 17) st with
  | some s => (match s with
    | ⟨[(q0, .c (.int .i64 x0)), (q1, .c (.ptr q2 q3)), (q4, .c (.ptr q5 q6)), (q7, .c (.own q8)), (q9, .c (.own q10)), (q11, .c (.ptr q12 q13)), (q14, .c (.int .i64 x1)), (q15, .c (.int .i64 x2)), (q16, .c (.sub q17 q18 x3 x4)), (q19, .c (.int .i64 x5)), (q20, .c (.int .i64 x6))], [(q21, .cells q22 [.int .i64 x7]), (q23, .cells q24 [.int .i64 x8]), (q25, .vec q26 (.int .i64) x9 true), (q27, .vec q28 (.pair (.int .i64) (.pair (.int .i64) (.sl (.int .u8)))) x10 true), (q29, .cells q30 [.int .i64 x11, .int .i64 x12, .own q31]), (q32, .vec q33 (.int .u8) x13 true)], q34, q35⟩ => bif Nat.beq q0 1 && Nat.beq q1 2 && Nat.beq q2 0 && Nat.beq q3 0 && Nat.beq q4 6 && Nat.beq q5 1 && Nat.beq q6 0 && Nat.beq q7 7 && Nat.beq q8 2 && Nat.beq q9 9 && Nat.beq q10 3 && Nat.beq q11 11 && Nat.beq q12 4 && Nat.beq q13 0 && Nat.beq q14 44 && Nat.beq q15 45 && Nat.beq q16 60 && Nat.beq q17 2 && Nat.beq q18 1 && Nat.beq q19 61 && Nat.beq q20 62 && Nat.beq q21 0 && Nat.beq q22 3 && Nat.beq q23 1 && Nat.beq q24 3 && Nat.beq q25 2 && Nat.beq q26 3 && Nat.beq q27 3 && Nat.beq q28 35 && Nat.beq q29 4 && Nat.beq q30 35 && Nat.beq q31 5 && Nat.beq q32 5 && Nat.beq q33 5 && Nat.beq q34 6 && Nat.beq q35 0 then iter (S_tone_Screen_4 fuel) fuel (x0, x1, x2, x3, x4, x5, x6, x7, x8, x9, x10, x11, x12, x13) (E12_4 K) else none
    | _ => none)
  | none => none
theorem B12_4_ok (fuel : Nat) (st : Ev.St) (K : Ev.Ex → Ev.St → Option Ans) (r : Ans) (h : B12_4 fuel st K = some r) : evalCode tab (G12 fuel) (J12_4 fuel) kp12 fuel (.block 4 (.loop (bodyOf 4 Try.f12))) st K = some r := by
  unfold B12_4 at h
  split at h
  · rename_i s hs
    split at h
    · skip
      obtain ⟨hb, h⟩ := cond_some' h
      simp only [Bool.and_eq_true, Nat.beq_eq, decide_eq_true_eq] at hb
      obtain ⟨⟨⟨⟨⟨⟨⟨⟨⟨⟨⟨⟨⟨⟨⟨⟨⟨⟨⟨⟨⟨⟨⟨⟨⟨⟨⟨⟨⟨⟨⟨⟨⟨⟨⟨rfl, rfl⟩, rfl⟩, rfl⟩, rfl⟩, rfl⟩, rfl⟩, rfl⟩, rfl⟩, rfl⟩, rfl⟩, rfl⟩, rfl⟩, rfl⟩, rfl⟩, rfl⟩, rfl⟩, rfl⟩, rfl⟩, rfl⟩, rfl⟩, rfl⟩, rfl⟩, rfl⟩, rfl⟩, rfl⟩, rfl⟩, rfl⟩, rfl⟩, rfl⟩, rfl⟩, rfl⟩, rfl⟩, rfl⟩, rfl⟩, rfl⟩ := hb
      exact blk_loop (S := T12_4) (ks := E12_4) (step := S_tone_Screen_4 fuel) (v := (_, _, _, _, _, _, _, _, _, _, _, _, _, _)) (by kernel_rfl) (by kernel_rfl) (fun R K v => by obtain ⟨x0, x1, x2, x3, x4, x5, x6, x7, x8, x9, x10, x11, x12, x13⟩ := v; exact S12_4_ok fuel R K x0 x1 x2 x3 x4 x5 x6 x7 x8 x9 x10 x11 x12 x13) hs h
    · cases h
  · cases h
noncomputable def S_tone_Screen_2 (fuel : Nat) (v : Int × Int × Int × Int × Int × (List Int) × (List (Int × (Int × (List Int))))) (c : (Int × Int × Int × Int × Int × (List Int) × (List (Int × (Int × (List Int))))) → Option Ans) (B : ((List (Int × (Int × (List Int)))) → Option Ans)) : Option Ans := match v, B with
  | (x0, x1, x2, x3, x4, x5, x6), b =>
   bif Decidable.decide (x2 < x1) then
      (F_bitmap_New fuel (x3) (x3) ((0 : Int))
        (fun (y3_0, y3_1, y3_2, y3_3) =>
          bif Decidable.decide (x0 = (0 : Int)) then
           none
          else
           bif Decidable.decide ((0 : Int) ≤ Ev.loOf Option.none ∧ Ev.loOf Option.none ≤ Ev.hiOf (Option.some (Go.IntKind.i64.wrap ((Go.IntKind.i64.wrap (x2 * x4)).tdiv x0))) (↑x5.length : Int) ∧ Ev.hiOf (Option.some (Go.IntKind.i64.wrap ((Go.IntKind.i64.wrap (x2 * x4)).tdiv x0))) (↑x5.length : Int) ≤ (↑x5.length : Int)) then
           (L_tone_Screen_4 fuel (x0, x1, x2, (Ev.loOf Option.none).toNat, (Ev.hiOf (Option.some (Go.IntKind.i64.wrap ((Go.IntKind.i64.wrap (x2 * x4)).tdiv x0))) (↑x5.length : Int) - Ev.loOf Option.none).toNat, (↑(Ev.hiOf (Option.some (Go.IntKind.i64.wrap ((Go.IntKind.i64.wrap (x2 * x4)).tdiv x0))) (↑x5.length : Int) - Ev.loOf Option.none).toNat : Int), (0 : Int), x3, x4, x5, x6, y3_0, y3_1, y3_3)
              (fun (b4_0, b4_1, b4_2, b4_3, b4_4, b4_5, b4_6, b4_7, b4_8, b4_9) =>
                bif Decidable.decide ((b4_6.length + [(b4_7, b4_8, b4_9)].length) * (40 : Nat) ≤ (140737488355328 : Nat) ∧ b4_6.length + [(b4_7, b4_8, b4_9)].length ≤ (140737488355328 : Nat)) then
                c (b4_0, b4_1, Go.IntKind.i64.wrap (b4_2 + (1 : Int)), b4_3, b4_4, b4_5, b4_6 ++ [(b4_7, b4_8, b4_9)])
                else none))
           else none))
     else
      b x6
noncomputable def L_tone_Screen_2 (fuel : Nat) (v : Int × Int × Int × Int × Int × (List Int) × (List (Int × (Int × (List Int))))) (b : ((List (Int × (Int × (List Int)))) → Option Ans)) : Option Ans := iter (S_tone_Screen_2 fuel) fuel v b
noncomputable def J12_2 (fuel : Nat) (i : Nat) : Option Ev.Blk := Ev.look i [(100000, B12_0 fuel), (100004, B12_4 fuel)]
noncomputable def T12_2 (v : Int × Int × Int × Int × Int × (List Int) × (List (Int × (Int × (List Int))))) : Ev.St := match v with | (x0, x1, x2, x3, x4, x5, x6) => ⟨[(1, .c (.int .i64 x0)), (2, .c (.ptr 0 0)), (6, .c (.ptr 1 0)), (7, .c (.own 2)), (9, .c (.own 3)), (44, .c (.int .i64 x1)), (45, .c (.int .i64 x2))], [(0, .cells 3 [.int .i64 x3]), (1, .cells 3 [.int .i64 x4]), (2, .vec 3 (.int .i64) x5 true), (3, .vec 35 (.pair (.int .i64) (.pair (.int .i64) (.sl (.int .u8)))) x6 true)], 4, 0⟩
noncomputable def E12_2 (K : Ev.Ex → Ev.St → Option Ans) : ((List (Int × (Int × (List Int)))) → Option Ans) := (fun v => match v with | x0 => K .normal ⟨[(9, .c (.own 0))], [(0, .vec 35 (.pair (.int .i64) (.pair (.int .i64) (.sl (.int .u8)))) x0 true)], 1, 0⟩)
theorem S12_2_okg (fuel : Nat) (f25 : YF25) (f38_f91 : YF38_f91) (R : Ev.St → Option Ans) (K : Ev.Ex → Ev.St → Option Ans) (x0 : Int) (x1 : Int) (x2 : Int) (x3 : Int) (x4 : Int) (x5 : (List Int)) (x6 : (List (Int × (Int × (List Int))))) : evalCode tab (Gg12 f25 f38_f91) (J12_2 fuel) kp12 fuel (bodyOf 2 Try.f12) (T12_2 (x0, x1, x2, x3, x4, x5, x6)) (lc kp12 13 2 R K) = (fun (c : (Int × Int × Int × Int × Int × (List Int) × (List (Int × (Int × (List Int))))) → Option Ans) (B : ((List (Int × (Int × (List Int)))) → Option Ans)) => match B with
  | b =>
   bif Decidable.decide (x2 < x1) then
      (f25 (x3) (x3) ((0 : Int))
        (fun (y3_0, y3_1, y3_2, y3_3) =>
          bif Decidable.decide (x0 = (0 : Int)) then
           none
          else
           bif Decidable.decide ((0 : Int) ≤ Ev.loOf Option.none ∧ Ev.loOf Option.none ≤ Ev.hiOf (Option.some (Go.IntKind.i64.wrap ((Go.IntKind.i64.wrap (x2 * x4)).tdiv x0))) (↑x5.length : Int) ∧ Ev.hiOf (Option.some (Go.IntKind.i64.wrap ((Go.IntKind.i64.wrap (x2 * x4)).tdiv x0))) (↑x5.length : Int) ≤ (↑x5.length : Int)) then
           (L_tone_Screen_4 fuel (x0, x1, x2, (Ev.loOf Option.none).toNat, (Ev.hiOf (Option.some (Go.IntKind.i64.wrap ((Go.IntKind.i64.wrap (x2 * x4)).tdiv x0))) (↑x5.length : Int) - Ev.loOf Option.none).toNat, (↑(Ev.hiOf (Option.some (Go.IntKind.i64.wrap ((Go.IntKind.i64.wrap (x2 * x4)).tdiv x0))) (↑x5.length : Int) - Ev.loOf Option.none).toNat : Int), (0 : Int), x3, x4, x5, x6, y3_0, y3_1, y3_3)
              (fun (b4_0, b4_1, b4_2, b4_3, b4_4, b4_5, b4_6, b4_7, b4_8, b4_9) =>
                bif Decidable.decide ((b4_6.length + [(b4_7, b4_8, b4_9)].length) * (40 : Nat) ≤ (140737488355328 : Nat) ∧ b4_6.length + [(b4_7, b4_8, b4_9)].length ≤ (140737488355328 : Nat)) then
                c (b4_0, b4_1, Go.IntKind.i64.wrap (b4_2 + (1 : Int)), b4_3, b4_4, b4_5, b4_6 ++ [(b4_7, b4_8, b4_9)])
                else none))
           else none))
     else
      b x6) (fun v => R (T12_2 v)) (E12_2 K) := by
  kernel_rfl
theorem S12_2_ok (fuel : Nat) (R : Ev.St → Option Ans) (K : Ev.Ex → Ev.St → Option Ans) (x0 : Int) (x1 : Int) (x2 : Int) (x3 : Int) (x4 : Int) (x5 : (List Int)) (x6 : (List (Int × (Int × (List Int))))) : evalCode tab (G12 fuel) (J12_2 fuel) kp12 fuel (bodyOf 2 Try.f12) (T12_2 (x0, x1, x2, x3, x4, x5, x6)) (lc kp12 13 2 R K) = S_tone_Screen_2 fuel (x0, x1, x2, x3, x4, x5, x6) (fun v => R (T12_2 v)) (E12_2 K) :=
  S12_2_okg fuel (F_bitmap_New fuel) (F_slices_SortStableFunc_int_int_f91 fuel) R K x0 x1 x2 x3 x4 x5 x6
noncomputable def B12_2 (fuel : Nat) : Ev.Blk := fun st K => match canonO (kp12 13) st with
  | some s => (match s with
    | ⟨[(q0, .c (.int .i64 x0)), (q1, .c (.ptr q2 q3)), (q4, .c (.ptr q5 q6)), (q7, .c (.own q8)), (q9, .c (.own q10)), (q11, .c (.int .i64 x1)), (q12, .c (.int .i64 x2))], [(q13, .cells q14 [.int .i64 x3]), (q15, .cells q16 [.int .i64 x4]), (q17, .vec q18 (.int .i64) x5 true), (q19, .vec q20 (.pair (.int .i64) (.pair (.int .i64) (.sl (.int .u8)))) x6 true)], q21, q22⟩ => bif Nat.beq q0 1 && Nat.beq q1 2 && Nat.beq q2 0 && Nat.beq q3 0 && Nat.beq q4 6 && Nat.beq q5 1 && Nat.beq q6 0 && Nat.beq q7 7 && Nat.beq q8 2 && Nat.beq q9 9 && Nat.beq q10 3 && Nat.beq q11 44 && Nat.beq q12 45 && Nat.beq q13 0 && Nat.beq q14 3 && Nat.beq q15 1 && Nat.beq q16 3 && Nat.beq q17 2 && Nat.beq q18 3 && Nat.beq q19 3 && Nat.beq q20 35 && Nat.beq q21 4 && Nat.beq q22 0 then iter (S_tone_Screen_2 fuel) fuel (x0, x1, x2, x3, x4, x5, x6) (E12_2 K) else none
    | _ => none)
  | none => none
theorem B12_2_ok (fuel : Nat) (st : Ev.St) (K : Ev.Ex → Ev.St → Option Ans) (r : Ans) (h : B12_2 fuel st K = some r) : evalCode tab (G12 fuel) (J12_2 fuel) kp12 fuel (.block 2 (.loop (bodyOf 2 Try.f12))) st K = some r := by
  unfold B12_2 at h
  split at h
  · rename_i s hs
    split at h
    · skip
      obtain ⟨hb, h⟩ := cond_some' h
      simp only [Bool.and_eq_true, Nat.beq_eq, decide_eq_true_eq] at hb
      obtain ⟨⟨⟨⟨⟨⟨⟨⟨⟨⟨⟨⟨⟨⟨⟨⟨⟨⟨⟨⟨⟨⟨rfl, rfl⟩, rfl⟩, rfl⟩, rfl⟩, rfl⟩, rfl⟩, rfl⟩, rfl⟩, rfl⟩, rfl⟩, rfl⟩, rfl⟩, rfl⟩, rfl⟩, rfl⟩, rfl⟩, rfl⟩, rfl⟩, rfl⟩, rfl⟩, rfl⟩, rfl⟩ := hb
      exact blk_loop (S := T12_2) (ks := E12_2) (step := S_tone_Screen_2 fuel) (v := (_, _, _, _, _, _, _)) (by kernel_rfl) (by kernel_rfl) (fun R K v => by obtain ⟨x0, x1, x2, x3, x4, x5, x6⟩ := v; exact S12_2_ok fuel R K x0 x1 x2 x3 x4 x5 x6) hs h
    · cases h
  · cases h
noncomputable def J12 (fuel : Nat) (i : Nat) : Option Ev.Blk := Ev.look i [(100000, B12_0 fuel), (100004, B12_4 fuel), (100002, B12_2 fuel)]
noncomputable def F_tone_Screen (fuel : Nat) (x0 : Int) (x1 : Int) (k0 : (Int × (List (Int × (Int × (List Int))))) → Option Ans) : Option Ans :=
  bif Decidable.decide (x0 < (1 : Int)) then
   k0 ((2 : Int), [])
  else
   bif Decidable.decide (x0 > (16 : Int)) then
    k0 ((2 : Int), [])
   else
    bif Decidable.decide (x1 < (1 : Int)) then
     k0 ((2 : Int), [])
    else
     bif Decidable.decide (x1 > (64 : Int)) then
      k0 ((2 : Int), [])
     else
      (L_tone_Screen_0 fuel (x1, Go.IntKind.i64.wrap (x0 * x0), (0 : Int), x0, Go.IntKind.i64.wrap (x0 * x0), [])
        (fun (b0_0, b0_1, b0_2, b0_3) =>
          (F_slices_SortStableFunc_int_int_f91 fuel (b0_3) (b0_1) (b0_2)
            (fun (y10_0, y10_1, y10_2) =>
              (L_tone_Screen_2 fuel (b0_0, b0_0, (0 : Int), y10_1, y10_2, y10_0, [])
                (fun b2_0 =>
                  k0 ((0 : Int), b2_0)))))))
abbrev YF12 : Type := (Int) → (Int) → ((Int × (List (Int × (Int × (List Int))))) → Option Ans) → Option Ans
theorem F12_eqg (fuel : Nat) (f25 : YF25) (f38_f91 : YF38_f91) (x0 : Int) (x1 : Int) (k : Ev.Cont) : evalFn tab (Gg12 f25 f38_f91) (J12 fuel) kp12 fuel Try.f12 [.c (.int .i64 x0), .c (.int .i64 x1)] [] k = (fun  (k0 : (Int × (List (Int × (Int × (List Int))))) → Option Ans) =>
  bif Decidable.decide (x0 < (1 : Int)) then
   k0 ((2 : Int), [])
  else
   bif Decidable.decide (x0 > (16 : Int)) then
    k0 ((2 : Int), [])
   else
    bif Decidable.decide (x1 < (1 : Int)) then
     k0 ((2 : Int), [])
    else
     bif Decidable.decide (x1 > (64 : Int)) then
      k0 ((2 : Int), [])
     else
      (L_tone_Screen_0 fuel (x1, Go.IntKind.i64.wrap (x0 * x0), (0 : Int), x0, Go.IntKind.i64.wrap (x0 * x0), [])
        (fun (b0_0, b0_1, b0_2, b0_3) =>
          (f38_f91 (b0_3) (b0_1) (b0_2)
            (fun (y10_0, y10_1, y10_2) =>
              (L_tone_Screen_2 fuel (b0_0, b0_0, (0 : Int), y10_1, y10_2, y10_0, [])
                (fun b2_0 =>
                  k0 ((0 : Int), b2_0)))))))) (fun r => match r with | (r0, r1) => k (.tup [(false, [.own 0]), (false, [.int .i64 r0])], [.vec 35 (.pair (.int .i64) (.pair (.int .i64) (.sl (.int .u8)))) r1 true])) := by
  kernel_rfl
theorem F12_eq (fuel : Nat) (x0 : Int) (x1 : Int) (k : Ev.Cont) : evalFn tab (G12 fuel) (J12 fuel) kp12 fuel Try.f12 [.c (.int .i64 x0), .c (.int .i64 x1)] [] k = F_tone_Screen fuel x0 x1 (fun r => match r with | (r0, r1) => k (.tup [(false, [.own 0]), (false, [.int .i64 r0])], [.vec 35 (.pair (.int .i64) (.pair (.int .i64) (.sl (.int .u8)))) r1 true])) :=
  F12_eqg fuel (F_bitmap_New fuel) (F_slices_SortStableFunc_int_int_f91 fuel) x0 x1 k
theorem hG12 (fuel : Nat) : GOK Try.prog (G12 fuel) :=
  gok_cons ⟨ok25 fuel, enters_of Try.func25 (by kernel_rfl) rfl⟩ <|
  gok_cons ⟨ok38_f91 fuel, enters_of Try.func38 (by kernel_rfl) rfl⟩ <|
  gok_nil
theorem B12_0_blk (fuel : Nat) : BlkOK Try.prog Try.f12.ntmps (.block 0 (.loop (bodyOf 0 Try.f12))) (B12_0 fuel) :=
  blk_of (blk_of_code tab_ok (hG12 fuel) mixed (J := J12_0 fuel) (kp := kp12) (fuel := fuel) (by kernel_rfl) (fun q hq => by
    rw [(by kernel_rfl : obl (J12_0 fuel) (.block 0 (.loop (bodyOf 0 Try.f12))) = [])] at hq
    cases hq)) (B12_0_ok fuel)
theorem B12_4_blk (fuel : Nat) : BlkOK Try.prog Try.f12.ntmps (.block 4 (.loop (bodyOf 4 Try.f12))) (B12_4 fuel) :=
  blk_of (blk_of_code tab_ok (hG12 fuel) mixed (J := J12_4 fuel) (kp := kp12) (fuel := fuel) (by kernel_rfl) (fun q hq => by
    rw [(by kernel_rfl : obl (J12_4 fuel) (.block 4 (.loop (bodyOf 4 Try.f12))) = [])] at hq
    cases hq)) (B12_4_ok fuel)
theorem B12_2_blk (fuel : Nat) : BlkOK Try.prog Try.f12.ntmps (.block 2 (.loop (bodyOf 2 Try.f12))) (B12_2 fuel) :=
  blk_of (blk_of_code tab_ok (hG12 fuel) mixed (J := J12_2 fuel) (kp := kp12) (fuel := fuel) (by kernel_rfl) (fun q hq => by
    rw [(by kernel_rfl : obl (J12_2 fuel) (.block 2 (.loop (bodyOf 2 Try.f12))) = [(.block 4 (.loop (bodyOf 4 Try.f12)), B12_4 fuel)])] at hq
    simp only [List.mem_cons, List.not_mem_nil, or_false] at hq
    subst hq
    · exact B12_4_blk fuel)) (B12_2_ok fuel)
theorem fok12 (fuel : Nat) : FnOK Try.prog 12 (evalFn tab (G12 fuel) (J12 fuel) kp12 fuel Try.f12) :=
  fn_ok tab_ok (hG12 fuel) mixed Try.func12 (c := (Try.f12.body).getD .skip) rfl (fun q hq => by
    rw [(by kernel_rfl : obl (J12 fuel) ((Try.f12.body).getD .skip) = [(.block 0 (.loop (bodyOf 0 Try.f12)), B12_0 fuel), (.block 2 (.loop (bodyOf 2 Try.f12)), B12_2 fuel)])] at hq
    simp only [List.mem_cons, List.not_mem_nil, or_false] at hq
    rcases hq with rfl | rfl
    · exact B12_0_blk fuel
    · exact B12_2_blk fuel)
noncomputable def mt12 : List Ev.SV → List Ev.Ob → Bool := fun args objs => match args, objs with
  | [.c (.int .i64 _), .c (.int .i64 _)], [] => true
  | _, _ => false
noncomputable def spg12 (F : YF12) : Ev.Spec := fun args objs k => match args, objs with
  | [.c (.int .i64 x0), .c (.int .i64 x1)], [] => bif true then F x0 x1 (fun r => match r with | (r0, r1) => k (.tup [(false, [.own 0]), (false, [.int .i64 r0])], [.vec 35 (.pair (.int .i64) (.pair (.int .i64) (.sl (.int .u8)))) r1 true])) else none
  | _, _ => none
noncomputable def spec12 (fuel : Nat) : Ev.Spec := spg12 (F_tone_Screen fuel)
theorem ok12 (fuel : Nat) : FnOK Try.prog 12 (spec12 fuel) := by
  intro args objs kk r h
  unfold spec12 spg12 at h
  split at h
  · skip
    obtain ⟨hb, h⟩ := cond_some' h
    simp only [Bool.and_eq_true, Nat.beq_eq, decide_eq_true_eq] at hb
    clear hb
    exact fok12 fuel _ _ kk r ((F12_eq fuel _ _ kk).trans h)
  · cases h
end Go.Proofs.Ytipdidpalcmlhaa

set_option linter.unusedVariables false
set_option linter.unusedSimpArgs false
set_option maxRecDepth 100000
set_option maxHeartbeats 2000000
namespace Go.Proofs.Ytipdidpalcmlhaa
open Go Ev
def kp4 (i : Nat) : Option (List Nat) := Ev.look i [(10, [7, 15]), (13, [7, 15, 16]), (100000, []), (100002, [7, 15]), (400000, [6]), (400002, [6])]
noncomputable def Gg4 (f7 : YF7) (f11 : YF11) (f12 : YF12) (f13 : YF13) (f14 : YF14) (f15 : YF15) (f16 : YF16) (f : Nat) : Option Ev.Spec := Ev.look f [(7, spg7 f7), (11, spg11 f11), (12, spg12 f12), (13, spg13 f13), (14, spg14 f14), (15, spg15 f15), (16, spg16 f16)]
noncomputable def G4 (fuel : Nat) : Nat → Option Ev.Spec := Gg4 (F_law11_Sane fuel) (F_ref09_SameBitmaps fuel) (F_tone_Screen fuel) (F_ref11_Screen fuel) (F_tone_Dither fuel) (F_ref11_Dither fuel) (F_ref01_SameInts fuel)
noncomputable def S_law11_ToneScreens_2 (fuel : Nat) (v : Int × Int × (List (Int × (Int × (List Int))))) (c : (Int × Int × (List (Int × (Int × (List Int))))) → Option Ans) (B : (Bool → Option Ans) × (Int × (List (Int × (Int × (List Int)))) → Option Ans)) : Option Ans := match v, B with
  | (x0, x1, x2), (ret, b) =>
   bif Decidable.decide ((0 : Int) ≤ x0 ∧ x0 < (↑x2.length : Int)) then
     bif Decidable.decide (x1 < (↑(List.length (x2.getD x0.toNat ((0 : Int), (0 : Int), [])).snd.snd) : Int)) then
       bif Decidable.decide ((0 : Int) ≤ Go.IntKind.i64.wrap (x0 - (1 : Int)) ∧ Go.IntKind.i64.wrap (x0 - (1 : Int)) < (↑x2.length : Int)) then
       bif Decidable.decide ((0 : Int) ≤ x1 ∧ x1 < (↑(List.length (x2.getD (Go.IntKind.i64.wrap (x0 - (1 : Int))).toNat ((0 : Int), (0 : Int), [])).snd.snd) : Int)) then
        bif List.getD (x2.getD (Go.IntKind.i64.wrap (x0 - (1 : Int))).toNat ((0 : Int), (0 : Int), [])).snd.snd x1.toNat (0 : Int) == (1 : Int) then
          bif Decidable.decide ((0 : Int) ≤ x0 ∧ x0 < (↑x2.length : Int)) then
          bif Decidable.decide ((0 : Int) ≤ x1 ∧ x1 < (↑(List.length (x2.getD x0.toNat ((0 : Int), (0 : Int), [])).snd.snd) : Int)) then
           bif List.getD (x2.getD x0.toNat ((0 : Int), (0 : Int), [])).snd.snd x1.toNat (0 : Int) == (0 : Int) then
             ret Bool.false
            else
             c (x0, Go.IntKind.i64.wrap (x1 + (1 : Int)), x2)
           else none
          else none
         else
          c (x0, Go.IntKind.i64.wrap (x1 + (1 : Int)), x2)
        else none
       else none
      else
       b (x0, x2)
     else none
noncomputable def L_law11_ToneScreens_2 (fuel : Nat) (v : Int × Int × (List (Int × (Int × (List Int))))) (ret : (Bool → Option Ans)) (b : (Int × (List (Int × (Int × (List Int)))) → Option Ans)) : Option Ans := iter (S_law11_ToneScreens_2 fuel) fuel v (ret, b)
noncomputable def J4_2 (fuel : Nat) (i : Nat) : Option Ev.Blk := Ev.look i []
noncomputable def T4_2 (v : Int × Int × (List (Int × (Int × (List Int))))) : Ev.St := match v with | (x0, x1, x2) => ⟨[(7, .c (.own 0)), (15, .c (.int .i64 x0)), (16, .c (.int .i64 x1))], [(0, .vec 35 (.pair (.int .i64) (.pair (.int .i64) (.sl (.int .u8)))) x2 true)], 1, 0⟩
noncomputable def E4_2 (K : Ev.Ex → Ev.St → Option Ans) : (Bool → Option Ans) × (Int × (List (Int × (Int × (List Int)))) → Option Ans) := ((fun v => match v with | x0 => K .ret ⟨[(6, .c (.bool x0))], [], 0, 0⟩), (fun v => match v with | (x0, x1) => K .normal ⟨[(7, .c (.own 0)), (15, .c (.int .i64 x0))], [(0, .vec 35 (.pair (.int .i64) (.pair (.int .i64) (.sl (.int .u8)))) x1 true)], 1, 0⟩))
theorem S4_2_okg (fuel : Nat) (f7 : YF7) (f11 : YF11) (f12 : YF12) (f13 : YF13) (f14 : YF14) (f15 : YF15) (f16 : YF16) (R : Ev.St → Option Ans) (K : Ev.Ex → Ev.St → Option Ans) (x0 : Int) (x1 : Int) (x2 : (List (Int × (Int × (List Int))))) : evalCode tab (Gg4 f7 f11 f12 f13 f14 f15 f16) (J4_2 fuel) kp4 fuel (bodyOf 2 Try.f4) (T4_2 (x0, x1, x2)) (lc kp4 13 2 R K) = (fun (c : (Int × Int × (List (Int × (Int × (List Int))))) → Option Ans) (B : (Bool → Option Ans) × (Int × (List (Int × (Int × (List Int)))) → Option Ans)) => match B with
  | (ret, b) =>
   bif Decidable.decide ((0 : Int) ≤ x0 ∧ x0 < (↑x2.length : Int)) then
     bif Decidable.decide (x1 < (↑(List.length (x2.getD x0.toNat ((0 : Int), (0 : Int), [])).snd.snd) : Int)) then
       bif Decidable.decide ((0 : Int) ≤ Go.IntKind.i64.wrap (x0 - (1 : Int)) ∧ Go.IntKind.i64.wrap (x0 - (1 : Int)) < (↑x2.length : Int)) then
       bif Decidable.decide ((0 : Int) ≤ x1 ∧ x1 < (↑(List.length (x2.getD (Go.IntKind.i64.wrap (x0 - (1 : Int))).toNat ((0 : Int), (0 : Int), [])).snd.snd) : Int)) then
        bif List.getD (x2.getD (Go.IntKind.i64.wrap (x0 - (1 : Int))).toNat ((0 : Int), (0 : Int), [])).snd.snd x1.toNat (0 : Int) == (1 : Int) then
          bif Decidable.decide ((0 : Int) ≤ x0 ∧ x0 < (↑x2.length : Int)) then
          bif Decidable.decide ((0 : Int) ≤ x1 ∧ x1 < (↑(List.length (x2.getD x0.toNat ((0 : Int), (0 : Int), [])).snd.snd) : Int)) then
           bif List.getD (x2.getD x0.toNat ((0 : Int), (0 : Int), [])).snd.snd x1.toNat (0 : Int) == (0 : Int) then
             ret Bool.false
            else
             c (x0, Go.IntKind.i64.wrap (x1 + (1 : Int)), x2)
           else none
          else none
         else
          c (x0, Go.IntKind.i64.wrap (x1 + (1 : Int)), x2)
        else none
       else none
      else
       b (x0, x2)
     else none) (fun v => R (T4_2 v)) (E4_2 K) := by
  kernel_rfl
theorem S4_2_ok (fuel : Nat) (R : Ev.St → Option Ans) (K : Ev.Ex → Ev.St → Option Ans) (x0 : Int) (x1 : Int) (x2 : (List (Int × (Int × (List Int))))) : evalCode tab (G4 fuel) (J4_2 fuel) kp4 fuel (bodyOf 2 Try.f4) (T4_2 (x0, x1, x2)) (lc kp4 13 2 R K) = S_law11_ToneScreens_2 fuel (x0, x1, x2) (fun v => R (T4_2 v)) (E4_2 K) :=
  S4_2_okg fuel (F_law11_Sane fuel) (F_ref09_SameBitmaps fuel) (F_tone_Screen fuel) (F_ref11_Screen fuel) (F_tone_Dither fuel) (F_ref11_Dither fuel) (F_ref01_SameInts fuel) R K x0 x1 x2
noncomputable def B4_2 (fuel : Nat) : Ev.Blk := fun st K => match canonO (kp4 13) st with
  | some s => (match s with
    | ⟨[(q0, .c (.own q1)), (q2, .c (.int .i64 x0)), (q3, .c (.int .i64 x1))], [(q4, .vec q5 (.pair (.int .i64) (.pair (.int .i64) (.sl (.int .u8)))) x2 true)], q6, q7⟩ => bif Nat.beq q0 7 && Nat.beq q1 0 && Nat.beq q2 15 && Nat.beq q3 16 && Nat.beq q4 0 && Nat.beq q5 35 && Nat.beq q6 1 && Nat.beq q7 0 then iter (S_law11_ToneScreens_2 fuel) fuel (x0, x1, x2) (E4_2 K) else none
    | _ => none)
  | none => none
theorem B4_2_ok (fuel : Nat) (st : Ev.St) (K : Ev.Ex → Ev.St → Option Ans) (r : Ans) (h : B4_2 fuel st K = some r) : evalCode tab (G4 fuel) (J4_2 fuel) kp4 fuel (.block 2 (.loop (bodyOf 2 Try.f4))) st K = some r := by
  unfold B4_2 at h
  split at h
  · rename_i s hs
    split at h
    · skip
      obtain ⟨hb, h⟩ := cond_some' h
      simp only [Bool.and_eq_true, Nat.beq_eq, decide_eq_true_eq] at hb
      obtain ⟨⟨⟨⟨⟨⟨⟨rfl, rfl⟩, rfl⟩, rfl⟩, rfl⟩, rfl⟩, rfl⟩, rfl⟩ := hb
      exact blk_loop (S := T4_2) (ks := E4_2) (step := S_law11_ToneScreens_2 fuel) (v := (_, _, _)) (by kernel_rfl) (by kernel_rfl) (fun R K v => by obtain ⟨x0, x1, x2⟩ := v; exact S4_2_ok fuel R K x0 x1 x2) hs h
    · cases h
  · cases h
noncomputable def S_law11_ToneScreens_0 (fuel : Nat) (v : Int × (List (Int × (Int × (List Int))))) (c : (Int × (List (Int × (Int × (List Int))))) → Option Ans) (B : (Bool → Option Ans) × (Unit → Option Ans)) : Option Ans := match v, B with
  | (x0, x1), (ret, b) =>
   bif Decidable.decide (x0 < (↑x1.length : Int)) then
      (L_law11_ToneScreens_2 fuel (x0, (0 : Int), x1)
        (fun ret2_0 =>
          ret ret2_0)
        (fun (b2_0, b2_1) =>
          c (Go.IntKind.i64.wrap (b2_0 + (1 : Int)), b2_1)))
     else
      b ()
noncomputable def L_law11_ToneScreens_0 (fuel : Nat) (v : Int × (List (Int × (Int × (List Int))))) (ret : (Bool → Option Ans)) (b : (Unit → Option Ans)) : Option Ans := iter (S_law11_ToneScreens_0 fuel) fuel v (ret, b)
noncomputable def J4_0 (fuel : Nat) (i : Nat) : Option Ev.Blk := Ev.look i [(100002, B4_2 fuel)]
noncomputable def T4_0 (v : Int × (List (Int × (Int × (List Int))))) : Ev.St := match v with | (x0, x1) => ⟨[(7, .c (.own 0)), (15, .c (.int .i64 x0))], [(0, .vec 35 (.pair (.int .i64) (.pair (.int .i64) (.sl (.int .u8)))) x1 true)], 1, 0⟩
noncomputable def E4_0 (K : Ev.Ex → Ev.St → Option Ans) : (Bool → Option Ans) × (Unit → Option Ans) := ((fun v => match v with | x0 => K .ret ⟨[(6, .c (.bool x0))], [], 0, 0⟩), (fun v => match v with | () => K .normal ⟨[], [], 0, 0⟩))
theorem S4_0_okg (fuel : Nat) (f7 : YF7) (f11 : YF11) (f12 : YF12) (f13 : YF13) (f14 : YF14) (f15 : YF15) (f16 : YF16) (R : Ev.St → Option Ans) (K : Ev.Ex → Ev.St → Option Ans) (x0 : Int) (x1 : (List (Int × (Int × (List Int))))) : evalCode tab (Gg4 f7 f11 f12 f13 f14 f15 f16) (J4_0 fuel) kp4 fuel (bodyOf 0 Try.f4) (T4_0 (x0, x1)) (lc kp4 10 0 R K) = (fun (c : (Int × (List (Int × (Int × (List Int))))) → Option Ans) (B : (Bool → Option Ans) × (Unit → Option Ans)) => match B with
  | (ret, b) =>
   bif Decidable.decide (x0 < (↑x1.length : Int)) then
      (L_law11_ToneScreens_2 fuel (x0, (0 : Int), x1)
        (fun ret2_0 =>
          ret ret2_0)
        (fun (b2_0, b2_1) =>
          c (Go.IntKind.i64.wrap (b2_0 + (1 : Int)), b2_1)))
     else
      b ()) (fun v => R (T4_0 v)) (E4_0 K) := by
  kernel_rfl
theorem S4_0_ok (fuel : Nat) (R : Ev.St → Option Ans) (K : Ev.Ex → Ev.St → Option Ans) (x0 : Int) (x1 : (List (Int × (Int × (List Int))))) : evalCode tab (G4 fuel) (J4_0 fuel) kp4 fuel (bodyOf 0 Try.f4) (T4_0 (x0, x1)) (lc kp4 10 0 R K) = S_law11_ToneScreens_0 fuel (x0, x1) (fun v => R (T4_0 v)) (E4_0 K) :=
  S4_0_okg fuel (F_law11_Sane fuel) (F_ref09_SameBitmaps fuel) (F_tone_Screen fuel) (F_ref11_Screen fuel) (F_tone_Dither fuel) (F_ref11_Dither fuel) (F_ref01_SameInts fuel) R K x0 x1
noncomputable def B4_0 (fuel : Nat) : Ev.Blk := fun st K => match canonO (kp4 10) st with
  | some s => (match s with
    | ⟨[(q0, .c (.own q1)), (q2, .c (.int .i64 x0))], [(q3, .vec q4 (.pair (.int .i64) (.pair (.int .i64) (.sl (.int .u8)))) x1 true)], q5, q6⟩ => bif Nat.beq q0 7 && Nat.beq q1 0 && Nat.beq q2 15 && Nat.beq q3 0 && Nat.beq q4 35 && Nat.beq q5 1 && Nat.beq q6 0 then iter (S_law11_ToneScreens_0 fuel) fuel (x0, x1) (E4_0 K) else none
    | _ => none)
  | none => none
theorem B4_0_ok (fuel : Nat) (st : Ev.St) (K : Ev.Ex → Ev.St → Option Ans) (r : Ans) (h : B4_0 fuel st K = some r) : evalCode tab (G4 fuel) (J4_0 fuel) kp4 fuel (.block 0 (.loop (bodyOf 0 Try.f4))) st K = some r := by
  unfold B4_0 at h
  split at h
  · rename_i s hs
    split at h
    · skip
      obtain ⟨hb, h⟩ := cond_some' h
      simp only [Bool.and_eq_true, Nat.beq_eq, decide_eq_true_eq] at hb
      obtain ⟨⟨⟨⟨⟨⟨rfl, rfl⟩, rfl⟩, rfl⟩, rfl⟩, rfl⟩, rfl⟩ := hb
      exact blk_loop (S := T4_0) (ks := E4_0) (step := S_law11_ToneScreens_0 fuel) (v := (_, _)) (by kernel_rfl) (by kernel_rfl) (fun R K v => by obtain ⟨x0, x1⟩ := v; exact S4_0_ok fuel R K x0 x1) hs h
    · cases h
  · cases h
noncomputable def J4 (fuel : Nat) (i : Nat) : Option Ev.Blk := Ev.look i [(100002, B4_2 fuel), (100000, B4_0 fuel)]
noncomputable def F_law11_ToneScreens (fuel : Nat) (x0 : Int) (x1 : Int) (x2 : (List Int)) (x3 : Int) (x4 : Int) (k0 : (Bool) → Option Ans) : Option Ans :=
  bif Decidable.decide ((↑x2.length : Int) > (2000 : Int)) then
   (F_law11_Sane fuel
     (fun y3 =>
       k0 y3))
  else
   (F_tone_Screen fuel (x3) (x4)
     (fun (y3_0, y3_1) =>
       (F_ref11_Screen fuel (x3) (x4)
         (fun (y7_0, y7_1) =>
           (F_tone_Dither fuel (x0) (x1) (x2) (x3) (x4)
             (fun (y11_0, y11_1) =>
               (F_ref11_Dither fuel (x0) (x1) (x2) (x3) (x4)
                 (fun (y15_0, y15_1) =>
                   bif y3_0 != y7_0 then
                    k0 Bool.false
                   else
                    bif y11_0 != y15_0 then
                     k0 Bool.false
                    else
                     (F_ref09_SameBitmaps fuel (y3_1) (y7_1)
                       (fun y21 =>
                         bif !y21 then
                          k0 Bool.false
                         else
                          (F_ref01_SameInts fuel (y11_1) (y15_1)
                            (fun y26 =>
                              bif !y26 then
                               k0 Bool.false
                              else
                               (L_law11_ToneScreens_0 fuel ((1 : Int), y3_1)
                                 (fun ret0_0 =>
                                   k0 ret0_0)
                                 (fun () =>
                                   (F_law11_Sane fuel
                                     (fun y35 =>
                                       k0 y35))))))))))))))))
abbrev YF4 : Type := (Int) → (Int) → ((List Int)) → (Int) → (Int) → ((Bool) → Option Ans) → Option Ans
theorem F4_eqg (fuel : Nat) (f7 : YF7) (f11 : YF11) (f12 : YF12) (f13 : YF13) (f14 : YF14) (f15 : YF15) (f16 : YF16) (x0 : Int) (x1 : Int) (x2 : (List Int)) (x3 : Int) (x4 : Int) (k : Ev.Cont) : evalFn tab (Gg4 f7 f11 f12 f13 f14 f15 f16) (J4 fuel) kp4 fuel Try.f4 [.agg [.int .i64 x0, .int .i64 x1, .sl (.int .i64) x2], .c (.int .i64 x3), .c (.int .i64 x4)] [] k = (fun  (k0 : (Bool) → Option Ans) =>
  bif Decidable.decide ((↑x2.length : Int) > (2000 : Int)) then
   (f7
     (fun y3 =>
       k0 y3))
  else
   (f12 (x3) (x4)
     (fun (y3_0, y3_1) =>
       (f13 (x3) (x4)
         (fun (y7_0, y7_1) =>
           (f14 (x0) (x1) (x2) (x3) (x4)
             (fun (y11_0, y11_1) =>
               (f15 (x0) (x1) (x2) (x3) (x4)
                 (fun (y15_0, y15_1) =>
                   bif y3_0 != y7_0 then
                    k0 Bool.false
                   else
                    bif y11_0 != y15_0 then
                     k0 Bool.false
                    else
                     (f11 (y3_1) (y7_1)
                       (fun y21 =>
                         bif !y21 then
                          k0 Bool.false
                         else
                          (f16 (y11_1) (y15_1)
                            (fun y26 =>
                              bif !y26 then
                               k0 Bool.false
                              else
                               (L_law11_ToneScreens_0 fuel ((1 : Int), y3_1)
                                 (fun ret0_0 =>
                                   k0 ret0_0)
                                 (fun () =>
                                   (f7
                                     (fun y35 =>
                                       k0 y35))))))))))))))))) (fun r => match r with | r0 => k (.c (.bool r0), [])) := by
  kernel_rfl
theorem F4_eq (fuel : Nat) (x0 : Int) (x1 : Int) (x2 : (List Int)) (x3 : Int) (x4 : Int) (k : Ev.Cont) : evalFn tab (G4 fuel) (J4 fuel) kp4 fuel Try.f4 [.agg [.int .i64 x0, .int .i64 x1, .sl (.int .i64) x2], .c (.int .i64 x3), .c (.int .i64 x4)] [] k = F_law11_ToneScreens fuel x0 x1 x2 x3 x4 (fun r => match r with | r0 => k (.c (.bool r0), [])) :=
  F4_eqg fuel (F_law11_Sane fuel) (F_ref09_SameBitmaps fuel) (F_tone_Screen fuel) (F_ref11_Screen fuel) (F_tone_Dither fuel) (F_ref11_Dither fuel) (F_ref01_SameInts fuel) x0 x1 x2 x3 x4 k
theorem hG4 (fuel : Nat) : GOK Try.prog (G4 fuel) :=
  gok_cons ⟨ok7 fuel, enters_of Try.func7 (by kernel_rfl) rfl⟩ <|
  gok_cons ⟨ok11 fuel, enters_of Try.func11 (by kernel_rfl) rfl⟩ <|
  gok_cons ⟨ok12 fuel, enters_of Try.func12 (by kernel_rfl) rfl⟩ <|
  gok_cons ⟨ok13 fuel, enters_of Try.func13 (by kernel_rfl) rfl⟩ <|
  gok_cons ⟨ok14 fuel, enters_of Try.func14 (by kernel_rfl) rfl⟩ <|
  gok_cons ⟨ok15 fuel, enters_of Try.func15 (by kernel_rfl) rfl⟩ <|
  gok_cons ⟨ok16 fuel, enters_of Try.func16 (by kernel_rfl) rfl⟩ <|
  gok_nil
theorem B4_2_blk (fuel : Nat) : BlkOK Try.prog Try.f4.ntmps (.block 2 (.loop (bodyOf 2 Try.f4))) (B4_2 fuel) :=
  blk_of (blk_of_code tab_ok (hG4 fuel) mixed (J := J4_2 fuel) (kp := kp4) (fuel := fuel) (by kernel_rfl) (fun q hq => by
    rw [(by kernel_rfl : obl (J4_2 fuel) (.block 2 (.loop (bodyOf 2 Try.f4))) = [])] at hq
    cases hq)) (B4_2_ok fuel)
theorem B4_0_blk (fuel : Nat) : BlkOK Try.prog Try.f4.ntmps (.block 0 (.loop (bodyOf 0 Try.f4))) (B4_0 fuel) :=
  blk_of (blk_of_code tab_ok (hG4 fuel) mixed (J := J4_0 fuel) (kp := kp4) (fuel := fuel) (by kernel_rfl) (fun q hq => by
    rw [(by kernel_rfl : obl (J4_0 fuel) (.block 0 (.loop (bodyOf 0 Try.f4))) = [(.block 2 (.loop (bodyOf 2 Try.f4)), B4_2 fuel)])] at hq
    simp only [List.mem_cons, List.not_mem_nil, or_false] at hq
    subst hq
    · exact B4_2_blk fuel)) (B4_0_ok fuel)
theorem fok4 (fuel : Nat) : FnOK Try.prog 4 (evalFn tab (G4 fuel) (J4 fuel) kp4 fuel Try.f4) :=
  fn_ok tab_ok (hG4 fuel) mixed Try.func4 (c := (Try.f4.body).getD .skip) rfl (fun q hq => by
    rw [(by kernel_rfl : obl (J4 fuel) ((Try.f4.body).getD .skip) = [(.block 0 (.loop (bodyOf 0 Try.f4)), B4_0 fuel)])] at hq
    simp only [List.mem_cons, List.not_mem_nil, or_false] at hq
    subst hq
    · exact B4_0_blk fuel)
noncomputable def mt4 : List Ev.SV → List Ev.Ob → Bool := fun args objs => match args, objs with
  | [.agg [.int .i64 _, .int .i64 _, .sl (.int .i64) _], .c (.int .i64 _), .c (.int .i64 _)], [] => true
  | _, _ => false
noncomputable def spg4 (F : YF4) : Ev.Spec := fun args objs k => match args, objs with
  | [.agg [.int .i64 x0, .int .i64 x1, .sl (.int .i64) x2], .c (.int .i64 x3), .c (.int .i64 x4)], [] => bif true then F x0 x1 x2 x3 x4 (fun r => match r with | r0 => k (.c (.bool r0), [])) else none
  | _, _ => none
noncomputable def spec4 (fuel : Nat) : Ev.Spec := spg4 (F_law11_ToneScreens fuel)
theorem ok4 (fuel : Nat) : FnOK Try.prog 4 (spec4 fuel) := by
  intro args objs kk r h
  unfold spec4 spg4 at h
  split at h
  · skip
    obtain ⟨hb, h⟩ := cond_some' h
    simp only [Bool.and_eq_true, Nat.beq_eq, decide_eq_true_eq] at hb
    clear hb
    exact fok4 fuel _ _ kk r ((F4_eq fuel _ _ _ _ _ kk).trans h)
  · cases h
end Go.Proofs.Ytipdidpalcmlhaa

