/- incunable/tone.FromPlanes: its typed text, and that the machine does it. -/
import Derived.Test.YtajidgilfkineaaEvU
import Derived.Test.YtajidgilfkineaaFslicesContainsFuncbytebyte510
set_option linter.unusedVariables false
set_option linter.unusedSimpArgs false
set_option maxRecDepth 100000
namespace Go.Proofs.Ytajidgilfkineaa
open Go Ev
def kp20 (i : Nat) : Option (List Nat) := Ev.look i [(5, [0, 4, 12, 13, 14]), (12, [0, 4, 12, 13, 14, 35, 36, 37]), (100000, [4]), (100002, [0, 4, 12, 13, 14]), (400000, [2, 3]), (400002, [2, 3])]
def Gg20 (f59_510 : YF59_510) (f : Nat) : Option Ev.Spec := Ev.look f [(59, spg59_510 f59_510)]
def G20 (fuel : Nat) : Nat → Option Ev.Spec := Gg20 (F_slices_ContainsFunc_byte_byte_510 fuel)
def S_tone_FromPlanes_2 (fuel : Nat) (v : (List (List Int)) × (List (List Int)) × Int × Int × (List Int) × Int × Int × (List Int)) (c : ((List (List Int)) × (List (List Int)) × Int × Int × (List Int) × Int × Int × (List Int)) → Option Ans) (B : ((List (List Int)) × (List (List Int)) × Int × Int × (List Int) → Option Ans)) : Option Ans := match v, B with
  | (x0, x1, x2, x3, x4, x5, x6, x7), b =>
   bif Decidable.decide (x6 < x5) then
      bif Decidable.decide ((0 : Int) ≤ x6 ∧ x6 < (↑x4.length : Int)) then
      bif Decidable.decide ((0 : Int) ≤ x6 ∧ x6 < (↑x7.length : Int)) then
       bif Decidable.decide ((0 : Int) ≤ x6 ∧ x6 < (↑x7.length : Int)) then
        both (bif Decidable.decide ((0 : Int) ≤ x6 ∧ x6 < (↑x7.length : Int)) then
           c (x0, x1, x2, x3, x4, x5, Go.IntKind.i64.wrap (x6 + (1 : Int)), x7.set x6.toNat (Go.IntKind.i64.wrap (Go.IntKind.i64.wrap ((2 : Int) * x7.getD x6.toNat (0 : Int)) + Ev.ixor Go.IntKind.i64 (Ev.iand Go.IntKind.i64 (x7.getD x6.toNat (0 : Int)) (1 : Int)) (Go.IntKind.i64.wrap (x4.getD x6.toNat (0 : Int))))))
           else none)
          (bif Decidable.decide ((0 : Int) ≤ x6 ∧ x6 < (↑x7.length : Int)) then
           c (x0, x1, x2, x3, x4, x5, Go.IntKind.i64.wrap (x6 + (1 : Int)), x7.set x6.toNat (Go.IntKind.i64.wrap (Go.IntKind.i64.wrap ((2 : Int) * x7.getD x6.toNat (0 : Int)) + Ev.ixor Go.IntKind.i64 (Ev.iand Go.IntKind.i64 (x7.getD x6.toNat (0 : Int)) (1 : Int)) (Go.IntKind.i64.wrap (x4.getD x6.toNat (0 : Int))))))
           else none)
        else none
       else none
      else none
     else
      b (x0, x1, x2, x3, x7)
def L_tone_FromPlanes_2 (fuel : Nat) (v : (List (List Int)) × (List (List Int)) × Int × Int × (List Int) × Int × Int × (List Int)) (b : ((List (List Int)) × (List (List Int)) × Int × Int × (List Int) → Option Ans)) : Option Ans := iter (S_tone_FromPlanes_2 fuel) fuel v b
def J20_2 (fuel : Nat) (i : Nat) : Option Ev.Blk := Ev.look i []
def T20_2 (v : (List (List Int)) × (List (List Int)) × Int × Int × (List Int) × Int × Int × (List Int)) : Ev.St := match v with | (x0, x1, x2, x3, x4, x5, x6, x7) => ⟨[(0, .c (.sl (.sl (.int .u8)) x0)), (4, .c (.own 0)), (12, .c (.sl (.sl (.int .u8)) x1)), (13, .c (.int .i64 x2)), (14, .c (.int .i64 x3)), (35, .c (.sl (.int .u8) x4)), (36, .c (.int .i64 x5)), (37, .c (.int .i64 x6))], [(0, .vec 3 (.int .i64) x7 true)], 1, 0⟩
def E20_2 (K : Ev.Ex → Ev.St → Option Ans) : ((List (List Int)) × (List (List Int)) × Int × Int × (List Int) → Option Ans) := (fun v => match v with | (x0, x1, x2, x3, x4) => K .normal ⟨[(0, .c (.sl (.sl (.int .u8)) x0)), (4, .c (.own 0)), (12, .c (.sl (.sl (.int .u8)) x1)), (13, .c (.int .i64 x2)), (14, .c (.int .i64 x3))], [(0, .vec 3 (.int .i64) x4 true)], 1, 0⟩)
theorem S20_2_okg (fuel : Nat) (f59_510 : YF59_510) (R : Ev.St → Option Ans) (K : Ev.Ex → Ev.St → Option Ans) (x0 : (List (List Int))) (x1 : (List (List Int))) (x2 : Int) (x3 : Int) (x4 : (List Int)) (x5 : Int) (x6 : Int) (x7 : (List Int)) : evalCode tab (Gg20 f59_510) (J20_2 fuel) kp20 fuel (bodyOf 2 Try.f20) (T20_2 (x0, x1, x2, x3, x4, x5, x6, x7)) (lc kp20 12 2 R K) = (fun (c : ((List (List Int)) × (List (List Int)) × Int × Int × (List Int) × Int × Int × (List Int)) → Option Ans) (B : ((List (List Int)) × (List (List Int)) × Int × Int × (List Int) → Option Ans)) => match B with
  | b =>
   bif Decidable.decide (x6 < x5) then
      bif Decidable.decide ((0 : Int) ≤ x6 ∧ x6 < (↑x4.length : Int)) then
      bif Decidable.decide ((0 : Int) ≤ x6 ∧ x6 < (↑x7.length : Int)) then
       bif Decidable.decide ((0 : Int) ≤ x6 ∧ x6 < (↑x7.length : Int)) then
        both (bif Decidable.decide ((0 : Int) ≤ x6 ∧ x6 < (↑x7.length : Int)) then
           c (x0, x1, x2, x3, x4, x5, Go.IntKind.i64.wrap (x6 + (1 : Int)), x7.set x6.toNat (Go.IntKind.i64.wrap (Go.IntKind.i64.wrap ((2 : Int) * x7.getD x6.toNat (0 : Int)) + Ev.ixor Go.IntKind.i64 (Ev.iand Go.IntKind.i64 (x7.getD x6.toNat (0 : Int)) (1 : Int)) (Go.IntKind.i64.wrap (x4.getD x6.toNat (0 : Int))))))
           else none)
          (bif Decidable.decide ((0 : Int) ≤ x6 ∧ x6 < (↑x7.length : Int)) then
           c (x0, x1, x2, x3, x4, x5, Go.IntKind.i64.wrap (x6 + (1 : Int)), x7.set x6.toNat (Go.IntKind.i64.wrap (Go.IntKind.i64.wrap ((2 : Int) * x7.getD x6.toNat (0 : Int)) + Ev.ixor Go.IntKind.i64 (Ev.iand Go.IntKind.i64 (x7.getD x6.toNat (0 : Int)) (1 : Int)) (Go.IntKind.i64.wrap (x4.getD x6.toNat (0 : Int))))))
           else none)
        else none
       else none
      else none
     else
      b (x0, x1, x2, x3, x7)) (fun v => R (T20_2 v)) (E20_2 K) := by
  kernel_rfl
theorem S20_2_ok (fuel : Nat) (R : Ev.St → Option Ans) (K : Ev.Ex → Ev.St → Option Ans) (x0 : (List (List Int))) (x1 : (List (List Int))) (x2 : Int) (x3 : Int) (x4 : (List Int)) (x5 : Int) (x6 : Int) (x7 : (List Int)) : evalCode tab (G20 fuel) (J20_2 fuel) kp20 fuel (bodyOf 2 Try.f20) (T20_2 (x0, x1, x2, x3, x4, x5, x6, x7)) (lc kp20 12 2 R K) = S_tone_FromPlanes_2 fuel (x0, x1, x2, x3, x4, x5, x6, x7) (fun v => R (T20_2 v)) (E20_2 K) :=
  S20_2_okg fuel (F_slices_ContainsFunc_byte_byte_510 fuel) R K x0 x1 x2 x3 x4 x5 x6 x7
def B20_2 (fuel : Nat) : Ev.Blk := fun st K => match canonO (kp20 12) st with
  | some s => (match s with
    | ⟨[(q0, .c (.sl (.sl (.int .u8)) x0)), (q1, .c (.own q2)), (q3, .c (.sl (.sl (.int .u8)) x1)), (q4, .c (.int .i64 x2)), (q5, .c (.int .i64 x3)), (q6, .c (.sl (.int .u8) x4)), (q7, .c (.int .i64 x5)), (q8, .c (.int .i64 x6))], [(q9, .vec q10 (.int .i64) x7 true)], q11, q12⟩ => bif Nat.beq q0 0 && Nat.beq q1 4 && Nat.beq q2 0 && Nat.beq q3 12 && Nat.beq q4 13 && Nat.beq q5 14 && Nat.beq q6 35 && Nat.beq q7 36 && Nat.beq q8 37 && Nat.beq q9 0 && Nat.beq q10 3 && Nat.beq q11 1 && Nat.beq q12 0 then iter (S_tone_FromPlanes_2 fuel) fuel (x0, x1, x2, x3, x4, x5, x6, x7) (E20_2 K) else none
    | _ => none)
  | none => none
theorem B20_2_ok (fuel : Nat) (st : Ev.St) (K : Ev.Ex → Ev.St → Option Ans) (r : Ans) (h : B20_2 fuel st K = some r) : evalCode tab (G20 fuel) (J20_2 fuel) kp20 fuel (.block 2 (.loop (bodyOf 2 Try.f20))) st K = some r := by
  unfold B20_2 at h
  split at h
  · rename_i s hs
    split at h
    · obtain ⟨hb, h⟩ := cond_some' h
      simp only [Bool.and_eq_true, Nat.beq_eq, decide_eq_true_eq] at hb
      obtain ⟨⟨⟨⟨⟨⟨⟨⟨⟨⟨⟨⟨rfl, rfl⟩, rfl⟩, rfl⟩, rfl⟩, rfl⟩, rfl⟩, rfl⟩, rfl⟩, rfl⟩, rfl⟩, rfl⟩, rfl⟩ := hb
      exact blk_loop (S := T20_2) (ks := E20_2) (step := S_tone_FromPlanes_2 fuel) (v := (_, _, _, _, _, _, _, _)) (by kernel_rfl) (by kernel_rfl) (fun R K v => by obtain ⟨x0, x1, x2, x3, x4, x5, x6, x7⟩ := v; exact S20_2_ok fuel R K x0 x1 x2 x3 x4 x5 x6 x7) hs h
    · cases h
  · cases h
def S_tone_FromPlanes_0 (fuel : Nat) (v : (List (List Int)) × (List (List Int)) × Int × Int × (List Int)) (c : ((List (List Int)) × (List (List Int)) × Int × Int × (List Int)) → Option Ans) (B : (Int × (List Int) → Option Ans) × ((List Int) → Option Ans)) : Option Ans := match v, B with
  | (x0, x1, x2, x3, x4), (ret, b) =>
   bif Decidable.decide (x3 < x2) then
      bif Decidable.decide ((0 : Int) ≤ x3 ∧ x3 < (↑x1.length : Int)) then
      bif Decidable.decide ((0 : Int) ≤ (0 : Int) ∧ (0 : Int) < (↑x0.length : Int)) then
       bif (↑(List.length (x1.getD x3.toNat [])) : Int) != (↑(List.length (x0.getD (Int.toNat (0 : Int)) [])) : Int) then
         ret ((2 : Int), [])
        else
         (F_slices_ContainsFunc_byte_byte_510 fuel (x1.getD x3.toNat [])
           (fun y6 =>
             bif y6 then
              ret ((2 : Int), [])
             else
              bif x3 == (0 : Int) then
               bif Decidable.decide ((0 : Int) ≤ (↑(List.length (x1.getD x3.toNat [])) : Int) ∧ (↑(List.length (x1.getD x3.toNat [])) : Int) = (↑(List.length (x1.getD x3.toNat [])) : Int) ∧ (↑(8 : Nat) : Int) * (↑(List.length (x1.getD x3.toNat [])) : Int) ≤ (281474976710656 : Int) ∧ (↑(List.length (x1.getD x3.toNat [])) : Int) ≤ (281474976710656 : Int)) then
               (L_tone_FromPlanes_2 fuel (x0, x1, x2, x3, x1.getD x3.toNat [], (↑(List.length (x1.getD x3.toNat [])) : Int), (0 : Int), List.replicate (↑(List.length (x1.getD x3.toNat [])) : Int).toNat (0 : Int))
                  (fun (b2_0, b2_1, b2_2, b2_3, b2_4) =>
                    c (b2_0, b2_1, b2_2, Go.IntKind.i64.wrap (b2_3 + (1 : Int)), b2_4)))
               else none
              else
               (L_tone_FromPlanes_2 fuel (x0, x1, x2, x3, x1.getD x3.toNat [], (↑(List.length (x1.getD x3.toNat [])) : Int), (0 : Int), x4)
                 (fun (b2_0, b2_1, b2_2, b2_3, b2_4) =>
                   c (b2_0, b2_1, b2_2, Go.IntKind.i64.wrap (b2_3 + (1 : Int)), b2_4)))))
       else none
      else none
     else
      b x4
def L_tone_FromPlanes_0 (fuel : Nat) (v : (List (List Int)) × (List (List Int)) × Int × Int × (List Int)) (ret : (Int × (List Int) → Option Ans)) (b : ((List Int) → Option Ans)) : Option Ans := iter (S_tone_FromPlanes_0 fuel) fuel v (ret, b)
def J20_0 (fuel : Nat) (i : Nat) : Option Ev.Blk := Ev.look i [(100002, B20_2 fuel)]
def T20_0 (v : (List (List Int)) × (List (List Int)) × Int × Int × (List Int)) : Ev.St := match v with | (x0, x1, x2, x3, x4) => ⟨[(0, .c (.sl (.sl (.int .u8)) x0)), (4, .c (.own 0)), (12, .c (.sl (.sl (.int .u8)) x1)), (13, .c (.int .i64 x2)), (14, .c (.int .i64 x3))], [(0, .vec 3 (.int .i64) x4 true)], 1, 0⟩
def E20_0 (K : Ev.Ex → Ev.St → Option Ans) : (Int × (List Int) → Option Ans) × ((List Int) → Option Ans) := ((fun v => match v with | (x0, x1) => K .ret ⟨[(2, .c (.own 0)), (3, .c (.int .i64 x0))], [(0, .vec 3 (.int .i64) x1 true)], 1, 0⟩), (fun v => match v with | x0 => K .normal ⟨[(4, .c (.own 0))], [(0, .vec 3 (.int .i64) x0 true)], 1, 0⟩))
theorem S20_0_okg (fuel : Nat) (f59_510 : YF59_510) (R : Ev.St → Option Ans) (K : Ev.Ex → Ev.St → Option Ans) (x0 : (List (List Int))) (x1 : (List (List Int))) (x2 : Int) (x3 : Int) (x4 : (List Int)) : evalCode tab (Gg20 f59_510) (J20_0 fuel) kp20 fuel (bodyOf 0 Try.f20) (T20_0 (x0, x1, x2, x3, x4)) (lc kp20 5 0 R K) = (fun (c : ((List (List Int)) × (List (List Int)) × Int × Int × (List Int)) → Option Ans) (B : (Int × (List Int) → Option Ans) × ((List Int) → Option Ans)) => match B with
  | (ret, b) =>
   bif Decidable.decide (x3 < x2) then
      bif Decidable.decide ((0 : Int) ≤ x3 ∧ x3 < (↑x1.length : Int)) then
      bif Decidable.decide ((0 : Int) ≤ (0 : Int) ∧ (0 : Int) < (↑x0.length : Int)) then
       bif (↑(List.length (x1.getD x3.toNat [])) : Int) != (↑(List.length (x0.getD (Int.toNat (0 : Int)) [])) : Int) then
         ret ((2 : Int), [])
        else
         (f59_510 (x1.getD x3.toNat [])
           (fun y6 =>
             bif y6 then
              ret ((2 : Int), [])
             else
              bif x3 == (0 : Int) then
               bif Decidable.decide ((0 : Int) ≤ (↑(List.length (x1.getD x3.toNat [])) : Int) ∧ (↑(List.length (x1.getD x3.toNat [])) : Int) = (↑(List.length (x1.getD x3.toNat [])) : Int) ∧ (↑(8 : Nat) : Int) * (↑(List.length (x1.getD x3.toNat [])) : Int) ≤ (281474976710656 : Int) ∧ (↑(List.length (x1.getD x3.toNat [])) : Int) ≤ (281474976710656 : Int)) then
               (L_tone_FromPlanes_2 fuel (x0, x1, x2, x3, x1.getD x3.toNat [], (↑(List.length (x1.getD x3.toNat [])) : Int), (0 : Int), List.replicate (↑(List.length (x1.getD x3.toNat [])) : Int).toNat (0 : Int))
                  (fun (b2_0, b2_1, b2_2, b2_3, b2_4) =>
                    c (b2_0, b2_1, b2_2, Go.IntKind.i64.wrap (b2_3 + (1 : Int)), b2_4)))
               else none
              else
               (L_tone_FromPlanes_2 fuel (x0, x1, x2, x3, x1.getD x3.toNat [], (↑(List.length (x1.getD x3.toNat [])) : Int), (0 : Int), x4)
                 (fun (b2_0, b2_1, b2_2, b2_3, b2_4) =>
                   c (b2_0, b2_1, b2_2, Go.IntKind.i64.wrap (b2_3 + (1 : Int)), b2_4)))))
       else none
      else none
     else
      b x4) (fun v => R (T20_0 v)) (E20_0 K) := by
  kernel_rfl
theorem S20_0_ok (fuel : Nat) (R : Ev.St → Option Ans) (K : Ev.Ex → Ev.St → Option Ans) (x0 : (List (List Int))) (x1 : (List (List Int))) (x2 : Int) (x3 : Int) (x4 : (List Int)) : evalCode tab (G20 fuel) (J20_0 fuel) kp20 fuel (bodyOf 0 Try.f20) (T20_0 (x0, x1, x2, x3, x4)) (lc kp20 5 0 R K) = S_tone_FromPlanes_0 fuel (x0, x1, x2, x3, x4) (fun v => R (T20_0 v)) (E20_0 K) :=
  S20_0_okg fuel (F_slices_ContainsFunc_byte_byte_510 fuel) R K x0 x1 x2 x3 x4
def B20_0 (fuel : Nat) : Ev.Blk := fun st K => match canonO (kp20 5) st with
  | some s => (match s with
    | ⟨[(q0, .c (.sl (.sl (.int .u8)) x0)), (q1, .c (.own q2)), (q3, .c (.sl (.sl (.int .u8)) x1)), (q4, .c (.int .i64 x2)), (q5, .c (.int .i64 x3))], [(q6, .vec q7 (.int .i64) x4 true)], q8, q9⟩ => bif Nat.beq q0 0 && Nat.beq q1 4 && Nat.beq q2 0 && Nat.beq q3 12 && Nat.beq q4 13 && Nat.beq q5 14 && Nat.beq q6 0 && Nat.beq q7 3 && Nat.beq q8 1 && Nat.beq q9 0 then iter (S_tone_FromPlanes_0 fuel) fuel (x0, x1, x2, x3, x4) (E20_0 K) else none
    | _ => none)
  | none => none
theorem B20_0_ok (fuel : Nat) (st : Ev.St) (K : Ev.Ex → Ev.St → Option Ans) (r : Ans) (h : B20_0 fuel st K = some r) : evalCode tab (G20 fuel) (J20_0 fuel) kp20 fuel (.block 0 (.loop (bodyOf 0 Try.f20))) st K = some r := by
  unfold B20_0 at h
  split at h
  · rename_i s hs
    split at h
    · obtain ⟨hb, h⟩ := cond_some' h
      simp only [Bool.and_eq_true, Nat.beq_eq, decide_eq_true_eq] at hb
      obtain ⟨⟨⟨⟨⟨⟨⟨⟨⟨rfl, rfl⟩, rfl⟩, rfl⟩, rfl⟩, rfl⟩, rfl⟩, rfl⟩, rfl⟩, rfl⟩ := hb
      exact blk_loop (S := T20_0) (ks := E20_0) (step := S_tone_FromPlanes_0 fuel) (v := (_, _, _, _, _)) (by kernel_rfl) (by kernel_rfl) (fun R K v => by obtain ⟨x0, x1, x2, x3, x4⟩ := v; exact S20_0_ok fuel R K x0 x1 x2 x3 x4) hs h
    · cases h
  · cases h
def J20 (fuel : Nat) (i : Nat) : Option Ev.Blk := Ev.look i [(100002, B20_2 fuel), (100000, B20_0 fuel)]
def F_tone_FromPlanes (fuel : Nat) (x0 : (List (List Int))) (k0 : (Int × (List Int)) → Option Ans) : Option Ans :=
  bif Decidable.decide ((↑x0.length : Int) > (8 : Int)) then
   k0 ((2 : Int), [])
  else
   (L_tone_FromPlanes_0 fuel (x0, x0, (↑x0.length : Int), (0 : Int), [])
     (fun (ret0_0, ret0_1) =>
       k0 (ret0_0, ret0_1))
     (fun b0_0 =>
       k0 ((0 : Int), b0_0)))
abbrev YF20 : Type := ((List (List Int))) → ((Int × (List Int)) → Option Ans) → Option Ans
theorem F20_eqg (fuel : Nat) (f59_510 : YF59_510) (x0 : (List (List Int))) (k : Ev.Cont) : evalFn tab (Gg20 f59_510) (J20 fuel) kp20 fuel Try.f20 [.c (.sl (.sl (.int .u8)) x0)] [] k = (fun  (k0 : (Int × (List Int)) → Option Ans) =>
  bif Decidable.decide ((↑x0.length : Int) > (8 : Int)) then
   k0 ((2 : Int), [])
  else
   (L_tone_FromPlanes_0 fuel (x0, x0, (↑x0.length : Int), (0 : Int), [])
     (fun (ret0_0, ret0_1) =>
       k0 (ret0_0, ret0_1))
     (fun b0_0 =>
       k0 ((0 : Int), b0_0)))) (fun r => match r with | (r0, r1) => k (.tup [(false, [.own 0]), (false, [.int .i64 r0])], [.vec 3 (.int .i64) r1 true])) := by
  kernel_rfl
theorem F20_eq (fuel : Nat) (x0 : (List (List Int))) (k : Ev.Cont) : evalFn tab (G20 fuel) (J20 fuel) kp20 fuel Try.f20 [.c (.sl (.sl (.int .u8)) x0)] [] k = F_tone_FromPlanes fuel x0 (fun r => match r with | (r0, r1) => k (.tup [(false, [.own 0]), (false, [.int .i64 r0])], [.vec 3 (.int .i64) r1 true])) :=
  F20_eqg fuel (F_slices_ContainsFunc_byte_byte_510 fuel) x0 k
theorem hG20 (fuel : Nat) : GOK Try.prog (G20 fuel) :=
  gok_cons ⟨ok59_510 fuel, enters_of Try.func59 (by kernel_rfl) rfl⟩ <|
  gok_nil
theorem B20_2_blk (fuel : Nat) : BlkOK Try.prog Try.f20.ntmps (.block 2 (.loop (bodyOf 2 Try.f20))) (B20_2 fuel) :=
  blk_of (blk_of_code tab_ok (hG20 fuel) mixed (J := J20_2 fuel) (kp := kp20) (fuel := fuel) (by kernel_rfl) (fun q hq => by
    rw [(by kernel_rfl : obl (J20_2 fuel) (.block 2 (.loop (bodyOf 2 Try.f20))) = [])] at hq
    cases hq)) (B20_2_ok fuel)
theorem B20_0_blk (fuel : Nat) : BlkOK Try.prog Try.f20.ntmps (.block 0 (.loop (bodyOf 0 Try.f20))) (B20_0 fuel) :=
  blk_of (blk_of_code tab_ok (hG20 fuel) mixed (J := J20_0 fuel) (kp := kp20) (fuel := fuel) (by kernel_rfl) (fun q hq => by
    rw [(by kernel_rfl : obl (J20_0 fuel) (.block 0 (.loop (bodyOf 0 Try.f20))) = [(.block 2 (.loop (bodyOf 2 Try.f20)), B20_2 fuel)])] at hq
    simp only [List.mem_cons, List.not_mem_nil, or_false] at hq
    subst hq
    · exact B20_2_blk fuel)) (B20_0_ok fuel)
theorem fok20 (fuel : Nat) : FnOK Try.prog 20 (evalFn tab (G20 fuel) (J20 fuel) kp20 fuel Try.f20) :=
  fn_ok tab_ok (hG20 fuel) mixed Try.func20 (c := (Try.f20.body).getD .skip) rfl (fun q hq => by
    rw [(by kernel_rfl : obl (J20 fuel) ((Try.f20.body).getD .skip) = [(.block 0 (.loop (bodyOf 0 Try.f20)), B20_0 fuel)])] at hq
    simp only [List.mem_cons, List.not_mem_nil, or_false] at hq
    subst hq
    · exact B20_0_blk fuel)
def mt20 : List Ev.SV → List Ev.Ob → Bool := fun args objs => match args, objs with
  | [.c (.sl (.sl (.int .u8)) _)], [] => true
  | _, _ => false
def spg20 (F : YF20) : Ev.Spec := fun args objs k => match args, objs with
  | [.c (.sl (.sl (.int .u8)) x0)], [] => bif true then F x0 (fun r => match r with | (r0, r1) => k (.tup [(false, [.own 0]), (false, [.int .i64 r0])], [.vec 3 (.int .i64) r1 true])) else none
  | _, _ => none
def spec20 (fuel : Nat) : Ev.Spec := spg20 (F_tone_FromPlanes fuel)
theorem ok20 (fuel : Nat) : FnOK Try.prog 20 (spec20 fuel) := by
  intro args objs kk r h
  unfold spec20 spg20 at h
  split at h
  · obtain ⟨hb, h⟩ := cond_some' h
    simp only [Bool.and_eq_true, Nat.beq_eq, decide_eq_true_eq] at hb
    clear hb
    exact fok20 fuel _ _ kk r ((F20_eq fuel _ kk).trans h)
  · cases h
end Go.Proofs.Ytajidgilfkineaa
