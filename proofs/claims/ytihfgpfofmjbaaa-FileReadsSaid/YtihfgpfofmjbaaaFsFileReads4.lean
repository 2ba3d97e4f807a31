/- What the functions that FileReads reaches do: their typed texts, each with the proof that the machine does it. No condition. -/
import Derived.Test.YtihfgpfofmjbaaaEvX
import Derived.Test.YtihfgpfofmjbaaaFsFileReads3
import Derived.Test.YtihfgpfofmjbaaaFsFileReads1
set_option linter.unusedVariables false
set_option linter.unusedSimpArgs false
set_option linter.unusedVariables false
set_option linter.unusedSimpArgs false
set_option maxRecDepth 100000
set_option maxHeartbeats 2000000
namespace Go.Proofs.Ytihfgpfofmjbaaa
open Go Ev
def kp18 (i : Nat) : Option (List Nat) := Ev.look i [(4, [0, 1, 22, 23, 24]), (19, [0, 1, 10, 11, 47, 48, 49]), (100000, [0, 1]), (100002, [1, 10, 11]), (400000, [4, 5]), (400002, [4, 5])]
noncomputable def Gg18 (f64 : YF64) (f65 : YF65) (f66 : YF66) (f67 : YF67) (f68 : YF68) (f : Nat) : Option Ev.Spec := Ev.look f [(64, spg64 f64), (65, spg65 f65), (66, spg66 f66), (67, spg67 f67), (68, spg68 f68)]
noncomputable def G18 (fuel : Nat) : Nat → Option Ev.Spec := Gg18 (F_ref12_Valid fuel) (F_ref12_InOrder fuel) (F_ref14_ends fuel) (F_ref14_lead fuel) (F_ref12_Header fuel)
noncomputable def Sg_ref14_Write_0 (fuel : Nat) (f64 : YF64) (f65 : YF65) (f66 : YF66) (f67 : YF67) (f68 : YF68) (x0 : Int) (x1 : (List (Int × (Int × (Int × ((List Int) × ((List Bool) × (List Int)))))))) (x2 : (List (Int × (Int × (Int × ((List Int) × ((List Bool) × (List Int)))))))) (x3 x4 : Int) (c : (Int × (List (Int × (Int × (Int × ((List Int) × ((List Bool) × (List Int))))))) × (List (Int × (Int × (Int × ((List Int) × ((List Bool) × (List Int))))))) × Int × Int) → Option Ans) (B : (Int × (List Int) → Option Ans) × (Int × (List (Int × (Int × (Int × ((List Int) × ((List Bool) × (List Int))))))) → Option Ans)) : Option Ans := match B with
 | (ret, b) =>
  bif decide (x4 < x3) then
  bif decide ((0 : Int) ≤ x4 ∧ x4 < (↑x2.length : Int)) then
  (f64 ((x2.getD x4.toNat ((0 : Int), (0 : Int), (0 : Int), [], [], [])).fst) ((x2.getD x4.toNat ((0 : Int), (0 : Int), (0 : Int), [], [], [])).snd.fst) ((x2.getD x4.toNat ((0 : Int), (0 : Int), (0 : Int), [], [], [])).snd.snd.fst) ((x2.getD x4.toNat ((0 : Int), (0 : Int), (0 : Int), [], [], [])).snd.snd.snd.fst) ((x2.getD x4.toNat ((0 : Int), (0 : Int), (0 : Int), [], [], [])).snd.snd.snd.snd.fst) ((x2.getD x4.toNat ((0 : Int), (0 : Int), (0 : Int), [], [], [])).snd.snd.snd.snd.snd)
  (fun y4 =>
  bif !y4 then
  ret ((2 : Int), [])
  else
  c (x0, x1, x2, x3, IntKind.i64.wrap (x4 + (1 : Int)))))
  else none
  else
  b (x0, x1)
noncomputable def S_ref14_Write_0 (fuel : Nat) (v : Int × (List (Int × (Int × (Int × ((List Int) × ((List Bool) × (List Int))))))) × (List (Int × (Int × (Int × ((List Int) × ((List Bool) × (List Int))))))) × Int × Int) (c : (Int × (List (Int × (Int × (Int × ((List Int) × ((List Bool) × (List Int))))))) × (List (Int × (Int × (Int × ((List Int) × ((List Bool) × (List Int))))))) × Int × Int) → Option Ans) (B : (Int × (List Int) → Option Ans) × (Int × (List (Int × (Int × (Int × ((List Int) × ((List Bool) × (List Int))))))) → Option Ans)) : Option Ans := match v with
 | (x0, x1, x2, x3, x4) => Sg_ref14_Write_0 fuel (F_ref12_Valid fuel) (F_ref12_InOrder fuel) (F_ref14_ends fuel) (F_ref14_lead fuel) (F_ref12_Header fuel) x0 x1 x2 x3 x4 c B
noncomputable def L_ref14_Write_0 (fuel : Nat) (v : Int × (List (Int × (Int × (Int × ((List Int) × ((List Bool) × (List Int))))))) × (List (Int × (Int × (Int × ((List Int) × ((List Bool) × (List Int))))))) × Int × Int) (ret : (Int × (List Int) → Option Ans)) (b : (Int × (List (Int × (Int × (Int × ((List Int) × ((List Bool) × (List Int))))))) → Option Ans)) : Option Ans := iter (S_ref14_Write_0 fuel) fuel v (ret, b)
noncomputable def J18_0 (fuel : Nat) (i : Nat) : Option Ev.Blk := Ev.look i []
noncomputable def T18_0 (v : Int × (List (Int × (Int × (Int × ((List Int) × ((List Bool) × (List Int))))))) × (List (Int × (Int × (Int × ((List Int) × ((List Bool) × (List Int))))))) × Int × Int) : Ev.St := match v with | (x0, x1, x2, x3, x4) => ⟨[(0, .c (.int .i64 x0)), (1, .c (.sl (.pair (.int .i64) (.pair (.int .i64) (.pair (.int .i64) (.pair (.sl (.int .i64)) (.pair (.sl .bool) (.sl (.int .u8))))))) x1)), (22, .c (.sl (.pair (.int .i64) (.pair (.int .i64) (.pair (.int .i64) (.pair (.sl (.int .i64)) (.pair (.sl .bool) (.sl (.int .u8))))))) x2)), (23, .c (.int .i64 x3)), (24, .c (.int .i64 x4))], [], 0, 0⟩
noncomputable def E18_0 (K : Ev.Ex → Ev.St → Option Ans) : (Int × (List Int) → Option Ans) × (Int × (List (Int × (Int × (Int × ((List Int) × ((List Bool) × (List Int))))))) → Option Ans) := ((fun v => match v with | (x0, x1) => K .ret ⟨[(4, .c (.own 0)), (5, .c (.int .i64 x0))], [(0, .vec 5 (.int .u8) x1 true)], 1, 0⟩), (fun v => match v with | (x0, x1) => K .normal ⟨[(0, .c (.int .i64 x0)), (1, .c (.sl (.pair (.int .i64) (.pair (.int .i64) (.pair (.int .i64) (.pair (.sl (.int .i64)) (.pair (.sl .bool) (.sl (.int .u8))))))) x1))], [], 0, 0⟩))
theorem S18_0_okg (fuel : Nat) (f64 : YF64) (f65 : YF65) (f66 : YF66) (f67 : YF67) (f68 : YF68) (R : Ev.St → Option Ans) (K : Ev.Ex → Ev.St → Option Ans) (x0 : Int) (x1 : (List (Int × (Int × (Int × ((List Int) × ((List Bool) × (List Int)))))))) (x2 : (List (Int × (Int × (Int × ((List Int) × ((List Bool) × (List Int)))))))) (x3 x4 : Int) : evalCode tab (Gg18 f64 f65 f66 f67 f68) (J18_0 fuel) kp18 fuel (bodyOf 0 Try.f18) (T18_0 (x0, x1, x2, x3, x4)) (lc kp18 4 0 R K) = Sg_ref14_Write_0 fuel f64 f65 f66 f67 f68 x0 x1 x2 x3 x4 (fun v => R (T18_0 v)) (E18_0 K) := by
  kernel_rfl
theorem S18_0_ok (fuel : Nat) (R : Ev.St → Option Ans) (K : Ev.Ex → Ev.St → Option Ans) (x0 : Int) (x1 : (List (Int × (Int × (Int × ((List Int) × ((List Bool) × (List Int)))))))) (x2 : (List (Int × (Int × (Int × ((List Int) × ((List Bool) × (List Int)))))))) (x3 x4 : Int) : evalCode tab (G18 fuel) (J18_0 fuel) kp18 fuel (bodyOf 0 Try.f18) (T18_0 (x0, x1, x2, x3, x4)) (lc kp18 4 0 R K) = S_ref14_Write_0 fuel (x0, x1, x2, x3, x4) (fun v => R (T18_0 v)) (E18_0 K) :=
  S18_0_okg fuel (F_ref12_Valid fuel) (F_ref12_InOrder fuel) (F_ref14_ends fuel) (F_ref14_lead fuel) (F_ref12_Header fuel) R K x0 x1 x2 x3 x4
noncomputable def B18_0 (fuel : Nat) : Ev.Blk := fun st K => match canonO (kp18 4) st with
 | some s => (match s with
 | ⟨[(q0, .c (.int .i64 x0)), (q1, .c (.sl (.pair (.int .i64) (.pair (.int .i64) (.pair (.int .i64) (.pair (.sl (.int .i64)) (.pair (.sl .bool) (.sl (.int .u8))))))) x1)), (q2, .c (.sl (.pair (.int .i64) (.pair (.int .i64) (.pair (.int .i64) (.pair (.sl (.int .i64)) (.pair (.sl .bool) (.sl (.int .u8))))))) x2)), (q3, .c (.int .i64 x3)), (q4, .c (.int .i64 x4))], [], q5, q6⟩ => bif Nat.beq q0 0 && Nat.beq q1 1 && Nat.beq q2 22 && Nat.beq q3 23 && Nat.beq q4 24 && Nat.beq q5 0 && Nat.beq q6 0 then iter (S_ref14_Write_0 fuel) fuel (x0, x1, x2, x3, x4) (E18_0 K) else none
 | _ => none)
 | none => none
theorem B18_0_ok (fuel : Nat) (st : Ev.St) (K : Ev.Ex → Ev.St → Option Ans) (r : Ans) (h : B18_0 fuel st K = some r) : evalCode tab (G18 fuel) (J18_0 fuel) kp18 fuel (.block 0 (.loop (bodyOf 0 Try.f18))) st K = some r := by
  unfold B18_0 at h
  split at h
  · rename_i s hs
    split at h
    · skip
      obtain ⟨hb, h⟩ := cond_some' h
      simp only [Bool.and_eq_true, Nat.beq_eq, decide_eq_true_eq] at hb
      obtain ⟨⟨⟨⟨⟨⟨rfl, rfl⟩, rfl⟩, rfl⟩, rfl⟩, rfl⟩, rfl⟩ := hb
      exact blk_loop (S := T18_0) (ks := E18_0) (step := S_ref14_Write_0 fuel) (v := (_, _, _, _, _)) (by kernel_rfl) (by kernel_rfl) (fun R K v => by obtain ⟨x0, x1, x2, x3, x4⟩ := v; exact S18_0_ok fuel R K x0 x1 x2 x3 x4) hs h
    · cases h
  · cases h
noncomputable def Sg_ref14_Write_2 (fuel : Nat) (f64 : YF64) (f65 : YF65) (f66 : YF66) (f67 : YF67) (f68 : YF68) (x0 : Int) (x1 : (List (Int × (Int × (Int × ((List Int) × ((List Bool) × (List Int)))))))) (x2 : (List (Int × (Int × (Int × ((List Int) × ((List Bool) × (List Int)))))))) (x3 x4 : Int) (x5 x6 : (List Int)) (c : (Int × (List (Int × (Int × (Int × ((List Int) × ((List Bool) × (List Int))))))) × (List (Int × (Int × (Int × ((List Int) × ((List Bool) × (List Int))))))) × Int × Int × (List Int) × (List Int)) → Option Ans) (B : ((List (Int × (Int × (Int × ((List Int) × ((List Bool) × (List Int))))))) × (List Int) × (List Int) → Option Ans)) : Option Ans := match B with
 | b =>
  bif decide (x4 < x3) then
  bif decide ((0 : Int) ≤ x4 ∧ x4 < (↑x2.length : Int)) then
  (f68 ((x2.getD x4.toNat ((0 : Int), (0 : Int), (0 : Int), [], [], [])).fst) ((x2.getD x4.toNat ((0 : Int), (0 : Int), (0 : Int), [], [], [])).snd.fst) ((x2.getD x4.toNat ((0 : Int), (0 : Int), (0 : Int), [], [], [])).snd.snd.fst) ((x2.getD x4.toNat ((0 : Int), (0 : Int), (0 : Int), [], [], [])).snd.snd.snd.fst) ((x2.getD x4.toNat ((0 : Int), (0 : Int), (0 : Int), [], [], [])).snd.snd.snd.snd.fst) ((x2.getD x4.toNat ((0 : Int), (0 : Int), (0 : Int), [], [], [])).snd.snd.snd.snd.snd)
  (fun (y4_0, y4_1) =>
  bif decide ((x5.length + y4_1.length) * (1 : Nat) ≤ (140737488355328 : Nat) ∧ x5.length + y4_1.length ≤ (140737488355328 : Nat)) then
  bif x0 == (1 : Int) then
  bif decide ((x6.length + List.length (x2.getD x4.toNat ((0 : Int), (0 : Int), (0 : Int), [], [], [])).snd.snd.snd.snd.snd) * (1 : Nat) ≤ (140737488355328 : Nat) ∧ x6.length + List.length (x2.getD x4.toNat ((0 : Int), (0 : Int), (0 : Int), [], [], [])).snd.snd.snd.snd.snd ≤ (140737488355328 : Nat)) then
  c (x0, x1, x2, x3, IntKind.i64.wrap (x4 + (1 : Int)), x5 ++ y4_1, x6 ++ (x2.getD x4.toNat ((0 : Int), (0 : Int), (0 : Int), [], [], [])).snd.snd.snd.snd.snd)
  else none
  else
  bif decide (((x5 ++ y4_1).length + List.length (x2.getD x4.toNat ((0 : Int), (0 : Int), (0 : Int), [], [], [])).snd.snd.snd.snd.snd) * (1 : Nat) ≤ (140737488355328 : Nat) ∧ (x5 ++ y4_1).length + List.length (x2.getD x4.toNat ((0 : Int), (0 : Int), (0 : Int), [], [], [])).snd.snd.snd.snd.snd ≤ (140737488355328 : Nat)) then
  c (x0, x1, x2, x3, IntKind.i64.wrap (x4 + (1 : Int)), x5 ++ y4_1 ++ (x2.getD x4.toNat ((0 : Int), (0 : Int), (0 : Int), [], [], [])).snd.snd.snd.snd.snd, x6)
  else none
  else none))
  else none
  else
  b (x1, x5, x6)
noncomputable def S_ref14_Write_2 (fuel : Nat) (v : Int × (List (Int × (Int × (Int × ((List Int) × ((List Bool) × (List Int))))))) × (List (Int × (Int × (Int × ((List Int) × ((List Bool) × (List Int))))))) × Int × Int × (List Int) × (List Int)) (c : (Int × (List (Int × (Int × (Int × ((List Int) × ((List Bool) × (List Int))))))) × (List (Int × (Int × (Int × ((List Int) × ((List Bool) × (List Int))))))) × Int × Int × (List Int) × (List Int)) → Option Ans) (B : ((List (Int × (Int × (Int × ((List Int) × ((List Bool) × (List Int))))))) × (List Int) × (List Int) → Option Ans)) : Option Ans := match v with
 | (x0, x1, x2, x3, x4, x5, x6) => Sg_ref14_Write_2 fuel (F_ref12_Valid fuel) (F_ref12_InOrder fuel) (F_ref14_ends fuel) (F_ref14_lead fuel) (F_ref12_Header fuel) x0 x1 x2 x3 x4 x5 x6 c B
noncomputable def L_ref14_Write_2 (fuel : Nat) (v : Int × (List (Int × (Int × (Int × ((List Int) × ((List Bool) × (List Int))))))) × (List (Int × (Int × (Int × ((List Int) × ((List Bool) × (List Int))))))) × Int × Int × (List Int) × (List Int)) (b : ((List (Int × (Int × (Int × ((List Int) × ((List Bool) × (List Int))))))) × (List Int) × (List Int) → Option Ans)) : Option Ans := iter (S_ref14_Write_2 fuel) fuel v b
noncomputable def J18_2 (fuel : Nat) (i : Nat) : Option Ev.Blk := Ev.look i [(100000, B18_0 fuel)]
noncomputable def T18_2 (v : Int × (List (Int × (Int × (Int × ((List Int) × ((List Bool) × (List Int))))))) × (List (Int × (Int × (Int × ((List Int) × ((List Bool) × (List Int))))))) × Int × Int × (List Int) × (List Int)) : Ev.St := match v with | (x0, x1, x2, x3, x4, x5, x6) => ⟨[(0, .c (.int .i64 x0)), (1, .c (.sl (.pair (.int .i64) (.pair (.int .i64) (.pair (.int .i64) (.pair (.sl (.int .i64)) (.pair (.sl .bool) (.sl (.int .u8))))))) x1)), (10, .c (.own 0)), (11, .c (.own 1)), (47, .c (.sl (.pair (.int .i64) (.pair (.int .i64) (.pair (.int .i64) (.pair (.sl (.int .i64)) (.pair (.sl .bool) (.sl (.int .u8))))))) x2)), (48, .c (.int .i64 x3)), (49, .c (.int .i64 x4))], [(0, .vec 5 (.int .u8) x5 true), (1, .vec 5 (.int .u8) x6 true)], 2, 0⟩
noncomputable def E18_2 (K : Ev.Ex → Ev.St → Option Ans) : ((List (Int × (Int × (Int × ((List Int) × ((List Bool) × (List Int))))))) × (List Int) × (List Int) → Option Ans) := (fun v => match v with | (x0, x1, x2) => K .normal ⟨[(1, .c (.sl (.pair (.int .i64) (.pair (.int .i64) (.pair (.int .i64) (.pair (.sl (.int .i64)) (.pair (.sl .bool) (.sl (.int .u8))))))) x0)), (10, .c (.own 0)), (11, .c (.own 1))], [(0, .vec 5 (.int .u8) x1 true), (1, .vec 5 (.int .u8) x2 true)], 2, 0⟩)
theorem S18_2_okg (fuel : Nat) (f64 : YF64) (f65 : YF65) (f66 : YF66) (f67 : YF67) (f68 : YF68) (R : Ev.St → Option Ans) (K : Ev.Ex → Ev.St → Option Ans) (x0 : Int) (x1 : (List (Int × (Int × (Int × ((List Int) × ((List Bool) × (List Int)))))))) (x2 : (List (Int × (Int × (Int × ((List Int) × ((List Bool) × (List Int)))))))) (x3 x4 : Int) (x5 x6 : (List Int)) : evalCode tab (Gg18 f64 f65 f66 f67 f68) (J18_2 fuel) kp18 fuel (bodyOf 2 Try.f18) (T18_2 (x0, x1, x2, x3, x4, x5, x6)) (lc kp18 19 2 R K) = Sg_ref14_Write_2 fuel f64 f65 f66 f67 f68 x0 x1 x2 x3 x4 x5 x6 (fun v => R (T18_2 v)) (E18_2 K) := by
  kernel_rfl
theorem S18_2_ok (fuel : Nat) (R : Ev.St → Option Ans) (K : Ev.Ex → Ev.St → Option Ans) (x0 : Int) (x1 : (List (Int × (Int × (Int × ((List Int) × ((List Bool) × (List Int)))))))) (x2 : (List (Int × (Int × (Int × ((List Int) × ((List Bool) × (List Int)))))))) (x3 x4 : Int) (x5 x6 : (List Int)) : evalCode tab (G18 fuel) (J18_2 fuel) kp18 fuel (bodyOf 2 Try.f18) (T18_2 (x0, x1, x2, x3, x4, x5, x6)) (lc kp18 19 2 R K) = S_ref14_Write_2 fuel (x0, x1, x2, x3, x4, x5, x6) (fun v => R (T18_2 v)) (E18_2 K) :=
  S18_2_okg fuel (F_ref12_Valid fuel) (F_ref12_InOrder fuel) (F_ref14_ends fuel) (F_ref14_lead fuel) (F_ref12_Header fuel) R K x0 x1 x2 x3 x4 x5 x6
noncomputable def B18_2 (fuel : Nat) : Ev.Blk := fun st K => match canonO (kp18 19) st with
 | some s => (match s with
 | ⟨[(q0, .c (.int .i64 x0)), (q1, .c (.sl (.pair (.int .i64) (.pair (.int .i64) (.pair (.int .i64) (.pair (.sl (.int .i64)) (.pair (.sl .bool) (.sl (.int .u8))))))) x1)), (q2, .c (.own q3)), (q4, .c (.own q5)), (q6, .c (.sl (.pair (.int .i64) (.pair (.int .i64) (.pair (.int .i64) (.pair (.sl (.int .i64)) (.pair (.sl .bool) (.sl (.int .u8))))))) x2)), (q7, .c (.int .i64 x3)), (q8, .c (.int .i64 x4))], [(q9, .vec q10 (.int .u8) x5 true), (q11, .vec q12 (.int .u8) x6 true)], q13, q14⟩ => bif Nat.beq q0 0 && Nat.beq q1 1 && Nat.beq q2 10 && Nat.beq q3 0 && Nat.beq q4 11 && Nat.beq q5 1 && Nat.beq q6 47 && Nat.beq q7 48 && Nat.beq q8 49 && Nat.beq q9 0 && Nat.beq q10 5 && Nat.beq q11 1 && Nat.beq q12 5 && Nat.beq q13 2 && Nat.beq q14 0 then iter (S_ref14_Write_2 fuel) fuel (x0, x1, x2, x3, x4, x5, x6) (E18_2 K) else none
 | _ => none)
 | none => none
theorem B18_2_ok (fuel : Nat) (st : Ev.St) (K : Ev.Ex → Ev.St → Option Ans) (r : Ans) (h : B18_2 fuel st K = some r) : evalCode tab (G18 fuel) (J18_2 fuel) kp18 fuel (.block 2 (.loop (bodyOf 2 Try.f18))) st K = some r := by
  unfold B18_2 at h
  split at h
  · rename_i s hs
    split at h
    · skip
      obtain ⟨hb, h⟩ := cond_some' h
      simp only [Bool.and_eq_true, Nat.beq_eq, decide_eq_true_eq] at hb
      obtain ⟨⟨⟨⟨⟨⟨⟨⟨⟨⟨⟨⟨⟨⟨rfl, rfl⟩, rfl⟩, rfl⟩, rfl⟩, rfl⟩, rfl⟩, rfl⟩, rfl⟩, rfl⟩, rfl⟩, rfl⟩, rfl⟩, rfl⟩, rfl⟩ := hb
      exact blk_loop (S := T18_2) (ks := E18_2) (step := S_ref14_Write_2 fuel) (v := (_, _, _, _, _, _, _)) (by kernel_rfl) (by kernel_rfl) (fun R K v => by obtain ⟨x0, x1, x2, x3, x4, x5, x6⟩ := v; exact S18_2_ok fuel R K x0 x1 x2 x3 x4 x5 x6) hs h
    · cases h
  · cases h
noncomputable def J18 (fuel : Nat) (i : Nat) : Option Ev.Blk := Ev.look i [(100000, B18_0 fuel), (100002, B18_2 fuel)]
noncomputable def Fg_ref14_Write (fuel : Nat) (f64 : YF64) (f65 : YF65) (f66 : YF66) (f67 : YF67) (f68 : YF68) (x0 : Int) (x1 : (List (Int × Int × Int × (List Int) × (List Bool) × (List Int)))) (k0 : (Int × (List Int)) → Option Ans) : Option Ans :=
  bif decide (x0 < (0 : Int)) then
  k0 ((2 : Int), [])
  else
  bif decide (x0 > (2 : Int)) then
  k0 ((2 : Int), [])
  else
  (L_ref14_Write_0 fuel (x0, x1, x1, (↑x1.length : Int), (0 : Int))
  (fun (ret0_0, ret0_1) =>
  k0 (ret0_0, ret0_1))
  (fun (b0_0, b0_1) =>
  (f65 (b0_1)
  (fun (y8_0, y8_1) =>
  bif y8_1 != (0 : Int) then
  k0 ((40 : Int), [])
  else
  (f66 (b0_0) (b0_1)
  (fun y13 =>
  bif !y13 then
  k0 ((60 : Int), [])
  else
  (f67 (b0_0)
  (fun y18 =>
  bif b0_0 == (2 : Int) then
  (L_ref14_Write_2 fuel (b0_0, b0_1, b0_1, (↑b0_1.length : Int), (0 : Int), [], [])
  (fun (b2_0, b2_1, b2_2) =>
  bif decide ((b2_1.length + b2_2.length) * (1 : Nat) ≤ (140737488355328 : Nat) ∧ b2_1.length + b2_2.length ≤ (140737488355328 : Nat)) then
  bif decide ((↑(b2_1 ++ b2_2).length : Int) > (40000 : Int)) then
  k0 ((4 : Int), [])
  else
  bif decide ((↑b2_0.length : Int) > (100 : Int)) then
  k0 ((4 : Int), [])
  else
  k0 ((0 : Int), b2_1 ++ b2_2)
  else none))
  else
  (L_ref14_Write_2 fuel (b0_0, b0_1, b0_1, (↑b0_1.length : Int), (0 : Int), y18, [])
  (fun (b2_0, b2_1, b2_2) =>
  bif decide ((b2_1.length + b2_2.length) * (1 : Nat) ≤ (140737488355328 : Nat) ∧ b2_1.length + b2_2.length ≤ (140737488355328 : Nat)) then
  bif decide ((↑(b2_1 ++ b2_2).length : Int) > (40000 : Int)) then
  k0 ((4 : Int), [])
  else
  bif decide ((↑b2_0.length : Int) > (100 : Int)) then
  k0 ((4 : Int), [])
  else
  k0 ((0 : Int), b2_1 ++ b2_2)
  else none))))))))))
noncomputable def F_ref14_Write (fuel : Nat) (x0 : Int) (x1 : (List (Int × Int × Int × (List Int) × (List Bool) × (List Int)))) (k0 : (Int × (List Int)) → Option Ans) : Option Ans := Fg_ref14_Write fuel (F_ref12_Valid fuel) (F_ref12_InOrder fuel) (F_ref14_ends fuel) (F_ref14_lead fuel) (F_ref12_Header fuel) x0 x1 k0
abbrev YF18 : Type := (Int) → ((List (Int × Int × Int × (List Int) × (List Bool) × (List Int)))) → ((Int × (List Int)) → Option Ans) → Option Ans
theorem F18_eqg (fuel : Nat) (f64 : YF64) (f65 : YF65) (f66 : YF66) (f67 : YF67) (f68 : YF68) (x0 : Int) (x1 : (List (Int × Int × Int × (List Int) × (List Bool) × (List Int)))) (k : Ev.Cont) : evalFn tab (Gg18 f64 f65 f66 f67 f68) (J18 fuel) kp18 fuel Try.f18 [.c (.int .i64 x0), .c (.sl (.pair (.int .i64) (.pair (.int .i64) (.pair (.int .i64) (.pair (.sl (.int .i64)) (.pair (.sl .bool) (.sl (.int .u8))))))) x1)] [] k = Fg_ref14_Write fuel f64 f65 f66 f67 f68 x0 x1 (fun r => match r with | (r0, r1) => k (.tup [(false, [.own 0]), (false, [.int .i64 r0])], [.vec 5 (.int .u8) r1 true])) := by
  kernel_rfl
theorem F18_eq (fuel : Nat) (x0 : Int) (x1 : (List (Int × Int × Int × (List Int) × (List Bool) × (List Int)))) (k : Ev.Cont) : evalFn tab (G18 fuel) (J18 fuel) kp18 fuel Try.f18 [.c (.int .i64 x0), .c (.sl (.pair (.int .i64) (.pair (.int .i64) (.pair (.int .i64) (.pair (.sl (.int .i64)) (.pair (.sl .bool) (.sl (.int .u8))))))) x1)] [] k = F_ref14_Write fuel x0 x1 (fun r => match r with | (r0, r1) => k (.tup [(false, [.own 0]), (false, [.int .i64 r0])], [.vec 5 (.int .u8) r1 true])) :=
  F18_eqg fuel (F_ref12_Valid fuel) (F_ref12_InOrder fuel) (F_ref14_ends fuel) (F_ref14_lead fuel) (F_ref12_Header fuel) x0 x1 k
theorem hG18 (fuel : Nat) : GOK Try.prog (G18 fuel) :=
  gok_cons ⟨ok64 fuel, enters_of Try.func64 (by kernel_rfl) rfl⟩ <|
  gok_cons ⟨ok65 fuel, enters_of Try.func65 (by kernel_rfl) rfl⟩ <|
  gok_cons ⟨ok66 fuel, enters_of Try.func66 (by kernel_rfl) rfl⟩ <|
  gok_cons ⟨ok67 fuel, enters_of Try.func67 (by kernel_rfl) rfl⟩ <|
  gok_cons ⟨ok68 fuel, enters_of Try.func68 (by kernel_rfl) rfl⟩ <|
  gok_nil
theorem B18_0_blk (fuel : Nat) : BlkOK Try.prog Try.f18.ntmps (.block 0 (.loop (bodyOf 0 Try.f18))) (B18_0 fuel) :=
  blk_of (blk_of_code tab_ok (hG18 fuel) mixed (J := J18_0 fuel) (kp := kp18) (fuel := fuel) (by kernel_rfl) (fun q hq => by
    rw [(by kernel_rfl : obl (J18_0 fuel) (.block 0 (.loop (bodyOf 0 Try.f18))) = [])] at hq
    cases hq)) (B18_0_ok fuel)
theorem B18_2_blk (fuel : Nat) : BlkOK Try.prog Try.f18.ntmps (.block 2 (.loop (bodyOf 2 Try.f18))) (B18_2 fuel) :=
  blk_of (blk_of_code tab_ok (hG18 fuel) mixed (J := J18_2 fuel) (kp := kp18) (fuel := fuel) (by kernel_rfl) (fun q hq => by
    rw [(by kernel_rfl : obl (J18_2 fuel) (.block 2 (.loop (bodyOf 2 Try.f18))) = [])] at hq
    cases hq)) (B18_2_ok fuel)
theorem fok18 (fuel : Nat) : FnOK Try.prog 18 (evalFn tab (G18 fuel) (J18 fuel) kp18 fuel Try.f18) :=
  fn_ok tab_ok (hG18 fuel) mixed Try.func18 (c := (Try.f18.body).getD .skip) rfl (fun q hq => by
    rw [(by kernel_rfl : obl (J18 fuel) ((Try.f18.body).getD .skip) = [(.block 0 (.loop (bodyOf 0 Try.f18)), B18_0 fuel), (.block 2 (.loop (bodyOf 2 Try.f18)), B18_2 fuel)])] at hq
    simp only [List.mem_cons, List.not_mem_nil, or_false] at hq
    rcases hq with rfl | rfl
    · exact B18_0_blk fuel
    · exact B18_2_blk fuel)
noncomputable def mt18 : List Ev.SV → List Ev.Ob → Bool := fun args objs => match args, objs with
 | [.c (.int .i64 _), .c (.sl (.pair (.int .i64) (.pair (.int .i64) (.pair (.int .i64) (.pair (.sl (.int .i64)) (.pair (.sl .bool) (.sl (.int .u8))))))) _)], [] => true
 | _, _ => false
noncomputable def spg18 (F : YF18) : Ev.Spec := fun args objs k => match args, objs with
 | [.c (.int .i64 x0), .c (.sl (.pair (.int .i64) (.pair (.int .i64) (.pair (.int .i64) (.pair (.sl (.int .i64)) (.pair (.sl .bool) (.sl (.int .u8))))))) x1)], [] => bif true then F x0 x1 (fun r => match r with | (r0, r1) => k (.tup [(false, [.own 0]), (false, [.int .i64 r0])], [.vec 5 (.int .u8) r1 true])) else none
 | _, _ => none
noncomputable def spec18 (fuel : Nat) : Ev.Spec := spg18 (F_ref14_Write fuel)
theorem ok18 (fuel : Nat) : FnOK Try.prog 18 (spec18 fuel) := by
  intro args objs kk r h
  unfold spec18 spg18 at h
  split at h
  · skip
    obtain ⟨hb, h⟩ := cond_some' h
    simp only [Bool.and_eq_true, Nat.beq_eq, decide_eq_true_eq] at hb
    clear hb
    exact fok18 fuel _ _ kk r ((F18_eq fuel _ _ kk).trans h)
  · cases h
end Go.Proofs.Ytihfgpfofmjbaaa

set_option linter.unusedVariables false
set_option linter.unusedSimpArgs false
set_option maxRecDepth 100000
set_option maxHeartbeats 2000000
namespace Go.Proofs.Ytihfgpfofmjbaaa
open Go Ev
def kp15 (i : Nat) : Option (List Nat) := Ev.look i [(3, [0, 3, 6, 7, 8]), (100000, [0, 3]), (400000, [2])]
noncomputable def Gg15 (f : Nat) : Option Ev.Spec := Ev.look f []
noncomputable def G15 (fuel : Nat) : Nat → Option Ev.Spec := Gg15
noncomputable def S_law14_large_0 (fuel : Nat) (v : (List (Int × (Int × (Int × ((List Int) × ((List Bool) × (List Int))))))) × Int × (List (Int × (Int × (Int × ((List Int) × ((List Bool) × (List Int))))))) × Int × Int) (c : ((List (Int × (Int × (Int × ((List Int) × ((List Bool) × (List Int))))))) × Int × (List (Int × (Int × (Int × ((List Int) × ((List Bool) × (List Int))))))) × Int × Int) → Option Ans) (B : ((List (Int × (Int × (Int × ((List Int) × ((List Bool) × (List Int))))))) × Int → Option Ans)) : Option Ans := match v, B with
 | (x0, x1, x2, x3, x4), b =>
  bif decide (x4 < x3) then
  bif decide ((0 : Int) ≤ x4 ∧ x4 < (↑x2.length : Int)) then
  c (x0, IntKind.i64.wrap (x1 + IntKind.i64.wrap ((↑(List.length (x2.getD x4.toNat ((0 : Int), (0 : Int), (0 : Int), [], [], [])).snd.snd.snd.snd.snd) : Int) + (↑(List.length (x2.getD x4.toNat ((0 : Int), (0 : Int), (0 : Int), [], [], [])).snd.snd.snd.fst) : Int))), x2, x3, IntKind.i64.wrap (x4 + (1 : Int)))
  else none
  else
  b (x0, x1)
noncomputable def L_law14_large_0 (fuel : Nat) (v : (List (Int × (Int × (Int × ((List Int) × ((List Bool) × (List Int))))))) × Int × (List (Int × (Int × (Int × ((List Int) × ((List Bool) × (List Int))))))) × Int × Int) (b : ((List (Int × (Int × (Int × ((List Int) × ((List Bool) × (List Int))))))) × Int → Option Ans)) : Option Ans := iter (S_law14_large_0 fuel) fuel v b
noncomputable def J15_0 (fuel : Nat) (i : Nat) : Option Ev.Blk := Ev.look i []
noncomputable def T15_0 (v : (List (Int × (Int × (Int × ((List Int) × ((List Bool) × (List Int))))))) × Int × (List (Int × (Int × (Int × ((List Int) × ((List Bool) × (List Int))))))) × Int × Int) : Ev.St := match v with | (x0, x1, x2, x3, x4) => ⟨[(0, .c (.sl (.pair (.int .i64) (.pair (.int .i64) (.pair (.int .i64) (.pair (.sl (.int .i64)) (.pair (.sl .bool) (.sl (.int .u8))))))) x0)), (3, .c (.int .i64 x1)), (6, .c (.sl (.pair (.int .i64) (.pair (.int .i64) (.pair (.int .i64) (.pair (.sl (.int .i64)) (.pair (.sl .bool) (.sl (.int .u8))))))) x2)), (7, .c (.int .i64 x3)), (8, .c (.int .i64 x4))], [], 0, 0⟩
noncomputable def E15_0 (K : Ev.Ex → Ev.St → Option Ans) : ((List (Int × (Int × (Int × ((List Int) × ((List Bool) × (List Int))))))) × Int → Option Ans) := (fun v => match v with | (x0, x1) => K .normal ⟨[(0, .c (.sl (.pair (.int .i64) (.pair (.int .i64) (.pair (.int .i64) (.pair (.sl (.int .i64)) (.pair (.sl .bool) (.sl (.int .u8))))))) x0)), (3, .c (.int .i64 x1))], [], 0, 0⟩)
theorem S15_0_ok (fuel : Nat) (R : Ev.St → Option Ans) (K : Ev.Ex → Ev.St → Option Ans) (x0 : (List (Int × (Int × (Int × ((List Int) × ((List Bool) × (List Int)))))))) (x1 : Int) (x2 : (List (Int × (Int × (Int × ((List Int) × ((List Bool) × (List Int)))))))) (x3 x4 : Int) : evalCode tab (G15 fuel) (J15_0 fuel) kp15 fuel (bodyOf 0 Try.f15) (T15_0 (x0, x1, x2, x3, x4)) (lc kp15 3 0 R K) = S_law14_large_0 fuel (x0, x1, x2, x3, x4) (fun v => R (T15_0 v)) (E15_0 K) := by
  kernel_rfl
noncomputable def B15_0 (fuel : Nat) : Ev.Blk := fun st K => match canonO (kp15 3) st with
 | some s => (match s with
 | ⟨[(q0, .c (.sl (.pair (.int .i64) (.pair (.int .i64) (.pair (.int .i64) (.pair (.sl (.int .i64)) (.pair (.sl .bool) (.sl (.int .u8))))))) x0)), (q1, .c (.int .i64 x1)), (q2, .c (.sl (.pair (.int .i64) (.pair (.int .i64) (.pair (.int .i64) (.pair (.sl (.int .i64)) (.pair (.sl .bool) (.sl (.int .u8))))))) x2)), (q3, .c (.int .i64 x3)), (q4, .c (.int .i64 x4))], [], q5, q6⟩ => bif Nat.beq q0 0 && Nat.beq q1 3 && Nat.beq q2 6 && Nat.beq q3 7 && Nat.beq q4 8 && Nat.beq q5 0 && Nat.beq q6 0 then iter (S_law14_large_0 fuel) fuel (x0, x1, x2, x3, x4) (E15_0 K) else none
 | _ => none)
 | none => none
theorem B15_0_ok (fuel : Nat) (st : Ev.St) (K : Ev.Ex → Ev.St → Option Ans) (r : Ans) (h : B15_0 fuel st K = some r) : evalCode tab (G15 fuel) (J15_0 fuel) kp15 fuel (.block 0 (.loop (bodyOf 0 Try.f15))) st K = some r := by
  unfold B15_0 at h
  split at h
  · rename_i s hs
    split at h
    · skip
      obtain ⟨hb, h⟩ := cond_some' h
      simp only [Bool.and_eq_true, Nat.beq_eq, decide_eq_true_eq] at hb
      obtain ⟨⟨⟨⟨⟨⟨rfl, rfl⟩, rfl⟩, rfl⟩, rfl⟩, rfl⟩, rfl⟩ := hb
      exact blk_loop (S := T15_0) (ks := E15_0) (step := S_law14_large_0 fuel) (v := (_, _, _, _, _)) (by kernel_rfl) (by kernel_rfl) (fun R K v => by obtain ⟨x0, x1, x2, x3, x4⟩ := v; exact S15_0_ok fuel R K x0 x1 x2 x3 x4) hs h
    · cases h
  · cases h
noncomputable def J15 (fuel : Nat) (i : Nat) : Option Ev.Blk := Ev.look i [(100000, B15_0 fuel)]
noncomputable def F_law14_large (fuel : Nat) (x0 : (List (Int × Int × Int × (List Int) × (List Bool) × (List Int)))) (k0 : (Bool) → Option Ans) : Option Ans :=
  (L_law14_large_0 fuel (x0, (0 : Int), x0, (↑x0.length : Int), (0 : Int))
  (fun (b0_0, b0_1) =>
  bif decide ((↑b0_0.length : Int) > (300 : Int)) then
  k0 true
  else
  k0 (decide (b0_1 > (100000 : Int)))))
abbrev YF15 : Type := ((List (Int × Int × Int × (List Int) × (List Bool) × (List Int)))) → ((Bool) → Option Ans) → Option Ans
theorem F15_eq (fuel : Nat) (x0 : (List (Int × Int × Int × (List Int) × (List Bool) × (List Int)))) (k : Ev.Cont) : evalFn tab (G15 fuel) (J15 fuel) kp15 fuel Try.f15 [.c (.sl (.pair (.int .i64) (.pair (.int .i64) (.pair (.int .i64) (.pair (.sl (.int .i64)) (.pair (.sl .bool) (.sl (.int .u8))))))) x0)] [] k = F_law14_large fuel x0 (fun r => match r with | r0 => k (.c (.bool r0), [])) := by
  kernel_rfl
theorem hG15 (fuel : Nat) : GOK Try.prog (G15 fuel) :=
  gok_nil
theorem B15_0_blk (fuel : Nat) : BlkOK Try.prog Try.f15.ntmps (.block 0 (.loop (bodyOf 0 Try.f15))) (B15_0 fuel) :=
  blk_of (blk_of_code tab_ok (hG15 fuel) mixed (J := J15_0 fuel) (kp := kp15) (fuel := fuel) (by kernel_rfl) (fun q hq => by
    rw [(by kernel_rfl : obl (J15_0 fuel) (.block 0 (.loop (bodyOf 0 Try.f15))) = [])] at hq
    cases hq)) (B15_0_ok fuel)
theorem fok15 (fuel : Nat) : FnOK Try.prog 15 (evalFn tab (G15 fuel) (J15 fuel) kp15 fuel Try.f15) :=
  fn_ok tab_ok (hG15 fuel) mixed Try.func15 (c := (Try.f15.body).getD .skip) rfl (fun q hq => by
    rw [(by kernel_rfl : obl (J15 fuel) ((Try.f15.body).getD .skip) = [(.block 0 (.loop (bodyOf 0 Try.f15)), B15_0 fuel)])] at hq
    simp only [List.mem_cons, List.not_mem_nil, or_false] at hq
    subst hq
    · exact B15_0_blk fuel)
noncomputable def mt15 : List Ev.SV → List Ev.Ob → Bool := fun args objs => match args, objs with
 | [.c (.sl (.pair (.int .i64) (.pair (.int .i64) (.pair (.int .i64) (.pair (.sl (.int .i64)) (.pair (.sl .bool) (.sl (.int .u8))))))) _)], [] => true
 | _, _ => false
noncomputable def spg15 (F : YF15) : Ev.Spec := fun args objs k => match args, objs with
 | [.c (.sl (.pair (.int .i64) (.pair (.int .i64) (.pair (.int .i64) (.pair (.sl (.int .i64)) (.pair (.sl .bool) (.sl (.int .u8))))))) x0)], [] => bif true then F x0 (fun r => match r with | r0 => k (.c (.bool r0), [])) else none
 | _, _ => none
noncomputable def spec15 (fuel : Nat) : Ev.Spec := spg15 (F_law14_large fuel)
theorem ok15 (fuel : Nat) : FnOK Try.prog 15 (spec15 fuel) := by
  intro args objs kk r h
  unfold spec15 spg15 at h
  split at h
  · skip
    obtain ⟨hb, h⟩ := cond_some' h
    simp only [Bool.and_eq_true, Nat.beq_eq, decide_eq_true_eq] at hb
    clear hb
    exact fok15 fuel _ _ kk r ((F15_eq fuel _ kk).trans h)
  · cases h
end Go.Proofs.Ytihfgpfofmjbaaa

