/- What the functions that FileTurns reaches do: their typed texts, each with the proof that the machine does it. No condition. -/
import Derived.Test.YtihfgpfofmjbaaaEvX
import Derived.Test.YtihfgpfofmjbaaaFsFileTurns3
import Derived.Test.YtihfgpfofmjbaaaFsFileTurns1
import Derived.Test.YtihfgpfofmjbaaaFsFileTurns2
set_option linter.unusedVariables false
set_option linter.unusedSimpArgs false
set_option linter.unusedVariables false
set_option linter.unusedSimpArgs false
set_option maxRecDepth 100000
set_option maxHeartbeats 2000000
namespace Go.Proofs.Ytihfgpfofmjbaaa
open Go Ev
def kp86 (i : Nat) : Option (List Nat) := Ev.look i [(4, [1, 3]), (100000, []), (400000, [2])]
noncomputable def Gg86 (f112 : YF112) (f : Nat) : Option Ev.Spec := Ev.look f [(112, spg112 f112)]
noncomputable def G86 (fuel : Nat) : Nat → Option Ev.Spec := Gg86 (F_ref05_Sides fuel)
noncomputable def Sg_ref05_Valid_0 (fuel : Nat) (f112 : YF112) (x0 x1 x2 : Int) (x3 : (List Int)) (c : (Int × Int × Int × (List Int)) → Option Ans) (B : (Bool → Option Ans) × (Unit → Option Ans)) : Option Ans := match B with
 | (ret, b) =>
  bif decide (x0 < (↑x3.length : Int)) then
  bif decide ((0 : Int) ≤ x0 ∧ x0 < (↑x3.length : Int)) then
  bif decide (x3.getD x0.toNat (0 : Int) > (1 : Int)) then
  ret false
  else
  c (IntKind.i64.wrap (x0 + (1 : Int)), x1, x2, x3)
  else none
  else
  b ()
noncomputable def S_ref05_Valid_0 (fuel : Nat) (v : Int × Int × Int × (List Int)) (c : (Int × Int × Int × (List Int)) → Option Ans) (B : (Bool → Option Ans) × (Unit → Option Ans)) : Option Ans := match v with
 | (x0, x1, x2, x3) => Sg_ref05_Valid_0 fuel (F_ref05_Sides fuel) x0 x1 x2 x3 c B
noncomputable def L_ref05_Valid_0 (fuel : Nat) (v : Int × Int × Int × (List Int)) (ret : (Bool → Option Ans)) (b : (Unit → Option Ans)) : Option Ans := iter (S_ref05_Valid_0 fuel) fuel v (ret, b)
noncomputable def J86_0 (fuel : Nat) (i : Nat) : Option Ev.Blk := Ev.look i []
noncomputable def T86_0 (v : Int × Int × Int × (List Int)) : Ev.St := match v with | (x0, x1, x2, x3) => ⟨[(1, .c (.ptr 0 0)), (3, .c (.int .i64 x0))], [(0, .cells 39 [.int .i64 x1, .int .i64 x2, .sl (.int .u8) x3])], 1, 0⟩
noncomputable def E86_0 (K : Ev.Ex → Ev.St → Option Ans) : (Bool → Option Ans) × (Unit → Option Ans) := ((fun v => match v with | x0 => K .ret ⟨[(2, .c (.bool x0))], [], 0, 0⟩), (fun v => match v with | () => K .normal ⟨[], [], 0, 0⟩))
theorem S86_0_okg (fuel : Nat) (f112 : YF112) (R : Ev.St → Option Ans) (K : Ev.Ex → Ev.St → Option Ans) (x0 x1 x2 : Int) (x3 : (List Int)) : evalCode tab (Gg86 f112) (J86_0 fuel) kp86 fuel (bodyOf 0 Try.f86) (T86_0 (x0, x1, x2, x3)) (lc kp86 4 0 R K) = Sg_ref05_Valid_0 fuel f112 x0 x1 x2 x3 (fun v => R (T86_0 v)) (E86_0 K) := by
  kernel_rfl
theorem S86_0_ok (fuel : Nat) (R : Ev.St → Option Ans) (K : Ev.Ex → Ev.St → Option Ans) (x0 x1 x2 : Int) (x3 : (List Int)) : evalCode tab (G86 fuel) (J86_0 fuel) kp86 fuel (bodyOf 0 Try.f86) (T86_0 (x0, x1, x2, x3)) (lc kp86 4 0 R K) = S_ref05_Valid_0 fuel (x0, x1, x2, x3) (fun v => R (T86_0 v)) (E86_0 K) :=
  S86_0_okg fuel (F_ref05_Sides fuel) R K x0 x1 x2 x3
noncomputable def B86_0 (fuel : Nat) : Ev.Blk := fun st K => match canonO (kp86 4) st with
 | some s => (match s with
 | ⟨[(q0, .c (.ptr q1 q2)), (q3, .c (.int .i64 x0))], [(q4, .cells q5 [.int .i64 x1, .int .i64 x2, .sl (.int .u8) x3])], q6, q7⟩ => bif Nat.beq q0 1 && Nat.beq q1 0 && Nat.beq q2 0 && Nat.beq q3 3 && Nat.beq q4 0 && Nat.beq q5 39 && Nat.beq q6 1 && Nat.beq q7 0 then iter (S_ref05_Valid_0 fuel) fuel (x0, x1, x2, x3) (E86_0 K) else none
 | _ => none)
 | none => none
theorem B86_0_ok (fuel : Nat) (st : Ev.St) (K : Ev.Ex → Ev.St → Option Ans) (r : Ans) (h : B86_0 fuel st K = some r) : evalCode tab (G86 fuel) (J86_0 fuel) kp86 fuel (.block 0 (.loop (bodyOf 0 Try.f86))) st K = some r := by
  unfold B86_0 at h
  split at h
  · rename_i s hs
    split at h
    · skip
      obtain ⟨hb, h⟩ := cond_some' h
      simp only [Bool.and_eq_true, Nat.beq_eq, decide_eq_true_eq] at hb
      obtain ⟨⟨⟨⟨⟨⟨⟨rfl, rfl⟩, rfl⟩, rfl⟩, rfl⟩, rfl⟩, rfl⟩, rfl⟩ := hb
      exact blk_loop (S := T86_0) (ks := E86_0) (step := S_ref05_Valid_0 fuel) (v := (_, _, _, _)) (by kernel_rfl) (by kernel_rfl) (fun R K v => by obtain ⟨x0, x1, x2, x3⟩ := v; exact S86_0_ok fuel R K x0 x1 x2 x3) hs h
    · cases h
  · cases h
noncomputable def J86 (fuel : Nat) (i : Nat) : Option Ev.Blk := Ev.look i [(100000, B86_0 fuel)]
noncomputable def Fg_ref05_Valid (fuel : Nat) (f112 : YF112) (x0 x1 : Int) (x2 : (List Int)) (k0 : (Bool) → Option Ans) : Option Ans :=
  (f112 (x0) (x1)
  (fun y2 =>
  bif !y2 then
  k0 false
  else
  bif (↑x2.length : Int) != IntKind.i64.wrap (x0 * x1) then
  k0 false
  else
  (L_ref05_Valid_0 fuel ((0 : Int), x0, x1, x2)
  (fun ret0_0 =>
  k0 ret0_0)
  (fun () =>
  k0 true))))
noncomputable def F_ref05_Valid (fuel : Nat) (x0 x1 : Int) (x2 : (List Int)) (k0 : (Bool) → Option Ans) : Option Ans := Fg_ref05_Valid fuel (F_ref05_Sides fuel) x0 x1 x2 k0
abbrev YF86 : Type := (Int) → (Int) → ((List Int)) → ((Bool) → Option Ans) → Option Ans
theorem F86_eqg (fuel : Nat) (f112 : YF112) (x0 x1 : Int) (x2 : (List Int)) (k : Ev.Cont) : evalFn tab (Gg86 f112) (J86 fuel) kp86 fuel Try.f86 [.agg [.int .i64 x0, .int .i64 x1, .sl (.int .u8) x2]] [] k = Fg_ref05_Valid fuel f112 x0 x1 x2 (fun r => match r with | r0 => k (.c (.bool r0), [])) := by
  kernel_rfl
theorem F86_eq (fuel : Nat) (x0 x1 : Int) (x2 : (List Int)) (k : Ev.Cont) : evalFn tab (G86 fuel) (J86 fuel) kp86 fuel Try.f86 [.agg [.int .i64 x0, .int .i64 x1, .sl (.int .u8) x2]] [] k = F_ref05_Valid fuel x0 x1 x2 (fun r => match r with | r0 => k (.c (.bool r0), [])) :=
  F86_eqg fuel (F_ref05_Sides fuel) x0 x1 x2 k
theorem hG86 (fuel : Nat) : GOK Try.prog (G86 fuel) :=
  gok_cons ⟨ok112 fuel, enters_of Try.func112 (by kernel_rfl) rfl⟩ <|
  gok_nil
theorem B86_0_blk (fuel : Nat) : BlkOK Try.prog Try.f86.ntmps (.block 0 (.loop (bodyOf 0 Try.f86))) (B86_0 fuel) :=
  blk_of (blk_of_code tab_ok (hG86 fuel) mixed (J := J86_0 fuel) (kp := kp86) (fuel := fuel) (by kernel_rfl) (fun q hq => by
    rw [(by kernel_rfl : obl (J86_0 fuel) (.block 0 (.loop (bodyOf 0 Try.f86))) = [])] at hq
    cases hq)) (B86_0_ok fuel)
theorem fok86 (fuel : Nat) : FnOK Try.prog 86 (evalFn tab (G86 fuel) (J86 fuel) kp86 fuel Try.f86) :=
  fn_ok tab_ok (hG86 fuel) mixed Try.func86 (c := (Try.f86.body).getD .skip) rfl (fun q hq => by
    rw [(by kernel_rfl : obl (J86 fuel) ((Try.f86.body).getD .skip) = [(.block 0 (.loop (bodyOf 0 Try.f86)), B86_0 fuel)])] at hq
    simp only [List.mem_cons, List.not_mem_nil, or_false] at hq
    subst hq
    · exact B86_0_blk fuel)
noncomputable def mt86 : List Ev.SV → List Ev.Ob → Bool := fun args objs => match args, objs with
 | [.agg [.int .i64 _, .int .i64 _, .sl (.int .u8) _]], [] => true
 | _, _ => false
noncomputable def spg86 (F : YF86) : Ev.Spec := fun args objs k => match args, objs with
 | [.agg [.int .i64 x0, .int .i64 x1, .sl (.int .u8) x2]], [] => bif true then F x0 x1 x2 (fun r => match r with | r0 => k (.c (.bool r0), [])) else none
 | _, _ => none
noncomputable def spec86 (fuel : Nat) : Ev.Spec := spg86 (F_ref05_Valid fuel)
theorem ok86 (fuel : Nat) : FnOK Try.prog 86 (spec86 fuel) := by
  intro args objs kk r h
  unfold spec86 spg86 at h
  split at h
  · skip
    obtain ⟨hb, h⟩ := cond_some' h
    simp only [Bool.and_eq_true, Nat.beq_eq, decide_eq_true_eq] at hb
    clear hb
    exact fok86 fuel _ _ kk r ((F86_eq fuel _ _ _ kk).trans h)
  · cases h
end Go.Proofs.Ytihfgpfofmjbaaa

set_option linter.unusedVariables false
set_option linter.unusedSimpArgs false
set_option maxRecDepth 100000
set_option maxHeartbeats 2000000
namespace Go.Proofs.Ytihfgpfofmjbaaa
open Go Ev
def kp156 (i : Nat) : Option (List Nat) := Ev.look i []
noncomputable def Gg156 (f : Nat) : Option Ev.Spec := Ev.look f []
noncomputable def G156 (fuel : Nat) : Nat → Option Ev.Spec := Gg156
noncomputable def J156 (fuel : Nat) (i : Nat) : Option Ev.Blk := Ev.look i []
noncomputable def F_ref05_inside (fuel : Nat) (x0 x1 : Int) (x2 : (List Int)) (x3 x4 : Int) (k0 : (Bool) → Option Ans) : Option Ans :=
  bif decide (x3 ≥ (0 : Int)) then
  bif decide (x4 ≥ (0 : Int)) then
  bif decide (x3 < x0) then
  k0 (decide (x4 < x1))
  else
  k0 false
  else
  k0 false
  else
  k0 false
abbrev YF156 : Type := (Int) → (Int) → ((List Int)) → (Int) → (Int) → ((Bool) → Option Ans) → Option Ans
theorem F156_eq (fuel : Nat) (x0 x1 : Int) (x2 : (List Int)) (x3 x4 : Int) (k : Ev.Cont) : evalFn tab (G156 fuel) (J156 fuel) kp156 fuel Try.f156 [.agg [.int .i64 x0, .int .i64 x1, .sl (.int .u8) x2], .c (.int .i64 x3), .c (.int .i64 x4)] [] k = F_ref05_inside fuel x0 x1 x2 x3 x4 (fun r => match r with | r0 => k (.c (.bool r0), [])) := by
  kernel_rfl
theorem hG156 (fuel : Nat) : GOK Try.prog (G156 fuel) :=
  gok_nil
theorem fok156 (fuel : Nat) : FnOK Try.prog 156 (evalFn tab (G156 fuel) (J156 fuel) kp156 fuel Try.f156) :=
  fn_ok tab_ok (hG156 fuel) mixed Try.func156 (c := (Try.f156.body).getD .skip) rfl (fun q hq => by
    rw [(by kernel_rfl : obl (J156 fuel) ((Try.f156.body).getD .skip) = [])] at hq
    cases hq)
noncomputable def mt156 : List Ev.SV → List Ev.Ob → Bool := fun args objs => match args, objs with
 | [.agg [.int .i64 _, .int .i64 _, .sl (.int .u8) _], .c (.int .i64 _), .c (.int .i64 _)], [] => true
 | _, _ => false
noncomputable def spg156 (F : YF156) : Ev.Spec := fun args objs k => match args, objs with
 | [.agg [.int .i64 x0, .int .i64 x1, .sl (.int .u8) x2], .c (.int .i64 x3), .c (.int .i64 x4)], [] => bif true then F x0 x1 x2 x3 x4 (fun r => match r with | r0 => k (.c (.bool r0), [])) else none
 | _, _ => none
noncomputable def spec156 (fuel : Nat) : Ev.Spec := spg156 (F_ref05_inside fuel)
theorem ok156 (fuel : Nat) : FnOK Try.prog 156 (spec156 fuel) := by
  intro args objs kk r h
  unfold spec156 spg156 at h
  split at h
  · skip
    obtain ⟨hb, h⟩ := cond_some' h
    simp only [Bool.and_eq_true, Nat.beq_eq, decide_eq_true_eq] at hb
    clear hb
    exact fok156 fuel _ _ kk r ((F156_eq fuel _ _ _ _ _ kk).trans h)
  · cases h
end Go.Proofs.Ytihfgpfofmjbaaa

set_option linter.unusedVariables false
set_option linter.unusedSimpArgs false
set_option maxRecDepth 100000
set_option maxHeartbeats 2000000
namespace Go.Proofs.Ytihfgpfofmjbaaa
open Go Ev
def kp125 (i : Nat) : Option (List Nat) := Ev.look i []
noncomputable def Gg125 (f156 : YF156) (f : Nat) : Option Ev.Spec := Ev.look f [(156, spg156 f156)]
noncomputable def G125 (fuel : Nat) : Nat → Option Ev.Spec := Gg125 (F_ref05_inside fuel)
noncomputable def J125 (fuel : Nat) (i : Nat) : Option Ev.Blk := Ev.look i []
noncomputable def Fg_ref05_At (fuel : Nat) (f156 : YF156) (x0 x1 : Int) (x2 : (List Int)) (x3 x4 : Int) (k0 : (Int) → Option Ans) : Option Ans :=
  (f156 (x0) (x1) (x2) (x3) (x4)
  (fun y2 =>
  bif !y2 then
  k0 ((0 : Int))
  else
  bif decide ((0 : Int) ≤ IntKind.i64.wrap (IntKind.i64.wrap (x4 * x0) + x3) ∧ IntKind.i64.wrap (IntKind.i64.wrap (x4 * x0) + x3) < (↑x2.length : Int)) then
  k0 (IntKind.i64.wrap (x2.getD (IntKind.i64.wrap (IntKind.i64.wrap (x4 * x0) + x3)).toNat (0 : Int)))
  else none))
noncomputable def F_ref05_At (fuel : Nat) (x0 x1 : Int) (x2 : (List Int)) (x3 x4 : Int) (k0 : (Int) → Option Ans) : Option Ans := Fg_ref05_At fuel (F_ref05_inside fuel) x0 x1 x2 x3 x4 k0
abbrev YF125 : Type := (Int) → (Int) → ((List Int)) → (Int) → (Int) → ((Int) → Option Ans) → Option Ans
theorem F125_eqg (fuel : Nat) (f156 : YF156) (x0 x1 : Int) (x2 : (List Int)) (x3 x4 : Int) (k : Ev.Cont) : evalFn tab (Gg125 f156) (J125 fuel) kp125 fuel Try.f125 [.agg [.int .i64 x0, .int .i64 x1, .sl (.int .u8) x2], .c (.int .i64 x3), .c (.int .i64 x4)] [] k = Fg_ref05_At fuel f156 x0 x1 x2 x3 x4 (fun r => match r with | r0 => k (.c (.int .i64 r0), [])) := by
  kernel_rfl
theorem F125_eq (fuel : Nat) (x0 x1 : Int) (x2 : (List Int)) (x3 x4 : Int) (k : Ev.Cont) : evalFn tab (G125 fuel) (J125 fuel) kp125 fuel Try.f125 [.agg [.int .i64 x0, .int .i64 x1, .sl (.int .u8) x2], .c (.int .i64 x3), .c (.int .i64 x4)] [] k = F_ref05_At fuel x0 x1 x2 x3 x4 (fun r => match r with | r0 => k (.c (.int .i64 r0), [])) :=
  F125_eqg fuel (F_ref05_inside fuel) x0 x1 x2 x3 x4 k
theorem hG125 (fuel : Nat) : GOK Try.prog (G125 fuel) :=
  gok_cons ⟨ok156 fuel, enters_of Try.func156 (by kernel_rfl) rfl⟩ <|
  gok_nil
theorem fok125 (fuel : Nat) : FnOK Try.prog 125 (evalFn tab (G125 fuel) (J125 fuel) kp125 fuel Try.f125) :=
  fn_ok tab_ok (hG125 fuel) mixed Try.func125 (c := (Try.f125.body).getD .skip) rfl (fun q hq => by
    rw [(by kernel_rfl : obl (J125 fuel) ((Try.f125.body).getD .skip) = [])] at hq
    cases hq)
noncomputable def mt125 : List Ev.SV → List Ev.Ob → Bool := fun args objs => match args, objs with
 | [.agg [.int .i64 _, .int .i64 _, .sl (.int .u8) _], .c (.int .i64 _), .c (.int .i64 _)], [] => true
 | _, _ => false
noncomputable def spg125 (F : YF125) : Ev.Spec := fun args objs k => match args, objs with
 | [.agg [.int .i64 x0, .int .i64 x1, .sl (.int .u8) x2], .c (.int .i64 x3), .c (.int .i64 x4)], [] => bif true then F x0 x1 x2 x3 x4 (fun r => match r with | r0 => k (.c (.int .i64 r0), [])) else none
 | _, _ => none
noncomputable def spec125 (fuel : Nat) : Ev.Spec := spg125 (F_ref05_At fuel)
theorem ok125 (fuel : Nat) : FnOK Try.prog 125 (spec125 fuel) := by
  intro args objs kk r h
  unfold spec125 spg125 at h
  split at h
  · skip
    obtain ⟨hb, h⟩ := cond_some' h
    simp only [Bool.and_eq_true, Nat.beq_eq, decide_eq_true_eq] at hb
    clear hb
    exact fok125 fuel _ _ kk r ((F125_eq fuel _ _ _ _ _ kk).trans h)
  · cases h
end Go.Proofs.Ytihfgpfofmjbaaa

set_option linter.unusedVariables false
set_option linter.unusedSimpArgs false
set_option maxRecDepth 100000
set_option maxHeartbeats 2000000
namespace Go.Proofs.Ytihfgpfofmjbaaa
open Go Ev
def kp15 (i : Nat) : Option (List Nat) := Ev.look i [(3, [0, 3, 6, 7, 8]), (100000, [0, 3]), (400000, [2])]
noncomputable def Gg15 (f : Nat) : Option Ev.Spec := Ev.look f []
noncomputable def G15 (fuel : Nat) : Nat → Option Ev.Spec := Gg15
noncomputable def S_law14_large_0 (fuel : Nat) (v : (List (Int × (Int × (Int × ((List Int) × ((List Bool) × (List Int))))))) × Int × (List (Int × (Int × (Int × ((List Int) × ((List Bool) × (List Int))))))) × Int × Int) (c : ((List (Int × (Int × (Int × ((List Int) × ((List Bool) × (List Int))))))) × Int × (List (Int × (Int × (Int × ((List Int) × ((List Bool) × (List Int))))))) × Int × Int) → Option Ans) (B : ((List (Int × (Int × (Int × ((List Int) × ((List Bool) × (List Int))))))) × Int → Option Ans)) : Option Ans := match v, B with
 | (x0, x1, x2, x3, x4), b =>
  bif decide (x4 < x3) then
  bif decide ((0 : Int) ≤ x4 ∧ x4 < (↑x2.length : Int)) then
  c (x0, IntKind.i64.wrap (x1 + IntKind.i64.wrap ((↑(List.length (x2.getD x4.toNat ((0 : Int), (0 : Int), (0 : Int), [], [], [])).snd.snd.snd.snd.snd) : Int) + (↑(List.length (x2.getD x4.toNat ((0 : Int), (0 : Int), (0 : Int), [], [], [])).snd.snd.snd.fst) : Int))), x2, x3, IntKind.i64.wrap (x4 + (1 : Int)))
  else none
  else
  b (x0, x1)
noncomputable def L_law14_large_0 (fuel : Nat) (v : (List (Int × (Int × (Int × ((List Int) × ((List Bool) × (List Int))))))) × Int × (List (Int × (Int × (Int × ((List Int) × ((List Bool) × (List Int))))))) × Int × Int) (b : ((List (Int × (Int × (Int × ((List Int) × ((List Bool) × (List Int))))))) × Int → Option Ans)) : Option Ans := iter (S_law14_large_0 fuel) fuel v b
noncomputable def J15_0 (fuel : Nat) (i : Nat) : Option Ev.Blk := Ev.look i []
noncomputable def T15_0 (v : (List (Int × (Int × (Int × ((List Int) × ((List Bool) × (List Int))))))) × Int × (List (Int × (Int × (Int × ((List Int) × ((List Bool) × (List Int))))))) × Int × Int) : Ev.St := match v with | (x0, x1, x2, x3, x4) => ⟨[(0, .c (.sl (.pair (.int .i64) (.pair (.int .i64) (.pair (.int .i64) (.pair (.sl (.int .i64)) (.pair (.sl .bool) (.sl (.int .u8))))))) x0)), (3, .c (.int .i64 x1)), (6, .c (.sl (.pair (.int .i64) (.pair (.int .i64) (.pair (.int .i64) (.pair (.sl (.int .i64)) (.pair (.sl .bool) (.sl (.int .u8))))))) x2)), (7, .c (.int .i64 x3)), (8, .c (.int .i64 x4))], [], 0, 0⟩
noncomputable def E15_0 (K : Ev.Ex → Ev.St → Option Ans) : ((List (Int × (Int × (Int × ((List Int) × ((List Bool) × (List Int))))))) × Int → Option Ans) := (fun v => match v with | (x0, x1) => K .normal ⟨[(0, .c (.sl (.pair (.int .i64) (.pair (.int .i64) (.pair (.int .i64) (.pair (.sl (.int .i64)) (.pair (.sl .bool) (.sl (.int .u8))))))) x0)), (3, .c (.int .i64 x1))], [], 0, 0⟩)
theorem S15_0_ok (fuel : Nat) (R : Ev.St → Option Ans) (K : Ev.Ex → Ev.St → Option Ans) (x0 : (List (Int × (Int × (Int × ((List Int) × ((List Bool) × (List Int)))))))) (x1 : Int) (x2 : (List (Int × (Int × (Int × ((List Int) × ((List Bool) × (List Int)))))))) (x3 x4 : Int) : evalCode tab (G15 fuel) (J15_0 fuel) kp15 fuel (bodyOf 0 Try.f15) (T15_0 (x0, x1, x2, x3, x4)) (lc kp15 3 0 R K) = S_law14_large_0 fuel (x0, x1, x2, x3, x4) (fun v => R (T15_0 v)) (E15_0 K) := by
  kernel_rfl
noncomputable def B15_0 (fuel : Nat) : Ev.Blk := fun st K => match canonO (kp15 3) st with
 | some s => (match s with
 | ⟨[(q0, .c (.sl (.pair (.int .i64) (.pair (.int .i64) (.pair (.int .i64) (.pair (.sl (.int .i64)) (.pair (.sl .bool) (.sl (.int .u8))))))) x0)), (q1, .c (.int .i64 x1)), (q2, .c (.sl (.pair (.int .i64) (.pair (.int .i64) (.pair (.int .i64) (.pair (.sl (.int .i64)) (.pair (.sl .bool) (.sl (.int .u8))))))) x2)), (q3, .c (.int .i64 x3)), (q4, .c (.int .i64 x4))], [], q5, q6⟩ => bif Nat.beq q0 0 && Nat.beq q1 3 && Nat.beq q2 6 && Nat.beq q3 7 && Nat.beq q4 8 && Nat.beq q5 0 && Nat.beq q6 0 then iter (S_law14_large_0 fuel) fuel (x0, x1, x2, x3, x4) (E15_0 K) else none
 | _ => none)
 | none => none
theorem B15_0_ok (fuel : Nat) (st : Ev.St) (K : Ev.Ex → Ev.St → Option Ans) (r : Ans) (h : B15_0 fuel st K = some r) : evalCode tab (G15 fuel) (J15_0 fuel) kp15 fuel (.block 0 (.loop (bodyOf 0 Try.f15))) st K = some r := by
  unfold B15_0 at h
  split at h
  · rename_i s hs
    split at h
    · skip
      obtain ⟨hb, h⟩ := cond_some' h
      simp only [Bool.and_eq_true, Nat.beq_eq, decide_eq_true_eq] at hb
      obtain ⟨⟨⟨⟨⟨⟨rfl, rfl⟩, rfl⟩, rfl⟩, rfl⟩, rfl⟩, rfl⟩ := hb
      exact blk_loop (S := T15_0) (ks := E15_0) (step := S_law14_large_0 fuel) (v := (_, _, _, _, _)) (by kernel_rfl) (by kernel_rfl) (fun R K v => by obtain ⟨x0, x1, x2, x3, x4⟩ := v; exact S15_0_ok fuel R K x0 x1 x2 x3 x4) hs h
    · cases h
  · cases h
noncomputable def J15 (fuel : Nat) (i : Nat) : Option Ev.Blk := Ev.look i [(100000, B15_0 fuel)]
noncomputable def F_law14_large (fuel : Nat) (x0 : (List (Int × Int × Int × (List Int) × (List Bool) × (List Int)))) (k0 : (Bool) → Option Ans) : Option Ans :=
  (L_law14_large_0 fuel (x0, (0 : Int), x0, (↑x0.length : Int), (0 : Int))
  (fun (b0_0, b0_1) =>
  bif decide ((↑b0_0.length : Int) > (300 : Int)) then
  k0 true
  else
  k0 (decide (b0_1 > (100000 : Int)))))
abbrev YF15 : Type := ((List (Int × Int × Int × (List Int) × (List Bool) × (List Int)))) → ((Bool) → Option Ans) → Option Ans
theorem F15_eq (fuel : Nat) (x0 : (List (Int × Int × Int × (List Int) × (List Bool) × (List Int)))) (k : Ev.Cont) : evalFn tab (G15 fuel) (J15 fuel) kp15 fuel Try.f15 [.c (.sl (.pair (.int .i64) (.pair (.int .i64) (.pair (.int .i64) (.pair (.sl (.int .i64)) (.pair (.sl .bool) (.sl (.int .u8))))))) x0)] [] k = F_law14_large fuel x0 (fun r => match r with | r0 => k (.c (.bool r0), [])) := by
  kernel_rfl
theorem hG15 (fuel : Nat) : GOK Try.prog (G15 fuel) :=
  gok_nil
theorem B15_0_blk (fuel : Nat) : BlkOK Try.prog Try.f15.ntmps (.block 0 (.loop (bodyOf 0 Try.f15))) (B15_0 fuel) :=
  blk_of (blk_of_code tab_ok (hG15 fuel) mixed (J := J15_0 fuel) (kp := kp15) (fuel := fuel) (by kernel_rfl) (fun q hq => by
    rw [(by kernel_rfl : obl (J15_0 fuel) (.block 0 (.loop (bodyOf 0 Try.f15))) = [])] at hq
    cases hq)) (B15_0_ok fuel)
theorem fok15 (fuel : Nat) : FnOK Try.prog 15 (evalFn tab (G15 fuel) (J15 fuel) kp15 fuel Try.f15) :=
  fn_ok tab_ok (hG15 fuel) mixed Try.func15 (c := (Try.f15.body).getD .skip) rfl (fun q hq => by
    rw [(by kernel_rfl : obl (J15 fuel) ((Try.f15.body).getD .skip) = [(.block 0 (.loop (bodyOf 0 Try.f15)), B15_0 fuel)])] at hq
    simp only [List.mem_cons, List.not_mem_nil, or_false] at hq
    subst hq
    · exact B15_0_blk fuel)
noncomputable def mt15 : List Ev.SV → List Ev.Ob → Bool := fun args objs => match args, objs with
 | [.c (.sl (.pair (.int .i64) (.pair (.int .i64) (.pair (.int .i64) (.pair (.sl (.int .i64)) (.pair (.sl .bool) (.sl (.int .u8))))))) _)], [] => true
 | _, _ => false
noncomputable def spg15 (F : YF15) : Ev.Spec := fun args objs k => match args, objs with
 | [.c (.sl (.pair (.int .i64) (.pair (.int .i64) (.pair (.int .i64) (.pair (.sl (.int .i64)) (.pair (.sl .bool) (.sl (.int .u8))))))) x0)], [] => bif true then F x0 (fun r => match r with | r0 => k (.c (.bool r0), [])) else none
 | _, _ => none
noncomputable def spec15 (fuel : Nat) : Ev.Spec := spg15 (F_law14_large fuel)
theorem ok15 (fuel : Nat) : FnOK Try.prog 15 (spec15 fuel) := by
  intro args objs kk r h
  unfold spec15 spg15 at h
  split at h
  · skip
    obtain ⟨hb, h⟩ := cond_some' h
    simp only [Bool.and_eq_true, Nat.beq_eq, decide_eq_true_eq] at hb
    clear hb
    exact fok15 fuel _ _ kk r ((F15_eq fuel _ kk).trans h)
  · cases h
end Go.Proofs.Ytihfgpfofmjbaaa

set_option linter.unusedVariables false
set_option linter.unusedSimpArgs false
set_option maxRecDepth 100000
set_option maxHeartbeats 2000000
namespace Go.Proofs.Ytihfgpfofmjbaaa
open Go Ev
def kp102_f32 (i : Nat) : Option (List Nat) := Ev.look i [(0, [0, 1000001, 1000002, 1000003]), (100000, []), (200000, [0]), (200003, [0]), (400000, [])]
noncomputable def Gg102_f32 (f171_f32 : YF171_f32) (f172_857 : YF172_857) (f173_857 : YF173_857) (f : Nat) : Option Ev.Spec := Ev.look f [(171, spg171_f32 f171_f32), (172, spg172_857 f172_857), (173, spg173_857 f173_857)]
noncomputable def G102_f32 (fuel : Nat) : Nat → Option Ev.Spec := Gg102_f32 (F_file_reader_header_f32 fuel) (F_file_reader_fail_857 fuel) (F_file_reader_data_857 fuel)
noncomputable def Sg_file_reader_embedded_f32_0 (fuel : Nat) (f171_f32 : YF171_f32) (f172_857 : YF172_857) (f173_857 : YF173_857) (x0 : (List Int)) (x1 x2 x3 : Int) (x4 : (List (Int × (Int × (Int × ((List Int) × ((List Bool) × (List Int)))))))) (x5 x6 : (List Int)) (c : ((List Int) × Int × Int × Int × (List (Int × (Int × (Int × ((List Int) × ((List Bool) × (List Int))))))) × (List Int) × (List Int)) → Option Ans) (B : ((List Int) × Int × Int × Int × (List (Int × (Int × (Int × ((List Int) × ((List Bool) × (List Int))))))) × (List Int) × (List Int) → Option Ans)) : Option Ans := match B with
 | b =>
  bif x3 == (0 : Int) then
  bif decide (x1 < (↑x0.length : Int)) then
  (f171_f32 (x0) (x1) (x2) (x3) (x4) (x5) (x6)
  (fun (y4_0, y4_1, y4_2, y4_3, y4_4, y4_5, y4_6, y4_7) =>
  bif y4_4 == (0 : Int) then
  bif decide ((0 : Int) ≤ IntKind.i64.wrap ((↑y4_5.length : Int) - (1 : Int)) ∧ IntKind.i64.wrap ((↑y4_5.length : Int) - (1 : Int)) < (↑y4_5.length : Int)) then
  bif (y4_5.getD (IntKind.i64.wrap ((↑y4_5.length : Int) - (1 : Int))).toNat ((0 : Int), (0 : Int), (0 : Int), [], [], [])).snd.fst == (9 : Int) then
  (f172_857 (x1) ((60 : Int)) (y4_1) (y4_2) (y4_3) (y4_4) (y4_5) (y4_6) (y4_7)
  (fun (y11_0, y11_1, y11_2, y11_3, y11_4, y11_5, y11_6) =>
  (f173_857 (IntKind.i64.wrap ((↑y11_4.length : Int) - (1 : Int))) (y4_0) (y11_0) (y11_1) (y11_2) (y11_3) (y11_4) (y11_5) (y11_6)
  (fun (y15_0, y15_1, y15_2, y15_3, y15_4, y15_5, y15_6) =>
  c (y15_0, y15_1, y15_2, y15_3, y15_4, y15_5, y15_6))
  (fun (y15_0, y15_1, y15_2, y15_3, y15_4, y15_5, y15_6) =>
  c (y15_0, y15_1, y15_2, y15_3, y15_4, y15_5, y15_6)))))
  else
  (f173_857 (IntKind.i64.wrap ((↑y4_5.length : Int) - (1 : Int))) (y4_0) (y4_1) (y4_2) (y4_3) (y4_4) (y4_5) (y4_6) (y4_7)
  (fun (y11_0, y11_1, y11_2, y11_3, y11_4, y11_5, y11_6) =>
  c (y11_0, y11_1, y11_2, y11_3, y11_4, y11_5, y11_6))
  (fun (y11_0, y11_1, y11_2, y11_3, y11_4, y11_5, y11_6) =>
  c (y11_0, y11_1, y11_2, y11_3, y11_4, y11_5, y11_6)))
  else none
  else
  (f173_857 (IntKind.i64.wrap ((↑y4_5.length : Int) - (1 : Int))) (y4_0) (y4_1) (y4_2) (y4_3) (y4_4) (y4_5) (y4_6) (y4_7)
  (fun (y9_0, y9_1, y9_2, y9_3, y9_4, y9_5, y9_6) =>
  c (y9_0, y9_1, y9_2, y9_3, y9_4, y9_5, y9_6))
  (fun (y9_0, y9_1, y9_2, y9_3, y9_4, y9_5, y9_6) =>
  c (y9_0, y9_1, y9_2, y9_3, y9_4, y9_5, y9_6))))
  (fun (y4_0, y4_1, y4_2, y4_3, y4_4, y4_5, y4_6, y4_7) =>
  bif y4_4 == (0 : Int) then
  bif decide ((0 : Int) ≤ IntKind.i64.wrap ((↑y4_5.length : Int) - (1 : Int)) ∧ IntKind.i64.wrap ((↑y4_5.length : Int) - (1 : Int)) < (↑y4_5.length : Int)) then
  bif (y4_5.getD (IntKind.i64.wrap ((↑y4_5.length : Int) - (1 : Int))).toNat ((0 : Int), (0 : Int), (0 : Int), [], [], [])).snd.fst == (9 : Int) then
  (f172_857 (x1) ((60 : Int)) (y4_1) (y4_2) (y4_3) (y4_4) (y4_5) (y4_6) (y4_7)
  (fun (y11_0, y11_1, y11_2, y11_3, y11_4, y11_5, y11_6) =>
  (f173_857 (IntKind.i64.wrap ((↑y11_4.length : Int) - (1 : Int))) (y4_0) (y11_0) (y11_1) (y11_2) (y11_3) (y11_4) (y11_5) (y11_6)
  (fun (y15_0, y15_1, y15_2, y15_3, y15_4, y15_5, y15_6) =>
  c (y15_0, y15_1, y15_2, y15_3, y15_4, y15_5, y15_6))
  (fun (y15_0, y15_1, y15_2, y15_3, y15_4, y15_5, y15_6) =>
  c (y15_0, y15_1, y15_2, y15_3, y15_4, y15_5, y15_6)))))
  else
  (f173_857 (IntKind.i64.wrap ((↑y4_5.length : Int) - (1 : Int))) (y4_0) (y4_1) (y4_2) (y4_3) (y4_4) (y4_5) (y4_6) (y4_7)
  (fun (y11_0, y11_1, y11_2, y11_3, y11_4, y11_5, y11_6) =>
  c (y11_0, y11_1, y11_2, y11_3, y11_4, y11_5, y11_6))
  (fun (y11_0, y11_1, y11_2, y11_3, y11_4, y11_5, y11_6) =>
  c (y11_0, y11_1, y11_2, y11_3, y11_4, y11_5, y11_6)))
  else none
  else
  (f173_857 (IntKind.i64.wrap ((↑y4_5.length : Int) - (1 : Int))) (y4_0) (y4_1) (y4_2) (y4_3) (y4_4) (y4_5) (y4_6) (y4_7)
  (fun (y9_0, y9_1, y9_2, y9_3, y9_4, y9_5, y9_6) =>
  c (y9_0, y9_1, y9_2, y9_3, y9_4, y9_5, y9_6))
  (fun (y9_0, y9_1, y9_2, y9_3, y9_4, y9_5, y9_6) =>
  c (y9_0, y9_1, y9_2, y9_3, y9_4, y9_5, y9_6)))))
  else
  b (x0, x1, x2, x3, x4, x5, x6)
  else
  b (x0, x1, x2, x3, x4, x5, x6)
noncomputable def S_file_reader_embedded_f32_0 (fuel : Nat) (v : (List Int) × Int × Int × Int × (List (Int × (Int × (Int × ((List Int) × ((List Bool) × (List Int))))))) × (List Int) × (List Int)) (c : ((List Int) × Int × Int × Int × (List (Int × (Int × (Int × ((List Int) × ((List Bool) × (List Int))))))) × (List Int) × (List Int)) → Option Ans) (B : ((List Int) × Int × Int × Int × (List (Int × (Int × (Int × ((List Int) × ((List Bool) × (List Int))))))) × (List Int) × (List Int) → Option Ans)) : Option Ans := match v with
 | (x0, x1, x2, x3, x4, x5, x6) => Sg_file_reader_embedded_f32_0 fuel (F_file_reader_header_f32 fuel) (F_file_reader_fail_857 fuel) (F_file_reader_data_857 fuel) x0 x1 x2 x3 x4 x5 x6 c B
noncomputable def L_file_reader_embedded_f32_0 (fuel : Nat) (v : (List Int) × Int × Int × Int × (List (Int × (Int × (Int × ((List Int) × ((List Bool) × (List Int))))))) × (List Int) × (List Int)) (b : ((List Int) × Int × Int × Int × (List (Int × (Int × (Int × ((List Int) × ((List Bool) × (List Int))))))) × (List Int) × (List Int) → Option Ans)) : Option Ans := iter (S_file_reader_embedded_f32_0 fuel) fuel v b
noncomputable def J102_f32_0 (fuel : Nat) (i : Nat) : Option Ev.Blk := Ev.look i []
noncomputable def T102_f32_0 (v : (List Int) × Int × Int × Int × (List (Int × (Int × (Int × ((List Int) × ((List Bool) × (List Int))))))) × (List Int) × (List Int)) : Ev.St := match v with | (x0, x1, x2, x3, x4, x5, x6) => ⟨[(0, .c (.ptr 0 0))], [(0, .cells 141 [.sl (.int .u8) x0, .int .i64 x1, .own 1, .own 2, .own 3, .int .i64 x2, .int .i64 x3]), (1, .vec 103 (.pair (.int .i64) (.pair (.int .i64) (.pair (.int .i64) (.pair (.sl (.int .i64)) (.pair (.sl .bool) (.sl (.int .u8))))))) x4 true), (2, .vec 3 (.int .i64) x5 true), (3, .vec 3 (.int .i64) x6 true)], 4, 4⟩
noncomputable def E102_f32_0 (K : Ev.Ex → Ev.St → Option Ans) : ((List Int) × Int × Int × Int × (List (Int × (Int × (Int × ((List Int) × ((List Bool) × (List Int))))))) × (List Int) × (List Int) → Option Ans) := (fun v => match v with | (x0, x1, x2, x3, x4, x5, x6) => K .normal ⟨[], [(0, .cells 141 [.sl (.int .u8) x0, .int .i64 x1, .own 1, .own 2, .own 3, .int .i64 x2, .int .i64 x3]), (1, .vec 103 (.pair (.int .i64) (.pair (.int .i64) (.pair (.int .i64) (.pair (.sl (.int .i64)) (.pair (.sl .bool) (.sl (.int .u8))))))) x4 true), (2, .vec 3 (.int .i64) x5 true), (3, .vec 3 (.int .i64) x6 true)], 4, 4⟩)
theorem S102_f32_0_okg (fuel : Nat) (f171_f32 : YF171_f32) (f172_857 : YF172_857) (f173_857 : YF173_857) (R : Ev.St → Option Ans) (K : Ev.Ex → Ev.St → Option Ans) (x0 : (List Int)) (x1 x2 x3 : Int) (x4 : (List (Int × (Int × (Int × ((List Int) × ((List Bool) × (List Int)))))))) (x5 x6 : (List Int)) : evalCode tab (Gg102_f32 f171_f32 f172_857 f173_857) (J102_f32_0 fuel) kp102_f32 fuel (bodyOf 0 Try.f102) (T102_f32_0 (x0, x1, x2, x3, x4, x5, x6)) (lc kp102_f32 0 0 R K) = Sg_file_reader_embedded_f32_0 fuel f171_f32 f172_857 f173_857 x0 x1 x2 x3 x4 x5 x6 (fun v => R (T102_f32_0 v)) (E102_f32_0 K) := by
  kernel_rfl
theorem S102_f32_0_ok (fuel : Nat) (R : Ev.St → Option Ans) (K : Ev.Ex → Ev.St → Option Ans) (x0 : (List Int)) (x1 x2 x3 : Int) (x4 : (List (Int × (Int × (Int × ((List Int) × ((List Bool) × (List Int)))))))) (x5 x6 : (List Int)) : evalCode tab (G102_f32 fuel) (J102_f32_0 fuel) kp102_f32 fuel (bodyOf 0 Try.f102) (T102_f32_0 (x0, x1, x2, x3, x4, x5, x6)) (lc kp102_f32 0 0 R K) = S_file_reader_embedded_f32_0 fuel (x0, x1, x2, x3, x4, x5, x6) (fun v => R (T102_f32_0 v)) (E102_f32_0 K) :=
  S102_f32_0_okg fuel (F_file_reader_header_f32 fuel) (F_file_reader_fail_857 fuel) (F_file_reader_data_857 fuel) R K x0 x1 x2 x3 x4 x5 x6
noncomputable def B102_f32_0 (fuel : Nat) : Ev.Blk := fun st K => match canonO (kp102_f32 0) st with
 | some s => (match s with
 | ⟨[(q0, .c (.ptr q1 q2))], [(q3, .cells q4 [.sl (.int .u8) x0, .int .i64 x1, .own q5, .own q6, .own q7, .int .i64 x2, .int .i64 x3]), (q8, .vec q9 (.pair (.int .i64) (.pair (.int .i64) (.pair (.int .i64) (.pair (.sl (.int .i64)) (.pair (.sl .bool) (.sl (.int .u8))))))) x4 true), (q10, .vec q11 (.int .i64) x5 true), (q12, .vec q13 (.int .i64) x6 true)], q14, q15⟩ => bif Nat.beq q0 0 && Nat.beq q1 0 && Nat.beq q2 0 && Nat.beq q3 0 && Nat.beq q4 141 && Nat.beq q5 1 && Nat.beq q6 2 && Nat.beq q7 3 && Nat.beq q8 1 && Nat.beq q9 103 && Nat.beq q10 2 && Nat.beq q11 3 && Nat.beq q12 3 && Nat.beq q13 3 && Nat.beq q14 4 && Nat.beq q15 4 then iter (S_file_reader_embedded_f32_0 fuel) fuel (x0, x1, x2, x3, x4, x5, x6) (E102_f32_0 K) else none
 | _ => none)
 | none => none
theorem B102_f32_0_ok (fuel : Nat) (st : Ev.St) (K : Ev.Ex → Ev.St → Option Ans) (r : Ans) (h : B102_f32_0 fuel st K = some r) : evalCode tab (G102_f32 fuel) (J102_f32_0 fuel) kp102_f32 fuel (.block 0 (.loop (bodyOf 0 Try.f102))) st K = some r := by
  unfold B102_f32_0 at h
  split at h
  · rename_i s hs
    split at h
    · skip
      obtain ⟨hb, h⟩ := cond_some' h
      simp only [Bool.and_eq_true, Nat.beq_eq, decide_eq_true_eq] at hb
      obtain ⟨⟨⟨⟨⟨⟨⟨⟨⟨⟨⟨⟨⟨⟨⟨rfl, rfl⟩, rfl⟩, rfl⟩, rfl⟩, rfl⟩, rfl⟩, rfl⟩, rfl⟩, rfl⟩, rfl⟩, rfl⟩, rfl⟩, rfl⟩, rfl⟩, rfl⟩ := hb
      exact blk_loop (S := T102_f32_0) (ks := E102_f32_0) (step := S_file_reader_embedded_f32_0 fuel) (v := (_, _, _, _, _, _, _)) (by kernel_rfl) (by kernel_rfl) (fun R K v => by obtain ⟨x0, x1, x2, x3, x4, x5, x6⟩ := v; exact S102_f32_0_ok fuel R K x0 x1 x2 x3 x4 x5 x6) hs h
    · cases h
  · cases h
noncomputable def J102_f32 (fuel : Nat) (i : Nat) : Option Ev.Blk := Ev.look i [(100000, B102_f32_0 fuel)]
noncomputable def Fg_file_reader_embedded_f32 (fuel : Nat) (f171_f32 : YF171_f32) (f172_857 : YF172_857) (f173_857 : YF173_857) (x0 : (List Int)) (x1 x2 x3 : Int) (x4 : (List (Int × (Int × (Int × ((List Int) × ((List Bool) × (List Int)))))))) (x5 x6 : (List Int)) (k0 : ((List Int) × Int × Int × Int × (List (Int × (Int × (Int × ((List Int) × ((List Bool) × (List Int))))))) × (List Int) × (List Int)) → Option Ans) : Option Ans :=
  (L_file_reader_embedded_f32_0 fuel (x0, x1, x2, x3, x4, x5, x6)
  (fun (b0_0, b0_1, b0_2, b0_3, b0_4, b0_5, b0_6) =>
  k0 (b0_0, b0_1, b0_2, b0_3, b0_4, b0_5, b0_6)))
noncomputable def F_file_reader_embedded_f32 (fuel : Nat) (x0 : (List Int)) (x1 x2 x3 : Int) (x4 : (List (Int × (Int × (Int × ((List Int) × ((List Bool) × (List Int)))))))) (x5 x6 : (List Int)) (k0 : ((List Int) × Int × Int × Int × (List (Int × (Int × (Int × ((List Int) × ((List Bool) × (List Int))))))) × (List Int) × (List Int)) → Option Ans) : Option Ans := Fg_file_reader_embedded_f32 fuel (F_file_reader_header_f32 fuel) (F_file_reader_fail_857 fuel) (F_file_reader_data_857 fuel) x0 x1 x2 x3 x4 x5 x6 k0
abbrev YF102_f32 : Type := ((List Int)) → (Int) → (Int) → (Int) → ((List (Int × (Int × (Int × ((List Int) × ((List Bool) × (List Int)))))))) → ((List Int)) → ((List Int)) → (((List Int) × Int × Int × Int × (List (Int × (Int × (Int × ((List Int) × ((List Bool) × (List Int))))))) × (List Int) × (List Int)) → Option Ans) → Option Ans
theorem F102_f32_eqg (fuel : Nat) (f171_f32 : YF171_f32) (f172_857 : YF172_857) (f173_857 : YF173_857) (x0 : (List Int)) (x1 x2 x3 : Int) (x4 : (List (Int × (Int × (Int × ((List Int) × ((List Bool) × (List Int)))))))) (x5 x6 : (List Int)) (k : Ev.Cont) : evalFn tab (Gg102_f32 f171_f32 f172_857 f173_857) (J102_f32 fuel) kp102_f32 fuel Try.f102 [.c (.ptr 0 0)] [.cells 141 [.sl (.int .u8) x0, .int .i64 x1, .own 1, .own 2, .own 3, .int .i64 x2, .int .i64 x3], .vec 103 (.pair (.int .i64) (.pair (.int .i64) (.pair (.int .i64) (.pair (.sl (.int .i64)) (.pair (.sl .bool) (.sl (.int .u8))))))) x4 false, .vec 3 (.int .i64) x5 false, .vec 3 (.int .i64) x6 false] k = Fg_file_reader_embedded_f32 fuel f171_f32 f172_857 f173_857 x0 x1 x2 x3 x4 x5 x6 (fun r => match r with | (r0, r1, r2, r3, r4, r5, r6) => k (.tup [], [.cells 141 [.sl (.int .u8) r0, .int .i64 r1, .own 1, .own 2, .own 3, .int .i64 r2, .int .i64 r3], .vec 103 (.pair (.int .i64) (.pair (.int .i64) (.pair (.int .i64) (.pair (.sl (.int .i64)) (.pair (.sl .bool) (.sl (.int .u8))))))) r4 true, .vec 3 (.int .i64) r5 true, .vec 3 (.int .i64) r6 true])) := by
  kernel_rfl
theorem F102_f32_eq (fuel : Nat) (x0 : (List Int)) (x1 x2 x3 : Int) (x4 : (List (Int × (Int × (Int × ((List Int) × ((List Bool) × (List Int)))))))) (x5 x6 : (List Int)) (k : Ev.Cont) : evalFn tab (G102_f32 fuel) (J102_f32 fuel) kp102_f32 fuel Try.f102 [.c (.ptr 0 0)] [.cells 141 [.sl (.int .u8) x0, .int .i64 x1, .own 1, .own 2, .own 3, .int .i64 x2, .int .i64 x3], .vec 103 (.pair (.int .i64) (.pair (.int .i64) (.pair (.int .i64) (.pair (.sl (.int .i64)) (.pair (.sl .bool) (.sl (.int .u8))))))) x4 false, .vec 3 (.int .i64) x5 false, .vec 3 (.int .i64) x6 false] k = F_file_reader_embedded_f32 fuel x0 x1 x2 x3 x4 x5 x6 (fun r => match r with | (r0, r1, r2, r3, r4, r5, r6) => k (.tup [], [.cells 141 [.sl (.int .u8) r0, .int .i64 r1, .own 1, .own 2, .own 3, .int .i64 r2, .int .i64 r3], .vec 103 (.pair (.int .i64) (.pair (.int .i64) (.pair (.int .i64) (.pair (.sl (.int .i64)) (.pair (.sl .bool) (.sl (.int .u8))))))) r4 true, .vec 3 (.int .i64) r5 true, .vec 3 (.int .i64) r6 true])) :=
  F102_f32_eqg fuel (F_file_reader_header_f32 fuel) (F_file_reader_fail_857 fuel) (F_file_reader_data_857 fuel) x0 x1 x2 x3 x4 x5 x6 k
theorem hG102_f32 (fuel : Nat) : GOK Try.prog (G102_f32 fuel) :=
  gok_cons ⟨ok171_f32 fuel, enters_of Try.func171 (by kernel_rfl) rfl⟩ <|
  gok_cons ⟨ok172_857 fuel, enters_of Try.func172 (by kernel_rfl) rfl⟩ <|
  gok_cons ⟨ok173_857 fuel, enters_of Try.func173 (by kernel_rfl) rfl⟩ <|
  gok_nil
theorem B102_f32_0_blk (fuel : Nat) : BlkOK Try.prog Try.f102.ntmps (.block 0 (.loop (bodyOf 0 Try.f102))) (B102_f32_0 fuel) :=
  blk_of (blk_of_code tab_ok (hG102_f32 fuel) mixed (J := J102_f32_0 fuel) (kp := kp102_f32) (fuel := fuel) (by kernel_rfl) (fun q hq => by
    rw [(by kernel_rfl : obl (J102_f32_0 fuel) (.block 0 (.loop (bodyOf 0 Try.f102))) = [])] at hq
    cases hq)) (B102_f32_0_ok fuel)
theorem fok102_f32 (fuel : Nat) : FnOK Try.prog 102 (evalFn tab (G102_f32 fuel) (J102_f32 fuel) kp102_f32 fuel Try.f102) :=
  fn_ok tab_ok (hG102_f32 fuel) mixed Try.func102 (c := (Try.f102.body).getD .skip) rfl (fun q hq => by
    rw [(by kernel_rfl : obl (J102_f32 fuel) ((Try.f102.body).getD .skip) = [(.block 0 (.loop (bodyOf 0 Try.f102)), B102_f32_0 fuel)])] at hq
    simp only [List.mem_cons, List.not_mem_nil, or_false] at hq
    subst hq
    · exact B102_f32_0_blk fuel)
noncomputable def mt102_f32 : List Ev.SV → List Ev.Ob → Bool := fun args objs => match args, objs with
 | [.c (.ptr q0 q1)], [.cells q2 [.sl (.int .u8) _, .int .i64 _, .own q3, .own q4, .own q5, .int .i64 _, .int .i64 _], .vec q6 (.pair (.int .i64) (.pair (.int .i64) (.pair (.int .i64) (.pair (.sl (.int .i64)) (.pair (.sl .bool) (.sl (.int .u8))))))) _ false, .vec q7 (.int .i64) _ false, .vec q8 (.int .i64) _ false] => Nat.beq q0 0 && Nat.beq q1 0 && Nat.beq q2 141 && Nat.beq q3 1 && Nat.beq q4 2 && Nat.beq q5 3 && Nat.beq q6 103 && Nat.beq q7 3 && Nat.beq q8 3
 | _, _ => false
noncomputable def spg102_f32 (F : YF102_f32) : Ev.Spec := fun args objs k => match args, objs with
 | [.c (.ptr q0 q1)], [.cells q2 [.sl (.int .u8) x0, .int .i64 x1, .own q3, .own q4, .own q5, .int .i64 x2, .int .i64 x3], .vec q6 (.pair (.int .i64) (.pair (.int .i64) (.pair (.int .i64) (.pair (.sl (.int .i64)) (.pair (.sl .bool) (.sl (.int .u8))))))) x4 false, .vec q7 (.int .i64) x5 false, .vec q8 (.int .i64) x6 false] => bif Nat.beq q0 0 && Nat.beq q1 0 && Nat.beq q2 141 && Nat.beq q3 1 && Nat.beq q4 2 && Nat.beq q5 3 && Nat.beq q6 103 && Nat.beq q7 3 && Nat.beq q8 3 then F x0 x1 x2 x3 x4 x5 x6 (fun r => match r with | (r0, r1, r2, r3, r4, r5, r6) => k (.tup [], [.cells 141 [.sl (.int .u8) r0, .int .i64 r1, .own 1, .own 2, .own 3, .int .i64 r2, .int .i64 r3], .vec 103 (.pair (.int .i64) (.pair (.int .i64) (.pair (.int .i64) (.pair (.sl (.int .i64)) (.pair (.sl .bool) (.sl (.int .u8))))))) r4 true, .vec 3 (.int .i64) r5 true, .vec 3 (.int .i64) r6 true])) else none
 | _, _ => none
noncomputable def spec102_f32 (fuel : Nat) : Ev.Spec := spg102_f32 (F_file_reader_embedded_f32 fuel)
theorem ok102_f32 (fuel : Nat) : FnOK Try.prog 102 (spec102_f32 fuel) := by
  intro args objs kk r h
  unfold spec102_f32 spg102_f32 at h
  split at h
  · skip
    obtain ⟨hb, h⟩ := cond_some' h
    simp only [Bool.and_eq_true, Nat.beq_eq, decide_eq_true_eq] at hb
    obtain ⟨⟨⟨⟨⟨⟨⟨⟨rfl, rfl⟩, rfl⟩, rfl⟩, rfl⟩, rfl⟩, rfl⟩, rfl⟩, rfl⟩ := hb
    exact fok102_f32 fuel _ _ kk r ((F102_f32_eq fuel _ _ _ _ _ _ _ kk).trans h)
  · cases h
end Go.Proofs.Ytihfgpfofmjbaaa

set_option linter.unusedVariables false
set_option linter.unusedSimpArgs false
set_option maxRecDepth 100000
set_option maxHeartbeats 2000000
namespace Go.Proofs.Ytihfgpfofmjbaaa
open Go Ev
def kp34 (i : Nat) : Option (List Nat) := Ev.look i [(200007, [4])]
noncomputable def Gg34 (f102_f32 : YF102_f32) (f103_f32 : YF103_f32) (f : Nat) : Option Ev.Spec := Ev.look f [(102, spg102_f32 f102_f32), (103, spg103_f32 f103_f32)]
noncomputable def G34 (fuel : Nat) : Nat → Option Ev.Spec := Gg34 (F_file_reader_embedded_f32 fuel) (F_file_reader_finish_f32 fuel)
noncomputable def J34 (fuel : Nat) (i : Nat) : Option Ev.Blk := Ev.look i []
noncomputable def Fg_file_ReadEmbedded (fuel : Nat) (f102_f32 : YF102_f32) (f103_f32 : YF103_f32) (x0 : (List Int)) (k0 : (Int × (List (Int × (Int × (Int × ((List Int) × ((List Bool) × (List Int)))))))) → Option Ans) : Option Ans :=
  bif decide ((↑x0.length : Int) > (40000 : Int)) then
  k0 ((4 : Int), [])
  else
  (f102_f32 (x0) ((0 : Int)) ((0 : Int)) ((0 : Int)) ([]) ([]) ([])
  (fun (y3_0, y3_1, y3_2, y3_3, y3_4, y3_5, y3_6) =>
  (f103_f32 (y3_0) (y3_1) (y3_2) (y3_3) (y3_4) (y3_5) (y3_6)
  (fun (y7_0, y7_1, y7_2, y7_3, y7_4, y7_5, y7_6) =>
  bif y7_3 != (0 : Int) then
  k0 (y7_3, [])
  else
  k0 ((0 : Int), y7_4)))))
noncomputable def F_file_ReadEmbedded (fuel : Nat) (x0 : (List Int)) (k0 : (Int × (List (Int × (Int × (Int × ((List Int) × ((List Bool) × (List Int)))))))) → Option Ans) : Option Ans := Fg_file_ReadEmbedded fuel (F_file_reader_embedded_f32 fuel) (F_file_reader_finish_f32 fuel) x0 k0
abbrev YF34 : Type := ((List Int)) → ((Int × (List (Int × (Int × (Int × ((List Int) × ((List Bool) × (List Int)))))))) → Option Ans) → Option Ans
theorem F34_eqg (fuel : Nat) (f102_f32 : YF102_f32) (f103_f32 : YF103_f32) (x0 : (List Int)) (k : Ev.Cont) : evalFn tab (Gg34 f102_f32 f103_f32) (J34 fuel) kp34 fuel Try.f34 [.c (.sl (.int .u8) x0)] [] k = Fg_file_ReadEmbedded fuel f102_f32 f103_f32 x0 (fun r => match r with | (r0, r1) => k (.tup [(false, [.own 0]), (false, [.int .i64 r0])], [.vec 103 (.pair (.int .i64) (.pair (.int .i64) (.pair (.int .i64) (.pair (.sl (.int .i64)) (.pair (.sl .bool) (.sl (.int .u8))))))) r1 true])) := by
  kernel_rfl
theorem F34_eq (fuel : Nat) (x0 : (List Int)) (k : Ev.Cont) : evalFn tab (G34 fuel) (J34 fuel) kp34 fuel Try.f34 [.c (.sl (.int .u8) x0)] [] k = F_file_ReadEmbedded fuel x0 (fun r => match r with | (r0, r1) => k (.tup [(false, [.own 0]), (false, [.int .i64 r0])], [.vec 103 (.pair (.int .i64) (.pair (.int .i64) (.pair (.int .i64) (.pair (.sl (.int .i64)) (.pair (.sl .bool) (.sl (.int .u8))))))) r1 true])) :=
  F34_eqg fuel (F_file_reader_embedded_f32 fuel) (F_file_reader_finish_f32 fuel) x0 k
theorem hG34 (fuel : Nat) : GOK Try.prog (G34 fuel) :=
  gok_cons ⟨ok102_f32 fuel, enters_of Try.func102 (by kernel_rfl) rfl⟩ <|
  gok_cons ⟨ok103_f32 fuel, enters_of Try.func103 (by kernel_rfl) rfl⟩ <|
  gok_nil
theorem fok34 (fuel : Nat) : FnOK Try.prog 34 (evalFn tab (G34 fuel) (J34 fuel) kp34 fuel Try.f34) :=
  fn_ok tab_ok (hG34 fuel) mixed Try.func34 (c := (Try.f34.body).getD .skip) rfl (fun q hq => by
    rw [(by kernel_rfl : obl (J34 fuel) ((Try.f34.body).getD .skip) = [])] at hq
    cases hq)
noncomputable def mt34 : List Ev.SV → List Ev.Ob → Bool := fun args objs => match args, objs with
 | [.c (.sl (.int .u8) _)], [] => true
 | _, _ => false
noncomputable def spg34 (F : YF34) : Ev.Spec := fun args objs k => match args, objs with
 | [.c (.sl (.int .u8) x0)], [] => bif true then F x0 (fun r => match r with | (r0, r1) => k (.tup [(false, [.own 0]), (false, [.int .i64 r0])], [.vec 103 (.pair (.int .i64) (.pair (.int .i64) (.pair (.int .i64) (.pair (.sl (.int .i64)) (.pair (.sl .bool) (.sl (.int .u8))))))) r1 true])) else none
 | _, _ => none
noncomputable def spec34 (fuel : Nat) : Ev.Spec := spg34 (F_file_ReadEmbedded fuel)
theorem ok34 (fuel : Nat) : FnOK Try.prog 34 (spec34 fuel) := by
  intro args objs kk r h
  unfold spec34 spg34 at h
  split at h
  · skip
    obtain ⟨hb, h⟩ := cond_some' h
    simp only [Bool.and_eq_true, Nat.beq_eq, decide_eq_true_eq] at hb
    clear hb
    exact fok34 fuel _ _ kk r ((F34_eq fuel _ kk).trans h)
  · cases h
end Go.Proofs.Ytihfgpfofmjbaaa

set_option linter.unusedVariables false
set_option linter.unusedSimpArgs false
set_option maxRecDepth 100000
set_option maxHeartbeats 2000000
namespace Go.Proofs.Ytihfgpfofmjbaaa
open Go Ev
def kp104 (i : Nat) : Option (List Nat) := Ev.look i [(6, [0, 3, 5, 6]), (100000, [3]), (400000, [2])]
noncomputable def Gg104 (f174_6fe : YF174_6fe) (f175_bb9 : YF175_bb9) (f176_4ba : YF176_4ba) (f177_775 : YF177_775) (f : Nat) : Option Ev.Spec := Ev.look f [(174, spg174_6fe f174_6fe), (175, spg175_bb9 f175_bb9), (176, spg176_4ba f176_4ba), (177, spg177_775 f177_775)]
noncomputable def G104 (fuel : Nat) : Nat → Option Ev.Spec := Gg104 (F_ref14_Parsed_failed_6fe fuel) (F_ref14_Parsed_header_bb9 fuel) (F_ref14_Parsed_data_4ba fuel) (F_ref14_Parsed_ordered_775 fuel)
noncomputable def Sg_ref14_Embedded_0 (fuel : Nat) (f174_6fe : YF174_6fe) (f175_bb9 : YF175_bb9) (f176_4ba : YF176_4ba) (f177_775 : YF177_775) (x0 : (List Int)) (x1 x2 : Int) (x3 x4 x5 : Int) (x6 : (List (Int × (Int × (Int × ((List Int) × ((List Bool) × (List Int)))))))) (x7 : (List Int)) (x8 : (List (Int × Int))) (c : ((List Int) × Int × Int × Int × Int × Int × (List (Int × (Int × (Int × ((List Int) × ((List Bool) × (List Int))))))) × (List Int) × (List (Int × Int))) → Option Ans) (B : (Int × Int × Int × (List (Int × (Int × (Int × ((List Int) × ((List Bool) × (List Int))))))) × (List Int) × (List (Int × Int)) → Option Ans) × (Int × Int × Int × (List (Int × (Int × (Int × ((List Int) × ((List Bool) × (List Int))))))) × (List Int) × (List (Int × Int)) → Option Ans)) : Option Ans := match B with
 | (ret, b) =>
  bif decide (x2 < (↑x0.length : Int)) then
  (f175_bb9 (x0) (x2) (x3) (x4) (x5) (x6) (x7) (x8)
  (fun (y3_0, y3_1, y3_2, y3_3, y3_4, y3_5, y3_6) =>
  bif y3_0 == (0 : Int) then
  ret (y3_1, y3_2, y3_3, y3_4, y3_5, y3_6)
  else
  bif decide ((0 : Int) ≤ x1 ∧ x1 < (↑y3_4.length : Int)) then
  bif (y3_4.getD x1.toNat ((0 : Int), (0 : Int), (0 : Int), [], [], [])).snd.fst == (9 : Int) then
  (f174_6fe (x2) ((60 : Int)) (y3_1) (y3_2) (y3_3) (y3_4) (y3_5) (y3_6)
  (fun (y10_0, y10_1, y10_2, y10_3, y10_4, y10_5) =>
  ret (y10_0, y10_1, y10_2, y10_3, y10_4, y10_5)))
  else
  (f176_4ba (x0) (x1) (y3_0) (y3_1) (y3_2) (y3_3) (y3_4) (y3_5) (y3_6)
  (fun (y10_0, y10_1, y10_2, y10_3, y10_4, y10_5, y10_6, y10_7) =>
  bif !y10_1 then
  ret (y10_2, y10_3, y10_4, y10_5, y10_6, y10_7)
  else
  c (x0, IntKind.i64.wrap (x1 + (1 : Int)), y10_0, y10_2, y10_3, y10_4, y10_5, y10_6, y10_7)))
  else none)
  (fun (y3_0, y3_1, y3_2, y3_3, y3_4, y3_5, y3_6) =>
  bif y3_0 == (0 : Int) then
  ret (y3_1, y3_2, y3_3, y3_4, y3_5, y3_6)
  else
  bif decide ((0 : Int) ≤ x1 ∧ x1 < (↑y3_4.length : Int)) then
  bif (y3_4.getD x1.toNat ((0 : Int), (0 : Int), (0 : Int), [], [], [])).snd.fst == (9 : Int) then
  (f174_6fe (x2) ((60 : Int)) (y3_1) (y3_2) (y3_3) (y3_4) (y3_5) (y3_6)
  (fun (y10_0, y10_1, y10_2, y10_3, y10_4, y10_5) =>
  ret (y10_0, y10_1, y10_2, y10_3, y10_4, y10_5)))
  else
  (f176_4ba (x0) (x1) (y3_0) (y3_1) (y3_2) (y3_3) (y3_4) (y3_5) (y3_6)
  (fun (y10_0, y10_1, y10_2, y10_3, y10_4, y10_5, y10_6, y10_7) =>
  bif !y10_1 then
  ret (y10_2, y10_3, y10_4, y10_5, y10_6, y10_7)
  else
  c (x0, IntKind.i64.wrap (x1 + (1 : Int)), y10_0, y10_2, y10_3, y10_4, y10_5, y10_6, y10_7)))
  else none))
  else
  b (x3, x4, x5, x6, x7, x8)
noncomputable def S_ref14_Embedded_0 (fuel : Nat) (v : (List Int) × Int × Int × Int × Int × Int × (List (Int × (Int × (Int × ((List Int) × ((List Bool) × (List Int))))))) × (List Int) × (List (Int × Int))) (c : ((List Int) × Int × Int × Int × Int × Int × (List (Int × (Int × (Int × ((List Int) × ((List Bool) × (List Int))))))) × (List Int) × (List (Int × Int))) → Option Ans) (B : (Int × Int × Int × (List (Int × (Int × (Int × ((List Int) × ((List Bool) × (List Int))))))) × (List Int) × (List (Int × Int)) → Option Ans) × (Int × Int × Int × (List (Int × (Int × (Int × ((List Int) × ((List Bool) × (List Int))))))) × (List Int) × (List (Int × Int)) → Option Ans)) : Option Ans := match v with
 | (x0, x1, x2, x3, x4, x5, x6, x7, x8) => Sg_ref14_Embedded_0 fuel (F_ref14_Parsed_failed_6fe fuel) (F_ref14_Parsed_header_bb9 fuel) (F_ref14_Parsed_data_4ba fuel) (F_ref14_Parsed_ordered_775 fuel) x0 x1 x2 x3 x4 x5 x6 x7 x8 c B
noncomputable def L_ref14_Embedded_0 (fuel : Nat) (v : (List Int) × Int × Int × Int × Int × Int × (List (Int × (Int × (Int × ((List Int) × ((List Bool) × (List Int))))))) × (List Int) × (List (Int × Int))) (ret : (Int × Int × Int × (List (Int × (Int × (Int × ((List Int) × ((List Bool) × (List Int))))))) × (List Int) × (List (Int × Int)) → Option Ans)) (b : (Int × Int × Int × (List (Int × (Int × (Int × ((List Int) × ((List Bool) × (List Int))))))) × (List Int) × (List (Int × Int)) → Option Ans)) : Option Ans := iter (S_ref14_Embedded_0 fuel) fuel v (ret, b)
noncomputable def J104_0 (fuel : Nat) (i : Nat) : Option Ev.Blk := Ev.look i []
noncomputable def T104_0 (v : (List Int) × Int × Int × Int × Int × Int × (List (Int × (Int × (Int × ((List Int) × ((List Bool) × (List Int))))))) × (List Int) × (List (Int × Int))) : Ev.St := match v with | (x0, x1, x2, x3, x4, x5, x6, x7, x8) => ⟨[(0, .c (.sl (.int .u8) x0)), (3, .c (.ptr 0 0)), (5, .c (.int .i64 x1)), (6, .c (.int .i64 x2))], [(0, .cells 145 [.int .i64 x3, .own 1, .own 2, .own 3, .int .i64 x4, .int .i64 x5]), (1, .vec 103 (.pair (.int .i64) (.pair (.int .i64) (.pair (.int .i64) (.pair (.sl (.int .i64)) (.pair (.sl .bool) (.sl (.int .u8))))))) x6 true), (2, .vec 3 (.int .i64) x7 true), (3, .vec 44 (.pair (.int .i64) (.int .i64)) x8 true)], 4, 0⟩
noncomputable def E104_0 (K : Ev.Ex → Ev.St → Option Ans) : (Int × Int × Int × (List (Int × (Int × (Int × ((List Int) × ((List Bool) × (List Int))))))) × (List Int) × (List (Int × Int)) → Option Ans) × (Int × Int × Int × (List (Int × (Int × (Int × ((List Int) × ((List Bool) × (List Int))))))) × (List Int) × (List (Int × Int)) → Option Ans) := ((fun v => match v with | (x0, x1, x2, x3, x4, x5) => K .ret ⟨[(2, .c (.ptr 0 0))], [(0, .cells 145 [.int .i64 x0, .own 1, .own 2, .own 3, .int .i64 x1, .int .i64 x2]), (1, .vec 103 (.pair (.int .i64) (.pair (.int .i64) (.pair (.int .i64) (.pair (.sl (.int .i64)) (.pair (.sl .bool) (.sl (.int .u8))))))) x3 true), (2, .vec 3 (.int .i64) x4 true), (3, .vec 44 (.pair (.int .i64) (.int .i64)) x5 true)], 4, 0⟩), (fun v => match v with | (x0, x1, x2, x3, x4, x5) => K .normal ⟨[(3, .c (.ptr 0 0))], [(0, .cells 145 [.int .i64 x0, .own 1, .own 2, .own 3, .int .i64 x1, .int .i64 x2]), (1, .vec 103 (.pair (.int .i64) (.pair (.int .i64) (.pair (.int .i64) (.pair (.sl (.int .i64)) (.pair (.sl .bool) (.sl (.int .u8))))))) x3 true), (2, .vec 3 (.int .i64) x4 true), (3, .vec 44 (.pair (.int .i64) (.int .i64)) x5 true)], 4, 0⟩))
theorem S104_0_okg (fuel : Nat) (f174_6fe : YF174_6fe) (f175_bb9 : YF175_bb9) (f176_4ba : YF176_4ba) (f177_775 : YF177_775) (R : Ev.St → Option Ans) (K : Ev.Ex → Ev.St → Option Ans) (x0 : (List Int)) (x1 x2 : Int) (x3 x4 x5 : Int) (x6 : (List (Int × (Int × (Int × ((List Int) × ((List Bool) × (List Int)))))))) (x7 : (List Int)) (x8 : (List (Int × Int))) : evalCode tab (Gg104 f174_6fe f175_bb9 f176_4ba f177_775) (J104_0 fuel) kp104 fuel (bodyOf 0 Try.f104) (T104_0 (x0, x1, x2, x3, x4, x5, x6, x7, x8)) (lc kp104 6 0 R K) = Sg_ref14_Embedded_0 fuel f174_6fe f175_bb9 f176_4ba f177_775 x0 x1 x2 x3 x4 x5 x6 x7 x8 (fun v => R (T104_0 v)) (E104_0 K) := by
  kernel_rfl
theorem S104_0_ok (fuel : Nat) (R : Ev.St → Option Ans) (K : Ev.Ex → Ev.St → Option Ans) (x0 : (List Int)) (x1 x2 : Int) (x3 x4 x5 : Int) (x6 : (List (Int × (Int × (Int × ((List Int) × ((List Bool) × (List Int)))))))) (x7 : (List Int)) (x8 : (List (Int × Int))) : evalCode tab (G104 fuel) (J104_0 fuel) kp104 fuel (bodyOf 0 Try.f104) (T104_0 (x0, x1, x2, x3, x4, x5, x6, x7, x8)) (lc kp104 6 0 R K) = S_ref14_Embedded_0 fuel (x0, x1, x2, x3, x4, x5, x6, x7, x8) (fun v => R (T104_0 v)) (E104_0 K) :=
  S104_0_okg fuel (F_ref14_Parsed_failed_6fe fuel) (F_ref14_Parsed_header_bb9 fuel) (F_ref14_Parsed_data_4ba fuel) (F_ref14_Parsed_ordered_775 fuel) R K x0 x1 x2 x3 x4 x5 x6 x7 x8
noncomputable def B104_0 (fuel : Nat) : Ev.Blk := fun st K => match canonO (kp104 6) st with
 | some s => (match s with
 | ⟨[(q0, .c (.sl (.int .u8) x0)), (q1, .c (.ptr q2 q3)), (q4, .c (.int .i64 x1)), (q5, .c (.int .i64 x2))], [(q6, .cells q7 [.int .i64 x3, .own q8, .own q9, .own q10, .int .i64 x4, .int .i64 x5]), (q11, .vec q12 (.pair (.int .i64) (.pair (.int .i64) (.pair (.int .i64) (.pair (.sl (.int .i64)) (.pair (.sl .bool) (.sl (.int .u8))))))) x6 true), (q13, .vec q14 (.int .i64) x7 true), (q15, .vec q16 (.pair (.int .i64) (.int .i64)) x8 true)], q17, q18⟩ => bif Nat.beq q0 0 && Nat.beq q1 3 && Nat.beq q2 0 && Nat.beq q3 0 && Nat.beq q4 5 && Nat.beq q5 6 && Nat.beq q6 0 && Nat.beq q7 145 && Nat.beq q8 1 && Nat.beq q9 2 && Nat.beq q10 3 && Nat.beq q11 1 && Nat.beq q12 103 && Nat.beq q13 2 && Nat.beq q14 3 && Nat.beq q15 3 && Nat.beq q16 44 && Nat.beq q17 4 && Nat.beq q18 0 then iter (S_ref14_Embedded_0 fuel) fuel (x0, x1, x2, x3, x4, x5, x6, x7, x8) (E104_0 K) else none
 | _ => none)
 | none => none
theorem B104_0_ok (fuel : Nat) (st : Ev.St) (K : Ev.Ex → Ev.St → Option Ans) (r : Ans) (h : B104_0 fuel st K = some r) : evalCode tab (G104 fuel) (J104_0 fuel) kp104 fuel (.block 0 (.loop (bodyOf 0 Try.f104))) st K = some r := by
  unfold B104_0 at h
  split at h
  · rename_i s hs
    split at h
    · skip
      obtain ⟨hb, h⟩ := cond_some' h
      simp only [Bool.and_eq_true, Nat.beq_eq, decide_eq_true_eq] at hb
      obtain ⟨⟨⟨⟨⟨⟨⟨⟨⟨⟨⟨⟨⟨⟨⟨⟨⟨⟨rfl, rfl⟩, rfl⟩, rfl⟩, rfl⟩, rfl⟩, rfl⟩, rfl⟩, rfl⟩, rfl⟩, rfl⟩, rfl⟩, rfl⟩, rfl⟩, rfl⟩, rfl⟩, rfl⟩, rfl⟩, rfl⟩ := hb
      exact blk_loop (S := T104_0) (ks := E104_0) (step := S_ref14_Embedded_0 fuel) (v := (_, _, _, _, _, _, _, _, _)) (by kernel_rfl) (by kernel_rfl) (fun R K v => by obtain ⟨x0, x1, x2, x3, x4, x5, x6, x7, x8⟩ := v; exact S104_0_ok fuel R K x0 x1 x2 x3 x4 x5 x6 x7 x8) hs h
    · cases h
  · cases h
noncomputable def J104 (fuel : Nat) (i : Nat) : Option Ev.Blk := Ev.look i [(100000, B104_0 fuel)]
noncomputable def Fg_ref14_Embedded (fuel : Nat) (f174_6fe : YF174_6fe) (f175_bb9 : YF175_bb9) (f176_4ba : YF176_4ba) (f177_775 : YF177_775) (x0 : (List Int)) (k0 : (Int × Int × Int × (List (Int × (Int × (Int × ((List Int) × ((List Bool) × (List Int))))))) × (List Int) × (List (Int × Int))) → Option Ans) : Option Ans :=
  bif decide ((↑x0.length : Int) > (40000 : Int)) then
  (f174_6fe ((0 : Int)) ((4 : Int)) ((2 : Int)) ((0 : Int)) ((0 : Int)) ([]) ([]) ([])
  (fun (y3_0, y3_1, y3_2, y3_3, y3_4, y3_5) =>
  k0 (y3_0, y3_1, y3_2, y3_3, y3_4, y3_5)))
  else
  (L_ref14_Embedded_0 fuel (x0, (0 : Int), (0 : Int), (2 : Int), (0 : Int), (0 : Int), [], [], [])
  (fun (ret0_0, ret0_1, ret0_2, ret0_3, ret0_4, ret0_5) =>
  k0 (ret0_0, ret0_1, ret0_2, ret0_3, ret0_4, ret0_5))
  (fun (b0_0, b0_1, b0_2, b0_3, b0_4, b0_5) =>
  (f177_775 (b0_0) (b0_1) (b0_2) (b0_3) (b0_4) (b0_5)
  (fun (y7_0, y7_1, y7_2, y7_3, y7_4, y7_5) =>
  k0 (y7_0, y7_1, y7_2, y7_3, y7_4, y7_5)))))
noncomputable def F_ref14_Embedded (fuel : Nat) (x0 : (List Int)) (k0 : (Int × Int × Int × (List (Int × (Int × (Int × ((List Int) × ((List Bool) × (List Int))))))) × (List Int) × (List (Int × Int))) → Option Ans) : Option Ans := Fg_ref14_Embedded fuel (F_ref14_Parsed_failed_6fe fuel) (F_ref14_Parsed_header_bb9 fuel) (F_ref14_Parsed_data_4ba fuel) (F_ref14_Parsed_ordered_775 fuel) x0 k0
abbrev YF104 : Type := ((List Int)) → ((Int × Int × Int × (List (Int × (Int × (Int × ((List Int) × ((List Bool) × (List Int))))))) × (List Int) × (List (Int × Int))) → Option Ans) → Option Ans
theorem F104_eqg (fuel : Nat) (f174_6fe : YF174_6fe) (f175_bb9 : YF175_bb9) (f176_4ba : YF176_4ba) (f177_775 : YF177_775) (x0 : (List Int)) (k : Ev.Cont) : evalFn tab (Gg104 f174_6fe f175_bb9 f176_4ba f177_775) (J104 fuel) kp104 fuel Try.f104 [.c (.sl (.int .u8) x0)] [] k = Fg_ref14_Embedded fuel f174_6fe f175_bb9 f176_4ba f177_775 x0 (fun r => match r with | (r0, r1, r2, r3, r4, r5) => k (.c (.ptr 0 0), [.cells 145 [.int .i64 r0, .own 1, .own 2, .own 3, .int .i64 r1, .int .i64 r2], .vec 103 (.pair (.int .i64) (.pair (.int .i64) (.pair (.int .i64) (.pair (.sl (.int .i64)) (.pair (.sl .bool) (.sl (.int .u8))))))) r3 true, .vec 3 (.int .i64) r4 true, .vec 44 (.pair (.int .i64) (.int .i64)) r5 true])) := by
  kernel_rfl
theorem F104_eq (fuel : Nat) (x0 : (List Int)) (k : Ev.Cont) : evalFn tab (G104 fuel) (J104 fuel) kp104 fuel Try.f104 [.c (.sl (.int .u8) x0)] [] k = F_ref14_Embedded fuel x0 (fun r => match r with | (r0, r1, r2, r3, r4, r5) => k (.c (.ptr 0 0), [.cells 145 [.int .i64 r0, .own 1, .own 2, .own 3, .int .i64 r1, .int .i64 r2], .vec 103 (.pair (.int .i64) (.pair (.int .i64) (.pair (.int .i64) (.pair (.sl (.int .i64)) (.pair (.sl .bool) (.sl (.int .u8))))))) r3 true, .vec 3 (.int .i64) r4 true, .vec 44 (.pair (.int .i64) (.int .i64)) r5 true])) :=
  F104_eqg fuel (F_ref14_Parsed_failed_6fe fuel) (F_ref14_Parsed_header_bb9 fuel) (F_ref14_Parsed_data_4ba fuel) (F_ref14_Parsed_ordered_775 fuel) x0 k
theorem hG104 (fuel : Nat) : GOK Try.prog (G104 fuel) :=
  gok_cons ⟨ok174_6fe fuel, enters_of Try.func174 (by kernel_rfl) rfl⟩ <|
  gok_cons ⟨ok175_bb9 fuel, enters_of Try.func175 (by kernel_rfl) rfl⟩ <|
  gok_cons ⟨ok176_4ba fuel, enters_of Try.func176 (by kernel_rfl) rfl⟩ <|
  gok_cons ⟨ok177_775 fuel, enters_of Try.func177 (by kernel_rfl) rfl⟩ <|
  gok_nil
theorem B104_0_blk (fuel : Nat) : BlkOK Try.prog Try.f104.ntmps (.block 0 (.loop (bodyOf 0 Try.f104))) (B104_0 fuel) :=
  blk_of (blk_of_code tab_ok (hG104 fuel) mixed (J := J104_0 fuel) (kp := kp104) (fuel := fuel) (by kernel_rfl) (fun q hq => by
    rw [(by kernel_rfl : obl (J104_0 fuel) (.block 0 (.loop (bodyOf 0 Try.f104))) = [])] at hq
    cases hq)) (B104_0_ok fuel)
theorem fok104 (fuel : Nat) : FnOK Try.prog 104 (evalFn tab (G104 fuel) (J104 fuel) kp104 fuel Try.f104) :=
  fn_ok tab_ok (hG104 fuel) mixed Try.func104 (c := (Try.f104.body).getD .skip) rfl (fun q hq => by
    rw [(by kernel_rfl : obl (J104 fuel) ((Try.f104.body).getD .skip) = [(.block 0 (.loop (bodyOf 0 Try.f104)), B104_0 fuel)])] at hq
    simp only [List.mem_cons, List.not_mem_nil, or_false] at hq
    subst hq
    · exact B104_0_blk fuel)
noncomputable def mt104 : List Ev.SV → List Ev.Ob → Bool := fun args objs => match args, objs with
 | [.c (.sl (.int .u8) _)], [] => true
 | _, _ => false
noncomputable def spg104 (F : YF104) : Ev.Spec := fun args objs k => match args, objs with
 | [.c (.sl (.int .u8) x0)], [] => bif true then F x0 (fun r => match r with | (r0, r1, r2, r3, r4, r5) => k (.c (.ptr 0 0), [.cells 145 [.int .i64 r0, .own 1, .own 2, .own 3, .int .i64 r1, .int .i64 r2], .vec 103 (.pair (.int .i64) (.pair (.int .i64) (.pair (.int .i64) (.pair (.sl (.int .i64)) (.pair (.sl .bool) (.sl (.int .u8))))))) r3 true, .vec 3 (.int .i64) r4 true, .vec 44 (.pair (.int .i64) (.int .i64)) r5 true])) else none
 | _, _ => none
noncomputable def spec104 (fuel : Nat) : Ev.Spec := spg104 (F_ref14_Embedded fuel)
theorem ok104 (fuel : Nat) : FnOK Try.prog 104 (spec104 fuel) := by
  intro args objs kk r h
  unfold spec104 spg104 at h
  split at h
  · skip
    obtain ⟨hb, h⟩ := cond_some' h
    simp only [Bool.and_eq_true, Nat.beq_eq, decide_eq_true_eq] at hb
    clear hb
    exact fok104 fuel _ _ kk r ((F104_eq fuel _ kk).trans h)
  · cases h
end Go.Proofs.Ytihfgpfofmjbaaa

set_option linter.unusedVariables false
set_option linter.unusedSimpArgs false
set_option maxRecDepth 100000
set_option maxHeartbeats 2000000
namespace Go.Proofs.Ytihfgpfofmjbaaa
open Go Ev
def kp35 (i : Nat) : Option (List Nat) := Ev.look i [(200003, [4])]
noncomputable def Gg35 (f104 : YF104) (f : Nat) : Option Ev.Spec := Ev.look f [(104, spg104 f104)]
noncomputable def G35 (fuel : Nat) : Nat → Option Ev.Spec := Gg35 (F_ref14_Embedded fuel)
noncomputable def J35 (fuel : Nat) (i : Nat) : Option Ev.Blk := Ev.look i []
noncomputable def Fg_ref14_ReadEmbedded (fuel : Nat) (f104 : YF104) (x0 : (List Int)) (k0 : (Int × (List (Int × (Int × (Int × ((List Int) × ((List Bool) × (List Int)))))))) → Option Ans) : Option Ans :=
  (f104 (x0)
  (fun (y2_0, y2_1, y2_2, y2_3, y2_4, y2_5) =>
  bif y2_1 != (0 : Int) then
  k0 (y2_1, [])
  else
  k0 ((0 : Int), y2_3)))
noncomputable def F_ref14_ReadEmbedded (fuel : Nat) (x0 : (List Int)) (k0 : (Int × (List (Int × (Int × (Int × ((List Int) × ((List Bool) × (List Int)))))))) → Option Ans) : Option Ans := Fg_ref14_ReadEmbedded fuel (F_ref14_Embedded fuel) x0 k0
abbrev YF35 : Type := ((List Int)) → ((Int × (List (Int × (Int × (Int × ((List Int) × ((List Bool) × (List Int)))))))) → Option Ans) → Option Ans
theorem F35_eqg (fuel : Nat) (f104 : YF104) (x0 : (List Int)) (k : Ev.Cont) : evalFn tab (Gg35 f104) (J35 fuel) kp35 fuel Try.f35 [.c (.sl (.int .u8) x0)] [] k = Fg_ref14_ReadEmbedded fuel f104 x0 (fun r => match r with | (r0, r1) => k (.tup [(false, [.own 0]), (false, [.int .i64 r0])], [.vec 103 (.pair (.int .i64) (.pair (.int .i64) (.pair (.int .i64) (.pair (.sl (.int .i64)) (.pair (.sl .bool) (.sl (.int .u8))))))) r1 true])) := by
  kernel_rfl
theorem F35_eq (fuel : Nat) (x0 : (List Int)) (k : Ev.Cont) : evalFn tab (G35 fuel) (J35 fuel) kp35 fuel Try.f35 [.c (.sl (.int .u8) x0)] [] k = F_ref14_ReadEmbedded fuel x0 (fun r => match r with | (r0, r1) => k (.tup [(false, [.own 0]), (false, [.int .i64 r0])], [.vec 103 (.pair (.int .i64) (.pair (.int .i64) (.pair (.int .i64) (.pair (.sl (.int .i64)) (.pair (.sl .bool) (.sl (.int .u8))))))) r1 true])) :=
  F35_eqg fuel (F_ref14_Embedded fuel) x0 k
theorem hG35 (fuel : Nat) : GOK Try.prog (G35 fuel) :=
  gok_cons ⟨ok104 fuel, enters_of Try.func104 (by kernel_rfl) rfl⟩ <|
  gok_nil
theorem fok35 (fuel : Nat) : FnOK Try.prog 35 (evalFn tab (G35 fuel) (J35 fuel) kp35 fuel Try.f35) :=
  fn_ok tab_ok (hG35 fuel) mixed Try.func35 (c := (Try.f35.body).getD .skip) rfl (fun q hq => by
    rw [(by kernel_rfl : obl (J35 fuel) ((Try.f35.body).getD .skip) = [])] at hq
    cases hq)
noncomputable def mt35 : List Ev.SV → List Ev.Ob → Bool := fun args objs => match args, objs with
 | [.c (.sl (.int .u8) _)], [] => true
 | _, _ => false
noncomputable def spg35 (F : YF35) : Ev.Spec := fun args objs k => match args, objs with
 | [.c (.sl (.int .u8) x0)], [] => bif true then F x0 (fun r => match r with | (r0, r1) => k (.tup [(false, [.own 0]), (false, [.int .i64 r0])], [.vec 103 (.pair (.int .i64) (.pair (.int .i64) (.pair (.int .i64) (.pair (.sl (.int .i64)) (.pair (.sl .bool) (.sl (.int .u8))))))) r1 true])) else none
 | _, _ => none
noncomputable def spec35 (fuel : Nat) : Ev.Spec := spg35 (F_ref14_ReadEmbedded fuel)
theorem ok35 (fuel : Nat) : FnOK Try.prog 35 (spec35 fuel) := by
  intro args objs kk r h
  unfold spec35 spg35 at h
  split at h
  · skip
    obtain ⟨hb, h⟩ := cond_some' h
    simp only [Bool.and_eq_true, Nat.beq_eq, decide_eq_true_eq] at hb
    clear hb
    exact fok35 fuel _ _ kk r ((F35_eq fuel _ kk).trans h)
  · cases h
end Go.Proofs.Ytihfgpfofmjbaaa

set_option linter.unusedVariables false
set_option linter.unusedSimpArgs false
set_option maxRecDepth 100000
set_option maxHeartbeats 2000000
namespace Go.Proofs.Ytihfgpfofmjbaaa
open Go Ev
def kp54 (i : Nat) : Option (List Nat) := Ev.look i [(6, [4, 6, 26, 27, 28]), (100000, [6]), (200003, [4]), (200008, [4, 8]), (400000, [2, 3])]
noncomputable def Gg54 (f132 : YF132) (f : Nat) : Option Ev.Spec := Ev.look f [(132, spg132 f132)]
noncomputable def G54 (fuel : Nat) : Nat → Option Ev.Spec := Gg54 (F_file_read fuel)
noncomputable def Sg_file_Places_0 (fuel : Nat) (f132 : YF132) (x0 x1 : Int) (x2 : (List Int)) (x3 x4 x5 : Int) (x6 : (List (Int × Int))) (x7 : (List (Int × (Int × (Int × ((List Int) × ((List Bool) × (List Int)))))))) (x8 x9 : (List Int)) (c : (Int × Int × (List Int) × Int × Int × Int × (List (Int × Int)) × (List (Int × (Int × (Int × ((List Int) × ((List Bool) × (List Int))))))) × (List Int) × (List Int)) → Option Ans) (B : ((List (Int × Int)) → Option Ans)) : Option Ans := match B with
 | b =>
  bif decide (x1 < x0) then
  bif decide ((0 : Int) ≤ x1 ∧ x1 < (↑x7.length : Int)) then
  bif decide ((0 : Int) ≤ x1 ∧ x1 < (↑x9.length : Int)) then
  bif decide ((x6.length + [(x9.getD x1.toNat (0 : Int), (↑(List.length (x7.getD x1.toNat ((0 : Int), (0 : Int), (0 : Int), [], [], [])).snd.snd.snd.snd.snd) : Int))].length) * (16 : Nat) ≤ (140737488355328 : Nat) ∧ x6.length + [(x9.getD x1.toNat (0 : Int), (↑(List.length (x7.getD x1.toNat ((0 : Int), (0 : Int), (0 : Int), [], [], [])).snd.snd.snd.snd.snd) : Int))].length ≤ (140737488355328 : Nat)) then
  c (x0, IntKind.i64.wrap (x1 + (1 : Int)), x2, x3, x4, x5, x6 ++ [(x9.getD x1.toNat (0 : Int), (↑(List.length (x7.getD x1.toNat ((0 : Int), (0 : Int), (0 : Int), [], [], [])).snd.snd.snd.snd.snd) : Int))], x7, x8, x9)
  else none
  else none
  else none
  else
  b x6
noncomputable def S_file_Places_0 (fuel : Nat) (v : Int × Int × (List Int) × Int × Int × Int × (List (Int × Int)) × (List (Int × (Int × (Int × ((List Int) × ((List Bool) × (List Int))))))) × (List Int) × (List Int)) (c : (Int × Int × (List Int) × Int × Int × Int × (List (Int × Int)) × (List (Int × (Int × (Int × ((List Int) × ((List Bool) × (List Int))))))) × (List Int) × (List Int)) → Option Ans) (B : ((List (Int × Int)) → Option Ans)) : Option Ans := match v with
 | (x0, x1, x2, x3, x4, x5, x6, x7, x8, x9) => Sg_file_Places_0 fuel (F_file_read fuel) x0 x1 x2 x3 x4 x5 x6 x7 x8 x9 c B
noncomputable def L_file_Places_0 (fuel : Nat) (v : Int × Int × (List Int) × Int × Int × Int × (List (Int × Int)) × (List (Int × (Int × (Int × ((List Int) × ((List Bool) × (List Int))))))) × (List Int) × (List Int)) (b : ((List (Int × Int)) → Option Ans)) : Option Ans := iter (S_file_Places_0 fuel) fuel v b
noncomputable def J54_0 (fuel : Nat) (i : Nat) : Option Ev.Blk := Ev.look i []
noncomputable def T54_0 (v : Int × Int × (List Int) × Int × Int × Int × (List (Int × Int)) × (List (Int × (Int × (Int × ((List Int) × ((List Bool) × (List Int))))))) × (List Int) × (List Int)) : Ev.St := match v with | (x0, x1, x2, x3, x4, x5, x6, x7, x8, x9) => ⟨[(4, .c (.ptr 0 0)), (6, .c (.own 1)), (26, .c (.own 2)), (27, .c (.int .i64 x0)), (28, .c (.int .i64 x1))], [(0, .cells 141 [.sl (.int .u8) x2, .int .i64 x3, .own 2, .own 3, .own 4, .int .i64 x4, .int .i64 x5]), (1, .vec 44 (.pair (.int .i64) (.int .i64)) x6 true), (2, .vec 103 (.pair (.int .i64) (.pair (.int .i64) (.pair (.int .i64) (.pair (.sl (.int .i64)) (.pair (.sl .bool) (.sl (.int .u8))))))) x7 true), (3, .vec 3 (.int .i64) x8 true), (4, .vec 3 (.int .i64) x9 true)], 5, 0⟩
noncomputable def E54_0 (K : Ev.Ex → Ev.St → Option Ans) : ((List (Int × Int)) → Option Ans) := (fun v => match v with | x0 => K .normal ⟨[(6, .c (.own 0))], [(0, .vec 44 (.pair (.int .i64) (.int .i64)) x0 true)], 1, 0⟩)
theorem S54_0_okg (fuel : Nat) (f132 : YF132) (R : Ev.St → Option Ans) (K : Ev.Ex → Ev.St → Option Ans) (x0 x1 : Int) (x2 : (List Int)) (x3 x4 x5 : Int) (x6 : (List (Int × Int))) (x7 : (List (Int × (Int × (Int × ((List Int) × ((List Bool) × (List Int)))))))) (x8 x9 : (List Int)) : evalCode tab (Gg54 f132) (J54_0 fuel) kp54 fuel (bodyOf 0 Try.f54) (T54_0 (x0, x1, x2, x3, x4, x5, x6, x7, x8, x9)) (lc kp54 6 0 R K) = Sg_file_Places_0 fuel f132 x0 x1 x2 x3 x4 x5 x6 x7 x8 x9 (fun v => R (T54_0 v)) (E54_0 K) := by
  kernel_rfl
theorem S54_0_ok (fuel : Nat) (R : Ev.St → Option Ans) (K : Ev.Ex → Ev.St → Option Ans) (x0 x1 : Int) (x2 : (List Int)) (x3 x4 x5 : Int) (x6 : (List (Int × Int))) (x7 : (List (Int × (Int × (Int × ((List Int) × ((List Bool) × (List Int)))))))) (x8 x9 : (List Int)) : evalCode tab (G54 fuel) (J54_0 fuel) kp54 fuel (bodyOf 0 Try.f54) (T54_0 (x0, x1, x2, x3, x4, x5, x6, x7, x8, x9)) (lc kp54 6 0 R K) = S_file_Places_0 fuel (x0, x1, x2, x3, x4, x5, x6, x7, x8, x9) (fun v => R (T54_0 v)) (E54_0 K) :=
  S54_0_okg fuel (F_file_read fuel) R K x0 x1 x2 x3 x4 x5 x6 x7 x8 x9
noncomputable def B54_0 (fuel : Nat) : Ev.Blk := fun st K => match canonO (kp54 6) st with
 | some s => (match s with
 | ⟨[(q0, .c (.ptr q1 q2)), (q3, .c (.own q4)), (q5, .c (.own q6)), (q7, .c (.int .i64 x0)), (q8, .c (.int .i64 x1))], [(q9, .cells q10 [.sl (.int .u8) x2, .int .i64 x3, .own q11, .own q12, .own q13, .int .i64 x4, .int .i64 x5]), (q14, .vec q15 (.pair (.int .i64) (.int .i64)) x6 true), (q16, .vec q17 (.pair (.int .i64) (.pair (.int .i64) (.pair (.int .i64) (.pair (.sl (.int .i64)) (.pair (.sl .bool) (.sl (.int .u8))))))) x7 true), (q18, .vec q19 (.int .i64) x8 true), (q20, .vec q21 (.int .i64) x9 true)], q22, q23⟩ => bif Nat.beq q0 4 && Nat.beq q1 0 && Nat.beq q2 0 && Nat.beq q3 6 && Nat.beq q4 1 && Nat.beq q5 26 && Nat.beq q6 2 && Nat.beq q7 27 && Nat.beq q8 28 && Nat.beq q9 0 && Nat.beq q10 141 && Nat.beq q11 2 && Nat.beq q12 3 && Nat.beq q13 4 && Nat.beq q14 1 && Nat.beq q15 44 && Nat.beq q16 2 && Nat.beq q17 103 && Nat.beq q18 3 && Nat.beq q19 3 && Nat.beq q20 4 && Nat.beq q21 3 && Nat.beq q22 5 && Nat.beq q23 0 then iter (S_file_Places_0 fuel) fuel (x0, x1, x2, x3, x4, x5, x6, x7, x8, x9) (E54_0 K) else none
 | _ => none)
 | none => none
theorem B54_0_ok (fuel : Nat) (st : Ev.St) (K : Ev.Ex → Ev.St → Option Ans) (r : Ans) (h : B54_0 fuel st K = some r) : evalCode tab (G54 fuel) (J54_0 fuel) kp54 fuel (.block 0 (.loop (bodyOf 0 Try.f54))) st K = some r := by
  unfold B54_0 at h
  split at h
  · rename_i s hs
    split at h
    · skip
      obtain ⟨hb, h⟩ := cond_some' h
      simp only [Bool.and_eq_true, Nat.beq_eq, decide_eq_true_eq] at hb
      obtain ⟨⟨⟨⟨⟨⟨⟨⟨⟨⟨⟨⟨⟨⟨⟨⟨⟨⟨⟨⟨⟨⟨⟨rfl, rfl⟩, rfl⟩, rfl⟩, rfl⟩, rfl⟩, rfl⟩, rfl⟩, rfl⟩, rfl⟩, rfl⟩, rfl⟩, rfl⟩, rfl⟩, rfl⟩, rfl⟩, rfl⟩, rfl⟩, rfl⟩, rfl⟩, rfl⟩, rfl⟩, rfl⟩, rfl⟩ := hb
      exact blk_loop (S := T54_0) (ks := E54_0) (step := S_file_Places_0 fuel) (v := (_, _, _, _, _, _, _, _, _, _)) (by kernel_rfl) (by kernel_rfl) (fun R K v => by obtain ⟨x0, x1, x2, x3, x4, x5, x6, x7, x8, x9⟩ := v; exact S54_0_ok fuel R K x0 x1 x2 x3 x4 x5 x6 x7 x8 x9) hs h
    · cases h
  · cases h
noncomputable def J54 (fuel : Nat) (i : Nat) : Option Ev.Blk := Ev.look i [(100000, B54_0 fuel)]
noncomputable def Fg_file_Places (fuel : Nat) (f132 : YF132) (x0 : (List Int)) (k0 : (Int × (List (Int × Int))) → Option Ans) : Option Ans :=
  (f132 (x0)
  (fun (y2_0, y2_1, y2_2, y2_3, y2_4, y2_5, y2_6, y2_7) =>
  bif y2_4 != (0 : Int) then
  k0 (y2_4, [])
  else
  (L_file_Places_0 fuel ((↑y2_5.length : Int), (0 : Int), y2_1, y2_2, y2_3, y2_4, [], y2_5, y2_6, y2_7)
  (fun b0_0 =>
  k0 ((0 : Int), b0_0)))))
noncomputable def F_file_Places (fuel : Nat) (x0 : (List Int)) (k0 : (Int × (List (Int × Int))) → Option Ans) : Option Ans := Fg_file_Places fuel (F_file_read fuel) x0 k0
abbrev YF54 : Type := ((List Int)) → ((Int × (List (Int × Int))) → Option Ans) → Option Ans
theorem F54_eqg (fuel : Nat) (f132 : YF132) (x0 : (List Int)) (k : Ev.Cont) : evalFn tab (Gg54 f132) (J54 fuel) kp54 fuel Try.f54 [.c (.sl (.int .u8) x0)] [] k = Fg_file_Places fuel f132 x0 (fun r => match r with | (r0, r1) => k (.tup [(false, [.own 0]), (false, [.int .i64 r0])], [.vec 44 (.pair (.int .i64) (.int .i64)) r1 true])) := by
  kernel_rfl
theorem F54_eq (fuel : Nat) (x0 : (List Int)) (k : Ev.Cont) : evalFn tab (G54 fuel) (J54 fuel) kp54 fuel Try.f54 [.c (.sl (.int .u8) x0)] [] k = F_file_Places fuel x0 (fun r => match r with | (r0, r1) => k (.tup [(false, [.own 0]), (false, [.int .i64 r0])], [.vec 44 (.pair (.int .i64) (.int .i64)) r1 true])) :=
  F54_eqg fuel (F_file_read fuel) x0 k
theorem hG54 (fuel : Nat) : GOK Try.prog (G54 fuel) :=
  gok_cons ⟨ok132 fuel, enters_of Try.func132 (by kernel_rfl) rfl⟩ <|
  gok_nil
theorem B54_0_blk (fuel : Nat) : BlkOK Try.prog Try.f54.ntmps (.block 0 (.loop (bodyOf 0 Try.f54))) (B54_0 fuel) :=
  blk_of (blk_of_code tab_ok (hG54 fuel) mixed (J := J54_0 fuel) (kp := kp54) (fuel := fuel) (by kernel_rfl) (fun q hq => by
    rw [(by kernel_rfl : obl (J54_0 fuel) (.block 0 (.loop (bodyOf 0 Try.f54))) = [])] at hq
    cases hq)) (B54_0_ok fuel)
theorem fok54 (fuel : Nat) : FnOK Try.prog 54 (evalFn tab (G54 fuel) (J54 fuel) kp54 fuel Try.f54) :=
  fn_ok tab_ok (hG54 fuel) mixed Try.func54 (c := (Try.f54.body).getD .skip) rfl (fun q hq => by
    rw [(by kernel_rfl : obl (J54 fuel) ((Try.f54.body).getD .skip) = [(.block 0 (.loop (bodyOf 0 Try.f54)), B54_0 fuel)])] at hq
    simp only [List.mem_cons, List.not_mem_nil, or_false] at hq
    subst hq
    · exact B54_0_blk fuel)
noncomputable def mt54 : List Ev.SV → List Ev.Ob → Bool := fun args objs => match args, objs with
 | [.c (.sl (.int .u8) _)], [] => true
 | _, _ => false
noncomputable def spg54 (F : YF54) : Ev.Spec := fun args objs k => match args, objs with
 | [.c (.sl (.int .u8) x0)], [] => bif true then F x0 (fun r => match r with | (r0, r1) => k (.tup [(false, [.own 0]), (false, [.int .i64 r0])], [.vec 44 (.pair (.int .i64) (.int .i64)) r1 true])) else none
 | _, _ => none
noncomputable def spec54 (fuel : Nat) : Ev.Spec := spg54 (F_file_Places fuel)
theorem ok54 (fuel : Nat) : FnOK Try.prog 54 (spec54 fuel) := by
  intro args objs kk r h
  unfold spec54 spg54 at h
  split at h
  · skip
    obtain ⟨hb, h⟩ := cond_some' h
    simp only [Bool.and_eq_true, Nat.beq_eq, decide_eq_true_eq] at hb
    clear hb
    exact fok54 fuel _ _ kk r ((F54_eq fuel _ kk).trans h)
  · cases h
end Go.Proofs.Ytihfgpfofmjbaaa

set_option linter.unusedVariables false
set_option linter.unusedSimpArgs false
set_option maxRecDepth 100000
set_option maxHeartbeats 2000000
namespace Go.Proofs.Ytihfgpfofmjbaaa
open Go Ev
def kp53 (i : Nat) : Option (List Nat) := Ev.look i [(200003, [5]), (200004, [5])]
noncomputable def Gg53 (f131 : YF131) (f : Nat) : Option Ev.Spec := Ev.look f [(131, spg131 f131)]
noncomputable def G53 (fuel : Nat) : Nat → Option Ev.Spec := Gg53 (F_ref14_Parse fuel)
noncomputable def J53 (fuel : Nat) (i : Nat) : Option Ev.Blk := Ev.look i []
noncomputable def Fg_ref14_Read (fuel : Nat) (f131 : YF131) (x0 : (List Int)) (k0 : (Int × Int × (List (Int × (Int × (Int × ((List Int) × ((List Bool) × (List Int)))))))) → Option Ans) : Option Ans :=
  (f131 (x0)
  (fun (y2_0, y2_1, y2_2, y2_3, y2_4, y2_5) =>
  bif y2_1 != (0 : Int) then
  k0 ((0 : Int), y2_1, [])
  else
  k0 (y2_0, (0 : Int), y2_3)))
noncomputable def F_ref14_Read (fuel : Nat) (x0 : (List Int)) (k0 : (Int × Int × (List (Int × (Int × (Int × ((List Int) × ((List Bool) × (List Int)))))))) → Option Ans) : Option Ans := Fg_ref14_Read fuel (F_ref14_Parse fuel) x0 k0
abbrev YF53 : Type := ((List Int)) → ((Int × Int × (List (Int × (Int × (Int × ((List Int) × ((List Bool) × (List Int)))))))) → Option Ans) → Option Ans
theorem F53_eqg (fuel : Nat) (f131 : YF131) (x0 : (List Int)) (k : Ev.Cont) : evalFn tab (Gg53 f131) (J53 fuel) kp53 fuel Try.f53 [.c (.sl (.int .u8) x0)] [] k = Fg_ref14_Read fuel f131 x0 (fun r => match r with | (r0, r1, r2) => k (.tup [(false, [.int .i64 r0]), (false, [.own 0]), (false, [.int .i64 r1])], [.vec 103 (.pair (.int .i64) (.pair (.int .i64) (.pair (.int .i64) (.pair (.sl (.int .i64)) (.pair (.sl .bool) (.sl (.int .u8))))))) r2 true])) := by
  kernel_rfl
theorem F53_eq (fuel : Nat) (x0 : (List Int)) (k : Ev.Cont) : evalFn tab (G53 fuel) (J53 fuel) kp53 fuel Try.f53 [.c (.sl (.int .u8) x0)] [] k = F_ref14_Read fuel x0 (fun r => match r with | (r0, r1, r2) => k (.tup [(false, [.int .i64 r0]), (false, [.own 0]), (false, [.int .i64 r1])], [.vec 103 (.pair (.int .i64) (.pair (.int .i64) (.pair (.int .i64) (.pair (.sl (.int .i64)) (.pair (.sl .bool) (.sl (.int .u8))))))) r2 true])) :=
  F53_eqg fuel (F_ref14_Parse fuel) x0 k
theorem hG53 (fuel : Nat) : GOK Try.prog (G53 fuel) :=
  gok_cons ⟨ok131 fuel, enters_of Try.func131 (by kernel_rfl) rfl⟩ <|
  gok_nil
theorem fok53 (fuel : Nat) : FnOK Try.prog 53 (evalFn tab (G53 fuel) (J53 fuel) kp53 fuel Try.f53) :=
  fn_ok tab_ok (hG53 fuel) mixed Try.func53 (c := (Try.f53.body).getD .skip) rfl (fun q hq => by
    rw [(by kernel_rfl : obl (J53 fuel) ((Try.f53.body).getD .skip) = [])] at hq
    cases hq)
noncomputable def mt53 : List Ev.SV → List Ev.Ob → Bool := fun args objs => match args, objs with
 | [.c (.sl (.int .u8) _)], [] => true
 | _, _ => false
noncomputable def spg53 (F : YF53) : Ev.Spec := fun args objs k => match args, objs with
 | [.c (.sl (.int .u8) x0)], [] => bif true then F x0 (fun r => match r with | (r0, r1, r2) => k (.tup [(false, [.int .i64 r0]), (false, [.own 0]), (false, [.int .i64 r1])], [.vec 103 (.pair (.int .i64) (.pair (.int .i64) (.pair (.int .i64) (.pair (.sl (.int .i64)) (.pair (.sl .bool) (.sl (.int .u8))))))) r2 true])) else none
 | _, _ => none
noncomputable def spec53 (fuel : Nat) : Ev.Spec := spg53 (F_ref14_Read fuel)
theorem ok53 (fuel : Nat) : FnOK Try.prog 53 (spec53 fuel) := by
  intro args objs kk r h
  unfold spec53 spg53 at h
  split at h
  · skip
    obtain ⟨hb, h⟩ := cond_some' h
    simp only [Bool.and_eq_true, Nat.beq_eq, decide_eq_true_eq] at hb
    clear hb
    exact fok53 fuel _ _ kk r ((F53_eq fuel _ kk).trans h)
  · cases h
end Go.Proofs.Ytihfgpfofmjbaaa

set_option linter.unusedVariables false
set_option linter.unusedSimpArgs false
set_option maxRecDepth 100000
set_option maxHeartbeats 2000000
namespace Go.Proofs.Ytihfgpfofmjbaaa
open Go Ev
def kp55 (i : Nat) : Option (List Nat) := Ev.look i [(200003, [4])]
noncomputable def Gg55 (f131 : YF131) (f : Nat) : Option Ev.Spec := Ev.look f [(131, spg131 f131)]
noncomputable def G55 (fuel : Nat) : Nat → Option Ev.Spec := Gg55 (F_ref14_Parse fuel)
noncomputable def J55 (fuel : Nat) (i : Nat) : Option Ev.Blk := Ev.look i []
noncomputable def Fg_ref14_Places (fuel : Nat) (f131 : YF131) (x0 : (List Int)) (k0 : (Int × (List (Int × Int))) → Option Ans) : Option Ans :=
  (f131 (x0)
  (fun (y2_0, y2_1, y2_2, y2_3, y2_4, y2_5) =>
  bif y2_1 != (0 : Int) then
  k0 (y2_1, [])
  else
  k0 ((0 : Int), y2_5)))
noncomputable def F_ref14_Places (fuel : Nat) (x0 : (List Int)) (k0 : (Int × (List (Int × Int))) → Option Ans) : Option Ans := Fg_ref14_Places fuel (F_ref14_Parse fuel) x0 k0
abbrev YF55 : Type := ((List Int)) → ((Int × (List (Int × Int))) → Option Ans) → Option Ans
theorem F55_eqg (fuel : Nat) (f131 : YF131) (x0 : (List Int)) (k : Ev.Cont) : evalFn tab (Gg55 f131) (J55 fuel) kp55 fuel Try.f55 [.c (.sl (.int .u8) x0)] [] k = Fg_ref14_Places fuel f131 x0 (fun r => match r with | (r0, r1) => k (.tup [(false, [.own 0]), (false, [.int .i64 r0])], [.vec 44 (.pair (.int .i64) (.int .i64)) r1 true])) := by
  kernel_rfl
theorem F55_eq (fuel : Nat) (x0 : (List Int)) (k : Ev.Cont) : evalFn tab (G55 fuel) (J55 fuel) kp55 fuel Try.f55 [.c (.sl (.int .u8) x0)] [] k = F_ref14_Places fuel x0 (fun r => match r with | (r0, r1) => k (.tup [(false, [.own 0]), (false, [.int .i64 r0])], [.vec 44 (.pair (.int .i64) (.int .i64)) r1 true])) :=
  F55_eqg fuel (F_ref14_Parse fuel) x0 k
theorem hG55 (fuel : Nat) : GOK Try.prog (G55 fuel) :=
  gok_cons ⟨ok131 fuel, enters_of Try.func131 (by kernel_rfl) rfl⟩ <|
  gok_nil
theorem fok55 (fuel : Nat) : FnOK Try.prog 55 (evalFn tab (G55 fuel) (J55 fuel) kp55 fuel Try.f55) :=
  fn_ok tab_ok (hG55 fuel) mixed Try.func55 (c := (Try.f55.body).getD .skip) rfl (fun q hq => by
    rw [(by kernel_rfl : obl (J55 fuel) ((Try.f55.body).getD .skip) = [])] at hq
    cases hq)
noncomputable def mt55 : List Ev.SV → List Ev.Ob → Bool := fun args objs => match args, objs with
 | [.c (.sl (.int .u8) _)], [] => true
 | _, _ => false
noncomputable def spg55 (F : YF55) : Ev.Spec := fun args objs k => match args, objs with
 | [.c (.sl (.int .u8) x0)], [] => bif true then F x0 (fun r => match r with | (r0, r1) => k (.tup [(false, [.own 0]), (false, [.int .i64 r0])], [.vec 44 (.pair (.int .i64) (.int .i64)) r1 true])) else none
 | _, _ => none
noncomputable def spec55 (fuel : Nat) : Ev.Spec := spg55 (F_ref14_Places fuel)
theorem ok55 (fuel : Nat) : FnOK Try.prog 55 (spec55 fuel) := by
  intro args objs kk r h
  unfold spec55 spg55 at h
  split at h
  · skip
    obtain ⟨hb, h⟩ := cond_some' h
    simp only [Bool.and_eq_true, Nat.beq_eq, decide_eq_true_eq] at hb
    clear hb
    exact fok55 fuel _ _ kk r ((F55_eq fuel _ kk).trans h)
  · cases h
end Go.Proofs.Ytihfgpfofmjbaaa

