/- What the functions that ToneGets reaches do: their typed texts, each with the proof that the machine does it. No condition. -/
import Derived.Test.YtihfgpfofmjbaaaEvX
set_option linter.unusedVariables false
set_option linter.unusedSimpArgs false
namespace Go.Proofs.Ytihfgpfofmjbaaa
open Go Ev
def ctb (r : List SC) : List SC := .int .i64 2048 :: .int .i64 1792 :: .int .i64 1568 :: .int .i64 1372 :: .int .i64 1201 :: .int .i64 1051 :: .int .i64 920 :: .int .i64 805 :: .int .i64 705 :: .int .i64 617 :: .int .i64 540 :: .int .i64 473 :: .int .i64 414 :: .int .i64 363 :: .int .i64 318 :: .int .i64 279 :: .int .i64 245 :: .int .i64 215 :: .int .i64 189 :: .int .i64 166 :: .int .i64 146 :: .int .i64 128 :: .int .i64 112 :: .int .i64 98 :: .int .i64 86 :: .int .i64 76 :: .int .i64 67 :: .int .i64 59 :: .int .i64 52 :: .int .i64 46 :: .int .i64 41 :: .int .i64 36 :: r
def ctn : List (IntKind × Int) := [(.i64, 2048), (.i64, 1792), (.i64, 1568), (.i64, 1372), (.i64, 1201), (.i64, 1051), (.i64, 920), (.i64, 805), (.i64, 705), (.i64, 617), (.i64, 540), (.i64, 473), (.i64, 414), (.i64, 363), (.i64, 318), (.i64, 279), (.i64, 245), (.i64, 215), (.i64, 189), (.i64, 166), (.i64, 146), (.i64, 128), (.i64, 112), (.i64, 98), (.i64, 86), (.i64, 76), (.i64, 67), (.i64, 59), (.i64, 52), (.i64, 46), (.i64, 41), (.i64, 36)]
end Go.Proofs.Ytihfgpfofmjbaaa
set_option linter.unusedVariables false
set_option linter.unusedSimpArgs false
set_option maxRecDepth 100000
set_option maxHeartbeats 2000000
namespace Go.Proofs.Ytihfgpfofmjbaaa
open Go Ev
def kp143_e21 (i : Nat) : Option (List Nat) := Ev.look i []
noncomputable def Gg143_e21 (f : Nat) : Option Ev.Spec := Ev.look f []
noncomputable def G143_e21 (fuel : Nat) : Nat → Option Ev.Spec := Gg143_e21
noncomputable def J143_e21 (fuel : Nat) (i : Nat) : Option Ev.Blk := Ev.look i []
noncomputable def F_tone_Planes_1_e21 (fuel : Nat) (x0 x1 : Int) (k0 : (Bool × Int) → Option Ans) : Option Ans :=
  bif decide (x0 < (0 : Int)) then
  k0 (true, x1)
  else
  bif decide (x1 < (0 : Int)) then
  none
  else
  k0 (decide (x0 ≥ Ev.ishl IntKind.i64 (1 : Int) x1), x1)
abbrev YF143_e21 : Type := (Int) → (Int) → ((Bool × Int) → Option Ans) → Option Ans
theorem F143_e21_eq (fuel : Nat) (x0 x1 : Int) (k : Ev.Cont) : evalFn tab (G143_e21 fuel) (J143_e21 fuel) kp143_e21 fuel Try.f143 [.c (.int .i64 x0), .c (.ptr 0 0)] [.cells 3 [.int .i64 x1]] k = F_tone_Planes_1_e21 fuel x0 x1 (fun r => match r with | (r0, r1) => k (.c (.bool r0), [.cells 3 [.int .i64 r1]])) := by
  kernel_rfl
theorem hG143_e21 (fuel : Nat) : GOK Try.prog (G143_e21 fuel) :=
  gok_nil
theorem fok143_e21 (fuel : Nat) : FnOK Try.prog 143 (evalFn tab (G143_e21 fuel) (J143_e21 fuel) kp143_e21 fuel Try.f143) :=
  fn_ok tab_ok (hG143_e21 fuel) mixed Try.func143 (c := (Try.f143.body).getD .skip) rfl (fun q hq => by
    rw [(by kernel_rfl : obl (J143_e21 fuel) ((Try.f143.body).getD .skip) = [])] at hq
    cases hq)
noncomputable def mt143_e21 : List Ev.SV → List Ev.Ob → Bool := fun args objs => match args, objs with
 | [.c (.int .i64 _), .c (.ptr q0 q1)], [.cells q2 [.int .i64 _]] => Nat.beq q0 0 && Nat.beq q1 0 && Nat.beq q2 3
 | _, _ => false
noncomputable def spg143_e21 (F : YF143_e21) : Ev.Spec := fun args objs k => match args, objs with
 | [.c (.int .i64 x0), .c (.ptr q0 q1)], [.cells q2 [.int .i64 x1]] => bif Nat.beq q0 0 && Nat.beq q1 0 && Nat.beq q2 3 then F x0 x1 (fun r => match r with | (r0, r1) => k (.c (.bool r0), [.cells 3 [.int .i64 r1]])) else none
 | _, _ => none
noncomputable def spec143_e21 (fuel : Nat) : Ev.Spec := spg143_e21 (F_tone_Planes_1_e21 fuel)
theorem ok143_e21 (fuel : Nat) : FnOK Try.prog 143 (spec143_e21 fuel) := by
  intro args objs kk r h
  unfold spec143_e21 spg143_e21 at h
  split at h
  · skip
    obtain ⟨hb, h⟩ := cond_some' h
    simp only [Bool.and_eq_true, Nat.beq_eq, decide_eq_true_eq] at hb
    obtain ⟨⟨rfl, rfl⟩, rfl⟩ := hb
    exact fok143_e21 fuel _ _ kk r ((F143_e21_eq fuel _ _ kk).trans h)
  · cases h
end Go.Proofs.Ytihfgpfofmjbaaa

set_option linter.unusedVariables false
set_option linter.unusedSimpArgs false
set_option maxRecDepth 100000
set_option maxHeartbeats 2000000
namespace Go.Proofs.Ytihfgpfofmjbaaa
open Go Ev
def kp196_69c (i : Nat) : Option (List Nat) := Ev.look i [(2, [0, 1, 7, 8]), (100000, []), (400000, [4])]
noncomputable def Gg196_69c (f143_e21 : YF143_e21) (f : Nat) : Option Ev.Spec := Ev.look f [(143, spg143_e21 f143_e21)]
noncomputable def G196_69c (fuel : Nat) : Nat → Option Ev.Spec := Gg196_69c (F_tone_Planes_1_e21 fuel)
noncomputable def Sg_slices_IndexFunc_int_int_69c_0 (fuel : Nat) (f143_e21 : YF143_e21) (x0 : (List Int)) (x1 x2 x3 : Int) (c : ((List Int) × Int × Int × Int) → Option Ans) (B : (Int × Int → Option Ans) × (Int → Option Ans)) : Option Ans := match B with
 | (ret, b) =>
  bif decide (x2 < x1) then
  bif decide ((0 : Int) ≤ x2 ∧ x2 < (↑x0.length : Int)) then
  (f143_e21 (x0.getD x2.toNat (0 : Int)) (x3)
  (fun (y4_0, y4_1) =>
  bif y4_0 then
  ret (x2, y4_1)
  else
  c (x0, x1, IntKind.i64.wrap (x2 + (1 : Int)), y4_1)))
  else none
  else
  b x3
noncomputable def S_slices_IndexFunc_int_int_69c_0 (fuel : Nat) (v : (List Int) × Int × Int × Int) (c : ((List Int) × Int × Int × Int) → Option Ans) (B : (Int × Int → Option Ans) × (Int → Option Ans)) : Option Ans := match v with
 | (x0, x1, x2, x3) => Sg_slices_IndexFunc_int_int_69c_0 fuel (F_tone_Planes_1_e21 fuel) x0 x1 x2 x3 c B
noncomputable def L_slices_IndexFunc_int_int_69c_0 (fuel : Nat) (v : (List Int) × Int × Int × Int) (ret : (Int × Int → Option Ans)) (b : (Int → Option Ans)) : Option Ans := iter (S_slices_IndexFunc_int_int_69c_0 fuel) fuel v (ret, b)
noncomputable def J196_69c_0 (fuel : Nat) (i : Nat) : Option Ev.Blk := Ev.look i []
noncomputable def T196_69c_0 (v : (List Int) × Int × Int × Int) : Ev.St := match v with | (x0, x1, x2, x3) => ⟨[(0, .c (.sl (.int .i64) x0)), (1, .c (.clo 143 [0])), (7, .c (.int .i64 x1)), (8, .c (.int .i64 x2))], [(0, .cells 3 [.int .i64 x3])], 1, 1⟩
noncomputable def E196_69c_0 (K : Ev.Ex → Ev.St → Option Ans) : (Int × Int → Option Ans) × (Int → Option Ans) := ((fun v => match v with | (x0, x1) => K .ret ⟨[(4, .c (.int .i64 x0))], [(0, .cells 3 [.int .i64 x1])], 1, 1⟩), (fun v => match v with | x0 => K .normal ⟨[], [(0, .cells 3 [.int .i64 x0])], 1, 1⟩))
theorem S196_69c_0_okg (fuel : Nat) (f143_e21 : YF143_e21) (R : Ev.St → Option Ans) (K : Ev.Ex → Ev.St → Option Ans) (x0 : (List Int)) (x1 x2 x3 : Int) : evalCode tab (Gg196_69c f143_e21) (J196_69c_0 fuel) kp196_69c fuel (bodyOf 0 Try.f196) (T196_69c_0 (x0, x1, x2, x3)) (lc kp196_69c 2 0 R K) = Sg_slices_IndexFunc_int_int_69c_0 fuel f143_e21 x0 x1 x2 x3 (fun v => R (T196_69c_0 v)) (E196_69c_0 K) := by
  kernel_rfl
theorem S196_69c_0_ok (fuel : Nat) (R : Ev.St → Option Ans) (K : Ev.Ex → Ev.St → Option Ans) (x0 : (List Int)) (x1 x2 x3 : Int) : evalCode tab (G196_69c fuel) (J196_69c_0 fuel) kp196_69c fuel (bodyOf 0 Try.f196) (T196_69c_0 (x0, x1, x2, x3)) (lc kp196_69c 2 0 R K) = S_slices_IndexFunc_int_int_69c_0 fuel (x0, x1, x2, x3) (fun v => R (T196_69c_0 v)) (E196_69c_0 K) :=
  S196_69c_0_okg fuel (F_tone_Planes_1_e21 fuel) R K x0 x1 x2 x3
noncomputable def B196_69c_0 (fuel : Nat) : Ev.Blk := fun st K => match canonO (kp196_69c 2) st with
 | some s => (match s with
 | ⟨[(q0, .c (.sl (.int .i64) x0)), (q1, .c (.clo q2 [q3])), (q4, .c (.int .i64 x1)), (q5, .c (.int .i64 x2))], [(q6, .cells q7 [.int .i64 x3])], q8, q9⟩ => bif Nat.beq q0 0 && Nat.beq q1 1 && Nat.beq q2 143 && Nat.beq q3 0 && Nat.beq q4 7 && Nat.beq q5 8 && Nat.beq q6 0 && Nat.beq q7 3 && Nat.beq q8 1 && Nat.beq q9 1 then iter (S_slices_IndexFunc_int_int_69c_0 fuel) fuel (x0, x1, x2, x3) (E196_69c_0 K) else none
 | _ => none)
 | none => none
theorem B196_69c_0_ok (fuel : Nat) (st : Ev.St) (K : Ev.Ex → Ev.St → Option Ans) (r : Ans) (h : B196_69c_0 fuel st K = some r) : evalCode tab (G196_69c fuel) (J196_69c_0 fuel) kp196_69c fuel (.block 0 (.loop (bodyOf 0 Try.f196))) st K = some r := by
  unfold B196_69c_0 at h
  split at h
  · rename_i s hs
    split at h
    · skip
      obtain ⟨hb, h⟩ := cond_some' h
      simp only [Bool.and_eq_true, Nat.beq_eq, decide_eq_true_eq] at hb
      obtain ⟨⟨⟨⟨⟨⟨⟨⟨⟨rfl, rfl⟩, rfl⟩, rfl⟩, rfl⟩, rfl⟩, rfl⟩, rfl⟩, rfl⟩, rfl⟩ := hb
      exact blk_loop (S := T196_69c_0) (ks := E196_69c_0) (step := S_slices_IndexFunc_int_int_69c_0 fuel) (v := (_, _, _, _)) (by kernel_rfl) (by kernel_rfl) (fun R K v => by obtain ⟨x0, x1, x2, x3⟩ := v; exact S196_69c_0_ok fuel R K x0 x1 x2 x3) hs h
    · cases h
  · cases h
noncomputable def J196_69c (fuel : Nat) (i : Nat) : Option Ev.Blk := Ev.look i [(100000, B196_69c_0 fuel)]
noncomputable def Fg_slices_IndexFunc_int_int_69c (fuel : Nat) (f143_e21 : YF143_e21) (x0 : (List Int)) (x1 : Int) (k0 : (Int × Int) → Option Ans) : Option Ans :=
  (L_slices_IndexFunc_int_int_69c_0 fuel (x0, (↑x0.length : Int), (0 : Int), x1)
  (fun (ret0_0, ret0_1) =>
  k0 (ret0_0, ret0_1))
  (fun b0_0 =>
  k0 ((-1 : Int), b0_0)))
noncomputable def F_slices_IndexFunc_int_int_69c (fuel : Nat) (x0 : (List Int)) (x1 : Int) (k0 : (Int × Int) → Option Ans) : Option Ans := Fg_slices_IndexFunc_int_int_69c fuel (F_tone_Planes_1_e21 fuel) x0 x1 k0
abbrev YF196_69c : Type := ((List Int)) → (Int) → ((Int × Int) → Option Ans) → Option Ans
theorem F196_69c_eqg (fuel : Nat) (f143_e21 : YF143_e21) (x0 : (List Int)) (x1 : Int) (k : Ev.Cont) : evalFn tab (Gg196_69c f143_e21) (J196_69c fuel) kp196_69c fuel Try.f196 [.c (.sl (.int .i64) x0), .c (.clo 143 [0])] [.cells 3 [.int .i64 x1]] k = Fg_slices_IndexFunc_int_int_69c fuel f143_e21 x0 x1 (fun r => match r with | (r0, r1) => k (.c (.int .i64 r0), [.cells 3 [.int .i64 r1]])) := by
  kernel_rfl
theorem F196_69c_eq (fuel : Nat) (x0 : (List Int)) (x1 : Int) (k : Ev.Cont) : evalFn tab (G196_69c fuel) (J196_69c fuel) kp196_69c fuel Try.f196 [.c (.sl (.int .i64) x0), .c (.clo 143 [0])] [.cells 3 [.int .i64 x1]] k = F_slices_IndexFunc_int_int_69c fuel x0 x1 (fun r => match r with | (r0, r1) => k (.c (.int .i64 r0), [.cells 3 [.int .i64 r1]])) :=
  F196_69c_eqg fuel (F_tone_Planes_1_e21 fuel) x0 x1 k
theorem hG196_69c (fuel : Nat) : GOK Try.prog (G196_69c fuel) :=
  gok_cons ⟨ok143_e21 fuel, enters_of Try.func143 (by kernel_rfl) rfl⟩ <|
  gok_nil
theorem B196_69c_0_blk (fuel : Nat) : BlkOK Try.prog Try.f196.ntmps (.block 0 (.loop (bodyOf 0 Try.f196))) (B196_69c_0 fuel) :=
  blk_of (blk_of_code tab_ok (hG196_69c fuel) mixed (J := J196_69c_0 fuel) (kp := kp196_69c) (fuel := fuel) (by kernel_rfl) (fun q hq => by
    rw [(by kernel_rfl : obl (J196_69c_0 fuel) (.block 0 (.loop (bodyOf 0 Try.f196))) = [])] at hq
    cases hq)) (B196_69c_0_ok fuel)
theorem fok196_69c (fuel : Nat) : FnOK Try.prog 196 (evalFn tab (G196_69c fuel) (J196_69c fuel) kp196_69c fuel Try.f196) :=
  fn_ok tab_ok (hG196_69c fuel) mixed Try.func196 (c := (Try.f196.body).getD .skip) rfl (fun q hq => by
    rw [(by kernel_rfl : obl (J196_69c fuel) ((Try.f196.body).getD .skip) = [(.block 0 (.loop (bodyOf 0 Try.f196)), B196_69c_0 fuel)])] at hq
    simp only [List.mem_cons, List.not_mem_nil, or_false] at hq
    subst hq
    · exact B196_69c_0_blk fuel)
noncomputable def mt196_69c : List Ev.SV → List Ev.Ob → Bool := fun args objs => match args, objs with
 | [.c (.sl (.int .i64) _), .c (.clo q0 [q1])], [.cells q2 [.int .i64 _]] => Nat.beq q0 143 && Nat.beq q1 0 && Nat.beq q2 3
 | _, _ => false
noncomputable def spg196_69c (F : YF196_69c) : Ev.Spec := fun args objs k => match args, objs with
 | [.c (.sl (.int .i64) x0), .c (.clo q0 [q1])], [.cells q2 [.int .i64 x1]] => bif Nat.beq q0 143 && Nat.beq q1 0 && Nat.beq q2 3 then F x0 x1 (fun r => match r with | (r0, r1) => k (.c (.int .i64 r0), [.cells 3 [.int .i64 r1]])) else none
 | _, _ => none
noncomputable def spec196_69c (fuel : Nat) : Ev.Spec := spg196_69c (F_slices_IndexFunc_int_int_69c fuel)
theorem ok196_69c (fuel : Nat) : FnOK Try.prog 196 (spec196_69c fuel) := by
  intro args objs kk r h
  unfold spec196_69c spg196_69c at h
  split at h
  · skip
    obtain ⟨hb, h⟩ := cond_some' h
    simp only [Bool.and_eq_true, Nat.beq_eq, decide_eq_true_eq] at hb
    obtain ⟨⟨rfl, rfl⟩, rfl⟩ := hb
    exact fok196_69c fuel _ _ kk r ((F196_69c_eq fuel _ _ kk).trans h)
  · cases h
end Go.Proofs.Ytihfgpfofmjbaaa

set_option linter.unusedVariables false
set_option linter.unusedSimpArgs false
set_option maxRecDepth 100000
set_option maxHeartbeats 2000000
namespace Go.Proofs.Ytihfgpfofmjbaaa
open Go Ev
def kp142_69c (i : Nat) : Option (List Nat) := Ev.look i []
noncomputable def Gg142_69c (f196_69c : YF196_69c) (f : Nat) : Option Ev.Spec := Ev.look f [(196, spg196_69c f196_69c)]
noncomputable def G142_69c (fuel : Nat) : Nat → Option Ev.Spec := Gg142_69c (F_slices_IndexFunc_int_int_69c fuel)
noncomputable def J142_69c (fuel : Nat) (i : Nat) : Option Ev.Blk := Ev.look i []
noncomputable def Fg_slices_ContainsFunc_int_int_69c (fuel : Nat) (f196_69c : YF196_69c) (x0 : (List Int)) (x1 : Int) (k0 : (Bool × Int) → Option Ans) : Option Ans :=
  (f196_69c (x0) (x1)
  (fun (y2_0, y2_1) =>
  k0 (decide (y2_0 ≥ (0 : Int)), y2_1)))
noncomputable def F_slices_ContainsFunc_int_int_69c (fuel : Nat) (x0 : (List Int)) (x1 : Int) (k0 : (Bool × Int) → Option Ans) : Option Ans := Fg_slices_ContainsFunc_int_int_69c fuel (F_slices_IndexFunc_int_int_69c fuel) x0 x1 k0
abbrev YF142_69c : Type := ((List Int)) → (Int) → ((Bool × Int) → Option Ans) → Option Ans
theorem F142_69c_eqg (fuel : Nat) (f196_69c : YF196_69c) (x0 : (List Int)) (x1 : Int) (k : Ev.Cont) : evalFn tab (Gg142_69c f196_69c) (J142_69c fuel) kp142_69c fuel Try.f142 [.c (.sl (.int .i64) x0), .c (.clo 143 [0])] [.cells 3 [.int .i64 x1]] k = Fg_slices_ContainsFunc_int_int_69c fuel f196_69c x0 x1 (fun r => match r with | (r0, r1) => k (.c (.bool r0), [.cells 3 [.int .i64 r1]])) := by
  kernel_rfl
theorem F142_69c_eq (fuel : Nat) (x0 : (List Int)) (x1 : Int) (k : Ev.Cont) : evalFn tab (G142_69c fuel) (J142_69c fuel) kp142_69c fuel Try.f142 [.c (.sl (.int .i64) x0), .c (.clo 143 [0])] [.cells 3 [.int .i64 x1]] k = F_slices_ContainsFunc_int_int_69c fuel x0 x1 (fun r => match r with | (r0, r1) => k (.c (.bool r0), [.cells 3 [.int .i64 r1]])) :=
  F142_69c_eqg fuel (F_slices_IndexFunc_int_int_69c fuel) x0 x1 k
theorem hG142_69c (fuel : Nat) : GOK Try.prog (G142_69c fuel) :=
  gok_cons ⟨ok196_69c fuel, enters_of Try.func196 (by kernel_rfl) rfl⟩ <|
  gok_nil
theorem fok142_69c (fuel : Nat) : FnOK Try.prog 142 (evalFn tab (G142_69c fuel) (J142_69c fuel) kp142_69c fuel Try.f142) :=
  fn_ok tab_ok (hG142_69c fuel) mixed Try.func142 (c := (Try.f142.body).getD .skip) rfl (fun q hq => by
    rw [(by kernel_rfl : obl (J142_69c fuel) ((Try.f142.body).getD .skip) = [])] at hq
    cases hq)
noncomputable def mt142_69c : List Ev.SV → List Ev.Ob → Bool := fun args objs => match args, objs with
 | [.c (.sl (.int .i64) _), .c (.clo q0 [q1])], [.cells q2 [.int .i64 _]] => Nat.beq q0 143 && Nat.beq q1 0 && Nat.beq q2 3
 | _, _ => false
noncomputable def spg142_69c (F : YF142_69c) : Ev.Spec := fun args objs k => match args, objs with
 | [.c (.sl (.int .i64) x0), .c (.clo q0 [q1])], [.cells q2 [.int .i64 x1]] => bif Nat.beq q0 143 && Nat.beq q1 0 && Nat.beq q2 3 then F x0 x1 (fun r => match r with | (r0, r1) => k (.c (.bool r0), [.cells 3 [.int .i64 r1]])) else none
 | _, _ => none
noncomputable def spec142_69c (fuel : Nat) : Ev.Spec := spg142_69c (F_slices_ContainsFunc_int_int_69c fuel)
theorem ok142_69c (fuel : Nat) : FnOK Try.prog 142 (spec142_69c fuel) := by
  intro args objs kk r h
  unfold spec142_69c spg142_69c at h
  split at h
  · skip
    obtain ⟨hb, h⟩ := cond_some' h
    simp only [Bool.and_eq_true, Nat.beq_eq, decide_eq_true_eq] at hb
    obtain ⟨⟨rfl, rfl⟩, rfl⟩ := hb
    exact fok142_69c fuel _ _ kk r ((F142_69c_eq fuel _ _ kk).trans h)
  · cases h
end Go.Proofs.Ytihfgpfofmjbaaa

set_option linter.unusedVariables false
set_option linter.unusedSimpArgs false
set_option maxRecDepth 100000
set_option maxHeartbeats 2000000
namespace Go.Proofs.Ytihfgpfofmjbaaa
open Go Ev
def kp70 (i : Nat) : Option (List Nat) := Ev.look i [(5, [0, 6, 7]), (9, [0, 6, 7, 8, 28, 29, 30]), (100000, [6]), (100002, [0, 6, 7, 8]), (400000, [4, 5]), (400002, [4, 5])]
noncomputable def Gg70 (f142_69c : YF142_69c) (f : Nat) : Option Ev.Spec := Ev.look f [(142, spg142_69c f142_69c)]
noncomputable def G70 (fuel : Nat) : Nat → Option Ev.Spec := Gg70 (F_slices_ContainsFunc_int_int_69c fuel)
noncomputable def Sg_tone_Planes_2 (fuel : Nat) (f142_69c : YF142_69c) (x0 : (List Int)) (x1 : Int) (x2 : (List Int)) (x3 x4 : Int) (x5 : (List (List Int))) (x6 : (List Int)) (c : ((List Int) × Int × (List Int) × Int × Int × (List (List Int)) × (List Int)) → Option Ans) (B : ((List Int) × Int × (List (List Int)) × (List Int) → Option Ans)) : Option Ans := match B with
 | b =>
  bif decide (x4 < x3) then
  bif decide ((0 : Int) ≤ x4 ∧ x4 < (↑x2.length : Int)) then
  bif decide (x1 < (0 : Int)) then
  none
  else
  bif decide (IntKind.i64.wrap (x1 + (1 : Int)) < (0 : Int)) then
  none
  else
  bif decide ((x6.length + [IntKind.u8.wrap (Ev.iand IntKind.i64 (Ev.ixor IntKind.i64 (Ev.ishr IntKind.i64 (x2.getD x4.toNat (0 : Int)) x1) (Ev.ishr IntKind.i64 (x2.getD x4.toNat (0 : Int)) (IntKind.i64.wrap (x1 + (1 : Int))))) (1 : Int))].length) * (1 : Nat) ≤ (140737488355328 : Nat) ∧ x6.length + [IntKind.u8.wrap (Ev.iand IntKind.i64 (Ev.ixor IntKind.i64 (Ev.ishr IntKind.i64 (x2.getD x4.toNat (0 : Int)) x1) (Ev.ishr IntKind.i64 (x2.getD x4.toNat (0 : Int)) (IntKind.i64.wrap (x1 + (1 : Int))))) (1 : Int))].length ≤ (140737488355328 : Nat)) then
  c (x0, x1, x2, x3, IntKind.i64.wrap (x4 + (1 : Int)), x5, x6 ++ [IntKind.u8.wrap (Ev.iand IntKind.i64 (Ev.ixor IntKind.i64 (Ev.ishr IntKind.i64 (x2.getD x4.toNat (0 : Int)) x1) (Ev.ishr IntKind.i64 (x2.getD x4.toNat (0 : Int)) (IntKind.i64.wrap (x1 + (1 : Int))))) (1 : Int))])
  else none
  else none
  else
  b (x0, x1, x5, x6)
noncomputable def S_tone_Planes_2 (fuel : Nat) (v : (List Int) × Int × (List Int) × Int × Int × (List (List Int)) × (List Int)) (c : ((List Int) × Int × (List Int) × Int × Int × (List (List Int)) × (List Int)) → Option Ans) (B : ((List Int) × Int × (List (List Int)) × (List Int) → Option Ans)) : Option Ans := match v with
 | (x0, x1, x2, x3, x4, x5, x6) => Sg_tone_Planes_2 fuel (F_slices_ContainsFunc_int_int_69c fuel) x0 x1 x2 x3 x4 x5 x6 c B
noncomputable def L_tone_Planes_2 (fuel : Nat) (v : (List Int) × Int × (List Int) × Int × Int × (List (List Int)) × (List Int)) (b : ((List Int) × Int × (List (List Int)) × (List Int) → Option Ans)) : Option Ans := iter (S_tone_Planes_2 fuel) fuel v b
noncomputable def J70_2 (fuel : Nat) (i : Nat) : Option Ev.Blk := Ev.look i []
noncomputable def T70_2 (v : (List Int) × Int × (List Int) × Int × Int × (List (List Int)) × (List Int)) : Ev.St := match v with | (x0, x1, x2, x3, x4, x5, x6) => ⟨[(0, .c (.sl (.int .i64) x0)), (6, .c (.own 0)), (7, .c (.int .i64 x1)), (8, .c (.own 1)), (28, .c (.sl (.int .i64) x2)), (29, .c (.int .i64 x3)), (30, .c (.int .i64 x4))], [(0, .vec 25 (.sl (.int .u8)) x5 true), (1, .vec 5 (.int .u8) x6 true)], 2, 0⟩
noncomputable def E70_2 (K : Ev.Ex → Ev.St → Option Ans) : ((List Int) × Int × (List (List Int)) × (List Int) → Option Ans) := (fun v => match v with | (x0, x1, x2, x3) => K .normal ⟨[(0, .c (.sl (.int .i64) x0)), (6, .c (.own 0)), (7, .c (.int .i64 x1)), (8, .c (.own 1))], [(0, .vec 25 (.sl (.int .u8)) x2 true), (1, .vec 5 (.int .u8) x3 true)], 2, 0⟩)
theorem S70_2_okg (fuel : Nat) (f142_69c : YF142_69c) (R : Ev.St → Option Ans) (K : Ev.Ex → Ev.St → Option Ans) (x0 : (List Int)) (x1 : Int) (x2 : (List Int)) (x3 x4 : Int) (x5 : (List (List Int))) (x6 : (List Int)) : evalCode tab (Gg70 f142_69c) (J70_2 fuel) kp70 fuel (bodyOf 2 Try.f70) (T70_2 (x0, x1, x2, x3, x4, x5, x6)) (lc kp70 9 2 R K) = Sg_tone_Planes_2 fuel f142_69c x0 x1 x2 x3 x4 x5 x6 (fun v => R (T70_2 v)) (E70_2 K) := by
  kernel_rfl
theorem S70_2_ok (fuel : Nat) (R : Ev.St → Option Ans) (K : Ev.Ex → Ev.St → Option Ans) (x0 : (List Int)) (x1 : Int) (x2 : (List Int)) (x3 x4 : Int) (x5 : (List (List Int))) (x6 : (List Int)) : evalCode tab (G70 fuel) (J70_2 fuel) kp70 fuel (bodyOf 2 Try.f70) (T70_2 (x0, x1, x2, x3, x4, x5, x6)) (lc kp70 9 2 R K) = S_tone_Planes_2 fuel (x0, x1, x2, x3, x4, x5, x6) (fun v => R (T70_2 v)) (E70_2 K) :=
  S70_2_okg fuel (F_slices_ContainsFunc_int_int_69c fuel) R K x0 x1 x2 x3 x4 x5 x6
noncomputable def B70_2 (fuel : Nat) : Ev.Blk := fun st K => match canonO (kp70 9) st with
 | some s => (match s with
 | ⟨[(q0, .c (.sl (.int .i64) x0)), (q1, .c (.own q2)), (q3, .c (.int .i64 x1)), (q4, .c (.own q5)), (q6, .c (.sl (.int .i64) x2)), (q7, .c (.int .i64 x3)), (q8, .c (.int .i64 x4))], [(q9, .vec q10 (.sl (.int .u8)) x5 true), (q11, .vec q12 (.int .u8) x6 true)], q13, q14⟩ => bif Nat.beq q0 0 && Nat.beq q1 6 && Nat.beq q2 0 && Nat.beq q3 7 && Nat.beq q4 8 && Nat.beq q5 1 && Nat.beq q6 28 && Nat.beq q7 29 && Nat.beq q8 30 && Nat.beq q9 0 && Nat.beq q10 25 && Nat.beq q11 1 && Nat.beq q12 5 && Nat.beq q13 2 && Nat.beq q14 0 then iter (S_tone_Planes_2 fuel) fuel (x0, x1, x2, x3, x4, x5, x6) (E70_2 K) else none
 | _ => none)
 | none => none
theorem B70_2_ok (fuel : Nat) (st : Ev.St) (K : Ev.Ex → Ev.St → Option Ans) (r : Ans) (h : B70_2 fuel st K = some r) : evalCode tab (G70 fuel) (J70_2 fuel) kp70 fuel (.block 2 (.loop (bodyOf 2 Try.f70))) st K = some r := by
  unfold B70_2 at h
  split at h
  · rename_i s hs
    split at h
    · skip
      obtain ⟨hb, h⟩ := cond_some' h
      simp only [Bool.and_eq_true, Nat.beq_eq, decide_eq_true_eq] at hb
      obtain ⟨⟨⟨⟨⟨⟨⟨⟨⟨⟨⟨⟨⟨⟨rfl, rfl⟩, rfl⟩, rfl⟩, rfl⟩, rfl⟩, rfl⟩, rfl⟩, rfl⟩, rfl⟩, rfl⟩, rfl⟩, rfl⟩, rfl⟩, rfl⟩ := hb
      exact blk_loop (S := T70_2) (ks := E70_2) (step := S_tone_Planes_2 fuel) (v := (_, _, _, _, _, _, _)) (by kernel_rfl) (by kernel_rfl) (fun R K v => by obtain ⟨x0, x1, x2, x3, x4, x5, x6⟩ := v; exact S70_2_ok fuel R K x0 x1 x2 x3 x4 x5 x6) hs h
    · cases h
  · cases h
noncomputable def Sg_tone_Planes_0 (fuel : Nat) (f142_69c : YF142_69c) (x0 : (List Int)) (x1 : Int) (x2 : (List (List Int))) (c : ((List Int) × Int × (List (List Int))) → Option Ans) (B : ((List (List Int)) → Option Ans)) : Option Ans := match B with
 | b =>
  bif decide (x1 ≥ (0 : Int)) then
  (L_tone_Planes_2 fuel (x0, x1, x0, (↑x0.length : Int), (0 : Int), x2, [])
  (fun (b2_0, b2_1, b2_2, b2_3) =>
  bif decide ((b2_2.length + [b2_3].length) * (24 : Nat) ≤ (140737488355328 : Nat) ∧ b2_2.length + [b2_3].length ≤ (140737488355328 : Nat)) then
  c (b2_0, IntKind.i64.wrap (b2_1 - (1 : Int)), b2_2 ++ [b2_3])
  else none))
  else
  b x2
noncomputable def S_tone_Planes_0 (fuel : Nat) (v : (List Int) × Int × (List (List Int))) (c : ((List Int) × Int × (List (List Int))) → Option Ans) (B : ((List (List Int)) → Option Ans)) : Option Ans := match v with
 | (x0, x1, x2) => Sg_tone_Planes_0 fuel (F_slices_ContainsFunc_int_int_69c fuel) x0 x1 x2 c B
noncomputable def L_tone_Planes_0 (fuel : Nat) (v : (List Int) × Int × (List (List Int))) (b : ((List (List Int)) → Option Ans)) : Option Ans := iter (S_tone_Planes_0 fuel) fuel v b
noncomputable def J70_0 (fuel : Nat) (i : Nat) : Option Ev.Blk := Ev.look i [(100002, B70_2 fuel)]
noncomputable def T70_0 (v : (List Int) × Int × (List (List Int))) : Ev.St := match v with | (x0, x1, x2) => ⟨[(0, .c (.sl (.int .i64) x0)), (6, .c (.own 0)), (7, .c (.int .i64 x1))], [(0, .vec 25 (.sl (.int .u8)) x2 true)], 1, 0⟩
noncomputable def E70_0 (K : Ev.Ex → Ev.St → Option Ans) : ((List (List Int)) → Option Ans) := (fun v => match v with | x0 => K .normal ⟨[(6, .c (.own 0))], [(0, .vec 25 (.sl (.int .u8)) x0 true)], 1, 0⟩)
theorem S70_0_okg (fuel : Nat) (f142_69c : YF142_69c) (R : Ev.St → Option Ans) (K : Ev.Ex → Ev.St → Option Ans) (x0 : (List Int)) (x1 : Int) (x2 : (List (List Int))) : evalCode tab (Gg70 f142_69c) (J70_0 fuel) kp70 fuel (bodyOf 0 Try.f70) (T70_0 (x0, x1, x2)) (lc kp70 5 0 R K) = Sg_tone_Planes_0 fuel f142_69c x0 x1 x2 (fun v => R (T70_0 v)) (E70_0 K) := by
  kernel_rfl
theorem S70_0_ok (fuel : Nat) (R : Ev.St → Option Ans) (K : Ev.Ex → Ev.St → Option Ans) (x0 : (List Int)) (x1 : Int) (x2 : (List (List Int))) : evalCode tab (G70 fuel) (J70_0 fuel) kp70 fuel (bodyOf 0 Try.f70) (T70_0 (x0, x1, x2)) (lc kp70 5 0 R K) = S_tone_Planes_0 fuel (x0, x1, x2) (fun v => R (T70_0 v)) (E70_0 K) :=
  S70_0_okg fuel (F_slices_ContainsFunc_int_int_69c fuel) R K x0 x1 x2
noncomputable def B70_0 (fuel : Nat) : Ev.Blk := fun st K => match canonO (kp70 5) st with
 | some s => (match s with
 | ⟨[(q0, .c (.sl (.int .i64) x0)), (q1, .c (.own q2)), (q3, .c (.int .i64 x1))], [(q4, .vec q5 (.sl (.int .u8)) x2 true)], q6, q7⟩ => bif Nat.beq q0 0 && Nat.beq q1 6 && Nat.beq q2 0 && Nat.beq q3 7 && Nat.beq q4 0 && Nat.beq q5 25 && Nat.beq q6 1 && Nat.beq q7 0 then iter (S_tone_Planes_0 fuel) fuel (x0, x1, x2) (E70_0 K) else none
 | _ => none)
 | none => none
theorem B70_0_ok (fuel : Nat) (st : Ev.St) (K : Ev.Ex → Ev.St → Option Ans) (r : Ans) (h : B70_0 fuel st K = some r) : evalCode tab (G70 fuel) (J70_0 fuel) kp70 fuel (.block 0 (.loop (bodyOf 0 Try.f70))) st K = some r := by
  unfold B70_0 at h
  split at h
  · rename_i s hs
    split at h
    · skip
      obtain ⟨hb, h⟩ := cond_some' h
      simp only [Bool.and_eq_true, Nat.beq_eq, decide_eq_true_eq] at hb
      obtain ⟨⟨⟨⟨⟨⟨⟨rfl, rfl⟩, rfl⟩, rfl⟩, rfl⟩, rfl⟩, rfl⟩, rfl⟩ := hb
      exact blk_loop (S := T70_0) (ks := E70_0) (step := S_tone_Planes_0 fuel) (v := (_, _, _)) (by kernel_rfl) (by kernel_rfl) (fun R K v => by obtain ⟨x0, x1, x2⟩ := v; exact S70_0_ok fuel R K x0 x1 x2) hs h
    · cases h
  · cases h
noncomputable def J70 (fuel : Nat) (i : Nat) : Option Ev.Blk := Ev.look i [(100002, B70_2 fuel), (100000, B70_0 fuel)]
noncomputable def Fg_tone_Planes (fuel : Nat) (f142_69c : YF142_69c) (x0 : (List Int)) (x1 : Int) (k0 : (Int × (List (List Int))) → Option Ans) : Option Ans :=
  bif decide (x1 < (0 : Int)) then
  k0 ((2 : Int), [])
  else
  bif decide (x1 > (8 : Int)) then
  k0 ((2 : Int), [])
  else
  (f142_69c (x0) (x1)
  (fun (y4_0, y4_1) =>
  bif y4_0 then
  k0 ((2 : Int), [])
  else
  (L_tone_Planes_0 fuel (x0, IntKind.i64.wrap (y4_1 - (1 : Int)), [])
  (fun b0_0 =>
  k0 ((0 : Int), b0_0)))))
noncomputable def F_tone_Planes (fuel : Nat) (x0 : (List Int)) (x1 : Int) (k0 : (Int × (List (List Int))) → Option Ans) : Option Ans := Fg_tone_Planes fuel (F_slices_ContainsFunc_int_int_69c fuel) x0 x1 k0
abbrev YF70 : Type := ((List Int)) → (Int) → ((Int × (List (List Int))) → Option Ans) → Option Ans
theorem F70_eqg (fuel : Nat) (f142_69c : YF142_69c) (x0 : (List Int)) (x1 : Int) (k : Ev.Cont) : evalFn tab (Gg70 f142_69c) (J70 fuel) kp70 fuel Try.f70 [.c (.sl (.int .i64) x0), .c (.int .i64 x1)] [] k = Fg_tone_Planes fuel f142_69c x0 x1 (fun r => match r with | (r0, r1) => k (.tup [(false, [.own 0]), (false, [.int .i64 r0])], [.vec 25 (.sl (.int .u8)) r1 true])) := by
  kernel_rfl
theorem F70_eq (fuel : Nat) (x0 : (List Int)) (x1 : Int) (k : Ev.Cont) : evalFn tab (G70 fuel) (J70 fuel) kp70 fuel Try.f70 [.c (.sl (.int .i64) x0), .c (.int .i64 x1)] [] k = F_tone_Planes fuel x0 x1 (fun r => match r with | (r0, r1) => k (.tup [(false, [.own 0]), (false, [.int .i64 r0])], [.vec 25 (.sl (.int .u8)) r1 true])) :=
  F70_eqg fuel (F_slices_ContainsFunc_int_int_69c fuel) x0 x1 k
theorem hG70 (fuel : Nat) : GOK Try.prog (G70 fuel) :=
  gok_cons ⟨ok142_69c fuel, enters_of Try.func142 (by kernel_rfl) rfl⟩ <|
  gok_nil
theorem B70_2_blk (fuel : Nat) : BlkOK Try.prog Try.f70.ntmps (.block 2 (.loop (bodyOf 2 Try.f70))) (B70_2 fuel) :=
  blk_of (blk_of_code tab_ok (hG70 fuel) mixed (J := J70_2 fuel) (kp := kp70) (fuel := fuel) (by kernel_rfl) (fun q hq => by
    rw [(by kernel_rfl : obl (J70_2 fuel) (.block 2 (.loop (bodyOf 2 Try.f70))) = [])] at hq
    cases hq)) (B70_2_ok fuel)
theorem B70_0_blk (fuel : Nat) : BlkOK Try.prog Try.f70.ntmps (.block 0 (.loop (bodyOf 0 Try.f70))) (B70_0 fuel) :=
  blk_of (blk_of_code tab_ok (hG70 fuel) mixed (J := J70_0 fuel) (kp := kp70) (fuel := fuel) (by kernel_rfl) (fun q hq => by
    rw [(by kernel_rfl : obl (J70_0 fuel) (.block 0 (.loop (bodyOf 0 Try.f70))) = [(.block 2 (.loop (bodyOf 2 Try.f70)), B70_2 fuel)])] at hq
    simp only [List.mem_cons, List.not_mem_nil, or_false] at hq
    subst hq
    · exact B70_2_blk fuel)) (B70_0_ok fuel)
theorem fok70 (fuel : Nat) : FnOK Try.prog 70 (evalFn tab (G70 fuel) (J70 fuel) kp70 fuel Try.f70) :=
  fn_ok tab_ok (hG70 fuel) mixed Try.func70 (c := (Try.f70.body).getD .skip) rfl (fun q hq => by
    rw [(by kernel_rfl : obl (J70 fuel) ((Try.f70.body).getD .skip) = [(.block 0 (.loop (bodyOf 0 Try.f70)), B70_0 fuel)])] at hq
    simp only [List.mem_cons, List.not_mem_nil, or_false] at hq
    subst hq
    · exact B70_0_blk fuel)
noncomputable def mt70 : List Ev.SV → List Ev.Ob → Bool := fun args objs => match args, objs with
 | [.c (.sl (.int .i64) _), .c (.int .i64 _)], [] => true
 | _, _ => false
noncomputable def spg70 (F : YF70) : Ev.Spec := fun args objs k => match args, objs with
 | [.c (.sl (.int .i64) x0), .c (.int .i64 x1)], [] => bif true then F x0 x1 (fun r => match r with | (r0, r1) => k (.tup [(false, [.own 0]), (false, [.int .i64 r0])], [.vec 25 (.sl (.int .u8)) r1 true])) else none
 | _, _ => none
noncomputable def spec70 (fuel : Nat) : Ev.Spec := spg70 (F_tone_Planes fuel)
theorem ok70 (fuel : Nat) : FnOK Try.prog 70 (spec70 fuel) := by
  intro args objs kk r h
  unfold spec70 spg70 at h
  split at h
  · skip
    obtain ⟨hb, h⟩ := cond_some' h
    simp only [Bool.and_eq_true, Nat.beq_eq, decide_eq_true_eq] at hb
    clear hb
    exact fok70 fuel _ _ kk r ((F70_eq fuel _ _ kk).trans h)
  · cases h
end Go.Proofs.Ytihfgpfofmjbaaa

set_option linter.unusedVariables false
set_option linter.unusedSimpArgs false
set_option maxRecDepth 100000
set_option maxHeartbeats 2000000
namespace Go.Proofs.Ytihfgpfofmjbaaa
open Go Ev
def kp21 (i : Nat) : Option (List Nat) := Ev.look i []
noncomputable def Gg21 (f70 : YF70) (f : Nat) : Option Ev.Spec := Ev.look f [(70, spg70 f70)]
noncomputable def G21 (fuel : Nat) : Nat → Option Ev.Spec := Gg21 (F_tone_Planes fuel)
noncomputable def J21 (fuel : Nat) (i : Nat) : Option Ev.Blk := Ev.look i []
noncomputable def Fg_law11_Sane (fuel : Nat) (f70 : YF70)  (k0 : (Bool) → Option Ans) : Option Ans :=
  (f70 ([(0 : Int), (1 : Int), (2 : Int), (3 : Int)]) ((2 : Int))
  (fun (y2_0, y2_1) =>
  bif y2_0 == (0 : Int) then
  bif (↑y2_1.length : Int) == (2 : Int) then
  bif decide ((0 : Int) ≤ (0 : Int) ∧ (0 : Int) < (↑y2_1.length : Int)) then
  both (both (bif (Go.strOfNums (y2_1.getD (Int.toNat (0 : Int)) [])).toList == (Go.strOfNums [(0 : Int), (0 : Int), (1 : Int), (1 : Int)]).toList then
  bif decide ((0 : Int) ≤ (1 : Int) ∧ (1 : Int) < (↑y2_1.length : Int)) then
  both (both (k0 ((Go.strOfNums (y2_1.getD (Int.toNat (1 : Int)) [])).toList == (Go.strOfNums [(0 : Int), (1 : Int), (1 : Int), (0 : Int)]).toList))
  (both (k0 ((Go.strOfNums (y2_1.getD (Int.toNat (1 : Int)) [])).toList == (Go.strOfNums [(0 : Int), (1 : Int), (1 : Int), (0 : Int)]).toList))
  (k0 ((Go.strOfNums (y2_1.getD (Int.toNat (1 : Int)) [])).toList == (Go.strOfNums [(0 : Int), (1 : Int), (1 : Int), (0 : Int)]).toList))))
  (both (both (k0 ((Go.strOfNums (y2_1.getD (Int.toNat (1 : Int)) [])).toList == (Go.strOfNums [(0 : Int), (1 : Int), (1 : Int), (0 : Int)]).toList))
  (k0 ((Go.strOfNums (y2_1.getD (Int.toNat (1 : Int)) [])).toList == (Go.strOfNums [(0 : Int), (1 : Int), (1 : Int), (0 : Int)]).toList)))
  (k0 ((Go.strOfNums (y2_1.getD (Int.toNat (1 : Int)) [])).toList == (Go.strOfNums [(0 : Int), (1 : Int), (1 : Int), (0 : Int)]).toList)))
  else none
  else
  k0 false)
  (both (bif (Go.strOfNums (y2_1.getD (Int.toNat (0 : Int)) [])).toList == (Go.strOfNums [(0 : Int), (0 : Int), (1 : Int), (1 : Int)]).toList then
  bif decide ((0 : Int) ≤ (1 : Int) ∧ (1 : Int) < (↑y2_1.length : Int)) then
  both (both (k0 ((Go.strOfNums (y2_1.getD (Int.toNat (1 : Int)) [])).toList == (Go.strOfNums [(0 : Int), (1 : Int), (1 : Int), (0 : Int)]).toList))
  (both (k0 ((Go.strOfNums (y2_1.getD (Int.toNat (1 : Int)) [])).toList == (Go.strOfNums [(0 : Int), (1 : Int), (1 : Int), (0 : Int)]).toList))
  (k0 ((Go.strOfNums (y2_1.getD (Int.toNat (1 : Int)) [])).toList == (Go.strOfNums [(0 : Int), (1 : Int), (1 : Int), (0 : Int)]).toList))))
  (both (both (k0 ((Go.strOfNums (y2_1.getD (Int.toNat (1 : Int)) [])).toList == (Go.strOfNums [(0 : Int), (1 : Int), (1 : Int), (0 : Int)]).toList))
  (k0 ((Go.strOfNums (y2_1.getD (Int.toNat (1 : Int)) [])).toList == (Go.strOfNums [(0 : Int), (1 : Int), (1 : Int), (0 : Int)]).toList)))
  (k0 ((Go.strOfNums (y2_1.getD (Int.toNat (1 : Int)) [])).toList == (Go.strOfNums [(0 : Int), (1 : Int), (1 : Int), (0 : Int)]).toList)))
  else none
  else
  k0 false)
  (bif (Go.strOfNums (y2_1.getD (Int.toNat (0 : Int)) [])).toList == (Go.strOfNums [(0 : Int), (0 : Int), (1 : Int), (1 : Int)]).toList then
  bif decide ((0 : Int) ≤ (1 : Int) ∧ (1 : Int) < (↑y2_1.length : Int)) then
  both (both (k0 ((Go.strOfNums (y2_1.getD (Int.toNat (1 : Int)) [])).toList == (Go.strOfNums [(0 : Int), (1 : Int), (1 : Int), (0 : Int)]).toList))
  (both (k0 ((Go.strOfNums (y2_1.getD (Int.toNat (1 : Int)) [])).toList == (Go.strOfNums [(0 : Int), (1 : Int), (1 : Int), (0 : Int)]).toList))
  (k0 ((Go.strOfNums (y2_1.getD (Int.toNat (1 : Int)) [])).toList == (Go.strOfNums [(0 : Int), (1 : Int), (1 : Int), (0 : Int)]).toList))))
  (both (both (k0 ((Go.strOfNums (y2_1.getD (Int.toNat (1 : Int)) [])).toList == (Go.strOfNums [(0 : Int), (1 : Int), (1 : Int), (0 : Int)]).toList))
  (k0 ((Go.strOfNums (y2_1.getD (Int.toNat (1 : Int)) [])).toList == (Go.strOfNums [(0 : Int), (1 : Int), (1 : Int), (0 : Int)]).toList)))
  (k0 ((Go.strOfNums (y2_1.getD (Int.toNat (1 : Int)) [])).toList == (Go.strOfNums [(0 : Int), (1 : Int), (1 : Int), (0 : Int)]).toList)))
  else none
  else
  k0 false)))
  (both (both (bif (Go.strOfNums (y2_1.getD (Int.toNat (0 : Int)) [])).toList == (Go.strOfNums [(0 : Int), (0 : Int), (1 : Int), (1 : Int)]).toList then
  bif decide ((0 : Int) ≤ (1 : Int) ∧ (1 : Int) < (↑y2_1.length : Int)) then
  both (both (k0 ((Go.strOfNums (y2_1.getD (Int.toNat (1 : Int)) [])).toList == (Go.strOfNums [(0 : Int), (1 : Int), (1 : Int), (0 : Int)]).toList))
  (both (k0 ((Go.strOfNums (y2_1.getD (Int.toNat (1 : Int)) [])).toList == (Go.strOfNums [(0 : Int), (1 : Int), (1 : Int), (0 : Int)]).toList))
  (k0 ((Go.strOfNums (y2_1.getD (Int.toNat (1 : Int)) [])).toList == (Go.strOfNums [(0 : Int), (1 : Int), (1 : Int), (0 : Int)]).toList))))
  (both (both (k0 ((Go.strOfNums (y2_1.getD (Int.toNat (1 : Int)) [])).toList == (Go.strOfNums [(0 : Int), (1 : Int), (1 : Int), (0 : Int)]).toList))
  (k0 ((Go.strOfNums (y2_1.getD (Int.toNat (1 : Int)) [])).toList == (Go.strOfNums [(0 : Int), (1 : Int), (1 : Int), (0 : Int)]).toList)))
  (k0 ((Go.strOfNums (y2_1.getD (Int.toNat (1 : Int)) [])).toList == (Go.strOfNums [(0 : Int), (1 : Int), (1 : Int), (0 : Int)]).toList)))
  else none
  else
  k0 false)
  (bif (Go.strOfNums (y2_1.getD (Int.toNat (0 : Int)) [])).toList == (Go.strOfNums [(0 : Int), (0 : Int), (1 : Int), (1 : Int)]).toList then
  bif decide ((0 : Int) ≤ (1 : Int) ∧ (1 : Int) < (↑y2_1.length : Int)) then
  both (both (k0 ((Go.strOfNums (y2_1.getD (Int.toNat (1 : Int)) [])).toList == (Go.strOfNums [(0 : Int), (1 : Int), (1 : Int), (0 : Int)]).toList))
  (both (k0 ((Go.strOfNums (y2_1.getD (Int.toNat (1 : Int)) [])).toList == (Go.strOfNums [(0 : Int), (1 : Int), (1 : Int), (0 : Int)]).toList))
  (k0 ((Go.strOfNums (y2_1.getD (Int.toNat (1 : Int)) [])).toList == (Go.strOfNums [(0 : Int), (1 : Int), (1 : Int), (0 : Int)]).toList))))
  (both (both (k0 ((Go.strOfNums (y2_1.getD (Int.toNat (1 : Int)) [])).toList == (Go.strOfNums [(0 : Int), (1 : Int), (1 : Int), (0 : Int)]).toList))
  (k0 ((Go.strOfNums (y2_1.getD (Int.toNat (1 : Int)) [])).toList == (Go.strOfNums [(0 : Int), (1 : Int), (1 : Int), (0 : Int)]).toList)))
  (k0 ((Go.strOfNums (y2_1.getD (Int.toNat (1 : Int)) [])).toList == (Go.strOfNums [(0 : Int), (1 : Int), (1 : Int), (0 : Int)]).toList)))
  else none
  else
  k0 false))
  (bif (Go.strOfNums (y2_1.getD (Int.toNat (0 : Int)) [])).toList == (Go.strOfNums [(0 : Int), (0 : Int), (1 : Int), (1 : Int)]).toList then
  bif decide ((0 : Int) ≤ (1 : Int) ∧ (1 : Int) < (↑y2_1.length : Int)) then
  both (both (k0 ((Go.strOfNums (y2_1.getD (Int.toNat (1 : Int)) [])).toList == (Go.strOfNums [(0 : Int), (1 : Int), (1 : Int), (0 : Int)]).toList))
  (both (k0 ((Go.strOfNums (y2_1.getD (Int.toNat (1 : Int)) [])).toList == (Go.strOfNums [(0 : Int), (1 : Int), (1 : Int), (0 : Int)]).toList))
  (k0 ((Go.strOfNums (y2_1.getD (Int.toNat (1 : Int)) [])).toList == (Go.strOfNums [(0 : Int), (1 : Int), (1 : Int), (0 : Int)]).toList))))
  (both (both (k0 ((Go.strOfNums (y2_1.getD (Int.toNat (1 : Int)) [])).toList == (Go.strOfNums [(0 : Int), (1 : Int), (1 : Int), (0 : Int)]).toList))
  (k0 ((Go.strOfNums (y2_1.getD (Int.toNat (1 : Int)) [])).toList == (Go.strOfNums [(0 : Int), (1 : Int), (1 : Int), (0 : Int)]).toList)))
  (k0 ((Go.strOfNums (y2_1.getD (Int.toNat (1 : Int)) [])).toList == (Go.strOfNums [(0 : Int), (1 : Int), (1 : Int), (0 : Int)]).toList)))
  else none
  else
  k0 false))
  else none
  else
  k0 false
  else
  k0 false))
noncomputable def F_law11_Sane (fuel : Nat)  (k0 : (Bool) → Option Ans) : Option Ans := Fg_law11_Sane fuel (F_tone_Planes fuel) k0
abbrev YF21 : Type := ((Bool) → Option Ans) → Option Ans
theorem F21_eqg (fuel : Nat) (f70 : YF70)  (k : Ev.Cont) : evalFn tab (Gg21 f70) (J21 fuel) kp21 fuel Try.f21 [] [] k = Fg_law11_Sane fuel f70 (fun r => match r with | r0 => k (.c (.bool r0), [])) := by
  kernel_rfl
theorem F21_eq (fuel : Nat)  (k : Ev.Cont) : evalFn tab (G21 fuel) (J21 fuel) kp21 fuel Try.f21 [] [] k = F_law11_Sane fuel  (fun r => match r with | r0 => k (.c (.bool r0), [])) :=
  F21_eqg fuel (F_tone_Planes fuel)  k
theorem hG21 (fuel : Nat) : GOK Try.prog (G21 fuel) :=
  gok_cons ⟨ok70 fuel, enters_of Try.func70 (by kernel_rfl) rfl⟩ <|
  gok_nil
theorem fok21 (fuel : Nat) : FnOK Try.prog 21 (evalFn tab (G21 fuel) (J21 fuel) kp21 fuel Try.f21) :=
  fn_ok tab_ok (hG21 fuel) mixed Try.func21 (c := (Try.f21.body).getD .skip) rfl (fun q hq => by
    rw [(by kernel_rfl : obl (J21 fuel) ((Try.f21.body).getD .skip) = [])] at hq
    cases hq)
noncomputable def mt21 : List Ev.SV → List Ev.Ob → Bool := fun args objs => match args, objs with
 | [], [] => true
 | _, _ => false
noncomputable def spg21 (F : YF21) : Ev.Spec := fun args objs k => match args, objs with
 | [], [] => bif true then F  (fun r => match r with | r0 => k (.c (.bool r0), [])) else none
 | _, _ => none
noncomputable def spec21 (fuel : Nat) : Ev.Spec := spg21 (F_law11_Sane fuel)
theorem ok21 (fuel : Nat) : FnOK Try.prog 21 (spec21 fuel) := by
  intro args objs kk r h
  unfold spec21 spg21 at h
  split at h
  · skip
    obtain ⟨hb, h⟩ := cond_some' h
    simp only [Bool.and_eq_true, Nat.beq_eq, decide_eq_true_eq] at hb
    clear hb
    exact fok21 fuel _ _ kk r ((F21_eq fuel kk).trans h)
  · cases h
end Go.Proofs.Ytihfgpfofmjbaaa

set_option linter.unusedVariables false
set_option linter.unusedSimpArgs false
set_option maxRecDepth 100000
set_option maxHeartbeats 2000000
namespace Go.Proofs.Ytihfgpfofmjbaaa
open Go Ev
def kp26 (i : Nat) : Option (List Nat) := Ev.look i []
noncomputable def Gg26 (f : Nat) : Option Ev.Spec := Ev.look f []
noncomputable def G26 (fuel : Nat) : Nat → Option Ev.Spec := Gg26
noncomputable def J26 (fuel : Nat) (i : Nat) : Option Ev.Blk := Ev.look i []
noncomputable def F_ref05_Same (fuel : Nat) (x0 x1 : Int) (x2 : (List Int)) (x3 x4 : Int) (x5 : (List Int)) (k0 : (Bool) → Option Ans) : Option Ans :=
  bif x0 == x3 then
  bif x1 == x4 then
  k0 ((Go.strOfNums x2).toList == (Go.strOfNums x5).toList)
  else
  k0 false
  else
  k0 false
abbrev YF26 : Type := (Int) → (Int) → ((List Int)) → (Int) → (Int) → ((List Int)) → ((Bool) → Option Ans) → Option Ans
theorem F26_eq (fuel : Nat) (x0 x1 : Int) (x2 : (List Int)) (x3 x4 : Int) (x5 : (List Int)) (k : Ev.Cont) : evalFn tab (G26 fuel) (J26 fuel) kp26 fuel Try.f26 [.agg [.int .i64 x0, .int .i64 x1, .sl (.int .u8) x2], .agg [.int .i64 x3, .int .i64 x4, .sl (.int .u8) x5]] [] k = F_ref05_Same fuel x0 x1 x2 x3 x4 x5 (fun r => match r with | r0 => k (.c (.bool r0), [])) := by
  kernel_rfl
theorem hG26 (fuel : Nat) : GOK Try.prog (G26 fuel) :=
  gok_nil
theorem fok26 (fuel : Nat) : FnOK Try.prog 26 (evalFn tab (G26 fuel) (J26 fuel) kp26 fuel Try.f26) :=
  fn_ok tab_ok (hG26 fuel) mixed Try.func26 (c := (Try.f26.body).getD .skip) rfl (fun q hq => by
    rw [(by kernel_rfl : obl (J26 fuel) ((Try.f26.body).getD .skip) = [])] at hq
    cases hq)
noncomputable def mt26 : List Ev.SV → List Ev.Ob → Bool := fun args objs => match args, objs with
 | [.agg [.int .i64 _, .int .i64 _, .sl (.int .u8) _], .agg [.int .i64 _, .int .i64 _, .sl (.int .u8) _]], [] => true
 | _, _ => false
noncomputable def spg26 (F : YF26) : Ev.Spec := fun args objs k => match args, objs with
 | [.agg [.int .i64 x0, .int .i64 x1, .sl (.int .u8) x2], .agg [.int .i64 x3, .int .i64 x4, .sl (.int .u8) x5]], [] => bif true then F x0 x1 x2 x3 x4 x5 (fun r => match r with | r0 => k (.c (.bool r0), [])) else none
 | _, _ => none
noncomputable def spec26 (fuel : Nat) : Ev.Spec := spg26 (F_ref05_Same fuel)
theorem ok26 (fuel : Nat) : FnOK Try.prog 26 (spec26 fuel) := by
  intro args objs kk r h
  unfold spec26 spg26 at h
  split at h
  · skip
    obtain ⟨hb, h⟩ := cond_some' h
    simp only [Bool.and_eq_true, Nat.beq_eq, decide_eq_true_eq] at hb
    clear hb
    exact fok26 fuel _ _ kk r ((F26_eq fuel _ _ _ _ _ _ kk).trans h)
  · cases h
end Go.Proofs.Ytihfgpfofmjbaaa

set_option linter.unusedVariables false
set_option linter.unusedSimpArgs false
set_option maxRecDepth 100000
set_option maxHeartbeats 2000000
namespace Go.Proofs.Ytihfgpfofmjbaaa
open Go Ev
def kp39 (i : Nat) : Option (List Nat) := Ev.look i [(4, [0, 1, 5]), (100000, []), (200006, [0, 1]), (400000, [4])]
noncomputable def Gg39 (f26 : YF26) (f : Nat) : Option Ev.Spec := Ev.look f [(26, spg26 f26)]
noncomputable def G39 (fuel : Nat) : Nat → Option Ev.Spec := Gg39 (F_ref05_Same fuel)
noncomputable def Sg_ref09_SameBitmaps_0 (fuel : Nat) (f26 : YF26) (x0 : (List (Int × (Int × (List Int))))) (x1 : (List (Int × (Int × (List Int))))) (x2 : Int) (c : ((List (Int × (Int × (List Int)))) × (List (Int × (Int × (List Int)))) × Int) → Option Ans) (B : (Bool → Option Ans) × (Unit → Option Ans)) : Option Ans := match B with
 | (ret, b) =>
  bif decide (x2 < (↑x0.length : Int)) then
  bif decide ((0 : Int) ≤ x2 ∧ x2 < (↑x0.length : Int)) then
  bif decide ((0 : Int) ≤ x2 ∧ x2 < (↑x1.length : Int)) then
  (f26 ((x0.getD x2.toNat ((0 : Int), (0 : Int), [])).fst) ((x0.getD x2.toNat ((0 : Int), (0 : Int), [])).snd.fst) ((x0.getD x2.toNat ((0 : Int), (0 : Int), [])).snd.snd) ((x1.getD x2.toNat ((0 : Int), (0 : Int), [])).fst) ((x1.getD x2.toNat ((0 : Int), (0 : Int), [])).snd.fst) ((x1.getD x2.toNat ((0 : Int), (0 : Int), [])).snd.snd)
  (fun y5 =>
  bif !y5 then
  ret false
  else
  c (x0, x1, IntKind.i64.wrap (x2 + (1 : Int)))))
  else none
  else none
  else
  b ()
noncomputable def S_ref09_SameBitmaps_0 (fuel : Nat) (v : (List (Int × (Int × (List Int)))) × (List (Int × (Int × (List Int)))) × Int) (c : ((List (Int × (Int × (List Int)))) × (List (Int × (Int × (List Int)))) × Int) → Option Ans) (B : (Bool → Option Ans) × (Unit → Option Ans)) : Option Ans := match v with
 | (x0, x1, x2) => Sg_ref09_SameBitmaps_0 fuel (F_ref05_Same fuel) x0 x1 x2 c B
noncomputable def L_ref09_SameBitmaps_0 (fuel : Nat) (v : (List (Int × (Int × (List Int)))) × (List (Int × (Int × (List Int)))) × Int) (ret : (Bool → Option Ans)) (b : (Unit → Option Ans)) : Option Ans := iter (S_ref09_SameBitmaps_0 fuel) fuel v (ret, b)
noncomputable def J39_0 (fuel : Nat) (i : Nat) : Option Ev.Blk := Ev.look i []
noncomputable def T39_0 (v : (List (Int × (Int × (List Int)))) × (List (Int × (Int × (List Int)))) × Int) : Ev.St := match v with | (x0, x1, x2) => ⟨[(0, .c (.sl (.pair (.int .i64) (.pair (.int .i64) (.sl (.int .u8)))) x0)), (1, .c (.sl (.pair (.int .i64) (.pair (.int .i64) (.sl (.int .u8)))) x1)), (5, .c (.int .i64 x2))], [], 0, 0⟩
noncomputable def E39_0 (K : Ev.Ex → Ev.St → Option Ans) : (Bool → Option Ans) × (Unit → Option Ans) := ((fun v => match v with | x0 => K .ret ⟨[(4, .c (.bool x0))], [], 0, 0⟩), (fun v => match v with | () => K .normal ⟨[], [], 0, 0⟩))
theorem S39_0_okg (fuel : Nat) (f26 : YF26) (R : Ev.St → Option Ans) (K : Ev.Ex → Ev.St → Option Ans) (x0 : (List (Int × (Int × (List Int))))) (x1 : (List (Int × (Int × (List Int))))) (x2 : Int) : evalCode tab (Gg39 f26) (J39_0 fuel) kp39 fuel (bodyOf 0 Try.f39) (T39_0 (x0, x1, x2)) (lc kp39 4 0 R K) = Sg_ref09_SameBitmaps_0 fuel f26 x0 x1 x2 (fun v => R (T39_0 v)) (E39_0 K) := by
  kernel_rfl
theorem S39_0_ok (fuel : Nat) (R : Ev.St → Option Ans) (K : Ev.Ex → Ev.St → Option Ans) (x0 : (List (Int × (Int × (List Int))))) (x1 : (List (Int × (Int × (List Int))))) (x2 : Int) : evalCode tab (G39 fuel) (J39_0 fuel) kp39 fuel (bodyOf 0 Try.f39) (T39_0 (x0, x1, x2)) (lc kp39 4 0 R K) = S_ref09_SameBitmaps_0 fuel (x0, x1, x2) (fun v => R (T39_0 v)) (E39_0 K) :=
  S39_0_okg fuel (F_ref05_Same fuel) R K x0 x1 x2
noncomputable def B39_0 (fuel : Nat) : Ev.Blk := fun st K => match canonO (kp39 4) st with
 | some s => (match s with
 | ⟨[(q0, .c (.sl (.pair (.int .i64) (.pair (.int .i64) (.sl (.int .u8)))) x0)), (q1, .c (.sl (.pair (.int .i64) (.pair (.int .i64) (.sl (.int .u8)))) x1)), (q2, .c (.int .i64 x2))], [], q3, q4⟩ => bif Nat.beq q0 0 && Nat.beq q1 1 && Nat.beq q2 5 && Nat.beq q3 0 && Nat.beq q4 0 then iter (S_ref09_SameBitmaps_0 fuel) fuel (x0, x1, x2) (E39_0 K) else none
 | _ => none)
 | none => none
theorem B39_0_ok (fuel : Nat) (st : Ev.St) (K : Ev.Ex → Ev.St → Option Ans) (r : Ans) (h : B39_0 fuel st K = some r) : evalCode tab (G39 fuel) (J39_0 fuel) kp39 fuel (.block 0 (.loop (bodyOf 0 Try.f39))) st K = some r := by
  unfold B39_0 at h
  split at h
  · rename_i s hs
    split at h
    · skip
      obtain ⟨hb, h⟩ := cond_some' h
      simp only [Bool.and_eq_true, Nat.beq_eq, decide_eq_true_eq] at hb
      obtain ⟨⟨⟨⟨rfl, rfl⟩, rfl⟩, rfl⟩, rfl⟩ := hb
      exact blk_loop (S := T39_0) (ks := E39_0) (step := S_ref09_SameBitmaps_0 fuel) (v := (_, _, _)) (by kernel_rfl) (by kernel_rfl) (fun R K v => by obtain ⟨x0, x1, x2⟩ := v; exact S39_0_ok fuel R K x0 x1 x2) hs h
    · cases h
  · cases h
noncomputable def J39 (fuel : Nat) (i : Nat) : Option Ev.Blk := Ev.look i [(100000, B39_0 fuel)]
noncomputable def Fg_ref09_SameBitmaps (fuel : Nat) (f26 : YF26) (x0 : (List (Int × Int × (List Int)))) (x1 : (List (Int × Int × (List Int)))) (k0 : (Bool) → Option Ans) : Option Ans :=
  bif (↑x0.length : Int) != (↑x1.length : Int) then
  k0 false
  else
  (L_ref09_SameBitmaps_0 fuel (x0, x1, (0 : Int))
  (fun ret0_0 =>
  k0 ret0_0)
  (fun () =>
  k0 true))
noncomputable def F_ref09_SameBitmaps (fuel : Nat) (x0 : (List (Int × Int × (List Int)))) (x1 : (List (Int × Int × (List Int)))) (k0 : (Bool) → Option Ans) : Option Ans := Fg_ref09_SameBitmaps fuel (F_ref05_Same fuel) x0 x1 k0
abbrev YF39 : Type := ((List (Int × Int × (List Int)))) → ((List (Int × Int × (List Int)))) → ((Bool) → Option Ans) → Option Ans
theorem F39_eqg (fuel : Nat) (f26 : YF26) (x0 : (List (Int × Int × (List Int)))) (x1 : (List (Int × Int × (List Int)))) (k : Ev.Cont) : evalFn tab (Gg39 f26) (J39 fuel) kp39 fuel Try.f39 [.c (.sl (.pair (.int .i64) (.pair (.int .i64) (.sl (.int .u8)))) x0), .c (.sl (.pair (.int .i64) (.pair (.int .i64) (.sl (.int .u8)))) x1)] [] k = Fg_ref09_SameBitmaps fuel f26 x0 x1 (fun r => match r with | r0 => k (.c (.bool r0), [])) := by
  kernel_rfl
theorem F39_eq (fuel : Nat) (x0 : (List (Int × Int × (List Int)))) (x1 : (List (Int × Int × (List Int)))) (k : Ev.Cont) : evalFn tab (G39 fuel) (J39 fuel) kp39 fuel Try.f39 [.c (.sl (.pair (.int .i64) (.pair (.int .i64) (.sl (.int .u8)))) x0), .c (.sl (.pair (.int .i64) (.pair (.int .i64) (.sl (.int .u8)))) x1)] [] k = F_ref09_SameBitmaps fuel x0 x1 (fun r => match r with | r0 => k (.c (.bool r0), [])) :=
  F39_eqg fuel (F_ref05_Same fuel) x0 x1 k
theorem hG39 (fuel : Nat) : GOK Try.prog (G39 fuel) :=
  gok_cons ⟨ok26 fuel, enters_of Try.func26 (by kernel_rfl) rfl⟩ <|
  gok_nil
theorem B39_0_blk (fuel : Nat) : BlkOK Try.prog Try.f39.ntmps (.block 0 (.loop (bodyOf 0 Try.f39))) (B39_0 fuel) :=
  blk_of (blk_of_code tab_ok (hG39 fuel) mixed (J := J39_0 fuel) (kp := kp39) (fuel := fuel) (by kernel_rfl) (fun q hq => by
    rw [(by kernel_rfl : obl (J39_0 fuel) (.block 0 (.loop (bodyOf 0 Try.f39))) = [])] at hq
    cases hq)) (B39_0_ok fuel)
theorem fok39 (fuel : Nat) : FnOK Try.prog 39 (evalFn tab (G39 fuel) (J39 fuel) kp39 fuel Try.f39) :=
  fn_ok tab_ok (hG39 fuel) mixed Try.func39 (c := (Try.f39.body).getD .skip) rfl (fun q hq => by
    rw [(by kernel_rfl : obl (J39 fuel) ((Try.f39.body).getD .skip) = [(.block 0 (.loop (bodyOf 0 Try.f39)), B39_0 fuel)])] at hq
    simp only [List.mem_cons, List.not_mem_nil, or_false] at hq
    subst hq
    · exact B39_0_blk fuel)
noncomputable def mt39 : List Ev.SV → List Ev.Ob → Bool := fun args objs => match args, objs with
 | [.c (.sl (.pair (.int .i64) (.pair (.int .i64) (.sl (.int .u8)))) _), .c (.sl (.pair (.int .i64) (.pair (.int .i64) (.sl (.int .u8)))) _)], [] => true
 | _, _ => false
noncomputable def spg39 (F : YF39) : Ev.Spec := fun args objs k => match args, objs with
 | [.c (.sl (.pair (.int .i64) (.pair (.int .i64) (.sl (.int .u8)))) x0), .c (.sl (.pair (.int .i64) (.pair (.int .i64) (.sl (.int .u8)))) x1)], [] => bif true then F x0 x1 (fun r => match r with | r0 => k (.c (.bool r0), [])) else none
 | _, _ => none
noncomputable def spec39 (fuel : Nat) : Ev.Spec := spg39 (F_ref09_SameBitmaps fuel)
theorem ok39 (fuel : Nat) : FnOK Try.prog 39 (spec39 fuel) := by
  intro args objs kk r h
  unfold spec39 spg39 at h
  split at h
  · skip
    obtain ⟨hb, h⟩ := cond_some' h
    simp only [Bool.and_eq_true, Nat.beq_eq, decide_eq_true_eq] at hb
    clear hb
    exact fok39 fuel _ _ kk r ((F39_eq fuel _ _ kk).trans h)
  · cases h
end Go.Proofs.Ytihfgpfofmjbaaa

set_option linter.unusedVariables false
set_option linter.unusedSimpArgs false
set_option maxRecDepth 100000
set_option maxHeartbeats 2000000
namespace Go.Proofs.Ytihfgpfofmjbaaa
open Go Ev
def kp156 (i : Nat) : Option (List Nat) := Ev.look i []
noncomputable def Gg156 (f : Nat) : Option Ev.Spec := Ev.look f []
noncomputable def G156 (fuel : Nat) : Nat → Option Ev.Spec := Gg156
noncomputable def J156 (fuel : Nat) (i : Nat) : Option Ev.Blk := Ev.look i []
noncomputable def F_ref05_inside (fuel : Nat) (x0 x1 : Int) (x2 : (List Int)) (x3 x4 : Int) (k0 : (Bool) → Option Ans) : Option Ans :=
  bif decide (x3 ≥ (0 : Int)) then
  bif decide (x4 ≥ (0 : Int)) then
  bif decide (x3 < x0) then
  k0 (decide (x4 < x1))
  else
  k0 false
  else
  k0 false
  else
  k0 false
abbrev YF156 : Type := (Int) → (Int) → ((List Int)) → (Int) → (Int) → ((Bool) → Option Ans) → Option Ans
theorem F156_eq (fuel : Nat) (x0 x1 : Int) (x2 : (List Int)) (x3 x4 : Int) (k : Ev.Cont) : evalFn tab (G156 fuel) (J156 fuel) kp156 fuel Try.f156 [.agg [.int .i64 x0, .int .i64 x1, .sl (.int .u8) x2], .c (.int .i64 x3), .c (.int .i64 x4)] [] k = F_ref05_inside fuel x0 x1 x2 x3 x4 (fun r => match r with | r0 => k (.c (.bool r0), [])) := by
  kernel_rfl
theorem hG156 (fuel : Nat) : GOK Try.prog (G156 fuel) :=
  gok_nil
theorem fok156 (fuel : Nat) : FnOK Try.prog 156 (evalFn tab (G156 fuel) (J156 fuel) kp156 fuel Try.f156) :=
  fn_ok tab_ok (hG156 fuel) mixed Try.func156 (c := (Try.f156.body).getD .skip) rfl (fun q hq => by
    rw [(by kernel_rfl : obl (J156 fuel) ((Try.f156.body).getD .skip) = [])] at hq
    cases hq)
noncomputable def mt156 : List Ev.SV → List Ev.Ob → Bool := fun args objs => match args, objs with
 | [.agg [.int .i64 _, .int .i64 _, .sl (.int .u8) _], .c (.int .i64 _), .c (.int .i64 _)], [] => true
 | _, _ => false
noncomputable def spg156 (F : YF156) : Ev.Spec := fun args objs k => match args, objs with
 | [.agg [.int .i64 x0, .int .i64 x1, .sl (.int .u8) x2], .c (.int .i64 x3), .c (.int .i64 x4)], [] => bif true then F x0 x1 x2 x3 x4 (fun r => match r with | r0 => k (.c (.bool r0), [])) else none
 | _, _ => none
noncomputable def spec156 (fuel : Nat) : Ev.Spec := spg156 (F_ref05_inside fuel)
theorem ok156 (fuel : Nat) : FnOK Try.prog 156 (spec156 fuel) := by
  intro args objs kk r h
  unfold spec156 spg156 at h
  split at h
  · skip
    obtain ⟨hb, h⟩ := cond_some' h
    simp only [Bool.and_eq_true, Nat.beq_eq, decide_eq_true_eq] at hb
    clear hb
    exact fok156 fuel _ _ kk r ((F156_eq fuel _ _ _ _ _ kk).trans h)
  · cases h
end Go.Proofs.Ytihfgpfofmjbaaa

set_option linter.unusedVariables false
set_option linter.unusedSimpArgs false
set_option maxRecDepth 100000
set_option maxHeartbeats 2000000
namespace Go.Proofs.Ytihfgpfofmjbaaa
open Go Ev
def kp125 (i : Nat) : Option (List Nat) := Ev.look i []
noncomputable def Gg125 (f156 : YF156) (f : Nat) : Option Ev.Spec := Ev.look f [(156, spg156 f156)]
noncomputable def G125 (fuel : Nat) : Nat → Option Ev.Spec := Gg125 (F_ref05_inside fuel)
noncomputable def J125 (fuel : Nat) (i : Nat) : Option Ev.Blk := Ev.look i []
noncomputable def Fg_ref05_At (fuel : Nat) (f156 : YF156) (x0 x1 : Int) (x2 : (List Int)) (x3 x4 : Int) (k0 : (Int) → Option Ans) : Option Ans :=
  (f156 (x0) (x1) (x2) (x3) (x4)
  (fun y2 =>
  bif !y2 then
  k0 ((0 : Int))
  else
  bif decide ((0 : Int) ≤ IntKind.i64.wrap (IntKind.i64.wrap (x4 * x0) + x3) ∧ IntKind.i64.wrap (IntKind.i64.wrap (x4 * x0) + x3) < (↑x2.length : Int)) then
  k0 (IntKind.i64.wrap (x2.getD (IntKind.i64.wrap (IntKind.i64.wrap (x4 * x0) + x3)).toNat (0 : Int)))
  else none))
noncomputable def F_ref05_At (fuel : Nat) (x0 x1 : Int) (x2 : (List Int)) (x3 x4 : Int) (k0 : (Int) → Option Ans) : Option Ans := Fg_ref05_At fuel (F_ref05_inside fuel) x0 x1 x2 x3 x4 k0
abbrev YF125 : Type := (Int) → (Int) → ((List Int)) → (Int) → (Int) → ((Int) → Option Ans) → Option Ans
theorem F125_eqg (fuel : Nat) (f156 : YF156) (x0 x1 : Int) (x2 : (List Int)) (x3 x4 : Int) (k : Ev.Cont) : evalFn tab (Gg125 f156) (J125 fuel) kp125 fuel Try.f125 [.agg [.int .i64 x0, .int .i64 x1, .sl (.int .u8) x2], .c (.int .i64 x3), .c (.int .i64 x4)] [] k = Fg_ref05_At fuel f156 x0 x1 x2 x3 x4 (fun r => match r with | r0 => k (.c (.int .i64 r0), [])) := by
  kernel_rfl
theorem F125_eq (fuel : Nat) (x0 x1 : Int) (x2 : (List Int)) (x3 x4 : Int) (k : Ev.Cont) : evalFn tab (G125 fuel) (J125 fuel) kp125 fuel Try.f125 [.agg [.int .i64 x0, .int .i64 x1, .sl (.int .u8) x2], .c (.int .i64 x3), .c (.int .i64 x4)] [] k = F_ref05_At fuel x0 x1 x2 x3 x4 (fun r => match r with | r0 => k (.c (.int .i64 r0), [])) :=
  F125_eqg fuel (F_ref05_inside fuel) x0 x1 x2 x3 x4 k
theorem hG125 (fuel : Nat) : GOK Try.prog (G125 fuel) :=
  gok_cons ⟨ok156 fuel, enters_of Try.func156 (by kernel_rfl) rfl⟩ <|
  gok_nil
theorem fok125 (fuel : Nat) : FnOK Try.prog 125 (evalFn tab (G125 fuel) (J125 fuel) kp125 fuel Try.f125) :=
  fn_ok tab_ok (hG125 fuel) mixed Try.func125 (c := (Try.f125.body).getD .skip) rfl (fun q hq => by
    rw [(by kernel_rfl : obl (J125 fuel) ((Try.f125.body).getD .skip) = [])] at hq
    cases hq)
noncomputable def mt125 : List Ev.SV → List Ev.Ob → Bool := fun args objs => match args, objs with
 | [.agg [.int .i64 _, .int .i64 _, .sl (.int .u8) _], .c (.int .i64 _), .c (.int .i64 _)], [] => true
 | _, _ => false
noncomputable def spg125 (F : YF125) : Ev.Spec := fun args objs k => match args, objs with
 | [.agg [.int .i64 x0, .int .i64 x1, .sl (.int .u8) x2], .c (.int .i64 x3), .c (.int .i64 x4)], [] => bif true then F x0 x1 x2 x3 x4 (fun r => match r with | r0 => k (.c (.int .i64 r0), [])) else none
 | _, _ => none
noncomputable def spec125 (fuel : Nat) : Ev.Spec := spg125 (F_ref05_At fuel)
theorem ok125 (fuel : Nat) : FnOK Try.prog 125 (spec125 fuel) := by
  intro args objs kk r h
  unfold spec125 spg125 at h
  split at h
  · skip
    obtain ⟨hb, h⟩ := cond_some' h
    simp only [Bool.and_eq_true, Nat.beq_eq, decide_eq_true_eq] at hb
    clear hb
    exact fok125 fuel _ _ kk r ((F125_eq fuel _ _ _ _ _ kk).trans h)
  · cases h
end Go.Proofs.Ytihfgpfofmjbaaa

set_option linter.unusedVariables false
set_option linter.unusedSimpArgs false
set_option maxRecDepth 100000
set_option maxHeartbeats 2000000
namespace Go.Proofs.Ytihfgpfofmjbaaa
open Go Ev
def kp127_a2e (i : Nat) : Option (List Nat) := Ev.look i []
noncomputable def Gg127_a2e (f : Nat) : Option Ev.Spec := Ev.look f []
noncomputable def G127_a2e (fuel : Nat) : Nat → Option Ev.Spec := Gg127_a2e
noncomputable def J127_a2e (fuel : Nat) (i : Nat) : Option Ev.Blk := Ev.look i []
noncomputable def F_ref05_Put_a2e (fuel : Nat) (x0 x1 : Int) (x2 x3 x4 : Int) (x5 : (List Int)) (k0 : ((List Int)) → Option Ans) : Option Ans :=
  bif decide ((0 : Int) ≤ IntKind.i64.wrap (IntKind.i64.wrap (x3 * x0) + x2) ∧ IntKind.i64.wrap (IntKind.i64.wrap (x3 * x0) + x2) < (↑x5.length : Int)) then
  k0 (x5.set (IntKind.i64.wrap (IntKind.i64.wrap (x3 * x0) + x2)).toNat (IntKind.u8.wrap x4))
  else none
abbrev YF127_a2e : Type := (Int) → (Int) → (Int) → (Int) → (Int) → ((List Int)) → (((List Int)) → Option Ans) → Option Ans
theorem F127_a2e_eq (fuel : Nat) (x0 x1 : Int) (x2 x3 x4 : Int) (x5 : (List Int)) (k : Ev.Cont) : evalFn tab (G127_a2e fuel) (J127_a2e fuel) kp127_a2e fuel Try.f127 [.agg [.int .i64 x0, .int .i64 x1, .own 0], .c (.int .i64 x2), .c (.int .i64 x3), .c (.int .i64 x4)] [.vec 5 (.int .u8) x5 false] k = F_ref05_Put_a2e fuel x0 x1 x2 x3 x4 x5 (fun r => match r with | r0 => k (.tup [], [.vec 5 (.int .u8) r0 false])) := by
  kernel_rfl
theorem hG127_a2e (fuel : Nat) : GOK Try.prog (G127_a2e fuel) :=
  gok_nil
theorem fok127_a2e (fuel : Nat) : FnOK Try.prog 127 (evalFn tab (G127_a2e fuel) (J127_a2e fuel) kp127_a2e fuel Try.f127) :=
  fn_ok tab_ok (hG127_a2e fuel) mixed Try.func127 (c := (Try.f127.body).getD .skip) rfl (fun q hq => by
    rw [(by kernel_rfl : obl (J127_a2e fuel) ((Try.f127.body).getD .skip) = [])] at hq
    cases hq)
noncomputable def mt127_a2e : List Ev.SV → List Ev.Ob → Bool := fun args objs => match args, objs with
 | [.agg [.int .i64 _, .int .i64 _, .own q0], .c (.int .i64 _), .c (.int .i64 _), .c (.int .i64 _)], [.vec q1 (.int .u8) _ false] => Nat.beq q0 0 && Nat.beq q1 5
 | _, _ => false
noncomputable def spg127_a2e (F : YF127_a2e) : Ev.Spec := fun args objs k => match args, objs with
 | [.agg [.int .i64 x0, .int .i64 x1, .own q0], .c (.int .i64 x2), .c (.int .i64 x3), .c (.int .i64 x4)], [.vec q1 (.int .u8) x5 false] => bif Nat.beq q0 0 && Nat.beq q1 5 then F x0 x1 x2 x3 x4 x5 (fun r => match r with | r0 => k (.tup [], [.vec 5 (.int .u8) r0 false])) else none
 | _, _ => none
noncomputable def spec127_a2e (fuel : Nat) : Ev.Spec := spg127_a2e (F_ref05_Put_a2e fuel)
theorem ok127_a2e (fuel : Nat) : FnOK Try.prog 127 (spec127_a2e fuel) := by
  intro args objs kk r h
  unfold spec127_a2e spg127_a2e at h
  split at h
  · skip
    obtain ⟨hb, h⟩ := cond_some' h
    simp only [Bool.and_eq_true, Nat.beq_eq, decide_eq_true_eq] at hb
    obtain ⟨rfl, rfl⟩ := hb
    exact fok127_a2e fuel _ _ kk r ((F127_a2e_eq fuel _ _ _ _ _ _ kk).trans h)
  · cases h
end Go.Proofs.Ytihfgpfofmjbaaa

set_option linter.unusedVariables false
set_option linter.unusedSimpArgs false
set_option maxRecDepth 100000
set_option maxHeartbeats 2000000
namespace Go.Proofs.Ytihfgpfofmjbaaa
open Go Ev
def kp154 (i : Nat) : Option (List Nat) := Ev.look i [(3, [0, 1, 2, 6, 7, 8]), (100000, [6, 7]), (400000, [6])]
noncomputable def Gg154 (f : Nat) : Option Ev.Spec := Ev.look f []
noncomputable def G154 (fuel : Nat) : Nat → Option Ev.Spec := Gg154
noncomputable def S_ref05_make2_0 (fuel : Nat) (v : Int × Int × Int × Int × Int × Int × Int × Int × (List Int) × (List Int)) (c : (Int × Int × Int × Int × Int × Int × Int × Int × (List Int) × (List Int)) → Option Ans) (B : (Int × Int × Int × Int × (List Int) × (List Int) → Option Ans)) : Option Ans := match v, B with
 | (x0, x1, x2, x3, x4, x5, x6, x7, x8, x9), b =>
  bif decide (x3 < IntKind.i64.wrap (x0 * x1)) then
  bif decide ((x9.length + [IntKind.u8.wrap x2].length) * (1 : Nat) ≤ (140737488355328 : Nat) ∧ x9.length + [IntKind.u8.wrap x2].length ≤ (140737488355328 : Nat)) then
  c (x0, x1, x2, IntKind.i64.wrap (x3 + (1 : Int)), x4, x5, x6, x7, x8, x9 ++ [IntKind.u8.wrap x2])
  else none
  else
  b (x4, x5, x6, x7, x8, x9)
noncomputable def L_ref05_make2_0 (fuel : Nat) (v : Int × Int × Int × Int × Int × Int × Int × Int × (List Int) × (List Int)) (b : (Int × Int × Int × Int × (List Int) × (List Int) → Option Ans)) : Option Ans := iter (S_ref05_make2_0 fuel) fuel v b
noncomputable def J154_0 (fuel : Nat) (i : Nat) : Option Ev.Blk := Ev.look i []
noncomputable def T154_0 (v : Int × Int × Int × Int × Int × Int × Int × Int × (List Int) × (List Int)) : Ev.St := match v with | (x0, x1, x2, x3, x4, x5, x6, x7, x8, x9) => ⟨[(0, .c (.int .i64 x0)), (1, .c (.int .i64 x1)), (2, .c (.int .i64 x2)), (6, .c (.ptr 0 0)), (7, .c (.ptr 1 0)), (8, .c (.int .i64 x3))], [(0, .cells 39 [.int .i64 x4, .int .i64 x5, .own 2]), (1, .cells 39 [.int .i64 x6, .int .i64 x7, .own 3]), (2, .vec 5 (.int .u8) x8 true), (3, .vec 5 (.int .u8) x9 true)], 4, 0⟩
noncomputable def E154_0 (K : Ev.Ex → Ev.St → Option Ans) : (Int × Int × Int × Int × (List Int) × (List Int) → Option Ans) := (fun v => match v with | (x0, x1, x2, x3, x4, x5) => K .normal ⟨[(6, .c (.ptr 0 0)), (7, .c (.ptr 1 0))], [(0, .cells 39 [.int .i64 x0, .int .i64 x1, .own 2]), (1, .cells 39 [.int .i64 x2, .int .i64 x3, .own 3]), (2, .vec 5 (.int .u8) x4 true), (3, .vec 5 (.int .u8) x5 true)], 4, 0⟩)
theorem S154_0_ok (fuel : Nat) (R : Ev.St → Option Ans) (K : Ev.Ex → Ev.St → Option Ans) (x0 x1 : Int) (x2 x3 : Int) (x4 x5 : Int) (x6 x7 : Int) (x8 x9 : (List Int)) : evalCode tab (G154 fuel) (J154_0 fuel) kp154 fuel (bodyOf 0 Try.f154) (T154_0 (x0, x1, x2, x3, x4, x5, x6, x7, x8, x9)) (lc kp154 3 0 R K) = S_ref05_make2_0 fuel (x0, x1, x2, x3, x4, x5, x6, x7, x8, x9) (fun v => R (T154_0 v)) (E154_0 K) := by
  kernel_rfl
noncomputable def B154_0 (fuel : Nat) : Ev.Blk := fun st K => match canonO (kp154 3) st with
 | some s => (match s with
 | ⟨[(q0, .c (.int .i64 x0)), (q1, .c (.int .i64 x1)), (q2, .c (.int .i64 x2)), (q3, .c (.ptr q4 q5)), (q6, .c (.ptr q7 q8)), (q9, .c (.int .i64 x3))], [(q10, .cells q11 [.int .i64 x4, .int .i64 x5, .own q12]), (q13, .cells q14 [.int .i64 x6, .int .i64 x7, .own q15]), (q16, .vec q17 (.int .u8) x8 true), (q18, .vec q19 (.int .u8) x9 true)], q20, q21⟩ => bif Nat.beq q0 0 && Nat.beq q1 1 && Nat.beq q2 2 && Nat.beq q3 6 && Nat.beq q4 0 && Nat.beq q5 0 && Nat.beq q6 7 && Nat.beq q7 1 && Nat.beq q8 0 && Nat.beq q9 8 && Nat.beq q10 0 && Nat.beq q11 39 && Nat.beq q12 2 && Nat.beq q13 1 && Nat.beq q14 39 && Nat.beq q15 3 && Nat.beq q16 2 && Nat.beq q17 5 && Nat.beq q18 3 && Nat.beq q19 5 && Nat.beq q20 4 && Nat.beq q21 0 then iter (S_ref05_make2_0 fuel) fuel (x0, x1, x2, x3, x4, x5, x6, x7, x8, x9) (E154_0 K) else none
 | _ => none)
 | none => none
theorem B154_0_ok (fuel : Nat) (st : Ev.St) (K : Ev.Ex → Ev.St → Option Ans) (r : Ans) (h : B154_0 fuel st K = some r) : evalCode tab (G154 fuel) (J154_0 fuel) kp154 fuel (.block 0 (.loop (bodyOf 0 Try.f154))) st K = some r := by
  unfold B154_0 at h
  split at h
  · rename_i s hs
    split at h
    · skip
      obtain ⟨hb, h⟩ := cond_some' h
      simp only [Bool.and_eq_true, Nat.beq_eq, decide_eq_true_eq] at hb
      obtain ⟨⟨⟨⟨⟨⟨⟨⟨⟨⟨⟨⟨⟨⟨⟨⟨⟨⟨⟨⟨⟨rfl, rfl⟩, rfl⟩, rfl⟩, rfl⟩, rfl⟩, rfl⟩, rfl⟩, rfl⟩, rfl⟩, rfl⟩, rfl⟩, rfl⟩, rfl⟩, rfl⟩, rfl⟩, rfl⟩, rfl⟩, rfl⟩, rfl⟩, rfl⟩, rfl⟩ := hb
      exact blk_loop (S := T154_0) (ks := E154_0) (step := S_ref05_make2_0 fuel) (v := (_, _, _, _, _, _, _, _, _, _)) (by kernel_rfl) (by kernel_rfl) (fun R K v => by obtain ⟨x0, x1, x2, x3, x4, x5, x6, x7, x8, x9⟩ := v; exact S154_0_ok fuel R K x0 x1 x2 x3 x4 x5 x6 x7 x8 x9) hs h
    · cases h
  · cases h
noncomputable def J154 (fuel : Nat) (i : Nat) : Option Ev.Blk := Ev.look i [(100000, B154_0 fuel)]
noncomputable def F_ref05_make2 (fuel : Nat) (x0 x1 x2 : Int) (k0 : (Int × Int × (List Int)) → Option Ans) : Option Ans :=
  (L_ref05_make2_0 fuel (x0, x1, x2, (0 : Int), (0 : Int), (0 : Int), x0, x1, [], [])
  (fun (b0_0, b0_1, b0_2, b0_3, b0_4, b0_5) =>
  k0 (b0_2, b0_3, b0_5)))
abbrev YF154 : Type := (Int) → (Int) → (Int) → ((Int × Int × (List Int)) → Option Ans) → Option Ans
theorem F154_eq (fuel : Nat) (x0 x1 x2 : Int) (k : Ev.Cont) : evalFn tab (G154 fuel) (J154 fuel) kp154 fuel Try.f154 [.c (.int .i64 x0), .c (.int .i64 x1), .c (.int .i64 x2)] [] k = F_ref05_make2 fuel x0 x1 x2 (fun r => match r with | (r0, r1, r2) => k (.agg [.int .i64 r0, .int .i64 r1, .own 0], [.vec 5 (.int .u8) r2 true])) := by
  kernel_rfl
theorem hG154 (fuel : Nat) : GOK Try.prog (G154 fuel) :=
  gok_nil
theorem B154_0_blk (fuel : Nat) : BlkOK Try.prog Try.f154.ntmps (.block 0 (.loop (bodyOf 0 Try.f154))) (B154_0 fuel) :=
  blk_of (blk_of_code tab_ok (hG154 fuel) mixed (J := J154_0 fuel) (kp := kp154) (fuel := fuel) (by kernel_rfl) (fun q hq => by
    rw [(by kernel_rfl : obl (J154_0 fuel) (.block 0 (.loop (bodyOf 0 Try.f154))) = [])] at hq
    cases hq)) (B154_0_ok fuel)
theorem fok154 (fuel : Nat) : FnOK Try.prog 154 (evalFn tab (G154 fuel) (J154 fuel) kp154 fuel Try.f154) :=
  fn_ok tab_ok (hG154 fuel) mixed Try.func154 (c := (Try.f154.body).getD .skip) rfl (fun q hq => by
    rw [(by kernel_rfl : obl (J154 fuel) ((Try.f154.body).getD .skip) = [(.block 0 (.loop (bodyOf 0 Try.f154)), B154_0 fuel)])] at hq
    simp only [List.mem_cons, List.not_mem_nil, or_false] at hq
    subst hq
    · exact B154_0_blk fuel)
noncomputable def mt154 : List Ev.SV → List Ev.Ob → Bool := fun args objs => match args, objs with
 | [.c (.int .i64 _), .c (.int .i64 _), .c (.int .i64 _)], [] => true
 | _, _ => false
noncomputable def spg154 (F : YF154) : Ev.Spec := fun args objs k => match args, objs with
 | [.c (.int .i64 x0), .c (.int .i64 x1), .c (.int .i64 x2)], [] => bif true then F x0 x1 x2 (fun r => match r with | (r0, r1, r2) => k (.agg [.int .i64 r0, .int .i64 r1, .own 0], [.vec 5 (.int .u8) r2 true])) else none
 | _, _ => none
noncomputable def spec154 (fuel : Nat) : Ev.Spec := spg154 (F_ref05_make2 fuel)
theorem ok154 (fuel : Nat) : FnOK Try.prog 154 (spec154 fuel) := by
  intro args objs kk r h
  unfold spec154 spg154 at h
  split at h
  · skip
    obtain ⟨hb, h⟩ := cond_some' h
    simp only [Bool.and_eq_true, Nat.beq_eq, decide_eq_true_eq] at hb
    clear hb
    exact fok154 fuel _ _ kk r ((F154_eq fuel _ _ _ kk).trans h)
  · cases h
end Go.Proofs.Ytihfgpfofmjbaaa

set_option linter.unusedVariables false
set_option linter.unusedSimpArgs false
set_option maxRecDepth 100000
set_option maxHeartbeats 2000000
namespace Go.Proofs.Ytihfgpfofmjbaaa
open Go Ev
def kp111 (i : Nat) : Option (List Nat) := Ev.look i [(3, [1, 2, 3, 4, 5, 10, 11, 12]), (6, [1, 2, 3, 4, 5, 10, 11, 12, 13]), (100000, [10, 11]), (100002, [1, 2, 3, 4, 5, 10, 11, 12]), (200008, [5, 11]), (400000, [10]), (400002, [10])]
noncomputable def Gg111 (f125 : YF125) (f127_a2e : YF127_a2e) (f154 : YF154) (f : Nat) : Option Ev.Spec := Ev.look f [(125, spg125 f125), (1000127, spg127_a2e f127_a2e), (154, spg154 f154)]
noncomputable def G111 (fuel : Nat) : Nat → Option Ev.Spec := Gg111 (F_ref05_At fuel) (F_ref05_Put_a2e fuel) (F_ref05_make2 fuel)
noncomputable def Sg_ref05_Part_2 (fuel : Nat) (f125 : YF125) (f127_a2e : YF127_a2e) (f154 : YF154) (x0 x1 : Int) (x2 x3 : Int) (x4 x5 : Int) (x6 x7 : Int) (x8 : (List Int)) (x9 x10 : Int) (x11 x12 : Int) (x13 x14 : (List Int)) (c : (Int × Int × Int × Int × Int × Int × Int × Int × (List Int) × Int × Int × Int × Int × (List Int) × (List Int)) → Option Ans) (B : (Int × Int × Int × Int × Int × Int × Int × (List Int) × Int × Int × Int × Int × (List Int) × (List Int) → Option Ans)) : Option Ans := match B with
 | b =>
  bif decide (x5 < x2) then
  (f125 (x6) (x7) (x8) (IntKind.i64.wrap (x0 + x5)) (IntKind.i64.wrap (x1 + x4))
  (fun y3 =>
  (f127_a2e (x11) (x12) (x5) (x4) (y3) (x14)
  (fun y7 =>
  c (x0, x1, x2, x3, x4, IntKind.i64.wrap (x5 + (1 : Int)), x6, x7, x8, x9, x10, x11, x12, x13, y7)))))
  else
  b (x0, x1, x2, x3, x4, x6, x7, x8, x9, x10, x11, x12, x13, x14)
noncomputable def S_ref05_Part_2 (fuel : Nat) (v : Int × Int × Int × Int × Int × Int × Int × Int × (List Int) × Int × Int × Int × Int × (List Int) × (List Int)) (c : (Int × Int × Int × Int × Int × Int × Int × Int × (List Int) × Int × Int × Int × Int × (List Int) × (List Int)) → Option Ans) (B : (Int × Int × Int × Int × Int × Int × Int × (List Int) × Int × Int × Int × Int × (List Int) × (List Int) → Option Ans)) : Option Ans := match v with
 | (x0, x1, x2, x3, x4, x5, x6, x7, x8, x9, x10, x11, x12, x13, x14) => Sg_ref05_Part_2 fuel (F_ref05_At fuel) (F_ref05_Put_a2e fuel) (F_ref05_make2 fuel) x0 x1 x2 x3 x4 x5 x6 x7 x8 x9 x10 x11 x12 x13 x14 c B
noncomputable def L_ref05_Part_2 (fuel : Nat) (v : Int × Int × Int × Int × Int × Int × Int × Int × (List Int) × Int × Int × Int × Int × (List Int) × (List Int)) (b : (Int × Int × Int × Int × Int × Int × Int × (List Int) × Int × Int × Int × Int × (List Int) × (List Int) → Option Ans)) : Option Ans := iter (S_ref05_Part_2 fuel) fuel v b
noncomputable def J111_2 (fuel : Nat) (i : Nat) : Option Ev.Blk := Ev.look i []
noncomputable def T111_2 (v : Int × Int × Int × Int × Int × Int × Int × Int × (List Int) × Int × Int × Int × Int × (List Int) × (List Int)) : Ev.St := match v with | (x0, x1, x2, x3, x4, x5, x6, x7, x8, x9, x10, x11, x12, x13, x14) => ⟨[(1, .c (.int .i64 x0)), (2, .c (.int .i64 x1)), (3, .c (.int .i64 x2)), (4, .c (.int .i64 x3)), (5, .c (.ptr 0 0)), (10, .c (.ptr 1 0)), (11, .c (.ptr 2 0)), (12, .c (.int .i64 x4)), (13, .c (.int .i64 x5))], [(0, .cells 39 [.int .i64 x6, .int .i64 x7, .sl (.int .u8) x8]), (1, .cells 39 [.int .i64 x9, .int .i64 x10, .own 3]), (2, .cells 39 [.int .i64 x11, .int .i64 x12, .own 4]), (3, .vec 5 (.int .u8) x13 true), (4, .vec 5 (.int .u8) x14 true)], 5, 0⟩
noncomputable def E111_2 (K : Ev.Ex → Ev.St → Option Ans) : (Int × Int × Int × Int × Int × Int × Int × (List Int) × Int × Int × Int × Int × (List Int) × (List Int) → Option Ans) := (fun v => match v with | (x0, x1, x2, x3, x4, x5, x6, x7, x8, x9, x10, x11, x12, x13) => K .normal ⟨[(1, .c (.int .i64 x0)), (2, .c (.int .i64 x1)), (3, .c (.int .i64 x2)), (4, .c (.int .i64 x3)), (5, .c (.ptr 0 0)), (10, .c (.ptr 1 0)), (11, .c (.ptr 2 0)), (12, .c (.int .i64 x4))], [(0, .cells 39 [.int .i64 x5, .int .i64 x6, .sl (.int .u8) x7]), (1, .cells 39 [.int .i64 x8, .int .i64 x9, .own 3]), (2, .cells 39 [.int .i64 x10, .int .i64 x11, .own 4]), (3, .vec 5 (.int .u8) x12 true), (4, .vec 5 (.int .u8) x13 true)], 5, 0⟩)
theorem S111_2_okg (fuel : Nat) (f125 : YF125) (f127_a2e : YF127_a2e) (f154 : YF154) (R : Ev.St → Option Ans) (K : Ev.Ex → Ev.St → Option Ans) (x0 x1 : Int) (x2 x3 : Int) (x4 x5 : Int) (x6 x7 : Int) (x8 : (List Int)) (x9 x10 : Int) (x11 x12 : Int) (x13 x14 : (List Int)) : evalCode tab (Gg111 f125 f127_a2e f154) (J111_2 fuel) kp111 fuel (bodyOf 2 Try.f111) (T111_2 (x0, x1, x2, x3, x4, x5, x6, x7, x8, x9, x10, x11, x12, x13, x14)) (lc kp111 6 2 R K) = Sg_ref05_Part_2 fuel f125 f127_a2e f154 x0 x1 x2 x3 x4 x5 x6 x7 x8 x9 x10 x11 x12 x13 x14 (fun v => R (T111_2 v)) (E111_2 K) := by
  kernel_rfl
theorem S111_2_ok (fuel : Nat) (R : Ev.St → Option Ans) (K : Ev.Ex → Ev.St → Option Ans) (x0 x1 : Int) (x2 x3 : Int) (x4 x5 : Int) (x6 x7 : Int) (x8 : (List Int)) (x9 x10 : Int) (x11 x12 : Int) (x13 x14 : (List Int)) : evalCode tab (G111 fuel) (J111_2 fuel) kp111 fuel (bodyOf 2 Try.f111) (T111_2 (x0, x1, x2, x3, x4, x5, x6, x7, x8, x9, x10, x11, x12, x13, x14)) (lc kp111 6 2 R K) = S_ref05_Part_2 fuel (x0, x1, x2, x3, x4, x5, x6, x7, x8, x9, x10, x11, x12, x13, x14) (fun v => R (T111_2 v)) (E111_2 K) :=
  S111_2_okg fuel (F_ref05_At fuel) (F_ref05_Put_a2e fuel) (F_ref05_make2 fuel) R K x0 x1 x2 x3 x4 x5 x6 x7 x8 x9 x10 x11 x12 x13 x14
noncomputable def B111_2 (fuel : Nat) : Ev.Blk := fun st K => match canonO (kp111 6) st with
 | some s => (match s with
 | ⟨[(q0, .c (.int .i64 x0)), (q1, .c (.int .i64 x1)), (q2, .c (.int .i64 x2)), (q3, .c (.int .i64 x3)), (q4, .c (.ptr q5 q6)), (q7, .c (.ptr q8 q9)), (q10, .c (.ptr q11 q12)), (q13, .c (.int .i64 x4)), (q14, .c (.int .i64 x5))], [(q15, .cells q16 [.int .i64 x6, .int .i64 x7, .sl (.int .u8) x8]), (q17, .cells q18 [.int .i64 x9, .int .i64 x10, .own q19]), (q20, .cells q21 [.int .i64 x11, .int .i64 x12, .own q22]), (q23, .vec q24 (.int .u8) x13 true), (q25, .vec q26 (.int .u8) x14 true)], q27, q28⟩ => bif Nat.beq q0 1 && Nat.beq q1 2 && Nat.beq q2 3 && Nat.beq q3 4 && Nat.beq q4 5 && Nat.beq q5 0 && Nat.beq q6 0 && Nat.beq q7 10 && Nat.beq q8 1 && Nat.beq q9 0 && Nat.beq q10 11 && Nat.beq q11 2 && Nat.beq q12 0 && Nat.beq q13 12 && Nat.beq q14 13 && Nat.beq q15 0 && Nat.beq q16 39 && Nat.beq q17 1 && Nat.beq q18 39 && Nat.beq q19 3 && Nat.beq q20 2 && Nat.beq q21 39 && Nat.beq q22 4 && Nat.beq q23 3 && Nat.beq q24 5 && Nat.beq q25 4 && Nat.beq q26 5 && Nat.beq q27 5 && Nat.beq q28 0 then iter (S_ref05_Part_2 fuel) fuel (x0, x1, x2, x3, x4, x5, x6, x7, x8, x9, x10, x11, x12, x13, x14) (E111_2 K) else none
 | _ => none)
 | none => none
theorem B111_2_ok (fuel : Nat) (st : Ev.St) (K : Ev.Ex → Ev.St → Option Ans) (r : Ans) (h : B111_2 fuel st K = some r) : evalCode tab (G111 fuel) (J111_2 fuel) kp111 fuel (.block 2 (.loop (bodyOf 2 Try.f111))) st K = some r := by
  unfold B111_2 at h
  split at h
  · rename_i s hs
    split at h
    · skip
      obtain ⟨hb, h⟩ := cond_some' h
      simp only [Bool.and_eq_true, Nat.beq_eq, decide_eq_true_eq] at hb
      obtain ⟨⟨⟨⟨⟨⟨⟨⟨⟨⟨⟨⟨⟨⟨⟨⟨⟨⟨⟨⟨⟨⟨⟨⟨⟨⟨⟨⟨rfl, rfl⟩, rfl⟩, rfl⟩, rfl⟩, rfl⟩, rfl⟩, rfl⟩, rfl⟩, rfl⟩, rfl⟩, rfl⟩, rfl⟩, rfl⟩, rfl⟩, rfl⟩, rfl⟩, rfl⟩, rfl⟩, rfl⟩, rfl⟩, rfl⟩, rfl⟩, rfl⟩, rfl⟩, rfl⟩, rfl⟩, rfl⟩, rfl⟩ := hb
      exact blk_loop (S := T111_2) (ks := E111_2) (step := S_ref05_Part_2 fuel) (v := (_, _, _, _, _, _, _, _, _, _, _, _, _, _, _)) (by kernel_rfl) (by kernel_rfl) (fun R K v => by obtain ⟨x0, x1, x2, x3, x4, x5, x6, x7, x8, x9, x10, x11, x12, x13, x14⟩ := v; exact S111_2_ok fuel R K x0 x1 x2 x3 x4 x5 x6 x7 x8 x9 x10 x11 x12 x13 x14) hs h
    · cases h
  · cases h
noncomputable def Sg_ref05_Part_0 (fuel : Nat) (f125 : YF125) (f127_a2e : YF127_a2e) (f154 : YF154) (x0 x1 : Int) (x2 x3 : Int) (x4 x5 x6 : Int) (x7 : (List Int)) (x8 x9 : Int) (x10 x11 : Int) (x12 x13 : (List Int)) (c : (Int × Int × Int × Int × Int × Int × Int × (List Int) × Int × Int × Int × Int × (List Int) × (List Int)) → Option Ans) (B : (Int × Int × Int × Int × (List Int) × (List Int) → Option Ans)) : Option Ans := match B with
 | b =>
  bif decide (x4 < x3) then
  (L_ref05_Part_2 fuel (x0, x1, x2, x3, x4, (0 : Int), x5, x6, x7, x8, x9, x10, x11, x12, x13)
  (fun (b2_0, b2_1, b2_2, b2_3, b2_4, b2_5, b2_6, b2_7, b2_8, b2_9, b2_10, b2_11, b2_12, b2_13) =>
  c (b2_0, b2_1, b2_2, b2_3, IntKind.i64.wrap (b2_4 + (1 : Int)), b2_5, b2_6, b2_7, b2_8, b2_9, b2_10, b2_11, b2_12, b2_13)))
  else
  b (x8, x9, x10, x11, x12, x13)
noncomputable def S_ref05_Part_0 (fuel : Nat) (v : Int × Int × Int × Int × Int × Int × Int × (List Int) × Int × Int × Int × Int × (List Int) × (List Int)) (c : (Int × Int × Int × Int × Int × Int × Int × (List Int) × Int × Int × Int × Int × (List Int) × (List Int)) → Option Ans) (B : (Int × Int × Int × Int × (List Int) × (List Int) → Option Ans)) : Option Ans := match v with
 | (x0, x1, x2, x3, x4, x5, x6, x7, x8, x9, x10, x11, x12, x13) => Sg_ref05_Part_0 fuel (F_ref05_At fuel) (F_ref05_Put_a2e fuel) (F_ref05_make2 fuel) x0 x1 x2 x3 x4 x5 x6 x7 x8 x9 x10 x11 x12 x13 c B
noncomputable def L_ref05_Part_0 (fuel : Nat) (v : Int × Int × Int × Int × Int × Int × Int × (List Int) × Int × Int × Int × Int × (List Int) × (List Int)) (b : (Int × Int × Int × Int × (List Int) × (List Int) → Option Ans)) : Option Ans := iter (S_ref05_Part_0 fuel) fuel v b
noncomputable def J111_0 (fuel : Nat) (i : Nat) : Option Ev.Blk := Ev.look i [(100002, B111_2 fuel)]
noncomputable def T111_0 (v : Int × Int × Int × Int × Int × Int × Int × (List Int) × Int × Int × Int × Int × (List Int) × (List Int)) : Ev.St := match v with | (x0, x1, x2, x3, x4, x5, x6, x7, x8, x9, x10, x11, x12, x13) => ⟨[(1, .c (.int .i64 x0)), (2, .c (.int .i64 x1)), (3, .c (.int .i64 x2)), (4, .c (.int .i64 x3)), (5, .c (.ptr 0 0)), (10, .c (.ptr 1 0)), (11, .c (.ptr 2 0)), (12, .c (.int .i64 x4))], [(0, .cells 39 [.int .i64 x5, .int .i64 x6, .sl (.int .u8) x7]), (1, .cells 39 [.int .i64 x8, .int .i64 x9, .own 3]), (2, .cells 39 [.int .i64 x10, .int .i64 x11, .own 4]), (3, .vec 5 (.int .u8) x12 true), (4, .vec 5 (.int .u8) x13 true)], 5, 0⟩
noncomputable def E111_0 (K : Ev.Ex → Ev.St → Option Ans) : (Int × Int × Int × Int × (List Int) × (List Int) → Option Ans) := (fun v => match v with | (x0, x1, x2, x3, x4, x5) => K .normal ⟨[(10, .c (.ptr 0 0)), (11, .c (.ptr 1 0))], [(0, .cells 39 [.int .i64 x0, .int .i64 x1, .own 2]), (1, .cells 39 [.int .i64 x2, .int .i64 x3, .own 3]), (2, .vec 5 (.int .u8) x4 true), (3, .vec 5 (.int .u8) x5 true)], 4, 0⟩)
theorem S111_0_okg (fuel : Nat) (f125 : YF125) (f127_a2e : YF127_a2e) (f154 : YF154) (R : Ev.St → Option Ans) (K : Ev.Ex → Ev.St → Option Ans) (x0 x1 : Int) (x2 x3 : Int) (x4 x5 x6 : Int) (x7 : (List Int)) (x8 x9 : Int) (x10 x11 : Int) (x12 x13 : (List Int)) : evalCode tab (Gg111 f125 f127_a2e f154) (J111_0 fuel) kp111 fuel (bodyOf 0 Try.f111) (T111_0 (x0, x1, x2, x3, x4, x5, x6, x7, x8, x9, x10, x11, x12, x13)) (lc kp111 3 0 R K) = Sg_ref05_Part_0 fuel f125 f127_a2e f154 x0 x1 x2 x3 x4 x5 x6 x7 x8 x9 x10 x11 x12 x13 (fun v => R (T111_0 v)) (E111_0 K) := by
  kernel_rfl
theorem S111_0_ok (fuel : Nat) (R : Ev.St → Option Ans) (K : Ev.Ex → Ev.St → Option Ans) (x0 x1 : Int) (x2 x3 : Int) (x4 x5 x6 : Int) (x7 : (List Int)) (x8 x9 : Int) (x10 x11 : Int) (x12 x13 : (List Int)) : evalCode tab (G111 fuel) (J111_0 fuel) kp111 fuel (bodyOf 0 Try.f111) (T111_0 (x0, x1, x2, x3, x4, x5, x6, x7, x8, x9, x10, x11, x12, x13)) (lc kp111 3 0 R K) = S_ref05_Part_0 fuel (x0, x1, x2, x3, x4, x5, x6, x7, x8, x9, x10, x11, x12, x13) (fun v => R (T111_0 v)) (E111_0 K) :=
  S111_0_okg fuel (F_ref05_At fuel) (F_ref05_Put_a2e fuel) (F_ref05_make2 fuel) R K x0 x1 x2 x3 x4 x5 x6 x7 x8 x9 x10 x11 x12 x13
noncomputable def B111_0 (fuel : Nat) : Ev.Blk := fun st K => match canonO (kp111 3) st with
 | some s => (match s with
 | ⟨[(q0, .c (.int .i64 x0)), (q1, .c (.int .i64 x1)), (q2, .c (.int .i64 x2)), (q3, .c (.int .i64 x3)), (q4, .c (.ptr q5 q6)), (q7, .c (.ptr q8 q9)), (q10, .c (.ptr q11 q12)), (q13, .c (.int .i64 x4))], [(q14, .cells q15 [.int .i64 x5, .int .i64 x6, .sl (.int .u8) x7]), (q16, .cells q17 [.int .i64 x8, .int .i64 x9, .own q18]), (q19, .cells q20 [.int .i64 x10, .int .i64 x11, .own q21]), (q22, .vec q23 (.int .u8) x12 true), (q24, .vec q25 (.int .u8) x13 true)], q26, q27⟩ => bif Nat.beq q0 1 && Nat.beq q1 2 && Nat.beq q2 3 && Nat.beq q3 4 && Nat.beq q4 5 && Nat.beq q5 0 && Nat.beq q6 0 && Nat.beq q7 10 && Nat.beq q8 1 && Nat.beq q9 0 && Nat.beq q10 11 && Nat.beq q11 2 && Nat.beq q12 0 && Nat.beq q13 12 && Nat.beq q14 0 && Nat.beq q15 39 && Nat.beq q16 1 && Nat.beq q17 39 && Nat.beq q18 3 && Nat.beq q19 2 && Nat.beq q20 39 && Nat.beq q21 4 && Nat.beq q22 3 && Nat.beq q23 5 && Nat.beq q24 4 && Nat.beq q25 5 && Nat.beq q26 5 && Nat.beq q27 0 then iter (S_ref05_Part_0 fuel) fuel (x0, x1, x2, x3, x4, x5, x6, x7, x8, x9, x10, x11, x12, x13) (E111_0 K) else none
 | _ => none)
 | none => none
theorem B111_0_ok (fuel : Nat) (st : Ev.St) (K : Ev.Ex → Ev.St → Option Ans) (r : Ans) (h : B111_0 fuel st K = some r) : evalCode tab (G111 fuel) (J111_0 fuel) kp111 fuel (.block 0 (.loop (bodyOf 0 Try.f111))) st K = some r := by
  unfold B111_0 at h
  split at h
  · rename_i s hs
    split at h
    · skip
      obtain ⟨hb, h⟩ := cond_some' h
      simp only [Bool.and_eq_true, Nat.beq_eq, decide_eq_true_eq] at hb
      obtain ⟨⟨⟨⟨⟨⟨⟨⟨⟨⟨⟨⟨⟨⟨⟨⟨⟨⟨⟨⟨⟨⟨⟨⟨⟨⟨⟨rfl, rfl⟩, rfl⟩, rfl⟩, rfl⟩, rfl⟩, rfl⟩, rfl⟩, rfl⟩, rfl⟩, rfl⟩, rfl⟩, rfl⟩, rfl⟩, rfl⟩, rfl⟩, rfl⟩, rfl⟩, rfl⟩, rfl⟩, rfl⟩, rfl⟩, rfl⟩, rfl⟩, rfl⟩, rfl⟩, rfl⟩, rfl⟩ := hb
      exact blk_loop (S := T111_0) (ks := E111_0) (step := S_ref05_Part_0 fuel) (v := (_, _, _, _, _, _, _, _, _, _, _, _, _, _)) (by kernel_rfl) (by kernel_rfl) (fun R K v => by obtain ⟨x0, x1, x2, x3, x4, x5, x6, x7, x8, x9, x10, x11, x12, x13⟩ := v; exact S111_0_ok fuel R K x0 x1 x2 x3 x4 x5 x6 x7 x8 x9 x10 x11 x12 x13) hs h
    · cases h
  · cases h
noncomputable def J111 (fuel : Nat) (i : Nat) : Option Ev.Blk := Ev.look i [(100002, B111_2 fuel), (100000, B111_0 fuel)]
noncomputable def Fg_ref05_Part (fuel : Nat) (f125 : YF125) (f127_a2e : YF127_a2e) (f154 : YF154) (x0 x1 : Int) (x2 : (List Int)) (x3 x4 : Int) (x5 x6 : Int) (k0 : (Int × Int × (List Int)) → Option Ans) : Option Ans :=
  (f154 (x5) (x6) ((0 : Int))
  (fun (y2_0, y2_1, y2_2) =>
  (L_ref05_Part_0 fuel (x3, x4, x5, x6, (0 : Int), x0, x1, x2, (0 : Int), (0 : Int), y2_0, y2_1, [], y2_2)
  (fun (b0_0, b0_1, b0_2, b0_3, b0_4, b0_5) =>
  k0 (b0_2, b0_3, b0_5)))))
noncomputable def F_ref05_Part (fuel : Nat) (x0 x1 : Int) (x2 : (List Int)) (x3 x4 : Int) (x5 x6 : Int) (k0 : (Int × Int × (List Int)) → Option Ans) : Option Ans := Fg_ref05_Part fuel (F_ref05_At fuel) (F_ref05_Put_a2e fuel) (F_ref05_make2 fuel) x0 x1 x2 x3 x4 x5 x6 k0
abbrev YF111 : Type := (Int) → (Int) → ((List Int)) → (Int) → (Int) → (Int) → (Int) → ((Int × Int × (List Int)) → Option Ans) → Option Ans
theorem F111_eqg (fuel : Nat) (f125 : YF125) (f127_a2e : YF127_a2e) (f154 : YF154) (x0 x1 : Int) (x2 : (List Int)) (x3 x4 : Int) (x5 x6 : Int) (k : Ev.Cont) : evalFn tab (Gg111 f125 f127_a2e f154) (J111 fuel) kp111 fuel Try.f111 [.agg [.int .i64 x0, .int .i64 x1, .sl (.int .u8) x2], .c (.int .i64 x3), .c (.int .i64 x4), .c (.int .i64 x5), .c (.int .i64 x6)] [] k = Fg_ref05_Part fuel f125 f127_a2e f154 x0 x1 x2 x3 x4 x5 x6 (fun r => match r with | (r0, r1, r2) => k (.agg [.int .i64 r0, .int .i64 r1, .own 0], [.vec 5 (.int .u8) r2 true])) := by
  kernel_rfl
theorem F111_eq (fuel : Nat) (x0 x1 : Int) (x2 : (List Int)) (x3 x4 : Int) (x5 x6 : Int) (k : Ev.Cont) : evalFn tab (G111 fuel) (J111 fuel) kp111 fuel Try.f111 [.agg [.int .i64 x0, .int .i64 x1, .sl (.int .u8) x2], .c (.int .i64 x3), .c (.int .i64 x4), .c (.int .i64 x5), .c (.int .i64 x6)] [] k = F_ref05_Part fuel x0 x1 x2 x3 x4 x5 x6 (fun r => match r with | (r0, r1, r2) => k (.agg [.int .i64 r0, .int .i64 r1, .own 0], [.vec 5 (.int .u8) r2 true])) :=
  F111_eqg fuel (F_ref05_At fuel) (F_ref05_Put_a2e fuel) (F_ref05_make2 fuel) x0 x1 x2 x3 x4 x5 x6 k
theorem hG111 (fuel : Nat) : GOK Try.prog (G111 fuel) :=
  gok_cons ⟨ok125 fuel, enters_of Try.func125 (by kernel_rfl) rfl⟩ <|
  gok_cons ⟨ok127_a2e fuel, enters_of Try.func127 (by kernel_rfl) rfl⟩ <|
  gok_cons ⟨ok154 fuel, enters_of Try.func154 (by kernel_rfl) rfl⟩ <|
  gok_nil
theorem B111_2_blk (fuel : Nat) : BlkOK Try.prog Try.f111.ntmps (.block 2 (.loop (bodyOf 2 Try.f111))) (B111_2 fuel) :=
  blk_of (blk_of_code tab_ok (hG111 fuel) mixed (J := J111_2 fuel) (kp := kp111) (fuel := fuel) (by kernel_rfl) (fun q hq => by
    rw [(by kernel_rfl : obl (J111_2 fuel) (.block 2 (.loop (bodyOf 2 Try.f111))) = [])] at hq
    cases hq)) (B111_2_ok fuel)
theorem B111_0_blk (fuel : Nat) : BlkOK Try.prog Try.f111.ntmps (.block 0 (.loop (bodyOf 0 Try.f111))) (B111_0 fuel) :=
  blk_of (blk_of_code tab_ok (hG111 fuel) mixed (J := J111_0 fuel) (kp := kp111) (fuel := fuel) (by kernel_rfl) (fun q hq => by
    rw [(by kernel_rfl : obl (J111_0 fuel) (.block 0 (.loop (bodyOf 0 Try.f111))) = [(.block 2 (.loop (bodyOf 2 Try.f111)), B111_2 fuel)])] at hq
    simp only [List.mem_cons, List.not_mem_nil, or_false] at hq
    subst hq
    · exact B111_2_blk fuel)) (B111_0_ok fuel)
theorem fok111 (fuel : Nat) : FnOK Try.prog 111 (evalFn tab (G111 fuel) (J111 fuel) kp111 fuel Try.f111) :=
  fn_ok tab_ok (hG111 fuel) mixed Try.func111 (c := (Try.f111.body).getD .skip) rfl (fun q hq => by
    rw [(by kernel_rfl : obl (J111 fuel) ((Try.f111.body).getD .skip) = [(.block 0 (.loop (bodyOf 0 Try.f111)), B111_0 fuel)])] at hq
    simp only [List.mem_cons, List.not_mem_nil, or_false] at hq
    subst hq
    · exact B111_0_blk fuel)
noncomputable def mt111 : List Ev.SV → List Ev.Ob → Bool := fun args objs => match args, objs with
 | [.agg [.int .i64 _, .int .i64 _, .sl (.int .u8) _], .c (.int .i64 _), .c (.int .i64 _), .c (.int .i64 _), .c (.int .i64 _)], [] => true
 | _, _ => false
noncomputable def spg111 (F : YF111) : Ev.Spec := fun args objs k => match args, objs with
 | [.agg [.int .i64 x0, .int .i64 x1, .sl (.int .u8) x2], .c (.int .i64 x3), .c (.int .i64 x4), .c (.int .i64 x5), .c (.int .i64 x6)], [] => bif true then F x0 x1 x2 x3 x4 x5 x6 (fun r => match r with | (r0, r1, r2) => k (.agg [.int .i64 r0, .int .i64 r1, .own 0], [.vec 5 (.int .u8) r2 true])) else none
 | _, _ => none
noncomputable def spec111 (fuel : Nat) : Ev.Spec := spg111 (F_ref05_Part fuel)
theorem ok111 (fuel : Nat) : FnOK Try.prog 111 (spec111 fuel) := by
  intro args objs kk r h
  unfold spec111 spg111 at h
  split at h
  · skip
    obtain ⟨hb, h⟩ := cond_some' h
    simp only [Bool.and_eq_true, Nat.beq_eq, decide_eq_true_eq] at hb
    clear hb
    exact fok111 fuel _ _ kk r ((F111_eq fuel _ _ _ _ _ _ _ kk).trans h)
  · cases h
end Go.Proofs.Ytihfgpfofmjbaaa

set_option linter.unusedVariables false
set_option linter.unusedSimpArgs false
set_option maxRecDepth 100000
set_option maxHeartbeats 2000000
namespace Go.Proofs.Ytihfgpfofmjbaaa
open Go Ev
def kp43 (i : Nat) : Option (List Nat) := Ev.look i []
noncomputable def Gg43 (f : Nat) : Option Ev.Spec := Ev.look f []
noncomputable def G43 (fuel : Nat) : Nat → Option Ev.Spec := Gg43
noncomputable def J43 (fuel : Nat) (i : Nat) : Option Ev.Blk := Ev.look i []
noncomputable def F_ref02_New (fuel : Nat) (x0 x1 : Int) (k0 : (Int × Int × (List Int)) → Option Ans) : Option Ans :=
  bif x0 != (0 : Int) then
  bif x0 != (1 : Int) then
  k0 ((0 : Int), (2 : Int), [])
  else
  bif decide (x1 < (0 : Int)) then
  k0 ((0 : Int), (2 : Int), [])
  else
  bif decide (x1 > (8192 : Int)) then
  k0 ((0 : Int), (2 : Int), [])
  else
  bif decide ((0 : Int) ≤ x1 ∧ x1 = x1 ∧ (↑(8 : Nat) : Int) * x1 ≤ (281474976710656 : Int) ∧ x1 ≤ (281474976710656 : Int)) then
  k0 (x0, (0 : Int), List.replicate x1.toNat (0 : Int))
  else none
  else
  bif decide (x1 < (0 : Int)) then
  k0 ((0 : Int), (2 : Int), [])
  else
  bif decide (x1 > (8192 : Int)) then
  k0 ((0 : Int), (2 : Int), [])
  else
  bif decide ((0 : Int) ≤ x1 ∧ x1 = x1 ∧ (↑(8 : Nat) : Int) * x1 ≤ (281474976710656 : Int) ∧ x1 ≤ (281474976710656 : Int)) then
  k0 (x0, (0 : Int), List.replicate x1.toNat (0 : Int))
  else none
abbrev YF43 : Type := (Int) → (Int) → ((Int × Int × (List Int)) → Option Ans) → Option Ans
theorem F43_eq (fuel : Nat) (x0 x1 : Int) (k : Ev.Cont) : evalFn tab (G43 fuel) (J43 fuel) kp43 fuel Try.f43 [.c (.int .i64 x0), .c (.int .i64 x1)] [] k = F_ref02_New fuel x0 x1 (fun r => match r with | (r0, r1, r2) => k (.tup [(true, [.int .i64 r0, .own 0]), (false, [.int .i64 r1])], [.vec 3 (.int .i64) r2 true])) := by
  kernel_rfl
theorem hG43 (fuel : Nat) : GOK Try.prog (G43 fuel) :=
  gok_nil
theorem fok43 (fuel : Nat) : FnOK Try.prog 43 (evalFn tab (G43 fuel) (J43 fuel) kp43 fuel Try.f43) :=
  fn_ok tab_ok (hG43 fuel) mixed Try.func43 (c := (Try.f43.body).getD .skip) rfl (fun q hq => by
    rw [(by kernel_rfl : obl (J43 fuel) ((Try.f43.body).getD .skip) = [])] at hq
    cases hq)
noncomputable def mt43 : List Ev.SV → List Ev.Ob → Bool := fun args objs => match args, objs with
 | [.c (.int .i64 _), .c (.int .i64 _)], [] => true
 | _, _ => false
noncomputable def spg43 (F : YF43) : Ev.Spec := fun args objs k => match args, objs with
 | [.c (.int .i64 x0), .c (.int .i64 x1)], [] => bif true then F x0 x1 (fun r => match r with | (r0, r1, r2) => k (.tup [(true, [.int .i64 r0, .own 0]), (false, [.int .i64 r1])], [.vec 3 (.int .i64) r2 true])) else none
 | _, _ => none
noncomputable def spec43 (fuel : Nat) : Ev.Spec := spg43 (F_ref02_New fuel)
theorem ok43 (fuel : Nat) : FnOK Try.prog 43 (spec43 fuel) := by
  intro args objs kk r h
  unfold spec43 spg43 at h
  split at h
  · skip
    obtain ⟨hb, h⟩ := cond_some' h
    simp only [Bool.and_eq_true, Nat.beq_eq, decide_eq_true_eq] at hb
    clear hb
    exact fok43 fuel _ _ kk r ((F43_eq fuel _ _ kk).trans h)
  · cases h
end Go.Proofs.Ytihfgpfofmjbaaa

set_option linter.unusedVariables false
set_option linter.unusedSimpArgs false
set_option maxRecDepth 100000
set_option maxHeartbeats 2000000
namespace Go.Proofs.Ytihfgpfofmjbaaa
open Go Ev
def kp117 (i : Nat) : Option (List Nat) := Ev.look i [(200001, [1])]
noncomputable def Gg117 (f : Nat) : Option Ev.Spec := Ev.look f []
noncomputable def G117 (fuel : Nat) : Nat → Option Ev.Spec := Gg117
noncomputable def J117 (fuel : Nat) (i : Nat) : Option Ev.Blk := Ev.look i []
noncomputable def F_ref02_Copy (fuel : Nat) (x0 : Int) (x1 : (List Int)) (k0 : (Int × (List Int)) → Option Ans) : Option Ans :=
  bif decide (((0 : Nat) + x1.length) * (8 : Nat) ≤ (140737488355328 : Nat) ∧ (0 : Nat) + x1.length ≤ (140737488355328 : Nat)) then
  k0 (x0, [] ++ x1)
  else none
abbrev YF117 : Type := (Int) → ((List Int)) → ((Int × (List Int)) → Option Ans) → Option Ans
theorem F117_eq (fuel : Nat) (x0 : Int) (x1 : (List Int)) (k : Ev.Cont) : evalFn tab (G117 fuel) (J117 fuel) kp117 fuel Try.f117 [.agg [.int .i64 x0, .sl (.int .i64) x1]] [] k = F_ref02_Copy fuel x0 x1 (fun r => match r with | (r0, r1) => k (.agg [.int .i64 r0, .own 0], [.vec 3 (.int .i64) r1 true])) := by
  kernel_rfl
theorem hG117 (fuel : Nat) : GOK Try.prog (G117 fuel) :=
  gok_nil
theorem fok117 (fuel : Nat) : FnOK Try.prog 117 (evalFn tab (G117 fuel) (J117 fuel) kp117 fuel Try.f117) :=
  fn_ok tab_ok (hG117 fuel) mixed Try.func117 (c := (Try.f117.body).getD .skip) rfl (fun q hq => by
    rw [(by kernel_rfl : obl (J117 fuel) ((Try.f117.body).getD .skip) = [])] at hq
    cases hq)
noncomputable def mt117 : List Ev.SV → List Ev.Ob → Bool := fun args objs => match args, objs with
 | [.agg [.int .i64 _, .sl (.int .i64) _]], [] => true
 | _, _ => false
noncomputable def spg117 (F : YF117) : Ev.Spec := fun args objs k => match args, objs with
 | [.agg [.int .i64 x0, .sl (.int .i64) x1]], [] => bif true then F x0 x1 (fun r => match r with | (r0, r1) => k (.agg [.int .i64 r0, .own 0], [.vec 3 (.int .i64) r1 true])) else none
 | _, _ => none
noncomputable def spec117 (fuel : Nat) : Ev.Spec := spg117 (F_ref02_Copy fuel)
theorem ok117 (fuel : Nat) : FnOK Try.prog 117 (spec117 fuel) := by
  intro args objs kk r h
  unfold spec117 spg117 at h
  split at h
  · skip
    obtain ⟨hb, h⟩ := cond_some' h
    simp only [Bool.and_eq_true, Nat.beq_eq, decide_eq_true_eq] at hb
    clear hb
    exact fok117 fuel _ _ kk r ((F117_eq fuel _ _ kk).trans h)
  · cases h
end Go.Proofs.Ytihfgpfofmjbaaa

set_option linter.unusedVariables false
set_option linter.unusedSimpArgs false
set_option maxRecDepth 100000
set_option maxHeartbeats 2000000
namespace Go.Proofs.Ytihfgpfofmjbaaa
open Go Ev
def kp116 (i : Nat) : Option (List Nat) := Ev.look i [(7, [3, 24, 25, 26]), (100000, []), (400000, [2])]
noncomputable def Gg116 (f : Nat) : Option Ev.Spec := Ev.look f []
noncomputable def G116 (fuel : Nat) : Nat → Option Ev.Spec := Gg116
noncomputable def S_ref02_Valid_0 (fuel : Nat) (v : Int × (List Int) × Int × Int) (c : (Int × (List Int) × Int × Int) → Option Ans) (B : (Bool → Option Ans) × (Unit → Option Ans)) : Option Ans := match v, B with
 | (x0, x1, x2, x3), (ret, b) =>
  bif decide (x3 < x2) then
  bif decide ((0 : Int) ≤ x3 ∧ x3 < (↑x1.length : Int)) then
  bif decide (x1.getD x3.toNat (0 : Int) < (0 : Int)) then
  ret false
  else
  bif decide (x1.getD x3.toNat (0 : Int) > x0) then
  ret false
  else
  c (x0, x1, x2, IntKind.i64.wrap (x3 + (1 : Int)))
  else none
  else
  b ()
noncomputable def L_ref02_Valid_0 (fuel : Nat) (v : Int × (List Int) × Int × Int) (ret : (Bool → Option Ans)) (b : (Unit → Option Ans)) : Option Ans := iter (S_ref02_Valid_0 fuel) fuel v (ret, b)
noncomputable def J116_0 (fuel : Nat) (i : Nat) : Option Ev.Blk := Ev.look i []
noncomputable def T116_0 (v : Int × (List Int) × Int × Int) : Ev.St := match v with | (x0, x1, x2, x3) => ⟨[(3, .c (.int .i64 x0)), (24, .c (.sl (.int .i64) x1)), (25, .c (.int .i64 x2)), (26, .c (.int .i64 x3))], [], 0, 0⟩
noncomputable def E116_0 (K : Ev.Ex → Ev.St → Option Ans) : (Bool → Option Ans) × (Unit → Option Ans) := ((fun v => match v with | x0 => K .ret ⟨[(2, .c (.bool x0))], [], 0, 0⟩), (fun v => match v with | () => K .normal ⟨[], [], 0, 0⟩))
theorem S116_0_ok (fuel : Nat) (R : Ev.St → Option Ans) (K : Ev.Ex → Ev.St → Option Ans) (x0 : Int) (x1 : (List Int)) (x2 x3 : Int) : evalCode tab (G116 fuel) (J116_0 fuel) kp116 fuel (bodyOf 0 Try.f116) (T116_0 (x0, x1, x2, x3)) (lc kp116 7 0 R K) = S_ref02_Valid_0 fuel (x0, x1, x2, x3) (fun v => R (T116_0 v)) (E116_0 K) := by
  kernel_rfl
noncomputable def B116_0 (fuel : Nat) : Ev.Blk := fun st K => match canonO (kp116 7) st with
 | some s => (match s with
 | ⟨[(q0, .c (.int .i64 x0)), (q1, .c (.sl (.int .i64) x1)), (q2, .c (.int .i64 x2)), (q3, .c (.int .i64 x3))], [], q4, q5⟩ => bif Nat.beq q0 3 && Nat.beq q1 24 && Nat.beq q2 25 && Nat.beq q3 26 && Nat.beq q4 0 && Nat.beq q5 0 then iter (S_ref02_Valid_0 fuel) fuel (x0, x1, x2, x3) (E116_0 K) else none
 | _ => none)
 | none => none
theorem B116_0_ok (fuel : Nat) (st : Ev.St) (K : Ev.Ex → Ev.St → Option Ans) (r : Ans) (h : B116_0 fuel st K = some r) : evalCode tab (G116 fuel) (J116_0 fuel) kp116 fuel (.block 0 (.loop (bodyOf 0 Try.f116))) st K = some r := by
  unfold B116_0 at h
  split at h
  · rename_i s hs
    split at h
    · skip
      obtain ⟨hb, h⟩ := cond_some' h
      simp only [Bool.and_eq_true, Nat.beq_eq, decide_eq_true_eq] at hb
      obtain ⟨⟨⟨⟨⟨rfl, rfl⟩, rfl⟩, rfl⟩, rfl⟩, rfl⟩ := hb
      exact blk_loop (S := T116_0) (ks := E116_0) (step := S_ref02_Valid_0 fuel) (v := (_, _, _, _)) (by kernel_rfl) (by kernel_rfl) (fun R K v => by obtain ⟨x0, x1, x2, x3⟩ := v; exact S116_0_ok fuel R K x0 x1 x2 x3) hs h
    · cases h
  · cases h
noncomputable def J116 (fuel : Nat) (i : Nat) : Option Ev.Blk := Ev.look i [(100000, B116_0 fuel)]
noncomputable def F_ref02_Valid (fuel : Nat) (x0 : Int) (x1 : (List Int)) (k0 : (Bool) → Option Ans) : Option Ans :=
  bif x0 == (1 : Int) then
  bif x0 != (0 : Int) then
  bif x0 != (1 : Int) then
  k0 false
  else
  bif decide ((↑x1.length : Int) > (8192 : Int)) then
  k0 false
  else
  (L_ref02_Valid_0 fuel ((65535 : Int), x1, (↑x1.length : Int), (0 : Int))
  (fun ret0_0 =>
  k0 ret0_0)
  (fun () =>
  k0 true))
  else
  bif decide ((↑x1.length : Int) > (8192 : Int)) then
  k0 false
  else
  (L_ref02_Valid_0 fuel ((65535 : Int), x1, (↑x1.length : Int), (0 : Int))
  (fun ret0_0 =>
  k0 ret0_0)
  (fun () =>
  k0 true))
  else
  bif x0 != (0 : Int) then
  bif x0 != (1 : Int) then
  k0 false
  else
  bif decide ((↑x1.length : Int) > (8192 : Int)) then
  k0 false
  else
  (L_ref02_Valid_0 fuel ((63 : Int), x1, (↑x1.length : Int), (0 : Int))
  (fun ret0_0 =>
  k0 ret0_0)
  (fun () =>
  k0 true))
  else
  bif decide ((↑x1.length : Int) > (8192 : Int)) then
  k0 false
  else
  (L_ref02_Valid_0 fuel ((63 : Int), x1, (↑x1.length : Int), (0 : Int))
  (fun ret0_0 =>
  k0 ret0_0)
  (fun () =>
  k0 true))
abbrev YF116 : Type := (Int) → ((List Int)) → ((Bool) → Option Ans) → Option Ans
theorem F116_eq (fuel : Nat) (x0 : Int) (x1 : (List Int)) (k : Ev.Cont) : evalFn tab (G116 fuel) (J116 fuel) kp116 fuel Try.f116 [.agg [.int .i64 x0, .sl (.int .i64) x1]] [] k = F_ref02_Valid fuel x0 x1 (fun r => match r with | r0 => k (.c (.bool r0), [])) := by
  kernel_rfl
theorem hG116 (fuel : Nat) : GOK Try.prog (G116 fuel) :=
  gok_nil
theorem B116_0_blk (fuel : Nat) : BlkOK Try.prog Try.f116.ntmps (.block 0 (.loop (bodyOf 0 Try.f116))) (B116_0 fuel) :=
  blk_of (blk_of_code tab_ok (hG116 fuel) mixed (J := J116_0 fuel) (kp := kp116) (fuel := fuel) (by kernel_rfl) (fun q hq => by
    rw [(by kernel_rfl : obl (J116_0 fuel) (.block 0 (.loop (bodyOf 0 Try.f116))) = [])] at hq
    cases hq)) (B116_0_ok fuel)
theorem fok116 (fuel : Nat) : FnOK Try.prog 116 (evalFn tab (G116 fuel) (J116 fuel) kp116 fuel Try.f116) :=
  fn_ok tab_ok (hG116 fuel) mixed Try.func116 (c := (Try.f116.body).getD .skip) rfl (fun q hq => by
    rw [(by kernel_rfl : obl (J116 fuel) ((Try.f116.body).getD .skip) = [(.block 0 (.loop (bodyOf 0 Try.f116)), B116_0 fuel)])] at hq
    simp only [List.mem_cons, List.not_mem_nil, or_false] at hq
    subst hq
    · exact B116_0_blk fuel)
noncomputable def mt116 : List Ev.SV → List Ev.Ob → Bool := fun args objs => match args, objs with
 | [.agg [.int .i64 _, .sl (.int .i64) _]], [] => true
 | _, _ => false
noncomputable def spg116 (F : YF116) : Ev.Spec := fun args objs k => match args, objs with
 | [.agg [.int .i64 x0, .sl (.int .i64) x1]], [] => bif true then F x0 x1 (fun r => match r with | r0 => k (.c (.bool r0), [])) else none
 | _, _ => none
noncomputable def spec116 (fuel : Nat) : Ev.Spec := spg116 (F_ref02_Valid fuel)
theorem ok116 (fuel : Nat) : FnOK Try.prog 116 (spec116 fuel) := by
  intro args objs kk r h
  unfold spec116 spg116 at h
  split at h
  · skip
    obtain ⟨hb, h⟩ := cond_some' h
    simp only [Bool.and_eq_true, Nat.beq_eq, decide_eq_true_eq] at hb
    clear hb
    exact fok116 fuel _ _ kk r ((F116_eq fuel _ _ kk).trans h)
  · cases h
end Go.Proofs.Ytihfgpfofmjbaaa

set_option linter.unusedVariables false
set_option linter.unusedSimpArgs false
set_option maxRecDepth 100000
set_option maxHeartbeats 2000000
namespace Go.Proofs.Ytihfgpfofmjbaaa
open Go Ev
def kp118 (i : Nat) : Option (List Nat) := Ev.look i []
noncomputable def Gg118 (f : Nat) : Option Ev.Spec := Ev.look f []
noncomputable def G118 (fuel : Nat) : Nat → Option Ev.Spec := Gg118
noncomputable def J118 (fuel : Nat) (i : Nat) : Option Ev.Blk := Ev.look i []
noncomputable def F_ref02_Whole (fuel : Nat)  (k0 : (Int × Int) → Option Ans) : Option Ans :=
  k0 ((0 : Int), (4294967295 : Int))
abbrev YF118 : Type := ((Int × Int) → Option Ans) → Option Ans
theorem F118_eq (fuel : Nat)  (k : Ev.Cont) : evalFn tab (G118 fuel) (J118 fuel) kp118 fuel Try.f118 [] [] k = F_ref02_Whole fuel  (fun r => match r with | (r0, r1) => k (.agg [.int .u64 r0, .int .u64 r1], [])) := by
  kernel_rfl
theorem hG118 (fuel : Nat) : GOK Try.prog (G118 fuel) :=
  gok_nil
theorem fok118 (fuel : Nat) : FnOK Try.prog 118 (evalFn tab (G118 fuel) (J118 fuel) kp118 fuel Try.f118) :=
  fn_ok tab_ok (hG118 fuel) mixed Try.func118 (c := (Try.f118.body).getD .skip) rfl (fun q hq => by
    rw [(by kernel_rfl : obl (J118 fuel) ((Try.f118.body).getD .skip) = [])] at hq
    cases hq)
noncomputable def mt118 : List Ev.SV → List Ev.Ob → Bool := fun args objs => match args, objs with
 | [], [] => true
 | _, _ => false
noncomputable def spg118 (F : YF118) : Ev.Spec := fun args objs k => match args, objs with
 | [], [] => bif true then F  (fun r => match r with | (r0, r1) => k (.agg [.int .u64 r0, .int .u64 r1], [])) else none
 | _, _ => none
noncomputable def spec118 (fuel : Nat) : Ev.Spec := spg118 (F_ref02_Whole fuel)
theorem ok118 (fuel : Nat) : FnOK Try.prog 118 (spec118 fuel) := by
  intro args objs kk r h
  unfold spec118 spg118 at h
  split at h
  · skip
    obtain ⟨hb, h⟩ := cond_some' h
    simp only [Bool.and_eq_true, Nat.beq_eq, decide_eq_true_eq] at hb
    clear hb
    exact fok118 fuel _ _ kk r ((F118_eq fuel kk).trans h)
  · cases h
end Go.Proofs.Ytihfgpfofmjbaaa

set_option linter.unusedVariables false
set_option linter.unusedSimpArgs false
set_option maxRecDepth 100000
set_option maxHeartbeats 2000000
namespace Go.Proofs.Ytihfgpfofmjbaaa
open Go Ev
def kp119 (i : Nat) : Option (List Nat) := Ev.look i []
noncomputable def Gg119 (f : Nat) : Option Ev.Spec := Ev.look f []
noncomputable def G119 (fuel : Nat) : Nat → Option Ev.Spec := Gg119
noncomputable def J119 (fuel : Nat) (i : Nat) : Option Ev.Blk := Ev.look i []
noncomputable def F_ref02_byteAt (fuel : Nat) (x0 : (List Int)) (x1 : Int) (k0 : (Int) → Option Ans) : Option Ans :=
  bif decide (x1 < (↑x0.length : Int)) then
  bif decide ((0 : Int) ≤ x1 ∧ x1 < (↑x0.length : Int)) then
  k0 (IntKind.u64.wrap (x0.getD x1.toNat (0 : Int)))
  else none
  else
  k0 ((0 : Int))
abbrev YF119 : Type := ((List Int)) → (Int) → ((Int) → Option Ans) → Option Ans
theorem F119_eq (fuel : Nat) (x0 : (List Int)) (x1 : Int) (k : Ev.Cont) : evalFn tab (G119 fuel) (J119 fuel) kp119 fuel Try.f119 [.c (.sl (.int .u8) x0), .c (.int .i64 x1)] [] k = F_ref02_byteAt fuel x0 x1 (fun r => match r with | r0 => k (.c (.int .u64 r0), [])) := by
  kernel_rfl
theorem hG119 (fuel : Nat) : GOK Try.prog (G119 fuel) :=
  gok_nil
theorem fok119 (fuel : Nat) : FnOK Try.prog 119 (evalFn tab (G119 fuel) (J119 fuel) kp119 fuel Try.f119) :=
  fn_ok tab_ok (hG119 fuel) mixed Try.func119 (c := (Try.f119.body).getD .skip) rfl (fun q hq => by
    rw [(by kernel_rfl : obl (J119 fuel) ((Try.f119.body).getD .skip) = [])] at hq
    cases hq)
noncomputable def mt119 : List Ev.SV → List Ev.Ob → Bool := fun args objs => match args, objs with
 | [.c (.sl (.int .u8) _), .c (.int .i64 _)], [] => true
 | _, _ => false
noncomputable def spg119 (F : YF119) : Ev.Spec := fun args objs k => match args, objs with
 | [.c (.sl (.int .u8) x0), .c (.int .i64 x1)], [] => bif true then F x0 x1 (fun r => match r with | r0 => k (.c (.int .u64 r0), [])) else none
 | _, _ => none
noncomputable def spec119 (fuel : Nat) : Ev.Spec := spg119 (F_ref02_byteAt fuel)
theorem ok119 (fuel : Nat) : FnOK Try.prog 119 (spec119 fuel) := by
  intro args objs kk r h
  unfold spec119 spg119 at h
  split at h
  · skip
    obtain ⟨hb, h⟩ := cond_some' h
    simp only [Bool.and_eq_true, Nat.beq_eq, decide_eq_true_eq] at hb
    clear hb
    exact fok119 fuel _ _ kk r ((F119_eq fuel _ _ kk).trans h)
  · cases h
end Go.Proofs.Ytihfgpfofmjbaaa

set_option linter.unusedVariables false
set_option linter.unusedSimpArgs false
set_option maxRecDepth 100000
set_option maxHeartbeats 2000000
namespace Go.Proofs.Ytihfgpfofmjbaaa
open Go Ev
def kp44 (i : Nat) : Option (List Nat) := Ev.look i [(5, [6, 7]), (100000, [6]), (400000, [4, 5]), (600000, [])]
noncomputable def Gg44 (f116 : YF116) (f117 : YF117) (f118 : YF118) (f119 : YF119) (f : Nat) : Option Ev.Spec := Ev.look f [(116, spg116 f116), (117, spg117 f117), (118, spg118 f118), (119, spg119 f119)]
noncomputable def G44 (fuel : Nat) : Nat → Option Ev.Spec := Gg44 (F_ref02_Valid fuel) (F_ref02_Copy fuel) (F_ref02_Whole fuel) (F_ref02_byteAt fuel)
noncomputable def Sg_ref02_NewDecoder_0 (fuel : Nat) (f116 : YF116) (f117 : YF117) (f118 : YF118) (f119 : YF119) (x0 x1 : Int) (x2 x3 : Int) (x4 x5 x6 : Int) (x7 : Bool) (x8 x9 : (List Int)) (c : (Int × Int × Int × Int × Int × Int × Int × Bool × (List Int) × (List Int)) → Option Ans) (B : (Int × Int × Int × Int × Int × Int × Bool × (List Int) × (List Int) → Option Ans)) : Option Ans := match B with
 | b =>
  bif decide (x0 < (4 : Int)) then
  both ((f119 (x9) (x0)
  (fun y5 =>
  c (IntKind.i64.wrap (x0 + (1 : Int)), x1, x2, x3, x4, IntKind.u64.wrap (IntKind.u64.wrap (x5 * (256 : Int)) + y5), x6, x7, x8, x9))))
  (both ((f119 (x9) (x0)
  (fun y7 =>
  c (IntKind.i64.wrap (x0 + (1 : Int)), x1, x2, x3, x4, IntKind.u64.wrap (IntKind.u64.wrap (x5 * (256 : Int)) + y7), x6, x7, x8, x9))))
  ((f119 (x9) (x0)
  (fun y7 =>
  c (IntKind.i64.wrap (x0 + (1 : Int)), x1, x2, x3, x4, IntKind.u64.wrap (IntKind.u64.wrap (x5 * (256 : Int)) + y7), x6, x7, x8, x9)))))
  else
  b (x1, x2, x3, x4, x5, x6, x7, x8, x9)
noncomputable def S_ref02_NewDecoder_0 (fuel : Nat) (v : Int × Int × Int × Int × Int × Int × Int × Bool × (List Int) × (List Int)) (c : (Int × Int × Int × Int × Int × Int × Int × Bool × (List Int) × (List Int)) → Option Ans) (B : (Int × Int × Int × Int × Int × Int × Bool × (List Int) × (List Int) → Option Ans)) : Option Ans := match v with
 | (x0, x1, x2, x3, x4, x5, x6, x7, x8, x9) => Sg_ref02_NewDecoder_0 fuel (F_ref02_Valid fuel) (F_ref02_Copy fuel) (F_ref02_Whole fuel) (F_ref02_byteAt fuel) x0 x1 x2 x3 x4 x5 x6 x7 x8 x9 c B
noncomputable def L_ref02_NewDecoder_0 (fuel : Nat) (v : Int × Int × Int × Int × Int × Int × Int × Bool × (List Int) × (List Int)) (b : (Int × Int × Int × Int × Int × Int × Bool × (List Int) × (List Int) → Option Ans)) : Option Ans := iter (S_ref02_NewDecoder_0 fuel) fuel v b
noncomputable def J44_0 (fuel : Nat) (i : Nat) : Option Ev.Blk := Ev.look i []
noncomputable def T44_0 (v : Int × Int × Int × Int × Int × Int × Int × Bool × (List Int) × (List Int)) : Ev.St := match v with | (x0, x1, x2, x3, x4, x5, x6, x7, x8, x9) => ⟨[(6, .c (.ptr 0 0)), (7, .c (.int .i64 x0))], [(0, .cells 164 [.int .i64 x1, .own 1, .int .u64 x2, .int .u64 x3, .own 2, .int .i64 x4, .int .u64 x5, .int .i64 x6, .bool x7]), (1, .vec 3 (.int .i64) x8 true), (2, .vec 5 (.int .u8) x9 true)], 3, 0⟩
noncomputable def E44_0 (K : Ev.Ex → Ev.St → Option Ans) : (Int × Int × Int × Int × Int × Int × Bool × (List Int) × (List Int) → Option Ans) := (fun v => match v with | (x0, x1, x2, x3, x4, x5, x6, x7, x8) => K .normal ⟨[(6, .c (.ptr 0 0))], [(0, .cells 164 [.int .i64 x0, .own 1, .int .u64 x1, .int .u64 x2, .own 2, .int .i64 x3, .int .u64 x4, .int .i64 x5, .bool x6]), (1, .vec 3 (.int .i64) x7 true), (2, .vec 5 (.int .u8) x8 true)], 3, 0⟩)
theorem S44_0_okg (fuel : Nat) (f116 : YF116) (f117 : YF117) (f118 : YF118) (f119 : YF119) (R : Ev.St → Option Ans) (K : Ev.Ex → Ev.St → Option Ans) (x0 x1 : Int) (x2 x3 : Int) (x4 x5 x6 : Int) (x7 : Bool) (x8 x9 : (List Int)) : evalCode tab (Gg44 f116 f117 f118 f119) (J44_0 fuel) kp44 fuel (bodyOf 0 Try.f44) (T44_0 (x0, x1, x2, x3, x4, x5, x6, x7, x8, x9)) (lc kp44 5 0 R K) = Sg_ref02_NewDecoder_0 fuel f116 f117 f118 f119 x0 x1 x2 x3 x4 x5 x6 x7 x8 x9 (fun v => R (T44_0 v)) (E44_0 K) := by
  kernel_rfl
theorem S44_0_ok (fuel : Nat) (R : Ev.St → Option Ans) (K : Ev.Ex → Ev.St → Option Ans) (x0 x1 : Int) (x2 x3 : Int) (x4 x5 x6 : Int) (x7 : Bool) (x8 x9 : (List Int)) : evalCode tab (G44 fuel) (J44_0 fuel) kp44 fuel (bodyOf 0 Try.f44) (T44_0 (x0, x1, x2, x3, x4, x5, x6, x7, x8, x9)) (lc kp44 5 0 R K) = S_ref02_NewDecoder_0 fuel (x0, x1, x2, x3, x4, x5, x6, x7, x8, x9) (fun v => R (T44_0 v)) (E44_0 K) :=
  S44_0_okg fuel (F_ref02_Valid fuel) (F_ref02_Copy fuel) (F_ref02_Whole fuel) (F_ref02_byteAt fuel) R K x0 x1 x2 x3 x4 x5 x6 x7 x8 x9
noncomputable def B44_0 (fuel : Nat) : Ev.Blk := fun st K => match canonO (kp44 5) st with
 | some s => (match s with
 | ⟨[(q0, .c (.ptr q1 q2)), (q3, .c (.int .i64 x0))], [(q4, .cells q5 [.int .i64 x1, .own q6, .int .u64 x2, .int .u64 x3, .own q7, .int .i64 x4, .int .u64 x5, .int .i64 x6, .bool x7]), (q8, .vec q9 (.int .i64) x8 true), (q10, .vec q11 (.int .u8) x9 true)], q12, q13⟩ => bif Nat.beq q0 6 && Nat.beq q1 0 && Nat.beq q2 0 && Nat.beq q3 7 && Nat.beq q4 0 && Nat.beq q5 164 && Nat.beq q6 1 && Nat.beq q7 2 && Nat.beq q8 1 && Nat.beq q9 3 && Nat.beq q10 2 && Nat.beq q11 5 && Nat.beq q12 3 && Nat.beq q13 0 then iter (S_ref02_NewDecoder_0 fuel) fuel (x0, x1, x2, x3, x4, x5, x6, x7, x8, x9) (E44_0 K) else none
 | _ => none)
 | none => none
theorem B44_0_ok (fuel : Nat) (st : Ev.St) (K : Ev.Ex → Ev.St → Option Ans) (r : Ans) (h : B44_0 fuel st K = some r) : evalCode tab (G44 fuel) (J44_0 fuel) kp44 fuel (.block 0 (.loop (bodyOf 0 Try.f44))) st K = some r := by
  unfold B44_0 at h
  split at h
  · rename_i s hs
    split at h
    · skip
      obtain ⟨hb, h⟩ := cond_some' h
      simp only [Bool.and_eq_true, Nat.beq_eq, decide_eq_true_eq] at hb
      obtain ⟨⟨⟨⟨⟨⟨⟨⟨⟨⟨⟨⟨⟨rfl, rfl⟩, rfl⟩, rfl⟩, rfl⟩, rfl⟩, rfl⟩, rfl⟩, rfl⟩, rfl⟩, rfl⟩, rfl⟩, rfl⟩, rfl⟩ := hb
      exact blk_loop (S := T44_0) (ks := E44_0) (step := S_ref02_NewDecoder_0 fuel) (v := (_, _, _, _, _, _, _, _, _, _)) (by kernel_rfl) (by kernel_rfl) (fun R K v => by obtain ⟨x0, x1, x2, x3, x4, x5, x6, x7, x8, x9⟩ := v; exact S44_0_ok fuel R K x0 x1 x2 x3 x4 x5 x6 x7 x8 x9) hs h
    · cases h
  · cases h
noncomputable def J44 (fuel : Nat) (i : Nat) : Option Ev.Blk := Ev.look i [(100000, B44_0 fuel)]
noncomputable def Fg_ref02_NewDecoder (fuel : Nat) (f116 : YF116) (f117 : YF117) (f118 : YF118) (f119 : YF119) (x0 : Int) (x1 x2 : (List Int)) (k0 : (Int) → Option Ans) (k1 : (Int × Int × Int × Int × Int × Int × Int × Bool × (List Int) × (List Int)) → Option Ans) : Option Ans :=
  (f116 (x0) (x1)
  (fun y2 =>
  bif !y2 then
  k0 ((10 : Int))
  else
  (f117 (x0) (x1)
  (fun (y7_0, y7_1) =>
  (f118
  (fun (y11_0, y11_1) =>
  bif decide (((0 : Nat) + x2.length) * (1 : Nat) ≤ (140737488355328 : Nat) ∧ (0 : Nat) + x2.length ≤ (140737488355328 : Nat)) then
  (L_ref02_NewDecoder_0 fuel ((0 : Int), y7_0, y11_0, y11_1, (4 : Int), (0 : Int), bif decide (IntKind.i64.wrap ((4 : Int) - (↑x2.length : Int)) > (0 : Int)) then IntKind.i64.wrap ((4 : Int) - (↑x2.length : Int)) else (0 : Int), false, y7_1, [] ++ x2)
  (fun (b0_0, b0_1, b0_2, b0_3, b0_4, b0_5, b0_6, b0_7, b0_8) =>
  k1 ((0 : Int), b0_0, b0_1, b0_2, b0_3, b0_4, b0_5, b0_6, b0_7, b0_8)))
  else none))))))
noncomputable def F_ref02_NewDecoder (fuel : Nat) (x0 : Int) (x1 x2 : (List Int)) (k0 : (Int) → Option Ans) (k1 : (Int × Int × Int × Int × Int × Int × Int × Bool × (List Int) × (List Int)) → Option Ans) : Option Ans := Fg_ref02_NewDecoder fuel (F_ref02_Valid fuel) (F_ref02_Copy fuel) (F_ref02_Whole fuel) (F_ref02_byteAt fuel) x0 x1 x2 k0 k1
abbrev YF44 : Type := (Int) → ((List Int)) → ((List Int)) → ((Int) → Option Ans) → ((Int × Int × Int × Int × Int × Int × Int × Bool × (List Int) × (List Int)) → Option Ans) → Option Ans
theorem F44_eqg (fuel : Nat) (f116 : YF116) (f117 : YF117) (f118 : YF118) (f119 : YF119) (x0 : Int) (x1 x2 : (List Int)) (k : Ev.Cont) : evalFn tab (Gg44 f116 f117 f118 f119) (J44 fuel) kp44 fuel Try.f44 [.agg [.int .i64 x0, .sl (.int .i64) x1], .c (.sl (.int .u8) x2)] [] k = Fg_ref02_NewDecoder fuel f116 f117 f118 f119 x0 x1 x2 (fun r => match r with | r0 => k (.tup [(false, [.nilptr]), (false, [.int .i64 r0])], [])) (fun r => match r with | (r0, r1, r2, r3, r4, r5, r6, r7, r8, r9) => k (.tup [(false, [.ptr 0 0]), (false, [.int .i64 r0])], [.cells 164 [.int .i64 r1, .own 1, .int .u64 r2, .int .u64 r3, .own 2, .int .i64 r4, .int .u64 r5, .int .i64 r6, .bool r7], .vec 3 (.int .i64) r8 true, .vec 5 (.int .u8) r9 true])) := by
  kernel_rfl
theorem F44_eq (fuel : Nat) (x0 : Int) (x1 x2 : (List Int)) (k : Ev.Cont) : evalFn tab (G44 fuel) (J44 fuel) kp44 fuel Try.f44 [.agg [.int .i64 x0, .sl (.int .i64) x1], .c (.sl (.int .u8) x2)] [] k = F_ref02_NewDecoder fuel x0 x1 x2 (fun r => match r with | r0 => k (.tup [(false, [.nilptr]), (false, [.int .i64 r0])], [])) (fun r => match r with | (r0, r1, r2, r3, r4, r5, r6, r7, r8, r9) => k (.tup [(false, [.ptr 0 0]), (false, [.int .i64 r0])], [.cells 164 [.int .i64 r1, .own 1, .int .u64 r2, .int .u64 r3, .own 2, .int .i64 r4, .int .u64 r5, .int .i64 r6, .bool r7], .vec 3 (.int .i64) r8 true, .vec 5 (.int .u8) r9 true])) :=
  F44_eqg fuel (F_ref02_Valid fuel) (F_ref02_Copy fuel) (F_ref02_Whole fuel) (F_ref02_byteAt fuel) x0 x1 x2 k
theorem hG44 (fuel : Nat) : GOK Try.prog (G44 fuel) :=
  gok_cons ⟨ok116 fuel, enters_of Try.func116 (by kernel_rfl) rfl⟩ <|
  gok_cons ⟨ok117 fuel, enters_of Try.func117 (by kernel_rfl) rfl⟩ <|
  gok_cons ⟨ok118 fuel, enters_of Try.func118 (by kernel_rfl) rfl⟩ <|
  gok_cons ⟨ok119 fuel, enters_of Try.func119 (by kernel_rfl) rfl⟩ <|
  gok_nil
theorem B44_0_blk (fuel : Nat) : BlkOK Try.prog Try.f44.ntmps (.block 0 (.loop (bodyOf 0 Try.f44))) (B44_0 fuel) :=
  blk_of (blk_of_code tab_ok (hG44 fuel) mixed (J := J44_0 fuel) (kp := kp44) (fuel := fuel) (by kernel_rfl) (fun q hq => by
    rw [(by kernel_rfl : obl (J44_0 fuel) (.block 0 (.loop (bodyOf 0 Try.f44))) = [])] at hq
    cases hq)) (B44_0_ok fuel)
theorem fok44 (fuel : Nat) : FnOK Try.prog 44 (evalFn tab (G44 fuel) (J44 fuel) kp44 fuel Try.f44) :=
  fn_ok tab_ok (hG44 fuel) mixed Try.func44 (c := (Try.f44.body).getD .skip) rfl (fun q hq => by
    rw [(by kernel_rfl : obl (J44 fuel) ((Try.f44.body).getD .skip) = [(.block 0 (.loop (bodyOf 0 Try.f44)), B44_0 fuel)])] at hq
    simp only [List.mem_cons, List.not_mem_nil, or_false] at hq
    subst hq
    · exact B44_0_blk fuel)
noncomputable def mt44 : List Ev.SV → List Ev.Ob → Bool := fun args objs => match args, objs with
 | [.agg [.int .i64 _, .sl (.int .i64) _], .c (.sl (.int .u8) _)], [] => true
 | _, _ => false
noncomputable def spg44 (F : YF44) : Ev.Spec := fun args objs k => match args, objs with
 | [.agg [.int .i64 x0, .sl (.int .i64) x1], .c (.sl (.int .u8) x2)], [] => bif true then F x0 x1 x2 (fun r => match r with | r0 => k (.tup [(false, [.nilptr]), (false, [.int .i64 r0])], [])) (fun r => match r with | (r0, r1, r2, r3, r4, r5, r6, r7, r8, r9) => k (.tup [(false, [.ptr 0 0]), (false, [.int .i64 r0])], [.cells 164 [.int .i64 r1, .own 1, .int .u64 r2, .int .u64 r3, .own 2, .int .i64 r4, .int .u64 r5, .int .i64 r6, .bool r7], .vec 3 (.int .i64) r8 true, .vec 5 (.int .u8) r9 true])) else none
 | _, _ => none
noncomputable def spec44 (fuel : Nat) : Ev.Spec := spg44 (F_ref02_NewDecoder fuel)
theorem ok44 (fuel : Nat) : FnOK Try.prog 44 (spec44 fuel) := by
  intro args objs kk r h
  unfold spec44 spg44 at h
  split at h
  · skip
    obtain ⟨hb, h⟩ := cond_some' h
    simp only [Bool.and_eq_true, Nat.beq_eq, decide_eq_true_eq] at hb
    clear hb
    exact fok44 fuel _ _ kk r ((F44_eq fuel _ _ _ kk).trans h)
  · cases h
end Go.Proofs.Ytihfgpfofmjbaaa

set_option linter.unusedVariables false
set_option linter.unusedSimpArgs false
set_option maxRecDepth 100000
set_option maxHeartbeats 2000000
namespace Go.Proofs.Ytihfgpfofmjbaaa
open Go Ev
def kp186 (i : Nat) : Option (List Nat) := Ev.look i []
noncomputable def Gg186 (f : Nat) : Option Ev.Spec := Ev.look f []
noncomputable def G186 (fuel : Nat) : Nat → Option Ev.Spec := Gg186
noncomputable def J186 (fuel : Nat) (i : Nat) : Option Ev.Blk := Ev.look i []
noncomputable def F_ref02_After (fuel : Nat) (x0 x1 x2 : Int) (k0 : (Int) → Option Ans) : Option Ans :=
  bif x0 == (0 : Int) then
  bif x2 == IntKind.i64.wrap (x1.tdiv (32 : Int)) then
  k0 (IntKind.i64.wrap (IntKind.i64.wrap ((32 : Int) * IntKind.i64.wrap (x1.tdiv (32 : Int))) + bif decide ((31 : Int) < IntKind.i64.wrap (x1.tmod (32 : Int) + (1 : Int))) then (31 : Int) else IntKind.i64.wrap (x1.tmod (32 : Int) + (1 : Int))))
  else
  bif x1.tmod (32 : Int) == (0 : Int) then
  k0 (IntKind.i64.wrap ((32 : Int) * x2))
  else
  k0 (IntKind.i64.wrap (IntKind.i64.wrap (IntKind.i64.wrap (IntKind.i64.wrap ((32 : Int) * IntKind.i64.wrap (x1.tdiv (32 : Int))) + x1.tmod (32 : Int)) - (1 : Int)) - IntKind.i64.wrap ((x1.tmod (32 : Int)).tdiv (4 : Int))))
  else
  bif decide ((0 : Int) ≤ x2 ∧ x2 < (↑(2 : Nat) : Int)) then
  bif decide (x2 = (↑(0 : Nat) : Int)) then
  bif IntKind.i64.wrap (x1.tdiv (256 : Int)) == (255 : Int) then
  bif decide ((0 : Int) ≤ x2 ∧ x2 < (↑(2 : Nat) : Int)) then
  bif decide (x2 = (↑(0 : Nat) : Int)) then
  bif decide ((0 : Int) ≤ x2 ∧ x2 < (↑(2 : Nat) : Int)) then
  bif decide (x2 = (↑(0 : Nat) : Int)) then
  k0 (IntKind.i64.wrap (IntKind.i64.wrap ((256 : Int) * IntKind.i64.wrap (IntKind.i64.wrap ((IntKind.i64.wrap (x1.tdiv (256 : Int))).tdiv (2 : Int)) + (1 : Int))) + IntKind.i64.wrap ((x1.tmod (256 : Int)).tdiv (2 : Int))))
  else
  bif decide (x2 = (↑(1 : Nat) : Int)) then
  k0 (IntKind.i64.wrap (IntKind.i64.wrap ((256 : Int) * IntKind.i64.wrap ((IntKind.i64.wrap (x1.tdiv (256 : Int))).tdiv (2 : Int))) + IntKind.i64.wrap (IntKind.i64.wrap ((IntKind.i64.wrap (x1.tdiv (256 : Int))).tdiv (2 : Int)) + (1 : Int))))
  else none
  else none
  else
  bif decide (x2 = (↑(1 : Nat) : Int)) then
  bif decide ((0 : Int) ≤ x2 ∧ x2 < (↑(2 : Nat) : Int)) then
  bif decide (x2 = (↑(0 : Nat) : Int)) then
  k0 (IntKind.i64.wrap (IntKind.i64.wrap ((256 : Int) * IntKind.i64.wrap (IntKind.i64.wrap ((x1.tmod (256 : Int)).tdiv (2 : Int)) + (1 : Int))) + IntKind.i64.wrap ((x1.tmod (256 : Int)).tdiv (2 : Int))))
  else
  bif decide (x2 = (↑(1 : Nat) : Int)) then
  k0 (IntKind.i64.wrap (IntKind.i64.wrap ((256 : Int) * IntKind.i64.wrap ((IntKind.i64.wrap (x1.tdiv (256 : Int))).tdiv (2 : Int))) + IntKind.i64.wrap (IntKind.i64.wrap ((x1.tmod (256 : Int)).tdiv (2 : Int)) + (1 : Int))))
  else none
  else none
  else none
  else none
  else
  bif decide ((0 : Int) ≤ x2 ∧ x2 < (↑(2 : Nat) : Int)) then
  bif decide (x2 = (↑(0 : Nat) : Int)) then
  bif decide ((0 : Int) ≤ x2 ∧ x2 < (↑(2 : Nat) : Int)) then
  bif decide (x2 = (↑(0 : Nat) : Int)) then
  k0 (IntKind.i64.wrap (IntKind.i64.wrap ((256 : Int) * IntKind.i64.wrap (IntKind.i64.wrap (x1.tdiv (256 : Int)) + (1 : Int))) + x1.tmod (256 : Int)))
  else
  bif decide (x2 = (↑(1 : Nat) : Int)) then
  k0 (IntKind.i64.wrap (IntKind.i64.wrap ((256 : Int) * IntKind.i64.wrap (x1.tdiv (256 : Int))) + IntKind.i64.wrap (IntKind.i64.wrap (x1.tdiv (256 : Int)) + (1 : Int))))
  else none
  else none
  else
  bif decide (x2 = (↑(1 : Nat) : Int)) then
  bif decide ((0 : Int) ≤ x2 ∧ x2 < (↑(2 : Nat) : Int)) then
  bif decide (x2 = (↑(0 : Nat) : Int)) then
  k0 (IntKind.i64.wrap (IntKind.i64.wrap ((256 : Int) * IntKind.i64.wrap (x1.tmod (256 : Int) + (1 : Int))) + x1.tmod (256 : Int)))
  else
  bif decide (x2 = (↑(1 : Nat) : Int)) then
  k0 (IntKind.i64.wrap (IntKind.i64.wrap ((256 : Int) * IntKind.i64.wrap (x1.tdiv (256 : Int))) + IntKind.i64.wrap (x1.tmod (256 : Int) + (1 : Int))))
  else none
  else none
  else none
  else none
  else
  bif decide (x2 = (↑(1 : Nat) : Int)) then
  bif x1.tmod (256 : Int) == (255 : Int) then
  bif decide ((0 : Int) ≤ x2 ∧ x2 < (↑(2 : Nat) : Int)) then
  bif decide (x2 = (↑(0 : Nat) : Int)) then
  bif decide ((0 : Int) ≤ x2 ∧ x2 < (↑(2 : Nat) : Int)) then
  bif decide (x2 = (↑(0 : Nat) : Int)) then
  k0 (IntKind.i64.wrap (IntKind.i64.wrap ((256 : Int) * IntKind.i64.wrap (IntKind.i64.wrap ((IntKind.i64.wrap (x1.tdiv (256 : Int))).tdiv (2 : Int)) + (1 : Int))) + IntKind.i64.wrap ((x1.tmod (256 : Int)).tdiv (2 : Int))))
  else
  bif decide (x2 = (↑(1 : Nat) : Int)) then
  k0 (IntKind.i64.wrap (IntKind.i64.wrap ((256 : Int) * IntKind.i64.wrap ((IntKind.i64.wrap (x1.tdiv (256 : Int))).tdiv (2 : Int))) + IntKind.i64.wrap (IntKind.i64.wrap ((IntKind.i64.wrap (x1.tdiv (256 : Int))).tdiv (2 : Int)) + (1 : Int))))
  else none
  else none
  else
  bif decide (x2 = (↑(1 : Nat) : Int)) then
  bif decide ((0 : Int) ≤ x2 ∧ x2 < (↑(2 : Nat) : Int)) then
  bif decide (x2 = (↑(0 : Nat) : Int)) then
  k0 (IntKind.i64.wrap (IntKind.i64.wrap ((256 : Int) * IntKind.i64.wrap (IntKind.i64.wrap ((x1.tmod (256 : Int)).tdiv (2 : Int)) + (1 : Int))) + IntKind.i64.wrap ((x1.tmod (256 : Int)).tdiv (2 : Int))))
  else
  bif decide (x2 = (↑(1 : Nat) : Int)) then
  k0 (IntKind.i64.wrap (IntKind.i64.wrap ((256 : Int) * IntKind.i64.wrap ((IntKind.i64.wrap (x1.tdiv (256 : Int))).tdiv (2 : Int))) + IntKind.i64.wrap (IntKind.i64.wrap ((x1.tmod (256 : Int)).tdiv (2 : Int)) + (1 : Int))))
  else none
  else none
  else none
  else none
  else
  bif decide ((0 : Int) ≤ x2 ∧ x2 < (↑(2 : Nat) : Int)) then
  bif decide (x2 = (↑(0 : Nat) : Int)) then
  bif decide ((0 : Int) ≤ x2 ∧ x2 < (↑(2 : Nat) : Int)) then
  bif decide (x2 = (↑(0 : Nat) : Int)) then
  k0 (IntKind.i64.wrap (IntKind.i64.wrap ((256 : Int) * IntKind.i64.wrap (IntKind.i64.wrap (x1.tdiv (256 : Int)) + (1 : Int))) + x1.tmod (256 : Int)))
  else
  bif decide (x2 = (↑(1 : Nat) : Int)) then
  k0 (IntKind.i64.wrap (IntKind.i64.wrap ((256 : Int) * IntKind.i64.wrap (x1.tdiv (256 : Int))) + IntKind.i64.wrap (IntKind.i64.wrap (x1.tdiv (256 : Int)) + (1 : Int))))
  else none
  else none
  else
  bif decide (x2 = (↑(1 : Nat) : Int)) then
  bif decide ((0 : Int) ≤ x2 ∧ x2 < (↑(2 : Nat) : Int)) then
  bif decide (x2 = (↑(0 : Nat) : Int)) then
  k0 (IntKind.i64.wrap (IntKind.i64.wrap ((256 : Int) * IntKind.i64.wrap (x1.tmod (256 : Int) + (1 : Int))) + x1.tmod (256 : Int)))
  else
  bif decide (x2 = (↑(1 : Nat) : Int)) then
  k0 (IntKind.i64.wrap (IntKind.i64.wrap ((256 : Int) * IntKind.i64.wrap (x1.tdiv (256 : Int))) + IntKind.i64.wrap (x1.tmod (256 : Int) + (1 : Int))))
  else none
  else none
  else none
  else none
  else none
  else none
abbrev YF186 : Type := (Int) → (Int) → (Int) → ((Int) → Option Ans) → Option Ans
theorem F186_eq (fuel : Nat) (x0 x1 x2 : Int) (k : Ev.Cont) : evalFn tab (G186 fuel) (J186 fuel) kp186 fuel Try.f186 [.c (.int .i64 x0), .c (.int .i64 x1), .c (.int .i64 x2)] [] k = F_ref02_After fuel x0 x1 x2 (fun r => match r with | r0 => k (.c (.int .i64 r0), [])) := by
  kernel_rfl
theorem hG186 (fuel : Nat) : GOK Try.prog (G186 fuel) :=
  gok_nil
theorem fok186 (fuel : Nat) : FnOK Try.prog 186 (evalFn tab (G186 fuel) (J186 fuel) kp186 fuel Try.f186) :=
  fn_ok tab_ok (hG186 fuel) mixed Try.func186 (c := (Try.f186.body).getD .skip) rfl (fun q hq => by
    rw [(by kernel_rfl : obl (J186 fuel) ((Try.f186.body).getD .skip) = [])] at hq
    cases hq)
noncomputable def mt186 : List Ev.SV → List Ev.Ob → Bool := fun args objs => match args, objs with
 | [.c (.int .i64 _), .c (.int .i64 _), .c (.int .i64 _)], [] => true
 | _, _ => false
noncomputable def spg186 (F : YF186) : Ev.Spec := fun args objs k => match args, objs with
 | [.c (.int .i64 x0), .c (.int .i64 x1), .c (.int .i64 x2)], [] => bif true then F x0 x1 x2 (fun r => match r with | r0 => k (.c (.int .i64 r0), [])) else none
 | _, _ => none
noncomputable def spec186 (fuel : Nat) : Ev.Spec := spg186 (F_ref02_After fuel)
theorem ok186 (fuel : Nat) : FnOK Try.prog 186 (spec186 fuel) := by
  intro args objs kk r h
  unfold spec186 spg186 at h
  split at h
  · skip
    obtain ⟨hb, h⟩ := cond_some' h
    simp only [Bool.and_eq_true, Nat.beq_eq, decide_eq_true_eq] at hb
    clear hb
    exact fok186 fuel _ _ kk r ((F186_eq fuel _ _ _ kk).trans h)
  · cases h
end Go.Proofs.Ytihfgpfofmjbaaa

set_option linter.unusedVariables false
set_option linter.unusedSimpArgs false
set_option maxRecDepth 100000
set_option maxHeartbeats 2000000
namespace Go.Proofs.Ytihfgpfofmjbaaa
open Go Ev
def kp184 (i : Nat) : Option (List Nat) := Ev.look i []
noncomputable def Gg184 (f : Nat) : Option Ev.Spec := Ev.look f []
noncomputable def G184 (fuel : Nat) : Nat → Option Ev.Spec := Gg184
noncomputable def J184 (fuel : Nat) (i : Nat) : Option Ev.Blk := Ev.look i []
noncomputable def F_ref02_Interval_Fixed (fuel : Nat) (x0 x1 : Int) (k0 : (Bool) → Option Ans) : Option Ans :=
  k0 (Ev.ishr IntKind.u64 x0 (24 : Int) == Ev.ishr IntKind.u64 x1 (24 : Int))
abbrev YF184 : Type := (Int) → (Int) → ((Bool) → Option Ans) → Option Ans
theorem F184_eq (fuel : Nat) (x0 x1 : Int) (k : Ev.Cont) : evalFn tab (G184 fuel) (J184 fuel) kp184 fuel Try.f184 [.agg [.int .u64 x0, .int .u64 x1]] [] k = F_ref02_Interval_Fixed fuel x0 x1 (fun r => match r with | r0 => k (.c (.bool r0), [])) := by
  kernel_rfl
theorem hG184 (fuel : Nat) : GOK Try.prog (G184 fuel) :=
  gok_nil
theorem fok184 (fuel : Nat) : FnOK Try.prog 184 (evalFn tab (G184 fuel) (J184 fuel) kp184 fuel Try.f184) :=
  fn_ok tab_ok (hG184 fuel) mixed Try.func184 (c := (Try.f184.body).getD .skip) rfl (fun q hq => by
    rw [(by kernel_rfl : obl (J184 fuel) ((Try.f184.body).getD .skip) = [])] at hq
    cases hq)
noncomputable def mt184 : List Ev.SV → List Ev.Ob → Bool := fun args objs => match args, objs with
 | [.agg [.int .u64 _, .int .u64 _]], [] => true
 | _, _ => false
noncomputable def spg184 (F : YF184) : Ev.Spec := fun args objs k => match args, objs with
 | [.agg [.int .u64 x0, .int .u64 x1]], [] => bif true then F x0 x1 (fun r => match r with | r0 => k (.c (.bool r0), [])) else none
 | _, _ => none
noncomputable def spec184 (fuel : Nat) : Ev.Spec := spg184 (F_ref02_Interval_Fixed fuel)
theorem ok184 (fuel : Nat) : FnOK Try.prog 184 (spec184 fuel) := by
  intro args objs kk r h
  unfold spec184 spg184 at h
  split at h
  · skip
    obtain ⟨hb, h⟩ := cond_some' h
    simp only [Bool.and_eq_true, Nat.beq_eq, decide_eq_true_eq] at hb
    clear hb
    exact fok184 fuel _ _ kk r ((F184_eq fuel _ _ kk).trans h)
  · cases h
end Go.Proofs.Ytihfgpfofmjbaaa

set_option linter.unusedVariables false
set_option linter.unusedSimpArgs false
set_option maxRecDepth 100000
set_option maxHeartbeats 2000000
namespace Go.Proofs.Ytihfgpfofmjbaaa
open Go Ev
def kp182 (i : Nat) : Option (List Nat) := Ev.look i []
noncomputable def Gg182 (f : Nat) : Option Ev.Spec := Ev.look f []
noncomputable def G182 (fuel : Nat) : Nat → Option Ev.Spec := Gg182
noncomputable def J182 (fuel : Nat) (i : Nat) : Option Ev.Blk := Ev.look i []
noncomputable def F_ref02_Interval_Mid (fuel : Nat) (x0 x1 x2 : Int) (k0 : (Int) → Option Ans) : Option Ans :=
  k0 (IntKind.u64.wrap (IntKind.u64.wrap (x0 + IntKind.u64.wrap (IntKind.u64.wrap ((IntKind.u64.wrap (x1 - x0)).tdiv (4096 : Int)) * IntKind.u64.wrap x2)) + IntKind.u64.wrap ((IntKind.u64.wrap ((IntKind.u64.wrap (x1 - x0)).tmod (4096 : Int) * IntKind.u64.wrap x2)).tdiv (4096 : Int))))
abbrev YF182 : Type := (Int) → (Int) → (Int) → ((Int) → Option Ans) → Option Ans
theorem F182_eq (fuel : Nat) (x0 x1 x2 : Int) (k : Ev.Cont) : evalFn tab (G182 fuel) (J182 fuel) kp182 fuel Try.f182 [.agg [.int .u64 x0, .int .u64 x1], .c (.int .i64 x2)] [] k = F_ref02_Interval_Mid fuel x0 x1 x2 (fun r => match r with | r0 => k (.c (.int .u64 r0), [])) := by
  kernel_rfl
theorem hG182 (fuel : Nat) : GOK Try.prog (G182 fuel) :=
  gok_nil
theorem fok182 (fuel : Nat) : FnOK Try.prog 182 (evalFn tab (G182 fuel) (J182 fuel) kp182 fuel Try.f182) :=
  fn_ok tab_ok (hG182 fuel) mixed Try.func182 (c := (Try.f182.body).getD .skip) rfl (fun q hq => by
    rw [(by kernel_rfl : obl (J182 fuel) ((Try.f182.body).getD .skip) = [])] at hq
    cases hq)
noncomputable def mt182 : List Ev.SV → List Ev.Ob → Bool := fun args objs => match args, objs with
 | [.agg [.int .u64 _, .int .u64 _], .c (.int .i64 _)], [] => true
 | _, _ => false
noncomputable def spg182 (F : YF182) : Ev.Spec := fun args objs k => match args, objs with
 | [.agg [.int .u64 x0, .int .u64 x1], .c (.int .i64 x2)], [] => bif true then F x0 x1 x2 (fun r => match r with | r0 => k (.c (.int .u64 r0), [])) else none
 | _, _ => none
noncomputable def spec182 (fuel : Nat) : Ev.Spec := spg182 (F_ref02_Interval_Mid fuel)
theorem ok182 (fuel : Nat) : FnOK Try.prog 182 (spec182 fuel) := by
  intro args objs kk r h
  unfold spec182 spg182 at h
  split at h
  · skip
    obtain ⟨hb, h⟩ := cond_some' h
    simp only [Bool.and_eq_true, Nat.beq_eq, decide_eq_true_eq] at hb
    clear hb
    exact fok182 fuel _ _ kk r ((F182_eq fuel _ _ _ kk).trans h)
  · cases h
end Go.Proofs.Ytihfgpfofmjbaaa

set_option linter.unusedVariables false
set_option linter.unusedSimpArgs false
set_option maxRecDepth 100000
set_option maxHeartbeats 2000000
namespace Go.Proofs.Ytihfgpfofmjbaaa
open Go Ev
def kp183 (i : Nat) : Option (List Nat) := Ev.look i [(200002, [3]), (200003, [3])]
noncomputable def Gg183 (f182 : YF182) (f : Nat) : Option Ev.Spec := Ev.look f [(182, spg182 f182)]
noncomputable def G183 (fuel : Nat) : Nat → Option Ev.Spec := Gg183 (F_ref02_Interval_Mid fuel)
noncomputable def J183 (fuel : Nat) (i : Nat) : Option Ev.Blk := Ev.look i []
noncomputable def Fg_ref02_Interval_Part (fuel : Nat) (f182 : YF182) (x0 x1 : Int) (x2 x3 : Int) (k0 : (Int × Int) → Option Ans) : Option Ans :=
  bif x3 == (1 : Int) then
  (f182 (x0) (x1) (x2)
  (fun y3 =>
  k0 (x0, y3)))
  else
  (f182 (x0) (x1) (x2)
  (fun y3 =>
  k0 (IntKind.u64.wrap (y3 + (1 : Int)), x1)))
noncomputable def F_ref02_Interval_Part (fuel : Nat) (x0 x1 : Int) (x2 x3 : Int) (k0 : (Int × Int) → Option Ans) : Option Ans := Fg_ref02_Interval_Part fuel (F_ref02_Interval_Mid fuel) x0 x1 x2 x3 k0
abbrev YF183 : Type := (Int) → (Int) → (Int) → (Int) → ((Int × Int) → Option Ans) → Option Ans
theorem F183_eqg (fuel : Nat) (f182 : YF182) (x0 x1 : Int) (x2 x3 : Int) (k : Ev.Cont) : evalFn tab (Gg183 f182) (J183 fuel) kp183 fuel Try.f183 [.agg [.int .u64 x0, .int .u64 x1], .c (.int .i64 x2), .c (.int .i64 x3)] [] k = Fg_ref02_Interval_Part fuel f182 x0 x1 x2 x3 (fun r => match r with | (r0, r1) => k (.agg [.int .u64 r0, .int .u64 r1], [])) := by
  kernel_rfl
theorem F183_eq (fuel : Nat) (x0 x1 : Int) (x2 x3 : Int) (k : Ev.Cont) : evalFn tab (G183 fuel) (J183 fuel) kp183 fuel Try.f183 [.agg [.int .u64 x0, .int .u64 x1], .c (.int .i64 x2), .c (.int .i64 x3)] [] k = F_ref02_Interval_Part fuel x0 x1 x2 x3 (fun r => match r with | (r0, r1) => k (.agg [.int .u64 r0, .int .u64 r1], [])) :=
  F183_eqg fuel (F_ref02_Interval_Mid fuel) x0 x1 x2 x3 k
theorem hG183 (fuel : Nat) : GOK Try.prog (G183 fuel) :=
  gok_cons ⟨ok182 fuel, enters_of Try.func182 (by kernel_rfl) rfl⟩ <|
  gok_nil
theorem fok183 (fuel : Nat) : FnOK Try.prog 183 (evalFn tab (G183 fuel) (J183 fuel) kp183 fuel Try.f183) :=
  fn_ok tab_ok (hG183 fuel) mixed Try.func183 (c := (Try.f183.body).getD .skip) rfl (fun q hq => by
    rw [(by kernel_rfl : obl (J183 fuel) ((Try.f183.body).getD .skip) = [])] at hq
    cases hq)
noncomputable def mt183 : List Ev.SV → List Ev.Ob → Bool := fun args objs => match args, objs with
 | [.agg [.int .u64 _, .int .u64 _], .c (.int .i64 _), .c (.int .i64 _)], [] => true
 | _, _ => false
noncomputable def spg183 (F : YF183) : Ev.Spec := fun args objs k => match args, objs with
 | [.agg [.int .u64 x0, .int .u64 x1], .c (.int .i64 x2), .c (.int .i64 x3)], [] => bif true then F x0 x1 x2 x3 (fun r => match r with | (r0, r1) => k (.agg [.int .u64 r0, .int .u64 r1], [])) else none
 | _, _ => none
noncomputable def spec183 (fuel : Nat) : Ev.Spec := spg183 (F_ref02_Interval_Part fuel)
theorem ok183 (fuel : Nat) : FnOK Try.prog 183 (spec183 fuel) := by
  intro args objs kk r h
  unfold spec183 spg183 at h
  split at h
  · skip
    obtain ⟨hb, h⟩ := cond_some' h
    simp only [Bool.and_eq_true, Nat.beq_eq, decide_eq_true_eq] at hb
    clear hb
    exact fok183 fuel _ _ kk r ((F183_eq fuel _ _ _ _ kk).trans h)
  · cases h
end Go.Proofs.Ytihfgpfofmjbaaa

set_option linter.unusedVariables false
set_option linter.unusedSimpArgs false
set_option maxRecDepth 100000
set_option maxHeartbeats 2000000
namespace Go.Proofs.Ytihfgpfofmjbaaa
open Go Ev
def kp185 (i : Nat) : Option (List Nat) := Ev.look i []
noncomputable def Gg185 (f : Nat) : Option Ev.Spec := Ev.look f []
noncomputable def G185 (fuel : Nat) : Nat → Option Ev.Spec := Gg185
noncomputable def J185 (fuel : Nat) (i : Nat) : Option Ev.Blk := Ev.look i []
noncomputable def F_ref02_Interval_Shifted (fuel : Nat) (x0 x1 : Int) (k0 : (Int × Int) → Option Ans) : Option Ans :=
  k0 (IntKind.u64.wrap (x0.tmod (16777216 : Int) * (256 : Int)), IntKind.u64.wrap (IntKind.u64.wrap (x1.tmod (16777216 : Int) * (256 : Int)) + (255 : Int)))
abbrev YF185 : Type := (Int) → (Int) → ((Int × Int) → Option Ans) → Option Ans
theorem F185_eq (fuel : Nat) (x0 x1 : Int) (k : Ev.Cont) : evalFn tab (G185 fuel) (J185 fuel) kp185 fuel Try.f185 [.agg [.int .u64 x0, .int .u64 x1]] [] k = F_ref02_Interval_Shifted fuel x0 x1 (fun r => match r with | (r0, r1) => k (.agg [.int .u64 r0, .int .u64 r1], [])) := by
  kernel_rfl
theorem hG185 (fuel : Nat) : GOK Try.prog (G185 fuel) :=
  gok_nil
theorem fok185 (fuel : Nat) : FnOK Try.prog 185 (evalFn tab (G185 fuel) (J185 fuel) kp185 fuel Try.f185) :=
  fn_ok tab_ok (hG185 fuel) mixed Try.func185 (c := (Try.f185.body).getD .skip) rfl (fun q hq => by
    rw [(by kernel_rfl : obl (J185 fuel) ((Try.f185.body).getD .skip) = [])] at hq
    cases hq)
noncomputable def mt185 : List Ev.SV → List Ev.Ob → Bool := fun args objs => match args, objs with
 | [.agg [.int .u64 _, .int .u64 _]], [] => true
 | _, _ => false
noncomputable def spg185 (F : YF185) : Ev.Spec := fun args objs k => match args, objs with
 | [.agg [.int .u64 x0, .int .u64 x1]], [] => bif true then F x0 x1 (fun r => match r with | (r0, r1) => k (.agg [.int .u64 r0, .int .u64 r1], [])) else none
 | _, _ => none
noncomputable def spec185 (fuel : Nat) : Ev.Spec := spg185 (F_ref02_Interval_Shifted fuel)
theorem ok185 (fuel : Nat) : FnOK Try.prog 185 (spec185 fuel) := by
  intro args objs kk r h
  unfold spec185 spg185 at h
  split at h
  · skip
    obtain ⟨hb, h⟩ := cond_some' h
    simp only [Bool.and_eq_true, Nat.beq_eq, decide_eq_true_eq] at hb
    clear hb
    exact fok185 fuel _ _ kk r ((F185_eq fuel _ _ kk).trans h)
  · cases h
end Go.Proofs.Ytihfgpfofmjbaaa

set_option linter.unusedVariables false
set_option linter.unusedSimpArgs false
set_option maxRecDepth 100000
set_option maxHeartbeats 2000000
namespace Go.Proofs.Ytihfgpfofmjbaaa
open Go Ev
def kp206 (i : Nat) : Option (List Nat) := Ev.look i [(3, [0, 3, 4]), (100000, [3]), (400000, [2])]
noncomputable def Gg206 (f : Nat) : Option Ev.Spec := Ev.look f []
noncomputable def G206 (fuel : Nat) : Nat → Option Ev.Spec := Gg206
noncomputable def S_ref02_unlikely_0 (fuel : Nat) (v : Int × Int × Int) (c : (Int × Int × Int) → Option Ans) (B : (Int → Option Ans)) : Option Ans := match v, B with
 | (x0, x1, x2), b =>
  bif decide (x2 < x0) then
  c (x0, IntKind.i64.wrap (x1 - IntKind.i64.wrap (x1.tdiv (8 : Int))), IntKind.i64.wrap (x2 + (1 : Int)))
  else
  b x1
noncomputable def L_ref02_unlikely_0 (fuel : Nat) (v : Int × Int × Int) (b : (Int → Option Ans)) : Option Ans := iter (S_ref02_unlikely_0 fuel) fuel v b
noncomputable def J206_0 (fuel : Nat) (i : Nat) : Option Ev.Blk := Ev.look i []
noncomputable def T206_0 (v : Int × Int × Int) : Ev.St := match v with | (x0, x1, x2) => ⟨[(0, .c (.int .i64 x0)), (3, .c (.int .i64 x1)), (4, .c (.int .i64 x2))], [], 0, 0⟩
noncomputable def E206_0 (K : Ev.Ex → Ev.St → Option Ans) : (Int → Option Ans) := (fun v => match v with | x0 => K .normal ⟨[(3, .c (.int .i64 x0))], [], 0, 0⟩)
theorem S206_0_ok (fuel : Nat) (R : Ev.St → Option Ans) (K : Ev.Ex → Ev.St → Option Ans) (x0 x1 x2 : Int) : evalCode tab (G206 fuel) (J206_0 fuel) kp206 fuel (bodyOf 0 Try.f206) (T206_0 (x0, x1, x2)) (lc kp206 3 0 R K) = S_ref02_unlikely_0 fuel (x0, x1, x2) (fun v => R (T206_0 v)) (E206_0 K) := by
  kernel_rfl
noncomputable def B206_0 (fuel : Nat) : Ev.Blk := fun st K => match canonO (kp206 3) st with
 | some s => (match s with
 | ⟨[(q0, .c (.int .i64 x0)), (q1, .c (.int .i64 x1)), (q2, .c (.int .i64 x2))], [], q3, q4⟩ => bif Nat.beq q0 0 && Nat.beq q1 3 && Nat.beq q2 4 && Nat.beq q3 0 && Nat.beq q4 0 then iter (S_ref02_unlikely_0 fuel) fuel (x0, x1, x2) (E206_0 K) else none
 | _ => none)
 | none => none
theorem B206_0_ok (fuel : Nat) (st : Ev.St) (K : Ev.Ex → Ev.St → Option Ans) (r : Ans) (h : B206_0 fuel st K = some r) : evalCode tab (G206 fuel) (J206_0 fuel) kp206 fuel (.block 0 (.loop (bodyOf 0 Try.f206))) st K = some r := by
  unfold B206_0 at h
  split at h
  · rename_i s hs
    split at h
    · skip
      obtain ⟨hb, h⟩ := cond_some' h
      simp only [Bool.and_eq_true, Nat.beq_eq, decide_eq_true_eq] at hb
      obtain ⟨⟨⟨⟨rfl, rfl⟩, rfl⟩, rfl⟩, rfl⟩ := hb
      exact blk_loop (S := T206_0) (ks := E206_0) (step := S_ref02_unlikely_0 fuel) (v := (_, _, _)) (by kernel_rfl) (by kernel_rfl) (fun R K v => by obtain ⟨x0, x1, x2⟩ := v; exact S206_0_ok fuel R K x0 x1 x2) hs h
    · cases h
  · cases h
noncomputable def J206 (fuel : Nat) (i : Nat) : Option Ev.Blk := Ev.look i [(100000, B206_0 fuel)]
noncomputable def F_ref02_unlikely (fuel : Nat) (x0 : Int) (k0 : (Int) → Option Ans) : Option Ans :=
  (L_ref02_unlikely_0 fuel (x0, (2048 : Int), (0 : Int))
  (fun b0_0 =>
  k0 b0_0))
abbrev YF206 : Type := (Int) → ((Int) → Option Ans) → Option Ans
theorem F206_eq (fuel : Nat) (x0 : Int) (k : Ev.Cont) : evalFn tab (G206 fuel) (J206 fuel) kp206 fuel Try.f206 [.c (.int .i64 x0)] [] k = F_ref02_unlikely fuel x0 (fun r => match r with | r0 => k (.c (.int .i64 r0), [])) := by
  kernel_rfl
theorem hG206 (fuel : Nat) : GOK Try.prog (G206 fuel) :=
  gok_nil
theorem B206_0_blk (fuel : Nat) : BlkOK Try.prog Try.f206.ntmps (.block 0 (.loop (bodyOf 0 Try.f206))) (B206_0 fuel) :=
  blk_of (blk_of_code tab_ok (hG206 fuel) mixed (J := J206_0 fuel) (kp := kp206) (fuel := fuel) (by kernel_rfl) (fun q hq => by
    rw [(by kernel_rfl : obl (J206_0 fuel) (.block 0 (.loop (bodyOf 0 Try.f206))) = [])] at hq
    cases hq)) (B206_0_ok fuel)
theorem fok206 (fuel : Nat) : FnOK Try.prog 206 (evalFn tab (G206 fuel) (J206 fuel) kp206 fuel Try.f206) :=
  fn_ok tab_ok (hG206 fuel) mixed Try.func206 (c := (Try.f206.body).getD .skip) rfl (fun q hq => by
    rw [(by kernel_rfl : obl (J206 fuel) ((Try.f206.body).getD .skip) = [(.block 0 (.loop (bodyOf 0 Try.f206)), B206_0 fuel)])] at hq
    simp only [List.mem_cons, List.not_mem_nil, or_false] at hq
    subst hq
    · exact B206_0_blk fuel)
noncomputable def mt206 : List Ev.SV → List Ev.Ob → Bool := fun args objs => match args, objs with
 | [.c (.int .i64 _)], [] => true
 | _, _ => false
noncomputable def spg206 (F : YF206) : Ev.Spec := fun args objs k => match args, objs with
 | [.c (.int .i64 x0)], [] => bif true then F x0 (fun r => match r with | r0 => k (.c (.int .i64 r0), [])) else none
 | _, _ => none
noncomputable def spec206 (fuel : Nat) : Ev.Spec := spg206 (F_ref02_unlikely fuel)
theorem ok206 (fuel : Nat) : FnOK Try.prog 206 (spec206 fuel) := by
  intro args objs kk r h
  unfold spec206 spg206 at h
  split at h
  · skip
    obtain ⟨hb, h⟩ := cond_some' h
    simp only [Bool.and_eq_true, Nat.beq_eq, decide_eq_true_eq] at hb
    clear hb
    exact fok206 fuel _ _ kk r ((F206_eq fuel _ kk).trans h)
  · cases h
end Go.Proofs.Ytihfgpfofmjbaaa

set_option linter.unusedVariables false
set_option linter.unusedSimpArgs false
set_option maxRecDepth 100000
set_option maxHeartbeats 2000000
namespace Go.Proofs.Ytihfgpfofmjbaaa
open Go Ev
def kp181 (i : Nat) : Option (List Nat) := Ev.look i []
noncomputable def Gg181 (f206 : YF206) (f : Nat) : Option Ev.Spec := Ev.look f [(206, spg206 f206)]
noncomputable def G181 (fuel : Nat) : Nat → Option Ev.Spec := Gg181 (F_ref02_unlikely fuel)
noncomputable def J181 (fuel : Nat) (i : Nat) : Option Ev.Blk := Ev.look i []
noncomputable def Fg_ref02_Likely (fuel : Nat) (f206 : YF206) (x0 x1 : Int) (k0 : (Int) → Option Ans) : Option Ans :=
  bif x0 == (0 : Int) then
  (f206 (x1.tmod (32 : Int))
  (fun y3 =>
  bif decide (x1 < (32 : Int)) then
  k0 y3
  else
  (f206 (x1.tmod (32 : Int))
  (fun y8 =>
  k0 (IntKind.i64.wrap ((4096 : Int) - y8))))))
  else
  bif decide (IntKind.i64.wrap (IntKind.i64.wrap (IntKind.i64.wrap ((2 : Int) * IntKind.i64.wrap (x1.tdiv (256 : Int))) + IntKind.i64.wrap ((2 : Int) * x1.tmod (256 : Int))) + (2 : Int)) = (0 : Int)) then
  none
  else
  k0 (bif decide ((4095 : Int) < bif decide ((1 : Int) > IntKind.i64.wrap ((IntKind.i64.wrap (IntKind.i64.wrap (IntKind.i64.wrap ((2 : Int) * x1.tmod (256 : Int)) + (1 : Int)) * (4096 : Int))).tdiv (IntKind.i64.wrap (IntKind.i64.wrap (IntKind.i64.wrap ((2 : Int) * IntKind.i64.wrap (x1.tdiv (256 : Int))) + IntKind.i64.wrap ((2 : Int) * x1.tmod (256 : Int))) + (2 : Int))))) then (1 : Int) else IntKind.i64.wrap ((IntKind.i64.wrap (IntKind.i64.wrap (IntKind.i64.wrap ((2 : Int) * x1.tmod (256 : Int)) + (1 : Int)) * (4096 : Int))).tdiv (IntKind.i64.wrap (IntKind.i64.wrap (IntKind.i64.wrap ((2 : Int) * IntKind.i64.wrap (x1.tdiv (256 : Int))) + IntKind.i64.wrap ((2 : Int) * x1.tmod (256 : Int))) + (2 : Int))))) then (4095 : Int) else bif decide ((1 : Int) > IntKind.i64.wrap ((IntKind.i64.wrap (IntKind.i64.wrap (IntKind.i64.wrap ((2 : Int) * x1.tmod (256 : Int)) + (1 : Int)) * (4096 : Int))).tdiv (IntKind.i64.wrap (IntKind.i64.wrap (IntKind.i64.wrap ((2 : Int) * IntKind.i64.wrap (x1.tdiv (256 : Int))) + IntKind.i64.wrap ((2 : Int) * x1.tmod (256 : Int))) + (2 : Int))))) then (1 : Int) else IntKind.i64.wrap ((IntKind.i64.wrap (IntKind.i64.wrap (IntKind.i64.wrap ((2 : Int) * x1.tmod (256 : Int)) + (1 : Int)) * (4096 : Int))).tdiv (IntKind.i64.wrap (IntKind.i64.wrap (IntKind.i64.wrap ((2 : Int) * IntKind.i64.wrap (x1.tdiv (256 : Int))) + IntKind.i64.wrap ((2 : Int) * x1.tmod (256 : Int))) + (2 : Int)))))
noncomputable def F_ref02_Likely (fuel : Nat) (x0 x1 : Int) (k0 : (Int) → Option Ans) : Option Ans := Fg_ref02_Likely fuel (F_ref02_unlikely fuel) x0 x1 k0
abbrev YF181 : Type := (Int) → (Int) → ((Int) → Option Ans) → Option Ans
theorem F181_eqg (fuel : Nat) (f206 : YF206) (x0 x1 : Int) (k : Ev.Cont) : evalFn tab (Gg181 f206) (J181 fuel) kp181 fuel Try.f181 [.c (.int .i64 x0), .c (.int .i64 x1)] [] k = Fg_ref02_Likely fuel f206 x0 x1 (fun r => match r with | r0 => k (.c (.int .i64 r0), [])) := by
  kernel_rfl
theorem F181_eq (fuel : Nat) (x0 x1 : Int) (k : Ev.Cont) : evalFn tab (G181 fuel) (J181 fuel) kp181 fuel Try.f181 [.c (.int .i64 x0), .c (.int .i64 x1)] [] k = F_ref02_Likely fuel x0 x1 (fun r => match r with | r0 => k (.c (.int .i64 r0), [])) :=
  F181_eqg fuel (F_ref02_unlikely fuel) x0 x1 k
theorem hG181 (fuel : Nat) : GOK Try.prog (G181 fuel) :=
  gok_cons ⟨ok206 fuel, enters_of Try.func206 (by kernel_rfl) rfl⟩ <|
  gok_nil
theorem fok181 (fuel : Nat) : FnOK Try.prog 181 (evalFn tab (G181 fuel) (J181 fuel) kp181 fuel Try.f181) :=
  fn_ok tab_ok (hG181 fuel) mixed Try.func181 (c := (Try.f181.body).getD .skip) rfl (fun q hq => by
    rw [(by kernel_rfl : obl (J181 fuel) ((Try.f181.body).getD .skip) = [])] at hq
    cases hq)
noncomputable def mt181 : List Ev.SV → List Ev.Ob → Bool := fun args objs => match args, objs with
 | [.c (.int .i64 _), .c (.int .i64 _)], [] => true
 | _, _ => false
noncomputable def spg181 (F : YF181) : Ev.Spec := fun args objs k => match args, objs with
 | [.c (.int .i64 x0), .c (.int .i64 x1)], [] => bif true then F x0 x1 (fun r => match r with | r0 => k (.c (.int .i64 r0), [])) else none
 | _, _ => none
noncomputable def spec181 (fuel : Nat) : Ev.Spec := spg181 (F_ref02_Likely fuel)
theorem ok181 (fuel : Nat) : FnOK Try.prog 181 (spec181 fuel) := by
  intro args objs kk r h
  unfold spec181 spg181 at h
  split at h
  · skip
    obtain ⟨hb, h⟩ := cond_some' h
    simp only [Bool.and_eq_true, Nat.beq_eq, decide_eq_true_eq] at hb
    clear hb
    exact fok181 fuel _ _ kk r ((F181_eq fuel _ _ kk).trans h)
  · cases h
end Go.Proofs.Ytihfgpfofmjbaaa

set_option linter.unusedVariables false
set_option linter.unusedSimpArgs false
set_option maxRecDepth 100000
set_option maxHeartbeats 2000000
namespace Go.Proofs.Ytihfgpfofmjbaaa
open Go Ev
def kp123_0a6 (i : Nat) : Option (List Nat) := Ev.look i [(12, [0, 1, 7, 8, 9, 10]), (100000, [0, 1, 7, 8, 9, 10]), (200007, [0]), (200009, [0]), (200011, [0]), (200020, [0]), (400000, [4, 5])]
noncomputable def Gg123_0a6 (f119 : YF119) (f181 : YF181) (f182 : YF182) (f183 : YF183) (f184 : YF184) (f185 : YF185) (f186 : YF186) (f : Nat) : Option Ev.Spec := Ev.look f [(119, spg119 f119), (181, spg181 f181), (182, spg182 f182), (183, spg183 f183), (184, spg184 f184), (185, spg185 f185), (186, spg186 f186)]
noncomputable def G123_0a6 (fuel : Nat) : Nat → Option Ev.Spec := Gg123_0a6 (F_ref02_byteAt fuel) (F_ref02_Likely fuel) (F_ref02_Interval_Mid fuel) (F_ref02_Interval_Part fuel) (F_ref02_Interval_Fixed fuel) (F_ref02_Interval_Shifted fuel) (F_ref02_After fuel)
noncomputable def Sg_ref02_Decoder_Get_0a6_0 (fuel : Nat) (f119 : YF119) (f181 : YF181) (f182 : YF182) (f183 : YF183) (f184 : YF184) (f185 : YF185) (f186 : YF186) (x0 x1 : Int) (x2 x3 : Int) (x4 x5 : Int) (x6 x7 : Int) (x8 x9 : Int) (x10 : Bool) (x11 x12 : (List Int)) (x13 x14 : Int) (c : (Int × Int × Int × Int × Int × Int × Int × Int × Int × Int × Bool × (List Int) × (List Int) × Int × Int) → Option Ans) (B : (Int × Int × Int × Int × Int × Int × Int × Int × Int × Int × Bool × (List Int) × (List Int) × Int × Int → Option Ans)) : Option Ans := match B with
 | b =>
  (f184 (x13) (x14)
  (fun y2 =>
  bif y2 then
  (f185 (x13) (x14)
  (fun (y7_0, y7_1) =>
  (f119 (x12) (x2)
  (fun y11 =>
  c (x0, x1, IntKind.i64.wrap (x2 + (1 : Int)), IntKind.u64.wrap (IntKind.u64.wrap (x3.tmod (16777216 : Int) * (256 : Int)) + y11), x4, x5, x6, x7, x8, x9, x10, x11, x12, y7_0, y7_1)))))
  else
  b (x0, x1, x2, x3, x4, x5, x6, x7, x8, x9, x10, x11, x12, x13, x14)))
noncomputable def S_ref02_Decoder_Get_0a6_0 (fuel : Nat) (v : Int × Int × Int × Int × Int × Int × Int × Int × Int × Int × Bool × (List Int) × (List Int) × Int × Int) (c : (Int × Int × Int × Int × Int × Int × Int × Int × Int × Int × Bool × (List Int) × (List Int) × Int × Int) → Option Ans) (B : (Int × Int × Int × Int × Int × Int × Int × Int × Int × Int × Bool × (List Int) × (List Int) × Int × Int → Option Ans)) : Option Ans := match v with
 | (x0, x1, x2, x3, x4, x5, x6, x7, x8, x9, x10, x11, x12, x13, x14) => Sg_ref02_Decoder_Get_0a6_0 fuel (F_ref02_byteAt fuel) (F_ref02_Likely fuel) (F_ref02_Interval_Mid fuel) (F_ref02_Interval_Part fuel) (F_ref02_Interval_Fixed fuel) (F_ref02_Interval_Shifted fuel) (F_ref02_After fuel) x0 x1 x2 x3 x4 x5 x6 x7 x8 x9 x10 x11 x12 x13 x14 c B
noncomputable def L_ref02_Decoder_Get_0a6_0 (fuel : Nat) (v : Int × Int × Int × Int × Int × Int × Int × Int × Int × Int × Bool × (List Int) × (List Int) × Int × Int) (b : (Int × Int × Int × Int × Int × Int × Int × Int × Int × Int × Bool × (List Int) × (List Int) × Int × Int → Option Ans)) : Option Ans := iter (S_ref02_Decoder_Get_0a6_0 fuel) fuel v b
noncomputable def J123_0a6_0 (fuel : Nat) (i : Nat) : Option Ev.Blk := Ev.look i []
noncomputable def T123_0a6_0 (v : Int × Int × Int × Int × Int × Int × Int × Int × Int × Int × Bool × (List Int) × (List Int) × Int × Int) : Ev.St := match v with | (x0, x1, x2, x3, x4, x5, x6, x7, x8, x9, x10, x11, x12, x13, x14) => ⟨[(0, .c (.ptr 0 0)), (1, .c (.int .i64 x0)), (7, .c (.int .i64 x1)), (8, .c (.ptr 3 0)), (9, .c (.int .i64 x2)), (10, .c (.int .u64 x3))], [(0, .cells 164 [.int .i64 x4, .own 1, .int .u64 x5, .int .u64 x6, .own 2, .int .i64 x7, .int .u64 x8, .int .i64 x9, .bool x10]), (1, .vec 3 (.int .i64) x11 false), (2, .vec 5 (.int .u8) x12 false), (3, .cells 161 [.int .u64 x13, .int .u64 x14])], 4, 3⟩
noncomputable def E123_0a6_0 (K : Ev.Ex → Ev.St → Option Ans) : (Int × Int × Int × Int × Int × Int × Int × Int × Int × Int × Bool × (List Int) × (List Int) × Int × Int → Option Ans) := (fun v => match v with | (x0, x1, x2, x3, x4, x5, x6, x7, x8, x9, x10, x11, x12, x13, x14) => K .normal ⟨[(0, .c (.ptr 0 0)), (1, .c (.int .i64 x0)), (7, .c (.int .i64 x1)), (8, .c (.ptr 3 0)), (9, .c (.int .i64 x2)), (10, .c (.int .u64 x3))], [(0, .cells 164 [.int .i64 x4, .own 1, .int .u64 x5, .int .u64 x6, .own 2, .int .i64 x7, .int .u64 x8, .int .i64 x9, .bool x10]), (1, .vec 3 (.int .i64) x11 false), (2, .vec 5 (.int .u8) x12 false), (3, .cells 161 [.int .u64 x13, .int .u64 x14])], 4, 3⟩)
theorem S123_0a6_0_okg (fuel : Nat) (f119 : YF119) (f181 : YF181) (f182 : YF182) (f183 : YF183) (f184 : YF184) (f185 : YF185) (f186 : YF186) (R : Ev.St → Option Ans) (K : Ev.Ex → Ev.St → Option Ans) (x0 x1 : Int) (x2 x3 : Int) (x4 x5 : Int) (x6 x7 : Int) (x8 x9 : Int) (x10 : Bool) (x11 x12 : (List Int)) (x13 x14 : Int) : evalCode tab (Gg123_0a6 f119 f181 f182 f183 f184 f185 f186) (J123_0a6_0 fuel) kp123_0a6 fuel (bodyOf 0 Try.f123) (T123_0a6_0 (x0, x1, x2, x3, x4, x5, x6, x7, x8, x9, x10, x11, x12, x13, x14)) (lc kp123_0a6 12 0 R K) = Sg_ref02_Decoder_Get_0a6_0 fuel f119 f181 f182 f183 f184 f185 f186 x0 x1 x2 x3 x4 x5 x6 x7 x8 x9 x10 x11 x12 x13 x14 (fun v => R (T123_0a6_0 v)) (E123_0a6_0 K) := by
  kernel_rfl
theorem S123_0a6_0_ok (fuel : Nat) (R : Ev.St → Option Ans) (K : Ev.Ex → Ev.St → Option Ans) (x0 x1 : Int) (x2 x3 : Int) (x4 x5 : Int) (x6 x7 : Int) (x8 x9 : Int) (x10 : Bool) (x11 x12 : (List Int)) (x13 x14 : Int) : evalCode tab (G123_0a6 fuel) (J123_0a6_0 fuel) kp123_0a6 fuel (bodyOf 0 Try.f123) (T123_0a6_0 (x0, x1, x2, x3, x4, x5, x6, x7, x8, x9, x10, x11, x12, x13, x14)) (lc kp123_0a6 12 0 R K) = S_ref02_Decoder_Get_0a6_0 fuel (x0, x1, x2, x3, x4, x5, x6, x7, x8, x9, x10, x11, x12, x13, x14) (fun v => R (T123_0a6_0 v)) (E123_0a6_0 K) :=
  S123_0a6_0_okg fuel (F_ref02_byteAt fuel) (F_ref02_Likely fuel) (F_ref02_Interval_Mid fuel) (F_ref02_Interval_Part fuel) (F_ref02_Interval_Fixed fuel) (F_ref02_Interval_Shifted fuel) (F_ref02_After fuel) R K x0 x1 x2 x3 x4 x5 x6 x7 x8 x9 x10 x11 x12 x13 x14
noncomputable def B123_0a6_0 (fuel : Nat) : Ev.Blk := fun st K => match canonO (kp123_0a6 12) st with
 | some s => (match s with
 | ⟨[(q0, .c (.ptr q1 q2)), (q3, .c (.int .i64 x0)), (q4, .c (.int .i64 x1)), (q5, .c (.ptr q6 q7)), (q8, .c (.int .i64 x2)), (q9, .c (.int .u64 x3))], [(q10, .cells q11 [.int .i64 x4, .own q12, .int .u64 x5, .int .u64 x6, .own q13, .int .i64 x7, .int .u64 x8, .int .i64 x9, .bool x10]), (q14, .vec q15 (.int .i64) x11 false), (q16, .vec q17 (.int .u8) x12 false), (q18, .cells q19 [.int .u64 x13, .int .u64 x14])], q20, q21⟩ => bif Nat.beq q0 0 && Nat.beq q1 0 && Nat.beq q2 0 && Nat.beq q3 1 && Nat.beq q4 7 && Nat.beq q5 8 && Nat.beq q6 3 && Nat.beq q7 0 && Nat.beq q8 9 && Nat.beq q9 10 && Nat.beq q10 0 && Nat.beq q11 164 && Nat.beq q12 1 && Nat.beq q13 2 && Nat.beq q14 1 && Nat.beq q15 3 && Nat.beq q16 2 && Nat.beq q17 5 && Nat.beq q18 3 && Nat.beq q19 161 && Nat.beq q20 4 && Nat.beq q21 3 then iter (S_ref02_Decoder_Get_0a6_0 fuel) fuel (x0, x1, x2, x3, x4, x5, x6, x7, x8, x9, x10, x11, x12, x13, x14) (E123_0a6_0 K) else none
 | _ => none)
 | none => none
theorem B123_0a6_0_ok (fuel : Nat) (st : Ev.St) (K : Ev.Ex → Ev.St → Option Ans) (r : Ans) (h : B123_0a6_0 fuel st K = some r) : evalCode tab (G123_0a6 fuel) (J123_0a6_0 fuel) kp123_0a6 fuel (.block 0 (.loop (bodyOf 0 Try.f123))) st K = some r := by
  unfold B123_0a6_0 at h
  split at h
  · rename_i s hs
    split at h
    · skip
      obtain ⟨hb, h⟩ := cond_some' h
      simp only [Bool.and_eq_true, Nat.beq_eq, decide_eq_true_eq] at hb
      obtain ⟨⟨⟨⟨⟨⟨⟨⟨⟨⟨⟨⟨⟨⟨⟨⟨⟨⟨⟨⟨⟨rfl, rfl⟩, rfl⟩, rfl⟩, rfl⟩, rfl⟩, rfl⟩, rfl⟩, rfl⟩, rfl⟩, rfl⟩, rfl⟩, rfl⟩, rfl⟩, rfl⟩, rfl⟩, rfl⟩, rfl⟩, rfl⟩, rfl⟩, rfl⟩, rfl⟩ := hb
      exact blk_loop (S := T123_0a6_0) (ks := E123_0a6_0) (step := S_ref02_Decoder_Get_0a6_0 fuel) (v := (_, _, _, _, _, _, _, _, _, _, _, _, _, _, _)) (by kernel_rfl) (by kernel_rfl) (fun R K v => by obtain ⟨x0, x1, x2, x3, x4, x5, x6, x7, x8, x9, x10, x11, x12, x13, x14⟩ := v; exact S123_0a6_0_ok fuel R K x0 x1 x2 x3 x4 x5 x6 x7 x8 x9 x10 x11 x12 x13 x14) hs h
    · cases h
  · cases h
noncomputable def J123_0a6 (fuel : Nat) (i : Nat) : Option Ev.Blk := Ev.look i [(100000, B123_0a6_0 fuel)]
noncomputable def Fg_ref02_Decoder_Get_0a6 (fuel : Nat) (f119 : YF119) (f181 : YF181) (f182 : YF182) (f183 : YF183) (f184 : YF184) (f185 : YF185) (f186 : YF186) (x0 x1 : Int) (x2 x3 : Int) (x4 x5 x6 : Int) (x7 : Bool) (x8 x9 : (List Int)) (k0 : (Int × Int × Int × Int × Int × Int × Int × Int × Bool × (List Int) × (List Int)) → Option Ans) : Option Ans :=
  bif decide (x0 < (0 : Int)) then
  k0 ((0 : Int), (2 : Int), x1, x2, x3, x4, x5, x6, x7, x8, x9)
  else
  bif decide (x0 ≥ (↑x8.length : Int)) then
  k0 ((0 : Int), (2 : Int), x1, x2, x3, x4, x5, x6, x7, x8, x9)
  else
  bif x7 then
  k0 ((0 : Int), (6 : Int), x1, x2, x3, x4, x5, x6, x7, x8, x9)
  else
  bif decide ((0 : Int) ≤ x0 ∧ x0 < (↑x8.length : Int)) then
  (f181 (x1) (x8.getD x0.toNat (0 : Int))
  (fun y6 =>
  (f182 (x2) (x3) (y6)
  (fun y10 =>
  bif decide (x5 ≤ y10) then
  both ((f183 (x2) (x3) (y6) ((1 : Int))
  (fun (y17_0, y17_1) =>
  (L_ref02_Decoder_Get_0a6_0 fuel (x0, (1 : Int), x4, x5, x1, x2, x3, x4, x5, x6, x7, x8, x9, y17_0, y17_1)
  (fun (b0_0, b0_1, b0_2, b0_3, b0_4, b0_5, b0_6, b0_7, b0_8, b0_9, b0_10, b0_11, b0_12, b0_13, b0_14) =>
  bif decide ((bif decide (IntKind.i64.wrap (b0_2 - (↑b0_12.length : Int)) > (0 : Int)) then IntKind.i64.wrap (b0_2 - (↑b0_12.length : Int)) else (0 : Int)) > (4 : Int)) then
  k0 ((0 : Int), (6 : Int), b0_4, b0_5, b0_6, b0_7, b0_8, b0_9, true, b0_11, b0_12)
  else
  bif decide ((0 : Int) ≤ b0_0 ∧ b0_0 < (↑b0_11.length : Int)) then
  (f186 (b0_4) (b0_11.getD b0_0.toNat (0 : Int)) (b0_1)
  (fun y27 =>
  bif decide ((0 : Int) ≤ b0_0 ∧ b0_0 < (↑b0_11.length : Int)) then
  k0 (b0_1, (0 : Int), b0_4, b0_13, b0_14, b0_2, b0_3, bif decide (IntKind.i64.wrap (b0_2 - (↑b0_12.length : Int)) > (0 : Int)) then IntKind.i64.wrap (b0_2 - (↑b0_12.length : Int)) else (0 : Int), b0_10, b0_11.set b0_0.toNat y27, b0_12)
  else none))
  else none)))))
  ((f183 (x2) (x3) (y6) ((1 : Int))
  (fun (y17_0, y17_1) =>
  (L_ref02_Decoder_Get_0a6_0 fuel (x0, (1 : Int), x4, x5, x1, x2, x3, x4, x5, x6, x7, x8, x9, y17_0, y17_1)
  (fun (b0_0, b0_1, b0_2, b0_3, b0_4, b0_5, b0_6, b0_7, b0_8, b0_9, b0_10, b0_11, b0_12, b0_13, b0_14) =>
  bif decide ((bif decide (IntKind.i64.wrap (b0_2 - (↑b0_12.length : Int)) > (0 : Int)) then IntKind.i64.wrap (b0_2 - (↑b0_12.length : Int)) else (0 : Int)) > (4 : Int)) then
  k0 ((0 : Int), (6 : Int), b0_4, b0_5, b0_6, b0_7, b0_8, b0_9, true, b0_11, b0_12)
  else
  bif decide ((0 : Int) ≤ b0_0 ∧ b0_0 < (↑b0_11.length : Int)) then
  (f186 (b0_4) (b0_11.getD b0_0.toNat (0 : Int)) (b0_1)
  (fun y27 =>
  bif decide ((0 : Int) ≤ b0_0 ∧ b0_0 < (↑b0_11.length : Int)) then
  k0 (b0_1, (0 : Int), b0_4, b0_13, b0_14, b0_2, b0_3, bif decide (IntKind.i64.wrap (b0_2 - (↑b0_12.length : Int)) > (0 : Int)) then IntKind.i64.wrap (b0_2 - (↑b0_12.length : Int)) else (0 : Int), b0_10, b0_11.set b0_0.toNat y27, b0_12)
  else none))
  else none)))))
  else
  both ((f183 (x2) (x3) (y6) ((0 : Int))
  (fun (y17_0, y17_1) =>
  (L_ref02_Decoder_Get_0a6_0 fuel (x0, (0 : Int), x4, x5, x1, x2, x3, x4, x5, x6, x7, x8, x9, y17_0, y17_1)
  (fun (b0_0, b0_1, b0_2, b0_3, b0_4, b0_5, b0_6, b0_7, b0_8, b0_9, b0_10, b0_11, b0_12, b0_13, b0_14) =>
  bif decide ((bif decide (IntKind.i64.wrap (b0_2 - (↑b0_12.length : Int)) > (0 : Int)) then IntKind.i64.wrap (b0_2 - (↑b0_12.length : Int)) else (0 : Int)) > (4 : Int)) then
  k0 ((0 : Int), (6 : Int), b0_4, b0_5, b0_6, b0_7, b0_8, b0_9, true, b0_11, b0_12)
  else
  bif decide ((0 : Int) ≤ b0_0 ∧ b0_0 < (↑b0_11.length : Int)) then
  (f186 (b0_4) (b0_11.getD b0_0.toNat (0 : Int)) (b0_1)
  (fun y27 =>
  bif decide ((0 : Int) ≤ b0_0 ∧ b0_0 < (↑b0_11.length : Int)) then
  k0 (b0_1, (0 : Int), b0_4, b0_13, b0_14, b0_2, b0_3, bif decide (IntKind.i64.wrap (b0_2 - (↑b0_12.length : Int)) > (0 : Int)) then IntKind.i64.wrap (b0_2 - (↑b0_12.length : Int)) else (0 : Int), b0_10, b0_11.set b0_0.toNat y27, b0_12)
  else none))
  else none)))))
  ((f183 (x2) (x3) (y6) ((0 : Int))
  (fun (y17_0, y17_1) =>
  (L_ref02_Decoder_Get_0a6_0 fuel (x0, (0 : Int), x4, x5, x1, x2, x3, x4, x5, x6, x7, x8, x9, y17_0, y17_1)
  (fun (b0_0, b0_1, b0_2, b0_3, b0_4, b0_5, b0_6, b0_7, b0_8, b0_9, b0_10, b0_11, b0_12, b0_13, b0_14) =>
  bif decide ((bif decide (IntKind.i64.wrap (b0_2 - (↑b0_12.length : Int)) > (0 : Int)) then IntKind.i64.wrap (b0_2 - (↑b0_12.length : Int)) else (0 : Int)) > (4 : Int)) then
  k0 ((0 : Int), (6 : Int), b0_4, b0_5, b0_6, b0_7, b0_8, b0_9, true, b0_11, b0_12)
  else
  bif decide ((0 : Int) ≤ b0_0 ∧ b0_0 < (↑b0_11.length : Int)) then
  (f186 (b0_4) (b0_11.getD b0_0.toNat (0 : Int)) (b0_1)
  (fun y27 =>
  bif decide ((0 : Int) ≤ b0_0 ∧ b0_0 < (↑b0_11.length : Int)) then
  k0 (b0_1, (0 : Int), b0_4, b0_13, b0_14, b0_2, b0_3, bif decide (IntKind.i64.wrap (b0_2 - (↑b0_12.length : Int)) > (0 : Int)) then IntKind.i64.wrap (b0_2 - (↑b0_12.length : Int)) else (0 : Int), b0_10, b0_11.set b0_0.toNat y27, b0_12)
  else none))
  else none)))))))))
  else none
noncomputable def F_ref02_Decoder_Get_0a6 (fuel : Nat) (x0 x1 : Int) (x2 x3 : Int) (x4 x5 x6 : Int) (x7 : Bool) (x8 x9 : (List Int)) (k0 : (Int × Int × Int × Int × Int × Int × Int × Int × Bool × (List Int) × (List Int)) → Option Ans) : Option Ans := Fg_ref02_Decoder_Get_0a6 fuel (F_ref02_byteAt fuel) (F_ref02_Likely fuel) (F_ref02_Interval_Mid fuel) (F_ref02_Interval_Part fuel) (F_ref02_Interval_Fixed fuel) (F_ref02_Interval_Shifted fuel) (F_ref02_After fuel) x0 x1 x2 x3 x4 x5 x6 x7 x8 x9 k0
abbrev YF123_0a6 : Type := (Int) → (Int) → (Int) → (Int) → (Int) → (Int) → (Int) → (Bool) → ((List Int)) → ((List Int)) → ((Int × Int × Int × Int × Int × Int × Int × Int × Bool × (List Int) × (List Int)) → Option Ans) → Option Ans
theorem F123_0a6_eqg (fuel : Nat) (f119 : YF119) (f181 : YF181) (f182 : YF182) (f183 : YF183) (f184 : YF184) (f185 : YF185) (f186 : YF186) (x0 x1 : Int) (x2 x3 : Int) (x4 x5 x6 : Int) (x7 : Bool) (x8 x9 : (List Int)) (k : Ev.Cont) : evalFn tab (Gg123_0a6 f119 f181 f182 f183 f184 f185 f186) (J123_0a6 fuel) kp123_0a6 fuel Try.f123 [.c (.ptr 0 0), .c (.int .i64 x0)] [.cells 164 [.int .i64 x1, .own 1, .int .u64 x2, .int .u64 x3, .own 2, .int .i64 x4, .int .u64 x5, .int .i64 x6, .bool x7], .vec 3 (.int .i64) x8 false, .vec 5 (.int .u8) x9 false] k = Fg_ref02_Decoder_Get_0a6 fuel f119 f181 f182 f183 f184 f185 f186 x0 x1 x2 x3 x4 x5 x6 x7 x8 x9 (fun r => match r with | (r0, r1, r2, r3, r4, r5, r6, r7, r8, r9, r10) => k (.tup [(false, [.int .i64 r0]), (false, [.int .i64 r1])], [.cells 164 [.int .i64 r2, .own 1, .int .u64 r3, .int .u64 r4, .own 2, .int .i64 r5, .int .u64 r6, .int .i64 r7, .bool r8], .vec 3 (.int .i64) r9 false, .vec 5 (.int .u8) r10 false])) := by
  kernel_rfl
theorem F123_0a6_eq (fuel : Nat) (x0 x1 : Int) (x2 x3 : Int) (x4 x5 x6 : Int) (x7 : Bool) (x8 x9 : (List Int)) (k : Ev.Cont) : evalFn tab (G123_0a6 fuel) (J123_0a6 fuel) kp123_0a6 fuel Try.f123 [.c (.ptr 0 0), .c (.int .i64 x0)] [.cells 164 [.int .i64 x1, .own 1, .int .u64 x2, .int .u64 x3, .own 2, .int .i64 x4, .int .u64 x5, .int .i64 x6, .bool x7], .vec 3 (.int .i64) x8 false, .vec 5 (.int .u8) x9 false] k = F_ref02_Decoder_Get_0a6 fuel x0 x1 x2 x3 x4 x5 x6 x7 x8 x9 (fun r => match r with | (r0, r1, r2, r3, r4, r5, r6, r7, r8, r9, r10) => k (.tup [(false, [.int .i64 r0]), (false, [.int .i64 r1])], [.cells 164 [.int .i64 r2, .own 1, .int .u64 r3, .int .u64 r4, .own 2, .int .i64 r5, .int .u64 r6, .int .i64 r7, .bool r8], .vec 3 (.int .i64) r9 false, .vec 5 (.int .u8) r10 false])) :=
  F123_0a6_eqg fuel (F_ref02_byteAt fuel) (F_ref02_Likely fuel) (F_ref02_Interval_Mid fuel) (F_ref02_Interval_Part fuel) (F_ref02_Interval_Fixed fuel) (F_ref02_Interval_Shifted fuel) (F_ref02_After fuel) x0 x1 x2 x3 x4 x5 x6 x7 x8 x9 k
theorem hG123_0a6 (fuel : Nat) : GOK Try.prog (G123_0a6 fuel) :=
  gok_cons ⟨ok119 fuel, enters_of Try.func119 (by kernel_rfl) rfl⟩ <|
  gok_cons ⟨ok181 fuel, enters_of Try.func181 (by kernel_rfl) rfl⟩ <|
  gok_cons ⟨ok182 fuel, enters_of Try.func182 (by kernel_rfl) rfl⟩ <|
  gok_cons ⟨ok183 fuel, enters_of Try.func183 (by kernel_rfl) rfl⟩ <|
  gok_cons ⟨ok184 fuel, enters_of Try.func184 (by kernel_rfl) rfl⟩ <|
  gok_cons ⟨ok185 fuel, enters_of Try.func185 (by kernel_rfl) rfl⟩ <|
  gok_cons ⟨ok186 fuel, enters_of Try.func186 (by kernel_rfl) rfl⟩ <|
  gok_nil
theorem B123_0a6_0_blk (fuel : Nat) : BlkOK Try.prog Try.f123.ntmps (.block 0 (.loop (bodyOf 0 Try.f123))) (B123_0a6_0 fuel) :=
  blk_of (blk_of_code tab_ok (hG123_0a6 fuel) mixed (J := J123_0a6_0 fuel) (kp := kp123_0a6) (fuel := fuel) (by kernel_rfl) (fun q hq => by
    rw [(by kernel_rfl : obl (J123_0a6_0 fuel) (.block 0 (.loop (bodyOf 0 Try.f123))) = [])] at hq
    cases hq)) (B123_0a6_0_ok fuel)
theorem fok123_0a6 (fuel : Nat) : FnOK Try.prog 123 (evalFn tab (G123_0a6 fuel) (J123_0a6 fuel) kp123_0a6 fuel Try.f123) :=
  fn_ok tab_ok (hG123_0a6 fuel) mixed Try.func123 (c := (Try.f123.body).getD .skip) rfl (fun q hq => by
    rw [(by kernel_rfl : obl (J123_0a6 fuel) ((Try.f123.body).getD .skip) = [(.block 0 (.loop (bodyOf 0 Try.f123)), B123_0a6_0 fuel)])] at hq
    simp only [List.mem_cons, List.not_mem_nil, or_false] at hq
    subst hq
    · exact B123_0a6_0_blk fuel)
noncomputable def mt123_0a6 : List Ev.SV → List Ev.Ob → Bool := fun args objs => match args, objs with
 | [.c (.ptr q0 q1), .c (.int .i64 _)], [.cells q2 [.int .i64 _, .own q3, .int .u64 _, .int .u64 _, .own q4, .int .i64 _, .int .u64 _, .int .i64 _, .bool _], .vec q5 (.int .i64) _ false, .vec q6 (.int .u8) _ false] => Nat.beq q0 0 && Nat.beq q1 0 && Nat.beq q2 164 && Nat.beq q3 1 && Nat.beq q4 2 && Nat.beq q5 3 && Nat.beq q6 5
 | _, _ => false
noncomputable def spg123_0a6 (F : YF123_0a6) : Ev.Spec := fun args objs k => match args, objs with
 | [.c (.ptr q0 q1), .c (.int .i64 x0)], [.cells q2 [.int .i64 x1, .own q3, .int .u64 x2, .int .u64 x3, .own q4, .int .i64 x4, .int .u64 x5, .int .i64 x6, .bool x7], .vec q5 (.int .i64) x8 false, .vec q6 (.int .u8) x9 false] => bif Nat.beq q0 0 && Nat.beq q1 0 && Nat.beq q2 164 && Nat.beq q3 1 && Nat.beq q4 2 && Nat.beq q5 3 && Nat.beq q6 5 then F x0 x1 x2 x3 x4 x5 x6 x7 x8 x9 (fun r => match r with | (r0, r1, r2, r3, r4, r5, r6, r7, r8, r9, r10) => k (.tup [(false, [.int .i64 r0]), (false, [.int .i64 r1])], [.cells 164 [.int .i64 r2, .own 1, .int .u64 r3, .int .u64 r4, .own 2, .int .i64 r5, .int .u64 r6, .int .i64 r7, .bool r8], .vec 3 (.int .i64) r9 false, .vec 5 (.int .u8) r10 false])) else none
 | _, _ => none
noncomputable def spec123_0a6 (fuel : Nat) : Ev.Spec := spg123_0a6 (F_ref02_Decoder_Get_0a6 fuel)
theorem ok123_0a6 (fuel : Nat) : FnOK Try.prog 123 (spec123_0a6 fuel) := by
  intro args objs kk r h
  unfold spec123_0a6 spg123_0a6 at h
  split at h
  · skip
    obtain ⟨hb, h⟩ := cond_some' h
    simp only [Bool.and_eq_true, Nat.beq_eq, decide_eq_true_eq] at hb
    obtain ⟨⟨⟨⟨⟨⟨rfl, rfl⟩, rfl⟩, rfl⟩, rfl⟩, rfl⟩, rfl⟩ := hb
    exact fok123_0a6 fuel _ _ kk r ((F123_0a6_eq fuel _ _ _ _ _ _ _ _ _ _ kk).trans h)
  · cases h
end Go.Proofs.Ytihfgpfofmjbaaa

set_option linter.unusedVariables false
set_option linter.unusedSimpArgs false
set_option maxRecDepth 100000
set_option maxHeartbeats 2000000
namespace Go.Proofs.Ytihfgpfofmjbaaa
open Go Ev
def kp121_a7e (i : Nat) : Option (List Nat) := Ev.look i []
noncomputable def Gg121_a7e (f117 : YF117) (f : Nat) : Option Ev.Spec := Ev.look f [(117, spg117 f117)]
noncomputable def G121_a7e (fuel : Nat) : Nat → Option Ev.Spec := Gg121_a7e (F_ref02_Copy fuel)
noncomputable def J121_a7e (fuel : Nat) (i : Nat) : Option Ev.Blk := Ev.look i []
noncomputable def Fg_ref02_Decoder_Model_a7e (fuel : Nat) (f117 : YF117) (x0 x1 : Int) (x2 x3 : Int) (x4 x5 : Int) (x6 : Bool) (x7 x8 : (List Int)) (k0 : (Int × Int × Int × Int × Int × Int × Int × Bool × (List Int) × (List Int) × (List Int)) → Option Ans) : Option Ans :=
  (f117 (x0) (x7)
  (fun (y2_0, y2_1) =>
  k0 (y2_0, x0, x1, x2, x3, x4, x5, x6, x7, x8, y2_1)))
noncomputable def F_ref02_Decoder_Model_a7e (fuel : Nat) (x0 x1 : Int) (x2 x3 : Int) (x4 x5 : Int) (x6 : Bool) (x7 x8 : (List Int)) (k0 : (Int × Int × Int × Int × Int × Int × Int × Bool × (List Int) × (List Int) × (List Int)) → Option Ans) : Option Ans := Fg_ref02_Decoder_Model_a7e fuel (F_ref02_Copy fuel) x0 x1 x2 x3 x4 x5 x6 x7 x8 k0
abbrev YF121_a7e : Type := (Int) → (Int) → (Int) → (Int) → (Int) → (Int) → (Bool) → ((List Int)) → ((List Int)) → ((Int × Int × Int × Int × Int × Int × Int × Bool × (List Int) × (List Int) × (List Int)) → Option Ans) → Option Ans
theorem F121_a7e_eqg (fuel : Nat) (f117 : YF117) (x0 x1 : Int) (x2 x3 : Int) (x4 x5 : Int) (x6 : Bool) (x7 x8 : (List Int)) (k : Ev.Cont) : evalFn tab (Gg121_a7e f117) (J121_a7e fuel) kp121_a7e fuel Try.f121 [.c (.ptr 0 0)] [.cells 164 [.int .i64 x0, .own 1, .int .u64 x1, .int .u64 x2, .own 2, .int .i64 x3, .int .u64 x4, .int .i64 x5, .bool x6], .vec 3 (.int .i64) x7 false, .vec 5 (.int .u8) x8 false] k = Fg_ref02_Decoder_Model_a7e fuel f117 x0 x1 x2 x3 x4 x5 x6 x7 x8 (fun r => match r with | (r0, r1, r2, r3, r4, r5, r6, r7, r8, r9, r10) => k (.agg [.int .i64 r0, .own 3], [.cells 164 [.int .i64 r1, .own 1, .int .u64 r2, .int .u64 r3, .own 2, .int .i64 r4, .int .u64 r5, .int .i64 r6, .bool r7], .vec 3 (.int .i64) r8 false, .vec 5 (.int .u8) r9 false, .vec 3 (.int .i64) r10 true])) := by
  kernel_rfl
theorem F121_a7e_eq (fuel : Nat) (x0 x1 : Int) (x2 x3 : Int) (x4 x5 : Int) (x6 : Bool) (x7 x8 : (List Int)) (k : Ev.Cont) : evalFn tab (G121_a7e fuel) (J121_a7e fuel) kp121_a7e fuel Try.f121 [.c (.ptr 0 0)] [.cells 164 [.int .i64 x0, .own 1, .int .u64 x1, .int .u64 x2, .own 2, .int .i64 x3, .int .u64 x4, .int .i64 x5, .bool x6], .vec 3 (.int .i64) x7 false, .vec 5 (.int .u8) x8 false] k = F_ref02_Decoder_Model_a7e fuel x0 x1 x2 x3 x4 x5 x6 x7 x8 (fun r => match r with | (r0, r1, r2, r3, r4, r5, r6, r7, r8, r9, r10) => k (.agg [.int .i64 r0, .own 3], [.cells 164 [.int .i64 r1, .own 1, .int .u64 r2, .int .u64 r3, .own 2, .int .i64 r4, .int .u64 r5, .int .i64 r6, .bool r7], .vec 3 (.int .i64) r8 false, .vec 5 (.int .u8) r9 false, .vec 3 (.int .i64) r10 true])) :=
  F121_a7e_eqg fuel (F_ref02_Copy fuel) x0 x1 x2 x3 x4 x5 x6 x7 x8 k
theorem hG121_a7e (fuel : Nat) : GOK Try.prog (G121_a7e fuel) :=
  gok_cons ⟨ok117 fuel, enters_of Try.func117 (by kernel_rfl) rfl⟩ <|
  gok_nil
theorem fok121_a7e (fuel : Nat) : FnOK Try.prog 121 (evalFn tab (G121_a7e fuel) (J121_a7e fuel) kp121_a7e fuel Try.f121) :=
  fn_ok tab_ok (hG121_a7e fuel) mixed Try.func121 (c := (Try.f121.body).getD .skip) rfl (fun q hq => by
    rw [(by kernel_rfl : obl (J121_a7e fuel) ((Try.f121.body).getD .skip) = [])] at hq
    cases hq)
noncomputable def mt121_a7e : List Ev.SV → List Ev.Ob → Bool := fun args objs => match args, objs with
 | [.c (.ptr q0 q1)], [.cells q2 [.int .i64 _, .own q3, .int .u64 _, .int .u64 _, .own q4, .int .i64 _, .int .u64 _, .int .i64 _, .bool _], .vec q5 (.int .i64) _ false, .vec q6 (.int .u8) _ false] => Nat.beq q0 0 && Nat.beq q1 0 && Nat.beq q2 164 && Nat.beq q3 1 && Nat.beq q4 2 && Nat.beq q5 3 && Nat.beq q6 5
 | _, _ => false
noncomputable def spg121_a7e (F : YF121_a7e) : Ev.Spec := fun args objs k => match args, objs with
 | [.c (.ptr q0 q1)], [.cells q2 [.int .i64 x0, .own q3, .int .u64 x1, .int .u64 x2, .own q4, .int .i64 x3, .int .u64 x4, .int .i64 x5, .bool x6], .vec q5 (.int .i64) x7 false, .vec q6 (.int .u8) x8 false] => bif Nat.beq q0 0 && Nat.beq q1 0 && Nat.beq q2 164 && Nat.beq q3 1 && Nat.beq q4 2 && Nat.beq q5 3 && Nat.beq q6 5 then F x0 x1 x2 x3 x4 x5 x6 x7 x8 (fun r => match r with | (r0, r1, r2, r3, r4, r5, r6, r7, r8, r9, r10) => k (.agg [.int .i64 r0, .own 3], [.cells 164 [.int .i64 r1, .own 1, .int .u64 r2, .int .u64 r3, .own 2, .int .i64 r4, .int .u64 r5, .int .i64 r6, .bool r7], .vec 3 (.int .i64) r8 false, .vec 5 (.int .u8) r9 false, .vec 3 (.int .i64) r10 true])) else none
 | _, _ => none
noncomputable def spec121_a7e (fuel : Nat) : Ev.Spec := spg121_a7e (F_ref02_Decoder_Model_a7e fuel)
theorem ok121_a7e (fuel : Nat) : FnOK Try.prog 121 (spec121_a7e fuel) := by
  intro args objs kk r h
  unfold spec121_a7e spg121_a7e at h
  split at h
  · skip
    obtain ⟨hb, h⟩ := cond_some' h
    simp only [Bool.and_eq_true, Nat.beq_eq, decide_eq_true_eq] at hb
    obtain ⟨⟨⟨⟨⟨⟨rfl, rfl⟩, rfl⟩, rfl⟩, rfl⟩, rfl⟩, rfl⟩ := hb
    exact fok121_a7e fuel _ _ kk r ((F121_a7e_eq fuel _ _ _ _ _ _ _ _ _ kk).trans h)
  · cases h
end Go.Proofs.Ytihfgpfofmjbaaa

set_option linter.unusedVariables false
set_option linter.unusedSimpArgs false
set_option maxRecDepth 100000
set_option maxHeartbeats 2000000
namespace Go.Proofs.Ytihfgpfofmjbaaa
open Go Ev
def kp112 (i : Nat) : Option (List Nat) := Ev.look i []
noncomputable def Gg112 (f : Nat) : Option Ev.Spec := Ev.look f []
noncomputable def G112 (fuel : Nat) : Nat → Option Ev.Spec := Gg112
noncomputable def J112 (fuel : Nat) (i : Nat) : Option Ev.Blk := Ev.look i []
noncomputable def F_ref05_Sides (fuel : Nat) (x0 x1 : Int) (k0 : (Bool) → Option Ans) : Option Ans :=
  bif decide (x0 ≥ (0 : Int)) then
  bif decide (x1 ≥ (0 : Int)) then
  bif decide (x0 ≤ (200 : Int)) then
  bif decide (x1 ≤ (200 : Int)) then
  k0 (decide (IntKind.i64.wrap (x0 * x1) ≤ (8192 : Int)))
  else
  k0 false
  else
  k0 false
  else
  k0 false
  else
  k0 false
abbrev YF112 : Type := (Int) → (Int) → ((Bool) → Option Ans) → Option Ans
theorem F112_eq (fuel : Nat) (x0 x1 : Int) (k : Ev.Cont) : evalFn tab (G112 fuel) (J112 fuel) kp112 fuel Try.f112 [.c (.int .i64 x0), .c (.int .i64 x1)] [] k = F_ref05_Sides fuel x0 x1 (fun r => match r with | r0 => k (.c (.bool r0), [])) := by
  kernel_rfl
theorem hG112 (fuel : Nat) : GOK Try.prog (G112 fuel) :=
  gok_nil
theorem fok112 (fuel : Nat) : FnOK Try.prog 112 (evalFn tab (G112 fuel) (J112 fuel) kp112 fuel Try.f112) :=
  fn_ok tab_ok (hG112 fuel) mixed Try.func112 (c := (Try.f112.body).getD .skip) rfl (fun q hq => by
    rw [(by kernel_rfl : obl (J112 fuel) ((Try.f112.body).getD .skip) = [])] at hq
    cases hq)
noncomputable def mt112 : List Ev.SV → List Ev.Ob → Bool := fun args objs => match args, objs with
 | [.c (.int .i64 _), .c (.int .i64 _)], [] => true
 | _, _ => false
noncomputable def spg112 (F : YF112) : Ev.Spec := fun args objs k => match args, objs with
 | [.c (.int .i64 x0), .c (.int .i64 x1)], [] => bif true then F x0 x1 (fun r => match r with | r0 => k (.c (.bool r0), [])) else none
 | _, _ => none
noncomputable def spec112 (fuel : Nat) : Ev.Spec := spg112 (F_ref05_Sides fuel)
theorem ok112 (fuel : Nat) : FnOK Try.prog 112 (spec112 fuel) := by
  intro args objs kk r h
  unfold spec112 spg112 at h
  split at h
  · skip
    obtain ⟨hb, h⟩ := cond_some' h
    simp only [Bool.and_eq_true, Nat.beq_eq, decide_eq_true_eq] at hb
    clear hb
    exact fok112 fuel _ _ kk r ((F112_eq fuel _ _ kk).trans h)
  · cases h
end Go.Proofs.Ytihfgpfofmjbaaa

set_option linter.unusedVariables false
set_option linter.unusedSimpArgs false
set_option maxRecDepth 100000
set_option maxHeartbeats 2000000
namespace Go.Proofs.Ytihfgpfofmjbaaa
open Go Ev
def kp81 (i : Nat) : Option (List Nat) := Ev.look i []
noncomputable def Gg81 (f112 : YF112) (f154 : YF154) (f : Nat) : Option Ev.Spec := Ev.look f [(112, spg112 f112), (154, spg154 f154)]
noncomputable def G81 (fuel : Nat) : Nat → Option Ev.Spec := Gg81 (F_ref05_Sides fuel) (F_ref05_make2 fuel)
noncomputable def J81 (fuel : Nat) (i : Nat) : Option Ev.Blk := Ev.look i []
noncomputable def Fg_ref05_New (fuel : Nat) (f112 : YF112) (f154 : YF154) (x0 x1 x2 : Int) (k0 : (Int × Int × Int × (List Int)) → Option Ans) : Option Ans :=
  bif decide (x0 < (0 : Int)) then
  k0 ((0 : Int), (0 : Int), (2 : Int), [])
  else
  bif decide (x1 < (0 : Int)) then
  k0 ((0 : Int), (0 : Int), (2 : Int), [])
  else
  bif decide (x2 < (0 : Int)) then
  k0 ((0 : Int), (0 : Int), (2 : Int), [])
  else
  bif decide (x2 > (1 : Int)) then
  k0 ((0 : Int), (0 : Int), (2 : Int), [])
  else
  (f112 (x0) (x1)
  (fun y6 =>
  bif !y6 then
  k0 ((0 : Int), (0 : Int), (4 : Int), [])
  else
  (f154 (x0) (x1) (x2)
  (fun (y11_0, y11_1, y11_2) =>
  k0 (y11_0, y11_1, (0 : Int), y11_2)))))
noncomputable def F_ref05_New (fuel : Nat) (x0 x1 x2 : Int) (k0 : (Int × Int × Int × (List Int)) → Option Ans) : Option Ans := Fg_ref05_New fuel (F_ref05_Sides fuel) (F_ref05_make2 fuel) x0 x1 x2 k0
abbrev YF81 : Type := (Int) → (Int) → (Int) → ((Int × Int × Int × (List Int)) → Option Ans) → Option Ans
theorem F81_eqg (fuel : Nat) (f112 : YF112) (f154 : YF154) (x0 x1 x2 : Int) (k : Ev.Cont) : evalFn tab (Gg81 f112 f154) (J81 fuel) kp81 fuel Try.f81 [.c (.int .i64 x0), .c (.int .i64 x1), .c (.int .i64 x2)] [] k = Fg_ref05_New fuel f112 f154 x0 x1 x2 (fun r => match r with | (r0, r1, r2, r3) => k (.tup [(true, [.int .i64 r0, .int .i64 r1, .own 0]), (false, [.int .i64 r2])], [.vec 5 (.int .u8) r3 true])) := by
  kernel_rfl
theorem F81_eq (fuel : Nat) (x0 x1 x2 : Int) (k : Ev.Cont) : evalFn tab (G81 fuel) (J81 fuel) kp81 fuel Try.f81 [.c (.int .i64 x0), .c (.int .i64 x1), .c (.int .i64 x2)] [] k = F_ref05_New fuel x0 x1 x2 (fun r => match r with | (r0, r1, r2, r3) => k (.tup [(true, [.int .i64 r0, .int .i64 r1, .own 0]), (false, [.int .i64 r2])], [.vec 5 (.int .u8) r3 true])) :=
  F81_eqg fuel (F_ref05_Sides fuel) (F_ref05_make2 fuel) x0 x1 x2 k
theorem hG81 (fuel : Nat) : GOK Try.prog (G81 fuel) :=
  gok_cons ⟨ok112 fuel, enters_of Try.func112 (by kernel_rfl) rfl⟩ <|
  gok_cons ⟨ok154 fuel, enters_of Try.func154 (by kernel_rfl) rfl⟩ <|
  gok_nil
theorem fok81 (fuel : Nat) : FnOK Try.prog 81 (evalFn tab (G81 fuel) (J81 fuel) kp81 fuel Try.f81) :=
  fn_ok tab_ok (hG81 fuel) mixed Try.func81 (c := (Try.f81.body).getD .skip) rfl (fun q hq => by
    rw [(by kernel_rfl : obl (J81 fuel) ((Try.f81.body).getD .skip) = [])] at hq
    cases hq)
noncomputable def mt81 : List Ev.SV → List Ev.Ob → Bool := fun args objs => match args, objs with
 | [.c (.int .i64 _), .c (.int .i64 _), .c (.int .i64 _)], [] => true
 | _, _ => false
noncomputable def spg81 (F : YF81) : Ev.Spec := fun args objs k => match args, objs with
 | [.c (.int .i64 x0), .c (.int .i64 x1), .c (.int .i64 x2)], [] => bif true then F x0 x1 x2 (fun r => match r with | (r0, r1, r2, r3) => k (.tup [(true, [.int .i64 r0, .int .i64 r1, .own 0]), (false, [.int .i64 r2])], [.vec 5 (.int .u8) r3 true])) else none
 | _, _ => none
noncomputable def spec81 (fuel : Nat) : Ev.Spec := spg81 (F_ref05_New fuel)
theorem ok81 (fuel : Nat) : FnOK Try.prog 81 (spec81 fuel) := by
  intro args objs kk r h
  unfold spec81 spg81 at h
  split at h
  · skip
    obtain ⟨hb, h⟩ := cond_some' h
    simp only [Bool.and_eq_true, Nat.beq_eq, decide_eq_true_eq] at hb
    clear hb
    exact fok81 fuel _ _ kk r ((F81_eq fuel _ _ _ kk).trans h)
  · cases h
end Go.Proofs.Ytihfgpfofmjbaaa

set_option linter.unusedVariables false
set_option linter.unusedSimpArgs false
set_option maxRecDepth 100000
set_option maxHeartbeats 2000000
namespace Go.Proofs.Ytihfgpfofmjbaaa
open Go Ev
def kp86 (i : Nat) : Option (List Nat) := Ev.look i [(4, [1, 3]), (100000, []), (400000, [2])]
noncomputable def Gg86 (f112 : YF112) (f : Nat) : Option Ev.Spec := Ev.look f [(112, spg112 f112)]
noncomputable def G86 (fuel : Nat) : Nat → Option Ev.Spec := Gg86 (F_ref05_Sides fuel)
noncomputable def Sg_ref05_Valid_0 (fuel : Nat) (f112 : YF112) (x0 x1 x2 : Int) (x3 : (List Int)) (c : (Int × Int × Int × (List Int)) → Option Ans) (B : (Bool → Option Ans) × (Unit → Option Ans)) : Option Ans := match B with
 | (ret, b) =>
  bif decide (x0 < (↑x3.length : Int)) then
  bif decide ((0 : Int) ≤ x0 ∧ x0 < (↑x3.length : Int)) then
  bif decide (x3.getD x0.toNat (0 : Int) > (1 : Int)) then
  ret false
  else
  c (IntKind.i64.wrap (x0 + (1 : Int)), x1, x2, x3)
  else none
  else
  b ()
noncomputable def S_ref05_Valid_0 (fuel : Nat) (v : Int × Int × Int × (List Int)) (c : (Int × Int × Int × (List Int)) → Option Ans) (B : (Bool → Option Ans) × (Unit → Option Ans)) : Option Ans := match v with
 | (x0, x1, x2, x3) => Sg_ref05_Valid_0 fuel (F_ref05_Sides fuel) x0 x1 x2 x3 c B
noncomputable def L_ref05_Valid_0 (fuel : Nat) (v : Int × Int × Int × (List Int)) (ret : (Bool → Option Ans)) (b : (Unit → Option Ans)) : Option Ans := iter (S_ref05_Valid_0 fuel) fuel v (ret, b)
noncomputable def J86_0 (fuel : Nat) (i : Nat) : Option Ev.Blk := Ev.look i []
noncomputable def T86_0 (v : Int × Int × Int × (List Int)) : Ev.St := match v with | (x0, x1, x2, x3) => ⟨[(1, .c (.ptr 0 0)), (3, .c (.int .i64 x0))], [(0, .cells 39 [.int .i64 x1, .int .i64 x2, .sl (.int .u8) x3])], 1, 0⟩
noncomputable def E86_0 (K : Ev.Ex → Ev.St → Option Ans) : (Bool → Option Ans) × (Unit → Option Ans) := ((fun v => match v with | x0 => K .ret ⟨[(2, .c (.bool x0))], [], 0, 0⟩), (fun v => match v with | () => K .normal ⟨[], [], 0, 0⟩))
theorem S86_0_okg (fuel : Nat) (f112 : YF112) (R : Ev.St → Option Ans) (K : Ev.Ex → Ev.St → Option Ans) (x0 x1 x2 : Int) (x3 : (List Int)) : evalCode tab (Gg86 f112) (J86_0 fuel) kp86 fuel (bodyOf 0 Try.f86) (T86_0 (x0, x1, x2, x3)) (lc kp86 4 0 R K) = Sg_ref05_Valid_0 fuel f112 x0 x1 x2 x3 (fun v => R (T86_0 v)) (E86_0 K) := by
  kernel_rfl
theorem S86_0_ok (fuel : Nat) (R : Ev.St → Option Ans) (K : Ev.Ex → Ev.St → Option Ans) (x0 x1 x2 : Int) (x3 : (List Int)) : evalCode tab (G86 fuel) (J86_0 fuel) kp86 fuel (bodyOf 0 Try.f86) (T86_0 (x0, x1, x2, x3)) (lc kp86 4 0 R K) = S_ref05_Valid_0 fuel (x0, x1, x2, x3) (fun v => R (T86_0 v)) (E86_0 K) :=
  S86_0_okg fuel (F_ref05_Sides fuel) R K x0 x1 x2 x3
noncomputable def B86_0 (fuel : Nat) : Ev.Blk := fun st K => match canonO (kp86 4) st with
 | some s => (match s with
 | ⟨[(q0, .c (.ptr q1 q2)), (q3, .c (.int .i64 x0))], [(q4, .cells q5 [.int .i64 x1, .int .i64 x2, .sl (.int .u8) x3])], q6, q7⟩ => bif Nat.beq q0 1 && Nat.beq q1 0 && Nat.beq q2 0 && Nat.beq q3 3 && Nat.beq q4 0 && Nat.beq q5 39 && Nat.beq q6 1 && Nat.beq q7 0 then iter (S_ref05_Valid_0 fuel) fuel (x0, x1, x2, x3) (E86_0 K) else none
 | _ => none)
 | none => none
theorem B86_0_ok (fuel : Nat) (st : Ev.St) (K : Ev.Ex → Ev.St → Option Ans) (r : Ans) (h : B86_0 fuel st K = some r) : evalCode tab (G86 fuel) (J86_0 fuel) kp86 fuel (.block 0 (.loop (bodyOf 0 Try.f86))) st K = some r := by
  unfold B86_0 at h
  split at h
  · rename_i s hs
    split at h
    · skip
      obtain ⟨hb, h⟩ := cond_some' h
      simp only [Bool.and_eq_true, Nat.beq_eq, decide_eq_true_eq] at hb
      obtain ⟨⟨⟨⟨⟨⟨⟨rfl, rfl⟩, rfl⟩, rfl⟩, rfl⟩, rfl⟩, rfl⟩, rfl⟩ := hb
      exact blk_loop (S := T86_0) (ks := E86_0) (step := S_ref05_Valid_0 fuel) (v := (_, _, _, _)) (by kernel_rfl) (by kernel_rfl) (fun R K v => by obtain ⟨x0, x1, x2, x3⟩ := v; exact S86_0_ok fuel R K x0 x1 x2 x3) hs h
    · cases h
  · cases h
noncomputable def J86 (fuel : Nat) (i : Nat) : Option Ev.Blk := Ev.look i [(100000, B86_0 fuel)]
noncomputable def Fg_ref05_Valid (fuel : Nat) (f112 : YF112) (x0 x1 : Int) (x2 : (List Int)) (k0 : (Bool) → Option Ans) : Option Ans :=
  (f112 (x0) (x1)
  (fun y2 =>
  bif !y2 then
  k0 false
  else
  bif (↑x2.length : Int) != IntKind.i64.wrap (x0 * x1) then
  k0 false
  else
  (L_ref05_Valid_0 fuel ((0 : Int), x0, x1, x2)
  (fun ret0_0 =>
  k0 ret0_0)
  (fun () =>
  k0 true))))
noncomputable def F_ref05_Valid (fuel : Nat) (x0 x1 : Int) (x2 : (List Int)) (k0 : (Bool) → Option Ans) : Option Ans := Fg_ref05_Valid fuel (F_ref05_Sides fuel) x0 x1 x2 k0
abbrev YF86 : Type := (Int) → (Int) → ((List Int)) → ((Bool) → Option Ans) → Option Ans
theorem F86_eqg (fuel : Nat) (f112 : YF112) (x0 x1 : Int) (x2 : (List Int)) (k : Ev.Cont) : evalFn tab (Gg86 f112) (J86 fuel) kp86 fuel Try.f86 [.agg [.int .i64 x0, .int .i64 x1, .sl (.int .u8) x2]] [] k = Fg_ref05_Valid fuel f112 x0 x1 x2 (fun r => match r with | r0 => k (.c (.bool r0), [])) := by
  kernel_rfl
theorem F86_eq (fuel : Nat) (x0 x1 : Int) (x2 : (List Int)) (k : Ev.Cont) : evalFn tab (G86 fuel) (J86 fuel) kp86 fuel Try.f86 [.agg [.int .i64 x0, .int .i64 x1, .sl (.int .u8) x2]] [] k = F_ref05_Valid fuel x0 x1 x2 (fun r => match r with | r0 => k (.c (.bool r0), [])) :=
  F86_eqg fuel (F_ref05_Sides fuel) x0 x1 x2 k
theorem hG86 (fuel : Nat) : GOK Try.prog (G86 fuel) :=
  gok_cons ⟨ok112 fuel, enters_of Try.func112 (by kernel_rfl) rfl⟩ <|
  gok_nil
theorem B86_0_blk (fuel : Nat) : BlkOK Try.prog Try.f86.ntmps (.block 0 (.loop (bodyOf 0 Try.f86))) (B86_0 fuel) :=
  blk_of (blk_of_code tab_ok (hG86 fuel) mixed (J := J86_0 fuel) (kp := kp86) (fuel := fuel) (by kernel_rfl) (fun q hq => by
    rw [(by kernel_rfl : obl (J86_0 fuel) (.block 0 (.loop (bodyOf 0 Try.f86))) = [])] at hq
    cases hq)) (B86_0_ok fuel)
theorem fok86 (fuel : Nat) : FnOK Try.prog 86 (evalFn tab (G86 fuel) (J86 fuel) kp86 fuel Try.f86) :=
  fn_ok tab_ok (hG86 fuel) mixed Try.func86 (c := (Try.f86.body).getD .skip) rfl (fun q hq => by
    rw [(by kernel_rfl : obl (J86 fuel) ((Try.f86.body).getD .skip) = [(.block 0 (.loop (bodyOf 0 Try.f86)), B86_0 fuel)])] at hq
    simp only [List.mem_cons, List.not_mem_nil, or_false] at hq
    subst hq
    · exact B86_0_blk fuel)
noncomputable def mt86 : List Ev.SV → List Ev.Ob → Bool := fun args objs => match args, objs with
 | [.agg [.int .i64 _, .int .i64 _, .sl (.int .u8) _]], [] => true
 | _, _ => false
noncomputable def spg86 (F : YF86) : Ev.Spec := fun args objs k => match args, objs with
 | [.agg [.int .i64 x0, .int .i64 x1, .sl (.int .u8) x2]], [] => bif true then F x0 x1 x2 (fun r => match r with | r0 => k (.c (.bool r0), [])) else none
 | _, _ => none
noncomputable def spec86 (fuel : Nat) : Ev.Spec := spg86 (F_ref05_Valid fuel)
theorem ok86 (fuel : Nat) : FnOK Try.prog 86 (spec86 fuel) := by
  intro args objs kk r h
  unfold spec86 spg86 at h
  split at h
  · skip
    obtain ⟨hb, h⟩ := cond_some' h
    simp only [Bool.and_eq_true, Nat.beq_eq, decide_eq_true_eq] at hb
    clear hb
    exact fok86 fuel _ _ kk r ((F86_eq fuel _ _ _ kk).trans h)
  · cases h
end Go.Proofs.Ytihfgpfofmjbaaa

set_option linter.unusedVariables false
set_option linter.unusedSimpArgs false
set_option maxRecDepth 100000
set_option maxHeartbeats 2000000
namespace Go.Proofs.Ytihfgpfofmjbaaa
open Go Ev
def kp109 (i : Nat) : Option (List Nat) := Ev.look i []
noncomputable def Gg109 (f : Nat) : Option Ev.Spec := Ev.look f []
noncomputable def G109 (fuel : Nat) : Nat → Option Ev.Spec := Gg109
noncomputable def J109 (fuel : Nat) (i : Nat) : Option Ev.Blk := Ev.look i []
noncomputable def F_ref07_Valid (fuel : Nat) (x0 x1 x2 : Int) (x3 : Bool) (x4 : Int) (k0 : (Bool) → Option Ans) : Option Ans :=
  bif decide (x0 < (0 : Int)) then
  k0 false
  else
  bif decide (x0 > (3 : Int)) then
  k0 false
  else
  bif decide (x4 < (0 : Int)) then
  k0 false
  else
  bif decide (x4 > (1 : Int)) then
  k0 false
  else
  bif decide (x1 < (-8 : Int)) then
  k0 false
  else
  bif decide (x1 > (8 : Int)) then
  k0 false
  else
  bif decide (x2 < (-8 : Int)) then
  k0 false
  else
  bif decide (x2 > (0 : Int)) then
  k0 false
  else
  bif decide (x2 < (0 : Int)) then
  k0 true
  else
  k0 (decide (x1 < (0 : Int)))
abbrev YF109 : Type := (Int) → (Int) → (Int) → (Bool) → (Int) → ((Bool) → Option Ans) → Option Ans
theorem F109_eq (fuel : Nat) (x0 x1 x2 : Int) (x3 : Bool) (x4 : Int) (k : Ev.Cont) : evalFn tab (G109 fuel) (J109 fuel) kp109 fuel Try.f109 [.agg [.int .i64 x0, .int .i64 x1, .int .i64 x2, .bool x3, .int .i64 x4]] [] k = F_ref07_Valid fuel x0 x1 x2 x3 x4 (fun r => match r with | r0 => k (.c (.bool r0), [])) := by
  kernel_rfl
theorem hG109 (fuel : Nat) : GOK Try.prog (G109 fuel) :=
  gok_nil
theorem fok109 (fuel : Nat) : FnOK Try.prog 109 (evalFn tab (G109 fuel) (J109 fuel) kp109 fuel Try.f109) :=
  fn_ok tab_ok (hG109 fuel) mixed Try.func109 (c := (Try.f109.body).getD .skip) rfl (fun q hq => by
    rw [(by kernel_rfl : obl (J109 fuel) ((Try.f109.body).getD .skip) = [])] at hq
    cases hq)
noncomputable def mt109 : List Ev.SV → List Ev.Ob → Bool := fun args objs => match args, objs with
 | [.agg [.int .i64 _, .int .i64 _, .int .i64 _, .bool _, .int .i64 _]], [] => true
 | _, _ => false
noncomputable def spg109 (F : YF109) : Ev.Spec := fun args objs k => match args, objs with
 | [.agg [.int .i64 x0, .int .i64 x1, .int .i64 x2, .bool x3, .int .i64 x4]], [] => bif true then F x0 x1 x2 x3 x4 (fun r => match r with | r0 => k (.c (.bool r0), [])) else none
 | _, _ => none
noncomputable def spec109 (fuel : Nat) : Ev.Spec := spg109 (F_ref07_Valid fuel)
theorem ok109 (fuel : Nat) : FnOK Try.prog 109 (spec109 fuel) := by
  intro args objs kk r h
  unfold spec109 spg109 at h
  split at h
  · skip
    obtain ⟨hb, h⟩ := cond_some' h
    simp only [Bool.and_eq_true, Nat.beq_eq, decide_eq_true_eq] at hb
    clear hb
    exact fok109 fuel _ _ kk r ((F109_eq fuel _ _ _ _ _ kk).trans h)
  · cases h
end Go.Proofs.Ytihfgpfofmjbaaa

set_option linter.unusedVariables false
set_option linter.unusedSimpArgs false
set_option maxRecDepth 100000
set_option maxHeartbeats 2000000
namespace Go.Proofs.Ytihfgpfofmjbaaa
open Go Ev
def kp205 (i : Nat) : Option (List Nat) := Ev.look i []
noncomputable def Gg205 (f : Nat) : Option Ev.Spec := Ev.look f []
noncomputable def G205 (fuel : Nat) : Nat → Option Ev.Spec := Gg205
noncomputable def J205 (fuel : Nat) (i : Nat) : Option Ev.Blk := Ev.look i []
noncomputable def F_ref07_template (fuel : Nat) (x0 : Int) (k0 : ((List (Int × Int))) → Option Ans) : Option Ans :=
  bif x0 == (0 : Int) then
  k0 ([((-1 : Int), (-2 : Int)), ((0 : Int), (-2 : Int)), ((1 : Int), (-2 : Int)), ((-2 : Int), (-1 : Int)), ((-1 : Int), (-1 : Int)), ((0 : Int), (-1 : Int)), ((1 : Int), (-1 : Int)), ((2 : Int), (-1 : Int)), ((-2 : Int), (0 : Int)), ((-1 : Int), (0 : Int))])
  else
  bif x0 == (1 : Int) then
  k0 ([((-1 : Int), (-2 : Int)), ((0 : Int), (-2 : Int)), ((-1 : Int), (-1 : Int)), ((0 : Int), (-1 : Int)), ((1 : Int), (-1 : Int)), ((-2 : Int), (0 : Int)), ((-1 : Int), (0 : Int))])
  else
  bif x0 == (2 : Int) then
  k0 ([((-2 : Int), (-1 : Int)), ((-1 : Int), (-1 : Int)), ((0 : Int), (-1 : Int)), ((1 : Int), (-1 : Int)), ((2 : Int), (-1 : Int)), ((-2 : Int), (0 : Int)), ((-1 : Int), (0 : Int))])
  else
  k0 ([((-1 : Int), (-1 : Int)), ((0 : Int), (-1 : Int)), ((1 : Int), (-1 : Int)), ((-1 : Int), (0 : Int))])
abbrev YF205 : Type := (Int) → (((List (Int × Int))) → Option Ans) → Option Ans
theorem F205_eq (fuel : Nat) (x0 : Int) (k : Ev.Cont) : evalFn tab (G205 fuel) (J205 fuel) kp205 fuel Try.f205 [.c (.int .i64 x0)] [] k = F_ref07_template fuel x0 (fun r => match r with | r0 => k (.c (.own 0), [.vec 223 (.pair (.int .i64) (.int .i64)) r0 true])) := by
  kernel_rfl
theorem hG205 (fuel : Nat) : GOK Try.prog (G205 fuel) :=
  gok_nil
theorem fok205 (fuel : Nat) : FnOK Try.prog 205 (evalFn tab (G205 fuel) (J205 fuel) kp205 fuel Try.f205) :=
  fn_ok tab_ok (hG205 fuel) mixed Try.func205 (c := (Try.f205.body).getD .skip) rfl (fun q hq => by
    rw [(by kernel_rfl : obl (J205 fuel) ((Try.f205.body).getD .skip) = [])] at hq
    cases hq)
noncomputable def mt205 : List Ev.SV → List Ev.Ob → Bool := fun args objs => match args, objs with
 | [.c (.int .i64 _)], [] => true
 | _, _ => false
noncomputable def spg205 (F : YF205) : Ev.Spec := fun args objs k => match args, objs with
 | [.c (.int .i64 x0)], [] => bif true then F x0 (fun r => match r with | r0 => k (.c (.own 0), [.vec 223 (.pair (.int .i64) (.int .i64)) r0 true])) else none
 | _, _ => none
noncomputable def spec205 (fuel : Nat) : Ev.Spec := spg205 (F_ref07_template fuel)
theorem ok205 (fuel : Nat) : FnOK Try.prog 205 (spec205 fuel) := by
  intro args objs kk r h
  unfold spec205 spg205 at h
  split at h
  · skip
    obtain ⟨hb, h⟩ := cond_some' h
    simp only [Bool.and_eq_true, Nat.beq_eq, decide_eq_true_eq] at hb
    clear hb
    exact fok205 fuel _ _ kk r ((F205_eq fuel _ kk).trans h)
  · cases h
end Go.Proofs.Ytihfgpfofmjbaaa

set_option linter.unusedVariables false
set_option linter.unusedSimpArgs false
set_option maxRecDepth 100000
set_option maxHeartbeats 2000000
namespace Go.Proofs.Ytihfgpfofmjbaaa
open Go Ev
def kp180 (i : Nat) : Option (List Nat) := Ev.look i [(200001, [1])]
noncomputable def Gg180 (f205 : YF205) (f : Nat) : Option Ev.Spec := Ev.look f [(205, spg205 f205)]
noncomputable def G180 (fuel : Nat) : Nat → Option Ev.Spec := Gg180 (F_ref07_template fuel)
noncomputable def J180 (fuel : Nat) (i : Nat) : Option Ev.Blk := Ev.look i []
noncomputable def Fg_ref07_pixels (fuel : Nat) (f205 : YF205) (x0 x1 x2 : Int) (x3 : Bool) (x4 : Int) (k0 : ((List (Int × Int))) → Option Ans) : Option Ans :=
  both ((f205 (x0)
  (fun y4 =>
  bif decide ((y4.length + [(x1, x2)].length) * (16 : Nat) ≤ (140737488355328 : Nat) ∧ y4.length + [(x1, x2)].length ≤ (140737488355328 : Nat)) then
  k0 (y4 ++ [(x1, x2)])
  else none)))
  (both ((f205 (x0)
  (fun y6 =>
  bif decide ((y6.length + [(x1, x2)].length) * (16 : Nat) ≤ (140737488355328 : Nat) ∧ y6.length + [(x1, x2)].length ≤ (140737488355328 : Nat)) then
  k0 (y6 ++ [(x1, x2)])
  else none)))
  ((f205 (x0)
  (fun y6 =>
  bif decide ((y6.length + [(x1, x2)].length) * (16 : Nat) ≤ (140737488355328 : Nat) ∧ y6.length + [(x1, x2)].length ≤ (140737488355328 : Nat)) then
  k0 (y6 ++ [(x1, x2)])
  else none))))
noncomputable def F_ref07_pixels (fuel : Nat) (x0 x1 x2 : Int) (x3 : Bool) (x4 : Int) (k0 : ((List (Int × Int))) → Option Ans) : Option Ans := Fg_ref07_pixels fuel (F_ref07_template fuel) x0 x1 x2 x3 x4 k0
abbrev YF180 : Type := (Int) → (Int) → (Int) → (Bool) → (Int) → (((List (Int × Int))) → Option Ans) → Option Ans
theorem F180_eqg (fuel : Nat) (f205 : YF205) (x0 x1 x2 : Int) (x3 : Bool) (x4 : Int) (k : Ev.Cont) : evalFn tab (Gg180 f205) (J180 fuel) kp180 fuel Try.f180 [.agg [.int .i64 x0, .int .i64 x1, .int .i64 x2, .bool x3, .int .i64 x4]] [] k = Fg_ref07_pixels fuel f205 x0 x1 x2 x3 x4 (fun r => match r with | r0 => k (.c (.own 0), [.vec 223 (.pair (.int .i64) (.int .i64)) r0 true])) := by
  kernel_rfl
theorem F180_eq (fuel : Nat) (x0 x1 x2 : Int) (x3 : Bool) (x4 : Int) (k : Ev.Cont) : evalFn tab (G180 fuel) (J180 fuel) kp180 fuel Try.f180 [.agg [.int .i64 x0, .int .i64 x1, .int .i64 x2, .bool x3, .int .i64 x4]] [] k = F_ref07_pixels fuel x0 x1 x2 x3 x4 (fun r => match r with | r0 => k (.c (.own 0), [.vec 223 (.pair (.int .i64) (.int .i64)) r0 true])) :=
  F180_eqg fuel (F_ref07_template fuel) x0 x1 x2 x3 x4 k
theorem hG180 (fuel : Nat) : GOK Try.prog (G180 fuel) :=
  gok_cons ⟨ok205 fuel, enters_of Try.func205 (by kernel_rfl) rfl⟩ <|
  gok_nil
theorem fok180 (fuel : Nat) : FnOK Try.prog 180 (evalFn tab (G180 fuel) (J180 fuel) kp180 fuel Try.f180) :=
  fn_ok tab_ok (hG180 fuel) mixed Try.func180 (c := (Try.f180.body).getD .skip) rfl (fun q hq => by
    rw [(by kernel_rfl : obl (J180 fuel) ((Try.f180.body).getD .skip) = [])] at hq
    cases hq)
noncomputable def mt180 : List Ev.SV → List Ev.Ob → Bool := fun args objs => match args, objs with
 | [.agg [.int .i64 _, .int .i64 _, .int .i64 _, .bool _, .int .i64 _]], [] => true
 | _, _ => false
noncomputable def spg180 (F : YF180) : Ev.Spec := fun args objs k => match args, objs with
 | [.agg [.int .i64 x0, .int .i64 x1, .int .i64 x2, .bool x3, .int .i64 x4]], [] => bif true then F x0 x1 x2 x3 x4 (fun r => match r with | r0 => k (.c (.own 0), [.vec 223 (.pair (.int .i64) (.int .i64)) r0 true])) else none
 | _, _ => none
noncomputable def spec180 (fuel : Nat) : Ev.Spec := spg180 (F_ref07_pixels fuel)
theorem ok180 (fuel : Nat) : FnOK Try.prog 180 (spec180 fuel) := by
  intro args objs kk r h
  unfold spec180 spg180 at h
  split at h
  · skip
    obtain ⟨hb, h⟩ := cond_some' h
    simp only [Bool.and_eq_true, Nat.beq_eq, decide_eq_true_eq] at hb
    clear hb
    exact fok180 fuel _ _ kk r ((F180_eq fuel _ _ _ _ _ kk).trans h)
  · cases h
end Go.Proofs.Ytihfgpfofmjbaaa

set_option linter.unusedVariables false
set_option linter.unusedSimpArgs false
set_option maxRecDepth 100000
set_option maxHeartbeats 2000000
namespace Go.Proofs.Ytihfgpfofmjbaaa
open Go Ev
def kp122 (i : Nat) : Option (List Nat) := Ev.look i []
noncomputable def Gg122 (f109 : YF109) (f180 : YF180) (f : Nat) : Option Ev.Spec := Ev.look f [(109, spg109 f109), (180, spg180 f180)]
noncomputable def G122 (fuel : Nat) : Nat → Option Ev.Spec := Gg122 (F_ref07_Valid fuel) (F_ref07_pixels fuel)
noncomputable def J122 (fuel : Nat) (i : Nat) : Option Ev.Blk := Ev.look i []
noncomputable def Fg_ref07_Size (fuel : Nat) (f109 : YF109) (f180 : YF180) (x0 x1 x2 : Int) (x3 : Bool) (x4 : Int) (k0 : (Int × Int) → Option Ans) : Option Ans :=
  (f109 (x0) (x1) (x2) (x3) (x4)
  (fun y2 =>
  bif !y2 then
  k0 ((0 : Int), (2 : Int))
  else
  (f180 (x0) (x1) (x2) (x3) (x4)
  (fun y7 =>
  k0 (IntKind.i64.wrap (Ev.ishl IntKind.i64 (1 : Int) (↑y7.length : Int) + (1 : Int)), (0 : Int))))))
noncomputable def F_ref07_Size (fuel : Nat) (x0 x1 x2 : Int) (x3 : Bool) (x4 : Int) (k0 : (Int × Int) → Option Ans) : Option Ans := Fg_ref07_Size fuel (F_ref07_Valid fuel) (F_ref07_pixels fuel) x0 x1 x2 x3 x4 k0
abbrev YF122 : Type := (Int) → (Int) → (Int) → (Bool) → (Int) → ((Int × Int) → Option Ans) → Option Ans
theorem F122_eqg (fuel : Nat) (f109 : YF109) (f180 : YF180) (x0 x1 x2 : Int) (x3 : Bool) (x4 : Int) (k : Ev.Cont) : evalFn tab (Gg122 f109 f180) (J122 fuel) kp122 fuel Try.f122 [.agg [.int .i64 x0, .int .i64 x1, .int .i64 x2, .bool x3, .int .i64 x4]] [] k = Fg_ref07_Size fuel f109 f180 x0 x1 x2 x3 x4 (fun r => match r with | (r0, r1) => k (.tup [(false, [.int .i64 r0]), (false, [.int .i64 r1])], [])) := by
  kernel_rfl
theorem F122_eq (fuel : Nat) (x0 x1 x2 : Int) (x3 : Bool) (x4 : Int) (k : Ev.Cont) : evalFn tab (G122 fuel) (J122 fuel) kp122 fuel Try.f122 [.agg [.int .i64 x0, .int .i64 x1, .int .i64 x2, .bool x3, .int .i64 x4]] [] k = F_ref07_Size fuel x0 x1 x2 x3 x4 (fun r => match r with | (r0, r1) => k (.tup [(false, [.int .i64 r0]), (false, [.int .i64 r1])], [])) :=
  F122_eqg fuel (F_ref07_Valid fuel) (F_ref07_pixels fuel) x0 x1 x2 x3 x4 k
theorem hG122 (fuel : Nat) : GOK Try.prog (G122 fuel) :=
  gok_cons ⟨ok109 fuel, enters_of Try.func109 (by kernel_rfl) rfl⟩ <|
  gok_cons ⟨ok180 fuel, enters_of Try.func180 (by kernel_rfl) rfl⟩ <|
  gok_nil
theorem fok122 (fuel : Nat) : FnOK Try.prog 122 (evalFn tab (G122 fuel) (J122 fuel) kp122 fuel Try.f122) :=
  fn_ok tab_ok (hG122 fuel) mixed Try.func122 (c := (Try.f122.body).getD .skip) rfl (fun q hq => by
    rw [(by kernel_rfl : obl (J122 fuel) ((Try.f122.body).getD .skip) = [])] at hq
    cases hq)
noncomputable def mt122 : List Ev.SV → List Ev.Ob → Bool := fun args objs => match args, objs with
 | [.agg [.int .i64 _, .int .i64 _, .int .i64 _, .bool _, .int .i64 _]], [] => true
 | _, _ => false
noncomputable def spg122 (F : YF122) : Ev.Spec := fun args objs k => match args, objs with
 | [.agg [.int .i64 x0, .int .i64 x1, .int .i64 x2, .bool x3, .int .i64 x4]], [] => bif true then F x0 x1 x2 x3 x4 (fun r => match r with | (r0, r1) => k (.tup [(false, [.int .i64 r0]), (false, [.int .i64 r1])], [])) else none
 | _, _ => none
noncomputable def spec122 (fuel : Nat) : Ev.Spec := spg122 (F_ref07_Size fuel)
theorem ok122 (fuel : Nat) : FnOK Try.prog 122 (spec122 fuel) := by
  intro args objs kk r h
  unfold spec122 spg122 at h
  split at h
  · skip
    obtain ⟨hb, h⟩ := cond_some' h
    simp only [Bool.and_eq_true, Nat.beq_eq, decide_eq_true_eq] at hb
    clear hb
    exact fok122 fuel _ _ kk r ((F122_eq fuel _ _ _ _ _ kk).trans h)
  · cases h
end Go.Proofs.Ytihfgpfofmjbaaa

