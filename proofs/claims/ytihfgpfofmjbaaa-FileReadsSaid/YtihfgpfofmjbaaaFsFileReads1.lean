/- What the functions that FileReads reaches do: their typed texts, each with the proof that the machine does it. No condition. -/
import Derived.Test.YtihfgpfofmjbaaaEvX
set_option linter.unusedVariables false
set_option linter.unusedSimpArgs false
namespace Go.Proofs.Ytihfgpfofmjbaaa
open Go Ev
def ctb (r : List SC) : List SC := .int .i64 2048 :: .int .i64 1792 :: .int .i64 1568 :: .int .i64 1372 :: .int .i64 1201 :: .int .i64 1051 :: .int .i64 920 :: .int .i64 805 :: .int .i64 705 :: .int .i64 617 :: .int .i64 540 :: .int .i64 473 :: .int .i64 414 :: .int .i64 363 :: .int .i64 318 :: .int .i64 279 :: .int .i64 245 :: .int .i64 215 :: .int .i64 189 :: .int .i64 166 :: .int .i64 146 :: .int .i64 128 :: .int .i64 112 :: .int .i64 98 :: .int .i64 86 :: .int .i64 76 :: .int .i64 67 :: .int .i64 59 :: .int .i64 52 :: .int .i64 46 :: .int .i64 41 :: .int .i64 36 :: r
def ctn : List (IntKind × Int) := [(.i64, 2048), (.i64, 1792), (.i64, 1568), (.i64, 1372), (.i64, 1201), (.i64, 1051), (.i64, 920), (.i64, 805), (.i64, 705), (.i64, 617), (.i64, 540), (.i64, 473), (.i64, 414), (.i64, 363), (.i64, 318), (.i64, 279), (.i64, 245), (.i64, 215), (.i64, 189), (.i64, 166), (.i64, 146), (.i64, 128), (.i64, 112), (.i64, 98), (.i64, 86), (.i64, 76), (.i64, 67), (.i64, 59), (.i64, 52), (.i64, 46), (.i64, 41), (.i64, 36)]
end Go.Proofs.Ytihfgpfofmjbaaa
set_option linter.unusedVariables false
set_option linter.unusedSimpArgs false
set_option maxRecDepth 100000
set_option maxHeartbeats 2000000
namespace Go.Proofs.Ytihfgpfofmjbaaa
open Go Ev
def kp172_857 (i : Nat) : Option (List Nat) := Ev.look i []
noncomputable def Gg172_857 (f : Nat) : Option Ev.Spec := Ev.look f []
noncomputable def G172_857 (fuel : Nat) : Nat → Option Ev.Spec := Gg172_857
noncomputable def J172_857 (fuel : Nat) (i : Nat) : Option Ev.Blk := Ev.look i []
noncomputable def F_file_reader_fail_857 (fuel : Nat) (x0 x1 : Int) (x2 : (List Int)) (x3 x4 x5 : Int) (x6 : (List (Int × (Int × (Int × ((List Int) × ((List Bool) × (List Int)))))))) (x7 x8 : (List Int)) (k0 : ((List Int) × Int × Int × Int × (List (Int × (Int × (Int × ((List Int) × ((List Bool) × (List Int))))))) × (List Int) × (List Int)) → Option Ans) : Option Ans :=
  bif x5 == (0 : Int) then
  k0 (x2, x3, x0, x1, x6, x7, x8)
  else
  k0 (x2, x3, x4, x5, x6, x7, x8)
abbrev YF172_857 : Type := (Int) → (Int) → ((List Int)) → (Int) → (Int) → (Int) → ((List (Int × (Int × (Int × ((List Int) × ((List Bool) × (List Int)))))))) → ((List Int)) → ((List Int)) → (((List Int) × Int × Int × Int × (List (Int × (Int × (Int × ((List Int) × ((List Bool) × (List Int))))))) × (List Int) × (List Int)) → Option Ans) → Option Ans
theorem F172_857_eq (fuel : Nat) (x0 x1 : Int) (x2 : (List Int)) (x3 x4 x5 : Int) (x6 : (List (Int × (Int × (Int × ((List Int) × ((List Bool) × (List Int)))))))) (x7 x8 : (List Int)) (k : Ev.Cont) : evalFn tab (G172_857 fuel) (J172_857 fuel) kp172_857 fuel Try.f172 [.c (.ptr 0 0), .c (.int .i64 x0), .c (.int .i64 x1)] [.cells 141 [.sl (.int .u8) x2, .int .i64 x3, .own 1, .own 2, .own 3, .int .i64 x4, .int .i64 x5], .vec 103 (.pair (.int .i64) (.pair (.int .i64) (.pair (.int .i64) (.pair (.sl (.int .i64)) (.pair (.sl .bool) (.sl (.int .u8))))))) x6 false, .vec 3 (.int .i64) x7 false, .vec 3 (.int .i64) x8 false] k = F_file_reader_fail_857 fuel x0 x1 x2 x3 x4 x5 x6 x7 x8 (fun r => match r with | (r0, r1, r2, r3, r4, r5, r6) => k (.tup [], [.cells 141 [.sl (.int .u8) r0, .int .i64 r1, .own 1, .own 2, .own 3, .int .i64 r2, .int .i64 r3], .vec 103 (.pair (.int .i64) (.pair (.int .i64) (.pair (.int .i64) (.pair (.sl (.int .i64)) (.pair (.sl .bool) (.sl (.int .u8))))))) r4 false, .vec 3 (.int .i64) r5 false, .vec 3 (.int .i64) r6 false])) := by
  kernel_rfl
theorem hG172_857 (fuel : Nat) : GOK Try.prog (G172_857 fuel) :=
  gok_nil
theorem fok172_857 (fuel : Nat) : FnOK Try.prog 172 (evalFn tab (G172_857 fuel) (J172_857 fuel) kp172_857 fuel Try.f172) :=
  fn_ok tab_ok (hG172_857 fuel) mixed Try.func172 (c := (Try.f172.body).getD .skip) rfl (fun q hq => by
    rw [(by kernel_rfl : obl (J172_857 fuel) ((Try.f172.body).getD .skip) = [])] at hq
    cases hq)
noncomputable def mt172_857 : List Ev.SV → List Ev.Ob → Bool := fun args objs => match args, objs with
 | [.c (.ptr q0 q1), .c (.int .i64 _), .c (.int .i64 _)], [.cells q2 [.sl (.int .u8) _, .int .i64 _, .own q3, .own q4, .own q5, .int .i64 _, .int .i64 _], .vec q6 (.pair (.int .i64) (.pair (.int .i64) (.pair (.int .i64) (.pair (.sl (.int .i64)) (.pair (.sl .bool) (.sl (.int .u8))))))) _ false, .vec q7 (.int .i64) _ false, .vec q8 (.int .i64) _ false] => Nat.beq q0 0 && Nat.beq q1 0 && Nat.beq q2 141 && Nat.beq q3 1 && Nat.beq q4 2 && Nat.beq q5 3 && Nat.beq q6 103 && Nat.beq q7 3 && Nat.beq q8 3
 | _, _ => false
noncomputable def spg172_857 (F : YF172_857) : Ev.Spec := fun args objs k => match args, objs with
 | [.c (.ptr q0 q1), .c (.int .i64 x0), .c (.int .i64 x1)], [.cells q2 [.sl (.int .u8) x2, .int .i64 x3, .own q3, .own q4, .own q5, .int .i64 x4, .int .i64 x5], .vec q6 (.pair (.int .i64) (.pair (.int .i64) (.pair (.int .i64) (.pair (.sl (.int .i64)) (.pair (.sl .bool) (.sl (.int .u8))))))) x6 false, .vec q7 (.int .i64) x7 false, .vec q8 (.int .i64) x8 false] => bif Nat.beq q0 0 && Nat.beq q1 0 && Nat.beq q2 141 && Nat.beq q3 1 && Nat.beq q4 2 && Nat.beq q5 3 && Nat.beq q6 103 && Nat.beq q7 3 && Nat.beq q8 3 then F x0 x1 x2 x3 x4 x5 x6 x7 x8 (fun r => match r with | (r0, r1, r2, r3, r4, r5, r6) => k (.tup [], [.cells 141 [.sl (.int .u8) r0, .int .i64 r1, .own 1, .own 2, .own 3, .int .i64 r2, .int .i64 r3], .vec 103 (.pair (.int .i64) (.pair (.int .i64) (.pair (.int .i64) (.pair (.sl (.int .i64)) (.pair (.sl .bool) (.sl (.int .u8))))))) r4 false, .vec 3 (.int .i64) r5 false, .vec 3 (.int .i64) r6 false])) else none
 | _, _ => none
noncomputable def spec172_857 (fuel : Nat) : Ev.Spec := spg172_857 (F_file_reader_fail_857 fuel)
theorem ok172_857 (fuel : Nat) : FnOK Try.prog 172 (spec172_857 fuel) := by
  intro args objs kk r h
  unfold spec172_857 spg172_857 at h
  split at h
  · skip
    obtain ⟨hb, h⟩ := cond_some' h
    simp only [Bool.and_eq_true, Nat.beq_eq, decide_eq_true_eq] at hb
    obtain ⟨⟨⟨⟨⟨⟨⟨⟨rfl, rfl⟩, rfl⟩, rfl⟩, rfl⟩, rfl⟩, rfl⟩, rfl⟩, rfl⟩ := hb
    exact fok172_857 fuel _ _ kk r ((F172_857_eq fuel _ _ _ _ _ _ _ _ _ kk).trans h)
  · cases h
end Go.Proofs.Ytihfgpfofmjbaaa

set_option linter.unusedVariables false
set_option linter.unusedSimpArgs false
set_option maxRecDepth 100000
set_option maxHeartbeats 2000000
namespace Go.Proofs.Ytihfgpfofmjbaaa
open Go Ev
def kp59 (i : Nat) : Option (List Nat) := Ev.look i [(5, [1, 3, 57, 58, 59]), (100000, []), (400000, [2])]
noncomputable def Gg59 (f : Nat) : Option Ev.Spec := Ev.look f []
noncomputable def G59 (fuel : Nat) : Nat → Option Ev.Spec := Gg59
noncomputable def S_segment_Valid_0 (fuel : Nat) (v : Int × (List Int) × Int × Int × Int × Int × Int × (List Int) × (List Bool) × (List Int)) (c : (Int × (List Int) × Int × Int × Int × Int × Int × (List Int) × (List Bool) × (List Int)) → Option Ans) (B : (Bool → Option Ans) × (Unit → Option Ans)) : Option Ans := match v, B with
 | (x0, x1, x2, x3, x4, x5, x6, x7, x8, x9), (ret, b) =>
  bif decide (x3 < x2) then
  bif decide ((0 : Int) ≤ x3 ∧ x3 < (↑x1.length : Int)) then
  bif decide (x1.getD x3.toNat (0 : Int) ≤ x0) then
  ret false
  else
  bif decide (x1.getD x3.toNat (0 : Int) ≥ x4) then
  ret false
  else
  c (x1.getD x3.toNat (0 : Int), x1, x2, IntKind.i64.wrap (x3 + (1 : Int)), x4, x5, x6, x7, x8, x9)
  else none
  else
  b ()
noncomputable def L_segment_Valid_0 (fuel : Nat) (v : Int × (List Int) × Int × Int × Int × Int × Int × (List Int) × (List Bool) × (List Int)) (ret : (Bool → Option Ans)) (b : (Unit → Option Ans)) : Option Ans := iter (S_segment_Valid_0 fuel) fuel v (ret, b)
noncomputable def J59_0 (fuel : Nat) (i : Nat) : Option Ev.Blk := Ev.look i []
noncomputable def T59_0 (v : Int × (List Int) × Int × Int × Int × Int × Int × (List Int) × (List Bool) × (List Int)) : Ev.St := match v with | (x0, x1, x2, x3, x4, x5, x6, x7, x8, x9) => ⟨[(1, .c (.ptr 0 0)), (3, .c (.int .i64 x0)), (57, .c (.sl (.int .i64) x1)), (58, .c (.int .i64 x2)), (59, .c (.int .i64 x3))], [(0, .cells 103 [.int .i64 x4, .int .i64 x5, .int .i64 x6, .sl (.int .i64) x7, .sl .bool x8, .sl (.int .u8) x9])], 1, 0⟩
noncomputable def E59_0 (K : Ev.Ex → Ev.St → Option Ans) : (Bool → Option Ans) × (Unit → Option Ans) := ((fun v => match v with | x0 => K .ret ⟨[(2, .c (.bool x0))], [], 0, 0⟩), (fun v => match v with | () => K .normal ⟨[], [], 0, 0⟩))
theorem S59_0_ok (fuel : Nat) (R : Ev.St → Option Ans) (K : Ev.Ex → Ev.St → Option Ans) (x0 : Int) (x1 : (List Int)) (x2 x3 : Int) (x4 x5 x6 : Int) (x7 : (List Int)) (x8 : (List Bool)) (x9 : (List Int)) : evalCode tab (G59 fuel) (J59_0 fuel) kp59 fuel (bodyOf 0 Try.f59) (T59_0 (x0, x1, x2, x3, x4, x5, x6, x7, x8, x9)) (lc kp59 5 0 R K) = S_segment_Valid_0 fuel (x0, x1, x2, x3, x4, x5, x6, x7, x8, x9) (fun v => R (T59_0 v)) (E59_0 K) := by
  kernel_rfl
noncomputable def B59_0 (fuel : Nat) : Ev.Blk := fun st K => match canonO (kp59 5) st with
 | some s => (match s with
 | ⟨[(q0, .c (.ptr q1 q2)), (q3, .c (.int .i64 x0)), (q4, .c (.sl (.int .i64) x1)), (q5, .c (.int .i64 x2)), (q6, .c (.int .i64 x3))], [(q7, .cells q8 [.int .i64 x4, .int .i64 x5, .int .i64 x6, .sl (.int .i64) x7, .sl .bool x8, .sl (.int .u8) x9])], q9, q10⟩ => bif Nat.beq q0 1 && Nat.beq q1 0 && Nat.beq q2 0 && Nat.beq q3 3 && Nat.beq q4 57 && Nat.beq q5 58 && Nat.beq q6 59 && Nat.beq q7 0 && Nat.beq q8 103 && Nat.beq q9 1 && Nat.beq q10 0 then iter (S_segment_Valid_0 fuel) fuel (x0, x1, x2, x3, x4, x5, x6, x7, x8, x9) (E59_0 K) else none
 | _ => none)
 | none => none
theorem B59_0_ok (fuel : Nat) (st : Ev.St) (K : Ev.Ex → Ev.St → Option Ans) (r : Ans) (h : B59_0 fuel st K = some r) : evalCode tab (G59 fuel) (J59_0 fuel) kp59 fuel (.block 0 (.loop (bodyOf 0 Try.f59))) st K = some r := by
  unfold B59_0 at h
  split at h
  · rename_i s hs
    split at h
    · skip
      obtain ⟨hb, h⟩ := cond_some' h
      simp only [Bool.and_eq_true, Nat.beq_eq, decide_eq_true_eq] at hb
      obtain ⟨⟨⟨⟨⟨⟨⟨⟨⟨⟨rfl, rfl⟩, rfl⟩, rfl⟩, rfl⟩, rfl⟩, rfl⟩, rfl⟩, rfl⟩, rfl⟩, rfl⟩ := hb
      exact blk_loop (S := T59_0) (ks := E59_0) (step := S_segment_Valid_0 fuel) (v := (_, _, _, _, _, _, _, _, _, _)) (by kernel_rfl) (by kernel_rfl) (fun R K v => by obtain ⟨x0, x1, x2, x3, x4, x5, x6, x7, x8, x9⟩ := v; exact S59_0_ok fuel R K x0 x1 x2 x3 x4 x5 x6 x7 x8 x9) hs h
    · cases h
  · cases h
noncomputable def J59 (fuel : Nat) (i : Nat) : Option Ev.Blk := Ev.look i [(100000, B59_0 fuel)]
noncomputable def F_segment_Valid (fuel : Nat) (x0 x1 x2 : Int) (x3 : (List Int)) (x4 : (List Bool)) (x5 : (List Int)) (k0 : (Bool) → Option Ans) : Option Ans :=
  bif decide (x0 < (0 : Int)) then
  k0 false
  else
  bif decide (x0 > (10000 : Int)) then
  k0 false
  else
  bif decide (x1 < (0 : Int)) then
  k0 false
  else
  bif decide (x1 > (15 : Int)) then
  k0 false
  else
  bif decide (x2 < (0 : Int)) then
  k0 false
  else
  bif decide (x2 > (1000 : Int)) then
  k0 false
  else
  bif decide ((↑x3.length : Int) > (20 : Int)) then
  k0 false
  else
  bif (↑x4.length : Int) != IntKind.i64.wrap ((↑x3.length : Int) + (1 : Int)) then
  k0 false
  else
  bif decide ((↑x5.length : Int) > (20000 : Int)) then
  k0 false
  else
  (L_segment_Valid_0 fuel ((-1 : Int), x3, (↑x3.length : Int), (0 : Int), x0, x1, x2, x3, x4, x5)
  (fun ret0_0 =>
  k0 ret0_0)
  (fun () =>
  k0 true))
abbrev YF59 : Type := (Int) → (Int) → (Int) → ((List Int)) → ((List Bool)) → ((List Int)) → ((Bool) → Option Ans) → Option Ans
theorem F59_eq (fuel : Nat) (x0 x1 x2 : Int) (x3 : (List Int)) (x4 : (List Bool)) (x5 : (List Int)) (k : Ev.Cont) : evalFn tab (G59 fuel) (J59 fuel) kp59 fuel Try.f59 [.agg [.int .i64 x0, .int .i64 x1, .int .i64 x2, .sl (.int .i64) x3, .sl .bool x4, .sl (.int .u8) x5]] [] k = F_segment_Valid fuel x0 x1 x2 x3 x4 x5 (fun r => match r with | r0 => k (.c (.bool r0), [])) := by
  kernel_rfl
theorem hG59 (fuel : Nat) : GOK Try.prog (G59 fuel) :=
  gok_nil
theorem B59_0_blk (fuel : Nat) : BlkOK Try.prog Try.f59.ntmps (.block 0 (.loop (bodyOf 0 Try.f59))) (B59_0 fuel) :=
  blk_of (blk_of_code tab_ok (hG59 fuel) mixed (J := J59_0 fuel) (kp := kp59) (fuel := fuel) (by kernel_rfl) (fun q hq => by
    rw [(by kernel_rfl : obl (J59_0 fuel) (.block 0 (.loop (bodyOf 0 Try.f59))) = [])] at hq
    cases hq)) (B59_0_ok fuel)
theorem fok59 (fuel : Nat) : FnOK Try.prog 59 (evalFn tab (G59 fuel) (J59 fuel) kp59 fuel Try.f59) :=
  fn_ok tab_ok (hG59 fuel) mixed Try.func59 (c := (Try.f59.body).getD .skip) rfl (fun q hq => by
    rw [(by kernel_rfl : obl (J59 fuel) ((Try.f59.body).getD .skip) = [(.block 0 (.loop (bodyOf 0 Try.f59)), B59_0 fuel)])] at hq
    simp only [List.mem_cons, List.not_mem_nil, or_false] at hq
    subst hq
    · exact B59_0_blk fuel)
noncomputable def mt59 : List Ev.SV → List Ev.Ob → Bool := fun args objs => match args, objs with
 | [.agg [.int .i64 _, .int .i64 _, .int .i64 _, .sl (.int .i64) _, .sl .bool _, .sl (.int .u8) _]], [] => true
 | _, _ => false
noncomputable def spg59 (F : YF59) : Ev.Spec := fun args objs k => match args, objs with
 | [.agg [.int .i64 x0, .int .i64 x1, .int .i64 x2, .sl (.int .i64) x3, .sl .bool x4, .sl (.int .u8) x5]], [] => bif true then F x0 x1 x2 x3 x4 x5 (fun r => match r with | r0 => k (.c (.bool r0), [])) else none
 | _, _ => none
noncomputable def spec59 (fuel : Nat) : Ev.Spec := spg59 (F_segment_Valid fuel)
theorem ok59 (fuel : Nat) : FnOK Try.prog 59 (spec59 fuel) := by
  intro args objs kk r h
  unfold spec59 spg59 at h
  split at h
  · skip
    obtain ⟨hb, h⟩ := cond_some' h
    simp only [Bool.and_eq_true, Nat.beq_eq, decide_eq_true_eq] at hb
    clear hb
    exact fok59 fuel _ _ kk r ((F59_eq fuel _ _ _ _ _ _ kk).trans h)
  · cases h
end Go.Proofs.Ytihfgpfofmjbaaa

set_option linter.unusedVariables false
set_option linter.unusedSimpArgs false
set_option maxRecDepth 100000
set_option maxHeartbeats 2000000
namespace Go.Proofs.Ytihfgpfofmjbaaa
open Go Ev
def kp193_88a (i : Nat) : Option (List Nat) := Ev.look i [(4, [0, 4, 23, 24, 25]), (11, [0, 4, 49, 50, 51]), (100000, [0, 4]), (100002, [0, 4]), (400000, [6]), (400002, [6])]
noncomputable def Gg193_88a (f59 : YF59) (f : Nat) : Option Ev.Spec := Ev.look f [(59, spg59 f59)]
noncomputable def G193_88a (fuel : Nat) : Nat → Option Ev.Spec := Gg193_88a (F_segment_Valid fuel)
noncomputable def Sg_segment_store_takes_88a_0 (fuel : Nat) (f59 : YF59) (x0 : (List Int)) (x1 x2 : Int) (x3 : (List (Int × Int))) (x4 x5 x6 : Int) (x7 : (List Int)) (x8 : (List Bool)) (x9 : (List Int)) (c : ((List Int) × Int × Int × (List (Int × Int)) × Int × Int × Int × (List Int) × (List Bool) × (List Int)) → Option Ans) (B : (Bool × (List (Int × Int)) → Option Ans) × ((List (Int × Int)) × Int × Int × Int × (List Int) × (List Bool) × (List Int) → Option Ans)) : Option Ans := match B with
 | (ret, b) =>
  bif decide (x2 < x1) then
  bif decide ((0 : Int) ≤ x2 ∧ x2 < (↑x0.length : Int)) then
  bif !Ev.mhas (x0.getD x2.toNat (0 : Int)) x3 then
  ret (false, x3)
  else
  bif Ev.mget (0 : Int) (x0.getD x2.toNat (0 : Int)) x3 != (0 : Int) then
  bif Ev.mget (0 : Int) (x0.getD x2.toNat (0 : Int)) x3 != x6 then
  ret (false, x3)
  else
  c (x0, x1, IntKind.i64.wrap (x2 + (1 : Int)), x3, x4, x5, x6, x7, x8, x9)
  else
  c (x0, x1, IntKind.i64.wrap (x2 + (1 : Int)), x3, x4, x5, x6, x7, x8, x9)
  else none
  else
  b (x3, x4, x5, x6, x7, x8, x9)
noncomputable def S_segment_store_takes_88a_0 (fuel : Nat) (v : (List Int) × Int × Int × (List (Int × Int)) × Int × Int × Int × (List Int) × (List Bool) × (List Int)) (c : ((List Int) × Int × Int × (List (Int × Int)) × Int × Int × Int × (List Int) × (List Bool) × (List Int)) → Option Ans) (B : (Bool × (List (Int × Int)) → Option Ans) × ((List (Int × Int)) × Int × Int × Int × (List Int) × (List Bool) × (List Int) → Option Ans)) : Option Ans := match v with
 | (x0, x1, x2, x3, x4, x5, x6, x7, x8, x9) => Sg_segment_store_takes_88a_0 fuel (F_segment_Valid fuel) x0 x1 x2 x3 x4 x5 x6 x7 x8 x9 c B
noncomputable def L_segment_store_takes_88a_0 (fuel : Nat) (v : (List Int) × Int × Int × (List (Int × Int)) × Int × Int × Int × (List Int) × (List Bool) × (List Int)) (ret : (Bool × (List (Int × Int)) → Option Ans)) (b : ((List (Int × Int)) × Int × Int × Int × (List Int) × (List Bool) × (List Int) → Option Ans)) : Option Ans := iter (S_segment_store_takes_88a_0 fuel) fuel v (ret, b)
noncomputable def J193_88a_0 (fuel : Nat) (i : Nat) : Option Ev.Blk := Ev.look i []
noncomputable def T193_88a_0 (v : (List Int) × Int × Int × (List (Int × Int)) × Int × Int × Int × (List Int) × (List Bool) × (List Int)) : Ev.St := match v with | (x0, x1, x2, x3, x4, x5, x6, x7, x8, x9) => ⟨[(0, .c (.mp 0)), (4, .c (.ptr 1 0)), (23, .c (.sl (.int .i64) x0)), (24, .c (.int .i64 x1)), (25, .c (.int .i64 x2))], [(0, .dict .i64 (.int .i64) x3), (1, .cells 103 [.int .i64 x4, .int .i64 x5, .int .i64 x6, .sl (.int .i64) x7, .sl .bool x8, .sl (.int .u8) x9])], 2, 1⟩
noncomputable def E193_88a_0 (K : Ev.Ex → Ev.St → Option Ans) : (Bool × (List (Int × Int)) → Option Ans) × ((List (Int × Int)) × Int × Int × Int × (List Int) × (List Bool) × (List Int) → Option Ans) := ((fun v => match v with | (x0, x1) => K .ret ⟨[(6, .c (.bool x0))], [(0, .dict .i64 (.int .i64) x1)], 1, 1⟩), (fun v => match v with | (x0, x1, x2, x3, x4, x5, x6) => K .normal ⟨[(0, .c (.mp 0)), (4, .c (.ptr 1 0))], [(0, .dict .i64 (.int .i64) x0), (1, .cells 103 [.int .i64 x1, .int .i64 x2, .int .i64 x3, .sl (.int .i64) x4, .sl .bool x5, .sl (.int .u8) x6])], 2, 1⟩))
theorem S193_88a_0_okg (fuel : Nat) (f59 : YF59) (R : Ev.St → Option Ans) (K : Ev.Ex → Ev.St → Option Ans) (x0 : (List Int)) (x1 x2 : Int) (x3 : (List (Int × Int))) (x4 x5 x6 : Int) (x7 : (List Int)) (x8 : (List Bool)) (x9 : (List Int)) : evalCode tab (Gg193_88a f59) (J193_88a_0 fuel) kp193_88a fuel (bodyOf 0 Try.f193) (T193_88a_0 (x0, x1, x2, x3, x4, x5, x6, x7, x8, x9)) (lc kp193_88a 4 0 R K) = Sg_segment_store_takes_88a_0 fuel f59 x0 x1 x2 x3 x4 x5 x6 x7 x8 x9 (fun v => R (T193_88a_0 v)) (E193_88a_0 K) := by
  kernel_rfl
theorem S193_88a_0_ok (fuel : Nat) (R : Ev.St → Option Ans) (K : Ev.Ex → Ev.St → Option Ans) (x0 : (List Int)) (x1 x2 : Int) (x3 : (List (Int × Int))) (x4 x5 x6 : Int) (x7 : (List Int)) (x8 : (List Bool)) (x9 : (List Int)) : evalCode tab (G193_88a fuel) (J193_88a_0 fuel) kp193_88a fuel (bodyOf 0 Try.f193) (T193_88a_0 (x0, x1, x2, x3, x4, x5, x6, x7, x8, x9)) (lc kp193_88a 4 0 R K) = S_segment_store_takes_88a_0 fuel (x0, x1, x2, x3, x4, x5, x6, x7, x8, x9) (fun v => R (T193_88a_0 v)) (E193_88a_0 K) :=
  S193_88a_0_okg fuel (F_segment_Valid fuel) R K x0 x1 x2 x3 x4 x5 x6 x7 x8 x9
noncomputable def B193_88a_0 (fuel : Nat) : Ev.Blk := fun st K => match canonO (kp193_88a 4) st with
 | some s => (match s with
 | ⟨[(q0, .c (.mp q1)), (q2, .c (.ptr q3 q4)), (q5, .c (.sl (.int .i64) x0)), (q6, .c (.int .i64 x1)), (q7, .c (.int .i64 x2))], [(q8, .dict .i64 (.int .i64) x3), (q9, .cells q10 [.int .i64 x4, .int .i64 x5, .int .i64 x6, .sl (.int .i64) x7, .sl .bool x8, .sl (.int .u8) x9])], q11, q12⟩ => bif Nat.beq q0 0 && Nat.beq q1 0 && Nat.beq q2 4 && Nat.beq q3 1 && Nat.beq q4 0 && Nat.beq q5 23 && Nat.beq q6 24 && Nat.beq q7 25 && Nat.beq q8 0 && Nat.beq q9 1 && Nat.beq q10 103 && Nat.beq q11 2 && Nat.beq q12 1 then iter (S_segment_store_takes_88a_0 fuel) fuel (x0, x1, x2, x3, x4, x5, x6, x7, x8, x9) (E193_88a_0 K) else none
 | _ => none)
 | none => none
theorem B193_88a_0_ok (fuel : Nat) (st : Ev.St) (K : Ev.Ex → Ev.St → Option Ans) (r : Ans) (h : B193_88a_0 fuel st K = some r) : evalCode tab (G193_88a fuel) (J193_88a_0 fuel) kp193_88a fuel (.block 0 (.loop (bodyOf 0 Try.f193))) st K = some r := by
  unfold B193_88a_0 at h
  split at h
  · rename_i s hs
    split at h
    · skip
      obtain ⟨hb, h⟩ := cond_some' h
      simp only [Bool.and_eq_true, Nat.beq_eq, decide_eq_true_eq] at hb
      obtain ⟨⟨⟨⟨⟨⟨⟨⟨⟨⟨⟨⟨rfl, rfl⟩, rfl⟩, rfl⟩, rfl⟩, rfl⟩, rfl⟩, rfl⟩, rfl⟩, rfl⟩, rfl⟩, rfl⟩, rfl⟩ := hb
      exact blk_loop (S := T193_88a_0) (ks := E193_88a_0) (step := S_segment_store_takes_88a_0 fuel) (v := (_, _, _, _, _, _, _, _, _, _)) (by kernel_rfl) (by kernel_rfl) (fun R K v => by obtain ⟨x0, x1, x2, x3, x4, x5, x6, x7, x8, x9⟩ := v; exact S193_88a_0_ok fuel R K x0 x1 x2 x3 x4 x5 x6 x7 x8 x9) hs h
    · cases h
  · cases h
noncomputable def Sg_segment_store_takes_88a_2 (fuel : Nat) (f59 : YF59) (x0 : (List Int)) (x1 x2 : Int) (x3 : (List (Int × Int))) (x4 x5 x6 : Int) (x7 : (List Int)) (x8 : (List Bool)) (x9 : (List Int)) (c : ((List Int) × Int × Int × (List (Int × Int)) × Int × Int × Int × (List Int) × (List Bool) × (List Int)) → Option Ans) (B : ((List (Int × Int)) × Int × Int × Int × (List Int) × (List Bool) × (List Int) → Option Ans)) : Option Ans := match B with
 | b =>
  bif decide (x2 < x1) then
  bif decide ((0 : Int) ≤ x2 ∧ x2 < (↑x0.length : Int)) then
  bif decide ((0 : Int) ≤ x2 ∧ x2 < (↑x8.length : Int)) then
  bif !x8.getD x2.toNat false then
  c (x0, x1, IntKind.i64.wrap (x2 + (1 : Int)), Ev.mdel (x0.getD x2.toNat (0 : Int)) x3, x4, x5, x6, x7, x8, x9)
  else
  c (x0, x1, IntKind.i64.wrap (x2 + (1 : Int)), x3, x4, x5, x6, x7, x8, x9)
  else none
  else none
  else
  b (x3, x4, x5, x6, x7, x8, x9)
noncomputable def S_segment_store_takes_88a_2 (fuel : Nat) (v : (List Int) × Int × Int × (List (Int × Int)) × Int × Int × Int × (List Int) × (List Bool) × (List Int)) (c : ((List Int) × Int × Int × (List (Int × Int)) × Int × Int × Int × (List Int) × (List Bool) × (List Int)) → Option Ans) (B : ((List (Int × Int)) × Int × Int × Int × (List Int) × (List Bool) × (List Int) → Option Ans)) : Option Ans := match v with
 | (x0, x1, x2, x3, x4, x5, x6, x7, x8, x9) => Sg_segment_store_takes_88a_2 fuel (F_segment_Valid fuel) x0 x1 x2 x3 x4 x5 x6 x7 x8 x9 c B
noncomputable def L_segment_store_takes_88a_2 (fuel : Nat) (v : (List Int) × Int × Int × (List (Int × Int)) × Int × Int × Int × (List Int) × (List Bool) × (List Int)) (b : ((List (Int × Int)) × Int × Int × Int × (List Int) × (List Bool) × (List Int) → Option Ans)) : Option Ans := iter (S_segment_store_takes_88a_2 fuel) fuel v b
noncomputable def J193_88a_2 (fuel : Nat) (i : Nat) : Option Ev.Blk := Ev.look i [(100000, B193_88a_0 fuel)]
noncomputable def T193_88a_2 (v : (List Int) × Int × Int × (List (Int × Int)) × Int × Int × Int × (List Int) × (List Bool) × (List Int)) : Ev.St := match v with | (x0, x1, x2, x3, x4, x5, x6, x7, x8, x9) => ⟨[(0, .c (.mp 0)), (4, .c (.ptr 1 0)), (49, .c (.sl (.int .i64) x0)), (50, .c (.int .i64 x1)), (51, .c (.int .i64 x2))], [(0, .dict .i64 (.int .i64) x3), (1, .cells 103 [.int .i64 x4, .int .i64 x5, .int .i64 x6, .sl (.int .i64) x7, .sl .bool x8, .sl (.int .u8) x9])], 2, 1⟩
noncomputable def E193_88a_2 (K : Ev.Ex → Ev.St → Option Ans) : ((List (Int × Int)) × Int × Int × Int × (List Int) × (List Bool) × (List Int) → Option Ans) := (fun v => match v with | (x0, x1, x2, x3, x4, x5, x6) => K .normal ⟨[(0, .c (.mp 0)), (4, .c (.ptr 1 0))], [(0, .dict .i64 (.int .i64) x0), (1, .cells 103 [.int .i64 x1, .int .i64 x2, .int .i64 x3, .sl (.int .i64) x4, .sl .bool x5, .sl (.int .u8) x6])], 2, 1⟩)
theorem S193_88a_2_okg (fuel : Nat) (f59 : YF59) (R : Ev.St → Option Ans) (K : Ev.Ex → Ev.St → Option Ans) (x0 : (List Int)) (x1 x2 : Int) (x3 : (List (Int × Int))) (x4 x5 x6 : Int) (x7 : (List Int)) (x8 : (List Bool)) (x9 : (List Int)) : evalCode tab (Gg193_88a f59) (J193_88a_2 fuel) kp193_88a fuel (bodyOf 2 Try.f193) (T193_88a_2 (x0, x1, x2, x3, x4, x5, x6, x7, x8, x9)) (lc kp193_88a 11 2 R K) = Sg_segment_store_takes_88a_2 fuel f59 x0 x1 x2 x3 x4 x5 x6 x7 x8 x9 (fun v => R (T193_88a_2 v)) (E193_88a_2 K) := by
  kernel_rfl
theorem S193_88a_2_ok (fuel : Nat) (R : Ev.St → Option Ans) (K : Ev.Ex → Ev.St → Option Ans) (x0 : (List Int)) (x1 x2 : Int) (x3 : (List (Int × Int))) (x4 x5 x6 : Int) (x7 : (List Int)) (x8 : (List Bool)) (x9 : (List Int)) : evalCode tab (G193_88a fuel) (J193_88a_2 fuel) kp193_88a fuel (bodyOf 2 Try.f193) (T193_88a_2 (x0, x1, x2, x3, x4, x5, x6, x7, x8, x9)) (lc kp193_88a 11 2 R K) = S_segment_store_takes_88a_2 fuel (x0, x1, x2, x3, x4, x5, x6, x7, x8, x9) (fun v => R (T193_88a_2 v)) (E193_88a_2 K) :=
  S193_88a_2_okg fuel (F_segment_Valid fuel) R K x0 x1 x2 x3 x4 x5 x6 x7 x8 x9
noncomputable def B193_88a_2 (fuel : Nat) : Ev.Blk := fun st K => match canonO (kp193_88a 11) st with
 | some s => (match s with
 | ⟨[(q0, .c (.mp q1)), (q2, .c (.ptr q3 q4)), (q5, .c (.sl (.int .i64) x0)), (q6, .c (.int .i64 x1)), (q7, .c (.int .i64 x2))], [(q8, .dict .i64 (.int .i64) x3), (q9, .cells q10 [.int .i64 x4, .int .i64 x5, .int .i64 x6, .sl (.int .i64) x7, .sl .bool x8, .sl (.int .u8) x9])], q11, q12⟩ => bif Nat.beq q0 0 && Nat.beq q1 0 && Nat.beq q2 4 && Nat.beq q3 1 && Nat.beq q4 0 && Nat.beq q5 49 && Nat.beq q6 50 && Nat.beq q7 51 && Nat.beq q8 0 && Nat.beq q9 1 && Nat.beq q10 103 && Nat.beq q11 2 && Nat.beq q12 1 then iter (S_segment_store_takes_88a_2 fuel) fuel (x0, x1, x2, x3, x4, x5, x6, x7, x8, x9) (E193_88a_2 K) else none
 | _ => none)
 | none => none
theorem B193_88a_2_ok (fuel : Nat) (st : Ev.St) (K : Ev.Ex → Ev.St → Option Ans) (r : Ans) (h : B193_88a_2 fuel st K = some r) : evalCode tab (G193_88a fuel) (J193_88a_2 fuel) kp193_88a fuel (.block 2 (.loop (bodyOf 2 Try.f193))) st K = some r := by
  unfold B193_88a_2 at h
  split at h
  · rename_i s hs
    split at h
    · skip
      obtain ⟨hb, h⟩ := cond_some' h
      simp only [Bool.and_eq_true, Nat.beq_eq, decide_eq_true_eq] at hb
      obtain ⟨⟨⟨⟨⟨⟨⟨⟨⟨⟨⟨⟨rfl, rfl⟩, rfl⟩, rfl⟩, rfl⟩, rfl⟩, rfl⟩, rfl⟩, rfl⟩, rfl⟩, rfl⟩, rfl⟩, rfl⟩ := hb
      exact blk_loop (S := T193_88a_2) (ks := E193_88a_2) (step := S_segment_store_takes_88a_2 fuel) (v := (_, _, _, _, _, _, _, _, _, _)) (by kernel_rfl) (by kernel_rfl) (fun R K v => by obtain ⟨x0, x1, x2, x3, x4, x5, x6, x7, x8, x9⟩ := v; exact S193_88a_2_ok fuel R K x0 x1 x2 x3 x4 x5 x6 x7 x8 x9) hs h
    · cases h
  · cases h
noncomputable def J193_88a (fuel : Nat) (i : Nat) : Option Ev.Blk := Ev.look i [(100000, B193_88a_0 fuel), (100002, B193_88a_2 fuel)]
noncomputable def Fg_segment_store_takes_88a (fuel : Nat) (f59 : YF59) (x0 x1 x2 : Int) (x3 : (List Int)) (x4 : (List Bool)) (x5 : (List Int)) (x6 : Int) (x7 : (List (Int × Int))) (k0 : (Bool × (List (Int × Int))) → Option Ans) : Option Ans :=
  (f59 (x0) (x1) (x2) (x3) (x4) (x5)
  (fun y2 =>
  bif !y2 then
  k0 (false, x7)
  else
  bif decide (x0 ≤ x6) then
  k0 (false, x7)
  else
  (L_segment_store_takes_88a_0 fuel (x3, (↑x3.length : Int), (0 : Int), x7, x0, x1, x2, x3, x4, x5)
  (fun (ret0_0, ret0_1) =>
  k0 (ret0_0, ret0_1))
  (fun (b0_0, b0_1, b0_2, b0_3, b0_4, b0_5, b0_6) =>
  (L_segment_store_takes_88a_2 fuel (b0_4, (↑b0_4.length : Int), (0 : Int), b0_0, b0_1, b0_2, b0_3, b0_4, b0_5, b0_6)
  (fun (b2_0, b2_1, b2_2, b2_3, b2_4, b2_5, b2_6) =>
  bif decide ((0 : Int) ≤ (↑b2_4.length : Int) ∧ (↑b2_4.length : Int) < (↑b2_5.length : Int)) then
  bif b2_5.getD (↑b2_4.length : Int).toNat false then
  k0 (true, Ev.mput b2_1 b2_3 b2_0)
  else
  k0 (true, b2_0)
  else none))))))
noncomputable def F_segment_store_takes_88a (fuel : Nat) (x0 x1 x2 : Int) (x3 : (List Int)) (x4 : (List Bool)) (x5 : (List Int)) (x6 : Int) (x7 : (List (Int × Int))) (k0 : (Bool × (List (Int × Int))) → Option Ans) : Option Ans := Fg_segment_store_takes_88a fuel (F_segment_Valid fuel) x0 x1 x2 x3 x4 x5 x6 x7 k0
abbrev YF193_88a : Type := (Int) → (Int) → (Int) → ((List Int)) → ((List Bool)) → ((List Int)) → (Int) → ((List (Int × Int))) → ((Bool × (List (Int × Int))) → Option Ans) → Option Ans
theorem F193_88a_eqg (fuel : Nat) (f59 : YF59) (x0 x1 x2 : Int) (x3 : (List Int)) (x4 : (List Bool)) (x5 : (List Int)) (x6 : Int) (x7 : (List (Int × Int))) (k : Ev.Cont) : evalFn tab (Gg193_88a f59) (J193_88a fuel) kp193_88a fuel Try.f193 [.c (.mp 0), .agg [.int .i64 x0, .int .i64 x1, .int .i64 x2, .sl (.int .i64) x3, .sl .bool x4, .sl (.int .u8) x5], .c (.int .i64 x6)] [.dict .i64 (.int .i64) x7] k = Fg_segment_store_takes_88a fuel f59 x0 x1 x2 x3 x4 x5 x6 x7 (fun r => match r with | (r0, r1) => k (.c (.bool r0), [.dict .i64 (.int .i64) r1])) := by
  kernel_rfl
theorem F193_88a_eq (fuel : Nat) (x0 x1 x2 : Int) (x3 : (List Int)) (x4 : (List Bool)) (x5 : (List Int)) (x6 : Int) (x7 : (List (Int × Int))) (k : Ev.Cont) : evalFn tab (G193_88a fuel) (J193_88a fuel) kp193_88a fuel Try.f193 [.c (.mp 0), .agg [.int .i64 x0, .int .i64 x1, .int .i64 x2, .sl (.int .i64) x3, .sl .bool x4, .sl (.int .u8) x5], .c (.int .i64 x6)] [.dict .i64 (.int .i64) x7] k = F_segment_store_takes_88a fuel x0 x1 x2 x3 x4 x5 x6 x7 (fun r => match r with | (r0, r1) => k (.c (.bool r0), [.dict .i64 (.int .i64) r1])) :=
  F193_88a_eqg fuel (F_segment_Valid fuel) x0 x1 x2 x3 x4 x5 x6 x7 k
theorem hG193_88a (fuel : Nat) : GOK Try.prog (G193_88a fuel) :=
  gok_cons ⟨ok59 fuel, enters_of Try.func59 (by kernel_rfl) rfl⟩ <|
  gok_nil
theorem B193_88a_0_blk (fuel : Nat) : BlkOK Try.prog Try.f193.ntmps (.block 0 (.loop (bodyOf 0 Try.f193))) (B193_88a_0 fuel) :=
  blk_of (blk_of_code tab_ok (hG193_88a fuel) mixed (J := J193_88a_0 fuel) (kp := kp193_88a) (fuel := fuel) (by kernel_rfl) (fun q hq => by
    rw [(by kernel_rfl : obl (J193_88a_0 fuel) (.block 0 (.loop (bodyOf 0 Try.f193))) = [])] at hq
    cases hq)) (B193_88a_0_ok fuel)
theorem B193_88a_2_blk (fuel : Nat) : BlkOK Try.prog Try.f193.ntmps (.block 2 (.loop (bodyOf 2 Try.f193))) (B193_88a_2 fuel) :=
  blk_of (blk_of_code tab_ok (hG193_88a fuel) mixed (J := J193_88a_2 fuel) (kp := kp193_88a) (fuel := fuel) (by kernel_rfl) (fun q hq => by
    rw [(by kernel_rfl : obl (J193_88a_2 fuel) (.block 2 (.loop (bodyOf 2 Try.f193))) = [])] at hq
    cases hq)) (B193_88a_2_ok fuel)
theorem fok193_88a (fuel : Nat) : FnOK Try.prog 193 (evalFn tab (G193_88a fuel) (J193_88a fuel) kp193_88a fuel Try.f193) :=
  fn_ok tab_ok (hG193_88a fuel) mixed Try.func193 (c := (Try.f193.body).getD .skip) rfl (fun q hq => by
    rw [(by kernel_rfl : obl (J193_88a fuel) ((Try.f193.body).getD .skip) = [(.block 0 (.loop (bodyOf 0 Try.f193)), B193_88a_0 fuel), (.block 2 (.loop (bodyOf 2 Try.f193)), B193_88a_2 fuel)])] at hq
    simp only [List.mem_cons, List.not_mem_nil, or_false] at hq
    rcases hq with rfl | rfl
    · exact B193_88a_0_blk fuel
    · exact B193_88a_2_blk fuel)
noncomputable def mt193_88a : List Ev.SV → List Ev.Ob → Bool := fun args objs => match args, objs with
 | [.c (.mp q0), .agg [.int .i64 _, .int .i64 _, .int .i64 _, .sl (.int .i64) _, .sl .bool _, .sl (.int .u8) _], .c (.int .i64 _)], [.dict .i64 (.int .i64) _] => Nat.beq q0 0
 | _, _ => false
noncomputable def spg193_88a (F : YF193_88a) : Ev.Spec := fun args objs k => match args, objs with
 | [.c (.mp q0), .agg [.int .i64 x0, .int .i64 x1, .int .i64 x2, .sl (.int .i64) x3, .sl .bool x4, .sl (.int .u8) x5], .c (.int .i64 x6)], [.dict .i64 (.int .i64) x7] => bif Nat.beq q0 0 then F x0 x1 x2 x3 x4 x5 x6 x7 (fun r => match r with | (r0, r1) => k (.c (.bool r0), [.dict .i64 (.int .i64) r1])) else none
 | _, _ => none
noncomputable def spec193_88a (fuel : Nat) : Ev.Spec := spg193_88a (F_segment_store_takes_88a fuel)
theorem ok193_88a (fuel : Nat) : FnOK Try.prog 193 (spec193_88a fuel) := by
  intro args objs kk r h
  unfold spec193_88a spg193_88a at h
  split at h
  · skip
    obtain ⟨hb, h⟩ := cond_some' h
    simp only [Bool.and_eq_true, Nat.beq_eq, decide_eq_true_eq] at hb
    obtain rfl := hb
    exact fok193_88a fuel _ _ kk r ((F193_88a_eq fuel _ _ _ _ _ _ _ _ kk).trans h)
  · cases h
end Go.Proofs.Ytihfgpfofmjbaaa

set_option linter.unusedVariables false
set_option linter.unusedSimpArgs false
set_option maxRecDepth 100000
set_option maxHeartbeats 2000000
namespace Go.Proofs.Ytihfgpfofmjbaaa
open Go Ev
def kp134 (i : Nat) : Option (List Nat) := Ev.look i [(4, [4, 5, 9, 10, 11]), (100000, [4]), (400000, [2, 3])]
noncomputable def Gg134 (f193_88a : YF193_88a) (f : Nat) : Option Ev.Spec := Ev.look f [(193, spg193_88a f193_88a)]
noncomputable def G134 (fuel : Nat) : Nat → Option Ev.Spec := Gg134 (F_segment_store_takes_88a fuel)
noncomputable def Sg_segment_order_0 (fuel : Nat) (f193_88a : YF193_88a) (x0 : Int) (x1 : (List (Int × (Int × (Int × ((List Int) × ((List Bool) × (List Int)))))))) (x2 x3 : Int) (x4 : (List (Int × Int))) (c : (Int × (List (Int × (Int × (Int × ((List Int) × ((List Bool) × (List Int))))))) × Int × Int × (List (Int × Int))) → Option Ans) (B : (Int × (List (Int × Int)) → Option Ans) × ((List (Int × Int)) → Option Ans)) : Option Ans := match B with
 | (ret, b) =>
  bif decide (x3 < x2) then
  bif decide ((0 : Int) ≤ x3 ∧ x3 < (↑x1.length : Int)) then
  (f193_88a ((x1.getD x3.toNat ((0 : Int), (0 : Int), (0 : Int), [], [], [])).fst) ((x1.getD x3.toNat ((0 : Int), (0 : Int), (0 : Int), [], [], [])).snd.fst) ((x1.getD x3.toNat ((0 : Int), (0 : Int), (0 : Int), [], [], [])).snd.snd.fst) ((x1.getD x3.toNat ((0 : Int), (0 : Int), (0 : Int), [], [], [])).snd.snd.snd.fst) ((x1.getD x3.toNat ((0 : Int), (0 : Int), (0 : Int), [], [], [])).snd.snd.snd.snd.fst) ((x1.getD x3.toNat ((0 : Int), (0 : Int), (0 : Int), [], [], [])).snd.snd.snd.snd.snd) (x0) (x4)
  (fun (y4_0, y4_1) =>
  bif !y4_0 then
  ret (x3, y4_1)
  else
  c ((x1.getD x3.toNat ((0 : Int), (0 : Int), (0 : Int), [], [], [])).fst, x1, x2, IntKind.i64.wrap (x3 + (1 : Int)), y4_1)))
  else none
  else
  b x4
noncomputable def S_segment_order_0 (fuel : Nat) (v : Int × (List (Int × (Int × (Int × ((List Int) × ((List Bool) × (List Int))))))) × Int × Int × (List (Int × Int))) (c : (Int × (List (Int × (Int × (Int × ((List Int) × ((List Bool) × (List Int))))))) × Int × Int × (List (Int × Int))) → Option Ans) (B : (Int × (List (Int × Int)) → Option Ans) × ((List (Int × Int)) → Option Ans)) : Option Ans := match v with
 | (x0, x1, x2, x3, x4) => Sg_segment_order_0 fuel (F_segment_store_takes_88a fuel) x0 x1 x2 x3 x4 c B
noncomputable def L_segment_order_0 (fuel : Nat) (v : Int × (List (Int × (Int × (Int × ((List Int) × ((List Bool) × (List Int))))))) × Int × Int × (List (Int × Int))) (ret : (Int × (List (Int × Int)) → Option Ans)) (b : ((List (Int × Int)) → Option Ans)) : Option Ans := iter (S_segment_order_0 fuel) fuel v (ret, b)
noncomputable def J134_0 (fuel : Nat) (i : Nat) : Option Ev.Blk := Ev.look i []
noncomputable def T134_0 (v : Int × (List (Int × (Int × (Int × ((List Int) × ((List Bool) × (List Int))))))) × Int × Int × (List (Int × Int))) : Ev.St := match v with | (x0, x1, x2, x3, x4) => ⟨[(4, .c (.mp 0)), (5, .c (.int .i64 x0)), (9, .c (.sl (.pair (.int .i64) (.pair (.int .i64) (.pair (.int .i64) (.pair (.sl (.int .i64)) (.pair (.sl .bool) (.sl (.int .u8))))))) x1)), (10, .c (.int .i64 x2)), (11, .c (.int .i64 x3))], [(0, .dict .i64 (.int .i64) x4)], 1, 0⟩
noncomputable def E134_0 (K : Ev.Ex → Ev.St → Option Ans) : (Int × (List (Int × Int)) → Option Ans) × ((List (Int × Int)) → Option Ans) := ((fun v => match v with | (x0, x1) => K .ret ⟨[(2, .c (.mp 0)), (3, .c (.int .i64 x0))], [(0, .dict .i64 (.int .i64) x1)], 1, 0⟩), (fun v => match v with | x0 => K .normal ⟨[(4, .c (.mp 0))], [(0, .dict .i64 (.int .i64) x0)], 1, 0⟩))
theorem S134_0_okg (fuel : Nat) (f193_88a : YF193_88a) (R : Ev.St → Option Ans) (K : Ev.Ex → Ev.St → Option Ans) (x0 : Int) (x1 : (List (Int × (Int × (Int × ((List Int) × ((List Bool) × (List Int)))))))) (x2 x3 : Int) (x4 : (List (Int × Int))) : evalCode tab (Gg134 f193_88a) (J134_0 fuel) kp134 fuel (bodyOf 0 Try.f134) (T134_0 (x0, x1, x2, x3, x4)) (lc kp134 4 0 R K) = Sg_segment_order_0 fuel f193_88a x0 x1 x2 x3 x4 (fun v => R (T134_0 v)) (E134_0 K) := by
  kernel_rfl
theorem S134_0_ok (fuel : Nat) (R : Ev.St → Option Ans) (K : Ev.Ex → Ev.St → Option Ans) (x0 : Int) (x1 : (List (Int × (Int × (Int × ((List Int) × ((List Bool) × (List Int)))))))) (x2 x3 : Int) (x4 : (List (Int × Int))) : evalCode tab (G134 fuel) (J134_0 fuel) kp134 fuel (bodyOf 0 Try.f134) (T134_0 (x0, x1, x2, x3, x4)) (lc kp134 4 0 R K) = S_segment_order_0 fuel (x0, x1, x2, x3, x4) (fun v => R (T134_0 v)) (E134_0 K) :=
  S134_0_okg fuel (F_segment_store_takes_88a fuel) R K x0 x1 x2 x3 x4
noncomputable def B134_0 (fuel : Nat) : Ev.Blk := fun st K => match canonO (kp134 4) st with
 | some s => (match s with
 | ⟨[(q0, .c (.mp q1)), (q2, .c (.int .i64 x0)), (q3, .c (.sl (.pair (.int .i64) (.pair (.int .i64) (.pair (.int .i64) (.pair (.sl (.int .i64)) (.pair (.sl .bool) (.sl (.int .u8))))))) x1)), (q4, .c (.int .i64 x2)), (q5, .c (.int .i64 x3))], [(q6, .dict .i64 (.int .i64) x4)], q7, q8⟩ => bif Nat.beq q0 4 && Nat.beq q1 0 && Nat.beq q2 5 && Nat.beq q3 9 && Nat.beq q4 10 && Nat.beq q5 11 && Nat.beq q6 0 && Nat.beq q7 1 && Nat.beq q8 0 then iter (S_segment_order_0 fuel) fuel (x0, x1, x2, x3, x4) (E134_0 K) else none
 | _ => none)
 | none => none
theorem B134_0_ok (fuel : Nat) (st : Ev.St) (K : Ev.Ex → Ev.St → Option Ans) (r : Ans) (h : B134_0 fuel st K = some r) : evalCode tab (G134 fuel) (J134_0 fuel) kp134 fuel (.block 0 (.loop (bodyOf 0 Try.f134))) st K = some r := by
  unfold B134_0 at h
  split at h
  · rename_i s hs
    split at h
    · skip
      obtain ⟨hb, h⟩ := cond_some' h
      simp only [Bool.and_eq_true, Nat.beq_eq, decide_eq_true_eq] at hb
      obtain ⟨⟨⟨⟨⟨⟨⟨⟨rfl, rfl⟩, rfl⟩, rfl⟩, rfl⟩, rfl⟩, rfl⟩, rfl⟩, rfl⟩ := hb
      exact blk_loop (S := T134_0) (ks := E134_0) (step := S_segment_order_0 fuel) (v := (_, _, _, _, _)) (by kernel_rfl) (by kernel_rfl) (fun R K v => by obtain ⟨x0, x1, x2, x3, x4⟩ := v; exact S134_0_ok fuel R K x0 x1 x2 x3 x4) hs h
    · cases h
  · cases h
noncomputable def J134 (fuel : Nat) (i : Nat) : Option Ev.Blk := Ev.look i [(100000, B134_0 fuel)]
noncomputable def Fg_segment_order (fuel : Nat) (f193_88a : YF193_88a) (x0 : (List (Int × Int × Int × (List Int) × (List Bool) × (List Int)))) (k0 : (Int × (List (Int × Int))) → Option Ans) : Option Ans :=
  (L_segment_order_0 fuel ((-1 : Int), x0, (↑x0.length : Int), (0 : Int), [])
  (fun (ret0_0, ret0_1) =>
  k0 (ret0_0, ret0_1))
  (fun b0_0 =>
  k0 ((-1 : Int), b0_0)))
noncomputable def F_segment_order (fuel : Nat) (x0 : (List (Int × Int × Int × (List Int) × (List Bool) × (List Int)))) (k0 : (Int × (List (Int × Int))) → Option Ans) : Option Ans := Fg_segment_order fuel (F_segment_store_takes_88a fuel) x0 k0
abbrev YF134 : Type := ((List (Int × Int × Int × (List Int) × (List Bool) × (List Int)))) → ((Int × (List (Int × Int))) → Option Ans) → Option Ans
theorem F134_eqg (fuel : Nat) (f193_88a : YF193_88a) (x0 : (List (Int × Int × Int × (List Int) × (List Bool) × (List Int)))) (k : Ev.Cont) : evalFn tab (Gg134 f193_88a) (J134 fuel) kp134 fuel Try.f134 [.c (.sl (.pair (.int .i64) (.pair (.int .i64) (.pair (.int .i64) (.pair (.sl (.int .i64)) (.pair (.sl .bool) (.sl (.int .u8))))))) x0)] [] k = Fg_segment_order fuel f193_88a x0 (fun r => match r with | (r0, r1) => k (.tup [(false, [.mp 0]), (false, [.int .i64 r0])], [.dict .i64 (.int .i64) r1])) := by
  kernel_rfl
theorem F134_eq (fuel : Nat) (x0 : (List (Int × Int × Int × (List Int) × (List Bool) × (List Int)))) (k : Ev.Cont) : evalFn tab (G134 fuel) (J134 fuel) kp134 fuel Try.f134 [.c (.sl (.pair (.int .i64) (.pair (.int .i64) (.pair (.int .i64) (.pair (.sl (.int .i64)) (.pair (.sl .bool) (.sl (.int .u8))))))) x0)] [] k = F_segment_order fuel x0 (fun r => match r with | (r0, r1) => k (.tup [(false, [.mp 0]), (false, [.int .i64 r0])], [.dict .i64 (.int .i64) r1])) :=
  F134_eqg fuel (F_segment_store_takes_88a fuel) x0 k
theorem hG134 (fuel : Nat) : GOK Try.prog (G134 fuel) :=
  gok_cons ⟨ok193_88a fuel, enters_of Try.func193 (by kernel_rfl) rfl⟩ <|
  gok_nil
theorem B134_0_blk (fuel : Nat) : BlkOK Try.prog Try.f134.ntmps (.block 0 (.loop (bodyOf 0 Try.f134))) (B134_0 fuel) :=
  blk_of (blk_of_code tab_ok (hG134 fuel) mixed (J := J134_0 fuel) (kp := kp134) (fuel := fuel) (by kernel_rfl) (fun q hq => by
    rw [(by kernel_rfl : obl (J134_0 fuel) (.block 0 (.loop (bodyOf 0 Try.f134))) = [])] at hq
    cases hq)) (B134_0_ok fuel)
theorem fok134 (fuel : Nat) : FnOK Try.prog 134 (evalFn tab (G134 fuel) (J134 fuel) kp134 fuel Try.f134) :=
  fn_ok tab_ok (hG134 fuel) mixed Try.func134 (c := (Try.f134.body).getD .skip) rfl (fun q hq => by
    rw [(by kernel_rfl : obl (J134 fuel) ((Try.f134.body).getD .skip) = [(.block 0 (.loop (bodyOf 0 Try.f134)), B134_0 fuel)])] at hq
    simp only [List.mem_cons, List.not_mem_nil, or_false] at hq
    subst hq
    · exact B134_0_blk fuel)
noncomputable def mt134 : List Ev.SV → List Ev.Ob → Bool := fun args objs => match args, objs with
 | [.c (.sl (.pair (.int .i64) (.pair (.int .i64) (.pair (.int .i64) (.pair (.sl (.int .i64)) (.pair (.sl .bool) (.sl (.int .u8))))))) _)], [] => true
 | _, _ => false
noncomputable def spg134 (F : YF134) : Ev.Spec := fun args objs k => match args, objs with
 | [.c (.sl (.pair (.int .i64) (.pair (.int .i64) (.pair (.int .i64) (.pair (.sl (.int .i64)) (.pair (.sl .bool) (.sl (.int .u8))))))) x0)], [] => bif true then F x0 (fun r => match r with | (r0, r1) => k (.tup [(false, [.mp 0]), (false, [.int .i64 r0])], [.dict .i64 (.int .i64) r1])) else none
 | _, _ => none
noncomputable def spec134 (fuel : Nat) : Ev.Spec := spg134 (F_segment_order fuel)
theorem ok134 (fuel : Nat) : FnOK Try.prog 134 (spec134 fuel) := by
  intro args objs kk r h
  unfold spec134 spg134 at h
  split at h
  · skip
    obtain ⟨hb, h⟩ := cond_some' h
    simp only [Bool.and_eq_true, Nat.beq_eq, decide_eq_true_eq] at hb
    clear hb
    exact fok134 fuel _ _ kk r ((F134_eq fuel _ kk).trans h)
  · cases h
end Go.Proofs.Ytihfgpfofmjbaaa

set_option linter.unusedVariables false
set_option linter.unusedSimpArgs false
set_option maxRecDepth 100000
set_option maxHeartbeats 2000000
namespace Go.Proofs.Ytihfgpfofmjbaaa
open Go Ev
def kp60 (i : Nat) : Option (List Nat) := Ev.look i []
noncomputable def Gg60 (f134 : YF134) (f : Nat) : Option Ev.Spec := Ev.look f [(134, spg134 f134)]
noncomputable def G60 (fuel : Nat) : Nat → Option Ev.Spec := Gg60 (F_segment_order fuel)
noncomputable def J60 (fuel : Nat) (i : Nat) : Option Ev.Blk := Ev.look i []
noncomputable def Fg_segment_InOrder (fuel : Nat) (f134 : YF134) (x0 : (List (Int × Int × Int × (List Int) × (List Bool) × (List Int)))) (k0 : (Int × Int) → Option Ans) : Option Ans :=
  (f134 (x0)
  (fun (y2_0, y2_1) =>
  bif decide (y2_0 ≥ (0 : Int)) then
  k0 (y2_0, (40 : Int))
  else
  k0 ((-1 : Int), (0 : Int))))
noncomputable def F_segment_InOrder (fuel : Nat) (x0 : (List (Int × Int × Int × (List Int) × (List Bool) × (List Int)))) (k0 : (Int × Int) → Option Ans) : Option Ans := Fg_segment_InOrder fuel (F_segment_order fuel) x0 k0
abbrev YF60 : Type := ((List (Int × Int × Int × (List Int) × (List Bool) × (List Int)))) → ((Int × Int) → Option Ans) → Option Ans
theorem F60_eqg (fuel : Nat) (f134 : YF134) (x0 : (List (Int × Int × Int × (List Int) × (List Bool) × (List Int)))) (k : Ev.Cont) : evalFn tab (Gg60 f134) (J60 fuel) kp60 fuel Try.f60 [.c (.sl (.pair (.int .i64) (.pair (.int .i64) (.pair (.int .i64) (.pair (.sl (.int .i64)) (.pair (.sl .bool) (.sl (.int .u8))))))) x0)] [] k = Fg_segment_InOrder fuel f134 x0 (fun r => match r with | (r0, r1) => k (.tup [(false, [.int .i64 r0]), (false, [.int .i64 r1])], [])) := by
  kernel_rfl
theorem F60_eq (fuel : Nat) (x0 : (List (Int × Int × Int × (List Int) × (List Bool) × (List Int)))) (k : Ev.Cont) : evalFn tab (G60 fuel) (J60 fuel) kp60 fuel Try.f60 [.c (.sl (.pair (.int .i64) (.pair (.int .i64) (.pair (.int .i64) (.pair (.sl (.int .i64)) (.pair (.sl .bool) (.sl (.int .u8))))))) x0)] [] k = F_segment_InOrder fuel x0 (fun r => match r with | (r0, r1) => k (.tup [(false, [.int .i64 r0]), (false, [.int .i64 r1])], [])) :=
  F60_eqg fuel (F_segment_order fuel) x0 k
theorem hG60 (fuel : Nat) : GOK Try.prog (G60 fuel) :=
  gok_cons ⟨ok134 fuel, enters_of Try.func134 (by kernel_rfl) rfl⟩ <|
  gok_nil
theorem fok60 (fuel : Nat) : FnOK Try.prog 60 (evalFn tab (G60 fuel) (J60 fuel) kp60 fuel Try.f60) :=
  fn_ok tab_ok (hG60 fuel) mixed Try.func60 (c := (Try.f60.body).getD .skip) rfl (fun q hq => by
    rw [(by kernel_rfl : obl (J60 fuel) ((Try.f60.body).getD .skip) = [])] at hq
    cases hq)
noncomputable def mt60 : List Ev.SV → List Ev.Ob → Bool := fun args objs => match args, objs with
 | [.c (.sl (.pair (.int .i64) (.pair (.int .i64) (.pair (.int .i64) (.pair (.sl (.int .i64)) (.pair (.sl .bool) (.sl (.int .u8))))))) _)], [] => true
 | _, _ => false
noncomputable def spg60 (F : YF60) : Ev.Spec := fun args objs k => match args, objs with
 | [.c (.sl (.pair (.int .i64) (.pair (.int .i64) (.pair (.int .i64) (.pair (.sl (.int .i64)) (.pair (.sl .bool) (.sl (.int .u8))))))) x0)], [] => bif true then F x0 (fun r => match r with | (r0, r1) => k (.tup [(false, [.int .i64 r0]), (false, [.int .i64 r1])], [])) else none
 | _, _ => none
noncomputable def spec60 (fuel : Nat) : Ev.Spec := spg60 (F_segment_InOrder fuel)
theorem ok60 (fuel : Nat) : FnOK Try.prog 60 (spec60 fuel) := by
  intro args objs kk r h
  unfold spec60 spg60 at h
  split at h
  · skip
    obtain ⟨hb, h⟩ := cond_some' h
    simp only [Bool.and_eq_true, Nat.beq_eq, decide_eq_true_eq] at hb
    clear hb
    exact fok60 fuel _ _ kk r ((F60_eq fuel _ kk).trans h)
  · cases h
end Go.Proofs.Ytihfgpfofmjbaaa

set_option linter.unusedVariables false
set_option linter.unusedSimpArgs false
set_option maxRecDepth 100000
set_option maxHeartbeats 2000000
namespace Go.Proofs.Ytihfgpfofmjbaaa
open Go Ev
def kp103_f32 (i : Nat) : Option (List Nat) := Ev.look i []
noncomputable def Gg103_f32 (f60 : YF60) (f172_857 : YF172_857) (f : Nat) : Option Ev.Spec := Ev.look f [(60, spg60 f60), (172, spg172_857 f172_857)]
noncomputable def G103_f32 (fuel : Nat) : Nat → Option Ev.Spec := Gg103_f32 (F_segment_InOrder fuel) (F_file_reader_fail_857 fuel)
noncomputable def J103_f32 (fuel : Nat) (i : Nat) : Option Ev.Blk := Ev.look i []
noncomputable def Fg_file_reader_finish_f32 (fuel : Nat) (f60 : YF60) (f172_857 : YF172_857) (x0 : (List Int)) (x1 x2 x3 : Int) (x4 : (List (Int × (Int × (Int × ((List Int) × ((List Bool) × (List Int)))))))) (x5 x6 : (List Int)) (k0 : ((List Int) × Int × Int × Int × (List (Int × (Int × (Int × ((List Int) × ((List Bool) × (List Int))))))) × (List Int) × (List Int)) → Option Ans) : Option Ans :=
  bif x3 != (0 : Int) then
  k0 (x0, x1, x2, x3, x4, x5, x6)
  else
  (f60 (x4)
  (fun (y3_0, y3_1) =>
  bif y3_1 != (0 : Int) then
  bif decide ((0 : Int) ≤ y3_0 ∧ y3_0 < (↑x5.length : Int)) then
  (f172_857 (x5.getD y3_0.toNat (0 : Int)) (y3_1) (x0) (x1) (x2) (x3) (x4) (x5) (x6)
  (fun (y9_0, y9_1, y9_2, y9_3, y9_4, y9_5, y9_6) =>
  k0 (y9_0, y9_1, y9_2, y9_3, y9_4, y9_5, y9_6)))
  else none
  else
  k0 (x0, x1, x2, x3, x4, x5, x6)))
noncomputable def F_file_reader_finish_f32 (fuel : Nat) (x0 : (List Int)) (x1 x2 x3 : Int) (x4 : (List (Int × (Int × (Int × ((List Int) × ((List Bool) × (List Int)))))))) (x5 x6 : (List Int)) (k0 : ((List Int) × Int × Int × Int × (List (Int × (Int × (Int × ((List Int) × ((List Bool) × (List Int))))))) × (List Int) × (List Int)) → Option Ans) : Option Ans := Fg_file_reader_finish_f32 fuel (F_segment_InOrder fuel) (F_file_reader_fail_857 fuel) x0 x1 x2 x3 x4 x5 x6 k0
abbrev YF103_f32 : Type := ((List Int)) → (Int) → (Int) → (Int) → ((List (Int × (Int × (Int × ((List Int) × ((List Bool) × (List Int)))))))) → ((List Int)) → ((List Int)) → (((List Int) × Int × Int × Int × (List (Int × (Int × (Int × ((List Int) × ((List Bool) × (List Int))))))) × (List Int) × (List Int)) → Option Ans) → Option Ans
theorem F103_f32_eqg (fuel : Nat) (f60 : YF60) (f172_857 : YF172_857) (x0 : (List Int)) (x1 x2 x3 : Int) (x4 : (List (Int × (Int × (Int × ((List Int) × ((List Bool) × (List Int)))))))) (x5 x6 : (List Int)) (k : Ev.Cont) : evalFn tab (Gg103_f32 f60 f172_857) (J103_f32 fuel) kp103_f32 fuel Try.f103 [.c (.ptr 0 0)] [.cells 141 [.sl (.int .u8) x0, .int .i64 x1, .own 1, .own 2, .own 3, .int .i64 x2, .int .i64 x3], .vec 103 (.pair (.int .i64) (.pair (.int .i64) (.pair (.int .i64) (.pair (.sl (.int .i64)) (.pair (.sl .bool) (.sl (.int .u8))))))) x4 false, .vec 3 (.int .i64) x5 false, .vec 3 (.int .i64) x6 false] k = Fg_file_reader_finish_f32 fuel f60 f172_857 x0 x1 x2 x3 x4 x5 x6 (fun r => match r with | (r0, r1, r2, r3, r4, r5, r6) => k (.tup [], [.cells 141 [.sl (.int .u8) r0, .int .i64 r1, .own 1, .own 2, .own 3, .int .i64 r2, .int .i64 r3], .vec 103 (.pair (.int .i64) (.pair (.int .i64) (.pair (.int .i64) (.pair (.sl (.int .i64)) (.pair (.sl .bool) (.sl (.int .u8))))))) r4 false, .vec 3 (.int .i64) r5 false, .vec 3 (.int .i64) r6 false])) := by
  kernel_rfl
theorem F103_f32_eq (fuel : Nat) (x0 : (List Int)) (x1 x2 x3 : Int) (x4 : (List (Int × (Int × (Int × ((List Int) × ((List Bool) × (List Int)))))))) (x5 x6 : (List Int)) (k : Ev.Cont) : evalFn tab (G103_f32 fuel) (J103_f32 fuel) kp103_f32 fuel Try.f103 [.c (.ptr 0 0)] [.cells 141 [.sl (.int .u8) x0, .int .i64 x1, .own 1, .own 2, .own 3, .int .i64 x2, .int .i64 x3], .vec 103 (.pair (.int .i64) (.pair (.int .i64) (.pair (.int .i64) (.pair (.sl (.int .i64)) (.pair (.sl .bool) (.sl (.int .u8))))))) x4 false, .vec 3 (.int .i64) x5 false, .vec 3 (.int .i64) x6 false] k = F_file_reader_finish_f32 fuel x0 x1 x2 x3 x4 x5 x6 (fun r => match r with | (r0, r1, r2, r3, r4, r5, r6) => k (.tup [], [.cells 141 [.sl (.int .u8) r0, .int .i64 r1, .own 1, .own 2, .own 3, .int .i64 r2, .int .i64 r3], .vec 103 (.pair (.int .i64) (.pair (.int .i64) (.pair (.int .i64) (.pair (.sl (.int .i64)) (.pair (.sl .bool) (.sl (.int .u8))))))) r4 false, .vec 3 (.int .i64) r5 false, .vec 3 (.int .i64) r6 false])) :=
  F103_f32_eqg fuel (F_segment_InOrder fuel) (F_file_reader_fail_857 fuel) x0 x1 x2 x3 x4 x5 x6 k
theorem hG103_f32 (fuel : Nat) : GOK Try.prog (G103_f32 fuel) :=
  gok_cons ⟨ok60 fuel, enters_of Try.func60 (by kernel_rfl) rfl⟩ <|
  gok_cons ⟨ok172_857 fuel, enters_of Try.func172 (by kernel_rfl) rfl⟩ <|
  gok_nil
theorem fok103_f32 (fuel : Nat) : FnOK Try.prog 103 (evalFn tab (G103_f32 fuel) (J103_f32 fuel) kp103_f32 fuel Try.f103) :=
  fn_ok tab_ok (hG103_f32 fuel) mixed Try.func103 (c := (Try.f103.body).getD .skip) rfl (fun q hq => by
    rw [(by kernel_rfl : obl (J103_f32 fuel) ((Try.f103.body).getD .skip) = [])] at hq
    cases hq)
noncomputable def mt103_f32 : List Ev.SV → List Ev.Ob → Bool := fun args objs => match args, objs with
 | [.c (.ptr q0 q1)], [.cells q2 [.sl (.int .u8) _, .int .i64 _, .own q3, .own q4, .own q5, .int .i64 _, .int .i64 _], .vec q6 (.pair (.int .i64) (.pair (.int .i64) (.pair (.int .i64) (.pair (.sl (.int .i64)) (.pair (.sl .bool) (.sl (.int .u8))))))) _ false, .vec q7 (.int .i64) _ false, .vec q8 (.int .i64) _ false] => Nat.beq q0 0 && Nat.beq q1 0 && Nat.beq q2 141 && Nat.beq q3 1 && Nat.beq q4 2 && Nat.beq q5 3 && Nat.beq q6 103 && Nat.beq q7 3 && Nat.beq q8 3
 | _, _ => false
noncomputable def spg103_f32 (F : YF103_f32) : Ev.Spec := fun args objs k => match args, objs with
 | [.c (.ptr q0 q1)], [.cells q2 [.sl (.int .u8) x0, .int .i64 x1, .own q3, .own q4, .own q5, .int .i64 x2, .int .i64 x3], .vec q6 (.pair (.int .i64) (.pair (.int .i64) (.pair (.int .i64) (.pair (.sl (.int .i64)) (.pair (.sl .bool) (.sl (.int .u8))))))) x4 false, .vec q7 (.int .i64) x5 false, .vec q8 (.int .i64) x6 false] => bif Nat.beq q0 0 && Nat.beq q1 0 && Nat.beq q2 141 && Nat.beq q3 1 && Nat.beq q4 2 && Nat.beq q5 3 && Nat.beq q6 103 && Nat.beq q7 3 && Nat.beq q8 3 then F x0 x1 x2 x3 x4 x5 x6 (fun r => match r with | (r0, r1, r2, r3, r4, r5, r6) => k (.tup [], [.cells 141 [.sl (.int .u8) r0, .int .i64 r1, .own 1, .own 2, .own 3, .int .i64 r2, .int .i64 r3], .vec 103 (.pair (.int .i64) (.pair (.int .i64) (.pair (.int .i64) (.pair (.sl (.int .i64)) (.pair (.sl .bool) (.sl (.int .u8))))))) r4 false, .vec 3 (.int .i64) r5 false, .vec 3 (.int .i64) r6 false])) else none
 | _, _ => none
noncomputable def spec103_f32 (fuel : Nat) : Ev.Spec := spg103_f32 (F_file_reader_finish_f32 fuel)
theorem ok103_f32 (fuel : Nat) : FnOK Try.prog 103 (spec103_f32 fuel) := by
  intro args objs kk r h
  unfold spec103_f32 spg103_f32 at h
  split at h
  · skip
    obtain ⟨hb, h⟩ := cond_some' h
    simp only [Bool.and_eq_true, Nat.beq_eq, decide_eq_true_eq] at hb
    obtain ⟨⟨⟨⟨⟨⟨⟨⟨rfl, rfl⟩, rfl⟩, rfl⟩, rfl⟩, rfl⟩, rfl⟩, rfl⟩, rfl⟩ := hb
    exact fok103_f32 fuel _ _ kk r ((F103_f32_eq fuel _ _ _ _ _ _ _ kk).trans h)
  · cases h
end Go.Proofs.Ytihfgpfofmjbaaa

set_option linter.unusedVariables false
set_option linter.unusedSimpArgs false
set_option maxRecDepth 100000
set_option maxHeartbeats 2000000
namespace Go.Proofs.Ytihfgpfofmjbaaa
open Go Ev
def kp203 (i : Nat) : Option (List Nat) := Ev.look i []
noncomputable def Gg203 (f : Nat) : Option Ev.Spec := Ev.look f []
noncomputable def G203 (fuel : Nat) : Nat → Option Ev.Spec := Gg203
noncomputable def J203 (fuel : Nat) (i : Nat) : Option Ev.Blk := Ev.look i []
noncomputable def F_slices_Clone_byte_byte (fuel : Nat) (x0 : (List Int)) (k0 : ((List Int)) → Option Ans) : Option Ans :=
  bif decide ((↑x0.length : Int) = (0 : Int)) then
  both (k0 [])
  (bif decide (((0 : Nat) + x0.length) * (1 : Nat) ≤ (140737488355328 : Nat) ∧ (0 : Nat) + x0.length ≤ (140737488355328 : Nat)) then
  k0 ([] ++ x0)
  else none)
  else
  bif decide (((0 : Nat) + x0.length) * (1 : Nat) ≤ (140737488355328 : Nat) ∧ (0 : Nat) + x0.length ≤ (140737488355328 : Nat)) then
  k0 ([] ++ x0)
  else none
abbrev YF203 : Type := ((List Int)) → (((List Int)) → Option Ans) → Option Ans
theorem F203_eq (fuel : Nat) (x0 : (List Int)) (k : Ev.Cont) : evalFn tab (G203 fuel) (J203 fuel) kp203 fuel Try.f203 [.c (.sl (.int .u8) x0)] [] k = F_slices_Clone_byte_byte fuel x0 (fun r => match r with | r0 => k (.c (.own 0), [.vec 5 (.int .u8) r0 true])) := by
  kernel_rfl
theorem hG203 (fuel : Nat) : GOK Try.prog (G203 fuel) :=
  gok_nil
theorem fok203 (fuel : Nat) : FnOK Try.prog 203 (evalFn tab (G203 fuel) (J203 fuel) kp203 fuel Try.f203) :=
  fn_ok tab_ok (hG203 fuel) mixed Try.func203 (c := (Try.f203.body).getD .skip) rfl (fun q hq => by
    rw [(by kernel_rfl : obl (J203 fuel) ((Try.f203.body).getD .skip) = [])] at hq
    cases hq)
noncomputable def mt203 : List Ev.SV → List Ev.Ob → Bool := fun args objs => match args, objs with
 | [.c (.sl (.int .u8) _)], [] => true
 | _, _ => false
noncomputable def spg203 (F : YF203) : Ev.Spec := fun args objs k => match args, objs with
 | [.c (.sl (.int .u8) x0)], [] => bif true then F x0 (fun r => match r with | r0 => k (.c (.own 0), [.vec 5 (.int .u8) r0 true])) else none
 | _, _ => none
noncomputable def spec203 (fuel : Nat) : Ev.Spec := spg203 (F_slices_Clone_byte_byte fuel)
theorem ok203 (fuel : Nat) : FnOK Try.prog 203 (spec203 fuel) := by
  intro args objs kk r h
  unfold spec203 spg203 at h
  split at h
  · skip
    obtain ⟨hb, h⟩ := cond_some' h
    simp only [Bool.and_eq_true, Nat.beq_eq, decide_eq_true_eq] at hb
    clear hb
    exact fok203 fuel _ _ kk r ((F203_eq fuel _ kk).trans h)
  · cases h
end Go.Proofs.Ytihfgpfofmjbaaa

set_option linter.unusedVariables false
set_option linter.unusedSimpArgs false
set_option maxRecDepth 100000
set_option maxHeartbeats 2000000
namespace Go.Proofs.Ytihfgpfofmjbaaa
open Go Ev
def kp173_857 (i : Nat) : Option (List Nat) := Ev.look i [(200001, [0]), (200004, [0]), (600000, [])]
noncomputable def Gg173_857 (f172_857 : YF172_857) (f203 : YF203) (f : Nat) : Option Ev.Spec := Ev.look f [(172, spg172_857 f172_857), (203, spg203 f203)]
noncomputable def G173_857 (fuel : Nat) : Nat → Option Ev.Spec := Gg173_857 (F_file_reader_fail_857 fuel) (F_slices_Clone_byte_byte fuel)
noncomputable def J173_857 (fuel : Nat) (i : Nat) : Option Ev.Blk := Ev.look i []
noncomputable def Fg_file_reader_data_857 (fuel : Nat) (f172_857 : YF172_857) (f203 : YF203) (x0 x1 : Int) (x2 : (List Int)) (x3 x4 x5 : Int) (x6 : (List (Int × (Int × (Int × ((List Int) × ((List Bool) × (List Int)))))))) (x7 x8 : (List Int)) (k0 : ((List Int) × Int × Int × Int × (List (Int × (Int × (Int × ((List Int) × ((List Bool) × (List Int))))))) × (List Int) × (List Int)) → Option Ans) (k1 : ((List Int) × Int × Int × Int × (List (Int × (Int × (Int × ((List Int) × ((List Bool) × (List Int))))))) × (List Int) × (List Int)) → Option Ans) : Option Ans :=
  bif x5 != (0 : Int) then
  k0 (x2, x3, x4, x5, x6, x7, x8)
  else
  bif decide (x1 > IntKind.i64.wrap ((↑x2.length : Int) - x3)) then
  (f172_857 (x3) ((6 : Int)) (x2) (x3) (x4) (x5) (x6) (x7) (x8)
  (fun (y4_0, y4_1, y4_2, y4_3, y4_4, y4_5, y4_6) =>
  k0 (y4_0, y4_1, y4_2, y4_3, y4_4, y4_5, y4_6)))
  else
  both (bif decide ((x8.length + [x3].length) * (8 : Nat) ≤ (140737488355328 : Nat) ∧ x8.length + [x3].length ≤ (140737488355328 : Nat)) then
  bif decide ((0 : Int) ≤ Ev.loOf (some x3) ∧ Ev.loOf (some x3) ≤ Ev.hiOf (some (IntKind.i64.wrap (x3 + x1))) (↑x2.length : Int) ∧ Ev.hiOf (some (IntKind.i64.wrap (x3 + x1))) (↑x2.length : Int) ≤ (↑x2.length : Int)) then
  (f203 (List.take (Ev.hiOf (some (IntKind.i64.wrap (x3 + x1))) (↑x2.length : Int) - Ev.loOf (some x3)).toNat (List.drop (Ev.loOf (some x3)).toNat x2))
  (fun y8 =>
  bif decide ((0 : Int) ≤ x0 ∧ x0 < (↑x6.length : Int)) then
  k1 (x2, IntKind.i64.wrap (x3 + x1), x4, x5, x6.set x0.toNat ((x6.getD x0.toNat ((0 : Int), (0 : Int), (0 : Int), [], [], [])).fst, (x6.getD x0.toNat ((0 : Int), (0 : Int), (0 : Int), [], [], [])).snd.fst, (x6.getD x0.toNat ((0 : Int), (0 : Int), (0 : Int), [], [], [])).snd.snd.fst, (x6.getD x0.toNat ((0 : Int), (0 : Int), (0 : Int), [], [], [])).snd.snd.snd.fst, (x6.getD x0.toNat ((0 : Int), (0 : Int), (0 : Int), [], [], [])).snd.snd.snd.snd.fst, y8), x7, x8 ++ [x3])
  else none))
  else none
  else none)
  (both (bif decide ((x8.length + [x3].length) * (8 : Nat) ≤ (140737488355328 : Nat) ∧ x8.length + [x3].length ≤ (140737488355328 : Nat)) then
  bif decide ((0 : Int) ≤ Ev.loOf (some x3) ∧ Ev.loOf (some x3) ≤ Ev.hiOf (some (IntKind.i64.wrap (x3 + x1))) (↑x2.length : Int) ∧ Ev.hiOf (some (IntKind.i64.wrap (x3 + x1))) (↑x2.length : Int) ≤ (↑x2.length : Int)) then
  (f203 (List.take (Ev.hiOf (some (IntKind.i64.wrap (x3 + x1))) (↑x2.length : Int) - Ev.loOf (some x3)).toNat (List.drop (Ev.loOf (some x3)).toNat x2))
  (fun y10 =>
  bif decide ((0 : Int) ≤ x0 ∧ x0 < (↑x6.length : Int)) then
  k1 (x2, IntKind.i64.wrap (x3 + x1), x4, x5, x6.set x0.toNat ((x6.getD x0.toNat ((0 : Int), (0 : Int), (0 : Int), [], [], [])).fst, (x6.getD x0.toNat ((0 : Int), (0 : Int), (0 : Int), [], [], [])).snd.fst, (x6.getD x0.toNat ((0 : Int), (0 : Int), (0 : Int), [], [], [])).snd.snd.fst, (x6.getD x0.toNat ((0 : Int), (0 : Int), (0 : Int), [], [], [])).snd.snd.snd.fst, (x6.getD x0.toNat ((0 : Int), (0 : Int), (0 : Int), [], [], [])).snd.snd.snd.snd.fst, y10), x7, x8 ++ [x3])
  else none))
  else none
  else none)
  (bif decide ((x8.length + [x3].length) * (8 : Nat) ≤ (140737488355328 : Nat) ∧ x8.length + [x3].length ≤ (140737488355328 : Nat)) then
  bif decide ((0 : Int) ≤ Ev.loOf (some x3) ∧ Ev.loOf (some x3) ≤ Ev.hiOf (some (IntKind.i64.wrap (x3 + x1))) (↑x2.length : Int) ∧ Ev.hiOf (some (IntKind.i64.wrap (x3 + x1))) (↑x2.length : Int) ≤ (↑x2.length : Int)) then
  (f203 (List.take (Ev.hiOf (some (IntKind.i64.wrap (x3 + x1))) (↑x2.length : Int) - Ev.loOf (some x3)).toNat (List.drop (Ev.loOf (some x3)).toNat x2))
  (fun y10 =>
  bif decide ((0 : Int) ≤ x0 ∧ x0 < (↑x6.length : Int)) then
  k1 (x2, IntKind.i64.wrap (x3 + x1), x4, x5, x6.set x0.toNat ((x6.getD x0.toNat ((0 : Int), (0 : Int), (0 : Int), [], [], [])).fst, (x6.getD x0.toNat ((0 : Int), (0 : Int), (0 : Int), [], [], [])).snd.fst, (x6.getD x0.toNat ((0 : Int), (0 : Int), (0 : Int), [], [], [])).snd.snd.fst, (x6.getD x0.toNat ((0 : Int), (0 : Int), (0 : Int), [], [], [])).snd.snd.snd.fst, (x6.getD x0.toNat ((0 : Int), (0 : Int), (0 : Int), [], [], [])).snd.snd.snd.snd.fst, y10), x7, x8 ++ [x3])
  else none))
  else none
  else none))
noncomputable def F_file_reader_data_857 (fuel : Nat) (x0 x1 : Int) (x2 : (List Int)) (x3 x4 x5 : Int) (x6 : (List (Int × (Int × (Int × ((List Int) × ((List Bool) × (List Int)))))))) (x7 x8 : (List Int)) (k0 : ((List Int) × Int × Int × Int × (List (Int × (Int × (Int × ((List Int) × ((List Bool) × (List Int))))))) × (List Int) × (List Int)) → Option Ans) (k1 : ((List Int) × Int × Int × Int × (List (Int × (Int × (Int × ((List Int) × ((List Bool) × (List Int))))))) × (List Int) × (List Int)) → Option Ans) : Option Ans := Fg_file_reader_data_857 fuel (F_file_reader_fail_857 fuel) (F_slices_Clone_byte_byte fuel) x0 x1 x2 x3 x4 x5 x6 x7 x8 k0 k1
abbrev YF173_857 : Type := (Int) → (Int) → ((List Int)) → (Int) → (Int) → (Int) → ((List (Int × (Int × (Int × ((List Int) × ((List Bool) × (List Int)))))))) → ((List Int)) → ((List Int)) → (((List Int) × Int × Int × Int × (List (Int × (Int × (Int × ((List Int) × ((List Bool) × (List Int))))))) × (List Int) × (List Int)) → Option Ans) → (((List Int) × Int × Int × Int × (List (Int × (Int × (Int × ((List Int) × ((List Bool) × (List Int))))))) × (List Int) × (List Int)) → Option Ans) → Option Ans
theorem F173_857_eqg (fuel : Nat) (f172_857 : YF172_857) (f203 : YF203) (x0 x1 : Int) (x2 : (List Int)) (x3 x4 x5 : Int) (x6 : (List (Int × (Int × (Int × ((List Int) × ((List Bool) × (List Int)))))))) (x7 x8 : (List Int)) (k : Ev.Cont) : evalFn tab (Gg173_857 f172_857 f203) (J173_857 fuel) kp173_857 fuel Try.f173 [.c (.ptr 0 0), .c (.int .i64 x0), .c (.int .i64 x1)] [.cells 141 [.sl (.int .u8) x2, .int .i64 x3, .own 1, .own 2, .own 3, .int .i64 x4, .int .i64 x5], .vec 103 (.pair (.int .i64) (.pair (.int .i64) (.pair (.int .i64) (.pair (.sl (.int .i64)) (.pair (.sl .bool) (.sl (.int .u8))))))) x6 false, .vec 3 (.int .i64) x7 false, .vec 3 (.int .i64) x8 false] k = Fg_file_reader_data_857 fuel f172_857 f203 x0 x1 x2 x3 x4 x5 x6 x7 x8 (fun r => match r with | (r0, r1, r2, r3, r4, r5, r6) => k (.tup [], [.cells 141 [.sl (.int .u8) r0, .int .i64 r1, .own 1, .own 2, .own 3, .int .i64 r2, .int .i64 r3], .vec 103 (.pair (.int .i64) (.pair (.int .i64) (.pair (.int .i64) (.pair (.sl (.int .i64)) (.pair (.sl .bool) (.sl (.int .u8))))))) r4 false, .vec 3 (.int .i64) r5 false, .vec 3 (.int .i64) r6 false])) (fun r => match r with | (r0, r1, r2, r3, r4, r5, r6) => k (.tup [], [.cells 141 [.sl (.int .u8) r0, .int .i64 r1, .own 1, .own 2, .own 3, .int .i64 r2, .int .i64 r3], .vec 103 (.pair (.int .i64) (.pair (.int .i64) (.pair (.int .i64) (.pair (.sl (.int .i64)) (.pair (.sl .bool) (.sl (.int .u8))))))) r4 false, .vec 3 (.int .i64) r5 false, .vec 3 (.int .i64) r6 true])) := by
  kernel_rfl
theorem F173_857_eq (fuel : Nat) (x0 x1 : Int) (x2 : (List Int)) (x3 x4 x5 : Int) (x6 : (List (Int × (Int × (Int × ((List Int) × ((List Bool) × (List Int)))))))) (x7 x8 : (List Int)) (k : Ev.Cont) : evalFn tab (G173_857 fuel) (J173_857 fuel) kp173_857 fuel Try.f173 [.c (.ptr 0 0), .c (.int .i64 x0), .c (.int .i64 x1)] [.cells 141 [.sl (.int .u8) x2, .int .i64 x3, .own 1, .own 2, .own 3, .int .i64 x4, .int .i64 x5], .vec 103 (.pair (.int .i64) (.pair (.int .i64) (.pair (.int .i64) (.pair (.sl (.int .i64)) (.pair (.sl .bool) (.sl (.int .u8))))))) x6 false, .vec 3 (.int .i64) x7 false, .vec 3 (.int .i64) x8 false] k = F_file_reader_data_857 fuel x0 x1 x2 x3 x4 x5 x6 x7 x8 (fun r => match r with | (r0, r1, r2, r3, r4, r5, r6) => k (.tup [], [.cells 141 [.sl (.int .u8) r0, .int .i64 r1, .own 1, .own 2, .own 3, .int .i64 r2, .int .i64 r3], .vec 103 (.pair (.int .i64) (.pair (.int .i64) (.pair (.int .i64) (.pair (.sl (.int .i64)) (.pair (.sl .bool) (.sl (.int .u8))))))) r4 false, .vec 3 (.int .i64) r5 false, .vec 3 (.int .i64) r6 false])) (fun r => match r with | (r0, r1, r2, r3, r4, r5, r6) => k (.tup [], [.cells 141 [.sl (.int .u8) r0, .int .i64 r1, .own 1, .own 2, .own 3, .int .i64 r2, .int .i64 r3], .vec 103 (.pair (.int .i64) (.pair (.int .i64) (.pair (.int .i64) (.pair (.sl (.int .i64)) (.pair (.sl .bool) (.sl (.int .u8))))))) r4 false, .vec 3 (.int .i64) r5 false, .vec 3 (.int .i64) r6 true])) :=
  F173_857_eqg fuel (F_file_reader_fail_857 fuel) (F_slices_Clone_byte_byte fuel) x0 x1 x2 x3 x4 x5 x6 x7 x8 k
theorem hG173_857 (fuel : Nat) : GOK Try.prog (G173_857 fuel) :=
  gok_cons ⟨ok172_857 fuel, enters_of Try.func172 (by kernel_rfl) rfl⟩ <|
  gok_cons ⟨ok203 fuel, enters_of Try.func203 (by kernel_rfl) rfl⟩ <|
  gok_nil
theorem fok173_857 (fuel : Nat) : FnOK Try.prog 173 (evalFn tab (G173_857 fuel) (J173_857 fuel) kp173_857 fuel Try.f173) :=
  fn_ok tab_ok (hG173_857 fuel) mixed Try.func173 (c := (Try.f173.body).getD .skip) rfl (fun q hq => by
    rw [(by kernel_rfl : obl (J173_857 fuel) ((Try.f173.body).getD .skip) = [])] at hq
    cases hq)
noncomputable def mt173_857 : List Ev.SV → List Ev.Ob → Bool := fun args objs => match args, objs with
 | [.c (.ptr q0 q1), .c (.int .i64 _), .c (.int .i64 _)], [.cells q2 [.sl (.int .u8) _, .int .i64 _, .own q3, .own q4, .own q5, .int .i64 _, .int .i64 _], .vec q6 (.pair (.int .i64) (.pair (.int .i64) (.pair (.int .i64) (.pair (.sl (.int .i64)) (.pair (.sl .bool) (.sl (.int .u8))))))) _ false, .vec q7 (.int .i64) _ false, .vec q8 (.int .i64) _ false] => Nat.beq q0 0 && Nat.beq q1 0 && Nat.beq q2 141 && Nat.beq q3 1 && Nat.beq q4 2 && Nat.beq q5 3 && Nat.beq q6 103 && Nat.beq q7 3 && Nat.beq q8 3
 | _, _ => false
noncomputable def spg173_857 (F : YF173_857) : Ev.Spec := fun args objs k => match args, objs with
 | [.c (.ptr q0 q1), .c (.int .i64 x0), .c (.int .i64 x1)], [.cells q2 [.sl (.int .u8) x2, .int .i64 x3, .own q3, .own q4, .own q5, .int .i64 x4, .int .i64 x5], .vec q6 (.pair (.int .i64) (.pair (.int .i64) (.pair (.int .i64) (.pair (.sl (.int .i64)) (.pair (.sl .bool) (.sl (.int .u8))))))) x6 false, .vec q7 (.int .i64) x7 false, .vec q8 (.int .i64) x8 false] => bif Nat.beq q0 0 && Nat.beq q1 0 && Nat.beq q2 141 && Nat.beq q3 1 && Nat.beq q4 2 && Nat.beq q5 3 && Nat.beq q6 103 && Nat.beq q7 3 && Nat.beq q8 3 then F x0 x1 x2 x3 x4 x5 x6 x7 x8 (fun r => match r with | (r0, r1, r2, r3, r4, r5, r6) => k (.tup [], [.cells 141 [.sl (.int .u8) r0, .int .i64 r1, .own 1, .own 2, .own 3, .int .i64 r2, .int .i64 r3], .vec 103 (.pair (.int .i64) (.pair (.int .i64) (.pair (.int .i64) (.pair (.sl (.int .i64)) (.pair (.sl .bool) (.sl (.int .u8))))))) r4 false, .vec 3 (.int .i64) r5 false, .vec 3 (.int .i64) r6 false])) (fun r => match r with | (r0, r1, r2, r3, r4, r5, r6) => k (.tup [], [.cells 141 [.sl (.int .u8) r0, .int .i64 r1, .own 1, .own 2, .own 3, .int .i64 r2, .int .i64 r3], .vec 103 (.pair (.int .i64) (.pair (.int .i64) (.pair (.int .i64) (.pair (.sl (.int .i64)) (.pair (.sl .bool) (.sl (.int .u8))))))) r4 false, .vec 3 (.int .i64) r5 false, .vec 3 (.int .i64) r6 true])) else none
 | _, _ => none
noncomputable def spec173_857 (fuel : Nat) : Ev.Spec := spg173_857 (F_file_reader_data_857 fuel)
theorem ok173_857 (fuel : Nat) : FnOK Try.prog 173 (spec173_857 fuel) := by
  intro args objs kk r h
  unfold spec173_857 spg173_857 at h
  split at h
  · skip
    obtain ⟨hb, h⟩ := cond_some' h
    simp only [Bool.and_eq_true, Nat.beq_eq, decide_eq_true_eq] at hb
    obtain ⟨⟨⟨⟨⟨⟨⟨⟨rfl, rfl⟩, rfl⟩, rfl⟩, rfl⟩, rfl⟩, rfl⟩, rfl⟩, rfl⟩ := hb
    exact fok173_857 fuel _ _ kk r ((F173_857_eq fuel _ _ _ _ _ _ _ _ _ kk).trans h)
  · cases h
end Go.Proofs.Ytihfgpfofmjbaaa

set_option linter.unusedVariables false
set_option linter.unusedSimpArgs false
set_option maxRecDepth 100000
set_option maxHeartbeats 2000000
namespace Go.Proofs.Ytihfgpfofmjbaaa
open Go Ev
def kp213 (i : Nat) : Option (List Nat) := Ev.look i [(7, [0, 6, 20, 21]), (100001, [6]), (400001, [4, 5])]
noncomputable def Gg213 (f : Nat) : Option Ev.Spec := Ev.look f []
noncomputable def G213 (fuel : Nat) : Nat → Option Ev.Spec := Gg213
noncomputable def S_bits_Unpack_1 (fuel : Nat) (v : (List Int) × Int × Int × (List Int)) (c : ((List Int) × Int × Int × (List Int)) → Option Ans) (B : ((List Int) → Option Ans)) : Option Ans := match v, B with
 | (x0, x1, x2, x3), b =>
  bif decide (x2 < x1) then
  bif decide ((0 : Int) ≤ IntKind.i64.wrap (x2.tdiv (8 : Int)) ∧ IntKind.i64.wrap (x2.tdiv (8 : Int)) < (↑x0.length : Int)) then
  bif decide (IntKind.i64.wrap ((7 : Int) - x2.tmod (8 : Int)) < (0 : Int)) then
  none
  else
  bif decide ((0 : Int) ≤ x2 ∧ x2 < (↑x3.length : Int)) then
  c (x0, x1, IntKind.i64.wrap (x2 + (1 : Int)), x3.set x2.toNat (Ev.iand IntKind.u8 (Ev.ishr IntKind.u8 (x0.getD (IntKind.i64.wrap (x2.tdiv (8 : Int))).toNat (0 : Int)) (IntKind.i64.wrap ((7 : Int) - x2.tmod (8 : Int)))) (1 : Int)))
  else none
  else none
  else
  b x3
noncomputable def L_bits_Unpack_1 (fuel : Nat) (v : (List Int) × Int × Int × (List Int)) (b : ((List Int) → Option Ans)) : Option Ans := iter (S_bits_Unpack_1 fuel) fuel v b
noncomputable def J213_1 (fuel : Nat) (i : Nat) : Option Ev.Blk := Ev.look i []
noncomputable def T213_1 (v : (List Int) × Int × Int × (List Int)) : Ev.St := match v with | (x0, x1, x2, x3) => ⟨[(0, .c (.sl (.int .u8) x0)), (6, .c (.own 0)), (20, .c (.int .i64 x1)), (21, .c (.int .i64 x2))], [(0, .vec 5 (.int .u8) x3 true)], 1, 0⟩
noncomputable def E213_1 (K : Ev.Ex → Ev.St → Option Ans) : ((List Int) → Option Ans) := (fun v => match v with | x0 => K .normal ⟨[(6, .c (.own 0))], [(0, .vec 5 (.int .u8) x0 true)], 1, 0⟩)
theorem S213_1_ok (fuel : Nat) (R : Ev.St → Option Ans) (K : Ev.Ex → Ev.St → Option Ans) (x0 : (List Int)) (x1 x2 : Int) (x3 : (List Int)) : evalCode tab (G213 fuel) (J213_1 fuel) kp213 fuel (bodyOf 1 Try.f213) (T213_1 (x0, x1, x2, x3)) (lc kp213 7 1 R K) = S_bits_Unpack_1 fuel (x0, x1, x2, x3) (fun v => R (T213_1 v)) (E213_1 K) := by
  kernel_rfl
noncomputable def B213_1 (fuel : Nat) : Ev.Blk := fun st K => match canonO (kp213 7) st with
 | some s => (match s with
 | ⟨[(q0, .c (.sl (.int .u8) x0)), (q1, .c (.own q2)), (q3, .c (.int .i64 x1)), (q4, .c (.int .i64 x2))], [(q5, .vec q6 (.int .u8) x3 true)], q7, q8⟩ => bif Nat.beq q0 0 && Nat.beq q1 6 && Nat.beq q2 0 && Nat.beq q3 20 && Nat.beq q4 21 && Nat.beq q5 0 && Nat.beq q6 5 && Nat.beq q7 1 && Nat.beq q8 0 then iter (S_bits_Unpack_1 fuel) fuel (x0, x1, x2, x3) (E213_1 K) else none
 | _ => none)
 | none => none
theorem B213_1_ok (fuel : Nat) (st : Ev.St) (K : Ev.Ex → Ev.St → Option Ans) (r : Ans) (h : B213_1 fuel st K = some r) : evalCode tab (G213 fuel) (J213_1 fuel) kp213 fuel (.block 1 (.loop (bodyOf 1 Try.f213))) st K = some r := by
  unfold B213_1 at h
  split at h
  · rename_i s hs
    split at h
    · skip
      obtain ⟨hb, h⟩ := cond_some' h
      simp only [Bool.and_eq_true, Nat.beq_eq, decide_eq_true_eq] at hb
      obtain ⟨⟨⟨⟨⟨⟨⟨⟨rfl, rfl⟩, rfl⟩, rfl⟩, rfl⟩, rfl⟩, rfl⟩, rfl⟩, rfl⟩ := hb
      exact blk_loop (S := T213_1) (ks := E213_1) (step := S_bits_Unpack_1 fuel) (v := (_, _, _, _)) (by kernel_rfl) (by kernel_rfl) (fun R K v => by obtain ⟨x0, x1, x2, x3⟩ := v; exact S213_1_ok fuel R K x0 x1 x2 x3) hs h
    · cases h
  · cases h
noncomputable def J213 (fuel : Nat) (i : Nat) : Option Ev.Blk := Ev.look i [(100001, B213_1 fuel)]
noncomputable def F_bits_Unpack (fuel : Nat) (x0 : (List Int)) (x1 : Int) (k0 : (Int × (List Int)) → Option Ans) : Option Ans :=
  bif decide (x1 < (0 : Int)) then
  k0 ((2 : Int), [])
  else
  bif decide (x1 > IntKind.i64.wrap ((8 : Int) * (↑x0.length : Int))) then
  k0 ((6 : Int), [])
  else
  bif decide ((0 : Int) ≤ x1 ∧ x1 = x1 ∧ (↑(1 : Nat) : Int) * x1 ≤ (281474976710656 : Int) ∧ x1 ≤ (281474976710656 : Int)) then
  (L_bits_Unpack_1 fuel (x0, (↑(List.replicate x1.toNat (0 : Int)).length : Int), (0 : Int), List.replicate x1.toNat (0 : Int))
  (fun b1_0 =>
  k0 ((0 : Int), b1_0)))
  else none
abbrev YF213 : Type := ((List Int)) → (Int) → ((Int × (List Int)) → Option Ans) → Option Ans
theorem F213_eq (fuel : Nat) (x0 : (List Int)) (x1 : Int) (k : Ev.Cont) : evalFn tab (G213 fuel) (J213 fuel) kp213 fuel Try.f213 [.c (.sl (.int .u8) x0), .c (.int .i64 x1)] [] k = F_bits_Unpack fuel x0 x1 (fun r => match r with | (r0, r1) => k (.tup [(false, [.own 0]), (false, [.int .i64 r0])], [.vec 5 (.int .u8) r1 true])) := by
  kernel_rfl
theorem hG213 (fuel : Nat) : GOK Try.prog (G213 fuel) :=
  gok_nil
theorem B213_1_blk (fuel : Nat) : BlkOK Try.prog Try.f213.ntmps (.block 1 (.loop (bodyOf 1 Try.f213))) (B213_1 fuel) :=
  blk_of (blk_of_code tab_ok (hG213 fuel) mixed (J := J213_1 fuel) (kp := kp213) (fuel := fuel) (by kernel_rfl) (fun q hq => by
    rw [(by kernel_rfl : obl (J213_1 fuel) (.block 1 (.loop (bodyOf 1 Try.f213))) = [])] at hq
    cases hq)) (B213_1_ok fuel)
theorem fok213 (fuel : Nat) : FnOK Try.prog 213 (evalFn tab (G213 fuel) (J213 fuel) kp213 fuel Try.f213) :=
  fn_ok tab_ok (hG213 fuel) mixed Try.func213 (c := (Try.f213.body).getD .skip) rfl (fun q hq => by
    rw [(by kernel_rfl : obl (J213 fuel) ((Try.f213.body).getD .skip) = [(.block 1 (.loop (bodyOf 1 Try.f213)), B213_1 fuel)])] at hq
    simp only [List.mem_cons, List.not_mem_nil, or_false] at hq
    subst hq
    · exact B213_1_blk fuel)
noncomputable def mt213 : List Ev.SV → List Ev.Ob → Bool := fun args objs => match args, objs with
 | [.c (.sl (.int .u8) _), .c (.int .i64 _)], [] => true
 | _, _ => false
noncomputable def spg213 (F : YF213) : Ev.Spec := fun args objs k => match args, objs with
 | [.c (.sl (.int .u8) x0), .c (.int .i64 x1)], [] => bif true then F x0 x1 (fun r => match r with | (r0, r1) => k (.tup [(false, [.own 0]), (false, [.int .i64 r0])], [.vec 5 (.int .u8) r1 true])) else none
 | _, _ => none
noncomputable def spec213 (fuel : Nat) : Ev.Spec := spg213 (F_bits_Unpack fuel)
theorem ok213 (fuel : Nat) : FnOK Try.prog 213 (spec213 fuel) := by
  intro args objs kk r h
  unfold spec213 spg213 at h
  split at h
  · skip
    obtain ⟨hb, h⟩ := cond_some' h
    simp only [Bool.and_eq_true, Nat.beq_eq, decide_eq_true_eq] at hb
    clear hb
    exact fok213 fuel _ _ kk r ((F213_eq fuel _ _ kk).trans h)
  · cases h
end Go.Proofs.Ytihfgpfofmjbaaa

set_option linter.unusedVariables false
set_option linter.unusedSimpArgs false
set_option maxRecDepth 100000
set_option maxHeartbeats 2000000
namespace Go.Proofs.Ytihfgpfofmjbaaa
open Go Ev
def kp210 (i : Nat) : Option (List Nat) := Ev.look i [(200001, [0]), (200006, [0]), (600000, [])]
noncomputable def Gg210 (f : Nat) : Option Ev.Spec := Ev.look f []
noncomputable def G210 (fuel : Nat) : Nat → Option Ev.Spec := Gg210
noncomputable def J210 (fuel : Nat) (i : Nat) : Option Ev.Blk := Ev.look i []
noncomputable def F_segment_reader_bytes (fuel : Nat) (x0 : (List Int)) (x1 x2 x3 : Int) (k0 : ((List Int) × (List Int) × Int × Int) → Option Ans) : Option Ans :=
  bif x2 == (0 : Int) then
  bif decide (IntKind.i64.wrap ((↑x0.length : Int) - x1) < x3) then
  bif decide ((0 : Int) ≤ x3 ∧ x3 = x3 ∧ (↑(1 : Nat) : Int) * x3 ≤ (281474976710656 : Int) ∧ x3 ≤ (281474976710656 : Int)) then
  k0 (List.replicate x3.toNat (0 : Int), x0, x1, (6 : Int))
  else none
  else
  bif x2 != (0 : Int) then
  bif decide ((0 : Int) ≤ x3 ∧ x3 = x3 ∧ (↑(1 : Nat) : Int) * x3 ≤ (281474976710656 : Int) ∧ x3 ≤ (281474976710656 : Int)) then
  k0 (List.replicate x3.toNat (0 : Int), x0, x1, x2)
  else none
  else
  bif decide ((0 : Int) ≤ Ev.loOf (some (IntKind.i64.wrap (IntKind.i64.wrap (x1 + x3) - x3))) ∧ Ev.loOf (some (IntKind.i64.wrap (IntKind.i64.wrap (x1 + x3) - x3))) ≤ Ev.hiOf (some (IntKind.i64.wrap (x1 + x3))) (↑x0.length : Int) ∧ Ev.hiOf (some (IntKind.i64.wrap (x1 + x3))) (↑x0.length : Int) ≤ (↑x0.length : Int)) then
  k0 (List.take (Ev.hiOf (some (IntKind.i64.wrap (x1 + x3))) (↑x0.length : Int) - Ev.loOf (some (IntKind.i64.wrap (IntKind.i64.wrap (x1 + x3) - x3)))).toNat (List.drop (Ev.loOf (some (IntKind.i64.wrap (IntKind.i64.wrap (x1 + x3) - x3)))).toNat x0), x0, IntKind.i64.wrap (x1 + x3), x2)
  else none
  else
  bif x2 != (0 : Int) then
  bif decide ((0 : Int) ≤ x3 ∧ x3 = x3 ∧ (↑(1 : Nat) : Int) * x3 ≤ (281474976710656 : Int) ∧ x3 ≤ (281474976710656 : Int)) then
  k0 (List.replicate x3.toNat (0 : Int), x0, x1, x2)
  else none
  else
  bif decide ((0 : Int) ≤ Ev.loOf (some (IntKind.i64.wrap (IntKind.i64.wrap (x1 + x3) - x3))) ∧ Ev.loOf (some (IntKind.i64.wrap (IntKind.i64.wrap (x1 + x3) - x3))) ≤ Ev.hiOf (some (IntKind.i64.wrap (x1 + x3))) (↑x0.length : Int) ∧ Ev.hiOf (some (IntKind.i64.wrap (x1 + x3))) (↑x0.length : Int) ≤ (↑x0.length : Int)) then
  k0 (List.take (Ev.hiOf (some (IntKind.i64.wrap (x1 + x3))) (↑x0.length : Int) - Ev.loOf (some (IntKind.i64.wrap (IntKind.i64.wrap (x1 + x3) - x3)))).toNat (List.drop (Ev.loOf (some (IntKind.i64.wrap (IntKind.i64.wrap (x1 + x3) - x3)))).toNat x0), x0, IntKind.i64.wrap (x1 + x3), x2)
  else none
abbrev YF210 : Type := ((List Int)) → (Int) → (Int) → (Int) → (((List Int) × (List Int) × Int × Int) → Option Ans) → Option Ans
theorem F210_eq (fuel : Nat) (x0 : (List Int)) (x1 x2 x3 : Int) (k : Ev.Cont) : evalFn tab (G210 fuel) (J210 fuel) kp210 fuel Try.f210 [.c (.ptr 0 0), .c (.int .i64 x3)] [.cells 238 [.sl (.int .u8) x0, .int .i64 x1, .int .i64 x2]] k = F_segment_reader_bytes fuel x0 x1 x2 x3 (fun r => match r with | (r0, r1, r2, r3) => k (.c (.sl (.int .u8) r0), [.cells 238 [.sl (.int .u8) r1, .int .i64 r2, .int .i64 r3]])) := by
  kernel_rfl
theorem hG210 (fuel : Nat) : GOK Try.prog (G210 fuel) :=
  gok_nil
theorem fok210 (fuel : Nat) : FnOK Try.prog 210 (evalFn tab (G210 fuel) (J210 fuel) kp210 fuel Try.f210) :=
  fn_ok tab_ok (hG210 fuel) mixed Try.func210 (c := (Try.f210.body).getD .skip) rfl (fun q hq => by
    rw [(by kernel_rfl : obl (J210 fuel) ((Try.f210.body).getD .skip) = [])] at hq
    cases hq)
noncomputable def mt210 : List Ev.SV → List Ev.Ob → Bool := fun args objs => match args, objs with
 | [.c (.ptr q0 q1), .c (.int .i64 _)], [.cells q2 [.sl (.int .u8) _, .int .i64 _, .int .i64 _]] => Nat.beq q0 0 && Nat.beq q1 0 && Nat.beq q2 238
 | _, _ => false
noncomputable def spg210 (F : YF210) : Ev.Spec := fun args objs k => match args, objs with
 | [.c (.ptr q0 q1), .c (.int .i64 x3)], [.cells q2 [.sl (.int .u8) x0, .int .i64 x1, .int .i64 x2]] => bif Nat.beq q0 0 && Nat.beq q1 0 && Nat.beq q2 238 then F x0 x1 x2 x3 (fun r => match r with | (r0, r1, r2, r3) => k (.c (.sl (.int .u8) r0), [.cells 238 [.sl (.int .u8) r1, .int .i64 r2, .int .i64 r3]])) else none
 | _, _ => none
noncomputable def spec210 (fuel : Nat) : Ev.Spec := spg210 (F_segment_reader_bytes fuel)
theorem ok210 (fuel : Nat) : FnOK Try.prog 210 (spec210 fuel) := by
  intro args objs kk r h
  unfold spec210 spg210 at h
  split at h
  · skip
    obtain ⟨hb, h⟩ := cond_some' h
    simp only [Bool.and_eq_true, Nat.beq_eq, decide_eq_true_eq] at hb
    obtain ⟨⟨rfl, rfl⟩, rfl⟩ := hb
    exact fok210 fuel _ _ kk r ((F210_eq fuel _ _ _ _ kk).trans h)
  · cases h
end Go.Proofs.Ytihfgpfofmjbaaa

set_option linter.unusedVariables false
set_option linter.unusedSimpArgs false
set_option maxRecDepth 100000
set_option maxHeartbeats 2000000
namespace Go.Proofs.Ytihfgpfofmjbaaa
open Go Ev
def kp211 (i : Nat) : Option (List Nat) := Ev.look i []
noncomputable def Gg211 (f : Nat) : Option Ev.Spec := Ev.look f []
noncomputable def G211 (fuel : Nat) : Nat → Option Ev.Spec := Gg211
noncomputable def J211 (fuel : Nat) (i : Nat) : Option Ev.Blk := Ev.look i []
noncomputable def F_segment_reader_form (fuel : Nat) (x0 : (List Int)) (x1 x2 : Int) (x3 : Bool) (k0 : ((List Int) × Int × Int) → Option Ans) : Option Ans :=
  bif x2 == (0 : Int) then
  bif !x3 then
  k0 (x0, x1, (3 : Int))
  else
  k0 (x0, x1, x2)
  else
  k0 (x0, x1, x2)
abbrev YF211 : Type := ((List Int)) → (Int) → (Int) → (Bool) → (((List Int) × Int × Int) → Option Ans) → Option Ans
theorem F211_eq (fuel : Nat) (x0 : (List Int)) (x1 x2 : Int) (x3 : Bool) (k : Ev.Cont) : evalFn tab (G211 fuel) (J211 fuel) kp211 fuel Try.f211 [.c (.ptr 0 0), .c (.bool x3)] [.cells 238 [.sl (.int .u8) x0, .int .i64 x1, .int .i64 x2]] k = F_segment_reader_form fuel x0 x1 x2 x3 (fun r => match r with | (r0, r1, r2) => k (.tup [], [.cells 238 [.sl (.int .u8) r0, .int .i64 r1, .int .i64 r2]])) := by
  kernel_rfl
theorem hG211 (fuel : Nat) : GOK Try.prog (G211 fuel) :=
  gok_nil
theorem fok211 (fuel : Nat) : FnOK Try.prog 211 (evalFn tab (G211 fuel) (J211 fuel) kp211 fuel Try.f211) :=
  fn_ok tab_ok (hG211 fuel) mixed Try.func211 (c := (Try.f211.body).getD .skip) rfl (fun q hq => by
    rw [(by kernel_rfl : obl (J211 fuel) ((Try.f211.body).getD .skip) = [])] at hq
    cases hq)
noncomputable def mt211 : List Ev.SV → List Ev.Ob → Bool := fun args objs => match args, objs with
 | [.c (.ptr q0 q1), .c (.bool _)], [.cells q2 [.sl (.int .u8) _, .int .i64 _, .int .i64 _]] => Nat.beq q0 0 && Nat.beq q1 0 && Nat.beq q2 238
 | _, _ => false
noncomputable def spg211 (F : YF211) : Ev.Spec := fun args objs k => match args, objs with
 | [.c (.ptr q0 q1), .c (.bool x3)], [.cells q2 [.sl (.int .u8) x0, .int .i64 x1, .int .i64 x2]] => bif Nat.beq q0 0 && Nat.beq q1 0 && Nat.beq q2 238 then F x0 x1 x2 x3 (fun r => match r with | (r0, r1, r2) => k (.tup [], [.cells 238 [.sl (.int .u8) r0, .int .i64 r1, .int .i64 r2]])) else none
 | _, _ => none
noncomputable def spec211 (fuel : Nat) : Ev.Spec := spg211 (F_segment_reader_form fuel)
theorem ok211 (fuel : Nat) : FnOK Try.prog 211 (spec211 fuel) := by
  intro args objs kk r h
  unfold spec211 spg211 at h
  split at h
  · skip
    obtain ⟨hb, h⟩ := cond_some' h
    simp only [Bool.and_eq_true, Nat.beq_eq, decide_eq_true_eq] at hb
    obtain ⟨⟨rfl, rfl⟩, rfl⟩ := hb
    exact fok211 fuel _ _ kk r ((F211_eq fuel _ _ _ _ kk).trans h)
  · cases h
end Go.Proofs.Ytihfgpfofmjbaaa

set_option linter.unusedVariables false
set_option linter.unusedSimpArgs false
set_option maxRecDepth 100000
set_option maxHeartbeats 2000000
namespace Go.Proofs.Ytihfgpfofmjbaaa
open Go Ev
def kp215 (i : Nat) : Option (List Nat) := Ev.look i [(4, [0, 1, 4, 17]), (100000, []), (400000, [4, 5, 6])]
noncomputable def Gg215 (f : Nat) : Option Ev.Spec := Ev.look f []
noncomputable def G215 (fuel : Nat) : Nat → Option Ev.Spec := Gg215
noncomputable def S_bits_GetSize_0 (fuel : Nat) (v : (List Int) × Int × Int × Int) (c : ((List Int) × Int × Int × Int) → Option Ans) (B : (Int × Int × Int → Option Ans) × (Unit → Option Ans)) : Option Ans := match v, B with
 | (x0, x1, x2, x3), (ret, b) =>
  bif decide (x3 < (5 : Int)) then
  bif decide (IntKind.i64.wrap (x1 + x3) ≥ (↑x0.length : Int)) then
  ret ((0 : Int), (0 : Int), (6 : Int))
  else
  bif decide ((0 : Int) ≤ IntKind.i64.wrap (x1 + x3) ∧ IntKind.i64.wrap (x1 + x3) < (↑x0.length : Int)) then
  bif decide (IntKind.i64.wrap (x0.getD (IntKind.i64.wrap (x1 + x3)).toNat (0 : Int)) < (128 : Int)) then
  bif decide (IntKind.i64.wrap (IntKind.i64.wrap (x2 * (128 : Int)) + (IntKind.i64.wrap (x0.getD (IntKind.i64.wrap (x1 + x3)).toNat (0 : Int))).tmod (128 : Int)) > (2147483647 : Int)) then
  ret ((0 : Int), (0 : Int), (3 : Int))
  else
  bif decide (x3 > (0 : Int)) then
  bif decide ((0 : Int) ≤ x1 ∧ x1 < (↑x0.length : Int)) then
  bif x0.getD x1.toNat (0 : Int) == (128 : Int) then
  ret ((0 : Int), (0 : Int), (3 : Int))
  else
  ret (IntKind.i64.wrap (IntKind.i64.wrap (x2 * (128 : Int)) + (IntKind.i64.wrap (x0.getD (IntKind.i64.wrap (x1 + x3)).toNat (0 : Int))).tmod (128 : Int)), IntKind.i64.wrap (IntKind.i64.wrap (x1 + x3) + (1 : Int)), (0 : Int))
  else none
  else
  ret (IntKind.i64.wrap (IntKind.i64.wrap (x2 * (128 : Int)) + (IntKind.i64.wrap (x0.getD (IntKind.i64.wrap (x1 + x3)).toNat (0 : Int))).tmod (128 : Int)), IntKind.i64.wrap (IntKind.i64.wrap (x1 + x3) + (1 : Int)), (0 : Int))
  else
  c (x0, x1, IntKind.i64.wrap (IntKind.i64.wrap (x2 * (128 : Int)) + (IntKind.i64.wrap (x0.getD (IntKind.i64.wrap (x1 + x3)).toNat (0 : Int))).tmod (128 : Int)), IntKind.i64.wrap (x3 + (1 : Int)))
  else none
  else
  b ()
noncomputable def L_bits_GetSize_0 (fuel : Nat) (v : (List Int) × Int × Int × Int) (ret : (Int × Int × Int → Option Ans)) (b : (Unit → Option Ans)) : Option Ans := iter (S_bits_GetSize_0 fuel) fuel v (ret, b)
noncomputable def J215_0 (fuel : Nat) (i : Nat) : Option Ev.Blk := Ev.look i []
noncomputable def T215_0 (v : (List Int) × Int × Int × Int) : Ev.St := match v with | (x0, x1, x2, x3) => ⟨[(0, .c (.sl (.int .u8) x0)), (1, .c (.int .i64 x1)), (4, .c (.int .i64 x2)), (17, .c (.int .i64 x3))], [], 0, 0⟩
noncomputable def E215_0 (K : Ev.Ex → Ev.St → Option Ans) : (Int × Int × Int → Option Ans) × (Unit → Option Ans) := ((fun v => match v with | (x0, x1, x2) => K .ret ⟨[(4, .c (.int .i64 x0)), (5, .c (.int .i64 x1)), (6, .c (.int .i64 x2))], [], 0, 0⟩), (fun v => match v with | () => K .normal ⟨[], [], 0, 0⟩))
theorem S215_0_ok (fuel : Nat) (R : Ev.St → Option Ans) (K : Ev.Ex → Ev.St → Option Ans) (x0 : (List Int)) (x1 x2 x3 : Int) : evalCode tab (G215 fuel) (J215_0 fuel) kp215 fuel (bodyOf 0 Try.f215) (T215_0 (x0, x1, x2, x3)) (lc kp215 4 0 R K) = S_bits_GetSize_0 fuel (x0, x1, x2, x3) (fun v => R (T215_0 v)) (E215_0 K) := by
  kernel_rfl
noncomputable def B215_0 (fuel : Nat) : Ev.Blk := fun st K => match canonO (kp215 4) st with
 | some s => (match s with
 | ⟨[(q0, .c (.sl (.int .u8) x0)), (q1, .c (.int .i64 x1)), (q2, .c (.int .i64 x2)), (q3, .c (.int .i64 x3))], [], q4, q5⟩ => bif Nat.beq q0 0 && Nat.beq q1 1 && Nat.beq q2 4 && Nat.beq q3 17 && Nat.beq q4 0 && Nat.beq q5 0 then iter (S_bits_GetSize_0 fuel) fuel (x0, x1, x2, x3) (E215_0 K) else none
 | _ => none)
 | none => none
theorem B215_0_ok (fuel : Nat) (st : Ev.St) (K : Ev.Ex → Ev.St → Option Ans) (r : Ans) (h : B215_0 fuel st K = some r) : evalCode tab (G215 fuel) (J215_0 fuel) kp215 fuel (.block 0 (.loop (bodyOf 0 Try.f215))) st K = some r := by
  unfold B215_0 at h
  split at h
  · rename_i s hs
    split at h
    · skip
      obtain ⟨hb, h⟩ := cond_some' h
      simp only [Bool.and_eq_true, Nat.beq_eq, decide_eq_true_eq] at hb
      obtain ⟨⟨⟨⟨⟨rfl, rfl⟩, rfl⟩, rfl⟩, rfl⟩, rfl⟩ := hb
      exact blk_loop (S := T215_0) (ks := E215_0) (step := S_bits_GetSize_0 fuel) (v := (_, _, _, _)) (by kernel_rfl) (by kernel_rfl) (fun R K v => by obtain ⟨x0, x1, x2, x3⟩ := v; exact S215_0_ok fuel R K x0 x1 x2 x3) hs h
    · cases h
  · cases h
noncomputable def J215 (fuel : Nat) (i : Nat) : Option Ev.Blk := Ev.look i [(100000, B215_0 fuel)]
noncomputable def F_bits_GetSize (fuel : Nat) (x0 : (List Int)) (x1 : Int) (k0 : (Int × Int × Int) → Option Ans) : Option Ans :=
  bif decide (x1 < (0 : Int)) then
  k0 ((0 : Int), (0 : Int), (2 : Int))
  else
  bif decide (x1 > (↑x0.length : Int)) then
  k0 ((0 : Int), (0 : Int), (2 : Int))
  else
  (L_bits_GetSize_0 fuel (x0, x1, (0 : Int), (0 : Int))
  (fun (ret0_0, ret0_1, ret0_2) =>
  k0 (ret0_0, ret0_1, ret0_2))
  (fun () =>
  k0 ((0 : Int), (0 : Int), (3 : Int))))
abbrev YF215 : Type := ((List Int)) → (Int) → ((Int × Int × Int) → Option Ans) → Option Ans
theorem F215_eq (fuel : Nat) (x0 : (List Int)) (x1 : Int) (k : Ev.Cont) : evalFn tab (G215 fuel) (J215 fuel) kp215 fuel Try.f215 [.c (.sl (.int .u8) x0), .c (.int .i64 x1)] [] k = F_bits_GetSize fuel x0 x1 (fun r => match r with | (r0, r1, r2) => k (.tup [(false, [.int .i64 r0]), (false, [.int .i64 r1]), (false, [.int .i64 r2])], [])) := by
  kernel_rfl
theorem hG215 (fuel : Nat) : GOK Try.prog (G215 fuel) :=
  gok_nil
theorem B215_0_blk (fuel : Nat) : BlkOK Try.prog Try.f215.ntmps (.block 0 (.loop (bodyOf 0 Try.f215))) (B215_0 fuel) :=
  blk_of (blk_of_code tab_ok (hG215 fuel) mixed (J := J215_0 fuel) (kp := kp215) (fuel := fuel) (by kernel_rfl) (fun q hq => by
    rw [(by kernel_rfl : obl (J215_0 fuel) (.block 0 (.loop (bodyOf 0 Try.f215))) = [])] at hq
    cases hq)) (B215_0_ok fuel)
theorem fok215 (fuel : Nat) : FnOK Try.prog 215 (evalFn tab (G215 fuel) (J215 fuel) kp215 fuel Try.f215) :=
  fn_ok tab_ok (hG215 fuel) mixed Try.func215 (c := (Try.f215.body).getD .skip) rfl (fun q hq => by
    rw [(by kernel_rfl : obl (J215 fuel) ((Try.f215.body).getD .skip) = [(.block 0 (.loop (bodyOf 0 Try.f215)), B215_0 fuel)])] at hq
    simp only [List.mem_cons, List.not_mem_nil, or_false] at hq
    subst hq
    · exact B215_0_blk fuel)
noncomputable def mt215 : List Ev.SV → List Ev.Ob → Bool := fun args objs => match args, objs with
 | [.c (.sl (.int .u8) _), .c (.int .i64 _)], [] => true
 | _, _ => false
noncomputable def spg215 (F : YF215) : Ev.Spec := fun args objs k => match args, objs with
 | [.c (.sl (.int .u8) x0), .c (.int .i64 x1)], [] => bif true then F x0 x1 (fun r => match r with | (r0, r1, r2) => k (.tup [(false, [.int .i64 r0]), (false, [.int .i64 r1]), (false, [.int .i64 r2])], [])) else none
 | _, _ => none
noncomputable def spec215 (fuel : Nat) : Ev.Spec := spg215 (F_bits_GetSize fuel)
theorem ok215 (fuel : Nat) : FnOK Try.prog 215 (spec215 fuel) := by
  intro args objs kk r h
  unfold spec215 spg215 at h
  split at h
  · skip
    obtain ⟨hb, h⟩ := cond_some' h
    simp only [Bool.and_eq_true, Nat.beq_eq, decide_eq_true_eq] at hb
    clear hb
    exact fok215 fuel _ _ kk r ((F215_eq fuel _ _ kk).trans h)
  · cases h
end Go.Proofs.Ytihfgpfofmjbaaa

set_option linter.unusedVariables false
set_option linter.unusedSimpArgs false
set_option maxRecDepth 100000
set_option maxHeartbeats 2000000
namespace Go.Proofs.Ytihfgpfofmjbaaa
open Go Ev
def kp209 (i : Nat) : Option (List Nat) := Ev.look i [(200003, [0])]
noncomputable def Gg209 (f215 : YF215) (f : Nat) : Option Ev.Spec := Ev.look f [(215, spg215 f215)]
noncomputable def G209 (fuel : Nat) : Nat → Option Ev.Spec := Gg209 (F_bits_GetSize fuel)
noncomputable def J209 (fuel : Nat) (i : Nat) : Option Ev.Blk := Ev.look i []
noncomputable def Fg_segment_reader_size (fuel : Nat) (f215 : YF215) (x0 : (List Int)) (x1 x2 x3 : Int) (k0 : (Int × (List Int) × Int × Int) → Option Ans) : Option Ans :=
  bif x2 != (0 : Int) then
  k0 ((0 : Int), x0, x1, x2)
  else
  (f215 (x0) (x1)
  (fun (y3_0, y3_1, y3_2) =>
  bif y3_2 == (0 : Int) then
  bif decide (y3_0 > x3) then
  k0 ((0 : Int), x0, x1, (3 : Int))
  else
  bif y3_2 != (0 : Int) then
  k0 ((0 : Int), x0, x1, y3_2)
  else
  k0 (y3_0, x0, y3_1, y3_2)
  else
  bif y3_2 != (0 : Int) then
  k0 ((0 : Int), x0, x1, y3_2)
  else
  k0 (y3_0, x0, y3_1, y3_2)))
noncomputable def F_segment_reader_size (fuel : Nat) (x0 : (List Int)) (x1 x2 x3 : Int) (k0 : (Int × (List Int) × Int × Int) → Option Ans) : Option Ans := Fg_segment_reader_size fuel (F_bits_GetSize fuel) x0 x1 x2 x3 k0
abbrev YF209 : Type := ((List Int)) → (Int) → (Int) → (Int) → ((Int × (List Int) × Int × Int) → Option Ans) → Option Ans
theorem F209_eqg (fuel : Nat) (f215 : YF215) (x0 : (List Int)) (x1 x2 x3 : Int) (k : Ev.Cont) : evalFn tab (Gg209 f215) (J209 fuel) kp209 fuel Try.f209 [.c (.ptr 0 0), .c (.int .i64 x3)] [.cells 238 [.sl (.int .u8) x0, .int .i64 x1, .int .i64 x2]] k = Fg_segment_reader_size fuel f215 x0 x1 x2 x3 (fun r => match r with | (r0, r1, r2, r3) => k (.c (.int .i64 r0), [.cells 238 [.sl (.int .u8) r1, .int .i64 r2, .int .i64 r3]])) := by
  kernel_rfl
theorem F209_eq (fuel : Nat) (x0 : (List Int)) (x1 x2 x3 : Int) (k : Ev.Cont) : evalFn tab (G209 fuel) (J209 fuel) kp209 fuel Try.f209 [.c (.ptr 0 0), .c (.int .i64 x3)] [.cells 238 [.sl (.int .u8) x0, .int .i64 x1, .int .i64 x2]] k = F_segment_reader_size fuel x0 x1 x2 x3 (fun r => match r with | (r0, r1, r2, r3) => k (.c (.int .i64 r0), [.cells 238 [.sl (.int .u8) r1, .int .i64 r2, .int .i64 r3]])) :=
  F209_eqg fuel (F_bits_GetSize fuel) x0 x1 x2 x3 k
theorem hG209 (fuel : Nat) : GOK Try.prog (G209 fuel) :=
  gok_cons ⟨ok215 fuel, enters_of Try.func215 (by kernel_rfl) rfl⟩ <|
  gok_nil
theorem fok209 (fuel : Nat) : FnOK Try.prog 209 (evalFn tab (G209 fuel) (J209 fuel) kp209 fuel Try.f209) :=
  fn_ok tab_ok (hG209 fuel) mixed Try.func209 (c := (Try.f209.body).getD .skip) rfl (fun q hq => by
    rw [(by kernel_rfl : obl (J209 fuel) ((Try.f209.body).getD .skip) = [])] at hq
    cases hq)
noncomputable def mt209 : List Ev.SV → List Ev.Ob → Bool := fun args objs => match args, objs with
 | [.c (.ptr q0 q1), .c (.int .i64 _)], [.cells q2 [.sl (.int .u8) _, .int .i64 _, .int .i64 _]] => Nat.beq q0 0 && Nat.beq q1 0 && Nat.beq q2 238
 | _, _ => false
noncomputable def spg209 (F : YF209) : Ev.Spec := fun args objs k => match args, objs with
 | [.c (.ptr q0 q1), .c (.int .i64 x3)], [.cells q2 [.sl (.int .u8) x0, .int .i64 x1, .int .i64 x2]] => bif Nat.beq q0 0 && Nat.beq q1 0 && Nat.beq q2 238 then F x0 x1 x2 x3 (fun r => match r with | (r0, r1, r2, r3) => k (.c (.int .i64 r0), [.cells 238 [.sl (.int .u8) r1, .int .i64 r2, .int .i64 r3]])) else none
 | _, _ => none
noncomputable def spec209 (fuel : Nat) : Ev.Spec := spg209 (F_segment_reader_size fuel)
theorem ok209 (fuel : Nat) : FnOK Try.prog 209 (spec209 fuel) := by
  intro args objs kk r h
  unfold spec209 spg209 at h
  split at h
  · skip
    obtain ⟨hb, h⟩ := cond_some' h
    simp only [Bool.and_eq_true, Nat.beq_eq, decide_eq_true_eq] at hb
    obtain ⟨⟨rfl, rfl⟩, rfl⟩ := hb
    exact fok209 fuel _ _ kk r ((F209_eq fuel _ _ _ _ kk).trans h)
  · cases h
end Go.Proofs.Ytihfgpfofmjbaaa

set_option linter.unusedVariables false
set_option linter.unusedSimpArgs false
set_option maxRecDepth 100000
set_option maxHeartbeats 2000000
namespace Go.Proofs.Ytihfgpfofmjbaaa
open Go Ev
def kp212 (i : Nat) : Option (List Nat) := Ev.look i [(5, [0, 1, 5, 14, 15]), (100000, [5]), (400000, [4])]
noncomputable def Gg212 (f209 : YF209) (f211 : YF211) (f : Nat) : Option Ev.Spec := Ev.look f [(209, spg209 f209), (211, spg211 f211)]
noncomputable def G212 (fuel : Nat) : Nat → Option Ev.Spec := Gg212 (F_segment_reader_size fuel) (F_segment_reader_form fuel)
noncomputable def Sg_segment_reader_refs_0 (fuel : Nat) (f209 : YF209) (f211 : YF211) (x0 x1 x2 : Int) (x3 : (List Int)) (x4 x5 : Int) (x6 : (List Int)) (c : (Int × Int × Int × (List Int) × Int × Int × (List Int)) → Option Ans) (B : ((List Int) × Int × Int × (List Int) → Option Ans)) : Option Ans := match B with
 | b =>
  bif decide (x2 < x1) then
  (f209 (x3) (x4) (x5) (x0)
  (fun (y3_0, y3_1, y3_2, y3_3) =>
  bif decide (y3_0 > (0 : Int)) then
  bif (↑x6.length : Int) == (0 : Int) then
  (f211 (y3_1) (y3_2) (y3_3) (true)
  (fun (y9_0, y9_1, y9_2) =>
  bif decide ((x6.length + [IntKind.i64.wrap (x0 - y3_0)].length) * (8 : Nat) ≤ (140737488355328 : Nat) ∧ x6.length + [IntKind.i64.wrap (x0 - y3_0)].length ≤ (140737488355328 : Nat)) then
  c (x0, x1, IntKind.i64.wrap (x2 + (1 : Int)), y9_0, y9_1, y9_2, x6 ++ [IntKind.i64.wrap (x0 - y3_0)])
  else none))
  else
  bif decide ((0 : Int) ≤ IntKind.i64.wrap ((↑x6.length : Int) - (1 : Int)) ∧ IntKind.i64.wrap ((↑x6.length : Int) - (1 : Int)) < (↑x6.length : Int)) then
  (f211 (y3_1) (y3_2) (y3_3) (decide (IntKind.i64.wrap (x0 - y3_0) > x6.getD (IntKind.i64.wrap ((↑x6.length : Int) - (1 : Int))).toNat (0 : Int)))
  (fun (y10_0, y10_1, y10_2) =>
  bif decide ((x6.length + [IntKind.i64.wrap (x0 - y3_0)].length) * (8 : Nat) ≤ (140737488355328 : Nat) ∧ x6.length + [IntKind.i64.wrap (x0 - y3_0)].length ≤ (140737488355328 : Nat)) then
  c (x0, x1, IntKind.i64.wrap (x2 + (1 : Int)), y10_0, y10_1, y10_2, x6 ++ [IntKind.i64.wrap (x0 - y3_0)])
  else none))
  else none
  else
  (f211 (y3_1) (y3_2) (y3_3) (false)
  (fun (y8_0, y8_1, y8_2) =>
  bif decide ((x6.length + [IntKind.i64.wrap (x0 - y3_0)].length) * (8 : Nat) ≤ (140737488355328 : Nat) ∧ x6.length + [IntKind.i64.wrap (x0 - y3_0)].length ≤ (140737488355328 : Nat)) then
  c (x0, x1, IntKind.i64.wrap (x2 + (1 : Int)), y8_0, y8_1, y8_2, x6 ++ [IntKind.i64.wrap (x0 - y3_0)])
  else none))))
  else
  b (x3, x4, x5, x6)
noncomputable def S_segment_reader_refs_0 (fuel : Nat) (v : Int × Int × Int × (List Int) × Int × Int × (List Int)) (c : (Int × Int × Int × (List Int) × Int × Int × (List Int)) → Option Ans) (B : ((List Int) × Int × Int × (List Int) → Option Ans)) : Option Ans := match v with
 | (x0, x1, x2, x3, x4, x5, x6) => Sg_segment_reader_refs_0 fuel (F_segment_reader_size fuel) (F_segment_reader_form fuel) x0 x1 x2 x3 x4 x5 x6 c B
noncomputable def L_segment_reader_refs_0 (fuel : Nat) (v : Int × Int × Int × (List Int) × Int × Int × (List Int)) (b : ((List Int) × Int × Int × (List Int) → Option Ans)) : Option Ans := iter (S_segment_reader_refs_0 fuel) fuel v b
noncomputable def J212_0 (fuel : Nat) (i : Nat) : Option Ev.Blk := Ev.look i []
noncomputable def T212_0 (v : Int × Int × Int × (List Int) × Int × Int × (List Int)) : Ev.St := match v with | (x0, x1, x2, x3, x4, x5, x6) => ⟨[(0, .c (.ptr 0 0)), (1, .c (.int .i64 x0)), (5, .c (.own 1)), (14, .c (.int .i64 x1)), (15, .c (.int .i64 x2))], [(0, .cells 238 [.sl (.int .u8) x3, .int .i64 x4, .int .i64 x5]), (1, .vec 3 (.int .i64) x6 true)], 2, 1⟩
noncomputable def E212_0 (K : Ev.Ex → Ev.St → Option Ans) : ((List Int) × Int × Int × (List Int) → Option Ans) := (fun v => match v with | (x0, x1, x2, x3) => K .normal ⟨[(5, .c (.own 1))], [(0, .cells 238 [.sl (.int .u8) x0, .int .i64 x1, .int .i64 x2]), (1, .vec 3 (.int .i64) x3 true)], 2, 1⟩)
theorem S212_0_okg (fuel : Nat) (f209 : YF209) (f211 : YF211) (R : Ev.St → Option Ans) (K : Ev.Ex → Ev.St → Option Ans) (x0 x1 x2 : Int) (x3 : (List Int)) (x4 x5 : Int) (x6 : (List Int)) : evalCode tab (Gg212 f209 f211) (J212_0 fuel) kp212 fuel (bodyOf 0 Try.f212) (T212_0 (x0, x1, x2, x3, x4, x5, x6)) (lc kp212 5 0 R K) = Sg_segment_reader_refs_0 fuel f209 f211 x0 x1 x2 x3 x4 x5 x6 (fun v => R (T212_0 v)) (E212_0 K) := by
  kernel_rfl
theorem S212_0_ok (fuel : Nat) (R : Ev.St → Option Ans) (K : Ev.Ex → Ev.St → Option Ans) (x0 x1 x2 : Int) (x3 : (List Int)) (x4 x5 : Int) (x6 : (List Int)) : evalCode tab (G212 fuel) (J212_0 fuel) kp212 fuel (bodyOf 0 Try.f212) (T212_0 (x0, x1, x2, x3, x4, x5, x6)) (lc kp212 5 0 R K) = S_segment_reader_refs_0 fuel (x0, x1, x2, x3, x4, x5, x6) (fun v => R (T212_0 v)) (E212_0 K) :=
  S212_0_okg fuel (F_segment_reader_size fuel) (F_segment_reader_form fuel) R K x0 x1 x2 x3 x4 x5 x6
noncomputable def B212_0 (fuel : Nat) : Ev.Blk := fun st K => match canonO (kp212 5) st with
 | some s => (match s with
 | ⟨[(q0, .c (.ptr q1 q2)), (q3, .c (.int .i64 x0)), (q4, .c (.own q5)), (q6, .c (.int .i64 x1)), (q7, .c (.int .i64 x2))], [(q8, .cells q9 [.sl (.int .u8) x3, .int .i64 x4, .int .i64 x5]), (q10, .vec q11 (.int .i64) x6 true)], q12, q13⟩ => bif Nat.beq q0 0 && Nat.beq q1 0 && Nat.beq q2 0 && Nat.beq q3 1 && Nat.beq q4 5 && Nat.beq q5 1 && Nat.beq q6 14 && Nat.beq q7 15 && Nat.beq q8 0 && Nat.beq q9 238 && Nat.beq q10 1 && Nat.beq q11 3 && Nat.beq q12 2 && Nat.beq q13 1 then iter (S_segment_reader_refs_0 fuel) fuel (x0, x1, x2, x3, x4, x5, x6) (E212_0 K) else none
 | _ => none)
 | none => none
theorem B212_0_ok (fuel : Nat) (st : Ev.St) (K : Ev.Ex → Ev.St → Option Ans) (r : Ans) (h : B212_0 fuel st K = some r) : evalCode tab (G212 fuel) (J212_0 fuel) kp212 fuel (.block 0 (.loop (bodyOf 0 Try.f212))) st K = some r := by
  unfold B212_0 at h
  split at h
  · rename_i s hs
    split at h
    · skip
      obtain ⟨hb, h⟩ := cond_some' h
      simp only [Bool.and_eq_true, Nat.beq_eq, decide_eq_true_eq] at hb
      obtain ⟨⟨⟨⟨⟨⟨⟨⟨⟨⟨⟨⟨⟨rfl, rfl⟩, rfl⟩, rfl⟩, rfl⟩, rfl⟩, rfl⟩, rfl⟩, rfl⟩, rfl⟩, rfl⟩, rfl⟩, rfl⟩, rfl⟩ := hb
      exact blk_loop (S := T212_0) (ks := E212_0) (step := S_segment_reader_refs_0 fuel) (v := (_, _, _, _, _, _, _)) (by kernel_rfl) (by kernel_rfl) (fun R K v => by obtain ⟨x0, x1, x2, x3, x4, x5, x6⟩ := v; exact S212_0_ok fuel R K x0 x1 x2 x3 x4 x5 x6) hs h
    · cases h
  · cases h
noncomputable def J212 (fuel : Nat) (i : Nat) : Option Ev.Blk := Ev.look i [(100000, B212_0 fuel)]
noncomputable def Fg_segment_reader_refs (fuel : Nat) (f209 : YF209) (f211 : YF211) (x0 : (List Int)) (x1 x2 x3 : Int) (k0 : ((List Int) × Int × Int × (List Int)) → Option Ans) : Option Ans :=
  (f209 (x0) (x1) (x2) ((20 : Int))
  (fun (y2_0, y2_1, y2_2, y2_3) =>
  (f211 (y2_1) (y2_2) (y2_3) (decide (y2_0 > (0 : Int)))
  (fun (y6_0, y6_1, y6_2) =>
  (L_segment_reader_refs_0 fuel (x3, y2_0, (0 : Int), y6_0, y6_1, y6_2, [])
  (fun (b0_0, b0_1, b0_2, b0_3) =>
  k0 (b0_0, b0_1, b0_2, b0_3)))))))
noncomputable def F_segment_reader_refs (fuel : Nat) (x0 : (List Int)) (x1 x2 x3 : Int) (k0 : ((List Int) × Int × Int × (List Int)) → Option Ans) : Option Ans := Fg_segment_reader_refs fuel (F_segment_reader_size fuel) (F_segment_reader_form fuel) x0 x1 x2 x3 k0
abbrev YF212 : Type := ((List Int)) → (Int) → (Int) → (Int) → (((List Int) × Int × Int × (List Int)) → Option Ans) → Option Ans
theorem F212_eqg (fuel : Nat) (f209 : YF209) (f211 : YF211) (x0 : (List Int)) (x1 x2 x3 : Int) (k : Ev.Cont) : evalFn tab (Gg212 f209 f211) (J212 fuel) kp212 fuel Try.f212 [.c (.ptr 0 0), .c (.int .i64 x3)] [.cells 238 [.sl (.int .u8) x0, .int .i64 x1, .int .i64 x2]] k = Fg_segment_reader_refs fuel f209 f211 x0 x1 x2 x3 (fun r => match r with | (r0, r1, r2, r3) => k (.c (.own 1), [.cells 238 [.sl (.int .u8) r0, .int .i64 r1, .int .i64 r2], .vec 3 (.int .i64) r3 true])) := by
  kernel_rfl
theorem F212_eq (fuel : Nat) (x0 : (List Int)) (x1 x2 x3 : Int) (k : Ev.Cont) : evalFn tab (G212 fuel) (J212 fuel) kp212 fuel Try.f212 [.c (.ptr 0 0), .c (.int .i64 x3)] [.cells 238 [.sl (.int .u8) x0, .int .i64 x1, .int .i64 x2]] k = F_segment_reader_refs fuel x0 x1 x2 x3 (fun r => match r with | (r0, r1, r2, r3) => k (.c (.own 1), [.cells 238 [.sl (.int .u8) r0, .int .i64 r1, .int .i64 r2], .vec 3 (.int .i64) r3 true])) :=
  F212_eqg fuel (F_segment_reader_size fuel) (F_segment_reader_form fuel) x0 x1 x2 x3 k
theorem hG212 (fuel : Nat) : GOK Try.prog (G212 fuel) :=
  gok_cons ⟨ok209 fuel, enters_of Try.func209 (by kernel_rfl) rfl⟩ <|
  gok_cons ⟨ok211 fuel, enters_of Try.func211 (by kernel_rfl) rfl⟩ <|
  gok_nil
theorem B212_0_blk (fuel : Nat) : BlkOK Try.prog Try.f212.ntmps (.block 0 (.loop (bodyOf 0 Try.f212))) (B212_0 fuel) :=
  blk_of (blk_of_code tab_ok (hG212 fuel) mixed (J := J212_0 fuel) (kp := kp212) (fuel := fuel) (by kernel_rfl) (fun q hq => by
    rw [(by kernel_rfl : obl (J212_0 fuel) (.block 0 (.loop (bodyOf 0 Try.f212))) = [])] at hq
    cases hq)) (B212_0_ok fuel)
theorem fok212 (fuel : Nat) : FnOK Try.prog 212 (evalFn tab (G212 fuel) (J212 fuel) kp212 fuel Try.f212) :=
  fn_ok tab_ok (hG212 fuel) mixed Try.func212 (c := (Try.f212.body).getD .skip) rfl (fun q hq => by
    rw [(by kernel_rfl : obl (J212 fuel) ((Try.f212.body).getD .skip) = [(.block 0 (.loop (bodyOf 0 Try.f212)), B212_0 fuel)])] at hq
    simp only [List.mem_cons, List.not_mem_nil, or_false] at hq
    subst hq
    · exact B212_0_blk fuel)
noncomputable def mt212 : List Ev.SV → List Ev.Ob → Bool := fun args objs => match args, objs with
 | [.c (.ptr q0 q1), .c (.int .i64 _)], [.cells q2 [.sl (.int .u8) _, .int .i64 _, .int .i64 _]] => Nat.beq q0 0 && Nat.beq q1 0 && Nat.beq q2 238
 | _, _ => false
noncomputable def spg212 (F : YF212) : Ev.Spec := fun args objs k => match args, objs with
 | [.c (.ptr q0 q1), .c (.int .i64 x3)], [.cells q2 [.sl (.int .u8) x0, .int .i64 x1, .int .i64 x2]] => bif Nat.beq q0 0 && Nat.beq q1 0 && Nat.beq q2 238 then F x0 x1 x2 x3 (fun r => match r with | (r0, r1, r2, r3) => k (.c (.own 1), [.cells 238 [.sl (.int .u8) r0, .int .i64 r1, .int .i64 r2], .vec 3 (.int .i64) r3 true])) else none
 | _, _ => none
noncomputable def spec212 (fuel : Nat) : Ev.Spec := spg212 (F_segment_reader_refs fuel)
theorem ok212 (fuel : Nat) : FnOK Try.prog 212 (spec212 fuel) := by
  intro args objs kk r h
  unfold spec212 spg212 at h
  split at h
  · skip
    obtain ⟨hb, h⟩ := cond_some' h
    simp only [Bool.and_eq_true, Nat.beq_eq, decide_eq_true_eq] at hb
    obtain ⟨⟨rfl, rfl⟩, rfl⟩ := hb
    exact fok212 fuel _ _ kk r ((F212_eq fuel _ _ _ _ kk).trans h)
  · cases h
end Go.Proofs.Ytihfgpfofmjbaaa

set_option linter.unusedVariables false
set_option linter.unusedSimpArgs false
set_option maxRecDepth 100000
set_option maxHeartbeats 2000000
namespace Go.Proofs.Ytihfgpfofmjbaaa
open Go Ev
def kp202 (i : Nat) : Option (List Nat) := Ev.look i [(14, [4, 8, 10, 75, 76, 77]), (100000, [4, 8]), (200023, [8]), (200024, [8]), (400000, [4, 5, 6, 7])]
noncomputable def Gg202 (f209 : YF209) (f210 : YF210) (f211 : YF211) (f212 : YF212) (f213 : YF213) (f : Nat) : Option Ev.Spec := Ev.look f [(209, spg209 f209), (210, spg210 f210), (211, spg211 f211), (212, spg212 f212), (213, spg213 f213)]
noncomputable def G202 (fuel : Nat) : Nat → Option Ev.Spec := Gg202 (F_segment_reader_size fuel) (F_segment_reader_bytes fuel) (F_segment_reader_form fuel) (F_segment_reader_refs fuel) (F_bits_Unpack fuel)
noncomputable def Sg_segment_GetHeader_0 (fuel : Nat) (f209 : YF209) (f210 : YF210) (f211 : YF211) (f212 : YF212) (f213 : YF213) (x0 x1 : Int) (x2 x3 : Int) (x4 x5 : Int) (x6 : (List Int)) (x7 x8 : Int) (x9 x10 : (List Int)) (x11 : (List Bool)) (x12 : (List Int)) (c : (Int × Int × Int × Int × Int × Int × (List Int) × Int × Int × (List Int) × (List Int) × (List Bool) × (List Int)) → Option Ans) (B : (Int × Int × Int × (List Int) × Int × Int × (List Int) × (List Bool) × (List Int) → Option Ans)) : Option Ans := match B with
 | b =>
  bif decide (x2 < x1) then
  bif decide ((0 : Int) ≤ x2 ∧ x2 < (↑x9.length : Int)) then
  bif decide (x2 < x0) then
  bif decide ((x11.length + [x9.getD x2.toNat (0 : Int) == (1 : Int)].length) * (1 : Nat) ≤ (140737488355328 : Nat) ∧ x11.length + [x9.getD x2.toNat (0 : Int) == (1 : Int)].length ≤ (140737488355328 : Nat)) then
  c (x0, x1, IntKind.i64.wrap (x2 + (1 : Int)), x3, x4, x5, x6, x7, x8, x9, x10, x11 ++ [x9.getD x2.toNat (0 : Int) == (1 : Int)], x12)
  else none
  else
  (f211 (x6) (x7) (x8) (x9.getD x2.toNat (0 : Int) == (0 : Int))
  (fun (y5_0, y5_1, y5_2) =>
  c (x0, x1, IntKind.i64.wrap (x2 + (1 : Int)), x3, x4, x5, y5_0, y5_1, y5_2, x9, x10, x11, x12)))
  else none
  else
  b (x3, x4, x5, x6, x7, x8, x10, x11, x12)
noncomputable def S_segment_GetHeader_0 (fuel : Nat) (v : Int × Int × Int × Int × Int × Int × (List Int) × Int × Int × (List Int) × (List Int) × (List Bool) × (List Int)) (c : (Int × Int × Int × Int × Int × Int × (List Int) × Int × Int × (List Int) × (List Int) × (List Bool) × (List Int)) → Option Ans) (B : (Int × Int × Int × (List Int) × Int × Int × (List Int) × (List Bool) × (List Int) → Option Ans)) : Option Ans := match v with
 | (x0, x1, x2, x3, x4, x5, x6, x7, x8, x9, x10, x11, x12) => Sg_segment_GetHeader_0 fuel (F_segment_reader_size fuel) (F_segment_reader_bytes fuel) (F_segment_reader_form fuel) (F_segment_reader_refs fuel) (F_bits_Unpack fuel) x0 x1 x2 x3 x4 x5 x6 x7 x8 x9 x10 x11 x12 c B
noncomputable def L_segment_GetHeader_0 (fuel : Nat) (v : Int × Int × Int × Int × Int × Int × (List Int) × Int × Int × (List Int) × (List Int) × (List Bool) × (List Int)) (b : (Int × Int × Int × (List Int) × Int × Int × (List Int) × (List Bool) × (List Int) → Option Ans)) : Option Ans := iter (S_segment_GetHeader_0 fuel) fuel v b
noncomputable def J202_0 (fuel : Nat) (i : Nat) : Option Ev.Blk := Ev.look i []
noncomputable def T202_0 (v : Int × Int × Int × Int × Int × Int × (List Int) × Int × Int × (List Int) × (List Int) × (List Bool) × (List Int)) : Ev.St := match v with | (x0, x1, x2, x3, x4, x5, x6, x7, x8, x9, x10, x11, x12) => ⟨[(4, .c (.ptr 0 0)), (8, .c (.ptr 1 0)), (10, .c (.int .i64 x0)), (75, .c (.own 2)), (76, .c (.int .i64 x1)), (77, .c (.int .i64 x2))], [(0, .cells 103 [.int .i64 x3, .int .i64 x4, .int .i64 x5, .own 3, .own 4, .own 5]), (1, .cells 238 [.sl (.int .u8) x6, .int .i64 x7, .int .i64 x8]), (2, .vec 5 (.int .u8) x9 true), (3, .vec 3 (.int .i64) x10 true), (4, .vec 4 .bool x11 true), (5, .vec 5 (.int .u8) x12 true)], 6, 0⟩
noncomputable def E202_0 (K : Ev.Ex → Ev.St → Option Ans) : (Int × Int × Int × (List Int) × Int × Int × (List Int) × (List Bool) × (List Int) → Option Ans) := (fun v => match v with | (x0, x1, x2, x3, x4, x5, x6, x7, x8) => K .normal ⟨[(4, .c (.ptr 0 0)), (8, .c (.ptr 1 0))], [(0, .cells 103 [.int .i64 x0, .int .i64 x1, .int .i64 x2, .own 2, .own 3, .own 4]), (1, .cells 238 [.sl (.int .u8) x3, .int .i64 x4, .int .i64 x5]), (2, .vec 3 (.int .i64) x6 true), (3, .vec 4 .bool x7 true), (4, .vec 5 (.int .u8) x8 true)], 5, 0⟩)
theorem S202_0_okg (fuel : Nat) (f209 : YF209) (f210 : YF210) (f211 : YF211) (f212 : YF212) (f213 : YF213) (R : Ev.St → Option Ans) (K : Ev.Ex → Ev.St → Option Ans) (x0 x1 : Int) (x2 x3 : Int) (x4 x5 : Int) (x6 : (List Int)) (x7 x8 : Int) (x9 x10 : (List Int)) (x11 : (List Bool)) (x12 : (List Int)) : evalCode tab (Gg202 f209 f210 f211 f212 f213) (J202_0 fuel) kp202 fuel (bodyOf 0 Try.f202) (T202_0 (x0, x1, x2, x3, x4, x5, x6, x7, x8, x9, x10, x11, x12)) (lc kp202 14 0 R K) = Sg_segment_GetHeader_0 fuel f209 f210 f211 f212 f213 x0 x1 x2 x3 x4 x5 x6 x7 x8 x9 x10 x11 x12 (fun v => R (T202_0 v)) (E202_0 K) := by
  kernel_rfl
theorem S202_0_ok (fuel : Nat) (R : Ev.St → Option Ans) (K : Ev.Ex → Ev.St → Option Ans) (x0 x1 : Int) (x2 x3 : Int) (x4 x5 : Int) (x6 : (List Int)) (x7 x8 : Int) (x9 x10 : (List Int)) (x11 : (List Bool)) (x12 : (List Int)) : evalCode tab (G202 fuel) (J202_0 fuel) kp202 fuel (bodyOf 0 Try.f202) (T202_0 (x0, x1, x2, x3, x4, x5, x6, x7, x8, x9, x10, x11, x12)) (lc kp202 14 0 R K) = S_segment_GetHeader_0 fuel (x0, x1, x2, x3, x4, x5, x6, x7, x8, x9, x10, x11, x12) (fun v => R (T202_0 v)) (E202_0 K) :=
  S202_0_okg fuel (F_segment_reader_size fuel) (F_segment_reader_bytes fuel) (F_segment_reader_form fuel) (F_segment_reader_refs fuel) (F_bits_Unpack fuel) R K x0 x1 x2 x3 x4 x5 x6 x7 x8 x9 x10 x11 x12
noncomputable def B202_0 (fuel : Nat) : Ev.Blk := fun st K => match canonO (kp202 14) st with
 | some s => (match s with
 | ⟨[(q0, .c (.ptr q1 q2)), (q3, .c (.ptr q4 q5)), (q6, .c (.int .i64 x0)), (q7, .c (.own q8)), (q9, .c (.int .i64 x1)), (q10, .c (.int .i64 x2))], [(q11, .cells q12 [.int .i64 x3, .int .i64 x4, .int .i64 x5, .own q13, .own q14, .own q15]), (q16, .cells q17 [.sl (.int .u8) x6, .int .i64 x7, .int .i64 x8]), (q18, .vec q19 (.int .u8) x9 true), (q20, .vec q21 (.int .i64) x10 true), (q22, .vec q23 .bool x11 true), (q24, .vec q25 (.int .u8) x12 true)], q26, q27⟩ => bif Nat.beq q0 4 && Nat.beq q1 0 && Nat.beq q2 0 && Nat.beq q3 8 && Nat.beq q4 1 && Nat.beq q5 0 && Nat.beq q6 10 && Nat.beq q7 75 && Nat.beq q8 2 && Nat.beq q9 76 && Nat.beq q10 77 && Nat.beq q11 0 && Nat.beq q12 103 && Nat.beq q13 3 && Nat.beq q14 4 && Nat.beq q15 5 && Nat.beq q16 1 && Nat.beq q17 238 && Nat.beq q18 2 && Nat.beq q19 5 && Nat.beq q20 3 && Nat.beq q21 3 && Nat.beq q22 4 && Nat.beq q23 4 && Nat.beq q24 5 && Nat.beq q25 5 && Nat.beq q26 6 && Nat.beq q27 0 then iter (S_segment_GetHeader_0 fuel) fuel (x0, x1, x2, x3, x4, x5, x6, x7, x8, x9, x10, x11, x12) (E202_0 K) else none
 | _ => none)
 | none => none
theorem B202_0_ok (fuel : Nat) (st : Ev.St) (K : Ev.Ex → Ev.St → Option Ans) (r : Ans) (h : B202_0 fuel st K = some r) : evalCode tab (G202 fuel) (J202_0 fuel) kp202 fuel (.block 0 (.loop (bodyOf 0 Try.f202))) st K = some r := by
  unfold B202_0 at h
  split at h
  · rename_i s hs
    split at h
    · skip
      obtain ⟨hb, h⟩ := cond_some' h
      simp only [Bool.and_eq_true, Nat.beq_eq, decide_eq_true_eq] at hb
      obtain ⟨⟨⟨⟨⟨⟨⟨⟨⟨⟨⟨⟨⟨⟨⟨⟨⟨⟨⟨⟨⟨⟨⟨⟨⟨⟨⟨rfl, rfl⟩, rfl⟩, rfl⟩, rfl⟩, rfl⟩, rfl⟩, rfl⟩, rfl⟩, rfl⟩, rfl⟩, rfl⟩, rfl⟩, rfl⟩, rfl⟩, rfl⟩, rfl⟩, rfl⟩, rfl⟩, rfl⟩, rfl⟩, rfl⟩, rfl⟩, rfl⟩, rfl⟩, rfl⟩, rfl⟩, rfl⟩ := hb
      exact blk_loop (S := T202_0) (ks := E202_0) (step := S_segment_GetHeader_0 fuel) (v := (_, _, _, _, _, _, _, _, _, _, _, _, _)) (by kernel_rfl) (by kernel_rfl) (fun R K v => by obtain ⟨x0, x1, x2, x3, x4, x5, x6, x7, x8, x9, x10, x11, x12⟩ := v; exact S202_0_ok fuel R K x0 x1 x2 x3 x4 x5 x6 x7 x8 x9 x10 x11 x12) hs h
    · cases h
  · cases h
noncomputable def J202 (fuel : Nat) (i : Nat) : Option Ev.Blk := Ev.look i [(100000, B202_0 fuel)]
noncomputable def Fg_segment_GetHeader (fuel : Nat) (f209 : YF209) (f210 : YF210) (f211 : YF211) (f212 : YF212) (f213 : YF213) (x0 : (List Int)) (x1 : Int) (k0 : (Int × Int × Int × Int × Int × Int × (List Int) × (List Bool) × (List Int)) → Option Ans) : Option Ans :=
  bif decide (x1 < (0 : Int)) then
  k0 ((0 : Int), (0 : Int), (0 : Int), (0 : Int), (0 : Int), (2 : Int), [], [], [])
  else
  bif decide (x1 > (↑x0.length : Int)) then
  k0 ((0 : Int), (0 : Int), (0 : Int), (0 : Int), (0 : Int), (2 : Int), [], [], [])
  else
  (f209 (x0) (x1) ((0 : Int)) ((10000 : Int))
  (fun (y4_0, y4_1, y4_2, y4_3) =>
  (f210 (y4_1) (y4_2) (y4_3) ((1 : Int))
  (fun (y8_0, y8_1, y8_2, y8_3) =>
  bif decide ((0 : Int) ≤ (0 : Int) ∧ (0 : Int) < (↑y8_0.length : Int)) then
  (f211 (y8_1) (y8_2) (y8_3) (decide (IntKind.i64.wrap (y8_0.getD (Int.toNat (0 : Int)) (0 : Int)) ≤ (31 : Int)))
  (fun (y13_0, y13_1, y13_2) =>
  bif decide (IntKind.i64.wrap (y8_0.getD (Int.toNat (0 : Int)) (0 : Int)) ≥ (16 : Int)) then
  bif y13_2 == (0 : Int) then
  (f212 (y13_0) (y13_1) (y13_2) (y4_0)
  (fun (y19_0, y19_1, y19_2, y19_3) =>
  (f210 (y19_0) (y19_1) (y19_2) (IntKind.i64.wrap ((IntKind.i64.wrap (IntKind.i64.wrap ((↑y19_3.length : Int) + (1 : Int)) + (7 : Int))).tdiv (8 : Int)))
  (fun (y23_0, y23_1, y23_2, y23_3) =>
  (f213 (y23_0) (IntKind.i64.wrap ((8 : Int) * (↑y23_0.length : Int)))
  (fun (y27_0, y27_1) =>
  (L_segment_GetHeader_0 fuel (IntKind.i64.wrap ((↑y19_3.length : Int) + (1 : Int)), (↑y27_1.length : Int), (0 : Int), y4_0, (IntKind.i64.wrap (y8_0.getD (Int.toNat (0 : Int)) (0 : Int))).tmod (16 : Int), (0 : Int), y23_1, y23_2, y23_3, y27_1, y19_3, [], [])
  (fun (b0_0, b0_1, b0_2, b0_3, b0_4, b0_5, b0_6, b0_7, b0_8) =>
  (f209 (b0_3) (b0_4) (b0_5) ((1000 : Int))
  (fun (y35_0, y35_1, y35_2, y35_3) =>
  (f209 (y35_1) (y35_2) (y35_3) ((20000 : Int))
  (fun (y39_0, y39_1, y39_2, y39_3) =>
  bif y39_3 != (0 : Int) then
  k0 ((0 : Int), (0 : Int), (0 : Int), (0 : Int), (0 : Int), y39_3, [], [], [])
  else
  k0 (b0_0, b0_1, y35_0, y39_0, y39_2, (0 : Int), b0_6, b0_7, b0_8)))))))))))))
  else
  (f210 (y13_0) (y13_1) (y13_2) (IntKind.i64.wrap ((IntKind.i64.wrap (IntKind.i64.wrap ((↑(0 : Nat) : Int) + (1 : Int)) + (7 : Int))).tdiv (8 : Int)))
  (fun (y19_0, y19_1, y19_2, y19_3) =>
  (f213 (y19_0) (IntKind.i64.wrap ((8 : Int) * (↑y19_0.length : Int)))
  (fun (y23_0, y23_1) =>
  (L_segment_GetHeader_0 fuel (IntKind.i64.wrap ((↑(0 : Nat) : Int) + (1 : Int)), (↑y23_1.length : Int), (0 : Int), y4_0, (IntKind.i64.wrap (y8_0.getD (Int.toNat (0 : Int)) (0 : Int))).tmod (16 : Int), (0 : Int), y19_1, y19_2, y19_3, y23_1, [], [], [])
  (fun (b0_0, b0_1, b0_2, b0_3, b0_4, b0_5, b0_6, b0_7, b0_8) =>
  (f209 (b0_3) (b0_4) (b0_5) ((1000 : Int))
  (fun (y31_0, y31_1, y31_2, y31_3) =>
  (f209 (y31_1) (y31_2) (y31_3) ((20000 : Int))
  (fun (y35_0, y35_1, y35_2, y35_3) =>
  bif y35_3 != (0 : Int) then
  k0 ((0 : Int), (0 : Int), (0 : Int), (0 : Int), (0 : Int), y35_3, [], [], [])
  else
  k0 (b0_0, b0_1, y31_0, y35_0, y35_2, (0 : Int), b0_6, b0_7, b0_8)))))))))))
  else
  (f210 (y13_0) (y13_1) (y13_2) (IntKind.i64.wrap ((IntKind.i64.wrap (IntKind.i64.wrap ((↑(0 : Nat) : Int) + (1 : Int)) + (7 : Int))).tdiv (8 : Int)))
  (fun (y18_0, y18_1, y18_2, y18_3) =>
  (f213 (y18_0) (IntKind.i64.wrap ((8 : Int) * (↑y18_0.length : Int)))
  (fun (y22_0, y22_1) =>
  (L_segment_GetHeader_0 fuel (IntKind.i64.wrap ((↑(0 : Nat) : Int) + (1 : Int)), (↑y22_1.length : Int), (0 : Int), y4_0, (IntKind.i64.wrap (y8_0.getD (Int.toNat (0 : Int)) (0 : Int))).tmod (16 : Int), (0 : Int), y18_1, y18_2, y18_3, y22_1, [], [], [])
  (fun (b0_0, b0_1, b0_2, b0_3, b0_4, b0_5, b0_6, b0_7, b0_8) =>
  (f209 (b0_3) (b0_4) (b0_5) ((1000 : Int))
  (fun (y30_0, y30_1, y30_2, y30_3) =>
  (f209 (y30_1) (y30_2) (y30_3) ((20000 : Int))
  (fun (y34_0, y34_1, y34_2, y34_3) =>
  bif y34_3 != (0 : Int) then
  k0 ((0 : Int), (0 : Int), (0 : Int), (0 : Int), (0 : Int), y34_3, [], [], [])
  else
  k0 (b0_0, b0_1, y30_0, y34_0, y34_2, (0 : Int), b0_6, b0_7, b0_8)))))))))))))
  else none))))
noncomputable def F_segment_GetHeader (fuel : Nat) (x0 : (List Int)) (x1 : Int) (k0 : (Int × Int × Int × Int × Int × Int × (List Int) × (List Bool) × (List Int)) → Option Ans) : Option Ans := Fg_segment_GetHeader fuel (F_segment_reader_size fuel) (F_segment_reader_bytes fuel) (F_segment_reader_form fuel) (F_segment_reader_refs fuel) (F_bits_Unpack fuel) x0 x1 k0
abbrev YF202 : Type := ((List Int)) → (Int) → ((Int × Int × Int × Int × Int × Int × (List Int) × (List Bool) × (List Int)) → Option Ans) → Option Ans
theorem F202_eqg (fuel : Nat) (f209 : YF209) (f210 : YF210) (f211 : YF211) (f212 : YF212) (f213 : YF213) (x0 : (List Int)) (x1 : Int) (k : Ev.Cont) : evalFn tab (Gg202 f209 f210 f211 f212 f213) (J202 fuel) kp202 fuel Try.f202 [.c (.sl (.int .u8) x0), .c (.int .i64 x1)] [] k = Fg_segment_GetHeader fuel f209 f210 f211 f212 f213 x0 x1 (fun r => match r with | (r0, r1, r2, r3, r4, r5, r6, r7, r8) => k (.tup [(true, [.int .i64 r0, .int .i64 r1, .int .i64 r2, .own 0, .own 1, .own 2]), (false, [.int .i64 r3]), (false, [.int .i64 r4]), (false, [.int .i64 r5])], [.vec 3 (.int .i64) r6 true, .vec 4 .bool r7 true, .vec 5 (.int .u8) r8 true])) := by
  kernel_rfl
theorem F202_eq (fuel : Nat) (x0 : (List Int)) (x1 : Int) (k : Ev.Cont) : evalFn tab (G202 fuel) (J202 fuel) kp202 fuel Try.f202 [.c (.sl (.int .u8) x0), .c (.int .i64 x1)] [] k = F_segment_GetHeader fuel x0 x1 (fun r => match r with | (r0, r1, r2, r3, r4, r5, r6, r7, r8) => k (.tup [(true, [.int .i64 r0, .int .i64 r1, .int .i64 r2, .own 0, .own 1, .own 2]), (false, [.int .i64 r3]), (false, [.int .i64 r4]), (false, [.int .i64 r5])], [.vec 3 (.int .i64) r6 true, .vec 4 .bool r7 true, .vec 5 (.int .u8) r8 true])) :=
  F202_eqg fuel (F_segment_reader_size fuel) (F_segment_reader_bytes fuel) (F_segment_reader_form fuel) (F_segment_reader_refs fuel) (F_bits_Unpack fuel) x0 x1 k
theorem hG202 (fuel : Nat) : GOK Try.prog (G202 fuel) :=
  gok_cons ⟨ok209 fuel, enters_of Try.func209 (by kernel_rfl) rfl⟩ <|
  gok_cons ⟨ok210 fuel, enters_of Try.func210 (by kernel_rfl) rfl⟩ <|
  gok_cons ⟨ok211 fuel, enters_of Try.func211 (by kernel_rfl) rfl⟩ <|
  gok_cons ⟨ok212 fuel, enters_of Try.func212 (by kernel_rfl) rfl⟩ <|
  gok_cons ⟨ok213 fuel, enters_of Try.func213 (by kernel_rfl) rfl⟩ <|
  gok_nil
theorem B202_0_blk (fuel : Nat) : BlkOK Try.prog Try.f202.ntmps (.block 0 (.loop (bodyOf 0 Try.f202))) (B202_0 fuel) :=
  blk_of (blk_of_code tab_ok (hG202 fuel) mixed (J := J202_0 fuel) (kp := kp202) (fuel := fuel) (by kernel_rfl) (fun q hq => by
    rw [(by kernel_rfl : obl (J202_0 fuel) (.block 0 (.loop (bodyOf 0 Try.f202))) = [])] at hq
    cases hq)) (B202_0_ok fuel)
theorem fok202 (fuel : Nat) : FnOK Try.prog 202 (evalFn tab (G202 fuel) (J202 fuel) kp202 fuel Try.f202) :=
  fn_ok tab_ok (hG202 fuel) mixed Try.func202 (c := (Try.f202.body).getD .skip) rfl (fun q hq => by
    rw [(by kernel_rfl : obl (J202 fuel) ((Try.f202.body).getD .skip) = [(.block 0 (.loop (bodyOf 0 Try.f202)), B202_0 fuel)])] at hq
    simp only [List.mem_cons, List.not_mem_nil, or_false] at hq
    subst hq
    · exact B202_0_blk fuel)
noncomputable def mt202 : List Ev.SV → List Ev.Ob → Bool := fun args objs => match args, objs with
 | [.c (.sl (.int .u8) _), .c (.int .i64 _)], [] => true
 | _, _ => false
noncomputable def spg202 (F : YF202) : Ev.Spec := fun args objs k => match args, objs with
 | [.c (.sl (.int .u8) x0), .c (.int .i64 x1)], [] => bif true then F x0 x1 (fun r => match r with | (r0, r1, r2, r3, r4, r5, r6, r7, r8) => k (.tup [(true, [.int .i64 r0, .int .i64 r1, .int .i64 r2, .own 0, .own 1, .own 2]), (false, [.int .i64 r3]), (false, [.int .i64 r4]), (false, [.int .i64 r5])], [.vec 3 (.int .i64) r6 true, .vec 4 .bool r7 true, .vec 5 (.int .u8) r8 true])) else none
 | _, _ => none
noncomputable def spec202 (fuel : Nat) : Ev.Spec := spg202 (F_segment_GetHeader fuel)
theorem ok202 (fuel : Nat) : FnOK Try.prog 202 (spec202 fuel) := by
  intro args objs kk r h
  unfold spec202 spg202 at h
  split at h
  · skip
    obtain ⟨hb, h⟩ := cond_some' h
    simp only [Bool.and_eq_true, Nat.beq_eq, decide_eq_true_eq] at hb
    clear hb
    exact fok202 fuel _ _ kk r ((F202_eq fuel _ _ kk).trans h)
  · cases h
end Go.Proofs.Ytihfgpfofmjbaaa

set_option linter.unusedVariables false
set_option linter.unusedSimpArgs false
set_option maxRecDepth 100000
set_option maxHeartbeats 2000000
namespace Go.Proofs.Ytihfgpfofmjbaaa
open Go Ev
def kp171_f32 (i : Nat) : Option (List Nat) := Ev.look i [(200004, [0]), (200009, []), (600000, [])]
noncomputable def Gg171_f32 (f172_857 : YF172_857) (f202 : YF202) (f : Nat) : Option Ev.Spec := Ev.look f [(172, spg172_857 f172_857), (202, spg202 f202)]
noncomputable def G171_f32 (fuel : Nat) : Nat → Option Ev.Spec := Gg171_f32 (F_file_reader_fail_857 fuel) (F_segment_GetHeader fuel)
noncomputable def J171_f32 (fuel : Nat) (i : Nat) : Option Ev.Blk := Ev.look i []
noncomputable def Fg_file_reader_header_f32 (fuel : Nat) (f172_857 : YF172_857) (f202 : YF202) (x0 : (List Int)) (x1 x2 x3 : Int) (x4 : (List (Int × (Int × (Int × ((List Int) × ((List Bool) × (List Int)))))))) (x5 x6 : (List Int)) (k0 : (Int × (List Int) × Int × Int × Int × (List (Int × (Int × (Int × ((List Int) × ((List Bool) × (List Int))))))) × (List Int) × (List Int)) → Option Ans) (k1 : (Int × (List Int) × Int × Int × Int × (List (Int × (Int × (Int × ((List Int) × ((List Bool) × (List Int))))))) × (List Int) × (List Int)) → Option Ans) : Option Ans :=
  bif (↑x4.length : Int) == (100 : Int) then
  (f172_857 ((0 : Int)) ((4 : Int)) (x0) (x1) (x2) (x3) (x4) (x5) (x6)
  (fun (y3_0, y3_1, y3_2, y3_3, y3_4, y3_5, y3_6) =>
  k0 ((0 : Int), y3_0, y3_1, y3_2, y3_3, y3_4, y3_5, y3_6)))
  else
  both ((f202 (x0) (x1)
  (fun (y5_0, y5_1, y5_2, y5_3, y5_4, y5_5, y5_6, y5_7, y5_8) =>
  bif y5_5 != (0 : Int) then
  (f172_857 (x1) (y5_5) (x0) (x1) (x2) (x3) (x4) (x5) (x6)
  (fun (y10_0, y10_1, y10_2, y10_3, y10_4, y10_5, y10_6) =>
  k0 ((0 : Int), y10_0, y10_1, y10_2, y10_3, y10_4, y10_5, y10_6)))
  else
  both (bif decide ((x5.length + [x1].length) * (8 : Nat) ≤ (140737488355328 : Nat) ∧ x5.length + [x1].length ≤ (140737488355328 : Nat)) then
  both (bif decide ((x4.length + [(y5_0, y5_1, y5_2, y5_6, y5_7, y5_8)].length) * (96 : Nat) ≤ (140737488355328 : Nat) ∧ x4.length + [(y5_0, y5_1, y5_2, y5_6, y5_7, y5_8)].length ≤ (140737488355328 : Nat)) then
  k1 (y5_3, x0, y5_4, x2, x3, x4 ++ [(y5_0, y5_1, y5_2, y5_6, y5_7, y5_8)], x5 ++ [x1], x6)
  else none)
  (both (bif decide ((x4.length + [(y5_0, y5_1, y5_2, y5_6, y5_7, y5_8)].length) * (96 : Nat) ≤ (140737488355328 : Nat) ∧ x4.length + [(y5_0, y5_1, y5_2, y5_6, y5_7, y5_8)].length ≤ (140737488355328 : Nat)) then
  k1 (y5_3, x0, y5_4, x2, x3, x4 ++ [(y5_0, y5_1, y5_2, y5_6, y5_7, y5_8)], x5 ++ [x1], x6)
  else none)
  (bif decide ((x4.length + [(y5_0, y5_1, y5_2, y5_6, y5_7, y5_8)].length) * (96 : Nat) ≤ (140737488355328 : Nat) ∧ x4.length + [(y5_0, y5_1, y5_2, y5_6, y5_7, y5_8)].length ≤ (140737488355328 : Nat)) then
  k1 (y5_3, x0, y5_4, x2, x3, x4 ++ [(y5_0, y5_1, y5_2, y5_6, y5_7, y5_8)], x5 ++ [x1], x6)
  else none))
  else none)
  (both (bif decide ((x5.length + [x1].length) * (8 : Nat) ≤ (140737488355328 : Nat) ∧ x5.length + [x1].length ≤ (140737488355328 : Nat)) then
  both (bif decide ((x4.length + [(y5_0, y5_1, y5_2, y5_6, y5_7, y5_8)].length) * (96 : Nat) ≤ (140737488355328 : Nat) ∧ x4.length + [(y5_0, y5_1, y5_2, y5_6, y5_7, y5_8)].length ≤ (140737488355328 : Nat)) then
  k1 (y5_3, x0, y5_4, x2, x3, x4 ++ [(y5_0, y5_1, y5_2, y5_6, y5_7, y5_8)], x5 ++ [x1], x6)
  else none)
  (both (bif decide ((x4.length + [(y5_0, y5_1, y5_2, y5_6, y5_7, y5_8)].length) * (96 : Nat) ≤ (140737488355328 : Nat) ∧ x4.length + [(y5_0, y5_1, y5_2, y5_6, y5_7, y5_8)].length ≤ (140737488355328 : Nat)) then
  k1 (y5_3, x0, y5_4, x2, x3, x4 ++ [(y5_0, y5_1, y5_2, y5_6, y5_7, y5_8)], x5 ++ [x1], x6)
  else none)
  (bif decide ((x4.length + [(y5_0, y5_1, y5_2, y5_6, y5_7, y5_8)].length) * (96 : Nat) ≤ (140737488355328 : Nat) ∧ x4.length + [(y5_0, y5_1, y5_2, y5_6, y5_7, y5_8)].length ≤ (140737488355328 : Nat)) then
  k1 (y5_3, x0, y5_4, x2, x3, x4 ++ [(y5_0, y5_1, y5_2, y5_6, y5_7, y5_8)], x5 ++ [x1], x6)
  else none))
  else none)
  (bif decide ((x5.length + [x1].length) * (8 : Nat) ≤ (140737488355328 : Nat) ∧ x5.length + [x1].length ≤ (140737488355328 : Nat)) then
  both (bif decide ((x4.length + [(y5_0, y5_1, y5_2, y5_6, y5_7, y5_8)].length) * (96 : Nat) ≤ (140737488355328 : Nat) ∧ x4.length + [(y5_0, y5_1, y5_2, y5_6, y5_7, y5_8)].length ≤ (140737488355328 : Nat)) then
  k1 (y5_3, x0, y5_4, x2, x3, x4 ++ [(y5_0, y5_1, y5_2, y5_6, y5_7, y5_8)], x5 ++ [x1], x6)
  else none)
  (both (bif decide ((x4.length + [(y5_0, y5_1, y5_2, y5_6, y5_7, y5_8)].length) * (96 : Nat) ≤ (140737488355328 : Nat) ∧ x4.length + [(y5_0, y5_1, y5_2, y5_6, y5_7, y5_8)].length ≤ (140737488355328 : Nat)) then
  k1 (y5_3, x0, y5_4, x2, x3, x4 ++ [(y5_0, y5_1, y5_2, y5_6, y5_7, y5_8)], x5 ++ [x1], x6)
  else none)
  (bif decide ((x4.length + [(y5_0, y5_1, y5_2, y5_6, y5_7, y5_8)].length) * (96 : Nat) ≤ (140737488355328 : Nat) ∧ x4.length + [(y5_0, y5_1, y5_2, y5_6, y5_7, y5_8)].length ≤ (140737488355328 : Nat)) then
  k1 (y5_3, x0, y5_4, x2, x3, x4 ++ [(y5_0, y5_1, y5_2, y5_6, y5_7, y5_8)], x5 ++ [x1], x6)
  else none))
  else none)))))
  ((f202 (x0) (x1)
  (fun (y5_0, y5_1, y5_2, y5_3, y5_4, y5_5, y5_6, y5_7, y5_8) =>
  bif y5_5 != (0 : Int) then
  (f172_857 (x1) (y5_5) (x0) (x1) (x2) (x3) (x4) (x5) (x6)
  (fun (y10_0, y10_1, y10_2, y10_3, y10_4, y10_5, y10_6) =>
  k0 ((0 : Int), y10_0, y10_1, y10_2, y10_3, y10_4, y10_5, y10_6)))
  else
  both (bif decide ((x5.length + [x1].length) * (8 : Nat) ≤ (140737488355328 : Nat) ∧ x5.length + [x1].length ≤ (140737488355328 : Nat)) then
  both (bif decide ((x4.length + [(y5_0, y5_1, y5_2, y5_6, y5_7, y5_8)].length) * (96 : Nat) ≤ (140737488355328 : Nat) ∧ x4.length + [(y5_0, y5_1, y5_2, y5_6, y5_7, y5_8)].length ≤ (140737488355328 : Nat)) then
  k1 (y5_3, x0, y5_4, x2, x3, x4 ++ [(y5_0, y5_1, y5_2, y5_6, y5_7, y5_8)], x5 ++ [x1], x6)
  else none)
  (both (bif decide ((x4.length + [(y5_0, y5_1, y5_2, y5_6, y5_7, y5_8)].length) * (96 : Nat) ≤ (140737488355328 : Nat) ∧ x4.length + [(y5_0, y5_1, y5_2, y5_6, y5_7, y5_8)].length ≤ (140737488355328 : Nat)) then
  k1 (y5_3, x0, y5_4, x2, x3, x4 ++ [(y5_0, y5_1, y5_2, y5_6, y5_7, y5_8)], x5 ++ [x1], x6)
  else none)
  (bif decide ((x4.length + [(y5_0, y5_1, y5_2, y5_6, y5_7, y5_8)].length) * (96 : Nat) ≤ (140737488355328 : Nat) ∧ x4.length + [(y5_0, y5_1, y5_2, y5_6, y5_7, y5_8)].length ≤ (140737488355328 : Nat)) then
  k1 (y5_3, x0, y5_4, x2, x3, x4 ++ [(y5_0, y5_1, y5_2, y5_6, y5_7, y5_8)], x5 ++ [x1], x6)
  else none))
  else none)
  (both (bif decide ((x5.length + [x1].length) * (8 : Nat) ≤ (140737488355328 : Nat) ∧ x5.length + [x1].length ≤ (140737488355328 : Nat)) then
  both (bif decide ((x4.length + [(y5_0, y5_1, y5_2, y5_6, y5_7, y5_8)].length) * (96 : Nat) ≤ (140737488355328 : Nat) ∧ x4.length + [(y5_0, y5_1, y5_2, y5_6, y5_7, y5_8)].length ≤ (140737488355328 : Nat)) then
  k1 (y5_3, x0, y5_4, x2, x3, x4 ++ [(y5_0, y5_1, y5_2, y5_6, y5_7, y5_8)], x5 ++ [x1], x6)
  else none)
  (both (bif decide ((x4.length + [(y5_0, y5_1, y5_2, y5_6, y5_7, y5_8)].length) * (96 : Nat) ≤ (140737488355328 : Nat) ∧ x4.length + [(y5_0, y5_1, y5_2, y5_6, y5_7, y5_8)].length ≤ (140737488355328 : Nat)) then
  k1 (y5_3, x0, y5_4, x2, x3, x4 ++ [(y5_0, y5_1, y5_2, y5_6, y5_7, y5_8)], x5 ++ [x1], x6)
  else none)
  (bif decide ((x4.length + [(y5_0, y5_1, y5_2, y5_6, y5_7, y5_8)].length) * (96 : Nat) ≤ (140737488355328 : Nat) ∧ x4.length + [(y5_0, y5_1, y5_2, y5_6, y5_7, y5_8)].length ≤ (140737488355328 : Nat)) then
  k1 (y5_3, x0, y5_4, x2, x3, x4 ++ [(y5_0, y5_1, y5_2, y5_6, y5_7, y5_8)], x5 ++ [x1], x6)
  else none))
  else none)
  (bif decide ((x5.length + [x1].length) * (8 : Nat) ≤ (140737488355328 : Nat) ∧ x5.length + [x1].length ≤ (140737488355328 : Nat)) then
  both (bif decide ((x4.length + [(y5_0, y5_1, y5_2, y5_6, y5_7, y5_8)].length) * (96 : Nat) ≤ (140737488355328 : Nat) ∧ x4.length + [(y5_0, y5_1, y5_2, y5_6, y5_7, y5_8)].length ≤ (140737488355328 : Nat)) then
  k1 (y5_3, x0, y5_4, x2, x3, x4 ++ [(y5_0, y5_1, y5_2, y5_6, y5_7, y5_8)], x5 ++ [x1], x6)
  else none)
  (both (bif decide ((x4.length + [(y5_0, y5_1, y5_2, y5_6, y5_7, y5_8)].length) * (96 : Nat) ≤ (140737488355328 : Nat) ∧ x4.length + [(y5_0, y5_1, y5_2, y5_6, y5_7, y5_8)].length ≤ (140737488355328 : Nat)) then
  k1 (y5_3, x0, y5_4, x2, x3, x4 ++ [(y5_0, y5_1, y5_2, y5_6, y5_7, y5_8)], x5 ++ [x1], x6)
  else none)
  (bif decide ((x4.length + [(y5_0, y5_1, y5_2, y5_6, y5_7, y5_8)].length) * (96 : Nat) ≤ (140737488355328 : Nat) ∧ x4.length + [(y5_0, y5_1, y5_2, y5_6, y5_7, y5_8)].length ≤ (140737488355328 : Nat)) then
  k1 (y5_3, x0, y5_4, x2, x3, x4 ++ [(y5_0, y5_1, y5_2, y5_6, y5_7, y5_8)], x5 ++ [x1], x6)
  else none))
  else none)))))
noncomputable def F_file_reader_header_f32 (fuel : Nat) (x0 : (List Int)) (x1 x2 x3 : Int) (x4 : (List (Int × (Int × (Int × ((List Int) × ((List Bool) × (List Int)))))))) (x5 x6 : (List Int)) (k0 : (Int × (List Int) × Int × Int × Int × (List (Int × (Int × (Int × ((List Int) × ((List Bool) × (List Int))))))) × (List Int) × (List Int)) → Option Ans) (k1 : (Int × (List Int) × Int × Int × Int × (List (Int × (Int × (Int × ((List Int) × ((List Bool) × (List Int))))))) × (List Int) × (List Int)) → Option Ans) : Option Ans := Fg_file_reader_header_f32 fuel (F_file_reader_fail_857 fuel) (F_segment_GetHeader fuel) x0 x1 x2 x3 x4 x5 x6 k0 k1
abbrev YF171_f32 : Type := ((List Int)) → (Int) → (Int) → (Int) → ((List (Int × (Int × (Int × ((List Int) × ((List Bool) × (List Int)))))))) → ((List Int)) → ((List Int)) → ((Int × (List Int) × Int × Int × Int × (List (Int × (Int × (Int × ((List Int) × ((List Bool) × (List Int))))))) × (List Int) × (List Int)) → Option Ans) → ((Int × (List Int) × Int × Int × Int × (List (Int × (Int × (Int × ((List Int) × ((List Bool) × (List Int))))))) × (List Int) × (List Int)) → Option Ans) → Option Ans
theorem F171_f32_eqg (fuel : Nat) (f172_857 : YF172_857) (f202 : YF202) (x0 : (List Int)) (x1 x2 x3 : Int) (x4 : (List (Int × (Int × (Int × ((List Int) × ((List Bool) × (List Int)))))))) (x5 x6 : (List Int)) (k : Ev.Cont) : evalFn tab (Gg171_f32 f172_857 f202) (J171_f32 fuel) kp171_f32 fuel Try.f171 [.c (.ptr 0 0)] [.cells 141 [.sl (.int .u8) x0, .int .i64 x1, .own 1, .own 2, .own 3, .int .i64 x2, .int .i64 x3], .vec 103 (.pair (.int .i64) (.pair (.int .i64) (.pair (.int .i64) (.pair (.sl (.int .i64)) (.pair (.sl .bool) (.sl (.int .u8))))))) x4 false, .vec 3 (.int .i64) x5 false, .vec 3 (.int .i64) x6 false] k = Fg_file_reader_header_f32 fuel f172_857 f202 x0 x1 x2 x3 x4 x5 x6 (fun r => match r with | (r0, r1, r2, r3, r4, r5, r6, r7) => k (.c (.int .i64 r0), [.cells 141 [.sl (.int .u8) r1, .int .i64 r2, .own 1, .own 2, .own 3, .int .i64 r3, .int .i64 r4], .vec 103 (.pair (.int .i64) (.pair (.int .i64) (.pair (.int .i64) (.pair (.sl (.int .i64)) (.pair (.sl .bool) (.sl (.int .u8))))))) r5 false, .vec 3 (.int .i64) r6 false, .vec 3 (.int .i64) r7 false])) (fun r => match r with | (r0, r1, r2, r3, r4, r5, r6, r7) => k (.c (.int .i64 r0), [.cells 141 [.sl (.int .u8) r1, .int .i64 r2, .own 1, .own 2, .own 3, .int .i64 r3, .int .i64 r4], .vec 103 (.pair (.int .i64) (.pair (.int .i64) (.pair (.int .i64) (.pair (.sl (.int .i64)) (.pair (.sl .bool) (.sl (.int .u8))))))) r5 true, .vec 3 (.int .i64) r6 true, .vec 3 (.int .i64) r7 false])) := by
  kernel_rfl
theorem F171_f32_eq (fuel : Nat) (x0 : (List Int)) (x1 x2 x3 : Int) (x4 : (List (Int × (Int × (Int × ((List Int) × ((List Bool) × (List Int)))))))) (x5 x6 : (List Int)) (k : Ev.Cont) : evalFn tab (G171_f32 fuel) (J171_f32 fuel) kp171_f32 fuel Try.f171 [.c (.ptr 0 0)] [.cells 141 [.sl (.int .u8) x0, .int .i64 x1, .own 1, .own 2, .own 3, .int .i64 x2, .int .i64 x3], .vec 103 (.pair (.int .i64) (.pair (.int .i64) (.pair (.int .i64) (.pair (.sl (.int .i64)) (.pair (.sl .bool) (.sl (.int .u8))))))) x4 false, .vec 3 (.int .i64) x5 false, .vec 3 (.int .i64) x6 false] k = F_file_reader_header_f32 fuel x0 x1 x2 x3 x4 x5 x6 (fun r => match r with | (r0, r1, r2, r3, r4, r5, r6, r7) => k (.c (.int .i64 r0), [.cells 141 [.sl (.int .u8) r1, .int .i64 r2, .own 1, .own 2, .own 3, .int .i64 r3, .int .i64 r4], .vec 103 (.pair (.int .i64) (.pair (.int .i64) (.pair (.int .i64) (.pair (.sl (.int .i64)) (.pair (.sl .bool) (.sl (.int .u8))))))) r5 false, .vec 3 (.int .i64) r6 false, .vec 3 (.int .i64) r7 false])) (fun r => match r with | (r0, r1, r2, r3, r4, r5, r6, r7) => k (.c (.int .i64 r0), [.cells 141 [.sl (.int .u8) r1, .int .i64 r2, .own 1, .own 2, .own 3, .int .i64 r3, .int .i64 r4], .vec 103 (.pair (.int .i64) (.pair (.int .i64) (.pair (.int .i64) (.pair (.sl (.int .i64)) (.pair (.sl .bool) (.sl (.int .u8))))))) r5 true, .vec 3 (.int .i64) r6 true, .vec 3 (.int .i64) r7 false])) :=
  F171_f32_eqg fuel (F_file_reader_fail_857 fuel) (F_segment_GetHeader fuel) x0 x1 x2 x3 x4 x5 x6 k
theorem hG171_f32 (fuel : Nat) : GOK Try.prog (G171_f32 fuel) :=
  gok_cons ⟨ok172_857 fuel, enters_of Try.func172 (by kernel_rfl) rfl⟩ <|
  gok_cons ⟨ok202 fuel, enters_of Try.func202 (by kernel_rfl) rfl⟩ <|
  gok_nil
theorem fok171_f32 (fuel : Nat) : FnOK Try.prog 171 (evalFn tab (G171_f32 fuel) (J171_f32 fuel) kp171_f32 fuel Try.f171) :=
  fn_ok tab_ok (hG171_f32 fuel) mixed Try.func171 (c := (Try.f171.body).getD .skip) rfl (fun q hq => by
    rw [(by kernel_rfl : obl (J171_f32 fuel) ((Try.f171.body).getD .skip) = [])] at hq
    cases hq)
noncomputable def mt171_f32 : List Ev.SV → List Ev.Ob → Bool := fun args objs => match args, objs with
 | [.c (.ptr q0 q1)], [.cells q2 [.sl (.int .u8) _, .int .i64 _, .own q3, .own q4, .own q5, .int .i64 _, .int .i64 _], .vec q6 (.pair (.int .i64) (.pair (.int .i64) (.pair (.int .i64) (.pair (.sl (.int .i64)) (.pair (.sl .bool) (.sl (.int .u8))))))) _ false, .vec q7 (.int .i64) _ false, .vec q8 (.int .i64) _ false] => Nat.beq q0 0 && Nat.beq q1 0 && Nat.beq q2 141 && Nat.beq q3 1 && Nat.beq q4 2 && Nat.beq q5 3 && Nat.beq q6 103 && Nat.beq q7 3 && Nat.beq q8 3
 | _, _ => false
noncomputable def spg171_f32 (F : YF171_f32) : Ev.Spec := fun args objs k => match args, objs with
 | [.c (.ptr q0 q1)], [.cells q2 [.sl (.int .u8) x0, .int .i64 x1, .own q3, .own q4, .own q5, .int .i64 x2, .int .i64 x3], .vec q6 (.pair (.int .i64) (.pair (.int .i64) (.pair (.int .i64) (.pair (.sl (.int .i64)) (.pair (.sl .bool) (.sl (.int .u8))))))) x4 false, .vec q7 (.int .i64) x5 false, .vec q8 (.int .i64) x6 false] => bif Nat.beq q0 0 && Nat.beq q1 0 && Nat.beq q2 141 && Nat.beq q3 1 && Nat.beq q4 2 && Nat.beq q5 3 && Nat.beq q6 103 && Nat.beq q7 3 && Nat.beq q8 3 then F x0 x1 x2 x3 x4 x5 x6 (fun r => match r with | (r0, r1, r2, r3, r4, r5, r6, r7) => k (.c (.int .i64 r0), [.cells 141 [.sl (.int .u8) r1, .int .i64 r2, .own 1, .own 2, .own 3, .int .i64 r3, .int .i64 r4], .vec 103 (.pair (.int .i64) (.pair (.int .i64) (.pair (.int .i64) (.pair (.sl (.int .i64)) (.pair (.sl .bool) (.sl (.int .u8))))))) r5 false, .vec 3 (.int .i64) r6 false, .vec 3 (.int .i64) r7 false])) (fun r => match r with | (r0, r1, r2, r3, r4, r5, r6, r7) => k (.c (.int .i64 r0), [.cells 141 [.sl (.int .u8) r1, .int .i64 r2, .own 1, .own 2, .own 3, .int .i64 r3, .int .i64 r4], .vec 103 (.pair (.int .i64) (.pair (.int .i64) (.pair (.int .i64) (.pair (.sl (.int .i64)) (.pair (.sl .bool) (.sl (.int .u8))))))) r5 true, .vec 3 (.int .i64) r6 true, .vec 3 (.int .i64) r7 false])) else none
 | _, _ => none
noncomputable def spec171_f32 (fuel : Nat) : Ev.Spec := spg171_f32 (F_file_reader_header_f32 fuel)
theorem ok171_f32 (fuel : Nat) : FnOK Try.prog 171 (spec171_f32 fuel) := by
  intro args objs kk r h
  unfold spec171_f32 spg171_f32 at h
  split at h
  · skip
    obtain ⟨hb, h⟩ := cond_some' h
    simp only [Bool.and_eq_true, Nat.beq_eq, decide_eq_true_eq] at hb
    obtain ⟨⟨⟨⟨⟨⟨⟨⟨rfl, rfl⟩, rfl⟩, rfl⟩, rfl⟩, rfl⟩, rfl⟩, rfl⟩, rfl⟩ := hb
    exact fok171_f32 fuel _ _ kk r ((F171_f32_eq fuel _ _ _ _ _ _ _ kk).trans h)
  · cases h
end Go.Proofs.Ytihfgpfofmjbaaa

set_option linter.unusedVariables false
set_option linter.unusedSimpArgs false
set_option maxRecDepth 100000
set_option maxHeartbeats 2000000
namespace Go.Proofs.Ytihfgpfofmjbaaa
open Go Ev
def kp208_f32 (i : Nat) : Option (List Nat) := Ev.look i [(200001, [0]), (200003, [0])]
noncomputable def Gg208_f32 (f172_857 : YF172_857) (f : Nat) : Option Ev.Spec := Ev.look f [(172, spg172_857 f172_857)]
noncomputable def G208_f32 (fuel : Nat) : Nat → Option Ev.Spec := Gg208_f32 (F_file_reader_fail_857 fuel)
noncomputable def J208_f32 (fuel : Nat) (i : Nat) : Option Ev.Blk := Ev.look i []
noncomputable def Fg_file_reader_more_f32 (fuel : Nat) (f172_857 : YF172_857) (x0 : (List Int)) (x1 x2 x3 : Int) (x4 : (List (Int × (Int × (Int × ((List Int) × ((List Bool) × (List Int)))))))) (x5 x6 : (List Int)) (k0 : (Bool × (List Int) × Int × Int × Int × (List (Int × (Int × (Int × ((List Int) × ((List Bool) × (List Int))))))) × (List Int) × (List Int)) → Option Ans) : Option Ans :=
  bif x3 != (0 : Int) then
  k0 (false, x0, x1, x2, x3, x4, x5, x6)
  else
  bif decide ((↑x4.length : Int) > (0 : Int)) then
  bif decide ((0 : Int) ≤ IntKind.i64.wrap ((↑x4.length : Int) - (1 : Int)) ∧ IntKind.i64.wrap ((↑x4.length : Int) - (1 : Int)) < (↑x4.length : Int)) then
  bif (x4.getD (IntKind.i64.wrap ((↑x4.length : Int) - (1 : Int))).toNat ((0 : Int), (0 : Int), (0 : Int), [], [], [])).snd.fst == (9 : Int) then
  k0 (false, x0, x1, x2, x3, x4, x5, x6)
  else
  bif x1 == (↑x0.length : Int) then
  bif decide ((↑x4.length : Int) < (100 : Int)) then
  (f172_857 (x1) ((60 : Int)) (x0) (x1) (x2) (x3) (x4) (x5) (x6)
  (fun (y8_0, y8_1, y8_2, y8_3, y8_4, y8_5, y8_6) =>
  k0 (false, y8_0, y8_1, y8_2, y8_3, y8_4, y8_5, y8_6)))
  else
  k0 (true, x0, x1, x2, x3, x4, x5, x6)
  else
  k0 (true, x0, x1, x2, x3, x4, x5, x6)
  else none
  else
  bif x1 == (↑x0.length : Int) then
  bif decide ((↑x4.length : Int) < (100 : Int)) then
  (f172_857 (x1) ((60 : Int)) (x0) (x1) (x2) (x3) (x4) (x5) (x6)
  (fun (y6_0, y6_1, y6_2, y6_3, y6_4, y6_5, y6_6) =>
  k0 (false, y6_0, y6_1, y6_2, y6_3, y6_4, y6_5, y6_6)))
  else
  k0 (true, x0, x1, x2, x3, x4, x5, x6)
  else
  k0 (true, x0, x1, x2, x3, x4, x5, x6)
noncomputable def F_file_reader_more_f32 (fuel : Nat) (x0 : (List Int)) (x1 x2 x3 : Int) (x4 : (List (Int × (Int × (Int × ((List Int) × ((List Bool) × (List Int)))))))) (x5 x6 : (List Int)) (k0 : (Bool × (List Int) × Int × Int × Int × (List (Int × (Int × (Int × ((List Int) × ((List Bool) × (List Int))))))) × (List Int) × (List Int)) → Option Ans) : Option Ans := Fg_file_reader_more_f32 fuel (F_file_reader_fail_857 fuel) x0 x1 x2 x3 x4 x5 x6 k0
abbrev YF208_f32 : Type := ((List Int)) → (Int) → (Int) → (Int) → ((List (Int × (Int × (Int × ((List Int) × ((List Bool) × (List Int)))))))) → ((List Int)) → ((List Int)) → ((Bool × (List Int) × Int × Int × Int × (List (Int × (Int × (Int × ((List Int) × ((List Bool) × (List Int))))))) × (List Int) × (List Int)) → Option Ans) → Option Ans
theorem F208_f32_eqg (fuel : Nat) (f172_857 : YF172_857) (x0 : (List Int)) (x1 x2 x3 : Int) (x4 : (List (Int × (Int × (Int × ((List Int) × ((List Bool) × (List Int)))))))) (x5 x6 : (List Int)) (k : Ev.Cont) : evalFn tab (Gg208_f32 f172_857) (J208_f32 fuel) kp208_f32 fuel Try.f208 [.c (.ptr 0 0)] [.cells 141 [.sl (.int .u8) x0, .int .i64 x1, .own 1, .own 2, .own 3, .int .i64 x2, .int .i64 x3], .vec 103 (.pair (.int .i64) (.pair (.int .i64) (.pair (.int .i64) (.pair (.sl (.int .i64)) (.pair (.sl .bool) (.sl (.int .u8))))))) x4 false, .vec 3 (.int .i64) x5 false, .vec 3 (.int .i64) x6 false] k = Fg_file_reader_more_f32 fuel f172_857 x0 x1 x2 x3 x4 x5 x6 (fun r => match r with | (r0, r1, r2, r3, r4, r5, r6, r7) => k (.c (.bool r0), [.cells 141 [.sl (.int .u8) r1, .int .i64 r2, .own 1, .own 2, .own 3, .int .i64 r3, .int .i64 r4], .vec 103 (.pair (.int .i64) (.pair (.int .i64) (.pair (.int .i64) (.pair (.sl (.int .i64)) (.pair (.sl .bool) (.sl (.int .u8))))))) r5 false, .vec 3 (.int .i64) r6 false, .vec 3 (.int .i64) r7 false])) := by
  kernel_rfl
theorem F208_f32_eq (fuel : Nat) (x0 : (List Int)) (x1 x2 x3 : Int) (x4 : (List (Int × (Int × (Int × ((List Int) × ((List Bool) × (List Int)))))))) (x5 x6 : (List Int)) (k : Ev.Cont) : evalFn tab (G208_f32 fuel) (J208_f32 fuel) kp208_f32 fuel Try.f208 [.c (.ptr 0 0)] [.cells 141 [.sl (.int .u8) x0, .int .i64 x1, .own 1, .own 2, .own 3, .int .i64 x2, .int .i64 x3], .vec 103 (.pair (.int .i64) (.pair (.int .i64) (.pair (.int .i64) (.pair (.sl (.int .i64)) (.pair (.sl .bool) (.sl (.int .u8))))))) x4 false, .vec 3 (.int .i64) x5 false, .vec 3 (.int .i64) x6 false] k = F_file_reader_more_f32 fuel x0 x1 x2 x3 x4 x5 x6 (fun r => match r with | (r0, r1, r2, r3, r4, r5, r6, r7) => k (.c (.bool r0), [.cells 141 [.sl (.int .u8) r1, .int .i64 r2, .own 1, .own 2, .own 3, .int .i64 r3, .int .i64 r4], .vec 103 (.pair (.int .i64) (.pair (.int .i64) (.pair (.int .i64) (.pair (.sl (.int .i64)) (.pair (.sl .bool) (.sl (.int .u8))))))) r5 false, .vec 3 (.int .i64) r6 false, .vec 3 (.int .i64) r7 false])) :=
  F208_f32_eqg fuel (F_file_reader_fail_857 fuel) x0 x1 x2 x3 x4 x5 x6 k
theorem hG208_f32 (fuel : Nat) : GOK Try.prog (G208_f32 fuel) :=
  gok_cons ⟨ok172_857 fuel, enters_of Try.func172 (by kernel_rfl) rfl⟩ <|
  gok_nil
theorem fok208_f32 (fuel : Nat) : FnOK Try.prog 208 (evalFn tab (G208_f32 fuel) (J208_f32 fuel) kp208_f32 fuel Try.f208) :=
  fn_ok tab_ok (hG208_f32 fuel) mixed Try.func208 (c := (Try.f208.body).getD .skip) rfl (fun q hq => by
    rw [(by kernel_rfl : obl (J208_f32 fuel) ((Try.f208.body).getD .skip) = [])] at hq
    cases hq)
noncomputable def mt208_f32 : List Ev.SV → List Ev.Ob → Bool := fun args objs => match args, objs with
 | [.c (.ptr q0 q1)], [.cells q2 [.sl (.int .u8) _, .int .i64 _, .own q3, .own q4, .own q5, .int .i64 _, .int .i64 _], .vec q6 (.pair (.int .i64) (.pair (.int .i64) (.pair (.int .i64) (.pair (.sl (.int .i64)) (.pair (.sl .bool) (.sl (.int .u8))))))) _ false, .vec q7 (.int .i64) _ false, .vec q8 (.int .i64) _ false] => Nat.beq q0 0 && Nat.beq q1 0 && Nat.beq q2 141 && Nat.beq q3 1 && Nat.beq q4 2 && Nat.beq q5 3 && Nat.beq q6 103 && Nat.beq q7 3 && Nat.beq q8 3
 | _, _ => false
noncomputable def spg208_f32 (F : YF208_f32) : Ev.Spec := fun args objs k => match args, objs with
 | [.c (.ptr q0 q1)], [.cells q2 [.sl (.int .u8) x0, .int .i64 x1, .own q3, .own q4, .own q5, .int .i64 x2, .int .i64 x3], .vec q6 (.pair (.int .i64) (.pair (.int .i64) (.pair (.int .i64) (.pair (.sl (.int .i64)) (.pair (.sl .bool) (.sl (.int .u8))))))) x4 false, .vec q7 (.int .i64) x5 false, .vec q8 (.int .i64) x6 false] => bif Nat.beq q0 0 && Nat.beq q1 0 && Nat.beq q2 141 && Nat.beq q3 1 && Nat.beq q4 2 && Nat.beq q5 3 && Nat.beq q6 103 && Nat.beq q7 3 && Nat.beq q8 3 then F x0 x1 x2 x3 x4 x5 x6 (fun r => match r with | (r0, r1, r2, r3, r4, r5, r6, r7) => k (.c (.bool r0), [.cells 141 [.sl (.int .u8) r1, .int .i64 r2, .own 1, .own 2, .own 3, .int .i64 r3, .int .i64 r4], .vec 103 (.pair (.int .i64) (.pair (.int .i64) (.pair (.int .i64) (.pair (.sl (.int .i64)) (.pair (.sl .bool) (.sl (.int .u8))))))) r5 false, .vec 3 (.int .i64) r6 false, .vec 3 (.int .i64) r7 false])) else none
 | _, _ => none
noncomputable def spec208_f32 (fuel : Nat) : Ev.Spec := spg208_f32 (F_file_reader_more_f32 fuel)
theorem ok208_f32 (fuel : Nat) : FnOK Try.prog 208 (spec208_f32 fuel) := by
  intro args objs kk r h
  unfold spec208_f32 spg208_f32 at h
  split at h
  · skip
    obtain ⟨hb, h⟩ := cond_some' h
    simp only [Bool.and_eq_true, Nat.beq_eq, decide_eq_true_eq] at hb
    obtain ⟨⟨⟨⟨⟨⟨⟨⟨rfl, rfl⟩, rfl⟩, rfl⟩, rfl⟩, rfl⟩, rfl⟩, rfl⟩, rfl⟩ := hb
    exact fok208_f32 fuel _ _ kk r ((F208_f32_eq fuel _ _ _ _ _ _ _ kk).trans h)
  · cases h
end Go.Proofs.Ytihfgpfofmjbaaa

set_option linter.unusedVariables false
set_option linter.unusedSimpArgs false
set_option maxRecDepth 100000
set_option maxHeartbeats 2000000
namespace Go.Proofs.Ytihfgpfofmjbaaa
open Go Ev
def kp191_f32 (i : Nat) : Option (List Nat) := Ev.look i [(1, [0, 2, 1000001, 1000002]), (4, [0, 12, 13, 14, 1000003]), (100000, [0, 2]), (100002, []), (400000, []), (400002, [])]
noncomputable def Gg191_f32 (f171_f32 : YF171_f32) (f173_857 : YF173_857) (f208_f32 : YF208_f32) (f : Nat) : Option Ev.Spec := Ev.look f [(171, spg171_f32 f171_f32), (173, spg173_857 f173_857), (208, spg208_f32 f208_f32)]
noncomputable def G191_f32 (fuel : Nat) : Nat → Option Ev.Spec := Gg191_f32 (F_file_reader_header_f32 fuel) (F_file_reader_data_857 fuel) (F_file_reader_more_f32 fuel)
noncomputable def Sg_file_reader_random_f32_0 (fuel : Nat) (f171_f32 : YF171_f32) (f173_857 : YF173_857) (f208_f32 : YF208_f32) (x0 : (List Int)) (x1 x2 x3 : Int) (x4 : (List (Int × (Int × (Int × ((List Int) × ((List Bool) × (List Int)))))))) (x5 x6 x7 : (List Int)) (c : ((List Int) × Int × Int × Int × (List (Int × (Int × (Int × ((List Int) × ((List Bool) × (List Int))))))) × (List Int) × (List Int) × (List Int)) → Option Ans) (B : ((List Int) × Int × Int × Int × (List (Int × (Int × (Int × ((List Int) × ((List Bool) × (List Int))))))) × (List Int) × (List Int) × (List Int) → Option Ans)) : Option Ans := match B with
 | b =>
  (f208_f32 (x0) (x1) (x2) (x3) (x4) (x5) (x6)
  (fun (y2_0, y2_1, y2_2, y2_3, y2_4, y2_5, y2_6, y2_7) =>
  bif y2_0 then
  (f171_f32 (y2_1) (y2_2) (y2_3) (y2_4) (y2_5) (y2_6) (y2_7)
  (fun (y7_0, y7_1, y7_2, y7_3, y7_4, y7_5, y7_6, y7_7) =>
  bif decide ((x7.length + [y7_0].length) * (8 : Nat) ≤ (140737488355328 : Nat) ∧ x7.length + [y7_0].length ≤ (140737488355328 : Nat)) then
  c (y7_1, y7_2, y7_3, y7_4, y7_5, y7_6, y7_7, x7 ++ [y7_0])
  else none)
  (fun (y7_0, y7_1, y7_2, y7_3, y7_4, y7_5, y7_6, y7_7) =>
  bif decide ((x7.length + [y7_0].length) * (8 : Nat) ≤ (140737488355328 : Nat) ∧ x7.length + [y7_0].length ≤ (140737488355328 : Nat)) then
  c (y7_1, y7_2, y7_3, y7_4, y7_5, y7_6, y7_7, x7 ++ [y7_0])
  else none))
  else
  b (y2_1, y2_2, y2_3, y2_4, y2_5, y2_6, y2_7, x7)))
noncomputable def S_file_reader_random_f32_0 (fuel : Nat) (v : (List Int) × Int × Int × Int × (List (Int × (Int × (Int × ((List Int) × ((List Bool) × (List Int))))))) × (List Int) × (List Int) × (List Int)) (c : ((List Int) × Int × Int × Int × (List (Int × (Int × (Int × ((List Int) × ((List Bool) × (List Int))))))) × (List Int) × (List Int) × (List Int)) → Option Ans) (B : ((List Int) × Int × Int × Int × (List (Int × (Int × (Int × ((List Int) × ((List Bool) × (List Int))))))) × (List Int) × (List Int) × (List Int) → Option Ans)) : Option Ans := match v with
 | (x0, x1, x2, x3, x4, x5, x6, x7) => Sg_file_reader_random_f32_0 fuel (F_file_reader_header_f32 fuel) (F_file_reader_data_857 fuel) (F_file_reader_more_f32 fuel) x0 x1 x2 x3 x4 x5 x6 x7 c B
noncomputable def L_file_reader_random_f32_0 (fuel : Nat) (v : (List Int) × Int × Int × Int × (List (Int × (Int × (Int × ((List Int) × ((List Bool) × (List Int))))))) × (List Int) × (List Int) × (List Int)) (b : ((List Int) × Int × Int × Int × (List (Int × (Int × (Int × ((List Int) × ((List Bool) × (List Int))))))) × (List Int) × (List Int) × (List Int) → Option Ans)) : Option Ans := iter (S_file_reader_random_f32_0 fuel) fuel v b
noncomputable def J191_f32_0 (fuel : Nat) (i : Nat) : Option Ev.Blk := Ev.look i []
noncomputable def T191_f32_0 (v : (List Int) × Int × Int × Int × (List (Int × (Int × (Int × ((List Int) × ((List Bool) × (List Int))))))) × (List Int) × (List Int) × (List Int)) : Ev.St := match v with | (x0, x1, x2, x3, x4, x5, x6, x7) => ⟨[(0, .c (.ptr 0 0)), (2, .c (.own 4))], [(0, .cells 141 [.sl (.int .u8) x0, .int .i64 x1, .own 1, .own 2, .own 3, .int .i64 x2, .int .i64 x3]), (1, .vec 103 (.pair (.int .i64) (.pair (.int .i64) (.pair (.int .i64) (.pair (.sl (.int .i64)) (.pair (.sl .bool) (.sl (.int .u8))))))) x4 true), (2, .vec 3 (.int .i64) x5 true), (3, .vec 3 (.int .i64) x6 false), (4, .vec 3 (.int .i64) x7 true)], 5, 4⟩
noncomputable def E191_f32_0 (K : Ev.Ex → Ev.St → Option Ans) : ((List Int) × Int × Int × Int × (List (Int × (Int × (Int × ((List Int) × ((List Bool) × (List Int))))))) × (List Int) × (List Int) × (List Int) → Option Ans) := (fun v => match v with | (x0, x1, x2, x3, x4, x5, x6, x7) => K .normal ⟨[(0, .c (.ptr 0 0)), (2, .c (.own 4))], [(0, .cells 141 [.sl (.int .u8) x0, .int .i64 x1, .own 1, .own 2, .own 3, .int .i64 x2, .int .i64 x3]), (1, .vec 103 (.pair (.int .i64) (.pair (.int .i64) (.pair (.int .i64) (.pair (.sl (.int .i64)) (.pair (.sl .bool) (.sl (.int .u8))))))) x4 true), (2, .vec 3 (.int .i64) x5 true), (3, .vec 3 (.int .i64) x6 false), (4, .vec 3 (.int .i64) x7 true)], 5, 4⟩)
theorem S191_f32_0_okg (fuel : Nat) (f171_f32 : YF171_f32) (f173_857 : YF173_857) (f208_f32 : YF208_f32) (R : Ev.St → Option Ans) (K : Ev.Ex → Ev.St → Option Ans) (x0 : (List Int)) (x1 x2 x3 : Int) (x4 : (List (Int × (Int × (Int × ((List Int) × ((List Bool) × (List Int)))))))) (x5 x6 x7 : (List Int)) : evalCode tab (Gg191_f32 f171_f32 f173_857 f208_f32) (J191_f32_0 fuel) kp191_f32 fuel (bodyOf 0 Try.f191) (T191_f32_0 (x0, x1, x2, x3, x4, x5, x6, x7)) (lc kp191_f32 1 0 R K) = Sg_file_reader_random_f32_0 fuel f171_f32 f173_857 f208_f32 x0 x1 x2 x3 x4 x5 x6 x7 (fun v => R (T191_f32_0 v)) (E191_f32_0 K) := by
  kernel_rfl
theorem S191_f32_0_ok (fuel : Nat) (R : Ev.St → Option Ans) (K : Ev.Ex → Ev.St → Option Ans) (x0 : (List Int)) (x1 x2 x3 : Int) (x4 : (List (Int × (Int × (Int × ((List Int) × ((List Bool) × (List Int)))))))) (x5 x6 x7 : (List Int)) : evalCode tab (G191_f32 fuel) (J191_f32_0 fuel) kp191_f32 fuel (bodyOf 0 Try.f191) (T191_f32_0 (x0, x1, x2, x3, x4, x5, x6, x7)) (lc kp191_f32 1 0 R K) = S_file_reader_random_f32_0 fuel (x0, x1, x2, x3, x4, x5, x6, x7) (fun v => R (T191_f32_0 v)) (E191_f32_0 K) :=
  S191_f32_0_okg fuel (F_file_reader_header_f32 fuel) (F_file_reader_data_857 fuel) (F_file_reader_more_f32 fuel) R K x0 x1 x2 x3 x4 x5 x6 x7
noncomputable def B191_f32_0 (fuel : Nat) : Ev.Blk := fun st K => match canonO (kp191_f32 1) st with
 | some s => (match s with
 | ⟨[(q0, .c (.ptr q1 q2)), (q3, .c (.own q4))], [(q5, .cells q6 [.sl (.int .u8) x0, .int .i64 x1, .own q7, .own q8, .own q9, .int .i64 x2, .int .i64 x3]), (q10, .vec q11 (.pair (.int .i64) (.pair (.int .i64) (.pair (.int .i64) (.pair (.sl (.int .i64)) (.pair (.sl .bool) (.sl (.int .u8))))))) x4 true), (q12, .vec q13 (.int .i64) x5 true), (q14, .vec q15 (.int .i64) x6 false), (q16, .vec q17 (.int .i64) x7 true)], q18, q19⟩ => bif Nat.beq q0 0 && Nat.beq q1 0 && Nat.beq q2 0 && Nat.beq q3 2 && Nat.beq q4 4 && Nat.beq q5 0 && Nat.beq q6 141 && Nat.beq q7 1 && Nat.beq q8 2 && Nat.beq q9 3 && Nat.beq q10 1 && Nat.beq q11 103 && Nat.beq q12 2 && Nat.beq q13 3 && Nat.beq q14 3 && Nat.beq q15 3 && Nat.beq q16 4 && Nat.beq q17 3 && Nat.beq q18 5 && Nat.beq q19 4 then iter (S_file_reader_random_f32_0 fuel) fuel (x0, x1, x2, x3, x4, x5, x6, x7) (E191_f32_0 K) else none
 | _ => none)
 | none => none
theorem B191_f32_0_ok (fuel : Nat) (st : Ev.St) (K : Ev.Ex → Ev.St → Option Ans) (r : Ans) (h : B191_f32_0 fuel st K = some r) : evalCode tab (G191_f32 fuel) (J191_f32_0 fuel) kp191_f32 fuel (.block 0 (.loop (bodyOf 0 Try.f191))) st K = some r := by
  unfold B191_f32_0 at h
  split at h
  · rename_i s hs
    split at h
    · skip
      obtain ⟨hb, h⟩ := cond_some' h
      simp only [Bool.and_eq_true, Nat.beq_eq, decide_eq_true_eq] at hb
      obtain ⟨⟨⟨⟨⟨⟨⟨⟨⟨⟨⟨⟨⟨⟨⟨⟨⟨⟨⟨rfl, rfl⟩, rfl⟩, rfl⟩, rfl⟩, rfl⟩, rfl⟩, rfl⟩, rfl⟩, rfl⟩, rfl⟩, rfl⟩, rfl⟩, rfl⟩, rfl⟩, rfl⟩, rfl⟩, rfl⟩, rfl⟩, rfl⟩ := hb
      exact blk_loop (S := T191_f32_0) (ks := E191_f32_0) (step := S_file_reader_random_f32_0 fuel) (v := (_, _, _, _, _, _, _, _)) (by kernel_rfl) (by kernel_rfl) (fun R K v => by obtain ⟨x0, x1, x2, x3, x4, x5, x6, x7⟩ := v; exact S191_f32_0_ok fuel R K x0 x1 x2 x3 x4 x5 x6 x7) hs h
    · cases h
  · cases h
noncomputable def Sg_file_reader_random_f32_2 (fuel : Nat) (f171_f32 : YF171_f32) (f173_857 : YF173_857) (f208_f32 : YF208_f32) (x0 x1 : Int) (x2 : (List Int)) (x3 x4 x5 : Int) (x6 : (List (Int × (Int × (Int × ((List Int) × ((List Bool) × (List Int)))))))) (x7 x8 x9 : (List Int)) (c : (Int × Int × (List Int) × Int × Int × Int × (List (Int × (Int × (Int × ((List Int) × ((List Bool) × (List Int))))))) × (List Int) × (List Int) × (List Int)) → Option Ans) (B : ((List Int) × Int × Int × Int × (List (Int × (Int × (Int × ((List Int) × ((List Bool) × (List Int))))))) × (List Int) × (List Int) → Option Ans)) : Option Ans := match B with
 | b =>
  bif decide (x1 < x0) then
  bif decide ((0 : Int) ≤ x1 ∧ x1 < (↑x9.length : Int)) then
  (f173_857 (x1) (x9.getD x1.toNat (0 : Int)) (x2) (x3) (x4) (x5) (x6) (x7) (x8)
  (fun (y4_0, y4_1, y4_2, y4_3, y4_4, y4_5, y4_6) =>
  c (x0, IntKind.i64.wrap (x1 + (1 : Int)), y4_0, y4_1, y4_2, y4_3, y4_4, y4_5, y4_6, x9))
  (fun (y4_0, y4_1, y4_2, y4_3, y4_4, y4_5, y4_6) =>
  c (x0, IntKind.i64.wrap (x1 + (1 : Int)), y4_0, y4_1, y4_2, y4_3, y4_4, y4_5, y4_6, x9)))
  else none
  else
  b (x2, x3, x4, x5, x6, x7, x8)
noncomputable def S_file_reader_random_f32_2 (fuel : Nat) (v : Int × Int × (List Int) × Int × Int × Int × (List (Int × (Int × (Int × ((List Int) × ((List Bool) × (List Int))))))) × (List Int) × (List Int) × (List Int)) (c : (Int × Int × (List Int) × Int × Int × Int × (List (Int × (Int × (Int × ((List Int) × ((List Bool) × (List Int))))))) × (List Int) × (List Int) × (List Int)) → Option Ans) (B : ((List Int) × Int × Int × Int × (List (Int × (Int × (Int × ((List Int) × ((List Bool) × (List Int))))))) × (List Int) × (List Int) → Option Ans)) : Option Ans := match v with
 | (x0, x1, x2, x3, x4, x5, x6, x7, x8, x9) => Sg_file_reader_random_f32_2 fuel (F_file_reader_header_f32 fuel) (F_file_reader_data_857 fuel) (F_file_reader_more_f32 fuel) x0 x1 x2 x3 x4 x5 x6 x7 x8 x9 c B
noncomputable def L_file_reader_random_f32_2 (fuel : Nat) (v : Int × Int × (List Int) × Int × Int × Int × (List (Int × (Int × (Int × ((List Int) × ((List Bool) × (List Int))))))) × (List Int) × (List Int) × (List Int)) (b : ((List Int) × Int × Int × Int × (List (Int × (Int × (Int × ((List Int) × ((List Bool) × (List Int))))))) × (List Int) × (List Int) → Option Ans)) : Option Ans := iter (S_file_reader_random_f32_2 fuel) fuel v b
noncomputable def J191_f32_2 (fuel : Nat) (i : Nat) : Option Ev.Blk := Ev.look i [(100000, B191_f32_0 fuel)]
noncomputable def T191_f32_2 (v : Int × Int × (List Int) × Int × Int × Int × (List (Int × (Int × (Int × ((List Int) × ((List Bool) × (List Int))))))) × (List Int) × (List Int) × (List Int)) : Ev.St := match v with | (x0, x1, x2, x3, x4, x5, x6, x7, x8, x9) => ⟨[(0, .c (.ptr 0 0)), (12, .c (.own 4)), (13, .c (.int .i64 x0)), (14, .c (.int .i64 x1))], [(0, .cells 141 [.sl (.int .u8) x2, .int .i64 x3, .own 1, .own 2, .own 3, .int .i64 x4, .int .i64 x5]), (1, .vec 103 (.pair (.int .i64) (.pair (.int .i64) (.pair (.int .i64) (.pair (.sl (.int .i64)) (.pair (.sl .bool) (.sl (.int .u8))))))) x6 true), (2, .vec 3 (.int .i64) x7 true), (3, .vec 3 (.int .i64) x8 true), (4, .vec 3 (.int .i64) x9 true)], 5, 4⟩
noncomputable def E191_f32_2 (K : Ev.Ex → Ev.St → Option Ans) : ((List Int) × Int × Int × Int × (List (Int × (Int × (Int × ((List Int) × ((List Bool) × (List Int))))))) × (List Int) × (List Int) → Option Ans) := (fun v => match v with | (x0, x1, x2, x3, x4, x5, x6) => K .normal ⟨[], [(0, .cells 141 [.sl (.int .u8) x0, .int .i64 x1, .own 1, .own 2, .own 3, .int .i64 x2, .int .i64 x3]), (1, .vec 103 (.pair (.int .i64) (.pair (.int .i64) (.pair (.int .i64) (.pair (.sl (.int .i64)) (.pair (.sl .bool) (.sl (.int .u8))))))) x4 true), (2, .vec 3 (.int .i64) x5 true), (3, .vec 3 (.int .i64) x6 true)], 4, 4⟩)
theorem S191_f32_2_okg (fuel : Nat) (f171_f32 : YF171_f32) (f173_857 : YF173_857) (f208_f32 : YF208_f32) (R : Ev.St → Option Ans) (K : Ev.Ex → Ev.St → Option Ans) (x0 x1 : Int) (x2 : (List Int)) (x3 x4 x5 : Int) (x6 : (List (Int × (Int × (Int × ((List Int) × ((List Bool) × (List Int)))))))) (x7 x8 x9 : (List Int)) : evalCode tab (Gg191_f32 f171_f32 f173_857 f208_f32) (J191_f32_2 fuel) kp191_f32 fuel (bodyOf 2 Try.f191) (T191_f32_2 (x0, x1, x2, x3, x4, x5, x6, x7, x8, x9)) (lc kp191_f32 4 2 R K) = Sg_file_reader_random_f32_2 fuel f171_f32 f173_857 f208_f32 x0 x1 x2 x3 x4 x5 x6 x7 x8 x9 (fun v => R (T191_f32_2 v)) (E191_f32_2 K) := by
  kernel_rfl
theorem S191_f32_2_ok (fuel : Nat) (R : Ev.St → Option Ans) (K : Ev.Ex → Ev.St → Option Ans) (x0 x1 : Int) (x2 : (List Int)) (x3 x4 x5 : Int) (x6 : (List (Int × (Int × (Int × ((List Int) × ((List Bool) × (List Int)))))))) (x7 x8 x9 : (List Int)) : evalCode tab (G191_f32 fuel) (J191_f32_2 fuel) kp191_f32 fuel (bodyOf 2 Try.f191) (T191_f32_2 (x0, x1, x2, x3, x4, x5, x6, x7, x8, x9)) (lc kp191_f32 4 2 R K) = S_file_reader_random_f32_2 fuel (x0, x1, x2, x3, x4, x5, x6, x7, x8, x9) (fun v => R (T191_f32_2 v)) (E191_f32_2 K) :=
  S191_f32_2_okg fuel (F_file_reader_header_f32 fuel) (F_file_reader_data_857 fuel) (F_file_reader_more_f32 fuel) R K x0 x1 x2 x3 x4 x5 x6 x7 x8 x9
noncomputable def B191_f32_2 (fuel : Nat) : Ev.Blk := fun st K => match canonO (kp191_f32 4) st with
 | some s => (match s with
 | ⟨[(q0, .c (.ptr q1 q2)), (q3, .c (.own q4)), (q5, .c (.int .i64 x0)), (q6, .c (.int .i64 x1))], [(q7, .cells q8 [.sl (.int .u8) x2, .int .i64 x3, .own q9, .own q10, .own q11, .int .i64 x4, .int .i64 x5]), (q12, .vec q13 (.pair (.int .i64) (.pair (.int .i64) (.pair (.int .i64) (.pair (.sl (.int .i64)) (.pair (.sl .bool) (.sl (.int .u8))))))) x6 true), (q14, .vec q15 (.int .i64) x7 true), (q16, .vec q17 (.int .i64) x8 true), (q18, .vec q19 (.int .i64) x9 true)], q20, q21⟩ => bif Nat.beq q0 0 && Nat.beq q1 0 && Nat.beq q2 0 && Nat.beq q3 12 && Nat.beq q4 4 && Nat.beq q5 13 && Nat.beq q6 14 && Nat.beq q7 0 && Nat.beq q8 141 && Nat.beq q9 1 && Nat.beq q10 2 && Nat.beq q11 3 && Nat.beq q12 1 && Nat.beq q13 103 && Nat.beq q14 2 && Nat.beq q15 3 && Nat.beq q16 3 && Nat.beq q17 3 && Nat.beq q18 4 && Nat.beq q19 3 && Nat.beq q20 5 && Nat.beq q21 4 then iter (S_file_reader_random_f32_2 fuel) fuel (x0, x1, x2, x3, x4, x5, x6, x7, x8, x9) (E191_f32_2 K) else none
 | _ => none)
 | none => none
theorem B191_f32_2_ok (fuel : Nat) (st : Ev.St) (K : Ev.Ex → Ev.St → Option Ans) (r : Ans) (h : B191_f32_2 fuel st K = some r) : evalCode tab (G191_f32 fuel) (J191_f32_2 fuel) kp191_f32 fuel (.block 2 (.loop (bodyOf 2 Try.f191))) st K = some r := by
  unfold B191_f32_2 at h
  split at h
  · rename_i s hs
    split at h
    · skip
      obtain ⟨hb, h⟩ := cond_some' h
      simp only [Bool.and_eq_true, Nat.beq_eq, decide_eq_true_eq] at hb
      obtain ⟨⟨⟨⟨⟨⟨⟨⟨⟨⟨⟨⟨⟨⟨⟨⟨⟨⟨⟨⟨⟨rfl, rfl⟩, rfl⟩, rfl⟩, rfl⟩, rfl⟩, rfl⟩, rfl⟩, rfl⟩, rfl⟩, rfl⟩, rfl⟩, rfl⟩, rfl⟩, rfl⟩, rfl⟩, rfl⟩, rfl⟩, rfl⟩, rfl⟩, rfl⟩, rfl⟩ := hb
      exact blk_loop (S := T191_f32_2) (ks := E191_f32_2) (step := S_file_reader_random_f32_2 fuel) (v := (_, _, _, _, _, _, _, _, _, _)) (by kernel_rfl) (by kernel_rfl) (fun R K v => by obtain ⟨x0, x1, x2, x3, x4, x5, x6, x7, x8, x9⟩ := v; exact S191_f32_2_ok fuel R K x0 x1 x2 x3 x4 x5 x6 x7 x8 x9) hs h
    · cases h
  · cases h
noncomputable def J191_f32 (fuel : Nat) (i : Nat) : Option Ev.Blk := Ev.look i [(100000, B191_f32_0 fuel), (100002, B191_f32_2 fuel)]
noncomputable def Fg_file_reader_random_f32 (fuel : Nat) (f171_f32 : YF171_f32) (f173_857 : YF173_857) (f208_f32 : YF208_f32) (x0 : (List Int)) (x1 x2 x3 : Int) (x4 : (List (Int × (Int × (Int × ((List Int) × ((List Bool) × (List Int)))))))) (x5 x6 : (List Int)) (k0 : ((List Int) × Int × Int × Int × (List (Int × (Int × (Int × ((List Int) × ((List Bool) × (List Int))))))) × (List Int) × (List Int)) → Option Ans) : Option Ans :=
  (L_file_reader_random_f32_0 fuel (x0, x1, x2, x3, x4, x5, x6, [])
  (fun (b0_0, b0_1, b0_2, b0_3, b0_4, b0_5, b0_6, b0_7) =>
  (L_file_reader_random_f32_2 fuel ((↑b0_7.length : Int), (0 : Int), b0_0, b0_1, b0_2, b0_3, b0_4, b0_5, b0_6, b0_7)
  (fun (b2_0, b2_1, b2_2, b2_3, b2_4, b2_5, b2_6) =>
  k0 (b2_0, b2_1, b2_2, b2_3, b2_4, b2_5, b2_6)))))
noncomputable def F_file_reader_random_f32 (fuel : Nat) (x0 : (List Int)) (x1 x2 x3 : Int) (x4 : (List (Int × (Int × (Int × ((List Int) × ((List Bool) × (List Int)))))))) (x5 x6 : (List Int)) (k0 : ((List Int) × Int × Int × Int × (List (Int × (Int × (Int × ((List Int) × ((List Bool) × (List Int))))))) × (List Int) × (List Int)) → Option Ans) : Option Ans := Fg_file_reader_random_f32 fuel (F_file_reader_header_f32 fuel) (F_file_reader_data_857 fuel) (F_file_reader_more_f32 fuel) x0 x1 x2 x3 x4 x5 x6 k0
abbrev YF191_f32 : Type := ((List Int)) → (Int) → (Int) → (Int) → ((List (Int × (Int × (Int × ((List Int) × ((List Bool) × (List Int)))))))) → ((List Int)) → ((List Int)) → (((List Int) × Int × Int × Int × (List (Int × (Int × (Int × ((List Int) × ((List Bool) × (List Int))))))) × (List Int) × (List Int)) → Option Ans) → Option Ans
theorem F191_f32_eqg (fuel : Nat) (f171_f32 : YF171_f32) (f173_857 : YF173_857) (f208_f32 : YF208_f32) (x0 : (List Int)) (x1 x2 x3 : Int) (x4 : (List (Int × (Int × (Int × ((List Int) × ((List Bool) × (List Int)))))))) (x5 x6 : (List Int)) (k : Ev.Cont) : evalFn tab (Gg191_f32 f171_f32 f173_857 f208_f32) (J191_f32 fuel) kp191_f32 fuel Try.f191 [.c (.ptr 0 0)] [.cells 141 [.sl (.int .u8) x0, .int .i64 x1, .own 1, .own 2, .own 3, .int .i64 x2, .int .i64 x3], .vec 103 (.pair (.int .i64) (.pair (.int .i64) (.pair (.int .i64) (.pair (.sl (.int .i64)) (.pair (.sl .bool) (.sl (.int .u8))))))) x4 false, .vec 3 (.int .i64) x5 false, .vec 3 (.int .i64) x6 false] k = Fg_file_reader_random_f32 fuel f171_f32 f173_857 f208_f32 x0 x1 x2 x3 x4 x5 x6 (fun r => match r with | (r0, r1, r2, r3, r4, r5, r6) => k (.tup [], [.cells 141 [.sl (.int .u8) r0, .int .i64 r1, .own 1, .own 2, .own 3, .int .i64 r2, .int .i64 r3], .vec 103 (.pair (.int .i64) (.pair (.int .i64) (.pair (.int .i64) (.pair (.sl (.int .i64)) (.pair (.sl .bool) (.sl (.int .u8))))))) r4 true, .vec 3 (.int .i64) r5 true, .vec 3 (.int .i64) r6 true])) := by
  kernel_rfl
theorem F191_f32_eq (fuel : Nat) (x0 : (List Int)) (x1 x2 x3 : Int) (x4 : (List (Int × (Int × (Int × ((List Int) × ((List Bool) × (List Int)))))))) (x5 x6 : (List Int)) (k : Ev.Cont) : evalFn tab (G191_f32 fuel) (J191_f32 fuel) kp191_f32 fuel Try.f191 [.c (.ptr 0 0)] [.cells 141 [.sl (.int .u8) x0, .int .i64 x1, .own 1, .own 2, .own 3, .int .i64 x2, .int .i64 x3], .vec 103 (.pair (.int .i64) (.pair (.int .i64) (.pair (.int .i64) (.pair (.sl (.int .i64)) (.pair (.sl .bool) (.sl (.int .u8))))))) x4 false, .vec 3 (.int .i64) x5 false, .vec 3 (.int .i64) x6 false] k = F_file_reader_random_f32 fuel x0 x1 x2 x3 x4 x5 x6 (fun r => match r with | (r0, r1, r2, r3, r4, r5, r6) => k (.tup [], [.cells 141 [.sl (.int .u8) r0, .int .i64 r1, .own 1, .own 2, .own 3, .int .i64 r2, .int .i64 r3], .vec 103 (.pair (.int .i64) (.pair (.int .i64) (.pair (.int .i64) (.pair (.sl (.int .i64)) (.pair (.sl .bool) (.sl (.int .u8))))))) r4 true, .vec 3 (.int .i64) r5 true, .vec 3 (.int .i64) r6 true])) :=
  F191_f32_eqg fuel (F_file_reader_header_f32 fuel) (F_file_reader_data_857 fuel) (F_file_reader_more_f32 fuel) x0 x1 x2 x3 x4 x5 x6 k
theorem hG191_f32 (fuel : Nat) : GOK Try.prog (G191_f32 fuel) :=
  gok_cons ⟨ok171_f32 fuel, enters_of Try.func171 (by kernel_rfl) rfl⟩ <|
  gok_cons ⟨ok173_857 fuel, enters_of Try.func173 (by kernel_rfl) rfl⟩ <|
  gok_cons ⟨ok208_f32 fuel, enters_of Try.func208 (by kernel_rfl) rfl⟩ <|
  gok_nil
theorem B191_f32_0_blk (fuel : Nat) : BlkOK Try.prog Try.f191.ntmps (.block 0 (.loop (bodyOf 0 Try.f191))) (B191_f32_0 fuel) :=
  blk_of (blk_of_code tab_ok (hG191_f32 fuel) mixed (J := J191_f32_0 fuel) (kp := kp191_f32) (fuel := fuel) (by kernel_rfl) (fun q hq => by
    rw [(by kernel_rfl : obl (J191_f32_0 fuel) (.block 0 (.loop (bodyOf 0 Try.f191))) = [])] at hq
    cases hq)) (B191_f32_0_ok fuel)
theorem B191_f32_2_blk (fuel : Nat) : BlkOK Try.prog Try.f191.ntmps (.block 2 (.loop (bodyOf 2 Try.f191))) (B191_f32_2 fuel) :=
  blk_of (blk_of_code tab_ok (hG191_f32 fuel) mixed (J := J191_f32_2 fuel) (kp := kp191_f32) (fuel := fuel) (by kernel_rfl) (fun q hq => by
    rw [(by kernel_rfl : obl (J191_f32_2 fuel) (.block 2 (.loop (bodyOf 2 Try.f191))) = [])] at hq
    cases hq)) (B191_f32_2_ok fuel)
theorem fok191_f32 (fuel : Nat) : FnOK Try.prog 191 (evalFn tab (G191_f32 fuel) (J191_f32 fuel) kp191_f32 fuel Try.f191) :=
  fn_ok tab_ok (hG191_f32 fuel) mixed Try.func191 (c := (Try.f191.body).getD .skip) rfl (fun q hq => by
    rw [(by kernel_rfl : obl (J191_f32 fuel) ((Try.f191.body).getD .skip) = [(.block 0 (.loop (bodyOf 0 Try.f191)), B191_f32_0 fuel), (.block 2 (.loop (bodyOf 2 Try.f191)), B191_f32_2 fuel)])] at hq
    simp only [List.mem_cons, List.not_mem_nil, or_false] at hq
    rcases hq with rfl | rfl
    · exact B191_f32_0_blk fuel
    · exact B191_f32_2_blk fuel)
noncomputable def mt191_f32 : List Ev.SV → List Ev.Ob → Bool := fun args objs => match args, objs with
 | [.c (.ptr q0 q1)], [.cells q2 [.sl (.int .u8) _, .int .i64 _, .own q3, .own q4, .own q5, .int .i64 _, .int .i64 _], .vec q6 (.pair (.int .i64) (.pair (.int .i64) (.pair (.int .i64) (.pair (.sl (.int .i64)) (.pair (.sl .bool) (.sl (.int .u8))))))) _ false, .vec q7 (.int .i64) _ false, .vec q8 (.int .i64) _ false] => Nat.beq q0 0 && Nat.beq q1 0 && Nat.beq q2 141 && Nat.beq q3 1 && Nat.beq q4 2 && Nat.beq q5 3 && Nat.beq q6 103 && Nat.beq q7 3 && Nat.beq q8 3
 | _, _ => false
noncomputable def spg191_f32 (F : YF191_f32) : Ev.Spec := fun args objs k => match args, objs with
 | [.c (.ptr q0 q1)], [.cells q2 [.sl (.int .u8) x0, .int .i64 x1, .own q3, .own q4, .own q5, .int .i64 x2, .int .i64 x3], .vec q6 (.pair (.int .i64) (.pair (.int .i64) (.pair (.int .i64) (.pair (.sl (.int .i64)) (.pair (.sl .bool) (.sl (.int .u8))))))) x4 false, .vec q7 (.int .i64) x5 false, .vec q8 (.int .i64) x6 false] => bif Nat.beq q0 0 && Nat.beq q1 0 && Nat.beq q2 141 && Nat.beq q3 1 && Nat.beq q4 2 && Nat.beq q5 3 && Nat.beq q6 103 && Nat.beq q7 3 && Nat.beq q8 3 then F x0 x1 x2 x3 x4 x5 x6 (fun r => match r with | (r0, r1, r2, r3, r4, r5, r6) => k (.tup [], [.cells 141 [.sl (.int .u8) r0, .int .i64 r1, .own 1, .own 2, .own 3, .int .i64 r2, .int .i64 r3], .vec 103 (.pair (.int .i64) (.pair (.int .i64) (.pair (.int .i64) (.pair (.sl (.int .i64)) (.pair (.sl .bool) (.sl (.int .u8))))))) r4 true, .vec 3 (.int .i64) r5 true, .vec 3 (.int .i64) r6 true])) else none
 | _, _ => none
noncomputable def spec191_f32 (fuel : Nat) : Ev.Spec := spg191_f32 (F_file_reader_random_f32 fuel)
theorem ok191_f32 (fuel : Nat) : FnOK Try.prog 191 (spec191_f32 fuel) := by
  intro args objs kk r h
  unfold spec191_f32 spg191_f32 at h
  split at h
  · skip
    obtain ⟨hb, h⟩ := cond_some' h
    simp only [Bool.and_eq_true, Nat.beq_eq, decide_eq_true_eq] at hb
    obtain ⟨⟨⟨⟨⟨⟨⟨⟨rfl, rfl⟩, rfl⟩, rfl⟩, rfl⟩, rfl⟩, rfl⟩, rfl⟩, rfl⟩ := hb
    exact fok191_f32 fuel _ _ kk r ((F191_f32_eq fuel _ _ _ _ _ _ _ kk).trans h)
  · cases h
end Go.Proofs.Ytihfgpfofmjbaaa

set_option linter.unusedVariables false
set_option linter.unusedSimpArgs false
set_option maxRecDepth 100000
set_option maxHeartbeats 2000000
namespace Go.Proofs.Ytihfgpfofmjbaaa
open Go Ev
def kp192_f32 (i : Nat) : Option (List Nat) := Ev.look i [(0, [0, 1000001, 1000002, 1000003]), (100000, []), (400000, [])]
noncomputable def Gg192_f32 (f171_f32 : YF171_f32) (f173_857 : YF173_857) (f208_f32 : YF208_f32) (f : Nat) : Option Ev.Spec := Ev.look f [(171, spg171_f32 f171_f32), (173, spg173_857 f173_857), (208, spg208_f32 f208_f32)]
noncomputable def G192_f32 (fuel : Nat) : Nat → Option Ev.Spec := Gg192_f32 (F_file_reader_header_f32 fuel) (F_file_reader_data_857 fuel) (F_file_reader_more_f32 fuel)
noncomputable def Sg_file_reader_sequence_f32_0 (fuel : Nat) (f171_f32 : YF171_f32) (f173_857 : YF173_857) (f208_f32 : YF208_f32) (x0 : (List Int)) (x1 x2 x3 : Int) (x4 : (List (Int × (Int × (Int × ((List Int) × ((List Bool) × (List Int)))))))) (x5 x6 : (List Int)) (c : ((List Int) × Int × Int × Int × (List (Int × (Int × (Int × ((List Int) × ((List Bool) × (List Int))))))) × (List Int) × (List Int)) → Option Ans) (B : ((List Int) × Int × Int × Int × (List (Int × (Int × (Int × ((List Int) × ((List Bool) × (List Int))))))) × (List Int) × (List Int) → Option Ans)) : Option Ans := match B with
 | b =>
  (f208_f32 (x0) (x1) (x2) (x3) (x4) (x5) (x6)
  (fun (y2_0, y2_1, y2_2, y2_3, y2_4, y2_5, y2_6, y2_7) =>
  bif y2_0 then
  (f171_f32 (y2_1) (y2_2) (y2_3) (y2_4) (y2_5) (y2_6) (y2_7)
  (fun (y7_0, y7_1, y7_2, y7_3, y7_4, y7_5, y7_6, y7_7) =>
  (f173_857 (IntKind.i64.wrap ((↑y7_5.length : Int) - (1 : Int))) (y7_0) (y7_1) (y7_2) (y7_3) (y7_4) (y7_5) (y7_6) (y7_7)
  (fun (y11_0, y11_1, y11_2, y11_3, y11_4, y11_5, y11_6) =>
  c (y11_0, y11_1, y11_2, y11_3, y11_4, y11_5, y11_6))
  (fun (y11_0, y11_1, y11_2, y11_3, y11_4, y11_5, y11_6) =>
  c (y11_0, y11_1, y11_2, y11_3, y11_4, y11_5, y11_6))))
  (fun (y7_0, y7_1, y7_2, y7_3, y7_4, y7_5, y7_6, y7_7) =>
  (f173_857 (IntKind.i64.wrap ((↑y7_5.length : Int) - (1 : Int))) (y7_0) (y7_1) (y7_2) (y7_3) (y7_4) (y7_5) (y7_6) (y7_7)
  (fun (y11_0, y11_1, y11_2, y11_3, y11_4, y11_5, y11_6) =>
  c (y11_0, y11_1, y11_2, y11_3, y11_4, y11_5, y11_6))
  (fun (y11_0, y11_1, y11_2, y11_3, y11_4, y11_5, y11_6) =>
  c (y11_0, y11_1, y11_2, y11_3, y11_4, y11_5, y11_6)))))
  else
  b (y2_1, y2_2, y2_3, y2_4, y2_5, y2_6, y2_7)))
noncomputable def S_file_reader_sequence_f32_0 (fuel : Nat) (v : (List Int) × Int × Int × Int × (List (Int × (Int × (Int × ((List Int) × ((List Bool) × (List Int))))))) × (List Int) × (List Int)) (c : ((List Int) × Int × Int × Int × (List (Int × (Int × (Int × ((List Int) × ((List Bool) × (List Int))))))) × (List Int) × (List Int)) → Option Ans) (B : ((List Int) × Int × Int × Int × (List (Int × (Int × (Int × ((List Int) × ((List Bool) × (List Int))))))) × (List Int) × (List Int) → Option Ans)) : Option Ans := match v with
 | (x0, x1, x2, x3, x4, x5, x6) => Sg_file_reader_sequence_f32_0 fuel (F_file_reader_header_f32 fuel) (F_file_reader_data_857 fuel) (F_file_reader_more_f32 fuel) x0 x1 x2 x3 x4 x5 x6 c B
noncomputable def L_file_reader_sequence_f32_0 (fuel : Nat) (v : (List Int) × Int × Int × Int × (List (Int × (Int × (Int × ((List Int) × ((List Bool) × (List Int))))))) × (List Int) × (List Int)) (b : ((List Int) × Int × Int × Int × (List (Int × (Int × (Int × ((List Int) × ((List Bool) × (List Int))))))) × (List Int) × (List Int) → Option Ans)) : Option Ans := iter (S_file_reader_sequence_f32_0 fuel) fuel v b
noncomputable def J192_f32_0 (fuel : Nat) (i : Nat) : Option Ev.Blk := Ev.look i []
noncomputable def T192_f32_0 (v : (List Int) × Int × Int × Int × (List (Int × (Int × (Int × ((List Int) × ((List Bool) × (List Int))))))) × (List Int) × (List Int)) : Ev.St := match v with | (x0, x1, x2, x3, x4, x5, x6) => ⟨[(0, .c (.ptr 0 0))], [(0, .cells 141 [.sl (.int .u8) x0, .int .i64 x1, .own 1, .own 2, .own 3, .int .i64 x2, .int .i64 x3]), (1, .vec 103 (.pair (.int .i64) (.pair (.int .i64) (.pair (.int .i64) (.pair (.sl (.int .i64)) (.pair (.sl .bool) (.sl (.int .u8))))))) x4 true), (2, .vec 3 (.int .i64) x5 true), (3, .vec 3 (.int .i64) x6 true)], 4, 4⟩
noncomputable def E192_f32_0 (K : Ev.Ex → Ev.St → Option Ans) : ((List Int) × Int × Int × Int × (List (Int × (Int × (Int × ((List Int) × ((List Bool) × (List Int))))))) × (List Int) × (List Int) → Option Ans) := (fun v => match v with | (x0, x1, x2, x3, x4, x5, x6) => K .normal ⟨[], [(0, .cells 141 [.sl (.int .u8) x0, .int .i64 x1, .own 1, .own 2, .own 3, .int .i64 x2, .int .i64 x3]), (1, .vec 103 (.pair (.int .i64) (.pair (.int .i64) (.pair (.int .i64) (.pair (.sl (.int .i64)) (.pair (.sl .bool) (.sl (.int .u8))))))) x4 true), (2, .vec 3 (.int .i64) x5 true), (3, .vec 3 (.int .i64) x6 true)], 4, 4⟩)
theorem S192_f32_0_okg (fuel : Nat) (f171_f32 : YF171_f32) (f173_857 : YF173_857) (f208_f32 : YF208_f32) (R : Ev.St → Option Ans) (K : Ev.Ex → Ev.St → Option Ans) (x0 : (List Int)) (x1 x2 x3 : Int) (x4 : (List (Int × (Int × (Int × ((List Int) × ((List Bool) × (List Int)))))))) (x5 x6 : (List Int)) : evalCode tab (Gg192_f32 f171_f32 f173_857 f208_f32) (J192_f32_0 fuel) kp192_f32 fuel (bodyOf 0 Try.f192) (T192_f32_0 (x0, x1, x2, x3, x4, x5, x6)) (lc kp192_f32 0 0 R K) = Sg_file_reader_sequence_f32_0 fuel f171_f32 f173_857 f208_f32 x0 x1 x2 x3 x4 x5 x6 (fun v => R (T192_f32_0 v)) (E192_f32_0 K) := by
  kernel_rfl
theorem S192_f32_0_ok (fuel : Nat) (R : Ev.St → Option Ans) (K : Ev.Ex → Ev.St → Option Ans) (x0 : (List Int)) (x1 x2 x3 : Int) (x4 : (List (Int × (Int × (Int × ((List Int) × ((List Bool) × (List Int)))))))) (x5 x6 : (List Int)) : evalCode tab (G192_f32 fuel) (J192_f32_0 fuel) kp192_f32 fuel (bodyOf 0 Try.f192) (T192_f32_0 (x0, x1, x2, x3, x4, x5, x6)) (lc kp192_f32 0 0 R K) = S_file_reader_sequence_f32_0 fuel (x0, x1, x2, x3, x4, x5, x6) (fun v => R (T192_f32_0 v)) (E192_f32_0 K) :=
  S192_f32_0_okg fuel (F_file_reader_header_f32 fuel) (F_file_reader_data_857 fuel) (F_file_reader_more_f32 fuel) R K x0 x1 x2 x3 x4 x5 x6
noncomputable def B192_f32_0 (fuel : Nat) : Ev.Blk := fun st K => match canonO (kp192_f32 0) st with
 | some s => (match s with
 | ⟨[(q0, .c (.ptr q1 q2))], [(q3, .cells q4 [.sl (.int .u8) x0, .int .i64 x1, .own q5, .own q6, .own q7, .int .i64 x2, .int .i64 x3]), (q8, .vec q9 (.pair (.int .i64) (.pair (.int .i64) (.pair (.int .i64) (.pair (.sl (.int .i64)) (.pair (.sl .bool) (.sl (.int .u8))))))) x4 true), (q10, .vec q11 (.int .i64) x5 true), (q12, .vec q13 (.int .i64) x6 true)], q14, q15⟩ => bif Nat.beq q0 0 && Nat.beq q1 0 && Nat.beq q2 0 && Nat.beq q3 0 && Nat.beq q4 141 && Nat.beq q5 1 && Nat.beq q6 2 && Nat.beq q7 3 && Nat.beq q8 1 && Nat.beq q9 103 && Nat.beq q10 2 && Nat.beq q11 3 && Nat.beq q12 3 && Nat.beq q13 3 && Nat.beq q14 4 && Nat.beq q15 4 then iter (S_file_reader_sequence_f32_0 fuel) fuel (x0, x1, x2, x3, x4, x5, x6) (E192_f32_0 K) else none
 | _ => none)
 | none => none
theorem B192_f32_0_ok (fuel : Nat) (st : Ev.St) (K : Ev.Ex → Ev.St → Option Ans) (r : Ans) (h : B192_f32_0 fuel st K = some r) : evalCode tab (G192_f32 fuel) (J192_f32_0 fuel) kp192_f32 fuel (.block 0 (.loop (bodyOf 0 Try.f192))) st K = some r := by
  unfold B192_f32_0 at h
  split at h
  · rename_i s hs
    split at h
    · skip
      obtain ⟨hb, h⟩ := cond_some' h
      simp only [Bool.and_eq_true, Nat.beq_eq, decide_eq_true_eq] at hb
      obtain ⟨⟨⟨⟨⟨⟨⟨⟨⟨⟨⟨⟨⟨⟨⟨rfl, rfl⟩, rfl⟩, rfl⟩, rfl⟩, rfl⟩, rfl⟩, rfl⟩, rfl⟩, rfl⟩, rfl⟩, rfl⟩, rfl⟩, rfl⟩, rfl⟩, rfl⟩ := hb
      exact blk_loop (S := T192_f32_0) (ks := E192_f32_0) (step := S_file_reader_sequence_f32_0 fuel) (v := (_, _, _, _, _, _, _)) (by kernel_rfl) (by kernel_rfl) (fun R K v => by obtain ⟨x0, x1, x2, x3, x4, x5, x6⟩ := v; exact S192_f32_0_ok fuel R K x0 x1 x2 x3 x4 x5 x6) hs h
    · cases h
  · cases h
noncomputable def J192_f32 (fuel : Nat) (i : Nat) : Option Ev.Blk := Ev.look i [(100000, B192_f32_0 fuel)]
noncomputable def Fg_file_reader_sequence_f32 (fuel : Nat) (f171_f32 : YF171_f32) (f173_857 : YF173_857) (f208_f32 : YF208_f32) (x0 : (List Int)) (x1 x2 x3 : Int) (x4 : (List (Int × (Int × (Int × ((List Int) × ((List Bool) × (List Int)))))))) (x5 x6 : (List Int)) (k0 : ((List Int) × Int × Int × Int × (List (Int × (Int × (Int × ((List Int) × ((List Bool) × (List Int))))))) × (List Int) × (List Int)) → Option Ans) : Option Ans :=
  (L_file_reader_sequence_f32_0 fuel (x0, x1, x2, x3, x4, x5, x6)
  (fun (b0_0, b0_1, b0_2, b0_3, b0_4, b0_5, b0_6) =>
  k0 (b0_0, b0_1, b0_2, b0_3, b0_4, b0_5, b0_6)))
noncomputable def F_file_reader_sequence_f32 (fuel : Nat) (x0 : (List Int)) (x1 x2 x3 : Int) (x4 : (List (Int × (Int × (Int × ((List Int) × ((List Bool) × (List Int)))))))) (x5 x6 : (List Int)) (k0 : ((List Int) × Int × Int × Int × (List (Int × (Int × (Int × ((List Int) × ((List Bool) × (List Int))))))) × (List Int) × (List Int)) → Option Ans) : Option Ans := Fg_file_reader_sequence_f32 fuel (F_file_reader_header_f32 fuel) (F_file_reader_data_857 fuel) (F_file_reader_more_f32 fuel) x0 x1 x2 x3 x4 x5 x6 k0
abbrev YF192_f32 : Type := ((List Int)) → (Int) → (Int) → (Int) → ((List (Int × (Int × (Int × ((List Int) × ((List Bool) × (List Int)))))))) → ((List Int)) → ((List Int)) → (((List Int) × Int × Int × Int × (List (Int × (Int × (Int × ((List Int) × ((List Bool) × (List Int))))))) × (List Int) × (List Int)) → Option Ans) → Option Ans
theorem F192_f32_eqg (fuel : Nat) (f171_f32 : YF171_f32) (f173_857 : YF173_857) (f208_f32 : YF208_f32) (x0 : (List Int)) (x1 x2 x3 : Int) (x4 : (List (Int × (Int × (Int × ((List Int) × ((List Bool) × (List Int)))))))) (x5 x6 : (List Int)) (k : Ev.Cont) : evalFn tab (Gg192_f32 f171_f32 f173_857 f208_f32) (J192_f32 fuel) kp192_f32 fuel Try.f192 [.c (.ptr 0 0)] [.cells 141 [.sl (.int .u8) x0, .int .i64 x1, .own 1, .own 2, .own 3, .int .i64 x2, .int .i64 x3], .vec 103 (.pair (.int .i64) (.pair (.int .i64) (.pair (.int .i64) (.pair (.sl (.int .i64)) (.pair (.sl .bool) (.sl (.int .u8))))))) x4 false, .vec 3 (.int .i64) x5 false, .vec 3 (.int .i64) x6 false] k = Fg_file_reader_sequence_f32 fuel f171_f32 f173_857 f208_f32 x0 x1 x2 x3 x4 x5 x6 (fun r => match r with | (r0, r1, r2, r3, r4, r5, r6) => k (.tup [], [.cells 141 [.sl (.int .u8) r0, .int .i64 r1, .own 1, .own 2, .own 3, .int .i64 r2, .int .i64 r3], .vec 103 (.pair (.int .i64) (.pair (.int .i64) (.pair (.int .i64) (.pair (.sl (.int .i64)) (.pair (.sl .bool) (.sl (.int .u8))))))) r4 true, .vec 3 (.int .i64) r5 true, .vec 3 (.int .i64) r6 true])) := by
  kernel_rfl
theorem F192_f32_eq (fuel : Nat) (x0 : (List Int)) (x1 x2 x3 : Int) (x4 : (List (Int × (Int × (Int × ((List Int) × ((List Bool) × (List Int)))))))) (x5 x6 : (List Int)) (k : Ev.Cont) : evalFn tab (G192_f32 fuel) (J192_f32 fuel) kp192_f32 fuel Try.f192 [.c (.ptr 0 0)] [.cells 141 [.sl (.int .u8) x0, .int .i64 x1, .own 1, .own 2, .own 3, .int .i64 x2, .int .i64 x3], .vec 103 (.pair (.int .i64) (.pair (.int .i64) (.pair (.int .i64) (.pair (.sl (.int .i64)) (.pair (.sl .bool) (.sl (.int .u8))))))) x4 false, .vec 3 (.int .i64) x5 false, .vec 3 (.int .i64) x6 false] k = F_file_reader_sequence_f32 fuel x0 x1 x2 x3 x4 x5 x6 (fun r => match r with | (r0, r1, r2, r3, r4, r5, r6) => k (.tup [], [.cells 141 [.sl (.int .u8) r0, .int .i64 r1, .own 1, .own 2, .own 3, .int .i64 r2, .int .i64 r3], .vec 103 (.pair (.int .i64) (.pair (.int .i64) (.pair (.int .i64) (.pair (.sl (.int .i64)) (.pair (.sl .bool) (.sl (.int .u8))))))) r4 true, .vec 3 (.int .i64) r5 true, .vec 3 (.int .i64) r6 true])) :=
  F192_f32_eqg fuel (F_file_reader_header_f32 fuel) (F_file_reader_data_857 fuel) (F_file_reader_more_f32 fuel) x0 x1 x2 x3 x4 x5 x6 k
theorem hG192_f32 (fuel : Nat) : GOK Try.prog (G192_f32 fuel) :=
  gok_cons ⟨ok171_f32 fuel, enters_of Try.func171 (by kernel_rfl) rfl⟩ <|
  gok_cons ⟨ok173_857 fuel, enters_of Try.func173 (by kernel_rfl) rfl⟩ <|
  gok_cons ⟨ok208_f32 fuel, enters_of Try.func208 (by kernel_rfl) rfl⟩ <|
  gok_nil
theorem B192_f32_0_blk (fuel : Nat) : BlkOK Try.prog Try.f192.ntmps (.block 0 (.loop (bodyOf 0 Try.f192))) (B192_f32_0 fuel) :=
  blk_of (blk_of_code tab_ok (hG192_f32 fuel) mixed (J := J192_f32_0 fuel) (kp := kp192_f32) (fuel := fuel) (by kernel_rfl) (fun q hq => by
    rw [(by kernel_rfl : obl (J192_f32_0 fuel) (.block 0 (.loop (bodyOf 0 Try.f192))) = [])] at hq
    cases hq)) (B192_f32_0_ok fuel)
theorem fok192_f32 (fuel : Nat) : FnOK Try.prog 192 (evalFn tab (G192_f32 fuel) (J192_f32 fuel) kp192_f32 fuel Try.f192) :=
  fn_ok tab_ok (hG192_f32 fuel) mixed Try.func192 (c := (Try.f192.body).getD .skip) rfl (fun q hq => by
    rw [(by kernel_rfl : obl (J192_f32 fuel) ((Try.f192.body).getD .skip) = [(.block 0 (.loop (bodyOf 0 Try.f192)), B192_f32_0 fuel)])] at hq
    simp only [List.mem_cons, List.not_mem_nil, or_false] at hq
    subst hq
    · exact B192_f32_0_blk fuel)
noncomputable def mt192_f32 : List Ev.SV → List Ev.Ob → Bool := fun args objs => match args, objs with
 | [.c (.ptr q0 q1)], [.cells q2 [.sl (.int .u8) _, .int .i64 _, .own q3, .own q4, .own q5, .int .i64 _, .int .i64 _], .vec q6 (.pair (.int .i64) (.pair (.int .i64) (.pair (.int .i64) (.pair (.sl (.int .i64)) (.pair (.sl .bool) (.sl (.int .u8))))))) _ false, .vec q7 (.int .i64) _ false, .vec q8 (.int .i64) _ false] => Nat.beq q0 0 && Nat.beq q1 0 && Nat.beq q2 141 && Nat.beq q3 1 && Nat.beq q4 2 && Nat.beq q5 3 && Nat.beq q6 103 && Nat.beq q7 3 && Nat.beq q8 3
 | _, _ => false
noncomputable def spg192_f32 (F : YF192_f32) : Ev.Spec := fun args objs k => match args, objs with
 | [.c (.ptr q0 q1)], [.cells q2 [.sl (.int .u8) x0, .int .i64 x1, .own q3, .own q4, .own q5, .int .i64 x2, .int .i64 x3], .vec q6 (.pair (.int .i64) (.pair (.int .i64) (.pair (.int .i64) (.pair (.sl (.int .i64)) (.pair (.sl .bool) (.sl (.int .u8))))))) x4 false, .vec q7 (.int .i64) x5 false, .vec q8 (.int .i64) x6 false] => bif Nat.beq q0 0 && Nat.beq q1 0 && Nat.beq q2 141 && Nat.beq q3 1 && Nat.beq q4 2 && Nat.beq q5 3 && Nat.beq q6 103 && Nat.beq q7 3 && Nat.beq q8 3 then F x0 x1 x2 x3 x4 x5 x6 (fun r => match r with | (r0, r1, r2, r3, r4, r5, r6) => k (.tup [], [.cells 141 [.sl (.int .u8) r0, .int .i64 r1, .own 1, .own 2, .own 3, .int .i64 r2, .int .i64 r3], .vec 103 (.pair (.int .i64) (.pair (.int .i64) (.pair (.int .i64) (.pair (.sl (.int .i64)) (.pair (.sl .bool) (.sl (.int .u8))))))) r4 true, .vec 3 (.int .i64) r5 true, .vec 3 (.int .i64) r6 true])) else none
 | _, _ => none
noncomputable def spec192_f32 (fuel : Nat) : Ev.Spec := spg192_f32 (F_file_reader_sequence_f32 fuel)
theorem ok192_f32 (fuel : Nat) : FnOK Try.prog 192 (spec192_f32 fuel) := by
  intro args objs kk r h
  unfold spec192_f32 spg192_f32 at h
  split at h
  · skip
    obtain ⟨hb, h⟩ := cond_some' h
    simp only [Bool.and_eq_true, Nat.beq_eq, decide_eq_true_eq] at hb
    obtain ⟨⟨⟨⟨⟨⟨⟨⟨rfl, rfl⟩, rfl⟩, rfl⟩, rfl⟩, rfl⟩, rfl⟩, rfl⟩, rfl⟩ := hb
    exact fok192_f32 fuel _ _ kk r ((F192_f32_eq fuel _ _ _ _ _ _ _ kk).trans h)
  · cases h
end Go.Proofs.Ytihfgpfofmjbaaa

set_option linter.unusedVariables false
set_option linter.unusedSimpArgs false
set_option maxRecDepth 100000
set_option maxHeartbeats 2000000
namespace Go.Proofs.Ytihfgpfofmjbaaa
open Go Ev
def kp207 (i : Nat) : Option (List Nat) := Ev.look i []
noncomputable def Gg207 (f : Nat) : Option Ev.Spec := Ev.look f []
noncomputable def G207 (fuel : Nat) : Nat → Option Ev.Spec := Gg207
noncomputable def J207 (fuel : Nat) (i : Nat) : Option Ev.Blk := Ev.look i []
noncomputable def F_internal_stringslite_HasPrefix (fuel : Nat) (x0 : ByteArray) (x1 : ByteArray) (k0 : (Bool) → Option Ans) : Option Ans :=
  bif decide ((↑x0.size : Int) ≥ (↑x1.size : Int)) then
  bif decide ((0 : Int) ≤ Ev.loOf Option.none ∧ Ev.loOf Option.none ≤ Ev.hiOf (some (↑x1.size : Int)) (↑x0.size : Int) ∧ Ev.hiOf (some (↑x1.size : Int)) (↑x0.size : Int) ≤ (↑x0.size : Int)) then
  k0 ((x0.extract (Ev.loOf Option.none).toNat (Ev.hiOf (some (↑x1.size : Int)) (↑x0.size : Int)).toNat).toList == x1.toList)
  else none
  else
  k0 false
abbrev YF207 : Type := (ByteArray) → (ByteArray) → ((Bool) → Option Ans) → Option Ans
theorem F207_eq (fuel : Nat) (x0 : ByteArray) (x1 : ByteArray) (k : Ev.Cont) : evalFn tab (G207 fuel) (J207 fuel) kp207 fuel Try.f207 [.c (.str x0), .c (.str x1)] [] k = F_internal_stringslite_HasPrefix fuel x0 x1 (fun r => match r with | r0 => k (.c (.bool r0), [])) := by
  kernel_rfl
theorem hG207 (fuel : Nat) : GOK Try.prog (G207 fuel) :=
  gok_nil
theorem fok207 (fuel : Nat) : FnOK Try.prog 207 (evalFn tab (G207 fuel) (J207 fuel) kp207 fuel Try.f207) :=
  fn_ok tab_ok (hG207 fuel) mixed Try.func207 (c := (Try.f207.body).getD .skip) rfl (fun q hq => by
    rw [(by kernel_rfl : obl (J207 fuel) ((Try.f207.body).getD .skip) = [])] at hq
    cases hq)
noncomputable def mt207 : List Ev.SV → List Ev.Ob → Bool := fun args objs => match args, objs with
 | [.c (.str _), .c (.str _)], [] => true
 | _, _ => false
noncomputable def spg207 (F : YF207) : Ev.Spec := fun args objs k => match args, objs with
 | [.c (.str x0), .c (.str x1)], [] => bif true then F x0 x1 (fun r => match r with | r0 => k (.c (.bool r0), [])) else none
 | _, _ => none
noncomputable def spec207 (fuel : Nat) : Ev.Spec := spg207 (F_internal_stringslite_HasPrefix fuel)
theorem ok207 (fuel : Nat) : FnOK Try.prog 207 (spec207 fuel) := by
  intro args objs kk r h
  unfold spec207 spg207 at h
  split at h
  · skip
    obtain ⟨hb, h⟩ := cond_some' h
    simp only [Bool.and_eq_true, Nat.beq_eq, decide_eq_true_eq] at hb
    clear hb
    exact fok207 fuel _ _ kk r ((F207_eq fuel _ _ kk).trans h)
  · cases h
end Go.Proofs.Ytihfgpfofmjbaaa

set_option linter.unusedVariables false
set_option linter.unusedSimpArgs false
set_option maxRecDepth 100000
set_option maxHeartbeats 2000000
namespace Go.Proofs.Ytihfgpfofmjbaaa
open Go Ev
def kp190 (i : Nat) : Option (List Nat) := Ev.look i []
noncomputable def Gg190 (f207 : YF207) (f : Nat) : Option Ev.Spec := Ev.look f [(207, spg207 f207)]
noncomputable def G190 (fuel : Nat) : Nat → Option Ev.Spec := Gg190 (F_internal_stringslite_HasPrefix fuel)
noncomputable def J190 (fuel : Nat) (i : Nat) : Option Ev.Blk := Ev.look i []
noncomputable def Fg_strings_HasPrefix (fuel : Nat) (f207 : YF207) (x0 : ByteArray) (x1 : ByteArray) (k0 : (Bool) → Option Ans) : Option Ans :=
  (f207 (x0) (x1)
  (fun y2 =>
  k0 y2))
noncomputable def F_strings_HasPrefix (fuel : Nat) (x0 : ByteArray) (x1 : ByteArray) (k0 : (Bool) → Option Ans) : Option Ans := Fg_strings_HasPrefix fuel (F_internal_stringslite_HasPrefix fuel) x0 x1 k0
abbrev YF190 : Type := (ByteArray) → (ByteArray) → ((Bool) → Option Ans) → Option Ans
theorem F190_eqg (fuel : Nat) (f207 : YF207) (x0 : ByteArray) (x1 : ByteArray) (k : Ev.Cont) : evalFn tab (Gg190 f207) (J190 fuel) kp190 fuel Try.f190 [.c (.str x0), .c (.str x1)] [] k = Fg_strings_HasPrefix fuel f207 x0 x1 (fun r => match r with | r0 => k (.c (.bool r0), [])) := by
  kernel_rfl
theorem F190_eq (fuel : Nat) (x0 : ByteArray) (x1 : ByteArray) (k : Ev.Cont) : evalFn tab (G190 fuel) (J190 fuel) kp190 fuel Try.f190 [.c (.str x0), .c (.str x1)] [] k = F_strings_HasPrefix fuel x0 x1 (fun r => match r with | r0 => k (.c (.bool r0), [])) :=
  F190_eqg fuel (F_internal_stringslite_HasPrefix fuel) x0 x1 k
theorem hG190 (fuel : Nat) : GOK Try.prog (G190 fuel) :=
  gok_cons ⟨ok207 fuel, enters_of Try.func207 (by kernel_rfl) rfl⟩ <|
  gok_nil
theorem fok190 (fuel : Nat) : FnOK Try.prog 190 (evalFn tab (G190 fuel) (J190 fuel) kp190 fuel Try.f190) :=
  fn_ok tab_ok (hG190 fuel) mixed Try.func190 (c := (Try.f190.body).getD .skip) rfl (fun q hq => by
    rw [(by kernel_rfl : obl (J190 fuel) ((Try.f190.body).getD .skip) = [])] at hq
    cases hq)
noncomputable def mt190 : List Ev.SV → List Ev.Ob → Bool := fun args objs => match args, objs with
 | [.c (.str _), .c (.str _)], [] => true
 | _, _ => false
noncomputable def spg190 (F : YF190) : Ev.Spec := fun args objs k => match args, objs with
 | [.c (.str x0), .c (.str x1)], [] => bif true then F x0 x1 (fun r => match r with | r0 => k (.c (.bool r0), [])) else none
 | _, _ => none
noncomputable def spec190 (fuel : Nat) : Ev.Spec := spg190 (F_strings_HasPrefix fuel)
theorem ok190 (fuel : Nat) : FnOK Try.prog 190 (spec190 fuel) := by
  intro args objs kk r h
  unfold spec190 spg190 at h
  split at h
  · skip
    obtain ⟨hb, h⟩ := cond_some' h
    simp only [Bool.and_eq_true, Nat.beq_eq, decide_eq_true_eq] at hb
    clear hb
    exact fok190 fuel _ _ kk r ((F190_eq fuel _ _ kk).trans h)
  · cases h
end Go.Proofs.Ytihfgpfofmjbaaa

