/- What the functions that GenericEncodes reaches do: their typed texts, each with the proof that the machine does it. No condition. -/
import Derived.Test.YtihfgpfofmjbaaaEvX
set_option linter.unusedVariables false
set_option linter.unusedSimpArgs false
namespace Go.Proofs.Ytihfgpfofmjbaaa
open Go Ev
def ctb (r : List SC) : List SC := .int .i64 2048 :: .int .i64 1792 :: .int .i64 1568 :: .int .i64 1372 :: .int .i64 1201 :: .int .i64 1051 :: .int .i64 920 :: .int .i64 805 :: .int .i64 705 :: .int .i64 617 :: .int .i64 540 :: .int .i64 473 :: .int .i64 414 :: .int .i64 363 :: .int .i64 318 :: .int .i64 279 :: .int .i64 245 :: .int .i64 215 :: .int .i64 189 :: .int .i64 166 :: .int .i64 146 :: .int .i64 128 :: .int .i64 112 :: .int .i64 98 :: .int .i64 86 :: .int .i64 76 :: .int .i64 67 :: .int .i64 59 :: .int .i64 52 :: .int .i64 46 :: .int .i64 41 :: .int .i64 36 :: r
def ctn : List (IntKind × Int) := [(.i64, 2048), (.i64, 1792), (.i64, 1568), (.i64, 1372), (.i64, 1201), (.i64, 1051), (.i64, 920), (.i64, 805), (.i64, 705), (.i64, 617), (.i64, 540), (.i64, 473), (.i64, 414), (.i64, 363), (.i64, 318), (.i64, 279), (.i64, 245), (.i64, 215), (.i64, 189), (.i64, 166), (.i64, 146), (.i64, 128), (.i64, 112), (.i64, 98), (.i64, 86), (.i64, 76), (.i64, 67), (.i64, 59), (.i64, 52), (.i64, 46), (.i64, 41), (.i64, 36)]
end Go.Proofs.Ytihfgpfofmjbaaa
set_option linter.unusedVariables false
set_option linter.unusedSimpArgs false
set_option maxRecDepth 100000
set_option maxHeartbeats 2000000
namespace Go.Proofs.Ytihfgpfofmjbaaa
open Go Ev
def kp41 (i : Nat) : Option (List Nat) := Ev.look i []
noncomputable def Gg41 (f : Nat) : Option Ev.Spec := Ev.look f []
noncomputable def G41 (fuel : Nat) : Nat → Option Ev.Spec := Gg41
noncomputable def J41 (fuel : Nat) (i : Nat) : Option Ev.Blk := Ev.look i []
noncomputable def F_coder_New (fuel : Nat) (x0 x1 : Int) (k0 : (Int × Int × (List Int)) → Option Ans) : Option Ans :=
  bif x0 != (0 : Int) then
  bif x0 != (1 : Int) then
  k0 ((0 : Int), (2 : Int), [])
  else
  bif decide (x1 < (0 : Int)) then
  k0 ((0 : Int), (2 : Int), [])
  else
  bif decide (x1 > (8192 : Int)) then
  k0 ((0 : Int), (2 : Int), [])
  else
  bif decide ((0 : Int) ≤ x1 ∧ x1 = x1 ∧ (↑(8 : Nat) : Int) * x1 ≤ (281474976710656 : Int) ∧ x1 ≤ (281474976710656 : Int)) then
  k0 (x0, (0 : Int), List.replicate x1.toNat (0 : Int))
  else none
  else
  bif decide (x1 < (0 : Int)) then
  k0 ((0 : Int), (2 : Int), [])
  else
  bif decide (x1 > (8192 : Int)) then
  k0 ((0 : Int), (2 : Int), [])
  else
  bif decide ((0 : Int) ≤ x1 ∧ x1 = x1 ∧ (↑(8 : Nat) : Int) * x1 ≤ (281474976710656 : Int) ∧ x1 ≤ (281474976710656 : Int)) then
  k0 (x0, (0 : Int), List.replicate x1.toNat (0 : Int))
  else none
abbrev YF41 : Type := (Int) → (Int) → ((Int × Int × (List Int)) → Option Ans) → Option Ans
theorem F41_eq (fuel : Nat) (x0 x1 : Int) (k : Ev.Cont) : evalFn tab (G41 fuel) (J41 fuel) kp41 fuel Try.f41 [.c (.int .i64 x0), .c (.int .i64 x1)] [] k = F_coder_New fuel x0 x1 (fun r => match r with | (r0, r1, r2) => k (.tup [(true, [.int .i64 r0, .own 0]), (false, [.int .i64 r1])], [.vec 3 (.int .i64) r2 true])) := by
  kernel_rfl
theorem hG41 (fuel : Nat) : GOK Try.prog (G41 fuel) :=
  gok_nil
theorem fok41 (fuel : Nat) : FnOK Try.prog 41 (evalFn tab (G41 fuel) (J41 fuel) kp41 fuel Try.f41) :=
  fn_ok tab_ok (hG41 fuel) mixed Try.func41 (c := (Try.f41.body).getD .skip) rfl (fun q hq => by
    rw [(by kernel_rfl : obl (J41 fuel) ((Try.f41.body).getD .skip) = [])] at hq
    cases hq)
noncomputable def mt41 : List Ev.SV → List Ev.Ob → Bool := fun args objs => match args, objs with
 | [.c (.int .i64 _), .c (.int .i64 _)], [] => true
 | _, _ => false
noncomputable def spg41 (F : YF41) : Ev.Spec := fun args objs k => match args, objs with
 | [.c (.int .i64 x0), .c (.int .i64 x1)], [] => bif true then F x0 x1 (fun r => match r with | (r0, r1, r2) => k (.tup [(true, [.int .i64 r0, .own 0]), (false, [.int .i64 r1])], [.vec 3 (.int .i64) r2 true])) else none
 | _, _ => none
noncomputable def spec41 (fuel : Nat) : Ev.Spec := spg41 (F_coder_New fuel)
theorem ok41 (fuel : Nat) : FnOK Try.prog 41 (spec41 fuel) := by
  intro args objs kk r h
  unfold spec41 spg41 at h
  split at h
  · skip
    obtain ⟨hb, h⟩ := cond_some' h
    simp only [Bool.and_eq_true, Nat.beq_eq, decide_eq_true_eq] at hb
    clear hb
    exact fok41 fuel _ _ kk r ((F41_eq fuel _ _ kk).trans h)
  · cases h
end Go.Proofs.Ytihfgpfofmjbaaa

set_option linter.unusedVariables false
set_option linter.unusedSimpArgs false
set_option maxRecDepth 100000
set_option maxHeartbeats 2000000
namespace Go.Proofs.Ytihfgpfofmjbaaa
open Go Ev
def kp115_40a (i : Nat) : Option (List Nat) := Ev.look i [(200001, [0]), (200002, [0])]
noncomputable def Gg115_40a (f : Nat) : Option Ev.Spec := Ev.look f []
noncomputable def G115_40a (fuel : Nat) : Nat → Option Ev.Spec := Gg115_40a
noncomputable def J115_40a (fuel : Nat) (i : Nat) : Option Ev.Blk := Ev.look i []
noncomputable def F_coder_Decoder_shift_40a (fuel : Nat) (x0 x1 : Int) (x2 x3 : Int) (x4 x5 : Int) (x6 x7 : Bool) (x8 x9 : (List Int)) (k0 : (Int × Int × Int × Int × Int × Int × Bool × Bool × (List Int) × (List Int)) → Option Ans) : Option Ans :=
  bif decide (x3 < (↑x9.length : Int)) then
  bif decide ((0 : Int) ≤ x3 ∧ x3 < (↑x9.length : Int)) then
  k0 (x0, x1, x2, IntKind.i64.wrap (x3 + (1 : Int)), Ev.ior IntKind.u64 (Ev.iand IntKind.u64 (Ev.ishl IntKind.u64 x4 (8 : Int)) (4294967295 : Int)) (IntKind.u64.wrap (x9.getD x3.toNat (0 : Int))), x5, x6, x7, x8, x9)
  else none
  else
  k0 (x0, x1, x2, IntKind.i64.wrap (x3 + (1 : Int)), Ev.ior IntKind.u64 (Ev.iand IntKind.u64 (Ev.ishl IntKind.u64 x4 (8 : Int)) (4294967295 : Int)) (IntKind.u64.wrap (0 : Int)), IntKind.i64.wrap (x5 + (1 : Int)), x6, x7, x8, x9)
abbrev YF115_40a : Type := (Int) → (Int) → (Int) → (Int) → (Int) → (Int) → (Bool) → (Bool) → ((List Int)) → ((List Int)) → ((Int × Int × Int × Int × Int × Int × Bool × Bool × (List Int) × (List Int)) → Option Ans) → Option Ans
theorem F115_40a_eq (fuel : Nat) (x0 x1 : Int) (x2 x3 : Int) (x4 x5 : Int) (x6 x7 : Bool) (x8 x9 : (List Int)) (k : Ev.Cont) : evalFn tab (G115_40a fuel) (J115_40a fuel) kp115_40a fuel Try.f115 [.c (.ptr 0 0)] [.cells 158 (.int .i64 x0 :: .own 1 :: ctb (.int .u64 x1 :: .int .u64 x2 :: .own 2 :: .int .i64 x3 :: .int .u64 x4 :: .int .i64 x5 :: .bool x6 :: .bool x7 :: [])), .vec 3 (.int .i64) x8 false, .vec 5 (.int .u8) x9 false] k = F_coder_Decoder_shift_40a fuel x0 x1 x2 x3 x4 x5 x6 x7 x8 x9 (fun r => match r with | (r0, r1, r2, r3, r4, r5, r6, r7, r8, r9) => k (.tup [], [.cells 158 (.int .i64 r0 :: .own 1 :: ctb (.int .u64 r1 :: .int .u64 r2 :: .own 2 :: .int .i64 r3 :: .int .u64 r4 :: .int .i64 r5 :: .bool r6 :: .bool r7 :: [])), .vec 3 (.int .i64) r8 false, .vec 5 (.int .u8) r9 false])) := by
  kernel_rfl
theorem hG115_40a (fuel : Nat) : GOK Try.prog (G115_40a fuel) :=
  gok_nil
theorem fok115_40a (fuel : Nat) : FnOK Try.prog 115 (evalFn tab (G115_40a fuel) (J115_40a fuel) kp115_40a fuel Try.f115) :=
  fn_ok tab_ok (hG115_40a fuel) mixed Try.func115 (c := (Try.f115.body).getD .skip) rfl (fun q hq => by
    rw [(by kernel_rfl : obl (J115_40a fuel) ((Try.f115.body).getD .skip) = [])] at hq
    cases hq)
noncomputable def mt115_40a : List Ev.SV → List Ev.Ob → Bool := fun args objs => match args, objs with
 | [.c (.ptr q0 q1)], [.cells q2 cs0, .vec q3 (.int .i64) _ false, .vec q4 (.int .u8) _ false] => (match splitRun 2 ctn cs0 with | some ([.int .i64 _, .own q5], [.int .u64 _, .int .u64 _, .own q6, .int .i64 _, .int .u64 _, .int .i64 _, .bool _, .bool _]) => Nat.beq q0 0 && Nat.beq q1 0 && Nat.beq q2 158 && Nat.beq q3 3 && Nat.beq q4 5 && Nat.beq q5 1 && Nat.beq q6 2 | _ => false)
 | _, _ => false
noncomputable def spg115_40a (F : YF115_40a) : Ev.Spec := fun args objs k => match args, objs with
 | [.c (.ptr q0 q1)], [.cells q2 cs0, .vec q3 (.int .i64) x8 false, .vec q4 (.int .u8) x9 false] => (match splitRun 2 ctn cs0 with | some ([.int .i64 x0, .own q5], [.int .u64 x1, .int .u64 x2, .own q6, .int .i64 x3, .int .u64 x4, .int .i64 x5, .bool x6, .bool x7]) => bif Nat.beq q0 0 && Nat.beq q1 0 && Nat.beq q2 158 && Nat.beq q3 3 && Nat.beq q4 5 && Nat.beq q5 1 && Nat.beq q6 2 then F x0 x1 x2 x3 x4 x5 x6 x7 x8 x9 (fun r => match r with | (r0, r1, r2, r3, r4, r5, r6, r7, r8, r9) => k (.tup [], [.cells 158 (.int .i64 r0 :: .own 1 :: ctb (.int .u64 r1 :: .int .u64 r2 :: .own 2 :: .int .i64 r3 :: .int .u64 r4 :: .int .i64 r5 :: .bool r6 :: .bool r7 :: [])), .vec 3 (.int .i64) r8 false, .vec 5 (.int .u8) r9 false])) else none | _ => none)
 | _, _ => none
noncomputable def spec115_40a (fuel : Nat) : Ev.Spec := spg115_40a (F_coder_Decoder_shift_40a fuel)
theorem ok115_40a (fuel : Nat) : FnOK Try.prog 115 (spec115_40a fuel) := by
  intro args objs kk r h
  unfold spec115_40a spg115_40a at h
  split at h
  · skip
    split at h
    rotate_left 1
    · cases h
    rename_i hsp
    have esp := splitRun_eq hsp
    subst esp
    obtain ⟨hb, h⟩ := cond_some' h
    simp only [Bool.and_eq_true, Nat.beq_eq, decide_eq_true_eq] at hb
    obtain ⟨⟨⟨⟨⟨⟨rfl, rfl⟩, rfl⟩, rfl⟩, rfl⟩, rfl⟩, rfl⟩ := hb
    exact fok115_40a fuel _ _ kk r ((F115_40a_eq fuel _ _ _ _ _ _ _ _ _ _ kk).trans h)
  · cases h
end Go.Proofs.Ytihfgpfofmjbaaa

set_option linter.unusedVariables false
set_option linter.unusedSimpArgs false
set_option maxRecDepth 100000
set_option maxHeartbeats 2000000
namespace Go.Proofs.Ytihfgpfofmjbaaa
open Go Ev
def kp113 (i : Nat) : Option (List Nat) := Ev.look i [(7, [3, 24, 25, 26]), (100000, []), (400000, [2])]
noncomputable def Gg113 (f : Nat) : Option Ev.Spec := Ev.look f []
noncomputable def G113 (fuel : Nat) : Nat → Option Ev.Spec := Gg113
noncomputable def S_coder_Valid_0 (fuel : Nat) (v : Int × (List Int) × Int × Int) (c : (Int × (List Int) × Int × Int) → Option Ans) (B : (Bool → Option Ans) × (Unit → Option Ans)) : Option Ans := match v, B with
 | (x0, x1, x2, x3), (ret, b) =>
  bif decide (x3 < x2) then
  bif decide ((0 : Int) ≤ x3 ∧ x3 < (↑x1.length : Int)) then
  bif decide (x1.getD x3.toNat (0 : Int) < (0 : Int)) then
  ret false
  else
  bif decide (x1.getD x3.toNat (0 : Int) ≥ x0) then
  ret false
  else
  c (x0, x1, x2, IntKind.i64.wrap (x3 + (1 : Int)))
  else none
  else
  b ()
noncomputable def L_coder_Valid_0 (fuel : Nat) (v : Int × (List Int) × Int × Int) (ret : (Bool → Option Ans)) (b : (Unit → Option Ans)) : Option Ans := iter (S_coder_Valid_0 fuel) fuel v (ret, b)
noncomputable def J113_0 (fuel : Nat) (i : Nat) : Option Ev.Blk := Ev.look i []
noncomputable def T113_0 (v : Int × (List Int) × Int × Int) : Ev.St := match v with | (x0, x1, x2, x3) => ⟨[(3, .c (.int .i64 x0)), (24, .c (.sl (.int .i64) x1)), (25, .c (.int .i64 x2)), (26, .c (.int .i64 x3))], [], 0, 0⟩
noncomputable def E113_0 (K : Ev.Ex → Ev.St → Option Ans) : (Bool → Option Ans) × (Unit → Option Ans) := ((fun v => match v with | x0 => K .ret ⟨[(2, .c (.bool x0))], [], 0, 0⟩), (fun v => match v with | () => K .normal ⟨[], [], 0, 0⟩))
theorem S113_0_ok (fuel : Nat) (R : Ev.St → Option Ans) (K : Ev.Ex → Ev.St → Option Ans) (x0 : Int) (x1 : (List Int)) (x2 x3 : Int) : evalCode tab (G113 fuel) (J113_0 fuel) kp113 fuel (bodyOf 0 Try.f113) (T113_0 (x0, x1, x2, x3)) (lc kp113 7 0 R K) = S_coder_Valid_0 fuel (x0, x1, x2, x3) (fun v => R (T113_0 v)) (E113_0 K) := by
  kernel_rfl
noncomputable def B113_0 (fuel : Nat) : Ev.Blk := fun st K => match canonO (kp113 7) st with
 | some s => (match s with
 | ⟨[(q0, .c (.int .i64 x0)), (q1, .c (.sl (.int .i64) x1)), (q2, .c (.int .i64 x2)), (q3, .c (.int .i64 x3))], [], q4, q5⟩ => bif Nat.beq q0 3 && Nat.beq q1 24 && Nat.beq q2 25 && Nat.beq q3 26 && Nat.beq q4 0 && Nat.beq q5 0 then iter (S_coder_Valid_0 fuel) fuel (x0, x1, x2, x3) (E113_0 K) else none
 | _ => none)
 | none => none
theorem B113_0_ok (fuel : Nat) (st : Ev.St) (K : Ev.Ex → Ev.St → Option Ans) (r : Ans) (h : B113_0 fuel st K = some r) : evalCode tab (G113 fuel) (J113_0 fuel) kp113 fuel (.block 0 (.loop (bodyOf 0 Try.f113))) st K = some r := by
  unfold B113_0 at h
  split at h
  · rename_i s hs
    split at h
    · skip
      obtain ⟨hb, h⟩ := cond_some' h
      simp only [Bool.and_eq_true, Nat.beq_eq, decide_eq_true_eq] at hb
      obtain ⟨⟨⟨⟨⟨rfl, rfl⟩, rfl⟩, rfl⟩, rfl⟩, rfl⟩ := hb
      exact blk_loop (S := T113_0) (ks := E113_0) (step := S_coder_Valid_0 fuel) (v := (_, _, _, _)) (by kernel_rfl) (by kernel_rfl) (fun R K v => by obtain ⟨x0, x1, x2, x3⟩ := v; exact S113_0_ok fuel R K x0 x1 x2 x3) hs h
    · cases h
  · cases h
noncomputable def J113 (fuel : Nat) (i : Nat) : Option Ev.Blk := Ev.look i [(100000, B113_0 fuel)]
noncomputable def F_coder_Valid (fuel : Nat) (x0 : Int) (x1 : (List Int)) (k0 : (Bool) → Option Ans) : Option Ans :=
  bif x0 != (0 : Int) then
  bif x0 != (1 : Int) then
  k0 false
  else
  bif decide ((↑x1.length : Int) > (8192 : Int)) then
  k0 false
  else
  bif x0 == (1 : Int) then
  (L_coder_Valid_0 fuel ((65536 : Int), x1, (↑x1.length : Int), (0 : Int))
  (fun ret0_0 =>
  k0 ret0_0)
  (fun () =>
  k0 true))
  else
  (L_coder_Valid_0 fuel ((64 : Int), x1, (↑x1.length : Int), (0 : Int))
  (fun ret0_0 =>
  k0 ret0_0)
  (fun () =>
  k0 true))
  else
  bif decide ((↑x1.length : Int) > (8192 : Int)) then
  k0 false
  else
  bif x0 == (1 : Int) then
  (L_coder_Valid_0 fuel ((65536 : Int), x1, (↑x1.length : Int), (0 : Int))
  (fun ret0_0 =>
  k0 ret0_0)
  (fun () =>
  k0 true))
  else
  (L_coder_Valid_0 fuel ((64 : Int), x1, (↑x1.length : Int), (0 : Int))
  (fun ret0_0 =>
  k0 ret0_0)
  (fun () =>
  k0 true))
abbrev YF113 : Type := (Int) → ((List Int)) → ((Bool) → Option Ans) → Option Ans
theorem F113_eq (fuel : Nat) (x0 : Int) (x1 : (List Int)) (k : Ev.Cont) : evalFn tab (G113 fuel) (J113 fuel) kp113 fuel Try.f113 [.agg [.int .i64 x0, .sl (.int .i64) x1]] [] k = F_coder_Valid fuel x0 x1 (fun r => match r with | r0 => k (.c (.bool r0), [])) := by
  kernel_rfl
theorem hG113 (fuel : Nat) : GOK Try.prog (G113 fuel) :=
  gok_nil
theorem B113_0_blk (fuel : Nat) : BlkOK Try.prog Try.f113.ntmps (.block 0 (.loop (bodyOf 0 Try.f113))) (B113_0 fuel) :=
  blk_of (blk_of_code tab_ok (hG113 fuel) mixed (J := J113_0 fuel) (kp := kp113) (fuel := fuel) (by kernel_rfl) (fun q hq => by
    rw [(by kernel_rfl : obl (J113_0 fuel) (.block 0 (.loop (bodyOf 0 Try.f113))) = [])] at hq
    cases hq)) (B113_0_ok fuel)
theorem fok113 (fuel : Nat) : FnOK Try.prog 113 (evalFn tab (G113 fuel) (J113 fuel) kp113 fuel Try.f113) :=
  fn_ok tab_ok (hG113 fuel) mixed Try.func113 (c := (Try.f113.body).getD .skip) rfl (fun q hq => by
    rw [(by kernel_rfl : obl (J113 fuel) ((Try.f113.body).getD .skip) = [(.block 0 (.loop (bodyOf 0 Try.f113)), B113_0 fuel)])] at hq
    simp only [List.mem_cons, List.not_mem_nil, or_false] at hq
    subst hq
    · exact B113_0_blk fuel)
noncomputable def mt113 : List Ev.SV → List Ev.Ob → Bool := fun args objs => match args, objs with
 | [.agg [.int .i64 _, .sl (.int .i64) _]], [] => true
 | _, _ => false
noncomputable def spg113 (F : YF113) : Ev.Spec := fun args objs k => match args, objs with
 | [.agg [.int .i64 x0, .sl (.int .i64) x1]], [] => bif true then F x0 x1 (fun r => match r with | r0 => k (.c (.bool r0), [])) else none
 | _, _ => none
noncomputable def spec113 (fuel : Nat) : Ev.Spec := spg113 (F_coder_Valid fuel)
theorem ok113 (fuel : Nat) : FnOK Try.prog 113 (spec113 fuel) := by
  intro args objs kk r h
  unfold spec113 spg113 at h
  split at h
  · skip
    obtain ⟨hb, h⟩ := cond_some' h
    simp only [Bool.and_eq_true, Nat.beq_eq, decide_eq_true_eq] at hb
    clear hb
    exact fok113 fuel _ _ kk r ((F113_eq fuel _ _ kk).trans h)
  · cases h
end Go.Proofs.Ytihfgpfofmjbaaa

set_option linter.unusedVariables false
set_option linter.unusedSimpArgs false
set_option maxRecDepth 100000
set_option maxHeartbeats 2000000
namespace Go.Proofs.Ytihfgpfofmjbaaa
open Go Ev
def kp178 (i : Nat) : Option (List Nat) := Ev.look i [(4, [0, 1, 2, 4]), (100000, [0, 1]), (400000, [0])]
noncomputable def Gg178 (f : Nat) : Option Ev.Spec := Ev.look f []
noncomputable def G178 (fuel : Nat) : Nat → Option Ev.Spec := Gg178
noncomputable def J178 (fuel : Nat) (i : Nat) : Option Ev.Blk := Ev.look i []
noncomputable def F_coder_chances (fuel : Nat)  (k0 : (Unit) → Option Ans) : Option Ans :=
  k0 ()
abbrev YF178 : Type := ((Unit) → Option Ans) → Option Ans
theorem F178_eq (fuel : Nat)  (k : Ev.Cont) : evalFn tab (G178 fuel) (J178 fuel) kp178 100 Try.f178 [] [] k = F_coder_chances fuel  (fun r => match r with | () => k (.agg (ctb []), [])) := by
  kernel_rfl
theorem hG178 (fuel : Nat) : GOK Try.prog (G178 fuel) :=
  gok_nil
theorem fok178 (fuel : Nat) : FnOK Try.prog 178 (evalFn tab (G178 fuel) (J178 fuel) kp178 100 Try.f178) :=
  fn_ok tab_ok (hG178 fuel) mixed Try.func178 (c := (Try.f178.body).getD .skip) rfl (fun q hq => by
    rw [(by kernel_rfl : obl (J178 fuel) ((Try.f178.body).getD .skip) = [])] at hq
    cases hq)
noncomputable def mt178 : List Ev.SV → List Ev.Ob → Bool := fun args objs => match args, objs with
 | [], [] => true
 | _, _ => false
noncomputable def spg178 (F : YF178) : Ev.Spec := fun args objs k => match args, objs with
 | [], [] => bif true then F  (fun r => match r with | () => k (.agg (ctb []), [])) else none
 | _, _ => none
noncomputable def spec178 (fuel : Nat) : Ev.Spec := spg178 (F_coder_chances fuel)
theorem ok178 (fuel : Nat) : FnOK Try.prog 178 (spec178 fuel) := by
  intro args objs kk r h
  unfold spec178 spg178 at h
  split at h
  · skip
    obtain ⟨hb, h⟩ := cond_some' h
    simp only [Bool.and_eq_true, Nat.beq_eq, decide_eq_true_eq] at hb
    clear hb
    exact fok178 fuel _ _ kk r ((F178_eq fuel kk).trans h)
  · cases h
end Go.Proofs.Ytihfgpfofmjbaaa

set_option linter.unusedVariables false
set_option linter.unusedSimpArgs false
set_option maxRecDepth 100000
set_option maxHeartbeats 2000000
namespace Go.Proofs.Ytihfgpfofmjbaaa
open Go Ev
def kp170 (i : Nat) : Option (List Nat) := Ev.look i [(200001, [1])]
noncomputable def Gg170 (f : Nat) : Option Ev.Spec := Ev.look f []
noncomputable def G170 (fuel : Nat) : Nat → Option Ev.Spec := Gg170
noncomputable def J170 (fuel : Nat) (i : Nat) : Option Ev.Blk := Ev.look i []
noncomputable def F_coder_clone (fuel : Nat) (x0 : Int) (x1 : (List Int)) (k0 : (Int × (List Int)) → Option Ans) : Option Ans :=
  bif decide (((0 : Nat) + x1.length) * (8 : Nat) ≤ (140737488355328 : Nat) ∧ (0 : Nat) + x1.length ≤ (140737488355328 : Nat)) then
  k0 (x0, [] ++ x1)
  else none
abbrev YF170 : Type := (Int) → ((List Int)) → ((Int × (List Int)) → Option Ans) → Option Ans
theorem F170_eq (fuel : Nat) (x0 : Int) (x1 : (List Int)) (k : Ev.Cont) : evalFn tab (G170 fuel) (J170 fuel) kp170 fuel Try.f170 [.agg [.int .i64 x0, .sl (.int .i64) x1]] [] k = F_coder_clone fuel x0 x1 (fun r => match r with | (r0, r1) => k (.agg [.int .i64 r0, .own 0], [.vec 3 (.int .i64) r1 true])) := by
  kernel_rfl
theorem hG170 (fuel : Nat) : GOK Try.prog (G170 fuel) :=
  gok_nil
theorem fok170 (fuel : Nat) : FnOK Try.prog 170 (evalFn tab (G170 fuel) (J170 fuel) kp170 fuel Try.f170) :=
  fn_ok tab_ok (hG170 fuel) mixed Try.func170 (c := (Try.f170.body).getD .skip) rfl (fun q hq => by
    rw [(by kernel_rfl : obl (J170 fuel) ((Try.f170.body).getD .skip) = [])] at hq
    cases hq)
noncomputable def mt170 : List Ev.SV → List Ev.Ob → Bool := fun args objs => match args, objs with
 | [.agg [.int .i64 _, .sl (.int .i64) _]], [] => true
 | _, _ => false
noncomputable def spg170 (F : YF170) : Ev.Spec := fun args objs k => match args, objs with
 | [.agg [.int .i64 x0, .sl (.int .i64) x1]], [] => bif true then F x0 x1 (fun r => match r with | (r0, r1) => k (.agg [.int .i64 r0, .own 0], [.vec 3 (.int .i64) r1 true])) else none
 | _, _ => none
noncomputable def spec170 (fuel : Nat) : Ev.Spec := spg170 (F_coder_clone fuel)
theorem ok170 (fuel : Nat) : FnOK Try.prog 170 (spec170 fuel) := by
  intro args objs kk r h
  unfold spec170 spg170 at h
  split at h
  · skip
    obtain ⟨hb, h⟩ := cond_some' h
    simp only [Bool.and_eq_true, Nat.beq_eq, decide_eq_true_eq] at hb
    clear hb
    exact fok170 fuel _ _ kk r ((F170_eq fuel _ _ kk).trans h)
  · cases h
end Go.Proofs.Ytihfgpfofmjbaaa

set_option linter.unusedVariables false
set_option linter.unusedSimpArgs false
set_option maxRecDepth 100000
set_option maxHeartbeats 2000000
namespace Go.Proofs.Ytihfgpfofmjbaaa
open Go Ev
def kp114 (i : Nat) : Option (List Nat) := Ev.look i []
noncomputable def Gg114 (f170 : YF170) (f178 : YF178) (f : Nat) : Option Ev.Spec := Ev.look f [(170, spg170 f170), (178, spg178 f178)]
noncomputable def G114 (fuel : Nat) : Nat → Option Ev.Spec := Gg114 (F_coder_clone fuel) (F_coder_chances fuel)
noncomputable def J114 (fuel : Nat) (i : Nat) : Option Ev.Blk := Ev.look i []
noncomputable def Fg_coder_begin (fuel : Nat) (f170 : YF170) (f178 : YF178) (x0 : Int) (x1 : (List Int)) (k0 : (Int × Int × Int × (List Int)) → Option Ans) : Option Ans :=
  (f170 (x0) (x1)
  (fun (y2_0, y2_1) =>
  (f178
  (fun y6 =>
  k0 (y2_0, (0 : Int), (4294967295 : Int), y2_1)))))
noncomputable def F_coder_begin (fuel : Nat) (x0 : Int) (x1 : (List Int)) (k0 : (Int × Int × Int × (List Int)) → Option Ans) : Option Ans := Fg_coder_begin fuel (F_coder_clone fuel) (F_coder_chances fuel) x0 x1 k0
abbrev YF114 : Type := (Int) → ((List Int)) → ((Int × Int × Int × (List Int)) → Option Ans) → Option Ans
theorem F114_eqg (fuel : Nat) (f170 : YF170) (f178 : YF178) (x0 : Int) (x1 : (List Int)) (k : Ev.Cont) : evalFn tab (Gg114 f170 f178) (J114 fuel) kp114 fuel Try.f114 [.agg [.int .i64 x0, .sl (.int .i64) x1]] [] k = Fg_coder_begin fuel f170 f178 x0 x1 (fun r => match r with | (r0, r1, r2, r3) => k (.agg (.int .i64 r0 :: .own 0 :: ctb (.int .u64 r1 :: .int .u64 r2 :: [])), [.vec 3 (.int .i64) r3 true])) := by
  kernel_rfl
theorem F114_eq (fuel : Nat) (x0 : Int) (x1 : (List Int)) (k : Ev.Cont) : evalFn tab (G114 fuel) (J114 fuel) kp114 fuel Try.f114 [.agg [.int .i64 x0, .sl (.int .i64) x1]] [] k = F_coder_begin fuel x0 x1 (fun r => match r with | (r0, r1, r2, r3) => k (.agg (.int .i64 r0 :: .own 0 :: ctb (.int .u64 r1 :: .int .u64 r2 :: [])), [.vec 3 (.int .i64) r3 true])) :=
  F114_eqg fuel (F_coder_clone fuel) (F_coder_chances fuel) x0 x1 k
theorem hG114 (fuel : Nat) : GOK Try.prog (G114 fuel) :=
  gok_cons ⟨ok170 fuel, enters_of Try.func170 (by kernel_rfl) rfl⟩ <|
  gok_cons ⟨ok178 fuel, enters_of Try.func178 (by kernel_rfl) rfl⟩ <|
  gok_nil
theorem fok114 (fuel : Nat) : FnOK Try.prog 114 (evalFn tab (G114 fuel) (J114 fuel) kp114 fuel Try.f114) :=
  fn_ok tab_ok (hG114 fuel) mixed Try.func114 (c := (Try.f114.body).getD .skip) rfl (fun q hq => by
    rw [(by kernel_rfl : obl (J114 fuel) ((Try.f114.body).getD .skip) = [])] at hq
    cases hq)
noncomputable def mt114 : List Ev.SV → List Ev.Ob → Bool := fun args objs => match args, objs with
 | [.agg [.int .i64 _, .sl (.int .i64) _]], [] => true
 | _, _ => false
noncomputable def spg114 (F : YF114) : Ev.Spec := fun args objs k => match args, objs with
 | [.agg [.int .i64 x0, .sl (.int .i64) x1]], [] => bif true then F x0 x1 (fun r => match r with | (r0, r1, r2, r3) => k (.agg (.int .i64 r0 :: .own 0 :: ctb (.int .u64 r1 :: .int .u64 r2 :: [])), [.vec 3 (.int .i64) r3 true])) else none
 | _, _ => none
noncomputable def spec114 (fuel : Nat) : Ev.Spec := spg114 (F_coder_begin fuel)
theorem ok114 (fuel : Nat) : FnOK Try.prog 114 (spec114 fuel) := by
  intro args objs kk r h
  unfold spec114 spg114 at h
  split at h
  · skip
    obtain ⟨hb, h⟩ := cond_some' h
    simp only [Bool.and_eq_true, Nat.beq_eq, decide_eq_true_eq] at hb
    clear hb
    exact fok114 fuel _ _ kk r ((F114_eq fuel _ _ kk).trans h)
  · cases h
end Go.Proofs.Ytihfgpfofmjbaaa

set_option linter.unusedVariables false
set_option linter.unusedSimpArgs false
set_option maxRecDepth 100000
set_option maxHeartbeats 2000000
namespace Go.Proofs.Ytihfgpfofmjbaaa
open Go Ev
def kp42 (i : Nat) : Option (List Nat) := Ev.look i [(5, [6, 17]), (100000, [6]), (400000, [4, 5]), (600000, [])]
noncomputable def Gg42 (f113 : YF113) (f114 : YF114) (f115_40a : YF115_40a) (f : Nat) : Option Ev.Spec := Ev.look f [(113, spg113 f113), (114, spg114 f114), (115, spg115_40a f115_40a)]
noncomputable def G42 (fuel : Nat) : Nat → Option Ev.Spec := Gg42 (F_coder_Valid fuel) (F_coder_begin fuel) (F_coder_Decoder_shift_40a fuel)
noncomputable def Sg_coder_NewDecoder_0 (fuel : Nat) (f113 : YF113) (f114 : YF114) (f115_40a : YF115_40a) (x0 x1 : Int) (x2 x3 : Int) (x4 x5 x6 : Int) (x7 x8 : Bool) (x9 x10 : (List Int)) (c : (Int × Int × Int × Int × Int × Int × Int × Bool × Bool × (List Int) × (List Int)) → Option Ans) (B : (Int × Int × Int × Int × Int × Int × Bool × Bool × (List Int) × (List Int) → Option Ans)) : Option Ans := match B with
 | b =>
  bif decide (x0 < (4 : Int)) then
  (f115_40a (x1) (x2) (x3) (x4) (x5) (x6) (x7) (x8) (x9) (x10)
  (fun (y3_0, y3_1, y3_2, y3_3, y3_4, y3_5, y3_6, y3_7, y3_8, y3_9) =>
  c (IntKind.i64.wrap (x0 + (1 : Int)), y3_0, y3_1, y3_2, y3_3, y3_4, y3_5, y3_6, y3_7, y3_8, y3_9)))
  else
  b (x1, x2, x3, x4, x5, x6, x7, x8, x9, x10)
noncomputable def S_coder_NewDecoder_0 (fuel : Nat) (v : Int × Int × Int × Int × Int × Int × Int × Bool × Bool × (List Int) × (List Int)) (c : (Int × Int × Int × Int × Int × Int × Int × Bool × Bool × (List Int) × (List Int)) → Option Ans) (B : (Int × Int × Int × Int × Int × Int × Bool × Bool × (List Int) × (List Int) → Option Ans)) : Option Ans := match v with
 | (x0, x1, x2, x3, x4, x5, x6, x7, x8, x9, x10) => Sg_coder_NewDecoder_0 fuel (F_coder_Valid fuel) (F_coder_begin fuel) (F_coder_Decoder_shift_40a fuel) x0 x1 x2 x3 x4 x5 x6 x7 x8 x9 x10 c B
noncomputable def L_coder_NewDecoder_0 (fuel : Nat) (v : Int × Int × Int × Int × Int × Int × Int × Bool × Bool × (List Int) × (List Int)) (b : (Int × Int × Int × Int × Int × Int × Bool × Bool × (List Int) × (List Int) → Option Ans)) : Option Ans := iter (S_coder_NewDecoder_0 fuel) fuel v b
noncomputable def J42_0 (fuel : Nat) (i : Nat) : Option Ev.Blk := Ev.look i []
noncomputable def T42_0 (v : Int × Int × Int × Int × Int × Int × Int × Bool × Bool × (List Int) × (List Int)) : Ev.St := match v with | (x0, x1, x2, x3, x4, x5, x6, x7, x8, x9, x10) => ⟨[(6, .c (.ptr 0 0)), (17, .c (.int .i64 x0))], [(0, .cells 158 (.int .i64 x1 :: .own 1 :: ctb (.int .u64 x2 :: .int .u64 x3 :: .own 2 :: .int .i64 x4 :: .int .u64 x5 :: .int .i64 x6 :: .bool x7 :: .bool x8 :: []))), (1, .vec 3 (.int .i64) x9 true), (2, .vec 5 (.int .u8) x10 true)], 3, 0⟩
noncomputable def E42_0 (K : Ev.Ex → Ev.St → Option Ans) : (Int × Int × Int × Int × Int × Int × Bool × Bool × (List Int) × (List Int) → Option Ans) := (fun v => match v with | (x0, x1, x2, x3, x4, x5, x6, x7, x8, x9) => K .normal ⟨[(6, .c (.ptr 0 0))], [(0, .cells 158 (.int .i64 x0 :: .own 1 :: ctb (.int .u64 x1 :: .int .u64 x2 :: .own 2 :: .int .i64 x3 :: .int .u64 x4 :: .int .i64 x5 :: .bool x6 :: .bool x7 :: []))), (1, .vec 3 (.int .i64) x8 true), (2, .vec 5 (.int .u8) x9 true)], 3, 0⟩)
theorem S42_0_okg (fuel : Nat) (f113 : YF113) (f114 : YF114) (f115_40a : YF115_40a) (R : Ev.St → Option Ans) (K : Ev.Ex → Ev.St → Option Ans) (x0 x1 : Int) (x2 x3 : Int) (x4 x5 x6 : Int) (x7 x8 : Bool) (x9 x10 : (List Int)) : evalCode tab (Gg42 f113 f114 f115_40a) (J42_0 fuel) kp42 fuel (bodyOf 0 Try.f42) (T42_0 (x0, x1, x2, x3, x4, x5, x6, x7, x8, x9, x10)) (lc kp42 5 0 R K) = Sg_coder_NewDecoder_0 fuel f113 f114 f115_40a x0 x1 x2 x3 x4 x5 x6 x7 x8 x9 x10 (fun v => R (T42_0 v)) (E42_0 K) := by
  kernel_rfl
theorem S42_0_ok (fuel : Nat) (R : Ev.St → Option Ans) (K : Ev.Ex → Ev.St → Option Ans) (x0 x1 : Int) (x2 x3 : Int) (x4 x5 x6 : Int) (x7 x8 : Bool) (x9 x10 : (List Int)) : evalCode tab (G42 fuel) (J42_0 fuel) kp42 fuel (bodyOf 0 Try.f42) (T42_0 (x0, x1, x2, x3, x4, x5, x6, x7, x8, x9, x10)) (lc kp42 5 0 R K) = S_coder_NewDecoder_0 fuel (x0, x1, x2, x3, x4, x5, x6, x7, x8, x9, x10) (fun v => R (T42_0 v)) (E42_0 K) :=
  S42_0_okg fuel (F_coder_Valid fuel) (F_coder_begin fuel) (F_coder_Decoder_shift_40a fuel) R K x0 x1 x2 x3 x4 x5 x6 x7 x8 x9 x10
noncomputable def B42_0 (fuel : Nat) : Ev.Blk := fun st K => match canonO (kp42 5) st with
 | some s => (match s with
 | ⟨[(q0, .c (.ptr q1 q2)), (q3, .c (.int .i64 x0))], [(q4, .cells q5 cs0), (q6, .vec q7 (.int .i64) x9 true), (q8, .vec q9 (.int .u8) x10 true)], q10, q11⟩ => (match splitRun 2 ctn cs0 with | some ([.int .i64 x1, .own q12], [.int .u64 x2, .int .u64 x3, .own q13, .int .i64 x4, .int .u64 x5, .int .i64 x6, .bool x7, .bool x8]) => bif Nat.beq q0 6 && Nat.beq q1 0 && Nat.beq q2 0 && Nat.beq q3 17 && Nat.beq q4 0 && Nat.beq q5 158 && Nat.beq q6 1 && Nat.beq q7 3 && Nat.beq q8 2 && Nat.beq q9 5 && Nat.beq q10 3 && Nat.beq q11 0 && Nat.beq q12 1 && Nat.beq q13 2 then iter (S_coder_NewDecoder_0 fuel) fuel (x0, x1, x2, x3, x4, x5, x6, x7, x8, x9, x10) (E42_0 K) else none | _ => none)
 | _ => none)
 | none => none
theorem B42_0_ok (fuel : Nat) (st : Ev.St) (K : Ev.Ex → Ev.St → Option Ans) (r : Ans) (h : B42_0 fuel st K = some r) : evalCode tab (G42 fuel) (J42_0 fuel) kp42 fuel (.block 0 (.loop (bodyOf 0 Try.f42))) st K = some r := by
  unfold B42_0 at h
  split at h
  · rename_i s hs
    split at h
    · skip
      split at h
      rotate_left 1
      · cases h
      rename_i hsp
      have esp := splitRun_eq hsp
      subst esp
      obtain ⟨hb, h⟩ := cond_some' h
      simp only [Bool.and_eq_true, Nat.beq_eq, decide_eq_true_eq] at hb
      obtain ⟨⟨⟨⟨⟨⟨⟨⟨⟨⟨⟨⟨⟨rfl, rfl⟩, rfl⟩, rfl⟩, rfl⟩, rfl⟩, rfl⟩, rfl⟩, rfl⟩, rfl⟩, rfl⟩, rfl⟩, rfl⟩, rfl⟩ := hb
      exact blk_loop (S := T42_0) (ks := E42_0) (step := S_coder_NewDecoder_0 fuel) (v := (_, _, _, _, _, _, _, _, _, _, _)) (by kernel_rfl) (by kernel_rfl) (fun R K v => by obtain ⟨x0, x1, x2, x3, x4, x5, x6, x7, x8, x9, x10⟩ := v; exact S42_0_ok fuel R K x0 x1 x2 x3 x4 x5 x6 x7 x8 x9 x10) hs h
    · cases h
  · cases h
noncomputable def J42 (fuel : Nat) (i : Nat) : Option Ev.Blk := Ev.look i [(100000, B42_0 fuel)]
noncomputable def Fg_coder_NewDecoder (fuel : Nat) (f113 : YF113) (f114 : YF114) (f115_40a : YF115_40a) (x0 : Int) (x1 x2 : (List Int)) (k0 : (Int) → Option Ans) (k1 : (Int × Int × Int × Int × Int × Int × Int × Bool × Bool × (List Int) × (List Int)) → Option Ans) : Option Ans :=
  (f113 (x0) (x1)
  (fun y2 =>
  bif !y2 then
  k0 ((10 : Int))
  else
  (f114 (x0) (x1)
  (fun (y7_0, y7_1, y7_2, y7_3) =>
  bif decide (((0 : Nat) + x2.length) * (1 : Nat) ≤ (140737488355328 : Nat) ∧ (0 : Nat) + x2.length ≤ (140737488355328 : Nat)) then
  (L_coder_NewDecoder_0 fuel ((0 : Int), y7_0, y7_1, y7_2, (0 : Int), (0 : Int), (0 : Int), false, true, y7_3, [] ++ x2)
  (fun (b0_0, b0_1, b0_2, b0_3, b0_4, b0_5, b0_6, b0_7, b0_8, b0_9) =>
  k1 ((0 : Int), b0_0, b0_1, b0_2, b0_3, b0_4, b0_5, b0_6, b0_7, b0_8, b0_9)))
  else none))))
noncomputable def F_coder_NewDecoder (fuel : Nat) (x0 : Int) (x1 x2 : (List Int)) (k0 : (Int) → Option Ans) (k1 : (Int × Int × Int × Int × Int × Int × Int × Bool × Bool × (List Int) × (List Int)) → Option Ans) : Option Ans := Fg_coder_NewDecoder fuel (F_coder_Valid fuel) (F_coder_begin fuel) (F_coder_Decoder_shift_40a fuel) x0 x1 x2 k0 k1
abbrev YF42 : Type := (Int) → ((List Int)) → ((List Int)) → ((Int) → Option Ans) → ((Int × Int × Int × Int × Int × Int × Int × Bool × Bool × (List Int) × (List Int)) → Option Ans) → Option Ans
theorem F42_eqg (fuel : Nat) (f113 : YF113) (f114 : YF114) (f115_40a : YF115_40a) (x0 : Int) (x1 x2 : (List Int)) (k : Ev.Cont) : evalFn tab (Gg42 f113 f114 f115_40a) (J42 fuel) kp42 fuel Try.f42 [.agg [.int .i64 x0, .sl (.int .i64) x1], .c (.sl (.int .u8) x2)] [] k = Fg_coder_NewDecoder fuel f113 f114 f115_40a x0 x1 x2 (fun r => match r with | r0 => k (.tup [(false, [.nilptr]), (false, [.int .i64 r0])], [])) (fun r => match r with | (r0, r1, r2, r3, r4, r5, r6, r7, r8, r9, r10) => k (.tup [(false, [.ptr 0 0]), (false, [.int .i64 r0])], [.cells 158 (.int .i64 r1 :: .own 1 :: ctb (.int .u64 r2 :: .int .u64 r3 :: .own 2 :: .int .i64 r4 :: .int .u64 r5 :: .int .i64 r6 :: .bool r7 :: .bool r8 :: [])), .vec 3 (.int .i64) r9 true, .vec 5 (.int .u8) r10 true])) := by
  kernel_rfl
theorem F42_eq (fuel : Nat) (x0 : Int) (x1 x2 : (List Int)) (k : Ev.Cont) : evalFn tab (G42 fuel) (J42 fuel) kp42 fuel Try.f42 [.agg [.int .i64 x0, .sl (.int .i64) x1], .c (.sl (.int .u8) x2)] [] k = F_coder_NewDecoder fuel x0 x1 x2 (fun r => match r with | r0 => k (.tup [(false, [.nilptr]), (false, [.int .i64 r0])], [])) (fun r => match r with | (r0, r1, r2, r3, r4, r5, r6, r7, r8, r9, r10) => k (.tup [(false, [.ptr 0 0]), (false, [.int .i64 r0])], [.cells 158 (.int .i64 r1 :: .own 1 :: ctb (.int .u64 r2 :: .int .u64 r3 :: .own 2 :: .int .i64 r4 :: .int .u64 r5 :: .int .i64 r6 :: .bool r7 :: .bool r8 :: [])), .vec 3 (.int .i64) r9 true, .vec 5 (.int .u8) r10 true])) :=
  F42_eqg fuel (F_coder_Valid fuel) (F_coder_begin fuel) (F_coder_Decoder_shift_40a fuel) x0 x1 x2 k
theorem hG42 (fuel : Nat) : GOK Try.prog (G42 fuel) :=
  gok_cons ⟨ok113 fuel, enters_of Try.func113 (by kernel_rfl) rfl⟩ <|
  gok_cons ⟨ok114 fuel, enters_of Try.func114 (by kernel_rfl) rfl⟩ <|
  gok_cons ⟨ok115_40a fuel, enters_of Try.func115 (by kernel_rfl) rfl⟩ <|
  gok_nil
theorem B42_0_blk (fuel : Nat) : BlkOK Try.prog Try.f42.ntmps (.block 0 (.loop (bodyOf 0 Try.f42))) (B42_0 fuel) :=
  blk_of (blk_of_code tab_ok (hG42 fuel) mixed (J := J42_0 fuel) (kp := kp42) (fuel := fuel) (by kernel_rfl) (fun q hq => by
    rw [(by kernel_rfl : obl (J42_0 fuel) (.block 0 (.loop (bodyOf 0 Try.f42))) = [])] at hq
    cases hq)) (B42_0_ok fuel)
theorem fok42 (fuel : Nat) : FnOK Try.prog 42 (evalFn tab (G42 fuel) (J42 fuel) kp42 fuel Try.f42) :=
  fn_ok tab_ok (hG42 fuel) mixed Try.func42 (c := (Try.f42.body).getD .skip) rfl (fun q hq => by
    rw [(by kernel_rfl : obl (J42 fuel) ((Try.f42.body).getD .skip) = [(.block 0 (.loop (bodyOf 0 Try.f42)), B42_0 fuel)])] at hq
    simp only [List.mem_cons, List.not_mem_nil, or_false] at hq
    subst hq
    · exact B42_0_blk fuel)
noncomputable def mt42 : List Ev.SV → List Ev.Ob → Bool := fun args objs => match args, objs with
 | [.agg [.int .i64 _, .sl (.int .i64) _], .c (.sl (.int .u8) _)], [] => true
 | _, _ => false
noncomputable def spg42 (F : YF42) : Ev.Spec := fun args objs k => match args, objs with
 | [.agg [.int .i64 x0, .sl (.int .i64) x1], .c (.sl (.int .u8) x2)], [] => bif true then F x0 x1 x2 (fun r => match r with | r0 => k (.tup [(false, [.nilptr]), (false, [.int .i64 r0])], [])) (fun r => match r with | (r0, r1, r2, r3, r4, r5, r6, r7, r8, r9, r10) => k (.tup [(false, [.ptr 0 0]), (false, [.int .i64 r0])], [.cells 158 (.int .i64 r1 :: .own 1 :: ctb (.int .u64 r2 :: .int .u64 r3 :: .own 2 :: .int .i64 r4 :: .int .u64 r5 :: .int .i64 r6 :: .bool r7 :: .bool r8 :: [])), .vec 3 (.int .i64) r9 true, .vec 5 (.int .u8) r10 true])) else none
 | _, _ => none
noncomputable def spec42 (fuel : Nat) : Ev.Spec := spg42 (F_coder_NewDecoder fuel)
theorem ok42 (fuel : Nat) : FnOK Try.prog 42 (spec42 fuel) := by
  intro args objs kk r h
  unfold spec42 spg42 at h
  split at h
  · skip
    obtain ⟨hb, h⟩ := cond_some' h
    simp only [Bool.and_eq_true, Nat.beq_eq, decide_eq_true_eq] at hb
    clear hb
    exact fok42 fuel _ _ kk r ((F42_eq fuel _ _ _ kk).trans h)
  · cases h
end Go.Proofs.Ytihfgpfofmjbaaa

set_option linter.unusedVariables false
set_option linter.unusedSimpArgs false
set_option maxRecDepth 100000
set_option maxHeartbeats 2000000
namespace Go.Proofs.Ytihfgpfofmjbaaa
open Go Ev
def kp159 (i : Nat) : Option (List Nat) := Ev.look i []
noncomputable def Gg159 (f : Nat) : Option Ev.Spec := Ev.look f []
noncomputable def G159 (fuel : Nat) : Nat → Option Ev.Spec := Gg159
noncomputable def J159 (fuel : Nat) (i : Nat) : Option Ev.Blk := Ev.look i []
noncomputable def F_bitmap_fits (fuel : Nat) (x0 x1 : Int) (k0 : (Bool) → Option Ans) : Option Ans :=
  bif decide (x0 ≥ (0 : Int)) then
  bif decide (x1 ≥ (0 : Int)) then
  bif decide (x0 ≤ (200 : Int)) then
  bif decide (x1 ≤ (200 : Int)) then
  k0 (decide (IntKind.i64.wrap (x0 * x1) ≤ (8192 : Int)))
  else
  k0 false
  else
  k0 false
  else
  k0 false
  else
  k0 false
abbrev YF159 : Type := (Int) → (Int) → ((Bool) → Option Ans) → Option Ans
theorem F159_eq (fuel : Nat) (x0 x1 : Int) (k : Ev.Cont) : evalFn tab (G159 fuel) (J159 fuel) kp159 fuel Try.f159 [.c (.int .i64 x0), .c (.int .i64 x1)] [] k = F_bitmap_fits fuel x0 x1 (fun r => match r with | r0 => k (.c (.bool r0), [])) := by
  kernel_rfl
theorem hG159 (fuel : Nat) : GOK Try.prog (G159 fuel) :=
  gok_nil
theorem fok159 (fuel : Nat) : FnOK Try.prog 159 (evalFn tab (G159 fuel) (J159 fuel) kp159 fuel Try.f159) :=
  fn_ok tab_ok (hG159 fuel) mixed Try.func159 (c := (Try.f159.body).getD .skip) rfl (fun q hq => by
    rw [(by kernel_rfl : obl (J159 fuel) ((Try.f159.body).getD .skip) = [])] at hq
    cases hq)
noncomputable def mt159 : List Ev.SV → List Ev.Ob → Bool := fun args objs => match args, objs with
 | [.c (.int .i64 _), .c (.int .i64 _)], [] => true
 | _, _ => false
noncomputable def spg159 (F : YF159) : Ev.Spec := fun args objs k => match args, objs with
 | [.c (.int .i64 x0), .c (.int .i64 x1)], [] => bif true then F x0 x1 (fun r => match r with | r0 => k (.c (.bool r0), [])) else none
 | _, _ => none
noncomputable def spec159 (fuel : Nat) : Ev.Spec := spg159 (F_bitmap_fits fuel)
theorem ok159 (fuel : Nat) : FnOK Try.prog 159 (spec159 fuel) := by
  intro args objs kk r h
  unfold spec159 spg159 at h
  split at h
  · skip
    obtain ⟨hb, h⟩ := cond_some' h
    simp only [Bool.and_eq_true, Nat.beq_eq, decide_eq_true_eq] at hb
    clear hb
    exact fok159 fuel _ _ kk r ((F159_eq fuel _ _ kk).trans h)
  · cases h
end Go.Proofs.Ytihfgpfofmjbaaa

set_option linter.unusedVariables false
set_option linter.unusedSimpArgs false
set_option maxRecDepth 100000
set_option maxHeartbeats 2000000
namespace Go.Proofs.Ytihfgpfofmjbaaa
open Go Ev
def kp149 (i : Nat) : Option (List Nat) := Ev.look i []
noncomputable def Gg149 (f159 : YF159) (f : Nat) : Option Ev.Spec := Ev.look f [(159, spg159 f159)]
noncomputable def G149 (fuel : Nat) : Nat → Option Ev.Spec := Gg149 (F_bitmap_fits fuel)
noncomputable def J149 (fuel : Nat) (i : Nat) : Option Ev.Blk := Ev.look i []
noncomputable def Fg_bitmap_blank (fuel : Nat) (f159 : YF159) (x0 x1 : Int) (k0 : (Int × Int × Int × (List Int)) → Option Ans) : Option Ans :=
  (f159 (x0) (x1)
  (fun y2 =>
  bif !y2 then
  k0 ((0 : Int), (0 : Int), (4 : Int), [])
  else
  bif decide ((0 : Int) ≤ IntKind.i64.wrap (x0 * x1) ∧ IntKind.i64.wrap (x0 * x1) = IntKind.i64.wrap (x0 * x1) ∧ (↑(1 : Nat) : Int) * IntKind.i64.wrap (x0 * x1) ≤ (281474976710656 : Int) ∧ IntKind.i64.wrap (x0 * x1) ≤ (281474976710656 : Int)) then
  k0 (x0, x1, (0 : Int), List.replicate (IntKind.i64.wrap (x0 * x1)).toNat (0 : Int))
  else none))
noncomputable def F_bitmap_blank (fuel : Nat) (x0 x1 : Int) (k0 : (Int × Int × Int × (List Int)) → Option Ans) : Option Ans := Fg_bitmap_blank fuel (F_bitmap_fits fuel) x0 x1 k0
abbrev YF149 : Type := (Int) → (Int) → ((Int × Int × Int × (List Int)) → Option Ans) → Option Ans
theorem F149_eqg (fuel : Nat) (f159 : YF159) (x0 x1 : Int) (k : Ev.Cont) : evalFn tab (Gg149 f159) (J149 fuel) kp149 fuel Try.f149 [.c (.int .i64 x0), .c (.int .i64 x1)] [] k = Fg_bitmap_blank fuel f159 x0 x1 (fun r => match r with | (r0, r1, r2, r3) => k (.tup [(true, [.int .i64 r0, .int .i64 r1, .own 0]), (false, [.int .i64 r2])], [.vec 5 (.int .u8) r3 true])) := by
  kernel_rfl
theorem F149_eq (fuel : Nat) (x0 x1 : Int) (k : Ev.Cont) : evalFn tab (G149 fuel) (J149 fuel) kp149 fuel Try.f149 [.c (.int .i64 x0), .c (.int .i64 x1)] [] k = F_bitmap_blank fuel x0 x1 (fun r => match r with | (r0, r1, r2, r3) => k (.tup [(true, [.int .i64 r0, .int .i64 r1, .own 0]), (false, [.int .i64 r2])], [.vec 5 (.int .u8) r3 true])) :=
  F149_eqg fuel (F_bitmap_fits fuel) x0 x1 k
theorem hG149 (fuel : Nat) : GOK Try.prog (G149 fuel) :=
  gok_cons ⟨ok159 fuel, enters_of Try.func159 (by kernel_rfl) rfl⟩ <|
  gok_nil
theorem fok149 (fuel : Nat) : FnOK Try.prog 149 (evalFn tab (G149 fuel) (J149 fuel) kp149 fuel Try.f149) :=
  fn_ok tab_ok (hG149 fuel) mixed Try.func149 (c := (Try.f149.body).getD .skip) rfl (fun q hq => by
    rw [(by kernel_rfl : obl (J149 fuel) ((Try.f149.body).getD .skip) = [])] at hq
    cases hq)
noncomputable def mt149 : List Ev.SV → List Ev.Ob → Bool := fun args objs => match args, objs with
 | [.c (.int .i64 _), .c (.int .i64 _)], [] => true
 | _, _ => false
noncomputable def spg149 (F : YF149) : Ev.Spec := fun args objs k => match args, objs with
 | [.c (.int .i64 x0), .c (.int .i64 x1)], [] => bif true then F x0 x1 (fun r => match r with | (r0, r1, r2, r3) => k (.tup [(true, [.int .i64 r0, .int .i64 r1, .own 0]), (false, [.int .i64 r2])], [.vec 5 (.int .u8) r3 true])) else none
 | _, _ => none
noncomputable def spec149 (fuel : Nat) : Ev.Spec := spg149 (F_bitmap_blank fuel)
theorem ok149 (fuel : Nat) : FnOK Try.prog 149 (spec149 fuel) := by
  intro args objs kk r h
  unfold spec149 spg149 at h
  split at h
  · skip
    obtain ⟨hb, h⟩ := cond_some' h
    simp only [Bool.and_eq_true, Nat.beq_eq, decide_eq_true_eq] at hb
    clear hb
    exact fok149 fuel _ _ kk r ((F149_eq fuel _ _ kk).trans h)
  · cases h
end Go.Proofs.Ytihfgpfofmjbaaa

set_option linter.unusedVariables false
set_option linter.unusedSimpArgs false
set_option maxRecDepth 100000
set_option maxHeartbeats 2000000
namespace Go.Proofs.Ytihfgpfofmjbaaa
open Go Ev
def kp76 (i : Nat) : Option (List Nat) := Ev.look i [(5, [2, 6, 8, 9, 34, 35]), (100000, [6, 8, 9]), (400000, [6, 7])]
noncomputable def Gg76 (f149 : YF149) (f : Nat) : Option Ev.Spec := Ev.look f [(149, spg149 f149)]
noncomputable def G76 (fuel : Nat) : Nat → Option Ev.Spec := Gg76 (F_bitmap_blank fuel)
noncomputable def Sg_bitmap_New_0 (fuel : Nat) (f149 : YF149) (x0 x1 : Int) (x2 x3 : Int) (x4 x5 : Int) (x6 x7 : Int) (x8 x9 : (List Int)) (c : (Int × Int × Int × Int × Int × Int × Int × Int × (List Int) × (List Int)) → Option Ans) (B : (Int × Int × Int × Int × Int × (List Int) × (List Int) → Option Ans)) : Option Ans := match B with
 | b =>
  bif decide (x3 < x2) then
  bif decide ((0 : Int) ≤ x3 ∧ x3 < (↑x9.length : Int)) then
  c (x0, x1, x2, IntKind.i64.wrap (x3 + (1 : Int)), x4, x5, x6, x7, x8, x9.set x3.toNat (IntKind.u8.wrap x0))
  else none
  else
  b (x1, x4, x5, x6, x7, x8, x9)
noncomputable def S_bitmap_New_0 (fuel : Nat) (v : Int × Int × Int × Int × Int × Int × Int × Int × (List Int) × (List Int)) (c : (Int × Int × Int × Int × Int × Int × Int × Int × (List Int) × (List Int)) → Option Ans) (B : (Int × Int × Int × Int × Int × (List Int) × (List Int) → Option Ans)) : Option Ans := match v with
 | (x0, x1, x2, x3, x4, x5, x6, x7, x8, x9) => Sg_bitmap_New_0 fuel (F_bitmap_blank fuel) x0 x1 x2 x3 x4 x5 x6 x7 x8 x9 c B
noncomputable def L_bitmap_New_0 (fuel : Nat) (v : Int × Int × Int × Int × Int × Int × Int × Int × (List Int) × (List Int)) (b : (Int × Int × Int × Int × Int × (List Int) × (List Int) → Option Ans)) : Option Ans := iter (S_bitmap_New_0 fuel) fuel v b
noncomputable def J76_0 (fuel : Nat) (i : Nat) : Option Ev.Blk := Ev.look i []
noncomputable def T76_0 (v : Int × Int × Int × Int × Int × Int × Int × Int × (List Int) × (List Int)) : Ev.St := match v with | (x0, x1, x2, x3, x4, x5, x6, x7, x8, x9) => ⟨[(2, .c (.int .i64 x0)), (6, .c (.ptr 0 0)), (8, .c (.ptr 1 0)), (9, .c (.int .i64 x1)), (34, .c (.int .i64 x2)), (35, .c (.int .i64 x3))], [(0, .cells 39 [.int .i64 x4, .int .i64 x5, .own 2]), (1, .cells 39 [.int .i64 x6, .int .i64 x7, .own 3]), (2, .vec 5 (.int .u8) x8 true), (3, .vec 5 (.int .u8) x9 true)], 4, 0⟩
noncomputable def E76_0 (K : Ev.Ex → Ev.St → Option Ans) : (Int × Int × Int × Int × Int × (List Int) × (List Int) → Option Ans) := (fun v => match v with | (x0, x1, x2, x3, x4, x5, x6) => K .normal ⟨[(6, .c (.ptr 0 0)), (8, .c (.ptr 1 0)), (9, .c (.int .i64 x0))], [(0, .cells 39 [.int .i64 x1, .int .i64 x2, .own 2]), (1, .cells 39 [.int .i64 x3, .int .i64 x4, .own 3]), (2, .vec 5 (.int .u8) x5 true), (3, .vec 5 (.int .u8) x6 true)], 4, 0⟩)
theorem S76_0_okg (fuel : Nat) (f149 : YF149) (R : Ev.St → Option Ans) (K : Ev.Ex → Ev.St → Option Ans) (x0 x1 : Int) (x2 x3 : Int) (x4 x5 : Int) (x6 x7 : Int) (x8 x9 : (List Int)) : evalCode tab (Gg76 f149) (J76_0 fuel) kp76 fuel (bodyOf 0 Try.f76) (T76_0 (x0, x1, x2, x3, x4, x5, x6, x7, x8, x9)) (lc kp76 5 0 R K) = Sg_bitmap_New_0 fuel f149 x0 x1 x2 x3 x4 x5 x6 x7 x8 x9 (fun v => R (T76_0 v)) (E76_0 K) := by
  kernel_rfl
theorem S76_0_ok (fuel : Nat) (R : Ev.St → Option Ans) (K : Ev.Ex → Ev.St → Option Ans) (x0 x1 : Int) (x2 x3 : Int) (x4 x5 : Int) (x6 x7 : Int) (x8 x9 : (List Int)) : evalCode tab (G76 fuel) (J76_0 fuel) kp76 fuel (bodyOf 0 Try.f76) (T76_0 (x0, x1, x2, x3, x4, x5, x6, x7, x8, x9)) (lc kp76 5 0 R K) = S_bitmap_New_0 fuel (x0, x1, x2, x3, x4, x5, x6, x7, x8, x9) (fun v => R (T76_0 v)) (E76_0 K) :=
  S76_0_okg fuel (F_bitmap_blank fuel) R K x0 x1 x2 x3 x4 x5 x6 x7 x8 x9
noncomputable def B76_0 (fuel : Nat) : Ev.Blk := fun st K => match canonO (kp76 5) st with
 | some s => (match s with
 | ⟨[(q0, .c (.int .i64 x0)), (q1, .c (.ptr q2 q3)), (q4, .c (.ptr q5 q6)), (q7, .c (.int .i64 x1)), (q8, .c (.int .i64 x2)), (q9, .c (.int .i64 x3))], [(q10, .cells q11 [.int .i64 x4, .int .i64 x5, .own q12]), (q13, .cells q14 [.int .i64 x6, .int .i64 x7, .own q15]), (q16, .vec q17 (.int .u8) x8 true), (q18, .vec q19 (.int .u8) x9 true)], q20, q21⟩ => bif Nat.beq q0 2 && Nat.beq q1 6 && Nat.beq q2 0 && Nat.beq q3 0 && Nat.beq q4 8 && Nat.beq q5 1 && Nat.beq q6 0 && Nat.beq q7 9 && Nat.beq q8 34 && Nat.beq q9 35 && Nat.beq q10 0 && Nat.beq q11 39 && Nat.beq q12 2 && Nat.beq q13 1 && Nat.beq q14 39 && Nat.beq q15 3 && Nat.beq q16 2 && Nat.beq q17 5 && Nat.beq q18 3 && Nat.beq q19 5 && Nat.beq q20 4 && Nat.beq q21 0 then iter (S_bitmap_New_0 fuel) fuel (x0, x1, x2, x3, x4, x5, x6, x7, x8, x9) (E76_0 K) else none
 | _ => none)
 | none => none
theorem B76_0_ok (fuel : Nat) (st : Ev.St) (K : Ev.Ex → Ev.St → Option Ans) (r : Ans) (h : B76_0 fuel st K = some r) : evalCode tab (G76 fuel) (J76_0 fuel) kp76 fuel (.block 0 (.loop (bodyOf 0 Try.f76))) st K = some r := by
  unfold B76_0 at h
  split at h
  · rename_i s hs
    split at h
    · skip
      obtain ⟨hb, h⟩ := cond_some' h
      simp only [Bool.and_eq_true, Nat.beq_eq, decide_eq_true_eq] at hb
      obtain ⟨⟨⟨⟨⟨⟨⟨⟨⟨⟨⟨⟨⟨⟨⟨⟨⟨⟨⟨⟨⟨rfl, rfl⟩, rfl⟩, rfl⟩, rfl⟩, rfl⟩, rfl⟩, rfl⟩, rfl⟩, rfl⟩, rfl⟩, rfl⟩, rfl⟩, rfl⟩, rfl⟩, rfl⟩, rfl⟩, rfl⟩, rfl⟩, rfl⟩, rfl⟩, rfl⟩ := hb
      exact blk_loop (S := T76_0) (ks := E76_0) (step := S_bitmap_New_0 fuel) (v := (_, _, _, _, _, _, _, _, _, _)) (by kernel_rfl) (by kernel_rfl) (fun R K v => by obtain ⟨x0, x1, x2, x3, x4, x5, x6, x7, x8, x9⟩ := v; exact S76_0_ok fuel R K x0 x1 x2 x3 x4 x5 x6 x7 x8 x9) hs h
    · cases h
  · cases h
noncomputable def J76 (fuel : Nat) (i : Nat) : Option Ev.Blk := Ev.look i [(100000, B76_0 fuel)]
noncomputable def Fg_bitmap_New (fuel : Nat) (f149 : YF149) (x0 x1 x2 : Int) (k0 : (Int × Int × Int × (List Int)) → Option Ans) : Option Ans :=
  bif decide (x0 < (0 : Int)) then
  k0 ((0 : Int), (0 : Int), (2 : Int), [])
  else
  bif decide (x1 < (0 : Int)) then
  k0 ((0 : Int), (0 : Int), (2 : Int), [])
  else
  bif x2 != (0 : Int) then
  bif x2 != (1 : Int) then
  k0 ((0 : Int), (0 : Int), (2 : Int), [])
  else
  (f149 (x0) (x1)
  (fun (y6_0, y6_1, y6_2, y6_3) =>
  (L_bitmap_New_0 fuel (x2, y6_2, (↑y6_3.length : Int), (0 : Int), (0 : Int), (0 : Int), y6_0, y6_1, [], y6_3)
  (fun (b0_0, b0_1, b0_2, b0_3, b0_4, b0_5, b0_6) =>
  k0 (b0_3, b0_4, b0_0, b0_6)))))
  else
  (f149 (x0) (x1)
  (fun (y5_0, y5_1, y5_2, y5_3) =>
  (L_bitmap_New_0 fuel (x2, y5_2, (↑y5_3.length : Int), (0 : Int), (0 : Int), (0 : Int), y5_0, y5_1, [], y5_3)
  (fun (b0_0, b0_1, b0_2, b0_3, b0_4, b0_5, b0_6) =>
  k0 (b0_3, b0_4, b0_0, b0_6)))))
noncomputable def F_bitmap_New (fuel : Nat) (x0 x1 x2 : Int) (k0 : (Int × Int × Int × (List Int)) → Option Ans) : Option Ans := Fg_bitmap_New fuel (F_bitmap_blank fuel) x0 x1 x2 k0
abbrev YF76 : Type := (Int) → (Int) → (Int) → ((Int × Int × Int × (List Int)) → Option Ans) → Option Ans
theorem F76_eqg (fuel : Nat) (f149 : YF149) (x0 x1 x2 : Int) (k : Ev.Cont) : evalFn tab (Gg76 f149) (J76 fuel) kp76 fuel Try.f76 [.c (.int .i64 x0), .c (.int .i64 x1), .c (.int .i64 x2)] [] k = Fg_bitmap_New fuel f149 x0 x1 x2 (fun r => match r with | (r0, r1, r2, r3) => k (.tup [(true, [.int .i64 r0, .int .i64 r1, .own 0]), (false, [.int .i64 r2])], [.vec 5 (.int .u8) r3 true])) := by
  kernel_rfl
theorem F76_eq (fuel : Nat) (x0 x1 x2 : Int) (k : Ev.Cont) : evalFn tab (G76 fuel) (J76 fuel) kp76 fuel Try.f76 [.c (.int .i64 x0), .c (.int .i64 x1), .c (.int .i64 x2)] [] k = F_bitmap_New fuel x0 x1 x2 (fun r => match r with | (r0, r1, r2, r3) => k (.tup [(true, [.int .i64 r0, .int .i64 r1, .own 0]), (false, [.int .i64 r2])], [.vec 5 (.int .u8) r3 true])) :=
  F76_eqg fuel (F_bitmap_blank fuel) x0 x1 x2 k
theorem hG76 (fuel : Nat) : GOK Try.prog (G76 fuel) :=
  gok_cons ⟨ok149 fuel, enters_of Try.func149 (by kernel_rfl) rfl⟩ <|
  gok_nil
theorem B76_0_blk (fuel : Nat) : BlkOK Try.prog Try.f76.ntmps (.block 0 (.loop (bodyOf 0 Try.f76))) (B76_0 fuel) :=
  blk_of (blk_of_code tab_ok (hG76 fuel) mixed (J := J76_0 fuel) (kp := kp76) (fuel := fuel) (by kernel_rfl) (fun q hq => by
    rw [(by kernel_rfl : obl (J76_0 fuel) (.block 0 (.loop (bodyOf 0 Try.f76))) = [])] at hq
    cases hq)) (B76_0_ok fuel)
theorem fok76 (fuel : Nat) : FnOK Try.prog 76 (evalFn tab (G76 fuel) (J76 fuel) kp76 fuel Try.f76) :=
  fn_ok tab_ok (hG76 fuel) mixed Try.func76 (c := (Try.f76.body).getD .skip) rfl (fun q hq => by
    rw [(by kernel_rfl : obl (J76 fuel) ((Try.f76.body).getD .skip) = [(.block 0 (.loop (bodyOf 0 Try.f76)), B76_0 fuel)])] at hq
    simp only [List.mem_cons, List.not_mem_nil, or_false] at hq
    subst hq
    · exact B76_0_blk fuel)
noncomputable def mt76 : List Ev.SV → List Ev.Ob → Bool := fun args objs => match args, objs with
 | [.c (.int .i64 _), .c (.int .i64 _), .c (.int .i64 _)], [] => true
 | _, _ => false
noncomputable def spg76 (F : YF76) : Ev.Spec := fun args objs k => match args, objs with
 | [.c (.int .i64 x0), .c (.int .i64 x1), .c (.int .i64 x2)], [] => bif true then F x0 x1 x2 (fun r => match r with | (r0, r1, r2, r3) => k (.tup [(true, [.int .i64 r0, .int .i64 r1, .own 0]), (false, [.int .i64 r2])], [.vec 5 (.int .u8) r3 true])) else none
 | _, _ => none
noncomputable def spec76 (fuel : Nat) : Ev.Spec := spg76 (F_bitmap_New fuel)
theorem ok76 (fuel : Nat) : FnOK Try.prog 76 (spec76 fuel) := by
  intro args objs kk r h
  unfold spec76 spg76 at h
  split at h
  · skip
    obtain ⟨hb, h⟩ := cond_some' h
    simp only [Bool.and_eq_true, Nat.beq_eq, decide_eq_true_eq] at hb
    clear hb
    exact fok76 fuel _ _ kk r ((F76_eq fuel _ _ _ kk).trans h)
  · cases h
end Go.Proofs.Ytihfgpfofmjbaaa

set_option linter.unusedVariables false
set_option linter.unusedSimpArgs false
set_option maxRecDepth 100000
set_option maxHeartbeats 2000000
namespace Go.Proofs.Ytihfgpfofmjbaaa
open Go Ev
def kp89 (i : Nat) : Option (List Nat) := Ev.look i [(4, [23, 24, 25]), (100000, []), (400000, [2])]
noncomputable def Gg89 (f159 : YF159) (f : Nat) : Option Ev.Spec := Ev.look f [(159, spg159 f159)]
noncomputable def G89 (fuel : Nat) : Nat → Option Ev.Spec := Gg89 (F_bitmap_fits fuel)
noncomputable def Sg_bitmap_Valid_0 (fuel : Nat) (f159 : YF159) (x0 : (List Int)) (x1 x2 : Int) (c : ((List Int) × Int × Int) → Option Ans) (B : (Bool → Option Ans) × (Unit → Option Ans)) : Option Ans := match B with
 | (ret, b) =>
  bif decide (x2 < x1) then
  bif decide ((0 : Int) ≤ x2 ∧ x2 < (↑x0.length : Int)) then
  bif decide (x0.getD x2.toNat (0 : Int) > (1 : Int)) then
  ret false
  else
  c (x0, x1, IntKind.i64.wrap (x2 + (1 : Int)))
  else none
  else
  b ()
noncomputable def S_bitmap_Valid_0 (fuel : Nat) (v : (List Int) × Int × Int) (c : ((List Int) × Int × Int) → Option Ans) (B : (Bool → Option Ans) × (Unit → Option Ans)) : Option Ans := match v with
 | (x0, x1, x2) => Sg_bitmap_Valid_0 fuel (F_bitmap_fits fuel) x0 x1 x2 c B
noncomputable def L_bitmap_Valid_0 (fuel : Nat) (v : (List Int) × Int × Int) (ret : (Bool → Option Ans)) (b : (Unit → Option Ans)) : Option Ans := iter (S_bitmap_Valid_0 fuel) fuel v (ret, b)
noncomputable def J89_0 (fuel : Nat) (i : Nat) : Option Ev.Blk := Ev.look i []
noncomputable def T89_0 (v : (List Int) × Int × Int) : Ev.St := match v with | (x0, x1, x2) => ⟨[(23, .c (.sl (.int .u8) x0)), (24, .c (.int .i64 x1)), (25, .c (.int .i64 x2))], [], 0, 0⟩
noncomputable def E89_0 (K : Ev.Ex → Ev.St → Option Ans) : (Bool → Option Ans) × (Unit → Option Ans) := ((fun v => match v with | x0 => K .ret ⟨[(2, .c (.bool x0))], [], 0, 0⟩), (fun v => match v with | () => K .normal ⟨[], [], 0, 0⟩))
theorem S89_0_okg (fuel : Nat) (f159 : YF159) (R : Ev.St → Option Ans) (K : Ev.Ex → Ev.St → Option Ans) (x0 : (List Int)) (x1 x2 : Int) : evalCode tab (Gg89 f159) (J89_0 fuel) kp89 fuel (bodyOf 0 Try.f89) (T89_0 (x0, x1, x2)) (lc kp89 4 0 R K) = Sg_bitmap_Valid_0 fuel f159 x0 x1 x2 (fun v => R (T89_0 v)) (E89_0 K) := by
  kernel_rfl
theorem S89_0_ok (fuel : Nat) (R : Ev.St → Option Ans) (K : Ev.Ex → Ev.St → Option Ans) (x0 : (List Int)) (x1 x2 : Int) : evalCode tab (G89 fuel) (J89_0 fuel) kp89 fuel (bodyOf 0 Try.f89) (T89_0 (x0, x1, x2)) (lc kp89 4 0 R K) = S_bitmap_Valid_0 fuel (x0, x1, x2) (fun v => R (T89_0 v)) (E89_0 K) :=
  S89_0_okg fuel (F_bitmap_fits fuel) R K x0 x1 x2
noncomputable def B89_0 (fuel : Nat) : Ev.Blk := fun st K => match canonO (kp89 4) st with
 | some s => (match s with
 | ⟨[(q0, .c (.sl (.int .u8) x0)), (q1, .c (.int .i64 x1)), (q2, .c (.int .i64 x2))], [], q3, q4⟩ => bif Nat.beq q0 23 && Nat.beq q1 24 && Nat.beq q2 25 && Nat.beq q3 0 && Nat.beq q4 0 then iter (S_bitmap_Valid_0 fuel) fuel (x0, x1, x2) (E89_0 K) else none
 | _ => none)
 | none => none
theorem B89_0_ok (fuel : Nat) (st : Ev.St) (K : Ev.Ex → Ev.St → Option Ans) (r : Ans) (h : B89_0 fuel st K = some r) : evalCode tab (G89 fuel) (J89_0 fuel) kp89 fuel (.block 0 (.loop (bodyOf 0 Try.f89))) st K = some r := by
  unfold B89_0 at h
  split at h
  · rename_i s hs
    split at h
    · skip
      obtain ⟨hb, h⟩ := cond_some' h
      simp only [Bool.and_eq_true, Nat.beq_eq, decide_eq_true_eq] at hb
      obtain ⟨⟨⟨⟨rfl, rfl⟩, rfl⟩, rfl⟩, rfl⟩ := hb
      exact blk_loop (S := T89_0) (ks := E89_0) (step := S_bitmap_Valid_0 fuel) (v := (_, _, _)) (by kernel_rfl) (by kernel_rfl) (fun R K v => by obtain ⟨x0, x1, x2⟩ := v; exact S89_0_ok fuel R K x0 x1 x2) hs h
    · cases h
  · cases h
noncomputable def J89 (fuel : Nat) (i : Nat) : Option Ev.Blk := Ev.look i [(100000, B89_0 fuel)]
noncomputable def Fg_bitmap_Valid (fuel : Nat) (f159 : YF159) (x0 x1 : Int) (x2 : (List Int)) (k0 : (Bool) → Option Ans) : Option Ans :=
  (f159 (x0) (x1)
  (fun y2 =>
  bif !y2 then
  k0 false
  else
  bif (↑x2.length : Int) != IntKind.i64.wrap (x0 * x1) then
  k0 false
  else
  (L_bitmap_Valid_0 fuel (x2, (↑x2.length : Int), (0 : Int))
  (fun ret0_0 =>
  k0 ret0_0)
  (fun () =>
  k0 true))))
noncomputable def F_bitmap_Valid (fuel : Nat) (x0 x1 : Int) (x2 : (List Int)) (k0 : (Bool) → Option Ans) : Option Ans := Fg_bitmap_Valid fuel (F_bitmap_fits fuel) x0 x1 x2 k0
abbrev YF89 : Type := (Int) → (Int) → ((List Int)) → ((Bool) → Option Ans) → Option Ans
theorem F89_eqg (fuel : Nat) (f159 : YF159) (x0 x1 : Int) (x2 : (List Int)) (k : Ev.Cont) : evalFn tab (Gg89 f159) (J89 fuel) kp89 fuel Try.f89 [.agg [.int .i64 x0, .int .i64 x1, .sl (.int .u8) x2]] [] k = Fg_bitmap_Valid fuel f159 x0 x1 x2 (fun r => match r with | r0 => k (.c (.bool r0), [])) := by
  kernel_rfl
theorem F89_eq (fuel : Nat) (x0 x1 : Int) (x2 : (List Int)) (k : Ev.Cont) : evalFn tab (G89 fuel) (J89 fuel) kp89 fuel Try.f89 [.agg [.int .i64 x0, .int .i64 x1, .sl (.int .u8) x2]] [] k = F_bitmap_Valid fuel x0 x1 x2 (fun r => match r with | r0 => k (.c (.bool r0), [])) :=
  F89_eqg fuel (F_bitmap_fits fuel) x0 x1 x2 k
theorem hG89 (fuel : Nat) : GOK Try.prog (G89 fuel) :=
  gok_cons ⟨ok159 fuel, enters_of Try.func159 (by kernel_rfl) rfl⟩ <|
  gok_nil
theorem B89_0_blk (fuel : Nat) : BlkOK Try.prog Try.f89.ntmps (.block 0 (.loop (bodyOf 0 Try.f89))) (B89_0 fuel) :=
  blk_of (blk_of_code tab_ok (hG89 fuel) mixed (J := J89_0 fuel) (kp := kp89) (fuel := fuel) (by kernel_rfl) (fun q hq => by
    rw [(by kernel_rfl : obl (J89_0 fuel) (.block 0 (.loop (bodyOf 0 Try.f89))) = [])] at hq
    cases hq)) (B89_0_ok fuel)
theorem fok89 (fuel : Nat) : FnOK Try.prog 89 (evalFn tab (G89 fuel) (J89 fuel) kp89 fuel Try.f89) :=
  fn_ok tab_ok (hG89 fuel) mixed Try.func89 (c := (Try.f89.body).getD .skip) rfl (fun q hq => by
    rw [(by kernel_rfl : obl (J89 fuel) ((Try.f89.body).getD .skip) = [(.block 0 (.loop (bodyOf 0 Try.f89)), B89_0 fuel)])] at hq
    simp only [List.mem_cons, List.not_mem_nil, or_false] at hq
    subst hq
    · exact B89_0_blk fuel)
noncomputable def mt89 : List Ev.SV → List Ev.Ob → Bool := fun args objs => match args, objs with
 | [.agg [.int .i64 _, .int .i64 _, .sl (.int .u8) _]], [] => true
 | _, _ => false
noncomputable def spg89 (F : YF89) : Ev.Spec := fun args objs k => match args, objs with
 | [.agg [.int .i64 x0, .int .i64 x1, .sl (.int .u8) x2]], [] => bif true then F x0 x1 x2 (fun r => match r with | r0 => k (.c (.bool r0), [])) else none
 | _, _ => none
noncomputable def spec89 (fuel : Nat) : Ev.Spec := spg89 (F_bitmap_Valid fuel)
theorem ok89 (fuel : Nat) : FnOK Try.prog 89 (spec89 fuel) := by
  intro args objs kk r h
  unfold spec89 spg89 at h
  split at h
  · skip
    obtain ⟨hb, h⟩ := cond_some' h
    simp only [Bool.and_eq_true, Nat.beq_eq, decide_eq_true_eq] at hb
    clear hb
    exact fok89 fuel _ _ kk r ((F89_eq fuel _ _ _ kk).trans h)
  · cases h
end Go.Proofs.Ytihfgpfofmjbaaa

set_option linter.unusedVariables false
set_option linter.unusedSimpArgs false
set_option maxRecDepth 100000
set_option maxHeartbeats 2000000
namespace Go.Proofs.Ytihfgpfofmjbaaa
open Go Ev
def kp165_40a (i : Nat) : Option (List Nat) := Ev.look i []
noncomputable def Gg165_40a (f : Nat) : Option Ev.Spec := Ev.look f []
noncomputable def G165_40a (fuel : Nat) : Nat → Option Ev.Spec := Gg165_40a
noncomputable def J165_40a (fuel : Nat) (i : Nat) : Option Ev.Blk := Ev.look i []
noncomputable def F_coder_Decoder_none_40a (fuel : Nat) (x0 x1 : Int) (x2 x3 : Int) (x4 x5 : Int) (x6 x7 : Bool) (x8 x9 : (List Int)) (k0 : (Bool × Int × Int × Int × Int × Int × Int × Bool × Bool × (List Int) × (List Int)) → Option Ans) : Option Ans :=
  k0 (!x7, x0, x1, x2, x3, x4, x5, x6, x7, x8, x9)
abbrev YF165_40a : Type := (Int) → (Int) → (Int) → (Int) → (Int) → (Int) → (Bool) → (Bool) → ((List Int)) → ((List Int)) → ((Bool × Int × Int × Int × Int × Int × Int × Bool × Bool × (List Int) × (List Int)) → Option Ans) → Option Ans
theorem F165_40a_eq (fuel : Nat) (x0 x1 : Int) (x2 x3 : Int) (x4 x5 : Int) (x6 x7 : Bool) (x8 x9 : (List Int)) (k : Ev.Cont) : evalFn tab (G165_40a fuel) (J165_40a fuel) kp165_40a fuel Try.f165 [.c (.ptr 0 0)] [.cells 158 (.int .i64 x0 :: .own 1 :: ctb (.int .u64 x1 :: .int .u64 x2 :: .own 2 :: .int .i64 x3 :: .int .u64 x4 :: .int .i64 x5 :: .bool x6 :: .bool x7 :: [])), .vec 3 (.int .i64) x8 false, .vec 5 (.int .u8) x9 false] k = F_coder_Decoder_none_40a fuel x0 x1 x2 x3 x4 x5 x6 x7 x8 x9 (fun r => match r with | (r0, r1, r2, r3, r4, r5, r6, r7, r8, r9, r10) => k (.c (.bool r0), [.cells 158 (.int .i64 r1 :: .own 1 :: ctb (.int .u64 r2 :: .int .u64 r3 :: .own 2 :: .int .i64 r4 :: .int .u64 r5 :: .int .i64 r6 :: .bool r7 :: .bool r8 :: [])), .vec 3 (.int .i64) r9 false, .vec 5 (.int .u8) r10 false])) := by
  kernel_rfl
theorem hG165_40a (fuel : Nat) : GOK Try.prog (G165_40a fuel) :=
  gok_nil
theorem fok165_40a (fuel : Nat) : FnOK Try.prog 165 (evalFn tab (G165_40a fuel) (J165_40a fuel) kp165_40a fuel Try.f165) :=
  fn_ok tab_ok (hG165_40a fuel) mixed Try.func165 (c := (Try.f165.body).getD .skip) rfl (fun q hq => by
    rw [(by kernel_rfl : obl (J165_40a fuel) ((Try.f165.body).getD .skip) = [])] at hq
    cases hq)
noncomputable def mt165_40a : List Ev.SV → List Ev.Ob → Bool := fun args objs => match args, objs with
 | [.c (.ptr q0 q1)], [.cells q2 cs0, .vec q3 (.int .i64) _ false, .vec q4 (.int .u8) _ false] => (match splitRun 2 ctn cs0 with | some ([.int .i64 _, .own q5], [.int .u64 _, .int .u64 _, .own q6, .int .i64 _, .int .u64 _, .int .i64 _, .bool _, .bool _]) => Nat.beq q0 0 && Nat.beq q1 0 && Nat.beq q2 158 && Nat.beq q3 3 && Nat.beq q4 5 && Nat.beq q5 1 && Nat.beq q6 2 | _ => false)
 | _, _ => false
noncomputable def spg165_40a (F : YF165_40a) : Ev.Spec := fun args objs k => match args, objs with
 | [.c (.ptr q0 q1)], [.cells q2 cs0, .vec q3 (.int .i64) x8 false, .vec q4 (.int .u8) x9 false] => (match splitRun 2 ctn cs0 with | some ([.int .i64 x0, .own q5], [.int .u64 x1, .int .u64 x2, .own q6, .int .i64 x3, .int .u64 x4, .int .i64 x5, .bool x6, .bool x7]) => bif Nat.beq q0 0 && Nat.beq q1 0 && Nat.beq q2 158 && Nat.beq q3 3 && Nat.beq q4 5 && Nat.beq q5 1 && Nat.beq q6 2 then F x0 x1 x2 x3 x4 x5 x6 x7 x8 x9 (fun r => match r with | (r0, r1, r2, r3, r4, r5, r6, r7, r8, r9, r10) => k (.c (.bool r0), [.cells 158 (.int .i64 r1 :: .own 1 :: ctb (.int .u64 r2 :: .int .u64 r3 :: .own 2 :: .int .i64 r4 :: .int .u64 r5 :: .int .i64 r6 :: .bool r7 :: .bool r8 :: [])), .vec 3 (.int .i64) r9 false, .vec 5 (.int .u8) r10 false])) else none | _ => none)
 | _, _ => none
noncomputable def spec165_40a (fuel : Nat) : Ev.Spec := spg165_40a (F_coder_Decoder_none_40a fuel)
theorem ok165_40a (fuel : Nat) : FnOK Try.prog 165 (spec165_40a fuel) := by
  intro args objs kk r h
  unfold spec165_40a spg165_40a at h
  split at h
  · skip
    split at h
    rotate_left 1
    · cases h
    rename_i hsp
    have esp := splitRun_eq hsp
    subst esp
    obtain ⟨hb, h⟩ := cond_some' h
    simp only [Bool.and_eq_true, Nat.beq_eq, decide_eq_true_eq] at hb
    obtain ⟨⟨⟨⟨⟨⟨rfl, rfl⟩, rfl⟩, rfl⟩, rfl⟩, rfl⟩, rfl⟩ := hb
    exact fok165_40a fuel _ _ kk r ((F165_40a_eq fuel _ _ _ _ _ _ _ _ _ _ kk).trans h)
  · cases h
end Go.Proofs.Ytihfgpfofmjbaaa

set_option linter.unusedVariables false
set_option linter.unusedSimpArgs false
set_option maxRecDepth 100000
set_option maxHeartbeats 2000000
namespace Go.Proofs.Ytihfgpfofmjbaaa
open Go Ev
def kp169_40a (i : Nat) : Option (List Nat) := Ev.look i []
noncomputable def Gg169_40a (f : Nat) : Option Ev.Spec := Ev.look f []
noncomputable def G169_40a (fuel : Nat) : Nat → Option Ev.Spec := Gg169_40a
noncomputable def J169_40a (fuel : Nat) (i : Nat) : Option Ev.Blk := Ev.look i []
noncomputable def F_coder_interval_lose_40a (fuel : Nat) (x0 x1 : Int) (x2 x3 : Int) (x4 x5 : Int) (x6 x7 : Bool) (x8 x9 : (List Int)) (k0 : (Int × Int × Int × Int × Int × Int × Int × Bool × Bool × (List Int) × (List Int)) → Option Ans) : Option Ans :=
  k0 (IntKind.u8.wrap (Ev.ishr IntKind.u64 x1 (24 : Int)), x0, Ev.iand IntKind.u64 (Ev.ishl IntKind.u64 x1 (8 : Int)) (4294967295 : Int), Ev.ior IntKind.u64 (Ev.iand IntKind.u64 (Ev.ishl IntKind.u64 x2 (8 : Int)) (4294967295 : Int)) (255 : Int), x3, x4, x5, x6, x7, x8, x9)
abbrev YF169_40a : Type := (Int) → (Int) → (Int) → (Int) → (Int) → (Int) → (Bool) → (Bool) → ((List Int)) → ((List Int)) → ((Int × Int × Int × Int × Int × Int × Int × Bool × Bool × (List Int) × (List Int)) → Option Ans) → Option Ans
theorem F169_40a_eq (fuel : Nat) (x0 x1 : Int) (x2 x3 : Int) (x4 x5 : Int) (x6 x7 : Bool) (x8 x9 : (List Int)) (k : Ev.Cont) : evalFn tab (G169_40a fuel) (J169_40a fuel) kp169_40a fuel Try.f169 [.c (.ptr 0 0)] [.cells 158 (.int .i64 x0 :: .own 1 :: ctb (.int .u64 x1 :: .int .u64 x2 :: .own 2 :: .int .i64 x3 :: .int .u64 x4 :: .int .i64 x5 :: .bool x6 :: .bool x7 :: [])), .vec 3 (.int .i64) x8 false, .vec 5 (.int .u8) x9 false] k = F_coder_interval_lose_40a fuel x0 x1 x2 x3 x4 x5 x6 x7 x8 x9 (fun r => match r with | (r0, r1, r2, r3, r4, r5, r6, r7, r8, r9, r10) => k (.c (.int .u8 r0), [.cells 158 (.int .i64 r1 :: .own 1 :: ctb (.int .u64 r2 :: .int .u64 r3 :: .own 2 :: .int .i64 r4 :: .int .u64 r5 :: .int .i64 r6 :: .bool r7 :: .bool r8 :: [])), .vec 3 (.int .i64) r9 false, .vec 5 (.int .u8) r10 false])) := by
  kernel_rfl
theorem hG169_40a (fuel : Nat) : GOK Try.prog (G169_40a fuel) :=
  gok_nil
theorem fok169_40a (fuel : Nat) : FnOK Try.prog 169 (evalFn tab (G169_40a fuel) (J169_40a fuel) kp169_40a fuel Try.f169) :=
  fn_ok tab_ok (hG169_40a fuel) mixed Try.func169 (c := (Try.f169.body).getD .skip) rfl (fun q hq => by
    rw [(by kernel_rfl : obl (J169_40a fuel) ((Try.f169.body).getD .skip) = [])] at hq
    cases hq)
noncomputable def mt169_40a : List Ev.SV → List Ev.Ob → Bool := fun args objs => match args, objs with
 | [.c (.ptr q0 q1)], [.cells q2 cs0, .vec q3 (.int .i64) _ false, .vec q4 (.int .u8) _ false] => (match splitRun 2 ctn cs0 with | some ([.int .i64 _, .own q5], [.int .u64 _, .int .u64 _, .own q6, .int .i64 _, .int .u64 _, .int .i64 _, .bool _, .bool _]) => Nat.beq q0 0 && Nat.beq q1 0 && Nat.beq q2 158 && Nat.beq q3 3 && Nat.beq q4 5 && Nat.beq q5 1 && Nat.beq q6 2 | _ => false)
 | _, _ => false
noncomputable def spg169_40a (F : YF169_40a) : Ev.Spec := fun args objs k => match args, objs with
 | [.c (.ptr q0 q1)], [.cells q2 cs0, .vec q3 (.int .i64) x8 false, .vec q4 (.int .u8) x9 false] => (match splitRun 2 ctn cs0 with | some ([.int .i64 x0, .own q5], [.int .u64 x1, .int .u64 x2, .own q6, .int .i64 x3, .int .u64 x4, .int .i64 x5, .bool x6, .bool x7]) => bif Nat.beq q0 0 && Nat.beq q1 0 && Nat.beq q2 158 && Nat.beq q3 3 && Nat.beq q4 5 && Nat.beq q5 1 && Nat.beq q6 2 then F x0 x1 x2 x3 x4 x5 x6 x7 x8 x9 (fun r => match r with | (r0, r1, r2, r3, r4, r5, r6, r7, r8, r9, r10) => k (.c (.int .u8 r0), [.cells 158 (.int .i64 r1 :: .own 1 :: ctb (.int .u64 r2 :: .int .u64 r3 :: .own 2 :: .int .i64 r4 :: .int .u64 r5 :: .int .i64 r6 :: .bool r7 :: .bool r8 :: [])), .vec 3 (.int .i64) r9 false, .vec 5 (.int .u8) r10 false])) else none | _ => none)
 | _, _ => none
noncomputable def spec169_40a (fuel : Nat) : Ev.Spec := spg169_40a (F_coder_interval_lose_40a fuel)
theorem ok169_40a (fuel : Nat) : FnOK Try.prog 169 (spec169_40a fuel) := by
  intro args objs kk r h
  unfold spec169_40a spg169_40a at h
  split at h
  · skip
    split at h
    rotate_left 1
    · cases h
    rename_i hsp
    have esp := splitRun_eq hsp
    subst esp
    obtain ⟨hb, h⟩ := cond_some' h
    simp only [Bool.and_eq_true, Nat.beq_eq, decide_eq_true_eq] at hb
    obtain ⟨⟨⟨⟨⟨⟨rfl, rfl⟩, rfl⟩, rfl⟩, rfl⟩, rfl⟩, rfl⟩ := hb
    exact fok169_40a fuel _ _ kk r ((F169_40a_eq fuel _ _ _ _ _ _ _ _ _ _ kk).trans h)
  · cases h
end Go.Proofs.Ytihfgpfofmjbaaa

set_option linter.unusedVariables false
set_option linter.unusedSimpArgs false
set_option maxRecDepth 100000
set_option maxHeartbeats 2000000
namespace Go.Proofs.Ytihfgpfofmjbaaa
open Go Ev
def kp200_bb9 (i : Nat) : Option (List Nat) := Ev.look i []
noncomputable def Gg200_bb9 (f : Nat) : Option Ev.Spec := Ev.look f []
noncomputable def G200_bb9 (fuel : Nat) : Nat → Option Ev.Spec := Gg200_bb9
noncomputable def J200_bb9 (fuel : Nat) (i : Nat) : Option Ev.Blk := Ev.look i []
noncomputable def F_coder_table_chance_bb9 (fuel : Nat) (x0 x1 : Int) (k0 : (Int) → Option Ans) : Option Ans :=
  bif x0 == (1 : Int) then
  bif decide (IntKind.i64.wrap (IntKind.i64.wrap (IntKind.i64.wrap ((2 : Int) * IntKind.i64.wrap (x1.tdiv (256 : Int))) + IntKind.i64.wrap ((2 : Int) * x1.tmod (256 : Int))) + (2 : Int)) = (0 : Int)) then
  none
  else
  k0 (bif decide ((4095 : Int) < bif decide ((1 : Int) > IntKind.i64.wrap ((IntKind.i64.wrap (IntKind.i64.wrap (IntKind.i64.wrap ((2 : Int) * x1.tmod (256 : Int)) + (1 : Int)) * (4096 : Int))).tdiv (IntKind.i64.wrap (IntKind.i64.wrap (IntKind.i64.wrap ((2 : Int) * IntKind.i64.wrap (x1.tdiv (256 : Int))) + IntKind.i64.wrap ((2 : Int) * x1.tmod (256 : Int))) + (2 : Int))))) then (1 : Int) else IntKind.i64.wrap ((IntKind.i64.wrap (IntKind.i64.wrap (IntKind.i64.wrap ((2 : Int) * x1.tmod (256 : Int)) + (1 : Int)) * (4096 : Int))).tdiv (IntKind.i64.wrap (IntKind.i64.wrap (IntKind.i64.wrap ((2 : Int) * IntKind.i64.wrap (x1.tdiv (256 : Int))) + IntKind.i64.wrap ((2 : Int) * x1.tmod (256 : Int))) + (2 : Int))))) then (4095 : Int) else bif decide ((1 : Int) > IntKind.i64.wrap ((IntKind.i64.wrap (IntKind.i64.wrap (IntKind.i64.wrap ((2 : Int) * x1.tmod (256 : Int)) + (1 : Int)) * (4096 : Int))).tdiv (IntKind.i64.wrap (IntKind.i64.wrap (IntKind.i64.wrap ((2 : Int) * IntKind.i64.wrap (x1.tdiv (256 : Int))) + IntKind.i64.wrap ((2 : Int) * x1.tmod (256 : Int))) + (2 : Int))))) then (1 : Int) else IntKind.i64.wrap ((IntKind.i64.wrap (IntKind.i64.wrap (IntKind.i64.wrap ((2 : Int) * x1.tmod (256 : Int)) + (1 : Int)) * (4096 : Int))).tdiv (IntKind.i64.wrap (IntKind.i64.wrap (IntKind.i64.wrap ((2 : Int) * IntKind.i64.wrap (x1.tdiv (256 : Int))) + IntKind.i64.wrap ((2 : Int) * x1.tmod (256 : Int))) + (2 : Int)))))
  else
  bif decide (x1 ≥ (32 : Int)) then
  bif decide ((0 : Int) ≤ IntKind.i64.wrap (x1 - (32 : Int)) ∧ IntKind.i64.wrap (x1 - (32 : Int)) < (↑(32 : Nat) : Int)) then
  bif decide (IntKind.i64.wrap (x1 - (32 : Int)) = (↑(0 : Nat) : Int)) then
  k0 (IntKind.i64.wrap ((4096 : Int) - (2048 : Int)))
  else
  bif decide (IntKind.i64.wrap (x1 - (32 : Int)) = (↑(1 : Nat) : Int)) then
  k0 (IntKind.i64.wrap ((4096 : Int) - (1792 : Int)))
  else
  bif decide (IntKind.i64.wrap (x1 - (32 : Int)) = (↑(2 : Nat) : Int)) then
  k0 (IntKind.i64.wrap ((4096 : Int) - (1568 : Int)))
  else
  bif decide (IntKind.i64.wrap (x1 - (32 : Int)) = (↑(3 : Nat) : Int)) then
  k0 (IntKind.i64.wrap ((4096 : Int) - (1372 : Int)))
  else
  bif decide (IntKind.i64.wrap (x1 - (32 : Int)) = (↑(4 : Nat) : Int)) then
  k0 (IntKind.i64.wrap ((4096 : Int) - (1201 : Int)))
  else
  bif decide (IntKind.i64.wrap (x1 - (32 : Int)) = (↑(5 : Nat) : Int)) then
  k0 (IntKind.i64.wrap ((4096 : Int) - (1051 : Int)))
  else
  bif decide (IntKind.i64.wrap (x1 - (32 : Int)) = (↑(6 : Nat) : Int)) then
  k0 (IntKind.i64.wrap ((4096 : Int) - (920 : Int)))
  else
  bif decide (IntKind.i64.wrap (x1 - (32 : Int)) = (↑(7 : Nat) : Int)) then
  k0 (IntKind.i64.wrap ((4096 : Int) - (805 : Int)))
  else
  bif decide (IntKind.i64.wrap (x1 - (32 : Int)) = (↑(8 : Nat) : Int)) then
  k0 (IntKind.i64.wrap ((4096 : Int) - (705 : Int)))
  else
  bif decide (IntKind.i64.wrap (x1 - (32 : Int)) = (↑(9 : Nat) : Int)) then
  k0 (IntKind.i64.wrap ((4096 : Int) - (617 : Int)))
  else
  bif decide (IntKind.i64.wrap (x1 - (32 : Int)) = (↑(10 : Nat) : Int)) then
  k0 (IntKind.i64.wrap ((4096 : Int) - (540 : Int)))
  else
  bif decide (IntKind.i64.wrap (x1 - (32 : Int)) = (↑(11 : Nat) : Int)) then
  k0 (IntKind.i64.wrap ((4096 : Int) - (473 : Int)))
  else
  bif decide (IntKind.i64.wrap (x1 - (32 : Int)) = (↑(12 : Nat) : Int)) then
  k0 (IntKind.i64.wrap ((4096 : Int) - (414 : Int)))
  else
  bif decide (IntKind.i64.wrap (x1 - (32 : Int)) = (↑(13 : Nat) : Int)) then
  k0 (IntKind.i64.wrap ((4096 : Int) - (363 : Int)))
  else
  bif decide (IntKind.i64.wrap (x1 - (32 : Int)) = (↑(14 : Nat) : Int)) then
  k0 (IntKind.i64.wrap ((4096 : Int) - (318 : Int)))
  else
  bif decide (IntKind.i64.wrap (x1 - (32 : Int)) = (↑(15 : Nat) : Int)) then
  k0 (IntKind.i64.wrap ((4096 : Int) - (279 : Int)))
  else
  bif decide (IntKind.i64.wrap (x1 - (32 : Int)) = (↑(16 : Nat) : Int)) then
  k0 (IntKind.i64.wrap ((4096 : Int) - (245 : Int)))
  else
  bif decide (IntKind.i64.wrap (x1 - (32 : Int)) = (↑(17 : Nat) : Int)) then
  k0 (IntKind.i64.wrap ((4096 : Int) - (215 : Int)))
  else
  bif decide (IntKind.i64.wrap (x1 - (32 : Int)) = (↑(18 : Nat) : Int)) then
  k0 (IntKind.i64.wrap ((4096 : Int) - (189 : Int)))
  else
  bif decide (IntKind.i64.wrap (x1 - (32 : Int)) = (↑(19 : Nat) : Int)) then
  k0 (IntKind.i64.wrap ((4096 : Int) - (166 : Int)))
  else
  bif decide (IntKind.i64.wrap (x1 - (32 : Int)) = (↑(20 : Nat) : Int)) then
  k0 (IntKind.i64.wrap ((4096 : Int) - (146 : Int)))
  else
  bif decide (IntKind.i64.wrap (x1 - (32 : Int)) = (↑(21 : Nat) : Int)) then
  k0 (IntKind.i64.wrap ((4096 : Int) - (128 : Int)))
  else
  bif decide (IntKind.i64.wrap (x1 - (32 : Int)) = (↑(22 : Nat) : Int)) then
  k0 (IntKind.i64.wrap ((4096 : Int) - (112 : Int)))
  else
  bif decide (IntKind.i64.wrap (x1 - (32 : Int)) = (↑(23 : Nat) : Int)) then
  k0 (IntKind.i64.wrap ((4096 : Int) - (98 : Int)))
  else
  bif decide (IntKind.i64.wrap (x1 - (32 : Int)) = (↑(24 : Nat) : Int)) then
  k0 (IntKind.i64.wrap ((4096 : Int) - (86 : Int)))
  else
  bif decide (IntKind.i64.wrap (x1 - (32 : Int)) = (↑(25 : Nat) : Int)) then
  k0 (IntKind.i64.wrap ((4096 : Int) - (76 : Int)))
  else
  bif decide (IntKind.i64.wrap (x1 - (32 : Int)) = (↑(26 : Nat) : Int)) then
  k0 (IntKind.i64.wrap ((4096 : Int) - (67 : Int)))
  else
  bif decide (IntKind.i64.wrap (x1 - (32 : Int)) = (↑(27 : Nat) : Int)) then
  k0 (IntKind.i64.wrap ((4096 : Int) - (59 : Int)))
  else
  bif decide (IntKind.i64.wrap (x1 - (32 : Int)) = (↑(28 : Nat) : Int)) then
  k0 (IntKind.i64.wrap ((4096 : Int) - (52 : Int)))
  else
  bif decide (IntKind.i64.wrap (x1 - (32 : Int)) = (↑(29 : Nat) : Int)) then
  k0 (IntKind.i64.wrap ((4096 : Int) - (46 : Int)))
  else
  bif decide (IntKind.i64.wrap (x1 - (32 : Int)) = (↑(30 : Nat) : Int)) then
  k0 (IntKind.i64.wrap ((4096 : Int) - (41 : Int)))
  else
  bif decide (IntKind.i64.wrap (x1 - (32 : Int)) = (↑(31 : Nat) : Int)) then
  k0 (IntKind.i64.wrap ((4096 : Int) - (36 : Int)))
  else none
  else none
  else
  bif decide ((0 : Int) ≤ x1 ∧ x1 < (↑(32 : Nat) : Int)) then
  bif decide (x1 = (↑(0 : Nat) : Int)) then
  k0 ((2048 : Int))
  else
  bif decide (x1 = (↑(1 : Nat) : Int)) then
  k0 ((1792 : Int))
  else
  bif decide (x1 = (↑(2 : Nat) : Int)) then
  k0 ((1568 : Int))
  else
  bif decide (x1 = (↑(3 : Nat) : Int)) then
  k0 ((1372 : Int))
  else
  bif decide (x1 = (↑(4 : Nat) : Int)) then
  k0 ((1201 : Int))
  else
  bif decide (x1 = (↑(5 : Nat) : Int)) then
  k0 ((1051 : Int))
  else
  bif decide (x1 = (↑(6 : Nat) : Int)) then
  k0 ((920 : Int))
  else
  bif decide (x1 = (↑(7 : Nat) : Int)) then
  k0 ((805 : Int))
  else
  bif decide (x1 = (↑(8 : Nat) : Int)) then
  k0 ((705 : Int))
  else
  bif decide (x1 = (↑(9 : Nat) : Int)) then
  k0 ((617 : Int))
  else
  bif decide (x1 = (↑(10 : Nat) : Int)) then
  k0 ((540 : Int))
  else
  bif decide (x1 = (↑(11 : Nat) : Int)) then
  k0 ((473 : Int))
  else
  bif decide (x1 = (↑(12 : Nat) : Int)) then
  k0 ((414 : Int))
  else
  bif decide (x1 = (↑(13 : Nat) : Int)) then
  k0 ((363 : Int))
  else
  bif decide (x1 = (↑(14 : Nat) : Int)) then
  k0 ((318 : Int))
  else
  bif decide (x1 = (↑(15 : Nat) : Int)) then
  k0 ((279 : Int))
  else
  bif decide (x1 = (↑(16 : Nat) : Int)) then
  k0 ((245 : Int))
  else
  bif decide (x1 = (↑(17 : Nat) : Int)) then
  k0 ((215 : Int))
  else
  bif decide (x1 = (↑(18 : Nat) : Int)) then
  k0 ((189 : Int))
  else
  bif decide (x1 = (↑(19 : Nat) : Int)) then
  k0 ((166 : Int))
  else
  bif decide (x1 = (↑(20 : Nat) : Int)) then
  k0 ((146 : Int))
  else
  bif decide (x1 = (↑(21 : Nat) : Int)) then
  k0 ((128 : Int))
  else
  bif decide (x1 = (↑(22 : Nat) : Int)) then
  k0 ((112 : Int))
  else
  bif decide (x1 = (↑(23 : Nat) : Int)) then
  k0 ((98 : Int))
  else
  bif decide (x1 = (↑(24 : Nat) : Int)) then
  k0 ((86 : Int))
  else
  bif decide (x1 = (↑(25 : Nat) : Int)) then
  k0 ((76 : Int))
  else
  bif decide (x1 = (↑(26 : Nat) : Int)) then
  k0 ((67 : Int))
  else
  bif decide (x1 = (↑(27 : Nat) : Int)) then
  k0 ((59 : Int))
  else
  bif decide (x1 = (↑(28 : Nat) : Int)) then
  k0 ((52 : Int))
  else
  bif decide (x1 = (↑(29 : Nat) : Int)) then
  k0 ((46 : Int))
  else
  bif decide (x1 = (↑(30 : Nat) : Int)) then
  k0 ((41 : Int))
  else
  bif decide (x1 = (↑(31 : Nat) : Int)) then
  k0 ((36 : Int))
  else none
  else none
abbrev YF200_bb9 : Type := (Int) → (Int) → ((Int) → Option Ans) → Option Ans
theorem F200_bb9_eq (fuel : Nat) (x0 x1 : Int) (k : Ev.Cont) : evalFn tab (G200_bb9 fuel) (J200_bb9 fuel) kp200_bb9 fuel Try.f200 [.agg (ctb []), .c (.int .i64 x0), .c (.int .i64 x1)] [] k = F_coder_table_chance_bb9 fuel x0 x1 (fun r => match r with | r0 => k (.c (.int .i64 r0), [])) := by
  kernel_rfl
theorem hG200_bb9 (fuel : Nat) : GOK Try.prog (G200_bb9 fuel) :=
  gok_nil
theorem fok200_bb9 (fuel : Nat) : FnOK Try.prog 200 (evalFn tab (G200_bb9 fuel) (J200_bb9 fuel) kp200_bb9 fuel Try.f200) :=
  fn_ok tab_ok (hG200_bb9 fuel) mixed Try.func200 (c := (Try.f200.body).getD .skip) rfl (fun q hq => by
    rw [(by kernel_rfl : obl (J200_bb9 fuel) ((Try.f200.body).getD .skip) = [])] at hq
    cases hq)
noncomputable def mt200_bb9 : List Ev.SV → List Ev.Ob → Bool := fun args objs => match args, objs with
 | [.agg cs0, .c (.int .i64 _), .c (.int .i64 _)], [] => (match splitRun 0 ctn cs0 with | some ([], []) => true | _ => false)
 | _, _ => false
noncomputable def spg200_bb9 (F : YF200_bb9) : Ev.Spec := fun args objs k => match args, objs with
 | [.agg cs0, .c (.int .i64 x0), .c (.int .i64 x1)], [] => (match splitRun 0 ctn cs0 with | some ([], []) => bif true then F x0 x1 (fun r => match r with | r0 => k (.c (.int .i64 r0), [])) else none | _ => none)
 | _, _ => none
noncomputable def spec200_bb9 (fuel : Nat) : Ev.Spec := spg200_bb9 (F_coder_table_chance_bb9 fuel)
theorem ok200_bb9 (fuel : Nat) : FnOK Try.prog 200 (spec200_bb9 fuel) := by
  intro args objs kk r h
  unfold spec200_bb9 spg200_bb9 at h
  split at h
  · skip
    split at h
    rotate_left 1
    · cases h
    rename_i hsp
    have esp := splitRun_eq hsp
    subst esp
    obtain ⟨hb, h⟩ := cond_some' h
    simp only [Bool.and_eq_true, Nat.beq_eq, decide_eq_true_eq] at hb
    clear hb
    exact fok200_bb9 fuel _ _ kk r ((F200_bb9_eq fuel _ _ kk).trans h)
  · cases h
end Go.Proofs.Ytihfgpfofmjbaaa

set_option linter.unusedVariables false
set_option linter.unusedSimpArgs false
set_option maxRecDepth 100000
set_option maxHeartbeats 2000000
namespace Go.Proofs.Ytihfgpfofmjbaaa
open Go Ev
def kp166_aa3 (i : Nat) : Option (List Nat) := Ev.look i [(200001, [0])]
noncomputable def Gg166_aa3 (f200_bb9 : YF200_bb9) (f : Nat) : Option Ev.Spec := Ev.look f [(200, spg200_bb9 f200_bb9)]
noncomputable def G166_aa3 (fuel : Nat) : Nat → Option Ev.Spec := Gg166_aa3 (F_coder_table_chance_bb9 fuel)
noncomputable def J166_aa3 (fuel : Nat) (i : Nat) : Option Ev.Blk := Ev.look i []
noncomputable def Fg_coder_interval_mid_aa3 (fuel : Nat) (f200_bb9 : YF200_bb9) (x0 x1 : Int) (x2 x3 : Int) (x4 x5 x6 : Int) (x7 x8 : Bool) (x9 x10 : (List Int)) (k0 : (Int × Int × Int × Int × Int × Int × Int × Bool × Bool × (List Int) × (List Int)) → Option Ans) : Option Ans :=
  bif decide ((0 : Int) ≤ x0 ∧ x0 < (↑x9.length : Int)) then
  (f200_bb9 (x1) (x9.getD x0.toNat (0 : Int))
  (fun y3 =>
  k0 (IntKind.u64.wrap (IntKind.u64.wrap (x2 + IntKind.u64.wrap (IntKind.u64.wrap ((IntKind.u64.wrap (x3 - x2)).tdiv (4096 : Int)) * IntKind.u64.wrap y3)) + IntKind.u64.wrap ((IntKind.u64.wrap ((IntKind.u64.wrap (x3 - x2)).tmod (4096 : Int) * IntKind.u64.wrap y3)).tdiv (4096 : Int))), x1, x2, x3, x4, x5, x6, x7, x8, x9, x10)))
  else none
noncomputable def F_coder_interval_mid_aa3 (fuel : Nat) (x0 x1 : Int) (x2 x3 : Int) (x4 x5 x6 : Int) (x7 x8 : Bool) (x9 x10 : (List Int)) (k0 : (Int × Int × Int × Int × Int × Int × Int × Bool × Bool × (List Int) × (List Int)) → Option Ans) : Option Ans := Fg_coder_interval_mid_aa3 fuel (F_coder_table_chance_bb9 fuel) x0 x1 x2 x3 x4 x5 x6 x7 x8 x9 x10 k0
abbrev YF166_aa3 : Type := (Int) → (Int) → (Int) → (Int) → (Int) → (Int) → (Int) → (Bool) → (Bool) → ((List Int)) → ((List Int)) → ((Int × Int × Int × Int × Int × Int × Int × Bool × Bool × (List Int) × (List Int)) → Option Ans) → Option Ans
theorem F166_aa3_eqg (fuel : Nat) (f200_bb9 : YF200_bb9) (x0 x1 : Int) (x2 x3 : Int) (x4 x5 x6 : Int) (x7 x8 : Bool) (x9 x10 : (List Int)) (k : Ev.Cont) : evalFn tab (Gg166_aa3 f200_bb9) (J166_aa3 fuel) kp166_aa3 fuel Try.f166 [.c (.ptr 0 0), .c (.int .i64 x0)] [.cells 158 (.int .i64 x1 :: .own 1 :: ctb (.int .u64 x2 :: .int .u64 x3 :: .own 2 :: .int .i64 x4 :: .int .u64 x5 :: .int .i64 x6 :: .bool x7 :: .bool x8 :: [])), .vec 3 (.int .i64) x9 false, .vec 5 (.int .u8) x10 false] k = Fg_coder_interval_mid_aa3 fuel f200_bb9 x0 x1 x2 x3 x4 x5 x6 x7 x8 x9 x10 (fun r => match r with | (r0, r1, r2, r3, r4, r5, r6, r7, r8, r9, r10) => k (.c (.int .u64 r0), [.cells 158 (.int .i64 r1 :: .own 1 :: ctb (.int .u64 r2 :: .int .u64 r3 :: .own 2 :: .int .i64 r4 :: .int .u64 r5 :: .int .i64 r6 :: .bool r7 :: .bool r8 :: [])), .vec 3 (.int .i64) r9 false, .vec 5 (.int .u8) r10 false])) := by
  kernel_rfl
theorem F166_aa3_eq (fuel : Nat) (x0 x1 : Int) (x2 x3 : Int) (x4 x5 x6 : Int) (x7 x8 : Bool) (x9 x10 : (List Int)) (k : Ev.Cont) : evalFn tab (G166_aa3 fuel) (J166_aa3 fuel) kp166_aa3 fuel Try.f166 [.c (.ptr 0 0), .c (.int .i64 x0)] [.cells 158 (.int .i64 x1 :: .own 1 :: ctb (.int .u64 x2 :: .int .u64 x3 :: .own 2 :: .int .i64 x4 :: .int .u64 x5 :: .int .i64 x6 :: .bool x7 :: .bool x8 :: [])), .vec 3 (.int .i64) x9 false, .vec 5 (.int .u8) x10 false] k = F_coder_interval_mid_aa3 fuel x0 x1 x2 x3 x4 x5 x6 x7 x8 x9 x10 (fun r => match r with | (r0, r1, r2, r3, r4, r5, r6, r7, r8, r9, r10) => k (.c (.int .u64 r0), [.cells 158 (.int .i64 r1 :: .own 1 :: ctb (.int .u64 r2 :: .int .u64 r3 :: .own 2 :: .int .i64 r4 :: .int .u64 r5 :: .int .i64 r6 :: .bool r7 :: .bool r8 :: [])), .vec 3 (.int .i64) r9 false, .vec 5 (.int .u8) r10 false])) :=
  F166_aa3_eqg fuel (F_coder_table_chance_bb9 fuel) x0 x1 x2 x3 x4 x5 x6 x7 x8 x9 x10 k
theorem hG166_aa3 (fuel : Nat) : GOK Try.prog (G166_aa3 fuel) :=
  gok_cons ⟨ok200_bb9 fuel, enters_of Try.func200 (by kernel_rfl) rfl⟩ <|
  gok_nil
theorem fok166_aa3 (fuel : Nat) : FnOK Try.prog 166 (evalFn tab (G166_aa3 fuel) (J166_aa3 fuel) kp166_aa3 fuel Try.f166) :=
  fn_ok tab_ok (hG166_aa3 fuel) mixed Try.func166 (c := (Try.f166.body).getD .skip) rfl (fun q hq => by
    rw [(by kernel_rfl : obl (J166_aa3 fuel) ((Try.f166.body).getD .skip) = [])] at hq
    cases hq)
noncomputable def mt166_aa3 : List Ev.SV → List Ev.Ob → Bool := fun args objs => match args, objs with
 | [.c (.ptr q0 q1), .c (.int .i64 _)], [.cells q2 cs0, .vec q3 (.int .i64) _ false, .vec q4 (.int .u8) _ false] => (match splitRun 2 ctn cs0 with | some ([.int .i64 _, .own q5], [.int .u64 _, .int .u64 _, .own q6, .int .i64 _, .int .u64 _, .int .i64 _, .bool _, .bool _]) => Nat.beq q0 0 && Nat.beq q1 0 && Nat.beq q2 158 && Nat.beq q3 3 && Nat.beq q4 5 && Nat.beq q5 1 && Nat.beq q6 2 | _ => false)
 | _, _ => false
noncomputable def spg166_aa3 (F : YF166_aa3) : Ev.Spec := fun args objs k => match args, objs with
 | [.c (.ptr q0 q1), .c (.int .i64 x0)], [.cells q2 cs0, .vec q3 (.int .i64) x9 false, .vec q4 (.int .u8) x10 false] => (match splitRun 2 ctn cs0 with | some ([.int .i64 x1, .own q5], [.int .u64 x2, .int .u64 x3, .own q6, .int .i64 x4, .int .u64 x5, .int .i64 x6, .bool x7, .bool x8]) => bif Nat.beq q0 0 && Nat.beq q1 0 && Nat.beq q2 158 && Nat.beq q3 3 && Nat.beq q4 5 && Nat.beq q5 1 && Nat.beq q6 2 then F x0 x1 x2 x3 x4 x5 x6 x7 x8 x9 x10 (fun r => match r with | (r0, r1, r2, r3, r4, r5, r6, r7, r8, r9, r10) => k (.c (.int .u64 r0), [.cells 158 (.int .i64 r1 :: .own 1 :: ctb (.int .u64 r2 :: .int .u64 r3 :: .own 2 :: .int .i64 r4 :: .int .u64 r5 :: .int .i64 r6 :: .bool r7 :: .bool r8 :: [])), .vec 3 (.int .i64) r9 false, .vec 5 (.int .u8) r10 false])) else none | _ => none)
 | _, _ => none
noncomputable def spec166_aa3 (fuel : Nat) : Ev.Spec := spg166_aa3 (F_coder_interval_mid_aa3 fuel)
theorem ok166_aa3 (fuel : Nat) : FnOK Try.prog 166 (spec166_aa3 fuel) := by
  intro args objs kk r h
  unfold spec166_aa3 spg166_aa3 at h
  split at h
  · skip
    split at h
    rotate_left 1
    · cases h
    rename_i hsp
    have esp := splitRun_eq hsp
    subst esp
    obtain ⟨hb, h⟩ := cond_some' h
    simp only [Bool.and_eq_true, Nat.beq_eq, decide_eq_true_eq] at hb
    obtain ⟨⟨⟨⟨⟨⟨rfl, rfl⟩, rfl⟩, rfl⟩, rfl⟩, rfl⟩, rfl⟩ := hb
    exact fok166_aa3 fuel _ _ kk r ((F166_aa3_eq fuel _ _ _ _ _ _ _ _ _ _ _ kk).trans h)
  · cases h
end Go.Proofs.Ytihfgpfofmjbaaa

set_option linter.unusedVariables false
set_option linter.unusedSimpArgs false
set_option maxRecDepth 100000
set_option maxHeartbeats 2000000
namespace Go.Proofs.Ytihfgpfofmjbaaa
open Go Ev
def kp168_40a (i : Nat) : Option (List Nat) := Ev.look i [(200001, [0])]
noncomputable def Gg168_40a (f : Nat) : Option Ev.Spec := Ev.look f []
noncomputable def G168_40a (fuel : Nat) : Nat → Option Ev.Spec := Gg168_40a
noncomputable def J168_40a (fuel : Nat) (i : Nat) : Option Ev.Blk := Ev.look i []
noncomputable def F_coder_interval_same_40a (fuel : Nat) (x0 x1 : Int) (x2 x3 : Int) (x4 x5 : Int) (x6 x7 : Bool) (x8 x9 : (List Int)) (k0 : (Bool × Int × Int × Int × Int × Int × Int × Bool × Bool × (List Int) × (List Int)) → Option Ans) : Option Ans :=
  k0 (Ev.ishr IntKind.u64 x1 (24 : Int) == Ev.ishr IntKind.u64 x2 (24 : Int), x0, x1, x2, x3, x4, x5, x6, x7, x8, x9)
abbrev YF168_40a : Type := (Int) → (Int) → (Int) → (Int) → (Int) → (Int) → (Bool) → (Bool) → ((List Int)) → ((List Int)) → ((Bool × Int × Int × Int × Int × Int × Int × Bool × Bool × (List Int) × (List Int)) → Option Ans) → Option Ans
theorem F168_40a_eq (fuel : Nat) (x0 x1 : Int) (x2 x3 : Int) (x4 x5 : Int) (x6 x7 : Bool) (x8 x9 : (List Int)) (k : Ev.Cont) : evalFn tab (G168_40a fuel) (J168_40a fuel) kp168_40a fuel Try.f168 [.c (.ptr 0 0)] [.cells 158 (.int .i64 x0 :: .own 1 :: ctb (.int .u64 x1 :: .int .u64 x2 :: .own 2 :: .int .i64 x3 :: .int .u64 x4 :: .int .i64 x5 :: .bool x6 :: .bool x7 :: [])), .vec 3 (.int .i64) x8 false, .vec 5 (.int .u8) x9 false] k = F_coder_interval_same_40a fuel x0 x1 x2 x3 x4 x5 x6 x7 x8 x9 (fun r => match r with | (r0, r1, r2, r3, r4, r5, r6, r7, r8, r9, r10) => k (.c (.bool r0), [.cells 158 (.int .i64 r1 :: .own 1 :: ctb (.int .u64 r2 :: .int .u64 r3 :: .own 2 :: .int .i64 r4 :: .int .u64 r5 :: .int .i64 r6 :: .bool r7 :: .bool r8 :: [])), .vec 3 (.int .i64) r9 false, .vec 5 (.int .u8) r10 false])) := by
  kernel_rfl
theorem hG168_40a (fuel : Nat) : GOK Try.prog (G168_40a fuel) :=
  gok_nil
theorem fok168_40a (fuel : Nat) : FnOK Try.prog 168 (evalFn tab (G168_40a fuel) (J168_40a fuel) kp168_40a fuel Try.f168) :=
  fn_ok tab_ok (hG168_40a fuel) mixed Try.func168 (c := (Try.f168.body).getD .skip) rfl (fun q hq => by
    rw [(by kernel_rfl : obl (J168_40a fuel) ((Try.f168.body).getD .skip) = [])] at hq
    cases hq)
noncomputable def mt168_40a : List Ev.SV → List Ev.Ob → Bool := fun args objs => match args, objs with
 | [.c (.ptr q0 q1)], [.cells q2 cs0, .vec q3 (.int .i64) _ false, .vec q4 (.int .u8) _ false] => (match splitRun 2 ctn cs0 with | some ([.int .i64 _, .own q5], [.int .u64 _, .int .u64 _, .own q6, .int .i64 _, .int .u64 _, .int .i64 _, .bool _, .bool _]) => Nat.beq q0 0 && Nat.beq q1 0 && Nat.beq q2 158 && Nat.beq q3 3 && Nat.beq q4 5 && Nat.beq q5 1 && Nat.beq q6 2 | _ => false)
 | _, _ => false
noncomputable def spg168_40a (F : YF168_40a) : Ev.Spec := fun args objs k => match args, objs with
 | [.c (.ptr q0 q1)], [.cells q2 cs0, .vec q3 (.int .i64) x8 false, .vec q4 (.int .u8) x9 false] => (match splitRun 2 ctn cs0 with | some ([.int .i64 x0, .own q5], [.int .u64 x1, .int .u64 x2, .own q6, .int .i64 x3, .int .u64 x4, .int .i64 x5, .bool x6, .bool x7]) => bif Nat.beq q0 0 && Nat.beq q1 0 && Nat.beq q2 158 && Nat.beq q3 3 && Nat.beq q4 5 && Nat.beq q5 1 && Nat.beq q6 2 then F x0 x1 x2 x3 x4 x5 x6 x7 x8 x9 (fun r => match r with | (r0, r1, r2, r3, r4, r5, r6, r7, r8, r9, r10) => k (.c (.bool r0), [.cells 158 (.int .i64 r1 :: .own 1 :: ctb (.int .u64 r2 :: .int .u64 r3 :: .own 2 :: .int .i64 r4 :: .int .u64 r5 :: .int .i64 r6 :: .bool r7 :: .bool r8 :: [])), .vec 3 (.int .i64) r9 false, .vec 5 (.int .u8) r10 false])) else none | _ => none)
 | _, _ => none
noncomputable def spec168_40a (fuel : Nat) : Ev.Spec := spg168_40a (F_coder_interval_same_40a fuel)
theorem ok168_40a (fuel : Nat) : FnOK Try.prog 168 (spec168_40a fuel) := by
  intro args objs kk r h
  unfold spec168_40a spg168_40a at h
  split at h
  · skip
    split at h
    rotate_left 1
    · cases h
    rename_i hsp
    have esp := splitRun_eq hsp
    subst esp
    obtain ⟨hb, h⟩ := cond_some' h
    simp only [Bool.and_eq_true, Nat.beq_eq, decide_eq_true_eq] at hb
    obtain ⟨⟨⟨⟨⟨⟨rfl, rfl⟩, rfl⟩, rfl⟩, rfl⟩, rfl⟩, rfl⟩ := hb
    exact fok168_40a fuel _ _ kk r ((F168_40a_eq fuel _ _ _ _ _ _ _ _ _ _ kk).trans h)
  · cases h
end Go.Proofs.Ytihfgpfofmjbaaa

set_option linter.unusedVariables false
set_option linter.unusedSimpArgs false
set_option maxRecDepth 100000
set_option maxHeartbeats 2000000
namespace Go.Proofs.Ytihfgpfofmjbaaa
open Go Ev
def kp201 (i : Nat) : Option (List Nat) := Ev.look i []
noncomputable def Gg201 (f : Nat) : Option Ev.Spec := Ev.look f []
noncomputable def G201 (fuel : Nat) : Nat → Option Ev.Spec := Gg201
noncomputable def J201 (fuel : Nat) (i : Nat) : Option Ev.Blk := Ev.look i []
noncomputable def F_coder_next (fuel : Nat) (x0 x1 x2 : Int) (k0 : (Int) → Option Ans) : Option Ans :=
  bif x0 == (1 : Int) then
  bif decide ((0 : Int) ≤ x2 ∧ x2 < (↑(2 : Nat) : Int)) then
  bif decide (x2 = (↑(0 : Nat) : Int)) then
  bif IntKind.i64.wrap (x1.tdiv (256 : Int)) == (255 : Int) then
  bif decide ((0 : Int) ≤ x2 ∧ x2 < (↑(2 : Nat) : Int)) then
  bif decide (x2 = (↑(0 : Nat) : Int)) then
  bif decide ((0 : Int) ≤ x2 ∧ x2 < (↑(2 : Nat) : Int)) then
  bif decide (x2 = (↑(0 : Nat) : Int)) then
  k0 (IntKind.i64.wrap (IntKind.i64.wrap ((256 : Int) * IntKind.i64.wrap (IntKind.i64.wrap ((IntKind.i64.wrap (x1.tdiv (256 : Int))).tdiv (2 : Int)) + (1 : Int))) + IntKind.i64.wrap ((x1.tmod (256 : Int)).tdiv (2 : Int))))
  else
  bif decide (x2 = (↑(1 : Nat) : Int)) then
  k0 (IntKind.i64.wrap (IntKind.i64.wrap ((256 : Int) * IntKind.i64.wrap ((IntKind.i64.wrap (x1.tdiv (256 : Int))).tdiv (2 : Int))) + IntKind.i64.wrap (IntKind.i64.wrap ((IntKind.i64.wrap (x1.tdiv (256 : Int))).tdiv (2 : Int)) + (1 : Int))))
  else none
  else none
  else
  bif decide (x2 = (↑(1 : Nat) : Int)) then
  bif decide ((0 : Int) ≤ x2 ∧ x2 < (↑(2 : Nat) : Int)) then
  bif decide (x2 = (↑(0 : Nat) : Int)) then
  k0 (IntKind.i64.wrap (IntKind.i64.wrap ((256 : Int) * IntKind.i64.wrap (IntKind.i64.wrap ((x1.tmod (256 : Int)).tdiv (2 : Int)) + (1 : Int))) + IntKind.i64.wrap ((x1.tmod (256 : Int)).tdiv (2 : Int))))
  else
  bif decide (x2 = (↑(1 : Nat) : Int)) then
  k0 (IntKind.i64.wrap (IntKind.i64.wrap ((256 : Int) * IntKind.i64.wrap ((IntKind.i64.wrap (x1.tdiv (256 : Int))).tdiv (2 : Int))) + IntKind.i64.wrap (IntKind.i64.wrap ((x1.tmod (256 : Int)).tdiv (2 : Int)) + (1 : Int))))
  else none
  else none
  else none
  else none
  else
  bif decide ((0 : Int) ≤ x2 ∧ x2 < (↑(2 : Nat) : Int)) then
  bif decide (x2 = (↑(0 : Nat) : Int)) then
  bif decide ((0 : Int) ≤ x2 ∧ x2 < (↑(2 : Nat) : Int)) then
  bif decide (x2 = (↑(0 : Nat) : Int)) then
  k0 (IntKind.i64.wrap (IntKind.i64.wrap ((256 : Int) * IntKind.i64.wrap (IntKind.i64.wrap (x1.tdiv (256 : Int)) + (1 : Int))) + x1.tmod (256 : Int)))
  else
  bif decide (x2 = (↑(1 : Nat) : Int)) then
  k0 (IntKind.i64.wrap (IntKind.i64.wrap ((256 : Int) * IntKind.i64.wrap (x1.tdiv (256 : Int))) + IntKind.i64.wrap (IntKind.i64.wrap (x1.tdiv (256 : Int)) + (1 : Int))))
  else none
  else none
  else
  bif decide (x2 = (↑(1 : Nat) : Int)) then
  bif decide ((0 : Int) ≤ x2 ∧ x2 < (↑(2 : Nat) : Int)) then
  bif decide (x2 = (↑(0 : Nat) : Int)) then
  k0 (IntKind.i64.wrap (IntKind.i64.wrap ((256 : Int) * IntKind.i64.wrap (x1.tmod (256 : Int) + (1 : Int))) + x1.tmod (256 : Int)))
  else
  bif decide (x2 = (↑(1 : Nat) : Int)) then
  k0 (IntKind.i64.wrap (IntKind.i64.wrap ((256 : Int) * IntKind.i64.wrap (x1.tdiv (256 : Int))) + IntKind.i64.wrap (x1.tmod (256 : Int) + (1 : Int))))
  else none
  else none
  else none
  else none
  else
  bif decide (x2 = (↑(1 : Nat) : Int)) then
  bif x1.tmod (256 : Int) == (255 : Int) then
  bif decide ((0 : Int) ≤ x2 ∧ x2 < (↑(2 : Nat) : Int)) then
  bif decide (x2 = (↑(0 : Nat) : Int)) then
  bif decide ((0 : Int) ≤ x2 ∧ x2 < (↑(2 : Nat) : Int)) then
  bif decide (x2 = (↑(0 : Nat) : Int)) then
  k0 (IntKind.i64.wrap (IntKind.i64.wrap ((256 : Int) * IntKind.i64.wrap (IntKind.i64.wrap ((IntKind.i64.wrap (x1.tdiv (256 : Int))).tdiv (2 : Int)) + (1 : Int))) + IntKind.i64.wrap ((x1.tmod (256 : Int)).tdiv (2 : Int))))
  else
  bif decide (x2 = (↑(1 : Nat) : Int)) then
  k0 (IntKind.i64.wrap (IntKind.i64.wrap ((256 : Int) * IntKind.i64.wrap ((IntKind.i64.wrap (x1.tdiv (256 : Int))).tdiv (2 : Int))) + IntKind.i64.wrap (IntKind.i64.wrap ((IntKind.i64.wrap (x1.tdiv (256 : Int))).tdiv (2 : Int)) + (1 : Int))))
  else none
  else none
  else
  bif decide (x2 = (↑(1 : Nat) : Int)) then
  bif decide ((0 : Int) ≤ x2 ∧ x2 < (↑(2 : Nat) : Int)) then
  bif decide (x2 = (↑(0 : Nat) : Int)) then
  k0 (IntKind.i64.wrap (IntKind.i64.wrap ((256 : Int) * IntKind.i64.wrap (IntKind.i64.wrap ((x1.tmod (256 : Int)).tdiv (2 : Int)) + (1 : Int))) + IntKind.i64.wrap ((x1.tmod (256 : Int)).tdiv (2 : Int))))
  else
  bif decide (x2 = (↑(1 : Nat) : Int)) then
  k0 (IntKind.i64.wrap (IntKind.i64.wrap ((256 : Int) * IntKind.i64.wrap ((IntKind.i64.wrap (x1.tdiv (256 : Int))).tdiv (2 : Int))) + IntKind.i64.wrap (IntKind.i64.wrap ((x1.tmod (256 : Int)).tdiv (2 : Int)) + (1 : Int))))
  else none
  else none
  else none
  else none
  else
  bif decide ((0 : Int) ≤ x2 ∧ x2 < (↑(2 : Nat) : Int)) then
  bif decide (x2 = (↑(0 : Nat) : Int)) then
  bif decide ((0 : Int) ≤ x2 ∧ x2 < (↑(2 : Nat) : Int)) then
  bif decide (x2 = (↑(0 : Nat) : Int)) then
  k0 (IntKind.i64.wrap (IntKind.i64.wrap ((256 : Int) * IntKind.i64.wrap (IntKind.i64.wrap (x1.tdiv (256 : Int)) + (1 : Int))) + x1.tmod (256 : Int)))
  else
  bif decide (x2 = (↑(1 : Nat) : Int)) then
  k0 (IntKind.i64.wrap (IntKind.i64.wrap ((256 : Int) * IntKind.i64.wrap (x1.tdiv (256 : Int))) + IntKind.i64.wrap (IntKind.i64.wrap (x1.tdiv (256 : Int)) + (1 : Int))))
  else none
  else none
  else
  bif decide (x2 = (↑(1 : Nat) : Int)) then
  bif decide ((0 : Int) ≤ x2 ∧ x2 < (↑(2 : Nat) : Int)) then
  bif decide (x2 = (↑(0 : Nat) : Int)) then
  k0 (IntKind.i64.wrap (IntKind.i64.wrap ((256 : Int) * IntKind.i64.wrap (x1.tmod (256 : Int) + (1 : Int))) + x1.tmod (256 : Int)))
  else
  bif decide (x2 = (↑(1 : Nat) : Int)) then
  k0 (IntKind.i64.wrap (IntKind.i64.wrap ((256 : Int) * IntKind.i64.wrap (x1.tdiv (256 : Int))) + IntKind.i64.wrap (x1.tmod (256 : Int) + (1 : Int))))
  else none
  else none
  else none
  else none
  else none
  else none
  else
  bif x2 == IntKind.i64.wrap (x1.tdiv (32 : Int)) then
  k0 (IntKind.i64.wrap (IntKind.i64.wrap ((32 : Int) * IntKind.i64.wrap (x1.tdiv (32 : Int))) + bif decide ((31 : Int) < IntKind.i64.wrap (x1.tmod (32 : Int) + (1 : Int))) then (31 : Int) else IntKind.i64.wrap (x1.tmod (32 : Int) + (1 : Int))))
  else
  bif x1.tmod (32 : Int) == (0 : Int) then
  k0 (IntKind.i64.wrap (IntKind.i64.wrap ((32 : Int) * x2) + x1.tmod (32 : Int)))
  else
  k0 (IntKind.i64.wrap (IntKind.i64.wrap ((32 : Int) * IntKind.i64.wrap (x1.tdiv (32 : Int))) + IntKind.i64.wrap (x1.tmod (32 : Int) - IntKind.i64.wrap ((1 : Int) + IntKind.i64.wrap ((x1.tmod (32 : Int)).tdiv (4 : Int))))))
abbrev YF201 : Type := (Int) → (Int) → (Int) → ((Int) → Option Ans) → Option Ans
theorem F201_eq (fuel : Nat) (x0 x1 x2 : Int) (k : Ev.Cont) : evalFn tab (G201 fuel) (J201 fuel) kp201 fuel Try.f201 [.c (.int .i64 x0), .c (.int .i64 x1), .c (.int .i64 x2)] [] k = F_coder_next fuel x0 x1 x2 (fun r => match r with | r0 => k (.c (.int .i64 r0), [])) := by
  kernel_rfl
theorem hG201 (fuel : Nat) : GOK Try.prog (G201 fuel) :=
  gok_nil
theorem fok201 (fuel : Nat) : FnOK Try.prog 201 (evalFn tab (G201 fuel) (J201 fuel) kp201 fuel Try.f201) :=
  fn_ok tab_ok (hG201 fuel) mixed Try.func201 (c := (Try.f201.body).getD .skip) rfl (fun q hq => by
    rw [(by kernel_rfl : obl (J201 fuel) ((Try.f201.body).getD .skip) = [])] at hq
    cases hq)
noncomputable def mt201 : List Ev.SV → List Ev.Ob → Bool := fun args objs => match args, objs with
 | [.c (.int .i64 _), .c (.int .i64 _), .c (.int .i64 _)], [] => true
 | _, _ => false
noncomputable def spg201 (F : YF201) : Ev.Spec := fun args objs k => match args, objs with
 | [.c (.int .i64 x0), .c (.int .i64 x1), .c (.int .i64 x2)], [] => bif true then F x0 x1 x2 (fun r => match r with | r0 => k (.c (.int .i64 r0), [])) else none
 | _, _ => none
noncomputable def spec201 (fuel : Nat) : Ev.Spec := spg201 (F_coder_next fuel)
theorem ok201 (fuel : Nat) : FnOK Try.prog 201 (spec201 fuel) := by
  intro args objs kk r h
  unfold spec201 spg201 at h
  split at h
  · skip
    obtain ⟨hb, h⟩ := cond_some' h
    simp only [Bool.and_eq_true, Nat.beq_eq, decide_eq_true_eq] at hb
    clear hb
    exact fok201 fuel _ _ kk r ((F201_eq fuel _ _ _ kk).trans h)
  · cases h
end Go.Proofs.Ytihfgpfofmjbaaa

set_option linter.unusedVariables false
set_option linter.unusedSimpArgs false
set_option maxRecDepth 100000
set_option maxHeartbeats 2000000
namespace Go.Proofs.Ytihfgpfofmjbaaa
open Go Ev
def kp167_7ec (i : Nat) : Option (List Nat) := Ev.look i [(200003, [0])]
noncomputable def Gg167_7ec (f201 : YF201) (f : Nat) : Option Ev.Spec := Ev.look f [(201, spg201 f201)]
noncomputable def G167_7ec (fuel : Nat) : Nat → Option Ev.Spec := Gg167_7ec (F_coder_next fuel)
noncomputable def J167_7ec (fuel : Nat) (i : Nat) : Option Ev.Blk := Ev.look i []
noncomputable def Fg_coder_interval_take_7ec (fuel : Nat) (f201 : YF201) (x0 x1 : Int) (x2 x3 : Int) (x4 x5 : Int) (x6 x7 x8 : Int) (x9 x10 : Bool) (x11 x12 : (List Int)) (k0 : (Int × Int × Int × Int × Int × Int × Bool × Bool × (List Int) × (List Int)) → Option Ans) : Option Ans :=
  bif x1 == (1 : Int) then
  bif decide ((0 : Int) ≤ x0 ∧ x0 < (↑x11.length : Int)) then
  (f201 (x3) (x11.getD x0.toNat (0 : Int)) (x1)
  (fun y4 =>
  bif decide ((0 : Int) ≤ x0 ∧ x0 < (↑x11.length : Int)) then
  k0 (x3, x4, x2, x6, x7, x8, x9, x10, x11.set x0.toNat y4, x12)
  else none))
  else none
  else
  bif decide ((0 : Int) ≤ x0 ∧ x0 < (↑x11.length : Int)) then
  (f201 (x3) (x11.getD x0.toNat (0 : Int)) (x1)
  (fun y4 =>
  bif decide ((0 : Int) ≤ x0 ∧ x0 < (↑x11.length : Int)) then
  k0 (x3, IntKind.u64.wrap (x2 + (1 : Int)), x5, x6, x7, x8, x9, x10, x11.set x0.toNat y4, x12)
  else none))
  else none
noncomputable def F_coder_interval_take_7ec (fuel : Nat) (x0 x1 : Int) (x2 x3 : Int) (x4 x5 : Int) (x6 x7 x8 : Int) (x9 x10 : Bool) (x11 x12 : (List Int)) (k0 : (Int × Int × Int × Int × Int × Int × Bool × Bool × (List Int) × (List Int)) → Option Ans) : Option Ans := Fg_coder_interval_take_7ec fuel (F_coder_next fuel) x0 x1 x2 x3 x4 x5 x6 x7 x8 x9 x10 x11 x12 k0
abbrev YF167_7ec : Type := (Int) → (Int) → (Int) → (Int) → (Int) → (Int) → (Int) → (Int) → (Int) → (Bool) → (Bool) → ((List Int)) → ((List Int)) → ((Int × Int × Int × Int × Int × Int × Bool × Bool × (List Int) × (List Int)) → Option Ans) → Option Ans
theorem F167_7ec_eqg (fuel : Nat) (f201 : YF201) (x0 x1 : Int) (x2 x3 : Int) (x4 x5 : Int) (x6 x7 x8 : Int) (x9 x10 : Bool) (x11 x12 : (List Int)) (k : Ev.Cont) : evalFn tab (Gg167_7ec f201) (J167_7ec fuel) kp167_7ec fuel Try.f167 [.c (.ptr 0 0), .c (.int .i64 x0), .c (.int .i64 x1), .c (.int .u64 x2)] [.cells 158 (.int .i64 x3 :: .own 1 :: ctb (.int .u64 x4 :: .int .u64 x5 :: .own 2 :: .int .i64 x6 :: .int .u64 x7 :: .int .i64 x8 :: .bool x9 :: .bool x10 :: [])), .vec 3 (.int .i64) x11 false, .vec 5 (.int .u8) x12 false] k = Fg_coder_interval_take_7ec fuel f201 x0 x1 x2 x3 x4 x5 x6 x7 x8 x9 x10 x11 x12 (fun r => match r with | (r0, r1, r2, r3, r4, r5, r6, r7, r8, r9) => k (.tup [], [.cells 158 (.int .i64 r0 :: .own 1 :: ctb (.int .u64 r1 :: .int .u64 r2 :: .own 2 :: .int .i64 r3 :: .int .u64 r4 :: .int .i64 r5 :: .bool r6 :: .bool r7 :: [])), .vec 3 (.int .i64) r8 false, .vec 5 (.int .u8) r9 false])) := by
  kernel_rfl
theorem F167_7ec_eq (fuel : Nat) (x0 x1 : Int) (x2 x3 : Int) (x4 x5 : Int) (x6 x7 x8 : Int) (x9 x10 : Bool) (x11 x12 : (List Int)) (k : Ev.Cont) : evalFn tab (G167_7ec fuel) (J167_7ec fuel) kp167_7ec fuel Try.f167 [.c (.ptr 0 0), .c (.int .i64 x0), .c (.int .i64 x1), .c (.int .u64 x2)] [.cells 158 (.int .i64 x3 :: .own 1 :: ctb (.int .u64 x4 :: .int .u64 x5 :: .own 2 :: .int .i64 x6 :: .int .u64 x7 :: .int .i64 x8 :: .bool x9 :: .bool x10 :: [])), .vec 3 (.int .i64) x11 false, .vec 5 (.int .u8) x12 false] k = F_coder_interval_take_7ec fuel x0 x1 x2 x3 x4 x5 x6 x7 x8 x9 x10 x11 x12 (fun r => match r with | (r0, r1, r2, r3, r4, r5, r6, r7, r8, r9) => k (.tup [], [.cells 158 (.int .i64 r0 :: .own 1 :: ctb (.int .u64 r1 :: .int .u64 r2 :: .own 2 :: .int .i64 r3 :: .int .u64 r4 :: .int .i64 r5 :: .bool r6 :: .bool r7 :: [])), .vec 3 (.int .i64) r8 false, .vec 5 (.int .u8) r9 false])) :=
  F167_7ec_eqg fuel (F_coder_next fuel) x0 x1 x2 x3 x4 x5 x6 x7 x8 x9 x10 x11 x12 k
theorem hG167_7ec (fuel : Nat) : GOK Try.prog (G167_7ec fuel) :=
  gok_cons ⟨ok201 fuel, enters_of Try.func201 (by kernel_rfl) rfl⟩ <|
  gok_nil
theorem fok167_7ec (fuel : Nat) : FnOK Try.prog 167 (evalFn tab (G167_7ec fuel) (J167_7ec fuel) kp167_7ec fuel Try.f167) :=
  fn_ok tab_ok (hG167_7ec fuel) mixed Try.func167 (c := (Try.f167.body).getD .skip) rfl (fun q hq => by
    rw [(by kernel_rfl : obl (J167_7ec fuel) ((Try.f167.body).getD .skip) = [])] at hq
    cases hq)
noncomputable def mt167_7ec : List Ev.SV → List Ev.Ob → Bool := fun args objs => match args, objs with
 | [.c (.ptr q0 q1), .c (.int .i64 _), .c (.int .i64 _), .c (.int .u64 _)], [.cells q2 cs0, .vec q3 (.int .i64) _ false, .vec q4 (.int .u8) _ false] => (match splitRun 2 ctn cs0 with | some ([.int .i64 _, .own q5], [.int .u64 _, .int .u64 _, .own q6, .int .i64 _, .int .u64 _, .int .i64 _, .bool _, .bool _]) => Nat.beq q0 0 && Nat.beq q1 0 && Nat.beq q2 158 && Nat.beq q3 3 && Nat.beq q4 5 && Nat.beq q5 1 && Nat.beq q6 2 | _ => false)
 | _, _ => false
noncomputable def spg167_7ec (F : YF167_7ec) : Ev.Spec := fun args objs k => match args, objs with
 | [.c (.ptr q0 q1), .c (.int .i64 x0), .c (.int .i64 x1), .c (.int .u64 x2)], [.cells q2 cs0, .vec q3 (.int .i64) x11 false, .vec q4 (.int .u8) x12 false] => (match splitRun 2 ctn cs0 with | some ([.int .i64 x3, .own q5], [.int .u64 x4, .int .u64 x5, .own q6, .int .i64 x6, .int .u64 x7, .int .i64 x8, .bool x9, .bool x10]) => bif Nat.beq q0 0 && Nat.beq q1 0 && Nat.beq q2 158 && Nat.beq q3 3 && Nat.beq q4 5 && Nat.beq q5 1 && Nat.beq q6 2 then F x0 x1 x2 x3 x4 x5 x6 x7 x8 x9 x10 x11 x12 (fun r => match r with | (r0, r1, r2, r3, r4, r5, r6, r7, r8, r9) => k (.tup [], [.cells 158 (.int .i64 r0 :: .own 1 :: ctb (.int .u64 r1 :: .int .u64 r2 :: .own 2 :: .int .i64 r3 :: .int .u64 r4 :: .int .i64 r5 :: .bool r6 :: .bool r7 :: [])), .vec 3 (.int .i64) r8 false, .vec 5 (.int .u8) r9 false])) else none | _ => none)
 | _, _ => none
noncomputable def spec167_7ec (fuel : Nat) : Ev.Spec := spg167_7ec (F_coder_interval_take_7ec fuel)
theorem ok167_7ec (fuel : Nat) : FnOK Try.prog 167 (spec167_7ec fuel) := by
  intro args objs kk r h
  unfold spec167_7ec spg167_7ec at h
  split at h
  · skip
    split at h
    rotate_left 1
    · cases h
    rename_i hsp
    have esp := splitRun_eq hsp
    subst esp
    obtain ⟨hb, h⟩ := cond_some' h
    simp only [Bool.and_eq_true, Nat.beq_eq, decide_eq_true_eq] at hb
    obtain ⟨⟨⟨⟨⟨⟨rfl, rfl⟩, rfl⟩, rfl⟩, rfl⟩, rfl⟩, rfl⟩ := hb
    exact fok167_7ec fuel _ _ kk r ((F167_7ec_eq fuel _ _ _ _ _ _ _ _ _ _ _ _ _ kk).trans h)
  · cases h
end Go.Proofs.Ytihfgpfofmjbaaa

set_option linter.unusedVariables false
set_option linter.unusedSimpArgs false
set_option maxRecDepth 100000
set_option maxHeartbeats 2000000
namespace Go.Proofs.Ytihfgpfofmjbaaa
open Go Ev
def kp93_aa3 (i : Nat) : Option (List Nat) := Ev.look i [(12, [0, 1, 6, 8, 9]), (100001, [0, 1, 6, 8, 9]), (200010, [0]), (400001, [4, 5])]
noncomputable def Gg93_aa3 (f115_40a : YF115_40a) (f165_40a : YF165_40a) (f166_aa3 : YF166_aa3) (f167_7ec : YF167_7ec) (f168_40a : YF168_40a) (f169_40a : YF169_40a) (f : Nat) : Option Ev.Spec := Ev.look f [(115, spg115_40a f115_40a), (165, spg165_40a f165_40a), (166, spg166_aa3 f166_aa3), (167, spg167_7ec f167_7ec), (168, spg168_40a f168_40a), (169, spg169_40a f169_40a)]
noncomputable def G93_aa3 (fuel : Nat) : Nat → Option Ev.Spec := Gg93_aa3 (F_coder_Decoder_shift_40a fuel) (F_coder_Decoder_none_40a fuel) (F_coder_interval_mid_aa3 fuel) (F_coder_interval_take_7ec fuel) (F_coder_interval_same_40a fuel) (F_coder_interval_lose_40a fuel)
noncomputable def Sg_coder_Decoder_Get_aa3_1 (fuel : Nat) (f115_40a : YF115_40a) (f165_40a : YF165_40a) (f166_aa3 : YF166_aa3) (f167_7ec : YF167_7ec) (f168_40a : YF168_40a) (f169_40a : YF169_40a) (x0 x1 : Int) (x2 x3 : Int) (x4 x5 : Int) (x6 x7 x8 : Int) (x9 x10 : Bool) (x11 x12 : (List Int)) (x13 x14 : Int) (x15 x16 : Int) (x17 x18 : Int) (x19 x20 : Bool) (c : (Int × Int × Int × Int × Int × Int × Int × Int × Int × Bool × Bool × (List Int) × (List Int) × Int × Int × Int × Int × Int × Int × Bool × Bool) → Option Ans) (B : (Int × Int × Int × Int × Int × Int × Int × Int × Int × Bool × Bool × (List Int) × (List Int) × Int × Int × Int × Int × Int × Int × Bool × Bool → Option Ans)) : Option Ans := match B with
 | b =>
  (f168_40a (x3) (x4) (x5) (x6) (x7) (x8) (x9) (x10) (x11) (x12)
  (fun (y2_0, y2_1, y2_2, y2_3, y2_4, y2_5, y2_6, y2_7, y2_8, y2_9, y2_10) =>
  bif y2_0 then
  (f169_40a (y2_1) (y2_2) (y2_3) (y2_4) (y2_5) (y2_6) (y2_7) (y2_8) (y2_9) (y2_10)
  (fun (y7_0, y7_1, y7_2, y7_3, y7_4, y7_5, y7_6, y7_7, y7_8, y7_9, y7_10) =>
  (f115_40a (y7_1) (y7_2) (y7_3) (y7_4) (y7_5) (y7_6) (y7_7) (y7_8) (y7_9) (y7_10)
  (fun (y11_0, y11_1, y11_2, y11_3, y11_4, y11_5, y11_6, y11_7, y11_8, y11_9) =>
  c (x0, x1, x2, y11_0, y11_1, y11_2, y11_3, y11_4, y11_5, y11_6, y11_7, y11_8, y11_9, x13, x14, x15, x16, x17, x18, x19, x20)))))
  else
  b (x0, x1, x2, y2_1, y2_2, y2_3, y2_4, y2_5, y2_6, y2_7, y2_8, y2_9, y2_10, x13, x14, x15, x16, x17, x18, x19, x20)))
noncomputable def S_coder_Decoder_Get_aa3_1 (fuel : Nat) (v : Int × Int × Int × Int × Int × Int × Int × Int × Int × Bool × Bool × (List Int) × (List Int) × Int × Int × Int × Int × Int × Int × Bool × Bool) (c : (Int × Int × Int × Int × Int × Int × Int × Int × Int × Bool × Bool × (List Int) × (List Int) × Int × Int × Int × Int × Int × Int × Bool × Bool) → Option Ans) (B : (Int × Int × Int × Int × Int × Int × Int × Int × Int × Bool × Bool × (List Int) × (List Int) × Int × Int × Int × Int × Int × Int × Bool × Bool → Option Ans)) : Option Ans := match v with
 | (x0, x1, x2, x3, x4, x5, x6, x7, x8, x9, x10, x11, x12, x13, x14, x15, x16, x17, x18, x19, x20) => Sg_coder_Decoder_Get_aa3_1 fuel (F_coder_Decoder_shift_40a fuel) (F_coder_Decoder_none_40a fuel) (F_coder_interval_mid_aa3 fuel) (F_coder_interval_take_7ec fuel) (F_coder_interval_same_40a fuel) (F_coder_interval_lose_40a fuel) x0 x1 x2 x3 x4 x5 x6 x7 x8 x9 x10 x11 x12 x13 x14 x15 x16 x17 x18 x19 x20 c B
noncomputable def L_coder_Decoder_Get_aa3_1 (fuel : Nat) (v : Int × Int × Int × Int × Int × Int × Int × Int × Int × Bool × Bool × (List Int) × (List Int) × Int × Int × Int × Int × Int × Int × Bool × Bool) (b : (Int × Int × Int × Int × Int × Int × Int × Int × Int × Bool × Bool × (List Int) × (List Int) × Int × Int × Int × Int × Int × Int × Bool × Bool → Option Ans)) : Option Ans := iter (S_coder_Decoder_Get_aa3_1 fuel) fuel v b
noncomputable def J93_aa3_1 (fuel : Nat) (i : Nat) : Option Ev.Blk := Ev.look i []
noncomputable def T93_aa3_1 (v : Int × Int × Int × Int × Int × Int × Int × Int × Int × Bool × Bool × (List Int) × (List Int) × Int × Int × Int × Int × Int × Int × Bool × Bool) : Ev.St := match v with | (x0, x1, x2, x3, x4, x5, x6, x7, x8, x9, x10, x11, x12, x13, x14, x15, x16, x17, x18, x19, x20) => ⟨[(0, .c (.ptr 0 0)), (1, .c (.int .i64 x0)), (6, .c (.int .i64 x1)), (8, .c (.ptr 3 0)), (9, .c (.int .i64 x2))], [(0, .cells 158 (.int .i64 x3 :: .own 1 :: ctb (.int .u64 x4 :: .int .u64 x5 :: .own 2 :: .int .i64 x6 :: .int .u64 x7 :: .int .i64 x8 :: .bool x9 :: .bool x10 :: []))), (1, .vec 3 (.int .i64) x11 false), (2, .vec 5 (.int .u8) x12 false), (3, .cells 158 (.int .i64 x13 :: .own 1 :: ctb (.int .u64 x14 :: .int .u64 x15 :: .own 2 :: .int .i64 x16 :: .int .u64 x17 :: .int .i64 x18 :: .bool x19 :: .bool x20 :: [])))], 4, 3⟩
noncomputable def E93_aa3_1 (K : Ev.Ex → Ev.St → Option Ans) : (Int × Int × Int × Int × Int × Int × Int × Int × Int × Bool × Bool × (List Int) × (List Int) × Int × Int × Int × Int × Int × Int × Bool × Bool → Option Ans) := (fun v => match v with | (x0, x1, x2, x3, x4, x5, x6, x7, x8, x9, x10, x11, x12, x13, x14, x15, x16, x17, x18, x19, x20) => K .normal ⟨[(0, .c (.ptr 0 0)), (1, .c (.int .i64 x0)), (6, .c (.int .i64 x1)), (8, .c (.ptr 3 0)), (9, .c (.int .i64 x2))], [(0, .cells 158 (.int .i64 x3 :: .own 1 :: ctb (.int .u64 x4 :: .int .u64 x5 :: .own 2 :: .int .i64 x6 :: .int .u64 x7 :: .int .i64 x8 :: .bool x9 :: .bool x10 :: []))), (1, .vec 3 (.int .i64) x11 false), (2, .vec 5 (.int .u8) x12 false), (3, .cells 158 (.int .i64 x13 :: .own 1 :: ctb (.int .u64 x14 :: .int .u64 x15 :: .own 2 :: .int .i64 x16 :: .int .u64 x17 :: .int .i64 x18 :: .bool x19 :: .bool x20 :: [])))], 4, 3⟩)
theorem S93_aa3_1_okg (fuel : Nat) (f115_40a : YF115_40a) (f165_40a : YF165_40a) (f166_aa3 : YF166_aa3) (f167_7ec : YF167_7ec) (f168_40a : YF168_40a) (f169_40a : YF169_40a) (R : Ev.St → Option Ans) (K : Ev.Ex → Ev.St → Option Ans) (x0 x1 : Int) (x2 x3 : Int) (x4 x5 : Int) (x6 x7 x8 : Int) (x9 x10 : Bool) (x11 x12 : (List Int)) (x13 x14 : Int) (x15 x16 : Int) (x17 x18 : Int) (x19 x20 : Bool) : evalCode tab (Gg93_aa3 f115_40a f165_40a f166_aa3 f167_7ec f168_40a f169_40a) (J93_aa3_1 fuel) kp93_aa3 fuel (bodyOf 1 Try.f93) (T93_aa3_1 (x0, x1, x2, x3, x4, x5, x6, x7, x8, x9, x10, x11, x12, x13, x14, x15, x16, x17, x18, x19, x20)) (lc kp93_aa3 12 1 R K) = Sg_coder_Decoder_Get_aa3_1 fuel f115_40a f165_40a f166_aa3 f167_7ec f168_40a f169_40a x0 x1 x2 x3 x4 x5 x6 x7 x8 x9 x10 x11 x12 x13 x14 x15 x16 x17 x18 x19 x20 (fun v => R (T93_aa3_1 v)) (E93_aa3_1 K) := by
  kernel_rfl
theorem S93_aa3_1_ok (fuel : Nat) (R : Ev.St → Option Ans) (K : Ev.Ex → Ev.St → Option Ans) (x0 x1 : Int) (x2 x3 : Int) (x4 x5 : Int) (x6 x7 x8 : Int) (x9 x10 : Bool) (x11 x12 : (List Int)) (x13 x14 : Int) (x15 x16 : Int) (x17 x18 : Int) (x19 x20 : Bool) : evalCode tab (G93_aa3 fuel) (J93_aa3_1 fuel) kp93_aa3 fuel (bodyOf 1 Try.f93) (T93_aa3_1 (x0, x1, x2, x3, x4, x5, x6, x7, x8, x9, x10, x11, x12, x13, x14, x15, x16, x17, x18, x19, x20)) (lc kp93_aa3 12 1 R K) = S_coder_Decoder_Get_aa3_1 fuel (x0, x1, x2, x3, x4, x5, x6, x7, x8, x9, x10, x11, x12, x13, x14, x15, x16, x17, x18, x19, x20) (fun v => R (T93_aa3_1 v)) (E93_aa3_1 K) :=
  S93_aa3_1_okg fuel (F_coder_Decoder_shift_40a fuel) (F_coder_Decoder_none_40a fuel) (F_coder_interval_mid_aa3 fuel) (F_coder_interval_take_7ec fuel) (F_coder_interval_same_40a fuel) (F_coder_interval_lose_40a fuel) R K x0 x1 x2 x3 x4 x5 x6 x7 x8 x9 x10 x11 x12 x13 x14 x15 x16 x17 x18 x19 x20
noncomputable def B93_aa3_1 (fuel : Nat) : Ev.Blk := fun st K => match canonO (kp93_aa3 12) st with
 | some s => (match s with
 | ⟨[(q0, .c (.ptr q1 q2)), (q3, .c (.int .i64 x0)), (q4, .c (.int .i64 x1)), (q5, .c (.ptr q6 q7)), (q8, .c (.int .i64 x2))], [(q9, .cells q10 cs0), (q11, .vec q12 (.int .i64) x11 false), (q13, .vec q14 (.int .u8) x12 false), (q15, .cells q16 cs1)], q17, q18⟩ => (match splitRun 2 ctn cs0 with | some ([.int .i64 x3, .own q19], [.int .u64 x4, .int .u64 x5, .own q20, .int .i64 x6, .int .u64 x7, .int .i64 x8, .bool x9, .bool x10]) => (match splitRun 2 ctn cs1 with | some ([.int .i64 x13, .own q21], [.int .u64 x14, .int .u64 x15, .own q22, .int .i64 x16, .int .u64 x17, .int .i64 x18, .bool x19, .bool x20]) => bif Nat.beq q0 0 && Nat.beq q1 0 && Nat.beq q2 0 && Nat.beq q3 1 && Nat.beq q4 6 && Nat.beq q5 8 && Nat.beq q6 3 && Nat.beq q7 0 && Nat.beq q8 9 && Nat.beq q9 0 && Nat.beq q10 158 && Nat.beq q11 1 && Nat.beq q12 3 && Nat.beq q13 2 && Nat.beq q14 5 && Nat.beq q15 3 && Nat.beq q16 158 && Nat.beq q17 4 && Nat.beq q18 3 && Nat.beq q19 1 && Nat.beq q20 2 && Nat.beq q21 1 && Nat.beq q22 2 then iter (S_coder_Decoder_Get_aa3_1 fuel) fuel (x0, x1, x2, x3, x4, x5, x6, x7, x8, x9, x10, x11, x12, x13, x14, x15, x16, x17, x18, x19, x20) (E93_aa3_1 K) else none | _ => none) | _ => none)
 | _ => none)
 | none => none
theorem B93_aa3_1_ok (fuel : Nat) (st : Ev.St) (K : Ev.Ex → Ev.St → Option Ans) (r : Ans) (h : B93_aa3_1 fuel st K = some r) : evalCode tab (G93_aa3 fuel) (J93_aa3_1 fuel) kp93_aa3 fuel (.block 1 (.loop (bodyOf 1 Try.f93))) st K = some r := by
  unfold B93_aa3_1 at h
  split at h
  · rename_i s hs
    split at h
    · skip
      split at h
      rotate_left 1
      · cases h
      rename_i hsp
      have esp := splitRun_eq hsp
      subst esp
      split at h
      rotate_left 1
      · cases h
      rename_i hsp
      have esp := splitRun_eq hsp
      subst esp
      obtain ⟨hb, h⟩ := cond_some' h
      simp only [Bool.and_eq_true, Nat.beq_eq, decide_eq_true_eq] at hb
      obtain ⟨⟨⟨⟨⟨⟨⟨⟨⟨⟨⟨⟨⟨⟨⟨⟨⟨⟨⟨⟨⟨⟨rfl, rfl⟩, rfl⟩, rfl⟩, rfl⟩, rfl⟩, rfl⟩, rfl⟩, rfl⟩, rfl⟩, rfl⟩, rfl⟩, rfl⟩, rfl⟩, rfl⟩, rfl⟩, rfl⟩, rfl⟩, rfl⟩, rfl⟩, rfl⟩, rfl⟩, rfl⟩ := hb
      exact blk_loop (S := T93_aa3_1) (ks := E93_aa3_1) (step := S_coder_Decoder_Get_aa3_1 fuel) (v := (_, _, _, _, _, _, _, _, _, _, _, _, _, _, _, _, _, _, _, _, _)) (by kernel_rfl) (by kernel_rfl) (fun R K v => by obtain ⟨x0, x1, x2, x3, x4, x5, x6, x7, x8, x9, x10, x11, x12, x13, x14, x15, x16, x17, x18, x19, x20⟩ := v; exact S93_aa3_1_ok fuel R K x0 x1 x2 x3 x4 x5 x6 x7 x8 x9 x10 x11 x12 x13 x14 x15 x16 x17 x18 x19 x20) hs h
    · cases h
  · cases h
noncomputable def J93_aa3 (fuel : Nat) (i : Nat) : Option Ev.Blk := Ev.look i [(100001, B93_aa3_1 fuel)]
noncomputable def Fg_coder_Decoder_Get_aa3 (fuel : Nat) (f115_40a : YF115_40a) (f165_40a : YF165_40a) (f166_aa3 : YF166_aa3) (f167_7ec : YF167_7ec) (f168_40a : YF168_40a) (f169_40a : YF169_40a) (x0 x1 : Int) (x2 x3 : Int) (x4 x5 x6 : Int) (x7 x8 : Bool) (x9 x10 : (List Int)) (k0 : (Int × Int × Int × Int × Int × Int × Int × Int × Bool × Bool × (List Int) × (List Int)) → Option Ans) : Option Ans :=
  (f165_40a (x1) (x2) (x3) (x4) (x5) (x6) (x7) (x8) (x9) (x10)
  (fun (y2_0, y2_1, y2_2, y2_3, y2_4, y2_5, y2_6, y2_7, y2_8, y2_9, y2_10) =>
  bif y2_0 then
  k0 ((0 : Int), (7 : Int), y2_1, y2_2, y2_3, y2_4, y2_5, y2_6, y2_7, y2_8, y2_9, y2_10)
  else
  bif decide (x0 < (0 : Int)) then
  k0 ((0 : Int), (2 : Int), y2_1, y2_2, y2_3, y2_4, y2_5, y2_6, y2_7, y2_8, y2_9, y2_10)
  else
  bif decide (x0 ≥ (↑y2_9.length : Int)) then
  k0 ((0 : Int), (2 : Int), y2_1, y2_2, y2_3, y2_4, y2_5, y2_6, y2_7, y2_8, y2_9, y2_10)
  else
  bif y2_7 then
  k0 ((0 : Int), (6 : Int), y2_1, y2_2, y2_3, y2_4, y2_5, y2_6, y2_7, y2_8, y2_9, y2_10)
  else
  (f166_aa3 (x0) (y2_1) (y2_2) (y2_3) (y2_4) (y2_5) (y2_6) (y2_7) (y2_8) (y2_9) (y2_10)
  (fun (y10_0, y10_1, y10_2, y10_3, y10_4, y10_5, y10_6, y10_7, y10_8, y10_9, y10_10) =>
  bif decide (y10_5 ≤ y10_0) then
  bif decide ((0 : Int) ≤ x0 ∧ x0 < (↑y10_9.length : Int)) then
  both ((f167_7ec (x0) ((1 : Int)) (y10_0) (y10_1) (y10_2) (y10_3) (y10_4) (y10_5) (y10_6) (y10_7) (y10_8) (y10_9) (y10_10)
  (fun (y18_0, y18_1, y18_2, y18_3, y18_4, y18_5, y18_6, y18_7, y18_8, y18_9) =>
  (L_coder_Decoder_Get_aa3_1 fuel (x0, (1 : Int), y10_9.getD x0.toNat (0 : Int), y18_0, y18_1, y18_2, y18_3, y18_4, y18_5, y18_6, y18_7, y18_8, y18_9, y10_1, y10_2, y10_3, y10_4, y10_5, y10_6, y10_7, y10_8)
  (fun (b1_0, b1_1, b1_2, b1_3, b1_4, b1_5, b1_6, b1_7, b1_8, b1_9, b1_10, b1_11, b1_12, b1_13, b1_14, b1_15, b1_16, b1_17, b1_18, b1_19, b1_20) =>
  bif decide (b1_8 > (4 : Int)) then
  bif decide ((0 : Int) ≤ b1_0 ∧ b1_0 < (↑b1_11.length : Int)) then
  k0 ((0 : Int), (6 : Int), b1_13, b1_14, b1_15, b1_16, b1_17, b1_18, true, b1_20, b1_11.set b1_0.toNat b1_2, b1_12)
  else none
  else
  k0 (b1_1, (0 : Int), b1_3, b1_4, b1_5, b1_6, b1_7, b1_8, b1_9, b1_10, b1_11, b1_12))))))
  (both ((f167_7ec (x0) ((1 : Int)) (y10_0) (y10_1) (y10_2) (y10_3) (y10_4) (y10_5) (y10_6) (y10_7) (y10_8) (y10_9) (y10_10)
  (fun (y20_0, y20_1, y20_2, y20_3, y20_4, y20_5, y20_6, y20_7, y20_8, y20_9) =>
  (L_coder_Decoder_Get_aa3_1 fuel (x0, (1 : Int), y10_9.getD x0.toNat (0 : Int), y20_0, y20_1, y20_2, y20_3, y20_4, y20_5, y20_6, y20_7, y20_8, y20_9, y10_1, y10_2, y10_3, y10_4, y10_5, y10_6, y10_7, y10_8)
  (fun (b1_0, b1_1, b1_2, b1_3, b1_4, b1_5, b1_6, b1_7, b1_8, b1_9, b1_10, b1_11, b1_12, b1_13, b1_14, b1_15, b1_16, b1_17, b1_18, b1_19, b1_20) =>
  bif decide (b1_8 > (4 : Int)) then
  bif decide ((0 : Int) ≤ b1_0 ∧ b1_0 < (↑b1_11.length : Int)) then
  k0 ((0 : Int), (6 : Int), b1_13, b1_14, b1_15, b1_16, b1_17, b1_18, true, b1_20, b1_11.set b1_0.toNat b1_2, b1_12)
  else none
  else
  k0 (b1_1, (0 : Int), b1_3, b1_4, b1_5, b1_6, b1_7, b1_8, b1_9, b1_10, b1_11, b1_12))))))
  ((f167_7ec (x0) ((1 : Int)) (y10_0) (y10_1) (y10_2) (y10_3) (y10_4) (y10_5) (y10_6) (y10_7) (y10_8) (y10_9) (y10_10)
  (fun (y20_0, y20_1, y20_2, y20_3, y20_4, y20_5, y20_6, y20_7, y20_8, y20_9) =>
  (L_coder_Decoder_Get_aa3_1 fuel (x0, (1 : Int), y10_9.getD x0.toNat (0 : Int), y20_0, y20_1, y20_2, y20_3, y20_4, y20_5, y20_6, y20_7, y20_8, y20_9, y10_1, y10_2, y10_3, y10_4, y10_5, y10_6, y10_7, y10_8)
  (fun (b1_0, b1_1, b1_2, b1_3, b1_4, b1_5, b1_6, b1_7, b1_8, b1_9, b1_10, b1_11, b1_12, b1_13, b1_14, b1_15, b1_16, b1_17, b1_18, b1_19, b1_20) =>
  bif decide (b1_8 > (4 : Int)) then
  bif decide ((0 : Int) ≤ b1_0 ∧ b1_0 < (↑b1_11.length : Int)) then
  k0 ((0 : Int), (6 : Int), b1_13, b1_14, b1_15, b1_16, b1_17, b1_18, true, b1_20, b1_11.set b1_0.toNat b1_2, b1_12)
  else none
  else
  k0 (b1_1, (0 : Int), b1_3, b1_4, b1_5, b1_6, b1_7, b1_8, b1_9, b1_10, b1_11, b1_12)))))))
  else none
  else
  bif decide ((0 : Int) ≤ x0 ∧ x0 < (↑y10_9.length : Int)) then
  both ((f167_7ec (x0) ((0 : Int)) (y10_0) (y10_1) (y10_2) (y10_3) (y10_4) (y10_5) (y10_6) (y10_7) (y10_8) (y10_9) (y10_10)
  (fun (y18_0, y18_1, y18_2, y18_3, y18_4, y18_5, y18_6, y18_7, y18_8, y18_9) =>
  (L_coder_Decoder_Get_aa3_1 fuel (x0, (0 : Int), y10_9.getD x0.toNat (0 : Int), y18_0, y18_1, y18_2, y18_3, y18_4, y18_5, y18_6, y18_7, y18_8, y18_9, y10_1, y10_2, y10_3, y10_4, y10_5, y10_6, y10_7, y10_8)
  (fun (b1_0, b1_1, b1_2, b1_3, b1_4, b1_5, b1_6, b1_7, b1_8, b1_9, b1_10, b1_11, b1_12, b1_13, b1_14, b1_15, b1_16, b1_17, b1_18, b1_19, b1_20) =>
  bif decide (b1_8 > (4 : Int)) then
  bif decide ((0 : Int) ≤ b1_0 ∧ b1_0 < (↑b1_11.length : Int)) then
  k0 ((0 : Int), (6 : Int), b1_13, b1_14, b1_15, b1_16, b1_17, b1_18, true, b1_20, b1_11.set b1_0.toNat b1_2, b1_12)
  else none
  else
  k0 (b1_1, (0 : Int), b1_3, b1_4, b1_5, b1_6, b1_7, b1_8, b1_9, b1_10, b1_11, b1_12))))))
  (both ((f167_7ec (x0) ((0 : Int)) (y10_0) (y10_1) (y10_2) (y10_3) (y10_4) (y10_5) (y10_6) (y10_7) (y10_8) (y10_9) (y10_10)
  (fun (y20_0, y20_1, y20_2, y20_3, y20_4, y20_5, y20_6, y20_7, y20_8, y20_9) =>
  (L_coder_Decoder_Get_aa3_1 fuel (x0, (0 : Int), y10_9.getD x0.toNat (0 : Int), y20_0, y20_1, y20_2, y20_3, y20_4, y20_5, y20_6, y20_7, y20_8, y20_9, y10_1, y10_2, y10_3, y10_4, y10_5, y10_6, y10_7, y10_8)
  (fun (b1_0, b1_1, b1_2, b1_3, b1_4, b1_5, b1_6, b1_7, b1_8, b1_9, b1_10, b1_11, b1_12, b1_13, b1_14, b1_15, b1_16, b1_17, b1_18, b1_19, b1_20) =>
  bif decide (b1_8 > (4 : Int)) then
  bif decide ((0 : Int) ≤ b1_0 ∧ b1_0 < (↑b1_11.length : Int)) then
  k0 ((0 : Int), (6 : Int), b1_13, b1_14, b1_15, b1_16, b1_17, b1_18, true, b1_20, b1_11.set b1_0.toNat b1_2, b1_12)
  else none
  else
  k0 (b1_1, (0 : Int), b1_3, b1_4, b1_5, b1_6, b1_7, b1_8, b1_9, b1_10, b1_11, b1_12))))))
  ((f167_7ec (x0) ((0 : Int)) (y10_0) (y10_1) (y10_2) (y10_3) (y10_4) (y10_5) (y10_6) (y10_7) (y10_8) (y10_9) (y10_10)
  (fun (y20_0, y20_1, y20_2, y20_3, y20_4, y20_5, y20_6, y20_7, y20_8, y20_9) =>
  (L_coder_Decoder_Get_aa3_1 fuel (x0, (0 : Int), y10_9.getD x0.toNat (0 : Int), y20_0, y20_1, y20_2, y20_3, y20_4, y20_5, y20_6, y20_7, y20_8, y20_9, y10_1, y10_2, y10_3, y10_4, y10_5, y10_6, y10_7, y10_8)
  (fun (b1_0, b1_1, b1_2, b1_3, b1_4, b1_5, b1_6, b1_7, b1_8, b1_9, b1_10, b1_11, b1_12, b1_13, b1_14, b1_15, b1_16, b1_17, b1_18, b1_19, b1_20) =>
  bif decide (b1_8 > (4 : Int)) then
  bif decide ((0 : Int) ≤ b1_0 ∧ b1_0 < (↑b1_11.length : Int)) then
  k0 ((0 : Int), (6 : Int), b1_13, b1_14, b1_15, b1_16, b1_17, b1_18, true, b1_20, b1_11.set b1_0.toNat b1_2, b1_12)
  else none
  else
  k0 (b1_1, (0 : Int), b1_3, b1_4, b1_5, b1_6, b1_7, b1_8, b1_9, b1_10, b1_11, b1_12)))))))
  else none))))
noncomputable def F_coder_Decoder_Get_aa3 (fuel : Nat) (x0 x1 : Int) (x2 x3 : Int) (x4 x5 x6 : Int) (x7 x8 : Bool) (x9 x10 : (List Int)) (k0 : (Int × Int × Int × Int × Int × Int × Int × Int × Bool × Bool × (List Int) × (List Int)) → Option Ans) : Option Ans := Fg_coder_Decoder_Get_aa3 fuel (F_coder_Decoder_shift_40a fuel) (F_coder_Decoder_none_40a fuel) (F_coder_interval_mid_aa3 fuel) (F_coder_interval_take_7ec fuel) (F_coder_interval_same_40a fuel) (F_coder_interval_lose_40a fuel) x0 x1 x2 x3 x4 x5 x6 x7 x8 x9 x10 k0
abbrev YF93_aa3 : Type := (Int) → (Int) → (Int) → (Int) → (Int) → (Int) → (Int) → (Bool) → (Bool) → ((List Int)) → ((List Int)) → ((Int × Int × Int × Int × Int × Int × Int × Int × Bool × Bool × (List Int) × (List Int)) → Option Ans) → Option Ans
theorem F93_aa3_eqg (fuel : Nat) (f115_40a : YF115_40a) (f165_40a : YF165_40a) (f166_aa3 : YF166_aa3) (f167_7ec : YF167_7ec) (f168_40a : YF168_40a) (f169_40a : YF169_40a) (x0 x1 : Int) (x2 x3 : Int) (x4 x5 x6 : Int) (x7 x8 : Bool) (x9 x10 : (List Int)) (k : Ev.Cont) : evalFn tab (Gg93_aa3 f115_40a f165_40a f166_aa3 f167_7ec f168_40a f169_40a) (J93_aa3 fuel) kp93_aa3 fuel Try.f93 [.c (.ptr 0 0), .c (.int .i64 x0)] [.cells 158 (.int .i64 x1 :: .own 1 :: ctb (.int .u64 x2 :: .int .u64 x3 :: .own 2 :: .int .i64 x4 :: .int .u64 x5 :: .int .i64 x6 :: .bool x7 :: .bool x8 :: [])), .vec 3 (.int .i64) x9 false, .vec 5 (.int .u8) x10 false] k = Fg_coder_Decoder_Get_aa3 fuel f115_40a f165_40a f166_aa3 f167_7ec f168_40a f169_40a x0 x1 x2 x3 x4 x5 x6 x7 x8 x9 x10 (fun r => match r with | (r0, r1, r2, r3, r4, r5, r6, r7, r8, r9, r10, r11) => k (.tup [(false, [.int .i64 r0]), (false, [.int .i64 r1])], [.cells 158 (.int .i64 r2 :: .own 1 :: ctb (.int .u64 r3 :: .int .u64 r4 :: .own 2 :: .int .i64 r5 :: .int .u64 r6 :: .int .i64 r7 :: .bool r8 :: .bool r9 :: [])), .vec 3 (.int .i64) r10 false, .vec 5 (.int .u8) r11 false])) := by
  kernel_rfl
theorem F93_aa3_eq (fuel : Nat) (x0 x1 : Int) (x2 x3 : Int) (x4 x5 x6 : Int) (x7 x8 : Bool) (x9 x10 : (List Int)) (k : Ev.Cont) : evalFn tab (G93_aa3 fuel) (J93_aa3 fuel) kp93_aa3 fuel Try.f93 [.c (.ptr 0 0), .c (.int .i64 x0)] [.cells 158 (.int .i64 x1 :: .own 1 :: ctb (.int .u64 x2 :: .int .u64 x3 :: .own 2 :: .int .i64 x4 :: .int .u64 x5 :: .int .i64 x6 :: .bool x7 :: .bool x8 :: [])), .vec 3 (.int .i64) x9 false, .vec 5 (.int .u8) x10 false] k = F_coder_Decoder_Get_aa3 fuel x0 x1 x2 x3 x4 x5 x6 x7 x8 x9 x10 (fun r => match r with | (r0, r1, r2, r3, r4, r5, r6, r7, r8, r9, r10, r11) => k (.tup [(false, [.int .i64 r0]), (false, [.int .i64 r1])], [.cells 158 (.int .i64 r2 :: .own 1 :: ctb (.int .u64 r3 :: .int .u64 r4 :: .own 2 :: .int .i64 r5 :: .int .u64 r6 :: .int .i64 r7 :: .bool r8 :: .bool r9 :: [])), .vec 3 (.int .i64) r10 false, .vec 5 (.int .u8) r11 false])) :=
  F93_aa3_eqg fuel (F_coder_Decoder_shift_40a fuel) (F_coder_Decoder_none_40a fuel) (F_coder_interval_mid_aa3 fuel) (F_coder_interval_take_7ec fuel) (F_coder_interval_same_40a fuel) (F_coder_interval_lose_40a fuel) x0 x1 x2 x3 x4 x5 x6 x7 x8 x9 x10 k
theorem hG93_aa3 (fuel : Nat) : GOK Try.prog (G93_aa3 fuel) :=
  gok_cons ⟨ok115_40a fuel, enters_of Try.func115 (by kernel_rfl) rfl⟩ <|
  gok_cons ⟨ok165_40a fuel, enters_of Try.func165 (by kernel_rfl) rfl⟩ <|
  gok_cons ⟨ok166_aa3 fuel, enters_of Try.func166 (by kernel_rfl) rfl⟩ <|
  gok_cons ⟨ok167_7ec fuel, enters_of Try.func167 (by kernel_rfl) rfl⟩ <|
  gok_cons ⟨ok168_40a fuel, enters_of Try.func168 (by kernel_rfl) rfl⟩ <|
  gok_cons ⟨ok169_40a fuel, enters_of Try.func169 (by kernel_rfl) rfl⟩ <|
  gok_nil
theorem B93_aa3_1_blk (fuel : Nat) : BlkOK Try.prog Try.f93.ntmps (.block 1 (.loop (bodyOf 1 Try.f93))) (B93_aa3_1 fuel) :=
  blk_of (blk_of_code tab_ok (hG93_aa3 fuel) mixed (J := J93_aa3_1 fuel) (kp := kp93_aa3) (fuel := fuel) (by kernel_rfl) (fun q hq => by
    rw [(by kernel_rfl : obl (J93_aa3_1 fuel) (.block 1 (.loop (bodyOf 1 Try.f93))) = [])] at hq
    cases hq)) (B93_aa3_1_ok fuel)
theorem fok93_aa3 (fuel : Nat) : FnOK Try.prog 93 (evalFn tab (G93_aa3 fuel) (J93_aa3 fuel) kp93_aa3 fuel Try.f93) :=
  fn_ok tab_ok (hG93_aa3 fuel) mixed Try.func93 (c := (Try.f93.body).getD .skip) rfl (fun q hq => by
    rw [(by kernel_rfl : obl (J93_aa3 fuel) ((Try.f93.body).getD .skip) = [(.block 1 (.loop (bodyOf 1 Try.f93)), B93_aa3_1 fuel)])] at hq
    simp only [List.mem_cons, List.not_mem_nil, or_false] at hq
    subst hq
    · exact B93_aa3_1_blk fuel)
noncomputable def mt93_aa3 : List Ev.SV → List Ev.Ob → Bool := fun args objs => match args, objs with
 | [.c (.ptr q0 q1), .c (.int .i64 _)], [.cells q2 cs0, .vec q3 (.int .i64) _ false, .vec q4 (.int .u8) _ false] => (match splitRun 2 ctn cs0 with | some ([.int .i64 _, .own q5], [.int .u64 _, .int .u64 _, .own q6, .int .i64 _, .int .u64 _, .int .i64 _, .bool _, .bool _]) => Nat.beq q0 0 && Nat.beq q1 0 && Nat.beq q2 158 && Nat.beq q3 3 && Nat.beq q4 5 && Nat.beq q5 1 && Nat.beq q6 2 | _ => false)
 | _, _ => false
noncomputable def spg93_aa3 (F : YF93_aa3) : Ev.Spec := fun args objs k => match args, objs with
 | [.c (.ptr q0 q1), .c (.int .i64 x0)], [.cells q2 cs0, .vec q3 (.int .i64) x9 false, .vec q4 (.int .u8) x10 false] => (match splitRun 2 ctn cs0 with | some ([.int .i64 x1, .own q5], [.int .u64 x2, .int .u64 x3, .own q6, .int .i64 x4, .int .u64 x5, .int .i64 x6, .bool x7, .bool x8]) => bif Nat.beq q0 0 && Nat.beq q1 0 && Nat.beq q2 158 && Nat.beq q3 3 && Nat.beq q4 5 && Nat.beq q5 1 && Nat.beq q6 2 then F x0 x1 x2 x3 x4 x5 x6 x7 x8 x9 x10 (fun r => match r with | (r0, r1, r2, r3, r4, r5, r6, r7, r8, r9, r10, r11) => k (.tup [(false, [.int .i64 r0]), (false, [.int .i64 r1])], [.cells 158 (.int .i64 r2 :: .own 1 :: ctb (.int .u64 r3 :: .int .u64 r4 :: .own 2 :: .int .i64 r5 :: .int .u64 r6 :: .int .i64 r7 :: .bool r8 :: .bool r9 :: [])), .vec 3 (.int .i64) r10 false, .vec 5 (.int .u8) r11 false])) else none | _ => none)
 | _, _ => none
noncomputable def spec93_aa3 (fuel : Nat) : Ev.Spec := spg93_aa3 (F_coder_Decoder_Get_aa3 fuel)
theorem ok93_aa3 (fuel : Nat) : FnOK Try.prog 93 (spec93_aa3 fuel) := by
  intro args objs kk r h
  unfold spec93_aa3 spg93_aa3 at h
  split at h
  · skip
    split at h
    rotate_left 1
    · cases h
    rename_i hsp
    have esp := splitRun_eq hsp
    subst esp
    obtain ⟨hb, h⟩ := cond_some' h
    simp only [Bool.and_eq_true, Nat.beq_eq, decide_eq_true_eq] at hb
    obtain ⟨⟨⟨⟨⟨⟨rfl, rfl⟩, rfl⟩, rfl⟩, rfl⟩, rfl⟩, rfl⟩ := hb
    exact fok93_aa3 fuel _ _ kk r ((F93_aa3_eq fuel _ _ _ _ _ _ _ _ _ _ _ kk).trans h)
  · cases h
end Go.Proofs.Ytihfgpfofmjbaaa

set_option linter.unusedVariables false
set_option linter.unusedSimpArgs false
set_option maxRecDepth 100000
set_option maxHeartbeats 2000000
namespace Go.Proofs.Ytihfgpfofmjbaaa
open Go Ev
def kp96_40a (i : Nat) : Option (List Nat) := Ev.look i []
noncomputable def Gg96_40a (f165_40a : YF165_40a) (f170 : YF170) (f : Nat) : Option Ev.Spec := Ev.look f [(165, spg165_40a f165_40a), (170, spg170 f170)]
noncomputable def G96_40a (fuel : Nat) : Nat → Option Ev.Spec := Gg96_40a (F_coder_Decoder_none_40a fuel) (F_coder_clone fuel)
noncomputable def J96_40a (fuel : Nat) (i : Nat) : Option Ev.Blk := Ev.look i []
noncomputable def Fg_coder_Decoder_Model_40a (fuel : Nat) (f165_40a : YF165_40a) (f170 : YF170) (x0 x1 : Int) (x2 x3 : Int) (x4 x5 : Int) (x6 x7 : Bool) (x8 x9 : (List Int)) (k0 : (Int × Int × Int × Int × Int × Int × Int × Bool × Bool × (List Int) × (List Int) × (List Int)) → Option Ans) : Option Ans :=
  (f165_40a (x0) (x1) (x2) (x3) (x4) (x5) (x6) (x7) (x8) (x9)
  (fun (y2_0, y2_1, y2_2, y2_3, y2_4, y2_5, y2_6, y2_7, y2_8, y2_9, y2_10) =>
  bif y2_0 then
  k0 ((0 : Int), y2_1, y2_2, y2_3, y2_4, y2_5, y2_6, y2_7, y2_8, y2_9, y2_10, [])
  else
  (f170 (y2_1) (y2_9)
  (fun (y7_0, y7_1) =>
  k0 (y7_0, y2_1, y2_2, y2_3, y2_4, y2_5, y2_6, y2_7, y2_8, y2_9, y2_10, y7_1)))))
noncomputable def F_coder_Decoder_Model_40a (fuel : Nat) (x0 x1 : Int) (x2 x3 : Int) (x4 x5 : Int) (x6 x7 : Bool) (x8 x9 : (List Int)) (k0 : (Int × Int × Int × Int × Int × Int × Int × Bool × Bool × (List Int) × (List Int) × (List Int)) → Option Ans) : Option Ans := Fg_coder_Decoder_Model_40a fuel (F_coder_Decoder_none_40a fuel) (F_coder_clone fuel) x0 x1 x2 x3 x4 x5 x6 x7 x8 x9 k0
abbrev YF96_40a : Type := (Int) → (Int) → (Int) → (Int) → (Int) → (Int) → (Bool) → (Bool) → ((List Int)) → ((List Int)) → ((Int × Int × Int × Int × Int × Int × Int × Bool × Bool × (List Int) × (List Int) × (List Int)) → Option Ans) → Option Ans
theorem F96_40a_eqg (fuel : Nat) (f165_40a : YF165_40a) (f170 : YF170) (x0 x1 : Int) (x2 x3 : Int) (x4 x5 : Int) (x6 x7 : Bool) (x8 x9 : (List Int)) (k : Ev.Cont) : evalFn tab (Gg96_40a f165_40a f170) (J96_40a fuel) kp96_40a fuel Try.f96 [.c (.ptr 0 0)] [.cells 158 (.int .i64 x0 :: .own 1 :: ctb (.int .u64 x1 :: .int .u64 x2 :: .own 2 :: .int .i64 x3 :: .int .u64 x4 :: .int .i64 x5 :: .bool x6 :: .bool x7 :: [])), .vec 3 (.int .i64) x8 false, .vec 5 (.int .u8) x9 false] k = Fg_coder_Decoder_Model_40a fuel f165_40a f170 x0 x1 x2 x3 x4 x5 x6 x7 x8 x9 (fun r => match r with | (r0, r1, r2, r3, r4, r5, r6, r7, r8, r9, r10, r11) => k (.agg [.int .i64 r0, .own 3], [.cells 158 (.int .i64 r1 :: .own 1 :: ctb (.int .u64 r2 :: .int .u64 r3 :: .own 2 :: .int .i64 r4 :: .int .u64 r5 :: .int .i64 r6 :: .bool r7 :: .bool r8 :: [])), .vec 3 (.int .i64) r9 false, .vec 5 (.int .u8) r10 false, .vec 3 (.int .i64) r11 true])) := by
  kernel_rfl
theorem F96_40a_eq (fuel : Nat) (x0 x1 : Int) (x2 x3 : Int) (x4 x5 : Int) (x6 x7 : Bool) (x8 x9 : (List Int)) (k : Ev.Cont) : evalFn tab (G96_40a fuel) (J96_40a fuel) kp96_40a fuel Try.f96 [.c (.ptr 0 0)] [.cells 158 (.int .i64 x0 :: .own 1 :: ctb (.int .u64 x1 :: .int .u64 x2 :: .own 2 :: .int .i64 x3 :: .int .u64 x4 :: .int .i64 x5 :: .bool x6 :: .bool x7 :: [])), .vec 3 (.int .i64) x8 false, .vec 5 (.int .u8) x9 false] k = F_coder_Decoder_Model_40a fuel x0 x1 x2 x3 x4 x5 x6 x7 x8 x9 (fun r => match r with | (r0, r1, r2, r3, r4, r5, r6, r7, r8, r9, r10, r11) => k (.agg [.int .i64 r0, .own 3], [.cells 158 (.int .i64 r1 :: .own 1 :: ctb (.int .u64 r2 :: .int .u64 r3 :: .own 2 :: .int .i64 r4 :: .int .u64 r5 :: .int .i64 r6 :: .bool r7 :: .bool r8 :: [])), .vec 3 (.int .i64) r9 false, .vec 5 (.int .u8) r10 false, .vec 3 (.int .i64) r11 true])) :=
  F96_40a_eqg fuel (F_coder_Decoder_none_40a fuel) (F_coder_clone fuel) x0 x1 x2 x3 x4 x5 x6 x7 x8 x9 k
theorem hG96_40a (fuel : Nat) : GOK Try.prog (G96_40a fuel) :=
  gok_cons ⟨ok165_40a fuel, enters_of Try.func165 (by kernel_rfl) rfl⟩ <|
  gok_cons ⟨ok170 fuel, enters_of Try.func170 (by kernel_rfl) rfl⟩ <|
  gok_nil
theorem fok96_40a (fuel : Nat) : FnOK Try.prog 96 (evalFn tab (G96_40a fuel) (J96_40a fuel) kp96_40a fuel Try.f96) :=
  fn_ok tab_ok (hG96_40a fuel) mixed Try.func96 (c := (Try.f96.body).getD .skip) rfl (fun q hq => by
    rw [(by kernel_rfl : obl (J96_40a fuel) ((Try.f96.body).getD .skip) = [])] at hq
    cases hq)
noncomputable def mt96_40a : List Ev.SV → List Ev.Ob → Bool := fun args objs => match args, objs with
 | [.c (.ptr q0 q1)], [.cells q2 cs0, .vec q3 (.int .i64) _ false, .vec q4 (.int .u8) _ false] => (match splitRun 2 ctn cs0 with | some ([.int .i64 _, .own q5], [.int .u64 _, .int .u64 _, .own q6, .int .i64 _, .int .u64 _, .int .i64 _, .bool _, .bool _]) => Nat.beq q0 0 && Nat.beq q1 0 && Nat.beq q2 158 && Nat.beq q3 3 && Nat.beq q4 5 && Nat.beq q5 1 && Nat.beq q6 2 | _ => false)
 | _, _ => false
noncomputable def spg96_40a (F : YF96_40a) : Ev.Spec := fun args objs k => match args, objs with
 | [.c (.ptr q0 q1)], [.cells q2 cs0, .vec q3 (.int .i64) x8 false, .vec q4 (.int .u8) x9 false] => (match splitRun 2 ctn cs0 with | some ([.int .i64 x0, .own q5], [.int .u64 x1, .int .u64 x2, .own q6, .int .i64 x3, .int .u64 x4, .int .i64 x5, .bool x6, .bool x7]) => bif Nat.beq q0 0 && Nat.beq q1 0 && Nat.beq q2 158 && Nat.beq q3 3 && Nat.beq q4 5 && Nat.beq q5 1 && Nat.beq q6 2 then F x0 x1 x2 x3 x4 x5 x6 x7 x8 x9 (fun r => match r with | (r0, r1, r2, r3, r4, r5, r6, r7, r8, r9, r10, r11) => k (.agg [.int .i64 r0, .own 3], [.cells 158 (.int .i64 r1 :: .own 1 :: ctb (.int .u64 r2 :: .int .u64 r3 :: .own 2 :: .int .i64 r4 :: .int .u64 r5 :: .int .i64 r6 :: .bool r7 :: .bool r8 :: [])), .vec 3 (.int .i64) r9 false, .vec 5 (.int .u8) r10 false, .vec 3 (.int .i64) r11 true])) else none | _ => none)
 | _, _ => none
noncomputable def spec96_40a (fuel : Nat) : Ev.Spec := spg96_40a (F_coder_Decoder_Model_40a fuel)
theorem ok96_40a (fuel : Nat) : FnOK Try.prog 96 (spec96_40a fuel) := by
  intro args objs kk r h
  unfold spec96_40a spg96_40a at h
  split at h
  · skip
    split at h
    rotate_left 1
    · cases h
    rename_i hsp
    have esp := splitRun_eq hsp
    subst esp
    obtain ⟨hb, h⟩ := cond_some' h
    simp only [Bool.and_eq_true, Nat.beq_eq, decide_eq_true_eq] at hb
    obtain ⟨⟨⟨⟨⟨⟨rfl, rfl⟩, rfl⟩, rfl⟩, rfl⟩, rfl⟩, rfl⟩ := hb
    exact fok96_40a fuel _ _ kk r ((F96_40a_eq fuel _ _ _ _ _ _ _ _ _ _ kk).trans h)
  · cases h
end Go.Proofs.Ytihfgpfofmjbaaa

set_option linter.unusedVariables false
set_option linter.unusedSimpArgs false
set_option maxRecDepth 100000
set_option maxHeartbeats 2000000
namespace Go.Proofs.Ytihfgpfofmjbaaa
open Go Ev
def kp88 (i : Nat) : Option (List Nat) := Ev.look i [(200001, [1])]
noncomputable def Gg88 (f : Nat) : Option Ev.Spec := Ev.look f []
noncomputable def G88 (fuel : Nat) : Nat → Option Ev.Spec := Gg88
noncomputable def J88 (fuel : Nat) (i : Nat) : Option Ev.Blk := Ev.look i []
noncomputable def F_generic_Valid (fuel : Nat) (x0 x1 x2 : Int) (x3 : Bool) (x4 : Int) (k0 : (Bool) → Option Ans) : Option Ans :=
  bif decide (x0 ≥ (0 : Int)) then
  bif decide (x0 ≤ (3 : Int)) then
  bif x4 == (0 : Int) then
  bif decide (x1 ≥ (-8 : Int)) then
  bif decide (x1 ≤ (8 : Int)) then
  bif decide (x2 ≥ (-8 : Int)) then
  bif decide (x2 ≤ (0 : Int)) then
  bif decide (x2 < (0 : Int)) then
  k0 true
  else
  k0 (decide (x1 < (0 : Int)))
  else
  k0 false
  else
  k0 false
  else
  k0 false
  else
  k0 false
  else
  bif x4 == (1 : Int) then
  bif decide (x1 ≥ (-8 : Int)) then
  bif decide (x1 ≤ (8 : Int)) then
  bif decide (x2 ≥ (-8 : Int)) then
  bif decide (x2 ≤ (0 : Int)) then
  bif decide (x2 < (0 : Int)) then
  k0 true
  else
  k0 (decide (x1 < (0 : Int)))
  else
  k0 false
  else
  k0 false
  else
  k0 false
  else
  k0 false
  else
  k0 false
  else
  k0 false
  else
  k0 false
abbrev YF88 : Type := (Int) → (Int) → (Int) → (Bool) → (Int) → ((Bool) → Option Ans) → Option Ans
theorem F88_eq (fuel : Nat) (x0 x1 x2 : Int) (x3 : Bool) (x4 : Int) (k : Ev.Cont) : evalFn tab (G88 fuel) (J88 fuel) kp88 fuel Try.f88 [.agg [.int .i64 x0, .int .i64 x1, .int .i64 x2, .bool x3, .int .i64 x4]] [] k = F_generic_Valid fuel x0 x1 x2 x3 x4 (fun r => match r with | r0 => k (.c (.bool r0), [])) := by
  kernel_rfl
theorem hG88 (fuel : Nat) : GOK Try.prog (G88 fuel) :=
  gok_nil
theorem fok88 (fuel : Nat) : FnOK Try.prog 88 (evalFn tab (G88 fuel) (J88 fuel) kp88 fuel Try.f88) :=
  fn_ok tab_ok (hG88 fuel) mixed Try.func88 (c := (Try.f88.body).getD .skip) rfl (fun q hq => by
    rw [(by kernel_rfl : obl (J88 fuel) ((Try.f88.body).getD .skip) = [])] at hq
    cases hq)
noncomputable def mt88 : List Ev.SV → List Ev.Ob → Bool := fun args objs => match args, objs with
 | [.agg [.int .i64 _, .int .i64 _, .int .i64 _, .bool _, .int .i64 _]], [] => true
 | _, _ => false
noncomputable def spg88 (F : YF88) : Ev.Spec := fun args objs k => match args, objs with
 | [.agg [.int .i64 x0, .int .i64 x1, .int .i64 x2, .bool x3, .int .i64 x4]], [] => bif true then F x0 x1 x2 x3 x4 (fun r => match r with | r0 => k (.c (.bool r0), [])) else none
 | _, _ => none
noncomputable def spec88 (fuel : Nat) : Ev.Spec := spg88 (F_generic_Valid fuel)
theorem ok88 (fuel : Nat) : FnOK Try.prog 88 (spec88 fuel) := by
  intro args objs kk r h
  unfold spec88 spg88 at h
  split at h
  · skip
    obtain ⟨hb, h⟩ := cond_some' h
    simp only [Bool.and_eq_true, Nat.beq_eq, decide_eq_true_eq] at hb
    clear hb
    exact fok88 fuel _ _ kk r ((F88_eq fuel _ _ _ _ _ kk).trans h)
  · cases h
end Go.Proofs.Ytihfgpfofmjbaaa

set_option linter.unusedVariables false
set_option linter.unusedSimpArgs false
set_option maxRecDepth 100000
set_option maxHeartbeats 2000000
namespace Go.Proofs.Ytihfgpfofmjbaaa
open Go Ev
def kp160 (i : Nat) : Option (List Nat) := Ev.look i []
noncomputable def Gg160 (f : Nat) : Option Ev.Spec := Ev.look f []
noncomputable def G160 (fuel : Nat) : Nat → Option Ev.Spec := Gg160
noncomputable def J160 (fuel : Nat) (i : Nat) : Option Ev.Blk := Ev.look i []
noncomputable def F_generic_pixels (fuel : Nat) (x0 : Int) (k0 : ((List (Int × Int))) → Option Ans) : Option Ans :=
  bif x0 == (0 : Int) then
  k0 ([((-1 : Int), (-2 : Int)), ((0 : Int), (-2 : Int)), ((1 : Int), (-2 : Int)), ((-2 : Int), (-1 : Int)), ((-1 : Int), (-1 : Int)), ((0 : Int), (-1 : Int)), ((1 : Int), (-1 : Int)), ((2 : Int), (-1 : Int)), ((-2 : Int), (0 : Int)), ((-1 : Int), (0 : Int))])
  else
  bif x0 == (1 : Int) then
  k0 ([((-1 : Int), (-2 : Int)), ((0 : Int), (-2 : Int)), ((-1 : Int), (-1 : Int)), ((0 : Int), (-1 : Int)), ((1 : Int), (-1 : Int)), ((-2 : Int), (0 : Int)), ((-1 : Int), (0 : Int))])
  else
  bif x0 == (2 : Int) then
  k0 ([((-2 : Int), (-1 : Int)), ((-1 : Int), (-1 : Int)), ((0 : Int), (-1 : Int)), ((1 : Int), (-1 : Int)), ((2 : Int), (-1 : Int)), ((-2 : Int), (0 : Int)), ((-1 : Int), (0 : Int))])
  else
  k0 ([((-1 : Int), (-1 : Int)), ((0 : Int), (-1 : Int)), ((1 : Int), (-1 : Int)), ((-1 : Int), (0 : Int))])
abbrev YF160 : Type := (Int) → (((List (Int × Int))) → Option Ans) → Option Ans
theorem F160_eq (fuel : Nat) (x0 : Int) (k : Ev.Cont) : evalFn tab (G160 fuel) (J160 fuel) kp160 fuel Try.f160 [.c (.int .i64 x0)] [] k = F_generic_pixels fuel x0 (fun r => match r with | r0 => k (.c (.own 0), [.vec 44 (.pair (.int .i64) (.int .i64)) r0 true])) := by
  kernel_rfl
theorem hG160 (fuel : Nat) : GOK Try.prog (G160 fuel) :=
  gok_nil
theorem fok160 (fuel : Nat) : FnOK Try.prog 160 (evalFn tab (G160 fuel) (J160 fuel) kp160 fuel Try.f160) :=
  fn_ok tab_ok (hG160 fuel) mixed Try.func160 (c := (Try.f160.body).getD .skip) rfl (fun q hq => by
    rw [(by kernel_rfl : obl (J160 fuel) ((Try.f160.body).getD .skip) = [])] at hq
    cases hq)
noncomputable def mt160 : List Ev.SV → List Ev.Ob → Bool := fun args objs => match args, objs with
 | [.c (.int .i64 _)], [] => true
 | _, _ => false
noncomputable def spg160 (F : YF160) : Ev.Spec := fun args objs k => match args, objs with
 | [.c (.int .i64 x0)], [] => bif true then F x0 (fun r => match r with | r0 => k (.c (.own 0), [.vec 44 (.pair (.int .i64) (.int .i64)) r0 true])) else none
 | _, _ => none
noncomputable def spec160 (fuel : Nat) : Ev.Spec := spg160 (F_generic_pixels fuel)
theorem ok160 (fuel : Nat) : FnOK Try.prog 160 (spec160 fuel) := by
  intro args objs kk r h
  unfold spec160 spg160 at h
  split at h
  · skip
    obtain ⟨hb, h⟩ := cond_some' h
    simp only [Bool.and_eq_true, Nat.beq_eq, decide_eq_true_eq] at hb
    clear hb
    exact fok160 fuel _ _ kk r ((F160_eq fuel _ kk).trans h)
  · cases h
end Go.Proofs.Ytihfgpfofmjbaaa

set_option linter.unusedVariables false
set_option linter.unusedSimpArgs false
set_option maxRecDepth 100000
set_option maxHeartbeats 2000000
namespace Go.Proofs.Ytihfgpfofmjbaaa
open Go Ev
def kp90 (i : Nat) : Option (List Nat) := Ev.look i []
noncomputable def Gg90 (f160 : YF160) (f : Nat) : Option Ev.Spec := Ev.look f [(160, spg160 f160)]
noncomputable def G90 (fuel : Nat) : Nat → Option Ev.Spec := Gg90 (F_generic_pixels fuel)
noncomputable def J90 (fuel : Nat) (i : Nat) : Option Ev.Blk := Ev.look i []
noncomputable def Fg_generic_contexts (fuel : Nat) (f160 : YF160) (x0 x1 x2 : Int) (x3 : Bool) (x4 : Int) (k0 : (Int) → Option Ans) : Option Ans :=
  (f160 (x0)
  (fun y2 =>
  k0 (Ev.ishl IntKind.i64 (2 : Int) (↑y2.length : Int))))
noncomputable def F_generic_contexts (fuel : Nat) (x0 x1 x2 : Int) (x3 : Bool) (x4 : Int) (k0 : (Int) → Option Ans) : Option Ans := Fg_generic_contexts fuel (F_generic_pixels fuel) x0 x1 x2 x3 x4 k0
abbrev YF90 : Type := (Int) → (Int) → (Int) → (Bool) → (Int) → ((Int) → Option Ans) → Option Ans
theorem F90_eqg (fuel : Nat) (f160 : YF160) (x0 x1 x2 : Int) (x3 : Bool) (x4 : Int) (k : Ev.Cont) : evalFn tab (Gg90 f160) (J90 fuel) kp90 fuel Try.f90 [.agg [.int .i64 x0, .int .i64 x1, .int .i64 x2, .bool x3, .int .i64 x4]] [] k = Fg_generic_contexts fuel f160 x0 x1 x2 x3 x4 (fun r => match r with | r0 => k (.c (.int .i64 r0), [])) := by
  kernel_rfl
theorem F90_eq (fuel : Nat) (x0 x1 x2 : Int) (x3 : Bool) (x4 : Int) (k : Ev.Cont) : evalFn tab (G90 fuel) (J90 fuel) kp90 fuel Try.f90 [.agg [.int .i64 x0, .int .i64 x1, .int .i64 x2, .bool x3, .int .i64 x4]] [] k = F_generic_contexts fuel x0 x1 x2 x3 x4 (fun r => match r with | r0 => k (.c (.int .i64 r0), [])) :=
  F90_eqg fuel (F_generic_pixels fuel) x0 x1 x2 x3 x4 k
theorem hG90 (fuel : Nat) : GOK Try.prog (G90 fuel) :=
  gok_cons ⟨ok160 fuel, enters_of Try.func160 (by kernel_rfl) rfl⟩ <|
  gok_nil
theorem fok90 (fuel : Nat) : FnOK Try.prog 90 (evalFn tab (G90 fuel) (J90 fuel) kp90 fuel Try.f90) :=
  fn_ok tab_ok (hG90 fuel) mixed Try.func90 (c := (Try.f90.body).getD .skip) rfl (fun q hq => by
    rw [(by kernel_rfl : obl (J90 fuel) ((Try.f90.body).getD .skip) = [])] at hq
    cases hq)
noncomputable def mt90 : List Ev.SV → List Ev.Ob → Bool := fun args objs => match args, objs with
 | [.agg [.int .i64 _, .int .i64 _, .int .i64 _, .bool _, .int .i64 _]], [] => true
 | _, _ => false
noncomputable def spg90 (F : YF90) : Ev.Spec := fun args objs k => match args, objs with
 | [.agg [.int .i64 x0, .int .i64 x1, .int .i64 x2, .bool x3, .int .i64 x4]], [] => bif true then F x0 x1 x2 x3 x4 (fun r => match r with | r0 => k (.c (.int .i64 r0), [])) else none
 | _, _ => none
noncomputable def spec90 (fuel : Nat) : Ev.Spec := spg90 (F_generic_contexts fuel)
theorem ok90 (fuel : Nat) : FnOK Try.prog 90 (spec90 fuel) := by
  intro args objs kk r h
  unfold spec90 spg90 at h
  split at h
  · skip
    obtain ⟨hb, h⟩ := cond_some' h
    simp only [Bool.and_eq_true, Nat.beq_eq, decide_eq_true_eq] at hb
    clear hb
    exact fok90 fuel _ _ kk r ((F90_eq fuel _ _ _ _ _ kk).trans h)
  · cases h
end Go.Proofs.Ytihfgpfofmjbaaa

set_option linter.unusedVariables false
set_option linter.unusedSimpArgs false
set_option maxRecDepth 100000
set_option maxHeartbeats 2000000
namespace Go.Proofs.Ytihfgpfofmjbaaa
open Go Ev
def kp95 (i : Nat) : Option (List Nat) := Ev.look i [(200001, [3, 5])]
noncomputable def Gg95 (f90 : YF90) (f : Nat) : Option Ev.Spec := Ev.look f [(90, spg90 f90)]
noncomputable def G95 (fuel : Nat) : Nat → Option Ev.Spec := Gg95 (F_generic_contexts fuel)
noncomputable def J95 (fuel : Nat) (i : Nat) : Option Ev.Blk := Ev.look i []
noncomputable def Fg_generic_fits (fuel : Nat) (f90 : YF90) (x0 : Int) (x1 : (List Int)) (x2 x3 : Int) (x4 x5 : Int) (x6 : Bool) (x7 : Int) (k0 : (Bool) → Option Ans) : Option Ans :=
  bif decide (x2 ≥ (0 : Int)) then
  (f90 (x3) (x4) (x5) (x6) (x7)
  (fun y3 =>
  k0 (decide (x2 ≤ IntKind.i64.wrap (IntKind.i64.wrap ((↑x1.length : Int) - y3) - (1 : Int))))))
  else
  k0 false
noncomputable def F_generic_fits (fuel : Nat) (x0 : Int) (x1 : (List Int)) (x2 x3 : Int) (x4 x5 : Int) (x6 : Bool) (x7 : Int) (k0 : (Bool) → Option Ans) : Option Ans := Fg_generic_fits fuel (F_generic_contexts fuel) x0 x1 x2 x3 x4 x5 x6 x7 k0
abbrev YF95 : Type := (Int) → ((List Int)) → (Int) → (Int) → (Int) → (Int) → (Bool) → (Int) → ((Bool) → Option Ans) → Option Ans
theorem F95_eqg (fuel : Nat) (f90 : YF90) (x0 : Int) (x1 : (List Int)) (x2 x3 : Int) (x4 x5 : Int) (x6 : Bool) (x7 : Int) (k : Ev.Cont) : evalFn tab (Gg95 f90) (J95 fuel) kp95 fuel Try.f95 [.agg [.int .i64 x0, .sl (.int .i64) x1], .c (.int .i64 x2), .agg [.int .i64 x3, .int .i64 x4, .int .i64 x5, .bool x6, .int .i64 x7]] [] k = Fg_generic_fits fuel f90 x0 x1 x2 x3 x4 x5 x6 x7 (fun r => match r with | r0 => k (.c (.bool r0), [])) := by
  kernel_rfl
theorem F95_eq (fuel : Nat) (x0 : Int) (x1 : (List Int)) (x2 x3 : Int) (x4 x5 : Int) (x6 : Bool) (x7 : Int) (k : Ev.Cont) : evalFn tab (G95 fuel) (J95 fuel) kp95 fuel Try.f95 [.agg [.int .i64 x0, .sl (.int .i64) x1], .c (.int .i64 x2), .agg [.int .i64 x3, .int .i64 x4, .int .i64 x5, .bool x6, .int .i64 x7]] [] k = F_generic_fits fuel x0 x1 x2 x3 x4 x5 x6 x7 (fun r => match r with | r0 => k (.c (.bool r0), [])) :=
  F95_eqg fuel (F_generic_contexts fuel) x0 x1 x2 x3 x4 x5 x6 x7 k
theorem hG95 (fuel : Nat) : GOK Try.prog (G95 fuel) :=
  gok_cons ⟨ok90 fuel, enters_of Try.func90 (by kernel_rfl) rfl⟩ <|
  gok_nil
theorem fok95 (fuel : Nat) : FnOK Try.prog 95 (evalFn tab (G95 fuel) (J95 fuel) kp95 fuel Try.f95) :=
  fn_ok tab_ok (hG95 fuel) mixed Try.func95 (c := (Try.f95.body).getD .skip) rfl (fun q hq => by
    rw [(by kernel_rfl : obl (J95 fuel) ((Try.f95.body).getD .skip) = [])] at hq
    cases hq)
noncomputable def mt95 : List Ev.SV → List Ev.Ob → Bool := fun args objs => match args, objs with
 | [.agg [.int .i64 _, .sl (.int .i64) _], .c (.int .i64 _), .agg [.int .i64 _, .int .i64 _, .int .i64 _, .bool _, .int .i64 _]], [] => true
 | _, _ => false
noncomputable def spg95 (F : YF95) : Ev.Spec := fun args objs k => match args, objs with
 | [.agg [.int .i64 x0, .sl (.int .i64) x1], .c (.int .i64 x2), .agg [.int .i64 x3, .int .i64 x4, .int .i64 x5, .bool x6, .int .i64 x7]], [] => bif true then F x0 x1 x2 x3 x4 x5 x6 x7 (fun r => match r with | r0 => k (.c (.bool r0), [])) else none
 | _, _ => none
noncomputable def spec95 (fuel : Nat) : Ev.Spec := spg95 (F_generic_fits fuel)
theorem ok95 (fuel : Nat) : FnOK Try.prog 95 (spec95 fuel) := by
  intro args objs kk r h
  unfold spec95 spg95 at h
  split at h
  · skip
    obtain ⟨hb, h⟩ := cond_some' h
    simp only [Bool.and_eq_true, Nat.beq_eq, decide_eq_true_eq] at hb
    clear hb
    exact fok95 fuel _ _ kk r ((F95_eq fuel _ _ _ _ _ _ _ _ kk).trans h)
  · cases h
end Go.Proofs.Ytihfgpfofmjbaaa

set_option linter.unusedVariables false
set_option linter.unusedSimpArgs false
set_option maxRecDepth 100000
set_option maxHeartbeats 2000000
namespace Go.Proofs.Ytihfgpfofmjbaaa
open Go Ev
def kp97 (i : Nat) : Option (List Nat) := Ev.look i [(200001, [3])]
noncomputable def Gg97 (f160 : YF160) (f : Nat) : Option Ev.Spec := Ev.look f [(160, spg160 f160)]
noncomputable def G97 (fuel : Nat) : Nat → Option Ev.Spec := Gg97 (F_generic_pixels fuel)
noncomputable def J97 (fuel : Nat) (i : Nat) : Option Ev.Blk := Ev.look i []
noncomputable def Fg_generic_newPlane (fuel : Nat) (f160 : YF160) (x0 x1 x2 : Int) (x3 : Bool) (x4 x5 x6 : Int) (k0 : (Int × Int × (List Int) × (List (Int × Int))) → Option Ans) : Option Ans :=
  both (bif decide ((0 : Int) ≤ IntKind.i64.wrap (x5 * x6) ∧ IntKind.i64.wrap (x5 * x6) = IntKind.i64.wrap (x5 * x6) ∧ (↑(1 : Nat) : Int) * IntKind.i64.wrap (x5 * x6) ≤ (281474976710656 : Int) ∧ IntKind.i64.wrap (x5 * x6) ≤ (281474976710656 : Int)) then
  both ((f160 (x0)
  (fun y7 =>
  bif decide ((y7.length + [(x1, x2)].length) * (16 : Nat) ≤ (140737488355328 : Nat) ∧ y7.length + [(x1, x2)].length ≤ (140737488355328 : Nat)) then
  k0 (x5, x6, List.replicate (IntKind.i64.wrap (x5 * x6)).toNat (0 : Int), y7 ++ [(x1, x2)])
  else none)))
  ((f160 (x0)
  (fun y7 =>
  bif decide ((y7.length + [(x1, x2)].length) * (16 : Nat) ≤ (140737488355328 : Nat) ∧ y7.length + [(x1, x2)].length ≤ (140737488355328 : Nat)) then
  k0 (x5, x6, List.replicate (IntKind.i64.wrap (x5 * x6)).toNat (0 : Int), y7 ++ [(x1, x2)])
  else none)))
  else none)
  (both ((f160 (x0)
  (fun y6 =>
  both (bif decide ((0 : Int) ≤ IntKind.i64.wrap (x5 * x6) ∧ IntKind.i64.wrap (x5 * x6) = IntKind.i64.wrap (x5 * x6) ∧ (↑(1 : Nat) : Int) * IntKind.i64.wrap (x5 * x6) ≤ (281474976710656 : Int) ∧ IntKind.i64.wrap (x5 * x6) ≤ (281474976710656 : Int)) then
  bif decide ((y6.length + [(x1, x2)].length) * (16 : Nat) ≤ (140737488355328 : Nat) ∧ y6.length + [(x1, x2)].length ≤ (140737488355328 : Nat)) then
  k0 (x5, x6, List.replicate (IntKind.i64.wrap (x5 * x6)).toNat (0 : Int), y6 ++ [(x1, x2)])
  else none
  else none)
  (both (bif decide ((0 : Int) ≤ IntKind.i64.wrap (x5 * x6) ∧ IntKind.i64.wrap (x5 * x6) = IntKind.i64.wrap (x5 * x6) ∧ (↑(1 : Nat) : Int) * IntKind.i64.wrap (x5 * x6) ≤ (281474976710656 : Int) ∧ IntKind.i64.wrap (x5 * x6) ≤ (281474976710656 : Int)) then
  bif decide ((y6.length + [(x1, x2)].length) * (16 : Nat) ≤ (140737488355328 : Nat) ∧ y6.length + [(x1, x2)].length ≤ (140737488355328 : Nat)) then
  k0 (x5, x6, List.replicate (IntKind.i64.wrap (x5 * x6)).toNat (0 : Int), y6 ++ [(x1, x2)])
  else none
  else none)
  (bif decide ((y6.length + [(x1, x2)].length) * (16 : Nat) ≤ (140737488355328 : Nat) ∧ y6.length + [(x1, x2)].length ≤ (140737488355328 : Nat)) then
  bif decide ((0 : Int) ≤ IntKind.i64.wrap (x5 * x6) ∧ IntKind.i64.wrap (x5 * x6) = IntKind.i64.wrap (x5 * x6) ∧ (↑(1 : Nat) : Int) * IntKind.i64.wrap (x5 * x6) ≤ (281474976710656 : Int) ∧ IntKind.i64.wrap (x5 * x6) ≤ (281474976710656 : Int)) then
  k0 (x5, x6, List.replicate (IntKind.i64.wrap (x5 * x6)).toNat (0 : Int), y6 ++ [(x1, x2)])
  else none
  else none)))))
  (both (bif decide ((0 : Int) ≤ IntKind.i64.wrap (x5 * x6) ∧ IntKind.i64.wrap (x5 * x6) = IntKind.i64.wrap (x5 * x6) ∧ (↑(1 : Nat) : Int) * IntKind.i64.wrap (x5 * x6) ≤ (281474976710656 : Int) ∧ IntKind.i64.wrap (x5 * x6) ≤ (281474976710656 : Int)) then
  (f160 (x0)
  (fun y9 =>
  bif decide ((y9.length + [(x1, x2)].length) * (16 : Nat) ≤ (140737488355328 : Nat) ∧ y9.length + [(x1, x2)].length ≤ (140737488355328 : Nat)) then
  k0 (x5, x6, List.replicate (IntKind.i64.wrap (x5 * x6)).toNat (0 : Int), y9 ++ [(x1, x2)])
  else none))
  else none)
  ((f160 (x0)
  (fun y8 =>
  both (bif decide ((0 : Int) ≤ IntKind.i64.wrap (x5 * x6) ∧ IntKind.i64.wrap (x5 * x6) = IntKind.i64.wrap (x5 * x6) ∧ (↑(1 : Nat) : Int) * IntKind.i64.wrap (x5 * x6) ≤ (281474976710656 : Int) ∧ IntKind.i64.wrap (x5 * x6) ≤ (281474976710656 : Int)) then
  bif decide ((y8.length + [(x1, x2)].length) * (16 : Nat) ≤ (140737488355328 : Nat) ∧ y8.length + [(x1, x2)].length ≤ (140737488355328 : Nat)) then
  k0 (x5, x6, List.replicate (IntKind.i64.wrap (x5 * x6)).toNat (0 : Int), y8 ++ [(x1, x2)])
  else none
  else none)
  (bif decide ((y8.length + [(x1, x2)].length) * (16 : Nat) ≤ (140737488355328 : Nat) ∧ y8.length + [(x1, x2)].length ≤ (140737488355328 : Nat)) then
  bif decide ((0 : Int) ≤ IntKind.i64.wrap (x5 * x6) ∧ IntKind.i64.wrap (x5 * x6) = IntKind.i64.wrap (x5 * x6) ∧ (↑(1 : Nat) : Int) * IntKind.i64.wrap (x5 * x6) ≤ (281474976710656 : Int) ∧ IntKind.i64.wrap (x5 * x6) ≤ (281474976710656 : Int)) then
  k0 (x5, x6, List.replicate (IntKind.i64.wrap (x5 * x6)).toNat (0 : Int), y8 ++ [(x1, x2)])
  else none
  else none))))))
noncomputable def F_generic_newPlane (fuel : Nat) (x0 x1 x2 : Int) (x3 : Bool) (x4 x5 x6 : Int) (k0 : (Int × Int × (List Int) × (List (Int × Int))) → Option Ans) : Option Ans := Fg_generic_newPlane fuel (F_generic_pixels fuel) x0 x1 x2 x3 x4 x5 x6 k0
abbrev YF97 : Type := (Int) → (Int) → (Int) → (Bool) → (Int) → (Int) → (Int) → ((Int × Int × (List Int) × (List (Int × Int))) → Option Ans) → Option Ans
theorem F97_eqg (fuel : Nat) (f160 : YF160) (x0 x1 x2 : Int) (x3 : Bool) (x4 x5 x6 : Int) (k : Ev.Cont) : evalFn tab (Gg97 f160) (J97 fuel) kp97 fuel Try.f97 [.agg [.int .i64 x0, .int .i64 x1, .int .i64 x2, .bool x3, .int .i64 x4], .c (.int .i64 x5), .c (.int .i64 x6)] [] k = Fg_generic_newPlane fuel f160 x0 x1 x2 x3 x4 x5 x6 (fun r => match r with | (r0, r1, r2, r3) => k (.c (.ptr 0 0), [.cells 137 [.int .i64 r0, .int .i64 r1, .own 1, .own 2], .vec 5 (.int .u8) r2 true, .vec 44 (.pair (.int .i64) (.int .i64)) r3 true])) := by
  kernel_rfl
theorem F97_eq (fuel : Nat) (x0 x1 x2 : Int) (x3 : Bool) (x4 x5 x6 : Int) (k : Ev.Cont) : evalFn tab (G97 fuel) (J97 fuel) kp97 fuel Try.f97 [.agg [.int .i64 x0, .int .i64 x1, .int .i64 x2, .bool x3, .int .i64 x4], .c (.int .i64 x5), .c (.int .i64 x6)] [] k = F_generic_newPlane fuel x0 x1 x2 x3 x4 x5 x6 (fun r => match r with | (r0, r1, r2, r3) => k (.c (.ptr 0 0), [.cells 137 [.int .i64 r0, .int .i64 r1, .own 1, .own 2], .vec 5 (.int .u8) r2 true, .vec 44 (.pair (.int .i64) (.int .i64)) r3 true])) :=
  F97_eqg fuel (F_generic_pixels fuel) x0 x1 x2 x3 x4 x5 x6 k
theorem hG97 (fuel : Nat) : GOK Try.prog (G97 fuel) :=
  gok_cons ⟨ok160 fuel, enters_of Try.func160 (by kernel_rfl) rfl⟩ <|
  gok_nil
theorem fok97 (fuel : Nat) : FnOK Try.prog 97 (evalFn tab (G97 fuel) (J97 fuel) kp97 fuel Try.f97) :=
  fn_ok tab_ok (hG97 fuel) mixed Try.func97 (c := (Try.f97.body).getD .skip) rfl (fun q hq => by
    rw [(by kernel_rfl : obl (J97 fuel) ((Try.f97.body).getD .skip) = [])] at hq
    cases hq)
noncomputable def mt97 : List Ev.SV → List Ev.Ob → Bool := fun args objs => match args, objs with
 | [.agg [.int .i64 _, .int .i64 _, .int .i64 _, .bool _, .int .i64 _], .c (.int .i64 _), .c (.int .i64 _)], [] => true
 | _, _ => false
noncomputable def spg97 (F : YF97) : Ev.Spec := fun args objs k => match args, objs with
 | [.agg [.int .i64 x0, .int .i64 x1, .int .i64 x2, .bool x3, .int .i64 x4], .c (.int .i64 x5), .c (.int .i64 x6)], [] => bif true then F x0 x1 x2 x3 x4 x5 x6 (fun r => match r with | (r0, r1, r2, r3) => k (.c (.ptr 0 0), [.cells 137 [.int .i64 r0, .int .i64 r1, .own 1, .own 2], .vec 5 (.int .u8) r2 true, .vec 44 (.pair (.int .i64) (.int .i64)) r3 true])) else none
 | _, _ => none
noncomputable def spec97 (fuel : Nat) : Ev.Spec := spg97 (F_generic_newPlane fuel)
theorem ok97 (fuel : Nat) : FnOK Try.prog 97 (spec97 fuel) := by
  intro args objs kk r h
  unfold spec97 spg97 at h
  split at h
  · skip
    obtain ⟨hb, h⟩ := cond_some' h
    simp only [Bool.and_eq_true, Nat.beq_eq, decide_eq_true_eq] at hb
    clear hb
    exact fok97 fuel _ _ kk r ((F97_eq fuel _ _ _ _ _ _ _ kk).trans h)
  · cases h
end Go.Proofs.Ytihfgpfofmjbaaa

set_option linter.unusedVariables false
set_option linter.unusedSimpArgs false
set_option maxRecDepth 100000
set_option maxHeartbeats 2000000
namespace Go.Proofs.Ytihfgpfofmjbaaa
open Go Ev
def kp199_b72 (i : Nat) : Option (List Nat) := Ev.look i [(200003, [0])]
noncomputable def Gg199_b72 (f : Nat) : Option Ev.Spec := Ev.look f []
noncomputable def G199_b72 (fuel : Nat) : Nat → Option Ev.Spec := Gg199_b72
noncomputable def J199_b72 (fuel : Nat) (i : Nat) : Option Ev.Blk := Ev.look i []
noncomputable def F_generic_plane_at_b72 (fuel : Nat) (x0 x1 : Int) (x2 x3 : Int) (x4 : (List Int)) (x5 : (List (Int × Int))) (k0 : (Int × Int × Int × (List Int) × (List (Int × Int))) → Option Ans) : Option Ans :=
  bif decide (x0 < (0 : Int)) then
  k0 ((0 : Int), x2, x3, x4, x5)
  else
  bif decide (x1 < (0 : Int)) then
  k0 ((0 : Int), x2, x3, x4, x5)
  else
  bif decide (x0 ≥ x2) then
  k0 ((0 : Int), x2, x3, x4, x5)
  else
  bif decide (x1 ≥ x3) then
  k0 ((0 : Int), x2, x3, x4, x5)
  else
  bif decide ((0 : Int) ≤ IntKind.i64.wrap (IntKind.i64.wrap (x1 * x2) + x0) ∧ IntKind.i64.wrap (IntKind.i64.wrap (x1 * x2) + x0) < (↑x4.length : Int)) then
  k0 (x4.getD (IntKind.i64.wrap (IntKind.i64.wrap (x1 * x2) + x0)).toNat (0 : Int), x2, x3, x4, x5)
  else none
abbrev YF199_b72 : Type := (Int) → (Int) → (Int) → (Int) → ((List Int)) → ((List (Int × Int))) → ((Int × Int × Int × (List Int) × (List (Int × Int))) → Option Ans) → Option Ans
theorem F199_b72_eq (fuel : Nat) (x0 x1 : Int) (x2 x3 : Int) (x4 : (List Int)) (x5 : (List (Int × Int))) (k : Ev.Cont) : evalFn tab (G199_b72 fuel) (J199_b72 fuel) kp199_b72 fuel Try.f199 [.c (.ptr 0 0), .c (.int .i64 x0), .c (.int .i64 x1)] [.cells 137 [.int .i64 x2, .int .i64 x3, .own 1, .own 2], .vec 5 (.int .u8) x4 false, .vec 44 (.pair (.int .i64) (.int .i64)) x5 false] k = F_generic_plane_at_b72 fuel x0 x1 x2 x3 x4 x5 (fun r => match r with | (r0, r1, r2, r3, r4) => k (.c (.int .u8 r0), [.cells 137 [.int .i64 r1, .int .i64 r2, .own 1, .own 2], .vec 5 (.int .u8) r3 false, .vec 44 (.pair (.int .i64) (.int .i64)) r4 false])) := by
  kernel_rfl
theorem hG199_b72 (fuel : Nat) : GOK Try.prog (G199_b72 fuel) :=
  gok_nil
theorem fok199_b72 (fuel : Nat) : FnOK Try.prog 199 (evalFn tab (G199_b72 fuel) (J199_b72 fuel) kp199_b72 fuel Try.f199) :=
  fn_ok tab_ok (hG199_b72 fuel) mixed Try.func199 (c := (Try.f199.body).getD .skip) rfl (fun q hq => by
    rw [(by kernel_rfl : obl (J199_b72 fuel) ((Try.f199.body).getD .skip) = [])] at hq
    cases hq)
noncomputable def mt199_b72 : List Ev.SV → List Ev.Ob → Bool := fun args objs => match args, objs with
 | [.c (.ptr q0 q1), .c (.int .i64 _), .c (.int .i64 _)], [.cells q2 [.int .i64 _, .int .i64 _, .own q3, .own q4], .vec q5 (.int .u8) _ false, .vec q6 (.pair (.int .i64) (.int .i64)) _ false] => Nat.beq q0 0 && Nat.beq q1 0 && Nat.beq q2 137 && Nat.beq q3 1 && Nat.beq q4 2 && Nat.beq q5 5 && Nat.beq q6 44
 | _, _ => false
noncomputable def spg199_b72 (F : YF199_b72) : Ev.Spec := fun args objs k => match args, objs with
 | [.c (.ptr q0 q1), .c (.int .i64 x0), .c (.int .i64 x1)], [.cells q2 [.int .i64 x2, .int .i64 x3, .own q3, .own q4], .vec q5 (.int .u8) x4 false, .vec q6 (.pair (.int .i64) (.int .i64)) x5 false] => bif Nat.beq q0 0 && Nat.beq q1 0 && Nat.beq q2 137 && Nat.beq q3 1 && Nat.beq q4 2 && Nat.beq q5 5 && Nat.beq q6 44 then F x0 x1 x2 x3 x4 x5 (fun r => match r with | (r0, r1, r2, r3, r4) => k (.c (.int .u8 r0), [.cells 137 [.int .i64 r1, .int .i64 r2, .own 1, .own 2], .vec 5 (.int .u8) r3 false, .vec 44 (.pair (.int .i64) (.int .i64)) r4 false])) else none
 | _, _ => none
noncomputable def spec199_b72 (fuel : Nat) : Ev.Spec := spg199_b72 (F_generic_plane_at_b72 fuel)
theorem ok199_b72 (fuel : Nat) : FnOK Try.prog 199 (spec199_b72 fuel) := by
  intro args objs kk r h
  unfold spec199_b72 spg199_b72 at h
  split at h
  · skip
    obtain ⟨hb, h⟩ := cond_some' h
    simp only [Bool.and_eq_true, Nat.beq_eq, decide_eq_true_eq] at hb
    obtain ⟨⟨⟨⟨⟨⟨rfl, rfl⟩, rfl⟩, rfl⟩, rfl⟩, rfl⟩, rfl⟩ := hb
    exact fok199_b72 fuel _ _ kk r ((F199_b72_eq fuel _ _ _ _ _ _ kk).trans h)
  · cases h
end Go.Proofs.Ytihfgpfofmjbaaa

set_option linter.unusedVariables false
set_option linter.unusedSimpArgs false
set_option maxRecDepth 100000
set_option maxHeartbeats 2000000
namespace Go.Proofs.Ytihfgpfofmjbaaa
open Go Ev
def kp163 (i : Nat) : Option (List Nat) := Ev.look i []
noncomputable def Gg163 (f : Nat) : Option Ev.Spec := Ev.look f []
noncomputable def G163 (fuel : Nat) : Nat → Option Ev.Spec := Gg163
noncomputable def J163 (fuel : Nat) (i : Nat) : Option Ev.Blk := Ev.look i []
noncomputable def F_generic_skips (fuel : Nat) (x0 x1 : Int) (x2 : (List Int)) (x3 : Int) (k0 : (Bool) → Option Ans) : Option Ans :=
  bif decide ((↑x2.length : Int) > (0 : Int)) then
  bif decide ((0 : Int) ≤ x3 ∧ x3 < (↑x2.length : Int)) then
  k0 (x2.getD x3.toNat (0 : Int) == (1 : Int))
  else none
  else
  k0 false
abbrev YF163 : Type := (Int) → (Int) → ((List Int)) → (Int) → ((Bool) → Option Ans) → Option Ans
theorem F163_eq (fuel : Nat) (x0 x1 : Int) (x2 : (List Int)) (x3 : Int) (k : Ev.Cont) : evalFn tab (G163 fuel) (J163 fuel) kp163 fuel Try.f163 [.agg [.int .i64 x0, .int .i64 x1, .sl (.int .u8) x2], .c (.int .i64 x3)] [] k = F_generic_skips fuel x0 x1 x2 x3 (fun r => match r with | r0 => k (.c (.bool r0), [])) := by
  kernel_rfl
theorem hG163 (fuel : Nat) : GOK Try.prog (G163 fuel) :=
  gok_nil
theorem fok163 (fuel : Nat) : FnOK Try.prog 163 (evalFn tab (G163 fuel) (J163 fuel) kp163 fuel Try.f163) :=
  fn_ok tab_ok (hG163 fuel) mixed Try.func163 (c := (Try.f163.body).getD .skip) rfl (fun q hq => by
    rw [(by kernel_rfl : obl (J163 fuel) ((Try.f163.body).getD .skip) = [])] at hq
    cases hq)
noncomputable def mt163 : List Ev.SV → List Ev.Ob → Bool := fun args objs => match args, objs with
 | [.agg [.int .i64 _, .int .i64 _, .sl (.int .u8) _], .c (.int .i64 _)], [] => true
 | _, _ => false
noncomputable def spg163 (F : YF163) : Ev.Spec := fun args objs k => match args, objs with
 | [.agg [.int .i64 x0, .int .i64 x1, .sl (.int .u8) x2], .c (.int .i64 x3)], [] => bif true then F x0 x1 x2 x3 (fun r => match r with | r0 => k (.c (.bool r0), [])) else none
 | _, _ => none
noncomputable def spec163 (fuel : Nat) : Ev.Spec := spg163 (F_generic_skips fuel)
theorem ok163 (fuel : Nat) : FnOK Try.prog 163 (spec163 fuel) := by
  intro args objs kk r h
  unfold spec163 spg163 at h
  split at h
  · skip
    obtain ⟨hb, h⟩ := cond_some' h
    simp only [Bool.and_eq_true, Nat.beq_eq, decide_eq_true_eq] at hb
    clear hb
    exact fok163 fuel _ _ kk r ((F163_eq fuel _ _ _ _ kk).trans h)
  · cases h
end Go.Proofs.Ytihfgpfofmjbaaa

