/- What the functions that GenericEncodes reaches do: their typed texts, each with the proof that the machine does it. No condition. -/
import Derived.Test.YtihfgpfofmjbaaaEvX
import Derived.Test.YtihfgpfofmjbaaaFsGenericEncodes1
set_option linter.unusedVariables false
set_option linter.unusedSimpArgs false
set_option linter.unusedVariables false
set_option linter.unusedSimpArgs false
set_option maxRecDepth 100000
set_option maxHeartbeats 2000000
namespace Go.Proofs.Ytihfgpfofmjbaaa
open Go Ev
def kp162_3e8 (i : Nat) : Option (List Nat) := Ev.look i [(3, [0, 1, 5, 7, 15, 16]), (100000, [7]), (200005, [0, 5]), (400000, [6])]
noncomputable def Gg162_3e8 (f163 : YF163) (f199_b72 : YF199_b72) (f : Nat) : Option Ev.Spec := Ev.look f [(163, spg163 f163), (199, spg199_b72 f199_b72)]
noncomputable def G162_3e8 (fuel : Nat) : Nat → Option Ev.Spec := Gg162_3e8 (F_generic_skips fuel) (F_generic_plane_at_b72 fuel)
noncomputable def Sg_generic_plane_above_3e8_0 (fuel : Nat) (f163 : YF163) (f199_b72 : YF199_b72) (x0 x1 : Int) (x2 x3 x4 : Int) (x5 : (List Int)) (x6 : (List (Int × Int))) (x7 x8 : Int) (x9 x10 : (List Int)) (c : (Int × Int × Int × Int × Int × (List Int) × (List (Int × Int)) × Int × Int × (List Int) × (List Int)) → Option Ans) (B : (Int × Int × (List Int) × (List (Int × Int)) × (List Int) → Option Ans)) : Option Ans := match B with
 | b =>
  bif decide (x2 < x1) then
  (f163 (x7) (x8) (x9) (IntKind.i64.wrap (IntKind.i64.wrap (x0 * x3) + x2))
  (fun y3 =>
  bif !y3 then
  (f199_b72 (x2) (IntKind.i64.wrap (x0 - (1 : Int))) (x3) (x4) (x5) (x6)
  (fun (y8_0, y8_1, y8_2, y8_3, y8_4) =>
  bif decide ((0 : Int) ≤ x2 ∧ x2 < (↑x10.length : Int)) then
  c (x0, x1, IntKind.i64.wrap (x2 + (1 : Int)), y8_1, y8_2, y8_3, y8_4, x7, x8, x9, x10.set x2.toNat y8_0)
  else none))
  else
  c (x0, x1, IntKind.i64.wrap (x2 + (1 : Int)), x3, x4, x5, x6, x7, x8, x9, x10)))
  else
  b (x3, x4, x5, x6, x10)
noncomputable def S_generic_plane_above_3e8_0 (fuel : Nat) (v : Int × Int × Int × Int × Int × (List Int) × (List (Int × Int)) × Int × Int × (List Int) × (List Int)) (c : (Int × Int × Int × Int × Int × (List Int) × (List (Int × Int)) × Int × Int × (List Int) × (List Int)) → Option Ans) (B : (Int × Int × (List Int) × (List (Int × Int)) × (List Int) → Option Ans)) : Option Ans := match v with
 | (x0, x1, x2, x3, x4, x5, x6, x7, x8, x9, x10) => Sg_generic_plane_above_3e8_0 fuel (F_generic_skips fuel) (F_generic_plane_at_b72 fuel) x0 x1 x2 x3 x4 x5 x6 x7 x8 x9 x10 c B
noncomputable def L_generic_plane_above_3e8_0 (fuel : Nat) (v : Int × Int × Int × Int × Int × (List Int) × (List (Int × Int)) × Int × Int × (List Int) × (List Int)) (b : (Int × Int × (List Int) × (List (Int × Int)) × (List Int) → Option Ans)) : Option Ans := iter (S_generic_plane_above_3e8_0 fuel) fuel v b
noncomputable def J162_3e8_0 (fuel : Nat) (i : Nat) : Option Ev.Blk := Ev.look i []
noncomputable def T162_3e8_0 (v : Int × Int × Int × Int × Int × (List Int) × (List (Int × Int)) × Int × Int × (List Int) × (List Int)) : Ev.St := match v with | (x0, x1, x2, x3, x4, x5, x6, x7, x8, x9, x10) => ⟨[(0, .c (.ptr 0 0)), (1, .c (.int .i64 x0)), (5, .c (.ptr 3 0)), (7, .c (.own 4)), (15, .c (.int .i64 x1)), (16, .c (.int .i64 x2))], [(0, .cells 137 [.int .i64 x3, .int .i64 x4, .own 1, .own 2]), (1, .vec 5 (.int .u8) x5 false), (2, .vec 44 (.pair (.int .i64) (.int .i64)) x6 false), (3, .cells 39 [.int .i64 x7, .int .i64 x8, .sl (.int .u8) x9]), (4, .vec 5 (.int .u8) x10 true)], 5, 3⟩
noncomputable def E162_3e8_0 (K : Ev.Ex → Ev.St → Option Ans) : (Int × Int × (List Int) × (List (Int × Int)) × (List Int) → Option Ans) := (fun v => match v with | (x0, x1, x2, x3, x4) => K .normal ⟨[(7, .c (.own 3))], [(0, .cells 137 [.int .i64 x0, .int .i64 x1, .own 1, .own 2]), (1, .vec 5 (.int .u8) x2 false), (2, .vec 44 (.pair (.int .i64) (.int .i64)) x3 false), (3, .vec 5 (.int .u8) x4 true)], 4, 3⟩)
theorem S162_3e8_0_okg (fuel : Nat) (f163 : YF163) (f199_b72 : YF199_b72) (R : Ev.St → Option Ans) (K : Ev.Ex → Ev.St → Option Ans) (x0 x1 : Int) (x2 x3 x4 : Int) (x5 : (List Int)) (x6 : (List (Int × Int))) (x7 x8 : Int) (x9 x10 : (List Int)) : evalCode tab (Gg162_3e8 f163 f199_b72) (J162_3e8_0 fuel) kp162_3e8 fuel (bodyOf 0 Try.f162) (T162_3e8_0 (x0, x1, x2, x3, x4, x5, x6, x7, x8, x9, x10)) (lc kp162_3e8 3 0 R K) = Sg_generic_plane_above_3e8_0 fuel f163 f199_b72 x0 x1 x2 x3 x4 x5 x6 x7 x8 x9 x10 (fun v => R (T162_3e8_0 v)) (E162_3e8_0 K) := by
  kernel_rfl
theorem S162_3e8_0_ok (fuel : Nat) (R : Ev.St → Option Ans) (K : Ev.Ex → Ev.St → Option Ans) (x0 x1 : Int) (x2 x3 x4 : Int) (x5 : (List Int)) (x6 : (List (Int × Int))) (x7 x8 : Int) (x9 x10 : (List Int)) : evalCode tab (G162_3e8 fuel) (J162_3e8_0 fuel) kp162_3e8 fuel (bodyOf 0 Try.f162) (T162_3e8_0 (x0, x1, x2, x3, x4, x5, x6, x7, x8, x9, x10)) (lc kp162_3e8 3 0 R K) = S_generic_plane_above_3e8_0 fuel (x0, x1, x2, x3, x4, x5, x6, x7, x8, x9, x10) (fun v => R (T162_3e8_0 v)) (E162_3e8_0 K) :=
  S162_3e8_0_okg fuel (F_generic_skips fuel) (F_generic_plane_at_b72 fuel) R K x0 x1 x2 x3 x4 x5 x6 x7 x8 x9 x10
noncomputable def B162_3e8_0 (fuel : Nat) : Ev.Blk := fun st K => match canonO (kp162_3e8 3) st with
 | some s => (match s with
 | ⟨[(q0, .c (.ptr q1 q2)), (q3, .c (.int .i64 x0)), (q4, .c (.ptr q5 q6)), (q7, .c (.own q8)), (q9, .c (.int .i64 x1)), (q10, .c (.int .i64 x2))], [(q11, .cells q12 [.int .i64 x3, .int .i64 x4, .own q13, .own q14]), (q15, .vec q16 (.int .u8) x5 false), (q17, .vec q18 (.pair (.int .i64) (.int .i64)) x6 false), (q19, .cells q20 [.int .i64 x7, .int .i64 x8, .sl (.int .u8) x9]), (q21, .vec q22 (.int .u8) x10 true)], q23, q24⟩ => bif Nat.beq q0 0 && Nat.beq q1 0 && Nat.beq q2 0 && Nat.beq q3 1 && Nat.beq q4 5 && Nat.beq q5 3 && Nat.beq q6 0 && Nat.beq q7 7 && Nat.beq q8 4 && Nat.beq q9 15 && Nat.beq q10 16 && Nat.beq q11 0 && Nat.beq q12 137 && Nat.beq q13 1 && Nat.beq q14 2 && Nat.beq q15 1 && Nat.beq q16 5 && Nat.beq q17 2 && Nat.beq q18 44 && Nat.beq q19 3 && Nat.beq q20 39 && Nat.beq q21 4 && Nat.beq q22 5 && Nat.beq q23 5 && Nat.beq q24 3 then iter (S_generic_plane_above_3e8_0 fuel) fuel (x0, x1, x2, x3, x4, x5, x6, x7, x8, x9, x10) (E162_3e8_0 K) else none
 | _ => none)
 | none => none
theorem B162_3e8_0_ok (fuel : Nat) (st : Ev.St) (K : Ev.Ex → Ev.St → Option Ans) (r : Ans) (h : B162_3e8_0 fuel st K = some r) : evalCode tab (G162_3e8 fuel) (J162_3e8_0 fuel) kp162_3e8 fuel (.block 0 (.loop (bodyOf 0 Try.f162))) st K = some r := by
  unfold B162_3e8_0 at h
  split at h
  · rename_i s hs
    split at h
    · skip
      obtain ⟨hb, h⟩ := cond_some' h
      simp only [Bool.and_eq_true, Nat.beq_eq, decide_eq_true_eq] at hb
      obtain ⟨⟨⟨⟨⟨⟨⟨⟨⟨⟨⟨⟨⟨⟨⟨⟨⟨⟨⟨⟨⟨⟨⟨⟨rfl, rfl⟩, rfl⟩, rfl⟩, rfl⟩, rfl⟩, rfl⟩, rfl⟩, rfl⟩, rfl⟩, rfl⟩, rfl⟩, rfl⟩, rfl⟩, rfl⟩, rfl⟩, rfl⟩, rfl⟩, rfl⟩, rfl⟩, rfl⟩, rfl⟩, rfl⟩, rfl⟩, rfl⟩ := hb
      exact blk_loop (S := T162_3e8_0) (ks := E162_3e8_0) (step := S_generic_plane_above_3e8_0 fuel) (v := (_, _, _, _, _, _, _, _, _, _, _)) (by kernel_rfl) (by kernel_rfl) (fun R K v => by obtain ⟨x0, x1, x2, x3, x4, x5, x6, x7, x8, x9, x10⟩ := v; exact S162_3e8_0_ok fuel R K x0 x1 x2 x3 x4 x5 x6 x7 x8 x9 x10) hs h
    · cases h
  · cases h
noncomputable def J162_3e8 (fuel : Nat) (i : Nat) : Option Ev.Blk := Ev.look i [(100000, B162_3e8_0 fuel)]
noncomputable def Fg_generic_plane_above_3e8 (fuel : Nat) (f163 : YF163) (f199_b72 : YF199_b72) (x0 x1 x2 : Int) (x3 : (List Int)) (x4 x5 : Int) (x6 : (List Int)) (x7 : (List (Int × Int))) (k0 : (Int × Int × (List Int) × (List (Int × Int)) × (List Int)) → Option Ans) : Option Ans :=
  bif decide ((0 : Int) ≤ x4 ∧ x4 = x4 ∧ (↑(1 : Nat) : Int) * x4 ≤ (281474976710656 : Int) ∧ x4 ≤ (281474976710656 : Int)) then
  (L_generic_plane_above_3e8_0 fuel (x0, (↑(List.replicate x4.toNat (0 : Int)).length : Int), (0 : Int), x4, x5, x6, x7, x1, x2, x3, List.replicate x4.toNat (0 : Int))
  (fun (b0_0, b0_1, b0_2, b0_3, b0_4) =>
  k0 (b0_0, b0_1, b0_2, b0_3, b0_4)))
  else none
noncomputable def F_generic_plane_above_3e8 (fuel : Nat) (x0 x1 x2 : Int) (x3 : (List Int)) (x4 x5 : Int) (x6 : (List Int)) (x7 : (List (Int × Int))) (k0 : (Int × Int × (List Int) × (List (Int × Int)) × (List Int)) → Option Ans) : Option Ans := Fg_generic_plane_above_3e8 fuel (F_generic_skips fuel) (F_generic_plane_at_b72 fuel) x0 x1 x2 x3 x4 x5 x6 x7 k0
abbrev YF162_3e8 : Type := (Int) → (Int) → (Int) → ((List Int)) → (Int) → (Int) → ((List Int)) → ((List (Int × Int))) → ((Int × Int × (List Int) × (List (Int × Int)) × (List Int)) → Option Ans) → Option Ans
theorem F162_3e8_eqg (fuel : Nat) (f163 : YF163) (f199_b72 : YF199_b72) (x0 x1 x2 : Int) (x3 : (List Int)) (x4 x5 : Int) (x6 : (List Int)) (x7 : (List (Int × Int))) (k : Ev.Cont) : evalFn tab (Gg162_3e8 f163 f199_b72) (J162_3e8 fuel) kp162_3e8 fuel Try.f162 [.c (.ptr 0 0), .c (.int .i64 x0), .agg [.int .i64 x1, .int .i64 x2, .sl (.int .u8) x3]] [.cells 137 [.int .i64 x4, .int .i64 x5, .own 1, .own 2], .vec 5 (.int .u8) x6 false, .vec 44 (.pair (.int .i64) (.int .i64)) x7 false] k = Fg_generic_plane_above_3e8 fuel f163 f199_b72 x0 x1 x2 x3 x4 x5 x6 x7 (fun r => match r with | (r0, r1, r2, r3, r4) => k (.c (.own 3), [.cells 137 [.int .i64 r0, .int .i64 r1, .own 1, .own 2], .vec 5 (.int .u8) r2 false, .vec 44 (.pair (.int .i64) (.int .i64)) r3 false, .vec 5 (.int .u8) r4 true])) := by
  kernel_rfl
theorem F162_3e8_eq (fuel : Nat) (x0 x1 x2 : Int) (x3 : (List Int)) (x4 x5 : Int) (x6 : (List Int)) (x7 : (List (Int × Int))) (k : Ev.Cont) : evalFn tab (G162_3e8 fuel) (J162_3e8 fuel) kp162_3e8 fuel Try.f162 [.c (.ptr 0 0), .c (.int .i64 x0), .agg [.int .i64 x1, .int .i64 x2, .sl (.int .u8) x3]] [.cells 137 [.int .i64 x4, .int .i64 x5, .own 1, .own 2], .vec 5 (.int .u8) x6 false, .vec 44 (.pair (.int .i64) (.int .i64)) x7 false] k = F_generic_plane_above_3e8 fuel x0 x1 x2 x3 x4 x5 x6 x7 (fun r => match r with | (r0, r1, r2, r3, r4) => k (.c (.own 3), [.cells 137 [.int .i64 r0, .int .i64 r1, .own 1, .own 2], .vec 5 (.int .u8) r2 false, .vec 44 (.pair (.int .i64) (.int .i64)) r3 false, .vec 5 (.int .u8) r4 true])) :=
  F162_3e8_eqg fuel (F_generic_skips fuel) (F_generic_plane_at_b72 fuel) x0 x1 x2 x3 x4 x5 x6 x7 k
theorem hG162_3e8 (fuel : Nat) : GOK Try.prog (G162_3e8 fuel) :=
  gok_cons ⟨ok163 fuel, enters_of Try.func163 (by kernel_rfl) rfl⟩ <|
  gok_cons ⟨ok199_b72 fuel, enters_of Try.func199 (by kernel_rfl) rfl⟩ <|
  gok_nil
theorem B162_3e8_0_blk (fuel : Nat) : BlkOK Try.prog Try.f162.ntmps (.block 0 (.loop (bodyOf 0 Try.f162))) (B162_3e8_0 fuel) :=
  blk_of (blk_of_code tab_ok (hG162_3e8 fuel) mixed (J := J162_3e8_0 fuel) (kp := kp162_3e8) (fuel := fuel) (by kernel_rfl) (fun q hq => by
    rw [(by kernel_rfl : obl (J162_3e8_0 fuel) (.block 0 (.loop (bodyOf 0 Try.f162))) = [])] at hq
    cases hq)) (B162_3e8_0_ok fuel)
theorem fok162_3e8 (fuel : Nat) : FnOK Try.prog 162 (evalFn tab (G162_3e8 fuel) (J162_3e8 fuel) kp162_3e8 fuel Try.f162) :=
  fn_ok tab_ok (hG162_3e8 fuel) mixed Try.func162 (c := (Try.f162.body).getD .skip) rfl (fun q hq => by
    rw [(by kernel_rfl : obl (J162_3e8 fuel) ((Try.f162.body).getD .skip) = [(.block 0 (.loop (bodyOf 0 Try.f162)), B162_3e8_0 fuel)])] at hq
    simp only [List.mem_cons, List.not_mem_nil, or_false] at hq
    subst hq
    · exact B162_3e8_0_blk fuel)
noncomputable def mt162_3e8 : List Ev.SV → List Ev.Ob → Bool := fun args objs => match args, objs with
 | [.c (.ptr q0 q1), .c (.int .i64 _), .agg [.int .i64 _, .int .i64 _, .sl (.int .u8) _]], [.cells q2 [.int .i64 _, .int .i64 _, .own q3, .own q4], .vec q5 (.int .u8) _ false, .vec q6 (.pair (.int .i64) (.int .i64)) _ false] => Nat.beq q0 0 && Nat.beq q1 0 && Nat.beq q2 137 && Nat.beq q3 1 && Nat.beq q4 2 && Nat.beq q5 5 && Nat.beq q6 44
 | _, _ => false
noncomputable def spg162_3e8 (F : YF162_3e8) : Ev.Spec := fun args objs k => match args, objs with
 | [.c (.ptr q0 q1), .c (.int .i64 x0), .agg [.int .i64 x1, .int .i64 x2, .sl (.int .u8) x3]], [.cells q2 [.int .i64 x4, .int .i64 x5, .own q3, .own q4], .vec q5 (.int .u8) x6 false, .vec q6 (.pair (.int .i64) (.int .i64)) x7 false] => bif Nat.beq q0 0 && Nat.beq q1 0 && Nat.beq q2 137 && Nat.beq q3 1 && Nat.beq q4 2 && Nat.beq q5 5 && Nat.beq q6 44 then F x0 x1 x2 x3 x4 x5 x6 x7 (fun r => match r with | (r0, r1, r2, r3, r4) => k (.c (.own 3), [.cells 137 [.int .i64 r0, .int .i64 r1, .own 1, .own 2], .vec 5 (.int .u8) r2 false, .vec 44 (.pair (.int .i64) (.int .i64)) r3 false, .vec 5 (.int .u8) r4 true])) else none
 | _, _ => none
noncomputable def spec162_3e8 (fuel : Nat) : Ev.Spec := spg162_3e8 (F_generic_plane_above_3e8 fuel)
theorem ok162_3e8 (fuel : Nat) : FnOK Try.prog 162 (spec162_3e8 fuel) := by
  intro args objs kk r h
  unfold spec162_3e8 spg162_3e8 at h
  split at h
  · skip
    obtain ⟨hb, h⟩ := cond_some' h
    simp only [Bool.and_eq_true, Nat.beq_eq, decide_eq_true_eq] at hb
    obtain ⟨⟨⟨⟨⟨⟨rfl, rfl⟩, rfl⟩, rfl⟩, rfl⟩, rfl⟩, rfl⟩ := hb
    exact fok162_3e8 fuel _ _ kk r ((F162_3e8_eq fuel _ _ _ _ _ _ _ _ kk).trans h)
  · cases h
end Go.Proofs.Ytihfgpfofmjbaaa

set_option linter.unusedVariables false
set_option linter.unusedSimpArgs false
set_option maxRecDepth 100000
set_option maxHeartbeats 2000000
namespace Go.Proofs.Ytihfgpfofmjbaaa
open Go Ev
def kp158_b72 (i : Nat) : Option (List Nat) := Ev.look i [(3, [0, 1, 2, 7, 13, 14, 15]), (100000, [7]), (400000, [6])]
noncomputable def Gg158_b72 (f199_b72 : YF199_b72) (f : Nat) : Option Ev.Spec := Ev.look f [(199, spg199_b72 f199_b72)]
noncomputable def G158_b72 (fuel : Nat) : Nat → Option Ev.Spec := Gg158_b72 (F_generic_plane_at_b72 fuel)
noncomputable def Sg_generic_plane_context_b72_0 (fuel : Nat) (f199_b72 : YF199_b72) (x0 x1 : Int) (x2 x3 : Int) (x4 x5 x6 : Int) (x7 : (List Int)) (x8 : (List (Int × Int))) (c : (Int × Int × Int × Int × Int × Int × Int × (List Int) × (List (Int × Int))) → Option Ans) (B : (Int × Int × Int × (List Int) × (List (Int × Int)) → Option Ans)) : Option Ans := match B with
 | b =>
  bif decide (x4 < x3) then
  bif decide ((0 : Int) ≤ x4 ∧ x4 < (↑x8.length : Int)) then
  (f199_b72 (IntKind.i64.wrap (x0 + (x8.getD x4.toNat ((0 : Int), (0 : Int))).fst)) (IntKind.i64.wrap (x1 + (x8.getD x4.toNat ((0 : Int), (0 : Int))).snd)) (x5) (x6) (x7) (x8)
  (fun (y4_0, y4_1, y4_2, y4_3, y4_4) =>
  c (x0, x1, IntKind.i64.wrap (IntKind.i64.wrap ((2 : Int) * x2) + IntKind.i64.wrap y4_0), x3, IntKind.i64.wrap (x4 + (1 : Int)), y4_1, y4_2, y4_3, y4_4)))
  else none
  else
  b (x2, x5, x6, x7, x8)
noncomputable def S_generic_plane_context_b72_0 (fuel : Nat) (v : Int × Int × Int × Int × Int × Int × Int × (List Int) × (List (Int × Int))) (c : (Int × Int × Int × Int × Int × Int × Int × (List Int) × (List (Int × Int))) → Option Ans) (B : (Int × Int × Int × (List Int) × (List (Int × Int)) → Option Ans)) : Option Ans := match v with
 | (x0, x1, x2, x3, x4, x5, x6, x7, x8) => Sg_generic_plane_context_b72_0 fuel (F_generic_plane_at_b72 fuel) x0 x1 x2 x3 x4 x5 x6 x7 x8 c B
noncomputable def L_generic_plane_context_b72_0 (fuel : Nat) (v : Int × Int × Int × Int × Int × Int × Int × (List Int) × (List (Int × Int))) (b : (Int × Int × Int × (List Int) × (List (Int × Int)) → Option Ans)) : Option Ans := iter (S_generic_plane_context_b72_0 fuel) fuel v b
noncomputable def J158_b72_0 (fuel : Nat) (i : Nat) : Option Ev.Blk := Ev.look i []
noncomputable def T158_b72_0 (v : Int × Int × Int × Int × Int × Int × Int × (List Int) × (List (Int × Int))) : Ev.St := match v with | (x0, x1, x2, x3, x4, x5, x6, x7, x8) => ⟨[(0, .c (.ptr 0 0)), (1, .c (.int .i64 x0)), (2, .c (.int .i64 x1)), (7, .c (.int .i64 x2)), (13, .c (.own 2)), (14, .c (.int .i64 x3)), (15, .c (.int .i64 x4))], [(0, .cells 137 [.int .i64 x5, .int .i64 x6, .own 1, .own 2]), (1, .vec 5 (.int .u8) x7 false), (2, .vec 44 (.pair (.int .i64) (.int .i64)) x8 false)], 3, 3⟩
noncomputable def E158_b72_0 (K : Ev.Ex → Ev.St → Option Ans) : (Int × Int × Int × (List Int) × (List (Int × Int)) → Option Ans) := (fun v => match v with | (x0, x1, x2, x3, x4) => K .normal ⟨[(7, .c (.int .i64 x0))], [(0, .cells 137 [.int .i64 x1, .int .i64 x2, .own 1, .own 2]), (1, .vec 5 (.int .u8) x3 false), (2, .vec 44 (.pair (.int .i64) (.int .i64)) x4 false)], 3, 3⟩)
theorem S158_b72_0_okg (fuel : Nat) (f199_b72 : YF199_b72) (R : Ev.St → Option Ans) (K : Ev.Ex → Ev.St → Option Ans) (x0 x1 : Int) (x2 x3 : Int) (x4 x5 x6 : Int) (x7 : (List Int)) (x8 : (List (Int × Int))) : evalCode tab (Gg158_b72 f199_b72) (J158_b72_0 fuel) kp158_b72 fuel (bodyOf 0 Try.f158) (T158_b72_0 (x0, x1, x2, x3, x4, x5, x6, x7, x8)) (lc kp158_b72 3 0 R K) = Sg_generic_plane_context_b72_0 fuel f199_b72 x0 x1 x2 x3 x4 x5 x6 x7 x8 (fun v => R (T158_b72_0 v)) (E158_b72_0 K) := by
  kernel_rfl
theorem S158_b72_0_ok (fuel : Nat) (R : Ev.St → Option Ans) (K : Ev.Ex → Ev.St → Option Ans) (x0 x1 : Int) (x2 x3 : Int) (x4 x5 x6 : Int) (x7 : (List Int)) (x8 : (List (Int × Int))) : evalCode tab (G158_b72 fuel) (J158_b72_0 fuel) kp158_b72 fuel (bodyOf 0 Try.f158) (T158_b72_0 (x0, x1, x2, x3, x4, x5, x6, x7, x8)) (lc kp158_b72 3 0 R K) = S_generic_plane_context_b72_0 fuel (x0, x1, x2, x3, x4, x5, x6, x7, x8) (fun v => R (T158_b72_0 v)) (E158_b72_0 K) :=
  S158_b72_0_okg fuel (F_generic_plane_at_b72 fuel) R K x0 x1 x2 x3 x4 x5 x6 x7 x8
noncomputable def B158_b72_0 (fuel : Nat) : Ev.Blk := fun st K => match canonO (kp158_b72 3) st with
 | some s => (match s with
 | ⟨[(q0, .c (.ptr q1 q2)), (q3, .c (.int .i64 x0)), (q4, .c (.int .i64 x1)), (q5, .c (.int .i64 x2)), (q6, .c (.own q7)), (q8, .c (.int .i64 x3)), (q9, .c (.int .i64 x4))], [(q10, .cells q11 [.int .i64 x5, .int .i64 x6, .own q12, .own q13]), (q14, .vec q15 (.int .u8) x7 false), (q16, .vec q17 (.pair (.int .i64) (.int .i64)) x8 false)], q18, q19⟩ => bif Nat.beq q0 0 && Nat.beq q1 0 && Nat.beq q2 0 && Nat.beq q3 1 && Nat.beq q4 2 && Nat.beq q5 7 && Nat.beq q6 13 && Nat.beq q7 2 && Nat.beq q8 14 && Nat.beq q9 15 && Nat.beq q10 0 && Nat.beq q11 137 && Nat.beq q12 1 && Nat.beq q13 2 && Nat.beq q14 1 && Nat.beq q15 5 && Nat.beq q16 2 && Nat.beq q17 44 && Nat.beq q18 3 && Nat.beq q19 3 then iter (S_generic_plane_context_b72_0 fuel) fuel (x0, x1, x2, x3, x4, x5, x6, x7, x8) (E158_b72_0 K) else none
 | _ => none)
 | none => none
theorem B158_b72_0_ok (fuel : Nat) (st : Ev.St) (K : Ev.Ex → Ev.St → Option Ans) (r : Ans) (h : B158_b72_0 fuel st K = some r) : evalCode tab (G158_b72 fuel) (J158_b72_0 fuel) kp158_b72 fuel (.block 0 (.loop (bodyOf 0 Try.f158))) st K = some r := by
  unfold B158_b72_0 at h
  split at h
  · rename_i s hs
    split at h
    · skip
      obtain ⟨hb, h⟩ := cond_some' h
      simp only [Bool.and_eq_true, Nat.beq_eq, decide_eq_true_eq] at hb
      obtain ⟨⟨⟨⟨⟨⟨⟨⟨⟨⟨⟨⟨⟨⟨⟨⟨⟨⟨⟨rfl, rfl⟩, rfl⟩, rfl⟩, rfl⟩, rfl⟩, rfl⟩, rfl⟩, rfl⟩, rfl⟩, rfl⟩, rfl⟩, rfl⟩, rfl⟩, rfl⟩, rfl⟩, rfl⟩, rfl⟩, rfl⟩, rfl⟩ := hb
      exact blk_loop (S := T158_b72_0) (ks := E158_b72_0) (step := S_generic_plane_context_b72_0 fuel) (v := (_, _, _, _, _, _, _, _, _)) (by kernel_rfl) (by kernel_rfl) (fun R K v => by obtain ⟨x0, x1, x2, x3, x4, x5, x6, x7, x8⟩ := v; exact S158_b72_0_ok fuel R K x0 x1 x2 x3 x4 x5 x6 x7 x8) hs h
    · cases h
  · cases h
noncomputable def J158_b72 (fuel : Nat) (i : Nat) : Option Ev.Blk := Ev.look i [(100000, B158_b72_0 fuel)]
noncomputable def Fg_generic_plane_context_b72 (fuel : Nat) (f199_b72 : YF199_b72) (x0 x1 : Int) (x2 x3 : Int) (x4 : (List Int)) (x5 : (List (Int × Int))) (k0 : (Int × Int × Int × (List Int) × (List (Int × Int))) → Option Ans) : Option Ans :=
  (L_generic_plane_context_b72_0 fuel (x0, x1, (0 : Int), (↑x5.length : Int), (0 : Int), x2, x3, x4, x5)
  (fun (b0_0, b0_1, b0_2, b0_3, b0_4) =>
  k0 (b0_0, b0_1, b0_2, b0_3, b0_4)))
noncomputable def F_generic_plane_context_b72 (fuel : Nat) (x0 x1 : Int) (x2 x3 : Int) (x4 : (List Int)) (x5 : (List (Int × Int))) (k0 : (Int × Int × Int × (List Int) × (List (Int × Int))) → Option Ans) : Option Ans := Fg_generic_plane_context_b72 fuel (F_generic_plane_at_b72 fuel) x0 x1 x2 x3 x4 x5 k0
abbrev YF158_b72 : Type := (Int) → (Int) → (Int) → (Int) → ((List Int)) → ((List (Int × Int))) → ((Int × Int × Int × (List Int) × (List (Int × Int))) → Option Ans) → Option Ans
theorem F158_b72_eqg (fuel : Nat) (f199_b72 : YF199_b72) (x0 x1 : Int) (x2 x3 : Int) (x4 : (List Int)) (x5 : (List (Int × Int))) (k : Ev.Cont) : evalFn tab (Gg158_b72 f199_b72) (J158_b72 fuel) kp158_b72 fuel Try.f158 [.c (.ptr 0 0), .c (.int .i64 x0), .c (.int .i64 x1)] [.cells 137 [.int .i64 x2, .int .i64 x3, .own 1, .own 2], .vec 5 (.int .u8) x4 false, .vec 44 (.pair (.int .i64) (.int .i64)) x5 false] k = Fg_generic_plane_context_b72 fuel f199_b72 x0 x1 x2 x3 x4 x5 (fun r => match r with | (r0, r1, r2, r3, r4) => k (.c (.int .i64 r0), [.cells 137 [.int .i64 r1, .int .i64 r2, .own 1, .own 2], .vec 5 (.int .u8) r3 false, .vec 44 (.pair (.int .i64) (.int .i64)) r4 false])) := by
  kernel_rfl
theorem F158_b72_eq (fuel : Nat) (x0 x1 : Int) (x2 x3 : Int) (x4 : (List Int)) (x5 : (List (Int × Int))) (k : Ev.Cont) : evalFn tab (G158_b72 fuel) (J158_b72 fuel) kp158_b72 fuel Try.f158 [.c (.ptr 0 0), .c (.int .i64 x0), .c (.int .i64 x1)] [.cells 137 [.int .i64 x2, .int .i64 x3, .own 1, .own 2], .vec 5 (.int .u8) x4 false, .vec 44 (.pair (.int .i64) (.int .i64)) x5 false] k = F_generic_plane_context_b72 fuel x0 x1 x2 x3 x4 x5 (fun r => match r with | (r0, r1, r2, r3, r4) => k (.c (.int .i64 r0), [.cells 137 [.int .i64 r1, .int .i64 r2, .own 1, .own 2], .vec 5 (.int .u8) r3 false, .vec 44 (.pair (.int .i64) (.int .i64)) r4 false])) :=
  F158_b72_eqg fuel (F_generic_plane_at_b72 fuel) x0 x1 x2 x3 x4 x5 k
theorem hG158_b72 (fuel : Nat) : GOK Try.prog (G158_b72 fuel) :=
  gok_cons ⟨ok199_b72 fuel, enters_of Try.func199 (by kernel_rfl) rfl⟩ <|
  gok_nil
theorem B158_b72_0_blk (fuel : Nat) : BlkOK Try.prog Try.f158.ntmps (.block 0 (.loop (bodyOf 0 Try.f158))) (B158_b72_0 fuel) :=
  blk_of (blk_of_code tab_ok (hG158_b72 fuel) mixed (J := J158_b72_0 fuel) (kp := kp158_b72) (fuel := fuel) (by kernel_rfl) (fun q hq => by
    rw [(by kernel_rfl : obl (J158_b72_0 fuel) (.block 0 (.loop (bodyOf 0 Try.f158))) = [])] at hq
    cases hq)) (B158_b72_0_ok fuel)
theorem fok158_b72 (fuel : Nat) : FnOK Try.prog 158 (evalFn tab (G158_b72 fuel) (J158_b72 fuel) kp158_b72 fuel Try.f158) :=
  fn_ok tab_ok (hG158_b72 fuel) mixed Try.func158 (c := (Try.f158.body).getD .skip) rfl (fun q hq => by
    rw [(by kernel_rfl : obl (J158_b72 fuel) ((Try.f158.body).getD .skip) = [(.block 0 (.loop (bodyOf 0 Try.f158)), B158_b72_0 fuel)])] at hq
    simp only [List.mem_cons, List.not_mem_nil, or_false] at hq
    subst hq
    · exact B158_b72_0_blk fuel)
noncomputable def mt158_b72 : List Ev.SV → List Ev.Ob → Bool := fun args objs => match args, objs with
 | [.c (.ptr q0 q1), .c (.int .i64 _), .c (.int .i64 _)], [.cells q2 [.int .i64 _, .int .i64 _, .own q3, .own q4], .vec q5 (.int .u8) _ false, .vec q6 (.pair (.int .i64) (.int .i64)) _ false] => Nat.beq q0 0 && Nat.beq q1 0 && Nat.beq q2 137 && Nat.beq q3 1 && Nat.beq q4 2 && Nat.beq q5 5 && Nat.beq q6 44
 | _, _ => false
noncomputable def spg158_b72 (F : YF158_b72) : Ev.Spec := fun args objs k => match args, objs with
 | [.c (.ptr q0 q1), .c (.int .i64 x0), .c (.int .i64 x1)], [.cells q2 [.int .i64 x2, .int .i64 x3, .own q3, .own q4], .vec q5 (.int .u8) x4 false, .vec q6 (.pair (.int .i64) (.int .i64)) x5 false] => bif Nat.beq q0 0 && Nat.beq q1 0 && Nat.beq q2 137 && Nat.beq q3 1 && Nat.beq q4 2 && Nat.beq q5 5 && Nat.beq q6 44 then F x0 x1 x2 x3 x4 x5 (fun r => match r with | (r0, r1, r2, r3, r4) => k (.c (.int .i64 r0), [.cells 137 [.int .i64 r1, .int .i64 r2, .own 1, .own 2], .vec 5 (.int .u8) r3 false, .vec 44 (.pair (.int .i64) (.int .i64)) r4 false])) else none
 | _, _ => none
noncomputable def spec158_b72 (fuel : Nat) : Ev.Spec := spg158_b72 (F_generic_plane_context_b72 fuel)
theorem ok158_b72 (fuel : Nat) : FnOK Try.prog 158 (spec158_b72 fuel) := by
  intro args objs kk r h
  unfold spec158_b72 spg158_b72 at h
  split at h
  · skip
    obtain ⟨hb, h⟩ := cond_some' h
    simp only [Bool.and_eq_true, Nat.beq_eq, decide_eq_true_eq] at hb
    obtain ⟨⟨⟨⟨⟨⟨rfl, rfl⟩, rfl⟩, rfl⟩, rfl⟩, rfl⟩, rfl⟩ := hb
    exact fok158_b72 fuel _ _ kk r ((F158_b72_eq fuel _ _ _ _ _ _ kk).trans h)
  · cases h
end Go.Proofs.Ytihfgpfofmjbaaa

set_option linter.unusedVariables false
set_option linter.unusedSimpArgs false
set_option maxRecDepth 100000
set_option maxHeartbeats 2000000
namespace Go.Proofs.Ytihfgpfofmjbaaa
open Go Ev
def kp98_894 (i : Nat) : Option (List Nat) := Ev.look i [(9, [0, 1, 2, 4, 11, 53, 54]), (100000, []), (200006, [11]), (200011, [0, 11]), (200015, [0]), (400000, [12])]
noncomputable def Gg98_894 (f90 : YF90) (f93_aa3 : YF93_aa3) (f158_b72 : YF158_b72) (f162_3e8 : YF162_3e8) (f163 : YF163) (f : Nat) : Option Ev.Spec := Ev.look f [(90, spg90 f90), (93, spg93_aa3 f93_aa3), (158, spg158_b72 f158_b72), (162, spg162_3e8 f162_3e8), (163, spg163 f163)]
noncomputable def G98_894 (fuel : Nat) : Nat → Option Ev.Spec := Gg98_894 (F_generic_contexts fuel) (F_coder_Decoder_Get_aa3 fuel) (F_generic_plane_context_b72 fuel) (F_generic_plane_above_3e8 fuel) (F_generic_skips fuel)
noncomputable def Sg_generic_plane_row_894_0 (fuel : Nat) (f90 : YF90) (f93_aa3 : YF93_aa3) (f158_b72 : YF158_b72) (f162_3e8 : YF162_3e8) (f163 : YF163) (x0 x1 : Int) (x2 x3 : Int) (x4 x5 : Int) (x6 x7 : Int) (x8 x9 : Int) (x10 x11 : Int) (x12 x13 : Bool) (x14 : (List Int)) (x15 : (List (Int × Int))) (x16 x17 : (List Int)) (x18 x19 : Int) (x20 : (List Int)) (c : (Int × Int × Int × Int × Int × Int × Int × Int × Int × Int × Int × Int × Bool × Bool × (List Int) × (List (Int × Int)) × (List Int) × (List Int) × Int × Int × (List Int)) → Option Ans) (B : (Int × Int × Int × Int × Int × Int × Int × Int × Int × Bool × Bool × (List Int) × (List (Int × Int)) × (List Int) × (List Int) → Option Ans) × (Int × Int × Int × Int × Int × Int × Int × Int × Bool × Bool × (List Int) × (List (Int × Int)) × (List Int) × (List Int) → Option Ans)) : Option Ans := match B with
 | (ret, b) =>
  bif decide (x3 < x2) then
  (f163 (x18) (x19) (x20) (IntKind.i64.wrap (IntKind.i64.wrap (x1 * x4) + x3))
  (fun y3 =>
  bif y3 then
  c (x0, x1, x2, IntKind.i64.wrap (x3 + (1 : Int)), x4, x5, x6, x7, x8, x9, x10, x11, x12, x13, x14, x15, x16, x17, x18, x19, x20)
  else
  (f158_b72 (x3) (x1) (x4) (x5) (x14) (x15)
  (fun (y8_0, y8_1, y8_2, y8_3, y8_4) =>
  (f93_aa3 (IntKind.i64.wrap (x0 + y8_0)) (x6) (x7) (x8) (x9) (x10) (x11) (x12) (x13) (x16) (x17)
  (fun (y12_0, y12_1, y12_2, y12_3, y12_4, y12_5, y12_6, y12_7, y12_8, y12_9, y12_10, y12_11) =>
  bif y12_1 != (0 : Int) then
  ret (y12_1, y8_1, y8_2, y12_2, y12_3, y12_4, y12_5, y12_6, y12_7, y12_8, y12_9, y8_3, y8_4, y12_10, y12_11)
  else
  bif decide ((0 : Int) ≤ IntKind.i64.wrap (IntKind.i64.wrap (x1 * y8_1) + x3) ∧ IntKind.i64.wrap (IntKind.i64.wrap (x1 * y8_1) + x3) < (↑y8_3.length : Int)) then
  c (x0, x1, x2, IntKind.i64.wrap (x3 + (1 : Int)), y8_1, y8_2, y12_2, y12_3, y12_4, y12_5, y12_6, y12_7, y12_8, y12_9, y8_3.set (IntKind.i64.wrap (IntKind.i64.wrap (x1 * y8_1) + x3)).toNat (IntKind.u8.wrap y12_0), y8_4, y12_10, y12_11, x18, x19, x20)
  else none))))))
  else
  b (x4, x5, x6, x7, x8, x9, x10, x11, x12, x13, x14, x15, x16, x17)
noncomputable def S_generic_plane_row_894_0 (fuel : Nat) (v : Int × Int × Int × Int × Int × Int × Int × Int × Int × Int × Int × Int × Bool × Bool × (List Int) × (List (Int × Int)) × (List Int) × (List Int) × Int × Int × (List Int)) (c : (Int × Int × Int × Int × Int × Int × Int × Int × Int × Int × Int × Int × Bool × Bool × (List Int) × (List (Int × Int)) × (List Int) × (List Int) × Int × Int × (List Int)) → Option Ans) (B : (Int × Int × Int × Int × Int × Int × Int × Int × Int × Bool × Bool × (List Int) × (List (Int × Int)) × (List Int) × (List Int) → Option Ans) × (Int × Int × Int × Int × Int × Int × Int × Int × Bool × Bool × (List Int) × (List (Int × Int)) × (List Int) × (List Int) → Option Ans)) : Option Ans := match v with
 | (x0, x1, x2, x3, x4, x5, x6, x7, x8, x9, x10, x11, x12, x13, x14, x15, x16, x17, x18, x19, x20) => Sg_generic_plane_row_894_0 fuel (F_generic_contexts fuel) (F_coder_Decoder_Get_aa3 fuel) (F_generic_plane_context_b72 fuel) (F_generic_plane_above_3e8 fuel) (F_generic_skips fuel) x0 x1 x2 x3 x4 x5 x6 x7 x8 x9 x10 x11 x12 x13 x14 x15 x16 x17 x18 x19 x20 c B
noncomputable def L_generic_plane_row_894_0 (fuel : Nat) (v : Int × Int × Int × Int × Int × Int × Int × Int × Int × Int × Int × Int × Bool × Bool × (List Int) × (List (Int × Int)) × (List Int) × (List Int) × Int × Int × (List Int)) (ret : (Int × Int × Int × Int × Int × Int × Int × Int × Int × Bool × Bool × (List Int) × (List (Int × Int)) × (List Int) × (List Int) → Option Ans)) (b : (Int × Int × Int × Int × Int × Int × Int × Int × Bool × Bool × (List Int) × (List (Int × Int)) × (List Int) × (List Int) → Option Ans)) : Option Ans := iter (S_generic_plane_row_894_0 fuel) fuel v (ret, b)
noncomputable def J98_894_0 (fuel : Nat) (i : Nat) : Option Ev.Blk := Ev.look i []
noncomputable def T98_894_0 (v : Int × Int × Int × Int × Int × Int × Int × Int × Int × Int × Int × Int × Bool × Bool × (List Int) × (List (Int × Int)) × (List Int) × (List Int) × Int × Int × (List Int)) : Ev.St := match v with | (x0, x1, x2, x3, x4, x5, x6, x7, x8, x9, x10, x11, x12, x13, x14, x15, x16, x17, x18, x19, x20) => ⟨[(0, .c (.ptr 0 0)), (1, .c (.ptr 1 0)), (2, .c (.int .i64 x0)), (4, .c (.int .i64 x1)), (11, .c (.ptr 6 0)), (53, .c (.int .i64 x2)), (54, .c (.int .i64 x3))], [(0, .cells 137 [.int .i64 x4, .int .i64 x5, .own 2, .own 3]), (1, .cells 158 (.int .i64 x6 :: .own 4 :: ctb (.int .u64 x7 :: .int .u64 x8 :: .own 5 :: .int .i64 x9 :: .int .u64 x10 :: .int .i64 x11 :: .bool x12 :: .bool x13 :: []))), (2, .vec 5 (.int .u8) x14 false), (3, .vec 44 (.pair (.int .i64) (.int .i64)) x15 false), (4, .vec 3 (.int .i64) x16 false), (5, .vec 5 (.int .u8) x17 false), (6, .cells 39 [.int .i64 x18, .int .i64 x19, .sl (.int .u8) x20])], 7, 6⟩
noncomputable def E98_894_0 (K : Ev.Ex → Ev.St → Option Ans) : (Int × Int × Int × Int × Int × Int × Int × Int × Int × Bool × Bool × (List Int) × (List (Int × Int)) × (List Int) × (List Int) → Option Ans) × (Int × Int × Int × Int × Int × Int × Int × Int × Bool × Bool × (List Int) × (List (Int × Int)) × (List Int) × (List Int) → Option Ans) := ((fun v => match v with | (x0, x1, x2, x3, x4, x5, x6, x7, x8, x9, x10, x11, x12, x13, x14) => K .ret ⟨[(12, .c (.int .i64 x0))], [(0, .cells 137 [.int .i64 x1, .int .i64 x2, .own 2, .own 3]), (1, .cells 158 (.int .i64 x3 :: .own 4 :: ctb (.int .u64 x4 :: .int .u64 x5 :: .own 5 :: .int .i64 x6 :: .int .u64 x7 :: .int .i64 x8 :: .bool x9 :: .bool x10 :: []))), (2, .vec 5 (.int .u8) x11 false), (3, .vec 44 (.pair (.int .i64) (.int .i64)) x12 false), (4, .vec 3 (.int .i64) x13 false), (5, .vec 5 (.int .u8) x14 false)], 6, 6⟩), (fun v => match v with | (x0, x1, x2, x3, x4, x5, x6, x7, x8, x9, x10, x11, x12, x13) => K .normal ⟨[], [(0, .cells 137 [.int .i64 x0, .int .i64 x1, .own 2, .own 3]), (1, .cells 158 (.int .i64 x2 :: .own 4 :: ctb (.int .u64 x3 :: .int .u64 x4 :: .own 5 :: .int .i64 x5 :: .int .u64 x6 :: .int .i64 x7 :: .bool x8 :: .bool x9 :: []))), (2, .vec 5 (.int .u8) x10 false), (3, .vec 44 (.pair (.int .i64) (.int .i64)) x11 false), (4, .vec 3 (.int .i64) x12 false), (5, .vec 5 (.int .u8) x13 false)], 6, 6⟩))
theorem S98_894_0_okg (fuel : Nat) (f90 : YF90) (f93_aa3 : YF93_aa3) (f158_b72 : YF158_b72) (f162_3e8 : YF162_3e8) (f163 : YF163) (R : Ev.St → Option Ans) (K : Ev.Ex → Ev.St → Option Ans) (x0 x1 : Int) (x2 x3 : Int) (x4 x5 : Int) (x6 x7 : Int) (x8 x9 : Int) (x10 x11 : Int) (x12 x13 : Bool) (x14 : (List Int)) (x15 : (List (Int × Int))) (x16 x17 : (List Int)) (x18 x19 : Int) (x20 : (List Int)) : evalCode tab (Gg98_894 f90 f93_aa3 f158_b72 f162_3e8 f163) (J98_894_0 fuel) kp98_894 fuel (bodyOf 0 Try.f98) (T98_894_0 (x0, x1, x2, x3, x4, x5, x6, x7, x8, x9, x10, x11, x12, x13, x14, x15, x16, x17, x18, x19, x20)) (lc kp98_894 9 0 R K) = Sg_generic_plane_row_894_0 fuel f90 f93_aa3 f158_b72 f162_3e8 f163 x0 x1 x2 x3 x4 x5 x6 x7 x8 x9 x10 x11 x12 x13 x14 x15 x16 x17 x18 x19 x20 (fun v => R (T98_894_0 v)) (E98_894_0 K) := by
  kernel_rfl
theorem S98_894_0_ok (fuel : Nat) (R : Ev.St → Option Ans) (K : Ev.Ex → Ev.St → Option Ans) (x0 x1 : Int) (x2 x3 : Int) (x4 x5 : Int) (x6 x7 : Int) (x8 x9 : Int) (x10 x11 : Int) (x12 x13 : Bool) (x14 : (List Int)) (x15 : (List (Int × Int))) (x16 x17 : (List Int)) (x18 x19 : Int) (x20 : (List Int)) : evalCode tab (G98_894 fuel) (J98_894_0 fuel) kp98_894 fuel (bodyOf 0 Try.f98) (T98_894_0 (x0, x1, x2, x3, x4, x5, x6, x7, x8, x9, x10, x11, x12, x13, x14, x15, x16, x17, x18, x19, x20)) (lc kp98_894 9 0 R K) = S_generic_plane_row_894_0 fuel (x0, x1, x2, x3, x4, x5, x6, x7, x8, x9, x10, x11, x12, x13, x14, x15, x16, x17, x18, x19, x20) (fun v => R (T98_894_0 v)) (E98_894_0 K) :=
  S98_894_0_okg fuel (F_generic_contexts fuel) (F_coder_Decoder_Get_aa3 fuel) (F_generic_plane_context_b72 fuel) (F_generic_plane_above_3e8 fuel) (F_generic_skips fuel) R K x0 x1 x2 x3 x4 x5 x6 x7 x8 x9 x10 x11 x12 x13 x14 x15 x16 x17 x18 x19 x20
noncomputable def B98_894_0 (fuel : Nat) : Ev.Blk := fun st K => match canonO (kp98_894 9) st with
 | some s => (match s with
 | ⟨[(q0, .c (.ptr q1 q2)), (q3, .c (.ptr q4 q5)), (q6, .c (.int .i64 x0)), (q7, .c (.int .i64 x1)), (q8, .c (.ptr q9 q10)), (q11, .c (.int .i64 x2)), (q12, .c (.int .i64 x3))], [(q13, .cells q14 [.int .i64 x4, .int .i64 x5, .own q15, .own q16]), (q17, .cells q18 cs0), (q19, .vec q20 (.int .u8) x14 false), (q21, .vec q22 (.pair (.int .i64) (.int .i64)) x15 false), (q23, .vec q24 (.int .i64) x16 false), (q25, .vec q26 (.int .u8) x17 false), (q27, .cells q28 [.int .i64 x18, .int .i64 x19, .sl (.int .u8) x20])], q29, q30⟩ => (match splitRun 2 ctn cs0 with | some ([.int .i64 x6, .own q31], [.int .u64 x7, .int .u64 x8, .own q32, .int .i64 x9, .int .u64 x10, .int .i64 x11, .bool x12, .bool x13]) => bif Nat.beq q0 0 && Nat.beq q1 0 && Nat.beq q2 0 && Nat.beq q3 1 && Nat.beq q4 1 && Nat.beq q5 0 && Nat.beq q6 2 && Nat.beq q7 4 && Nat.beq q8 11 && Nat.beq q9 6 && Nat.beq q10 0 && Nat.beq q11 53 && Nat.beq q12 54 && Nat.beq q13 0 && Nat.beq q14 137 && Nat.beq q15 2 && Nat.beq q16 3 && Nat.beq q17 1 && Nat.beq q18 158 && Nat.beq q19 2 && Nat.beq q20 5 && Nat.beq q21 3 && Nat.beq q22 44 && Nat.beq q23 4 && Nat.beq q24 3 && Nat.beq q25 5 && Nat.beq q26 5 && Nat.beq q27 6 && Nat.beq q28 39 && Nat.beq q29 7 && Nat.beq q30 6 && Nat.beq q31 4 && Nat.beq q32 5 then iter (S_generic_plane_row_894_0 fuel) fuel (x0, x1, x2, x3, x4, x5, x6, x7, x8, x9, x10, x11, x12, x13, x14, x15, x16, x17, x18, x19, x20) (E98_894_0 K) else none | _ => none)
 | _ => none)
 | none => none
theorem B98_894_0_ok (fuel : Nat) (st : Ev.St) (K : Ev.Ex → Ev.St → Option Ans) (r : Ans) (h : B98_894_0 fuel st K = some r) : evalCode tab (G98_894 fuel) (J98_894_0 fuel) kp98_894 fuel (.block 0 (.loop (bodyOf 0 Try.f98))) st K = some r := by
  unfold B98_894_0 at h
  split at h
  · rename_i s hs
    split at h
    · skip
      split at h
      rotate_left 1
      · cases h
      rename_i hsp
      have esp := splitRun_eq hsp
      subst esp
      obtain ⟨hb, h⟩ := cond_some' h
      simp only [Bool.and_eq_true, Nat.beq_eq, decide_eq_true_eq] at hb
      obtain ⟨⟨⟨⟨⟨⟨⟨⟨⟨⟨⟨⟨⟨⟨⟨⟨⟨⟨⟨⟨⟨⟨⟨⟨⟨⟨⟨⟨⟨⟨⟨⟨rfl, rfl⟩, rfl⟩, rfl⟩, rfl⟩, rfl⟩, rfl⟩, rfl⟩, rfl⟩, rfl⟩, rfl⟩, rfl⟩, rfl⟩, rfl⟩, rfl⟩, rfl⟩, rfl⟩, rfl⟩, rfl⟩, rfl⟩, rfl⟩, rfl⟩, rfl⟩, rfl⟩, rfl⟩, rfl⟩, rfl⟩, rfl⟩, rfl⟩, rfl⟩, rfl⟩, rfl⟩, rfl⟩ := hb
      exact blk_loop (S := T98_894_0) (ks := E98_894_0) (step := S_generic_plane_row_894_0 fuel) (v := (_, _, _, _, _, _, _, _, _, _, _, _, _, _, _, _, _, _, _, _, _)) (by kernel_rfl) (by kernel_rfl) (fun R K v => by obtain ⟨x0, x1, x2, x3, x4, x5, x6, x7, x8, x9, x10, x11, x12, x13, x14, x15, x16, x17, x18, x19, x20⟩ := v; exact S98_894_0_ok fuel R K x0 x1 x2 x3 x4 x5 x6 x7 x8 x9 x10 x11 x12 x13 x14 x15 x16 x17 x18 x19 x20) hs h
    · cases h
  · cases h
noncomputable def J98_894 (fuel : Nat) (i : Nat) : Option Ev.Blk := Ev.look i [(100000, B98_894_0 fuel)]
noncomputable def Fg_generic_plane_row_894 (fuel : Nat) (f90 : YF90) (f93_aa3 : YF93_aa3) (f158_b72 : YF158_b72) (f162_3e8 : YF162_3e8) (f163 : YF163) (x0 x1 : Int) (x2 x3 : Int) (x4 : Bool) (x5 x6 : Int) (x7 x8 : Int) (x9 : (List Int)) (x10 x11 : Int) (x12 x13 : Int) (x14 x15 : Int) (x16 x17 : Int) (x18 x19 : Bool) (x20 : (List Int)) (x21 : (List (Int × Int))) (x22 x23 : (List Int)) (k0 : (Int × Int × Int × Int × Int × Int × Int × Int × Int × Bool × Bool × (List Int) × (List (Int × Int)) × (List Int) × (List Int)) → Option Ans) : Option Ans :=
  bif x4 then
  (f90 (x1) (x2) (x3) (x4) (x5)
  (fun y3 =>
  (f93_aa3 (IntKind.i64.wrap (x0 + y3)) (x12) (x13) (x14) (x15) (x16) (x17) (x18) (x19) (x22) (x23)
  (fun (y7_0, y7_1, y7_2, y7_3, y7_4, y7_5, y7_6, y7_7, y7_8, y7_9, y7_10, y7_11) =>
  bif y7_1 != (0 : Int) then
  k0 (y7_1, x10, x11, y7_2, y7_3, y7_4, y7_5, y7_6, y7_7, y7_8, y7_9, x20, x21, y7_10, y7_11)
  else
  bif y7_0 == (1 : Int) then
  both (both (bif decide ((0 : Int) ≤ Ev.loOf (some (IntKind.i64.wrap (x6 * x10))) ∧ Ev.loOf (some (IntKind.i64.wrap (x6 * x10))) ≤ Ev.hiOf Option.none (↑x20.length : Int) ∧ Ev.hiOf Option.none (↑x20.length : Int) ≤ (↑x20.length : Int)) then
  (f162_3e8 (x6) (x7) (x8) (x9) (x10) (x11) (x20) (x21)
  (fun (y18_0, y18_1, y18_2, y18_3, y18_4) =>
  k0 ((0 : Int), y18_0, y18_1, y7_2, y7_3, y7_4, y7_5, y7_6, y7_7, y7_8, y7_9, List.take (Ev.loOf (some (IntKind.i64.wrap (x6 * x10)))).toNat y18_2 ++ List.take (Ev.hiOf Option.none (↑x20.length : Int) - Ev.loOf (some (IntKind.i64.wrap (x6 * x10)))).toNat y18_4 ++ List.drop ((Ev.loOf (some (IntKind.i64.wrap (x6 * x10)))).toNat + Min.min (Ev.hiOf Option.none (↑x20.length : Int) - Ev.loOf (some (IntKind.i64.wrap (x6 * x10)))).toNat y18_4.length) y18_2, y18_3, y7_10, y7_11)))
  else none)
  ((f162_3e8 (x6) (x7) (x8) (x9) (x10) (x11) (x20) (x21)
  (fun (y17_0, y17_1, y17_2, y17_3, y17_4) =>
  bif decide ((0 : Int) ≤ Ev.loOf (some (IntKind.i64.wrap (x6 * y17_0))) ∧ Ev.loOf (some (IntKind.i64.wrap (x6 * y17_0))) ≤ Ev.hiOf Option.none (↑y17_2.length : Int) ∧ Ev.hiOf Option.none (↑y17_2.length : Int) ≤ (↑y17_2.length : Int)) then
  k0 ((0 : Int), y17_0, y17_1, y7_2, y7_3, y7_4, y7_5, y7_6, y7_7, y7_8, y7_9, List.take (Ev.loOf (some (IntKind.i64.wrap (x6 * y17_0)))).toNat y17_2 ++ List.take (Ev.hiOf Option.none (↑y17_2.length : Int) - Ev.loOf (some (IntKind.i64.wrap (x6 * y17_0)))).toNat y17_4 ++ List.drop ((Ev.loOf (some (IntKind.i64.wrap (x6 * y17_0)))).toNat + Min.min (Ev.hiOf Option.none (↑y17_2.length : Int) - Ev.loOf (some (IntKind.i64.wrap (x6 * y17_0)))).toNat y17_4.length) y17_2, y17_3, y7_10, y7_11)
  else none))))
  (both (both (bif decide ((0 : Int) ≤ Ev.loOf (some (IntKind.i64.wrap (x6 * x10))) ∧ Ev.loOf (some (IntKind.i64.wrap (x6 * x10))) ≤ Ev.hiOf Option.none (↑x20.length : Int) ∧ Ev.hiOf Option.none (↑x20.length : Int) ≤ (↑x20.length : Int)) then
  (f162_3e8 (x6) (x7) (x8) (x9) (x10) (x11) (x20) (x21)
  (fun (y20_0, y20_1, y20_2, y20_3, y20_4) =>
  k0 ((0 : Int), y20_0, y20_1, y7_2, y7_3, y7_4, y7_5, y7_6, y7_7, y7_8, y7_9, List.take (Ev.loOf (some (IntKind.i64.wrap (x6 * x10)))).toNat y20_2 ++ List.take (Ev.hiOf Option.none (↑x20.length : Int) - Ev.loOf (some (IntKind.i64.wrap (x6 * x10)))).toNat y20_4 ++ List.drop ((Ev.loOf (some (IntKind.i64.wrap (x6 * x10)))).toNat + Min.min (Ev.hiOf Option.none (↑x20.length : Int) - Ev.loOf (some (IntKind.i64.wrap (x6 * x10)))).toNat y20_4.length) y20_2, y20_3, y7_10, y7_11)))
  else none)
  ((f162_3e8 (x6) (x7) (x8) (x9) (x10) (x11) (x20) (x21)
  (fun (y19_0, y19_1, y19_2, y19_3, y19_4) =>
  bif decide ((0 : Int) ≤ Ev.loOf (some (IntKind.i64.wrap (x6 * x10))) ∧ Ev.loOf (some (IntKind.i64.wrap (x6 * x10))) ≤ Ev.hiOf Option.none (↑y19_2.length : Int) ∧ Ev.hiOf Option.none (↑y19_2.length : Int) ≤ (↑y19_2.length : Int)) then
  k0 ((0 : Int), y19_0, y19_1, y7_2, y7_3, y7_4, y7_5, y7_6, y7_7, y7_8, y7_9, List.take (Ev.loOf (some (IntKind.i64.wrap (x6 * x10)))).toNat y19_2 ++ List.take (Ev.hiOf Option.none (↑y19_2.length : Int) - Ev.loOf (some (IntKind.i64.wrap (x6 * x10)))).toNat y19_4 ++ List.drop ((Ev.loOf (some (IntKind.i64.wrap (x6 * x10)))).toNat + Min.min (Ev.hiOf Option.none (↑y19_2.length : Int) - Ev.loOf (some (IntKind.i64.wrap (x6 * x10)))).toNat y19_4.length) y19_2, y19_3, y7_10, y7_11)
  else none))))
  ((f162_3e8 (x6) (x7) (x8) (x9) (x10) (x11) (x20) (x21)
  (fun (y17_0, y17_1, y17_2, y17_3, y17_4) =>
  both (bif decide ((0 : Int) ≤ Ev.loOf (some (IntKind.i64.wrap (x6 * y17_0))) ∧ Ev.loOf (some (IntKind.i64.wrap (x6 * y17_0))) ≤ Ev.hiOf Option.none (↑y17_2.length : Int) ∧ Ev.hiOf Option.none (↑y17_2.length : Int) ≤ (↑y17_2.length : Int)) then
  k0 ((0 : Int), y17_0, y17_1, y7_2, y7_3, y7_4, y7_5, y7_6, y7_7, y7_8, y7_9, List.take (Ev.loOf (some (IntKind.i64.wrap (x6 * y17_0)))).toNat y17_2 ++ List.take (Ev.hiOf Option.none (↑y17_2.length : Int) - Ev.loOf (some (IntKind.i64.wrap (x6 * y17_0)))).toNat y17_4 ++ List.drop ((Ev.loOf (some (IntKind.i64.wrap (x6 * y17_0)))).toNat + Min.min (Ev.hiOf Option.none (↑y17_2.length : Int) - Ev.loOf (some (IntKind.i64.wrap (x6 * y17_0)))).toNat y17_4.length) y17_2, y17_3, y7_10, y7_11)
  else none)
  (bif decide ((0 : Int) ≤ Ev.loOf (some (IntKind.i64.wrap (x6 * y17_0))) ∧ Ev.loOf (some (IntKind.i64.wrap (x6 * y17_0))) ≤ Ev.hiOf Option.none (↑y17_2.length : Int) ∧ Ev.hiOf Option.none (↑y17_2.length : Int) ≤ (↑y17_2.length : Int)) then
  k0 ((0 : Int), y17_0, y17_1, y7_2, y7_3, y7_4, y7_5, y7_6, y7_7, y7_8, y7_9, List.take (Ev.loOf (some (IntKind.i64.wrap (x6 * y17_0)))).toNat y17_2 ++ List.take (Ev.hiOf Option.none (↑y17_2.length : Int) - Ev.loOf (some (IntKind.i64.wrap (x6 * y17_0)))).toNat y17_4 ++ List.drop ((Ev.loOf (some (IntKind.i64.wrap (x6 * y17_0)))).toNat + Min.min (Ev.hiOf Option.none (↑y17_2.length : Int) - Ev.loOf (some (IntKind.i64.wrap (x6 * y17_0)))).toNat y17_4.length) y17_2, y17_3, y7_10, y7_11)
  else none)))))
  else
  (L_generic_plane_row_894_0 fuel (x0, x6, x10, (0 : Int), x10, x11, y7_2, y7_3, y7_4, y7_5, y7_6, y7_7, y7_8, y7_9, x20, x21, y7_10, y7_11, x7, x8, x9)
  (fun (ret0_0, ret0_1, ret0_2, ret0_3, ret0_4, ret0_5, ret0_6, ret0_7, ret0_8, ret0_9, ret0_10, ret0_11, ret0_12, ret0_13, ret0_14) =>
  k0 (ret0_0, ret0_1, ret0_2, ret0_3, ret0_4, ret0_5, ret0_6, ret0_7, ret0_8, ret0_9, ret0_10, ret0_11, ret0_12, ret0_13, ret0_14))
  (fun (b0_0, b0_1, b0_2, b0_3, b0_4, b0_5, b0_6, b0_7, b0_8, b0_9, b0_10, b0_11, b0_12, b0_13) =>
  k0 ((0 : Int), b0_0, b0_1, b0_2, b0_3, b0_4, b0_5, b0_6, b0_7, b0_8, b0_9, b0_10, b0_11, b0_12, b0_13)))))))
  else
  (L_generic_plane_row_894_0 fuel (x0, x6, x10, (0 : Int), x10, x11, x12, x13, x14, x15, x16, x17, x18, x19, x20, x21, x22, x23, x7, x8, x9)
  (fun (ret0_0, ret0_1, ret0_2, ret0_3, ret0_4, ret0_5, ret0_6, ret0_7, ret0_8, ret0_9, ret0_10, ret0_11, ret0_12, ret0_13, ret0_14) =>
  k0 (ret0_0, ret0_1, ret0_2, ret0_3, ret0_4, ret0_5, ret0_6, ret0_7, ret0_8, ret0_9, ret0_10, ret0_11, ret0_12, ret0_13, ret0_14))
  (fun (b0_0, b0_1, b0_2, b0_3, b0_4, b0_5, b0_6, b0_7, b0_8, b0_9, b0_10, b0_11, b0_12, b0_13) =>
  k0 ((0 : Int), b0_0, b0_1, b0_2, b0_3, b0_4, b0_5, b0_6, b0_7, b0_8, b0_9, b0_10, b0_11, b0_12, b0_13)))
noncomputable def F_generic_plane_row_894 (fuel : Nat) (x0 x1 : Int) (x2 x3 : Int) (x4 : Bool) (x5 x6 : Int) (x7 x8 : Int) (x9 : (List Int)) (x10 x11 : Int) (x12 x13 : Int) (x14 x15 : Int) (x16 x17 : Int) (x18 x19 : Bool) (x20 : (List Int)) (x21 : (List (Int × Int))) (x22 x23 : (List Int)) (k0 : (Int × Int × Int × Int × Int × Int × Int × Int × Int × Bool × Bool × (List Int) × (List (Int × Int)) × (List Int) × (List Int)) → Option Ans) : Option Ans := Fg_generic_plane_row_894 fuel (F_generic_contexts fuel) (F_coder_Decoder_Get_aa3 fuel) (F_generic_plane_context_b72 fuel) (F_generic_plane_above_3e8 fuel) (F_generic_skips fuel) x0 x1 x2 x3 x4 x5 x6 x7 x8 x9 x10 x11 x12 x13 x14 x15 x16 x17 x18 x19 x20 x21 x22 x23 k0
abbrev YF98_894 : Type := (Int) → (Int) → (Int) → (Int) → (Bool) → (Int) → (Int) → (Int) → (Int) → ((List Int)) → (Int) → (Int) → (Int) → (Int) → (Int) → (Int) → (Int) → (Int) → (Bool) → (Bool) → ((List Int)) → ((List (Int × Int))) → ((List Int)) → ((List Int)) → ((Int × Int × Int × Int × Int × Int × Int × Int × Int × Bool × Bool × (List Int) × (List (Int × Int)) × (List Int) × (List Int)) → Option Ans) → Option Ans
theorem F98_894_eqg (fuel : Nat) (f90 : YF90) (f93_aa3 : YF93_aa3) (f158_b72 : YF158_b72) (f162_3e8 : YF162_3e8) (f163 : YF163) (x0 x1 : Int) (x2 x3 : Int) (x4 : Bool) (x5 x6 : Int) (x7 x8 : Int) (x9 : (List Int)) (x10 x11 : Int) (x12 x13 : Int) (x14 x15 : Int) (x16 x17 : Int) (x18 x19 : Bool) (x20 : (List Int)) (x21 : (List (Int × Int))) (x22 x23 : (List Int)) (k : Ev.Cont) : evalFn tab (Gg98_894 f90 f93_aa3 f158_b72 f162_3e8 f163) (J98_894 fuel) kp98_894 fuel Try.f98 [.c (.ptr 0 0), .c (.ptr 1 0), .c (.int .i64 x0), .agg [.int .i64 x1, .int .i64 x2, .int .i64 x3, .bool x4, .int .i64 x5], .c (.int .i64 x6), .agg [.int .i64 x7, .int .i64 x8, .sl (.int .u8) x9]] [.cells 137 [.int .i64 x10, .int .i64 x11, .own 2, .own 3], .cells 158 (.int .i64 x12 :: .own 4 :: ctb (.int .u64 x13 :: .int .u64 x14 :: .own 5 :: .int .i64 x15 :: .int .u64 x16 :: .int .i64 x17 :: .bool x18 :: .bool x19 :: [])), .vec 5 (.int .u8) x20 false, .vec 44 (.pair (.int .i64) (.int .i64)) x21 false, .vec 3 (.int .i64) x22 false, .vec 5 (.int .u8) x23 false] k = Fg_generic_plane_row_894 fuel f90 f93_aa3 f158_b72 f162_3e8 f163 x0 x1 x2 x3 x4 x5 x6 x7 x8 x9 x10 x11 x12 x13 x14 x15 x16 x17 x18 x19 x20 x21 x22 x23 (fun r => match r with | (r0, r1, r2, r3, r4, r5, r6, r7, r8, r9, r10, r11, r12, r13, r14) => k (.c (.int .i64 r0), [.cells 137 [.int .i64 r1, .int .i64 r2, .own 2, .own 3], .cells 158 (.int .i64 r3 :: .own 4 :: ctb (.int .u64 r4 :: .int .u64 r5 :: .own 5 :: .int .i64 r6 :: .int .u64 r7 :: .int .i64 r8 :: .bool r9 :: .bool r10 :: [])), .vec 5 (.int .u8) r11 false, .vec 44 (.pair (.int .i64) (.int .i64)) r12 false, .vec 3 (.int .i64) r13 false, .vec 5 (.int .u8) r14 false])) := by
  kernel_rfl
theorem F98_894_eq (fuel : Nat) (x0 x1 : Int) (x2 x3 : Int) (x4 : Bool) (x5 x6 : Int) (x7 x8 : Int) (x9 : (List Int)) (x10 x11 : Int) (x12 x13 : Int) (x14 x15 : Int) (x16 x17 : Int) (x18 x19 : Bool) (x20 : (List Int)) (x21 : (List (Int × Int))) (x22 x23 : (List Int)) (k : Ev.Cont) : evalFn tab (G98_894 fuel) (J98_894 fuel) kp98_894 fuel Try.f98 [.c (.ptr 0 0), .c (.ptr 1 0), .c (.int .i64 x0), .agg [.int .i64 x1, .int .i64 x2, .int .i64 x3, .bool x4, .int .i64 x5], .c (.int .i64 x6), .agg [.int .i64 x7, .int .i64 x8, .sl (.int .u8) x9]] [.cells 137 [.int .i64 x10, .int .i64 x11, .own 2, .own 3], .cells 158 (.int .i64 x12 :: .own 4 :: ctb (.int .u64 x13 :: .int .u64 x14 :: .own 5 :: .int .i64 x15 :: .int .u64 x16 :: .int .i64 x17 :: .bool x18 :: .bool x19 :: [])), .vec 5 (.int .u8) x20 false, .vec 44 (.pair (.int .i64) (.int .i64)) x21 false, .vec 3 (.int .i64) x22 false, .vec 5 (.int .u8) x23 false] k = F_generic_plane_row_894 fuel x0 x1 x2 x3 x4 x5 x6 x7 x8 x9 x10 x11 x12 x13 x14 x15 x16 x17 x18 x19 x20 x21 x22 x23 (fun r => match r with | (r0, r1, r2, r3, r4, r5, r6, r7, r8, r9, r10, r11, r12, r13, r14) => k (.c (.int .i64 r0), [.cells 137 [.int .i64 r1, .int .i64 r2, .own 2, .own 3], .cells 158 (.int .i64 r3 :: .own 4 :: ctb (.int .u64 r4 :: .int .u64 r5 :: .own 5 :: .int .i64 r6 :: .int .u64 r7 :: .int .i64 r8 :: .bool r9 :: .bool r10 :: [])), .vec 5 (.int .u8) r11 false, .vec 44 (.pair (.int .i64) (.int .i64)) r12 false, .vec 3 (.int .i64) r13 false, .vec 5 (.int .u8) r14 false])) :=
  F98_894_eqg fuel (F_generic_contexts fuel) (F_coder_Decoder_Get_aa3 fuel) (F_generic_plane_context_b72 fuel) (F_generic_plane_above_3e8 fuel) (F_generic_skips fuel) x0 x1 x2 x3 x4 x5 x6 x7 x8 x9 x10 x11 x12 x13 x14 x15 x16 x17 x18 x19 x20 x21 x22 x23 k
theorem hG98_894 (fuel : Nat) : GOK Try.prog (G98_894 fuel) :=
  gok_cons ⟨ok90 fuel, enters_of Try.func90 (by kernel_rfl) rfl⟩ <|
  gok_cons ⟨ok93_aa3 fuel, enters_of Try.func93 (by kernel_rfl) rfl⟩ <|
  gok_cons ⟨ok158_b72 fuel, enters_of Try.func158 (by kernel_rfl) rfl⟩ <|
  gok_cons ⟨ok162_3e8 fuel, enters_of Try.func162 (by kernel_rfl) rfl⟩ <|
  gok_cons ⟨ok163 fuel, enters_of Try.func163 (by kernel_rfl) rfl⟩ <|
  gok_nil
theorem B98_894_0_blk (fuel : Nat) : BlkOK Try.prog Try.f98.ntmps (.block 0 (.loop (bodyOf 0 Try.f98))) (B98_894_0 fuel) :=
  blk_of (blk_of_code tab_ok (hG98_894 fuel) mixed (J := J98_894_0 fuel) (kp := kp98_894) (fuel := fuel) (by kernel_rfl) (fun q hq => by
    rw [(by kernel_rfl : obl (J98_894_0 fuel) (.block 0 (.loop (bodyOf 0 Try.f98))) = [])] at hq
    cases hq)) (B98_894_0_ok fuel)
theorem fok98_894 (fuel : Nat) : FnOK Try.prog 98 (evalFn tab (G98_894 fuel) (J98_894 fuel) kp98_894 fuel Try.f98) :=
  fn_ok tab_ok (hG98_894 fuel) mixed Try.func98 (c := (Try.f98.body).getD .skip) rfl (fun q hq => by
    rw [(by kernel_rfl : obl (J98_894 fuel) ((Try.f98.body).getD .skip) = [(.block 0 (.loop (bodyOf 0 Try.f98)), B98_894_0 fuel)])] at hq
    simp only [List.mem_cons, List.not_mem_nil, or_false] at hq
    subst hq
    · exact B98_894_0_blk fuel)
noncomputable def mt98_894 : List Ev.SV → List Ev.Ob → Bool := fun args objs => match args, objs with
 | [.c (.ptr q0 q1), .c (.ptr q2 q3), .c (.int .i64 _), .agg [.int .i64 _, .int .i64 _, .int .i64 _, .bool _, .int .i64 _], .c (.int .i64 _), .agg [.int .i64 _, .int .i64 _, .sl (.int .u8) _]], [.cells q4 [.int .i64 _, .int .i64 _, .own q5, .own q6], .cells q7 cs0, .vec q8 (.int .u8) _ false, .vec q9 (.pair (.int .i64) (.int .i64)) _ false, .vec q10 (.int .i64) _ false, .vec q11 (.int .u8) _ false] => (match splitRun 2 ctn cs0 with | some ([.int .i64 _, .own q12], [.int .u64 _, .int .u64 _, .own q13, .int .i64 _, .int .u64 _, .int .i64 _, .bool _, .bool _]) => Nat.beq q0 0 && Nat.beq q1 0 && Nat.beq q2 1 && Nat.beq q3 0 && Nat.beq q4 137 && Nat.beq q5 2 && Nat.beq q6 3 && Nat.beq q7 158 && Nat.beq q8 5 && Nat.beq q9 44 && Nat.beq q10 3 && Nat.beq q11 5 && Nat.beq q12 4 && Nat.beq q13 5 | _ => false)
 | _, _ => false
noncomputable def spg98_894 (F : YF98_894) : Ev.Spec := fun args objs k => match args, objs with
 | [.c (.ptr q0 q1), .c (.ptr q2 q3), .c (.int .i64 x0), .agg [.int .i64 x1, .int .i64 x2, .int .i64 x3, .bool x4, .int .i64 x5], .c (.int .i64 x6), .agg [.int .i64 x7, .int .i64 x8, .sl (.int .u8) x9]], [.cells q4 [.int .i64 x10, .int .i64 x11, .own q5, .own q6], .cells q7 cs0, .vec q8 (.int .u8) x20 false, .vec q9 (.pair (.int .i64) (.int .i64)) x21 false, .vec q10 (.int .i64) x22 false, .vec q11 (.int .u8) x23 false] => (match splitRun 2 ctn cs0 with | some ([.int .i64 x12, .own q12], [.int .u64 x13, .int .u64 x14, .own q13, .int .i64 x15, .int .u64 x16, .int .i64 x17, .bool x18, .bool x19]) => bif Nat.beq q0 0 && Nat.beq q1 0 && Nat.beq q2 1 && Nat.beq q3 0 && Nat.beq q4 137 && Nat.beq q5 2 && Nat.beq q6 3 && Nat.beq q7 158 && Nat.beq q8 5 && Nat.beq q9 44 && Nat.beq q10 3 && Nat.beq q11 5 && Nat.beq q12 4 && Nat.beq q13 5 then F x0 x1 x2 x3 x4 x5 x6 x7 x8 x9 x10 x11 x12 x13 x14 x15 x16 x17 x18 x19 x20 x21 x22 x23 (fun r => match r with | (r0, r1, r2, r3, r4, r5, r6, r7, r8, r9, r10, r11, r12, r13, r14) => k (.c (.int .i64 r0), [.cells 137 [.int .i64 r1, .int .i64 r2, .own 2, .own 3], .cells 158 (.int .i64 r3 :: .own 4 :: ctb (.int .u64 r4 :: .int .u64 r5 :: .own 5 :: .int .i64 r6 :: .int .u64 r7 :: .int .i64 r8 :: .bool r9 :: .bool r10 :: [])), .vec 5 (.int .u8) r11 false, .vec 44 (.pair (.int .i64) (.int .i64)) r12 false, .vec 3 (.int .i64) r13 false, .vec 5 (.int .u8) r14 false])) else none | _ => none)
 | _, _ => none
noncomputable def spec98_894 (fuel : Nat) : Ev.Spec := spg98_894 (F_generic_plane_row_894 fuel)
theorem ok98_894 (fuel : Nat) : FnOK Try.prog 98 (spec98_894 fuel) := by
  intro args objs kk r h
  unfold spec98_894 spg98_894 at h
  split at h
  · skip
    split at h
    rotate_left 1
    · cases h
    rename_i hsp
    have esp := splitRun_eq hsp
    subst esp
    obtain ⟨hb, h⟩ := cond_some' h
    simp only [Bool.and_eq_true, Nat.beq_eq, decide_eq_true_eq] at hb
    obtain ⟨⟨⟨⟨⟨⟨⟨⟨⟨⟨⟨⟨⟨rfl, rfl⟩, rfl⟩, rfl⟩, rfl⟩, rfl⟩, rfl⟩, rfl⟩, rfl⟩, rfl⟩, rfl⟩, rfl⟩, rfl⟩, rfl⟩ := hb
    exact fok98_894 fuel _ _ kk r ((F98_894_eq fuel _ _ _ _ _ _ _ _ _ _ _ _ _ _ _ _ _ _ _ _ _ _ _ _ kk).trans h)
  · cases h
end Go.Proofs.Ytihfgpfofmjbaaa

set_option linter.unusedVariables false
set_option linter.unusedSimpArgs false
set_option maxRecDepth 100000
set_option maxHeartbeats 2000000
namespace Go.Proofs.Ytihfgpfofmjbaaa
open Go Ev
def kp94 (i : Nat) : Option (List Nat) := Ev.look i []
noncomputable def Gg94 (f : Nat) : Option Ev.Spec := Ev.look f []
noncomputable def G94 (fuel : Nat) : Nat → Option Ev.Spec := Gg94
noncomputable def J94 (fuel : Nat) (i : Nat) : Option Ev.Blk := Ev.look i []
noncomputable def F_generic_sides (fuel : Nat) (x0 x1 : Int) (x2 : (List Int)) (x3 x4 : Int) (k0 : (Bool) → Option Ans) : Option Ans :=
  bif x0 == (0 : Int) then
  bif x1 == (0 : Int) then
  k0 true
  else
  bif x0 == x3 then
  k0 (x1 == x4)
  else
  k0 false
  else
  bif x0 == x3 then
  k0 (x1 == x4)
  else
  k0 false
abbrev YF94 : Type := (Int) → (Int) → ((List Int)) → (Int) → (Int) → ((Bool) → Option Ans) → Option Ans
theorem F94_eq (fuel : Nat) (x0 x1 : Int) (x2 : (List Int)) (x3 x4 : Int) (k : Ev.Cont) : evalFn tab (G94 fuel) (J94 fuel) kp94 fuel Try.f94 [.agg [.int .i64 x0, .int .i64 x1, .sl (.int .u8) x2], .c (.int .i64 x3), .c (.int .i64 x4)] [] k = F_generic_sides fuel x0 x1 x2 x3 x4 (fun r => match r with | r0 => k (.c (.bool r0), [])) := by
  kernel_rfl
theorem hG94 (fuel : Nat) : GOK Try.prog (G94 fuel) :=
  gok_nil
theorem fok94 (fuel : Nat) : FnOK Try.prog 94 (evalFn tab (G94 fuel) (J94 fuel) kp94 fuel Try.f94) :=
  fn_ok tab_ok (hG94 fuel) mixed Try.func94 (c := (Try.f94.body).getD .skip) rfl (fun q hq => by
    rw [(by kernel_rfl : obl (J94 fuel) ((Try.f94.body).getD .skip) = [])] at hq
    cases hq)
noncomputable def mt94 : List Ev.SV → List Ev.Ob → Bool := fun args objs => match args, objs with
 | [.agg [.int .i64 _, .int .i64 _, .sl (.int .u8) _], .c (.int .i64 _), .c (.int .i64 _)], [] => true
 | _, _ => false
noncomputable def spg94 (F : YF94) : Ev.Spec := fun args objs k => match args, objs with
 | [.agg [.int .i64 x0, .int .i64 x1, .sl (.int .u8) x2], .c (.int .i64 x3), .c (.int .i64 x4)], [] => bif true then F x0 x1 x2 x3 x4 (fun r => match r with | r0 => k (.c (.bool r0), [])) else none
 | _, _ => none
noncomputable def spec94 (fuel : Nat) : Ev.Spec := spg94 (F_generic_sides fuel)
theorem ok94 (fuel : Nat) : FnOK Try.prog 94 (spec94 fuel) := by
  intro args objs kk r h
  unfold spec94 spg94 at h
  split at h
  · skip
    obtain ⟨hb, h⟩ := cond_some' h
    simp only [Bool.and_eq_true, Nat.beq_eq, decide_eq_true_eq] at hb
    clear hb
    exact fok94 fuel _ _ kk r ((F94_eq fuel _ _ _ _ _ kk).trans h)
  · cases h
end Go.Proofs.Ytihfgpfofmjbaaa

set_option linter.unusedVariables false
set_option linter.unusedSimpArgs false
set_option maxRecDepth 100000
set_option maxHeartbeats 2000000
namespace Go.Proofs.Ytihfgpfofmjbaaa
open Go Ev
def kp32_fd3 (i : Nat) : Option (List Nat) := Ev.look i [(13, [0, 1, 3, 4, 8, 11, 12, 18, 66, 67]), (100000, [3, 4, 12, 18]), (200009, [8, 11]), (400000, [12, 13])]
noncomputable def Gg32_fd3 (f76 : YF76) (f88 : YF88) (f89 : YF89) (f93_aa3 : YF93_aa3) (f94 : YF94) (f95 : YF95) (f96_40a : YF96_40a) (f97 : YF97) (f98_894 : YF98_894) (f : Nat) : Option Ev.Spec := Ev.look f [(76, spg76 f76), (88, spg88 f88), (89, spg89 f89), (93, spg93_aa3 f93_aa3), (94, spg94 f94), (95, spg95 f95), (96, spg96_40a f96_40a), (97, spg97 f97), (98, spg98_894 f98_894)]
noncomputable def G32_fd3 (fuel : Nat) : Nat → Option Ev.Spec := Gg32_fd3 (F_bitmap_New fuel) (F_generic_Valid fuel) (F_bitmap_Valid fuel) (F_coder_Decoder_Get_aa3 fuel) (F_generic_sides fuel) (F_generic_fits fuel) (F_coder_Decoder_Model_40a fuel) (F_generic_newPlane fuel) (F_generic_plane_row_894 fuel)
noncomputable def Sg_generic_Get_fd3_0 (fuel : Nat) (f76 : YF76) (f88 : YF88) (f89 : YF89) (f93_aa3 : YF93_aa3) (f94 : YF94) (f95 : YF95) (f96_40a : YF96_40a) (f97 : YF97) (f98_894 : YF98_894) (x0 x1 : Int) (x2 x3 : Int) (x4 x5 : Int) (x6 x7 : Int) (x8 x9 x10 : Int) (x11 x12 : Bool) (x13 x14 : (List Int)) (x15 x16 x17 : Int) (x18 : Bool) (x19 x20 x21 : Int) (x22 : (List Int)) (x23 x24 : Int) (x25 x26 : Int) (x27 x28 : (List Int)) (x29 : (List (Int × Int))) (c : (Int × Int × Int × Int × Int × Int × Int × Int × Int × Int × Int × Bool × Bool × (List Int) × (List Int) × Int × Int × Int × Bool × Int × Int × Int × (List Int) × Int × Int × Int × Int × (List Int) × (List Int) × (List (Int × Int))) → Option Ans) (B : (Int × Int × Int × Int × Int × Int × Int × Bool × Bool × (List Int) × (List Int) × Int × Int × (List Int) → Option Ans) × (Int × Int × Int × Int × Int × Int × Int × Int × Bool × Bool × (List Int) × (List Int) × Int × Int × Int × Int × (List Int) × (List Int) × (List (Int × Int)) → Option Ans)) : Option Ans := match B with
 | (ret, b) =>
  bif decide (x4 < x3) then
  (f98_894 (x0) (x15) (x16) (x17) (x18) (x19) (x4) (x20) (x21) (x22) (x25) (x26) (x5) (x6) (x7) (x8) (x9) (x10) (x11) (x12) (x28) (x29) (x13) (x14)
  (fun (y3_0, y3_1, y3_2, y3_3, y3_4, y3_5, y3_6, y3_7, y3_8, y3_9, y3_10, y3_11, y3_12, y3_13, y3_14) =>
  bif y3_0 != (0 : Int) then
  ret (y3_0, y3_3, y3_4, y3_5, y3_6, y3_7, y3_8, y3_9, y3_10, y3_13, y3_14, (0 : Int), (0 : Int), [])
  else
  c (x0, x1, x2, x3, IntKind.i64.wrap (x4 + (1 : Int)), y3_3, y3_4, y3_5, y3_6, y3_7, y3_8, y3_9, y3_10, y3_13, y3_14, x15, x16, x17, x18, x19, x20, x21, x22, x23, x24, y3_1, y3_2, x27, y3_11, y3_12)))
  else
  b (x1, x2, x5, x6, x7, x8, x9, x10, x11, x12, x13, x14, x23, x24, x25, x26, x27, x28, x29)
noncomputable def S_generic_Get_fd3_0 (fuel : Nat) (v : Int × Int × Int × Int × Int × Int × Int × Int × Int × Int × Int × Bool × Bool × (List Int) × (List Int) × Int × Int × Int × Bool × Int × Int × Int × (List Int) × Int × Int × Int × Int × (List Int) × (List Int) × (List (Int × Int))) (c : (Int × Int × Int × Int × Int × Int × Int × Int × Int × Int × Int × Bool × Bool × (List Int) × (List Int) × Int × Int × Int × Bool × Int × Int × Int × (List Int) × Int × Int × Int × Int × (List Int) × (List Int) × (List (Int × Int))) → Option Ans) (B : (Int × Int × Int × Int × Int × Int × Int × Bool × Bool × (List Int) × (List Int) × Int × Int × (List Int) → Option Ans) × (Int × Int × Int × Int × Int × Int × Int × Int × Bool × Bool × (List Int) × (List Int) × Int × Int × Int × Int × (List Int) × (List Int) × (List (Int × Int)) → Option Ans)) : Option Ans := match v with
 | (x0, x1, x2, x3, x4, x5, x6, x7, x8, x9, x10, x11, x12, x13, x14, x15, x16, x17, x18, x19, x20, x21, x22, x23, x24, x25, x26, x27, x28, x29) => Sg_generic_Get_fd3_0 fuel (F_bitmap_New fuel) (F_generic_Valid fuel) (F_bitmap_Valid fuel) (F_coder_Decoder_Get_aa3 fuel) (F_generic_sides fuel) (F_generic_fits fuel) (F_coder_Decoder_Model_40a fuel) (F_generic_newPlane fuel) (F_generic_plane_row_894 fuel) x0 x1 x2 x3 x4 x5 x6 x7 x8 x9 x10 x11 x12 x13 x14 x15 x16 x17 x18 x19 x20 x21 x22 x23 x24 x25 x26 x27 x28 x29 c B
noncomputable def L_generic_Get_fd3_0 (fuel : Nat) (v : Int × Int × Int × Int × Int × Int × Int × Int × Int × Int × Int × Bool × Bool × (List Int) × (List Int) × Int × Int × Int × Bool × Int × Int × Int × (List Int) × Int × Int × Int × Int × (List Int) × (List Int) × (List (Int × Int))) (ret : (Int × Int × Int × Int × Int × Int × Int × Bool × Bool × (List Int) × (List Int) × Int × Int × (List Int) → Option Ans)) (b : (Int × Int × Int × Int × Int × Int × Int × Int × Bool × Bool × (List Int) × (List Int) × Int × Int × Int × Int × (List Int) × (List Int) × (List (Int × Int)) → Option Ans)) : Option Ans := iter (S_generic_Get_fd3_0 fuel) fuel v (ret, b)
noncomputable def J32_fd3_0 (fuel : Nat) (i : Nat) : Option Ev.Blk := Ev.look i []
noncomputable def T32_fd3_0 (v : Int × Int × Int × Int × Int × Int × Int × Int × Int × Int × Int × Bool × Bool × (List Int) × (List Int) × Int × Int × Int × Bool × Int × Int × Int × (List Int) × Int × Int × Int × Int × (List Int) × (List Int) × (List (Int × Int))) : Ev.St := match v with | (x0, x1, x2, x3, x4, x5, x6, x7, x8, x9, x10, x11, x12, x13, x14, x15, x16, x17, x18, x19, x20, x21, x22, x23, x24, x25, x26, x27, x28, x29) => ⟨[(0, .c (.ptr 0 0)), (1, .c (.int .i64 x0)), (3, .c (.int .i64 x1)), (4, .c (.int .i64 x2)), (8, .c (.ptr 3 0)), (11, .c (.ptr 4 0)), (12, .c (.ptr 5 0)), (18, .c (.ptr 6 0)), (66, .c (.int .i64 x3)), (67, .c (.int .i64 x4))], [(0, .cells 158 (.int .i64 x5 :: .own 1 :: ctb (.int .u64 x6 :: .int .u64 x7 :: .own 2 :: .int .i64 x8 :: .int .u64 x9 :: .int .i64 x10 :: .bool x11 :: .bool x12 :: []))), (1, .vec 3 (.int .i64) x13 false), (2, .vec 5 (.int .u8) x14 false), (3, .cells 46 [.int .i64 x15, .int .i64 x16, .int .i64 x17, .bool x18, .int .i64 x19]), (4, .cells 39 [.int .i64 x20, .int .i64 x21, .sl (.int .u8) x22]), (5, .cells 39 [.int .i64 x23, .int .i64 x24, .own 7]), (6, .cells 137 [.int .i64 x25, .int .i64 x26, .own 8, .own 9]), (7, .vec 5 (.int .u8) x27 true), (8, .vec 5 (.int .u8) x28 true), (9, .vec 44 (.pair (.int .i64) (.int .i64)) x29 true)], 10, 3⟩
noncomputable def E32_fd3_0 (K : Ev.Ex → Ev.St → Option Ans) : (Int × Int × Int × Int × Int × Int × Int × Bool × Bool × (List Int) × (List Int) × Int × Int × (List Int) → Option Ans) × (Int × Int × Int × Int × Int × Int × Int × Int × Bool × Bool × (List Int) × (List Int) × Int × Int × Int × Int × (List Int) × (List Int) × (List (Int × Int)) → Option Ans) := ((fun v => match v with | (x0, x1, x2, x3, x4, x5, x6, x7, x8, x9, x10, x11, x12, x13) => K .ret ⟨[(12, .c (.ptr 3 0)), (13, .c (.int .i64 x0))], [(0, .cells 158 (.int .i64 x1 :: .own 1 :: ctb (.int .u64 x2 :: .int .u64 x3 :: .own 2 :: .int .i64 x4 :: .int .u64 x5 :: .int .i64 x6 :: .bool x7 :: .bool x8 :: []))), (1, .vec 3 (.int .i64) x9 false), (2, .vec 5 (.int .u8) x10 false), (3, .cells 39 [.int .i64 x11, .int .i64 x12, .own 4]), (4, .vec 5 (.int .u8) x13 true)], 5, 3⟩), (fun v => match v with | (x0, x1, x2, x3, x4, x5, x6, x7, x8, x9, x10, x11, x12, x13, x14, x15, x16, x17, x18) => K .normal ⟨[(3, .c (.int .i64 x0)), (4, .c (.int .i64 x1)), (12, .c (.ptr 3 0)), (18, .c (.ptr 4 0))], [(0, .cells 158 (.int .i64 x2 :: .own 1 :: ctb (.int .u64 x3 :: .int .u64 x4 :: .own 2 :: .int .i64 x5 :: .int .u64 x6 :: .int .i64 x7 :: .bool x8 :: .bool x9 :: []))), (1, .vec 3 (.int .i64) x10 false), (2, .vec 5 (.int .u8) x11 false), (3, .cells 39 [.int .i64 x12, .int .i64 x13, .own 5]), (4, .cells 137 [.int .i64 x14, .int .i64 x15, .own 6, .own 7]), (5, .vec 5 (.int .u8) x16 true), (6, .vec 5 (.int .u8) x17 true), (7, .vec 44 (.pair (.int .i64) (.int .i64)) x18 true)], 8, 3⟩))
theorem S32_fd3_0_okg (fuel : Nat) (f76 : YF76) (f88 : YF88) (f89 : YF89) (f93_aa3 : YF93_aa3) (f94 : YF94) (f95 : YF95) (f96_40a : YF96_40a) (f97 : YF97) (f98_894 : YF98_894) (R : Ev.St → Option Ans) (K : Ev.Ex → Ev.St → Option Ans) (x0 x1 : Int) (x2 x3 : Int) (x4 x5 : Int) (x6 x7 : Int) (x8 x9 x10 : Int) (x11 x12 : Bool) (x13 x14 : (List Int)) (x15 x16 x17 : Int) (x18 : Bool) (x19 x20 x21 : Int) (x22 : (List Int)) (x23 x24 : Int) (x25 x26 : Int) (x27 x28 : (List Int)) (x29 : (List (Int × Int))) : evalCode tab (Gg32_fd3 f76 f88 f89 f93_aa3 f94 f95 f96_40a f97 f98_894) (J32_fd3_0 fuel) kp32_fd3 fuel (bodyOf 0 Try.f32) (T32_fd3_0 (x0, x1, x2, x3, x4, x5, x6, x7, x8, x9, x10, x11, x12, x13, x14, x15, x16, x17, x18, x19, x20, x21, x22, x23, x24, x25, x26, x27, x28, x29)) (lc kp32_fd3 13 0 R K) = Sg_generic_Get_fd3_0 fuel f76 f88 f89 f93_aa3 f94 f95 f96_40a f97 f98_894 x0 x1 x2 x3 x4 x5 x6 x7 x8 x9 x10 x11 x12 x13 x14 x15 x16 x17 x18 x19 x20 x21 x22 x23 x24 x25 x26 x27 x28 x29 (fun v => R (T32_fd3_0 v)) (E32_fd3_0 K) := by
  kernel_rfl
theorem S32_fd3_0_ok (fuel : Nat) (R : Ev.St → Option Ans) (K : Ev.Ex → Ev.St → Option Ans) (x0 x1 : Int) (x2 x3 : Int) (x4 x5 : Int) (x6 x7 : Int) (x8 x9 x10 : Int) (x11 x12 : Bool) (x13 x14 : (List Int)) (x15 x16 x17 : Int) (x18 : Bool) (x19 x20 x21 : Int) (x22 : (List Int)) (x23 x24 : Int) (x25 x26 : Int) (x27 x28 : (List Int)) (x29 : (List (Int × Int))) : evalCode tab (G32_fd3 fuel) (J32_fd3_0 fuel) kp32_fd3 fuel (bodyOf 0 Try.f32) (T32_fd3_0 (x0, x1, x2, x3, x4, x5, x6, x7, x8, x9, x10, x11, x12, x13, x14, x15, x16, x17, x18, x19, x20, x21, x22, x23, x24, x25, x26, x27, x28, x29)) (lc kp32_fd3 13 0 R K) = S_generic_Get_fd3_0 fuel (x0, x1, x2, x3, x4, x5, x6, x7, x8, x9, x10, x11, x12, x13, x14, x15, x16, x17, x18, x19, x20, x21, x22, x23, x24, x25, x26, x27, x28, x29) (fun v => R (T32_fd3_0 v)) (E32_fd3_0 K) :=
  S32_fd3_0_okg fuel (F_bitmap_New fuel) (F_generic_Valid fuel) (F_bitmap_Valid fuel) (F_coder_Decoder_Get_aa3 fuel) (F_generic_sides fuel) (F_generic_fits fuel) (F_coder_Decoder_Model_40a fuel) (F_generic_newPlane fuel) (F_generic_plane_row_894 fuel) R K x0 x1 x2 x3 x4 x5 x6 x7 x8 x9 x10 x11 x12 x13 x14 x15 x16 x17 x18 x19 x20 x21 x22 x23 x24 x25 x26 x27 x28 x29
noncomputable def B32_fd3_0 (fuel : Nat) : Ev.Blk := fun st K => match canonO (kp32_fd3 13) st with
 | some s => (match s with
 | ⟨[(q0, .c (.ptr q1 q2)), (q3, .c (.int .i64 x0)), (q4, .c (.int .i64 x1)), (q5, .c (.int .i64 x2)), (q6, .c (.ptr q7 q8)), (q9, .c (.ptr q10 q11)), (q12, .c (.ptr q13 q14)), (q15, .c (.ptr q16 q17)), (q18, .c (.int .i64 x3)), (q19, .c (.int .i64 x4))], [(q20, .cells q21 cs0), (q22, .vec q23 (.int .i64) x13 false), (q24, .vec q25 (.int .u8) x14 false), (q26, .cells q27 [.int .i64 x15, .int .i64 x16, .int .i64 x17, .bool x18, .int .i64 x19]), (q28, .cells q29 [.int .i64 x20, .int .i64 x21, .sl (.int .u8) x22]), (q30, .cells q31 [.int .i64 x23, .int .i64 x24, .own q32]), (q33, .cells q34 [.int .i64 x25, .int .i64 x26, .own q35, .own q36]), (q37, .vec q38 (.int .u8) x27 true), (q39, .vec q40 (.int .u8) x28 true), (q41, .vec q42 (.pair (.int .i64) (.int .i64)) x29 true)], q43, q44⟩ => (match splitRun 2 ctn cs0 with | some ([.int .i64 x5, .own q45], [.int .u64 x6, .int .u64 x7, .own q46, .int .i64 x8, .int .u64 x9, .int .i64 x10, .bool x11, .bool x12]) => bif Nat.beq q0 0 && Nat.beq q1 0 && Nat.beq q2 0 && Nat.beq q3 1 && Nat.beq q4 3 && Nat.beq q5 4 && Nat.beq q6 8 && Nat.beq q7 3 && Nat.beq q8 0 && Nat.beq q9 11 && Nat.beq q10 4 && Nat.beq q11 0 && Nat.beq q12 12 && Nat.beq q13 5 && Nat.beq q14 0 && Nat.beq q15 18 && Nat.beq q16 6 && Nat.beq q17 0 && Nat.beq q18 66 && Nat.beq q19 67 && Nat.beq q20 0 && Nat.beq q21 158 && Nat.beq q22 1 && Nat.beq q23 3 && Nat.beq q24 2 && Nat.beq q25 5 && Nat.beq q26 3 && Nat.beq q27 46 && Nat.beq q28 4 && Nat.beq q29 39 && Nat.beq q30 5 && Nat.beq q31 39 && Nat.beq q32 7 && Nat.beq q33 6 && Nat.beq q34 137 && Nat.beq q35 8 && Nat.beq q36 9 && Nat.beq q37 7 && Nat.beq q38 5 && Nat.beq q39 8 && Nat.beq q40 5 && Nat.beq q41 9 && Nat.beq q42 44 && Nat.beq q43 10 && Nat.beq q44 3 && Nat.beq q45 1 && Nat.beq q46 2 then iter (S_generic_Get_fd3_0 fuel) fuel (x0, x1, x2, x3, x4, x5, x6, x7, x8, x9, x10, x11, x12, x13, x14, x15, x16, x17, x18, x19, x20, x21, x22, x23, x24, x25, x26, x27, x28, x29) (E32_fd3_0 K) else none | _ => none)
 | _ => none)
 | none => none
theorem B32_fd3_0_ok (fuel : Nat) (st : Ev.St) (K : Ev.Ex → Ev.St → Option Ans) (r : Ans) (h : B32_fd3_0 fuel st K = some r) : evalCode tab (G32_fd3 fuel) (J32_fd3_0 fuel) kp32_fd3 fuel (.block 0 (.loop (bodyOf 0 Try.f32))) st K = some r := by
  unfold B32_fd3_0 at h
  split at h
  · rename_i s hs
    split at h
    · skip
      split at h
      rotate_left 1
      · cases h
      rename_i hsp
      have esp := splitRun_eq hsp
      subst esp
      obtain ⟨hb, h⟩ := cond_some' h
      simp only [Bool.and_eq_true, Nat.beq_eq, decide_eq_true_eq] at hb
      obtain ⟨⟨⟨⟨⟨⟨⟨⟨⟨⟨⟨⟨⟨⟨⟨⟨⟨⟨⟨⟨⟨⟨⟨⟨⟨⟨⟨⟨⟨⟨⟨⟨⟨⟨⟨⟨⟨⟨⟨⟨⟨⟨⟨⟨⟨⟨rfl, rfl⟩, rfl⟩, rfl⟩, rfl⟩, rfl⟩, rfl⟩, rfl⟩, rfl⟩, rfl⟩, rfl⟩, rfl⟩, rfl⟩, rfl⟩, rfl⟩, rfl⟩, rfl⟩, rfl⟩, rfl⟩, rfl⟩, rfl⟩, rfl⟩, rfl⟩, rfl⟩, rfl⟩, rfl⟩, rfl⟩, rfl⟩, rfl⟩, rfl⟩, rfl⟩, rfl⟩, rfl⟩, rfl⟩, rfl⟩, rfl⟩, rfl⟩, rfl⟩, rfl⟩, rfl⟩, rfl⟩, rfl⟩, rfl⟩, rfl⟩, rfl⟩, rfl⟩, rfl⟩ := hb
      exact blk_loop (S := T32_fd3_0) (ks := E32_fd3_0) (step := S_generic_Get_fd3_0 fuel) (v := (_, _, _, _, _, _, _, _, _, _, _, _, _, _, _, _, _, _, _, _, _, _, _, _, _, _, _, _, _, _)) (by kernel_rfl) (by kernel_rfl) (fun R K v => by obtain ⟨x0, x1, x2, x3, x4, x5, x6, x7, x8, x9, x10, x11, x12, x13, x14, x15, x16, x17, x18, x19, x20, x21, x22, x23, x24, x25, x26, x27, x28, x29⟩ := v; exact S32_fd3_0_ok fuel R K x0 x1 x2 x3 x4 x5 x6 x7 x8 x9 x10 x11 x12 x13 x14 x15 x16 x17 x18 x19 x20 x21 x22 x23 x24 x25 x26 x27 x28 x29) hs h
    · cases h
  · cases h
noncomputable def J32_fd3 (fuel : Nat) (i : Nat) : Option Ev.Blk := Ev.look i [(100000, B32_fd3_0 fuel)]
noncomputable def Fg_generic_Get_fd3 (fuel : Nat) (f76 : YF76) (f88 : YF88) (f89 : YF89) (f93_aa3 : YF93_aa3) (f94 : YF94) (f95 : YF95) (f96_40a : YF96_40a) (f97 : YF97) (f98_894 : YF98_894) (x0 x1 : Int) (x2 x3 : Int) (x4 : Bool) (x5 x6 : Int) (x7 x8 x9 : Int) (x10 : (List Int)) (x11 x12 : Int) (x13 x14 : Int) (x15 x16 : Int) (x17 x18 : Bool) (x19 x20 : (List Int)) (k0 : (Int × Int × Int × Int × Int × Int × Int × Int × Int × Bool × Bool × (List Int) × (List Int) × (List Int)) → Option Ans) : Option Ans :=
  (f93_aa3 ((-1 : Int)) (x11) (x12) (x13) (x14) (x15) (x16) (x17) (x18) (x19) (x20)
  (fun (y2_0, y2_1, y2_2, y2_3, y2_4, y2_5, y2_6, y2_7, y2_8, y2_9, y2_10, y2_11) =>
  bif y2_1 == (7 : Int) then
  k0 ((0 : Int), (0 : Int), y2_1, y2_2, y2_3, y2_4, y2_5, y2_6, y2_7, y2_8, y2_9, y2_10, y2_11, [])
  else
  (f88 (x1) (x2) (x3) (x4) (x5)
  (fun y7 =>
  bif !y7 then
  k0 ((0 : Int), (0 : Int), (2 : Int), y2_2, y2_3, y2_4, y2_5, y2_6, y2_7, y2_8, y2_9, y2_10, y2_11, [])
  else
  (f76 (x6) (x7) ((0 : Int))
  (fun (y12_0, y12_1, y12_2, y12_3) =>
  bif y12_2 != (0 : Int) then
  k0 ((0 : Int), (0 : Int), (30 : Int), y2_2, y2_3, y2_4, y2_5, y2_6, y2_7, y2_8, y2_9, y2_10, y2_11, [])
  else
  (f89 (x8) (x9) (x10)
  (fun y17 =>
  bif !y17 then
  k0 ((0 : Int), (0 : Int), (30 : Int), y2_2, y2_3, y2_4, y2_5, y2_6, y2_7, y2_8, y2_9, y2_10, y2_11, [])
  else
  (f94 (x8) (x9) (x10) (x6) (x7)
  (fun y22 =>
  bif !y22 then
  k0 ((0 : Int), (0 : Int), (2 : Int), y2_2, y2_3, y2_4, y2_5, y2_6, y2_7, y2_8, y2_9, y2_10, y2_11, [])
  else
  (f96_40a (y2_2) (y2_3) (y2_4) (y2_5) (y2_6) (y2_7) (y2_8) (y2_9) (y2_10) (y2_11)
  (fun (y27_0, y27_1, y27_2, y27_3, y27_4, y27_5, y27_6, y27_7, y27_8, y27_9, y27_10, y27_11) =>
  (f95 (y27_0) (y27_11) (x0) (x1) (x2) (x3) (x4) (x5)
  (fun y31 =>
  bif !y31 then
  k0 ((0 : Int), (0 : Int), (2 : Int), y27_1, y27_2, y27_3, y27_4, y27_5, y27_6, y27_7, y27_8, y27_9, y27_10, [])
  else
  (f97 (x1) (x2) (x3) (x4) (x5) (x6) (x7)
  (fun (y36_0, y36_1, y36_2, y36_3) =>
  (L_generic_Get_fd3_0 fuel (x0, x6, x7, x7, (0 : Int), y27_1, y27_2, y27_3, y27_4, y27_5, y27_6, y27_7, y27_8, y27_9, y27_10, x1, x2, x3, x4, x5, x8, x9, x10, (0 : Int), (0 : Int), y36_0, y36_1, [], y36_2, y36_3)
  (fun (ret0_0, ret0_1, ret0_2, ret0_3, ret0_4, ret0_5, ret0_6, ret0_7, ret0_8, ret0_9, ret0_10, ret0_11, ret0_12, ret0_13) =>
  k0 (ret0_11, ret0_12, ret0_0, ret0_1, ret0_2, ret0_3, ret0_4, ret0_5, ret0_6, ret0_7, ret0_8, ret0_9, ret0_10, ret0_13))
  (fun (b0_0, b0_1, b0_2, b0_3, b0_4, b0_5, b0_6, b0_7, b0_8, b0_9, b0_10, b0_11, b0_12, b0_13, b0_14, b0_15, b0_16, b0_17, b0_18) =>
  k0 (b0_0, b0_1, (0 : Int), b0_2, b0_3, b0_4, b0_5, b0_6, b0_7, b0_8, b0_9, b0_10, b0_11, b0_17)))))))))))))))))))
noncomputable def F_generic_Get_fd3 (fuel : Nat) (x0 x1 : Int) (x2 x3 : Int) (x4 : Bool) (x5 x6 : Int) (x7 x8 x9 : Int) (x10 : (List Int)) (x11 x12 : Int) (x13 x14 : Int) (x15 x16 : Int) (x17 x18 : Bool) (x19 x20 : (List Int)) (k0 : (Int × Int × Int × Int × Int × Int × Int × Int × Int × Bool × Bool × (List Int) × (List Int) × (List Int)) → Option Ans) : Option Ans := Fg_generic_Get_fd3 fuel (F_bitmap_New fuel) (F_generic_Valid fuel) (F_bitmap_Valid fuel) (F_coder_Decoder_Get_aa3 fuel) (F_generic_sides fuel) (F_generic_fits fuel) (F_coder_Decoder_Model_40a fuel) (F_generic_newPlane fuel) (F_generic_plane_row_894 fuel) x0 x1 x2 x3 x4 x5 x6 x7 x8 x9 x10 x11 x12 x13 x14 x15 x16 x17 x18 x19 x20 k0
abbrev YF32_fd3 : Type := (Int) → (Int) → (Int) → (Int) → (Bool) → (Int) → (Int) → (Int) → (Int) → (Int) → ((List Int)) → (Int) → (Int) → (Int) → (Int) → (Int) → (Int) → (Bool) → (Bool) → ((List Int)) → ((List Int)) → ((Int × Int × Int × Int × Int × Int × Int × Int × Int × Bool × Bool × (List Int) × (List Int) × (List Int)) → Option Ans) → Option Ans
theorem F32_fd3_eqg (fuel : Nat) (f76 : YF76) (f88 : YF88) (f89 : YF89) (f93_aa3 : YF93_aa3) (f94 : YF94) (f95 : YF95) (f96_40a : YF96_40a) (f97 : YF97) (f98_894 : YF98_894) (x0 x1 : Int) (x2 x3 : Int) (x4 : Bool) (x5 x6 : Int) (x7 x8 x9 : Int) (x10 : (List Int)) (x11 x12 : Int) (x13 x14 : Int) (x15 x16 : Int) (x17 x18 : Bool) (x19 x20 : (List Int)) (k : Ev.Cont) : evalFn tab (Gg32_fd3 f76 f88 f89 f93_aa3 f94 f95 f96_40a f97 f98_894) (J32_fd3 fuel) kp32_fd3 fuel Try.f32 [.c (.ptr 0 0), .c (.int .i64 x0), .agg [.int .i64 x1, .int .i64 x2, .int .i64 x3, .bool x4, .int .i64 x5], .c (.int .i64 x6), .c (.int .i64 x7), .agg [.int .i64 x8, .int .i64 x9, .sl (.int .u8) x10]] [.cells 158 (.int .i64 x11 :: .own 1 :: ctb (.int .u64 x12 :: .int .u64 x13 :: .own 2 :: .int .i64 x14 :: .int .u64 x15 :: .int .i64 x16 :: .bool x17 :: .bool x18 :: [])), .vec 3 (.int .i64) x19 false, .vec 5 (.int .u8) x20 false] k = Fg_generic_Get_fd3 fuel f76 f88 f89 f93_aa3 f94 f95 f96_40a f97 f98_894 x0 x1 x2 x3 x4 x5 x6 x7 x8 x9 x10 x11 x12 x13 x14 x15 x16 x17 x18 x19 x20 (fun r => match r with | (r0, r1, r2, r3, r4, r5, r6, r7, r8, r9, r10, r11, r12, r13) => k (.tup [(true, [.int .i64 r0, .int .i64 r1, .own 3]), (false, [.int .i64 r2])], [.cells 158 (.int .i64 r3 :: .own 1 :: ctb (.int .u64 r4 :: .int .u64 r5 :: .own 2 :: .int .i64 r6 :: .int .u64 r7 :: .int .i64 r8 :: .bool r9 :: .bool r10 :: [])), .vec 3 (.int .i64) r11 false, .vec 5 (.int .u8) r12 false, .vec 5 (.int .u8) r13 true])) := by
  kernel_rfl
theorem F32_fd3_eq (fuel : Nat) (x0 x1 : Int) (x2 x3 : Int) (x4 : Bool) (x5 x6 : Int) (x7 x8 x9 : Int) (x10 : (List Int)) (x11 x12 : Int) (x13 x14 : Int) (x15 x16 : Int) (x17 x18 : Bool) (x19 x20 : (List Int)) (k : Ev.Cont) : evalFn tab (G32_fd3 fuel) (J32_fd3 fuel) kp32_fd3 fuel Try.f32 [.c (.ptr 0 0), .c (.int .i64 x0), .agg [.int .i64 x1, .int .i64 x2, .int .i64 x3, .bool x4, .int .i64 x5], .c (.int .i64 x6), .c (.int .i64 x7), .agg [.int .i64 x8, .int .i64 x9, .sl (.int .u8) x10]] [.cells 158 (.int .i64 x11 :: .own 1 :: ctb (.int .u64 x12 :: .int .u64 x13 :: .own 2 :: .int .i64 x14 :: .int .u64 x15 :: .int .i64 x16 :: .bool x17 :: .bool x18 :: [])), .vec 3 (.int .i64) x19 false, .vec 5 (.int .u8) x20 false] k = F_generic_Get_fd3 fuel x0 x1 x2 x3 x4 x5 x6 x7 x8 x9 x10 x11 x12 x13 x14 x15 x16 x17 x18 x19 x20 (fun r => match r with | (r0, r1, r2, r3, r4, r5, r6, r7, r8, r9, r10, r11, r12, r13) => k (.tup [(true, [.int .i64 r0, .int .i64 r1, .own 3]), (false, [.int .i64 r2])], [.cells 158 (.int .i64 r3 :: .own 1 :: ctb (.int .u64 r4 :: .int .u64 r5 :: .own 2 :: .int .i64 r6 :: .int .u64 r7 :: .int .i64 r8 :: .bool r9 :: .bool r10 :: [])), .vec 3 (.int .i64) r11 false, .vec 5 (.int .u8) r12 false, .vec 5 (.int .u8) r13 true])) :=
  F32_fd3_eqg fuel (F_bitmap_New fuel) (F_generic_Valid fuel) (F_bitmap_Valid fuel) (F_coder_Decoder_Get_aa3 fuel) (F_generic_sides fuel) (F_generic_fits fuel) (F_coder_Decoder_Model_40a fuel) (F_generic_newPlane fuel) (F_generic_plane_row_894 fuel) x0 x1 x2 x3 x4 x5 x6 x7 x8 x9 x10 x11 x12 x13 x14 x15 x16 x17 x18 x19 x20 k
theorem hG32_fd3 (fuel : Nat) : GOK Try.prog (G32_fd3 fuel) :=
  gok_cons ⟨ok76 fuel, enters_of Try.func76 (by kernel_rfl) rfl⟩ <|
  gok_cons ⟨ok88 fuel, enters_of Try.func88 (by kernel_rfl) rfl⟩ <|
  gok_cons ⟨ok89 fuel, enters_of Try.func89 (by kernel_rfl) rfl⟩ <|
  gok_cons ⟨ok93_aa3 fuel, enters_of Try.func93 (by kernel_rfl) rfl⟩ <|
  gok_cons ⟨ok94 fuel, enters_of Try.func94 (by kernel_rfl) rfl⟩ <|
  gok_cons ⟨ok95 fuel, enters_of Try.func95 (by kernel_rfl) rfl⟩ <|
  gok_cons ⟨ok96_40a fuel, enters_of Try.func96 (by kernel_rfl) rfl⟩ <|
  gok_cons ⟨ok97 fuel, enters_of Try.func97 (by kernel_rfl) rfl⟩ <|
  gok_cons ⟨ok98_894 fuel, enters_of Try.func98 (by kernel_rfl) rfl⟩ <|
  gok_nil
theorem B32_fd3_0_blk (fuel : Nat) : BlkOK Try.prog Try.f32.ntmps (.block 0 (.loop (bodyOf 0 Try.f32))) (B32_fd3_0 fuel) :=
  blk_of (blk_of_code tab_ok (hG32_fd3 fuel) mixed (J := J32_fd3_0 fuel) (kp := kp32_fd3) (fuel := fuel) (by kernel_rfl) (fun q hq => by
    rw [(by kernel_rfl : obl (J32_fd3_0 fuel) (.block 0 (.loop (bodyOf 0 Try.f32))) = [])] at hq
    cases hq)) (B32_fd3_0_ok fuel)
theorem fok32_fd3 (fuel : Nat) : FnOK Try.prog 32 (evalFn tab (G32_fd3 fuel) (J32_fd3 fuel) kp32_fd3 fuel Try.f32) :=
  fn_ok tab_ok (hG32_fd3 fuel) mixed Try.func32 (c := (Try.f32.body).getD .skip) rfl (fun q hq => by
    rw [(by kernel_rfl : obl (J32_fd3 fuel) ((Try.f32.body).getD .skip) = [(.block 0 (.loop (bodyOf 0 Try.f32)), B32_fd3_0 fuel)])] at hq
    simp only [List.mem_cons, List.not_mem_nil, or_false] at hq
    subst hq
    · exact B32_fd3_0_blk fuel)
noncomputable def mt32_fd3 : List Ev.SV → List Ev.Ob → Bool := fun args objs => match args, objs with
 | [.c (.ptr q0 q1), .c (.int .i64 _), .agg [.int .i64 _, .int .i64 _, .int .i64 _, .bool _, .int .i64 _], .c (.int .i64 _), .c (.int .i64 _), .agg [.int .i64 _, .int .i64 _, .sl (.int .u8) _]], [.cells q2 cs0, .vec q3 (.int .i64) _ false, .vec q4 (.int .u8) _ false] => (match splitRun 2 ctn cs0 with | some ([.int .i64 _, .own q5], [.int .u64 _, .int .u64 _, .own q6, .int .i64 _, .int .u64 _, .int .i64 _, .bool _, .bool _]) => Nat.beq q0 0 && Nat.beq q1 0 && Nat.beq q2 158 && Nat.beq q3 3 && Nat.beq q4 5 && Nat.beq q5 1 && Nat.beq q6 2 | _ => false)
 | _, _ => false
noncomputable def spg32_fd3 (F : YF32_fd3) : Ev.Spec := fun args objs k => match args, objs with
 | [.c (.ptr q0 q1), .c (.int .i64 x0), .agg [.int .i64 x1, .int .i64 x2, .int .i64 x3, .bool x4, .int .i64 x5], .c (.int .i64 x6), .c (.int .i64 x7), .agg [.int .i64 x8, .int .i64 x9, .sl (.int .u8) x10]], [.cells q2 cs0, .vec q3 (.int .i64) x19 false, .vec q4 (.int .u8) x20 false] => (match splitRun 2 ctn cs0 with | some ([.int .i64 x11, .own q5], [.int .u64 x12, .int .u64 x13, .own q6, .int .i64 x14, .int .u64 x15, .int .i64 x16, .bool x17, .bool x18]) => bif Nat.beq q0 0 && Nat.beq q1 0 && Nat.beq q2 158 && Nat.beq q3 3 && Nat.beq q4 5 && Nat.beq q5 1 && Nat.beq q6 2 then F x0 x1 x2 x3 x4 x5 x6 x7 x8 x9 x10 x11 x12 x13 x14 x15 x16 x17 x18 x19 x20 (fun r => match r with | (r0, r1, r2, r3, r4, r5, r6, r7, r8, r9, r10, r11, r12, r13) => k (.tup [(true, [.int .i64 r0, .int .i64 r1, .own 3]), (false, [.int .i64 r2])], [.cells 158 (.int .i64 r3 :: .own 1 :: ctb (.int .u64 r4 :: .int .u64 r5 :: .own 2 :: .int .i64 r6 :: .int .u64 r7 :: .int .i64 r8 :: .bool r9 :: .bool r10 :: [])), .vec 3 (.int .i64) r11 false, .vec 5 (.int .u8) r12 false, .vec 5 (.int .u8) r13 true])) else none | _ => none)
 | _, _ => none
noncomputable def spec32_fd3 (fuel : Nat) : Ev.Spec := spg32_fd3 (F_generic_Get_fd3 fuel)
theorem ok32_fd3 (fuel : Nat) : FnOK Try.prog 32 (spec32_fd3 fuel) := by
  intro args objs kk r h
  unfold spec32_fd3 spg32_fd3 at h
  split at h
  · skip
    split at h
    rotate_left 1
    · cases h
    rename_i hsp
    have esp := splitRun_eq hsp
    subst esp
    obtain ⟨hb, h⟩ := cond_some' h
    simp only [Bool.and_eq_true, Nat.beq_eq, decide_eq_true_eq] at hb
    obtain ⟨⟨⟨⟨⟨⟨rfl, rfl⟩, rfl⟩, rfl⟩, rfl⟩, rfl⟩, rfl⟩ := hb
    exact fok32_fd3 fuel _ _ kk r ((F32_fd3_eq fuel _ _ _ _ _ _ _ _ _ _ _ _ _ _ _ _ _ _ _ _ _ kk).trans h)
  · cases h
end Go.Proofs.Ytihfgpfofmjbaaa

set_option linter.unusedVariables false
set_option linter.unusedSimpArgs false
set_option maxRecDepth 100000
set_option maxHeartbeats 2000000
namespace Go.Proofs.Ytihfgpfofmjbaaa
open Go Ev
def kp48 (i : Nat) : Option (List Nat) := Ev.look i [(200003, [4])]
noncomputable def Gg48 (f32_fd3 : YF32_fd3) (f41 : YF41) (f42 : YF42) (f88 : YF88) (f90 : YF90) (f : Nat) : Option Ev.Spec := Ev.look f [(32, spg32_fd3 f32_fd3), (41, spg41 f41), (42, spg42 f42), (88, spg88 f88), (90, spg90 f90)]
noncomputable def G48 (fuel : Nat) : Nat → Option Ev.Spec := Gg48 (F_generic_Get_fd3 fuel) (F_coder_New fuel) (F_coder_NewDecoder fuel) (F_generic_Valid fuel) (F_generic_contexts fuel)
noncomputable def J48 (fuel : Nat) (i : Nat) : Option Ev.Blk := Ev.look i []
noncomputable def Fg_generic_Decode (fuel : Nat) (f32_fd3 : YF32_fd3) (f41 : YF41) (f42 : YF42) (f88 : YF88) (f90 : YF90) (x0 x1 x2 : Int) (x3 : Bool) (x4 : Int) (x5 : (List Int)) (x6 x7 : Int) (k0 : (Int × Int × Int × (List Int)) → Option Ans) : Option Ans :=
  (f88 (x0) (x1) (x2) (x3) (x4)
  (fun y2 =>
  bif !y2 then
  k0 ((0 : Int), (0 : Int), (2 : Int), [])
  else
  both ((f90 (x0) (x1) (x2) (x3) (x4)
  (fun y9 =>
  both ((f41 (x4) (IntKind.i64.wrap (y9 + (1 : Int)))
  (fun (y15_0, y15_1, y15_2) =>
  (f42 (y15_0) (y15_2) (x5)
  (fun y19 =>
  none)
  (fun (y19_0, y19_1, y19_2, y19_3, y19_4, y19_5, y19_6, y19_7, y19_8, y19_9, y19_10) =>
  (f32_fd3 ((0 : Int)) (x0) (x1) (x2) (x3) (x4) (x6) (x7) ((0 : Int)) ((0 : Int)) ([]) (y19_1) (y19_2) (y19_3) (y19_4) (y19_5) (y19_6) (y19_7) (y19_8) (y19_9) (y19_10)
  (fun (y23_0, y23_1, y23_2, y23_3, y23_4, y23_5, y23_6, y23_7, y23_8, y23_9, y23_10, y23_11, y23_12, y23_13) =>
  k0 (y23_0, y23_1, y23_2, y23_13))))))))
  ((f41 (x4) (IntKind.i64.wrap (y9 + (1 : Int)))
  (fun (y15_0, y15_1, y15_2) =>
  (f42 (y15_0) (y15_2) (x5)
  (fun y19 =>
  none)
  (fun (y19_0, y19_1, y19_2, y19_3, y19_4, y19_5, y19_6, y19_7, y19_8, y19_9, y19_10) =>
  (f32_fd3 ((0 : Int)) (x0) (x1) (x2) (x3) (x4) (x6) (x7) ((0 : Int)) ((0 : Int)) ([]) (y19_1) (y19_2) (y19_3) (y19_4) (y19_5) (y19_6) (y19_7) (y19_8) (y19_9) (y19_10)
  (fun (y23_0, y23_1, y23_2, y23_3, y23_4, y23_5, y23_6, y23_7, y23_8, y23_9, y23_10, y23_11, y23_12, y23_13) =>
  k0 (y23_0, y23_1, y23_2, y23_13)))))))))))
  ((f90 (x0) (x1) (x2) (x3) (x4)
  (fun y9 =>
  (f41 (x4) (IntKind.i64.wrap (y9 + (1 : Int)))
  (fun (y13_0, y13_1, y13_2) =>
  (f42 (y13_0) (y13_2) (x5)
  (fun y17 =>
  none)
  (fun (y17_0, y17_1, y17_2, y17_3, y17_4, y17_5, y17_6, y17_7, y17_8, y17_9, y17_10) =>
  (f32_fd3 ((0 : Int)) (x0) (x1) (x2) (x3) (x4) (x6) (x7) ((0 : Int)) ((0 : Int)) ([]) (y17_1) (y17_2) (y17_3) (y17_4) (y17_5) (y17_6) (y17_7) (y17_8) (y17_9) (y17_10)
  (fun (y21_0, y21_1, y21_2, y21_3, y21_4, y21_5, y21_6, y21_7, y21_8, y21_9, y21_10, y21_11, y21_12, y21_13) =>
  k0 (y21_0, y21_1, y21_2, y21_13))))))))))))
noncomputable def F_generic_Decode (fuel : Nat) (x0 x1 x2 : Int) (x3 : Bool) (x4 : Int) (x5 : (List Int)) (x6 x7 : Int) (k0 : (Int × Int × Int × (List Int)) → Option Ans) : Option Ans := Fg_generic_Decode fuel (F_generic_Get_fd3 fuel) (F_coder_New fuel) (F_coder_NewDecoder fuel) (F_generic_Valid fuel) (F_generic_contexts fuel) x0 x1 x2 x3 x4 x5 x6 x7 k0
abbrev YF48 : Type := (Int) → (Int) → (Int) → (Bool) → (Int) → ((List Int)) → (Int) → (Int) → ((Int × Int × Int × (List Int)) → Option Ans) → Option Ans
theorem F48_eqg (fuel : Nat) (f32_fd3 : YF32_fd3) (f41 : YF41) (f42 : YF42) (f88 : YF88) (f90 : YF90) (x0 x1 x2 : Int) (x3 : Bool) (x4 : Int) (x5 : (List Int)) (x6 x7 : Int) (k : Ev.Cont) : evalFn tab (Gg48 f32_fd3 f41 f42 f88 f90) (J48 fuel) kp48 fuel Try.f48 [.agg [.int .i64 x0, .int .i64 x1, .int .i64 x2, .bool x3, .int .i64 x4], .c (.sl (.int .u8) x5), .c (.int .i64 x6), .c (.int .i64 x7)] [] k = Fg_generic_Decode fuel f32_fd3 f41 f42 f88 f90 x0 x1 x2 x3 x4 x5 x6 x7 (fun r => match r with | (r0, r1, r2, r3) => k (.tup [(true, [.int .i64 r0, .int .i64 r1, .own 0]), (false, [.int .i64 r2])], [.vec 5 (.int .u8) r3 true])) := by
  kernel_rfl
theorem F48_eq (fuel : Nat) (x0 x1 x2 : Int) (x3 : Bool) (x4 : Int) (x5 : (List Int)) (x6 x7 : Int) (k : Ev.Cont) : evalFn tab (G48 fuel) (J48 fuel) kp48 fuel Try.f48 [.agg [.int .i64 x0, .int .i64 x1, .int .i64 x2, .bool x3, .int .i64 x4], .c (.sl (.int .u8) x5), .c (.int .i64 x6), .c (.int .i64 x7)] [] k = F_generic_Decode fuel x0 x1 x2 x3 x4 x5 x6 x7 (fun r => match r with | (r0, r1, r2, r3) => k (.tup [(true, [.int .i64 r0, .int .i64 r1, .own 0]), (false, [.int .i64 r2])], [.vec 5 (.int .u8) r3 true])) :=
  F48_eqg fuel (F_generic_Get_fd3 fuel) (F_coder_New fuel) (F_coder_NewDecoder fuel) (F_generic_Valid fuel) (F_generic_contexts fuel) x0 x1 x2 x3 x4 x5 x6 x7 k
theorem hG48 (fuel : Nat) : GOK Try.prog (G48 fuel) :=
  gok_cons ⟨ok32_fd3 fuel, enters_of Try.func32 (by kernel_rfl) rfl⟩ <|
  gok_cons ⟨ok41 fuel, enters_of Try.func41 (by kernel_rfl) rfl⟩ <|
  gok_cons ⟨ok42 fuel, enters_of Try.func42 (by kernel_rfl) rfl⟩ <|
  gok_cons ⟨ok88 fuel, enters_of Try.func88 (by kernel_rfl) rfl⟩ <|
  gok_cons ⟨ok90 fuel, enters_of Try.func90 (by kernel_rfl) rfl⟩ <|
  gok_nil
theorem fok48 (fuel : Nat) : FnOK Try.prog 48 (evalFn tab (G48 fuel) (J48 fuel) kp48 fuel Try.f48) :=
  fn_ok tab_ok (hG48 fuel) mixed Try.func48 (c := (Try.f48.body).getD .skip) rfl (fun q hq => by
    rw [(by kernel_rfl : obl (J48 fuel) ((Try.f48.body).getD .skip) = [])] at hq
    cases hq)
noncomputable def mt48 : List Ev.SV → List Ev.Ob → Bool := fun args objs => match args, objs with
 | [.agg [.int .i64 _, .int .i64 _, .int .i64 _, .bool _, .int .i64 _], .c (.sl (.int .u8) _), .c (.int .i64 _), .c (.int .i64 _)], [] => true
 | _, _ => false
noncomputable def spg48 (F : YF48) : Ev.Spec := fun args objs k => match args, objs with
 | [.agg [.int .i64 x0, .int .i64 x1, .int .i64 x2, .bool x3, .int .i64 x4], .c (.sl (.int .u8) x5), .c (.int .i64 x6), .c (.int .i64 x7)], [] => bif true then F x0 x1 x2 x3 x4 x5 x6 x7 (fun r => match r with | (r0, r1, r2, r3) => k (.tup [(true, [.int .i64 r0, .int .i64 r1, .own 0]), (false, [.int .i64 r2])], [.vec 5 (.int .u8) r3 true])) else none
 | _, _ => none
noncomputable def spec48 (fuel : Nat) : Ev.Spec := spg48 (F_generic_Decode fuel)
theorem ok48 (fuel : Nat) : FnOK Try.prog 48 (spec48 fuel) := by
  intro args objs kk r h
  unfold spec48 spg48 at h
  split at h
  · skip
    obtain ⟨hb, h⟩ := cond_some' h
    simp only [Bool.and_eq_true, Nat.beq_eq, decide_eq_true_eq] at hb
    clear hb
    exact fok48 fuel _ _ kk r ((F48_eq fuel _ _ _ _ _ _ _ _ kk).trans h)
  · cases h
end Go.Proofs.Ytihfgpfofmjbaaa

set_option linter.unusedVariables false
set_option linter.unusedSimpArgs false
set_option maxRecDepth 100000
set_option maxHeartbeats 2000000
namespace Go.Proofs.Ytihfgpfofmjbaaa
open Go Ev
def kp164_a20 (i : Nat) : Option (List Nat) := Ev.look i []
noncomputable def Gg164_a20 (f : Nat) : Option Ev.Spec := Ev.look f []
noncomputable def G164_a20 (fuel : Nat) : Nat → Option Ev.Spec := Gg164_a20
noncomputable def J164_a20 (fuel : Nat) (i : Nat) : Option Ev.Blk := Ev.look i []
noncomputable def F_coder_Encoder_none_a20 (fuel : Nat) (x0 x1 x2 : Int) (x3 : Bool) (x4 x5 : (List Int)) (k0 : (Bool × Int × Int × Int × Bool × (List Int) × (List Int)) → Option Ans) : Option Ans :=
  k0 (!x3, x0, x1, x2, x3, x4, x5)
abbrev YF164_a20 : Type := (Int) → (Int) → (Int) → (Bool) → ((List Int)) → ((List Int)) → ((Bool × Int × Int × Int × Bool × (List Int) × (List Int)) → Option Ans) → Option Ans
theorem F164_a20_eq (fuel : Nat) (x0 x1 x2 : Int) (x3 : Bool) (x4 x5 : (List Int)) (k : Ev.Cont) : evalFn tab (G164_a20 fuel) (J164_a20 fuel) kp164_a20 fuel Try.f164 [.c (.ptr 0 0)] [.cells 172 (.int .i64 x0 :: .own 1 :: ctb (.int .u64 x1 :: .int .u64 x2 :: .own 2 :: .bool x3 :: [])), .vec 3 (.int .i64) x4 false, .vec 5 (.int .u8) x5 false] k = F_coder_Encoder_none_a20 fuel x0 x1 x2 x3 x4 x5 (fun r => match r with | (r0, r1, r2, r3, r4, r5, r6) => k (.c (.bool r0), [.cells 172 (.int .i64 r1 :: .own 1 :: ctb (.int .u64 r2 :: .int .u64 r3 :: .own 2 :: .bool r4 :: [])), .vec 3 (.int .i64) r5 false, .vec 5 (.int .u8) r6 false])) := by
  kernel_rfl
theorem hG164_a20 (fuel : Nat) : GOK Try.prog (G164_a20 fuel) :=
  gok_nil
theorem fok164_a20 (fuel : Nat) : FnOK Try.prog 164 (evalFn tab (G164_a20 fuel) (J164_a20 fuel) kp164_a20 fuel Try.f164) :=
  fn_ok tab_ok (hG164_a20 fuel) mixed Try.func164 (c := (Try.f164.body).getD .skip) rfl (fun q hq => by
    rw [(by kernel_rfl : obl (J164_a20 fuel) ((Try.f164.body).getD .skip) = [])] at hq
    cases hq)
noncomputable def mt164_a20 : List Ev.SV → List Ev.Ob → Bool := fun args objs => match args, objs with
 | [.c (.ptr q0 q1)], [.cells q2 cs0, .vec q3 (.int .i64) _ false, .vec q4 (.int .u8) _ false] => (match splitRun 2 ctn cs0 with | some ([.int .i64 _, .own q5], [.int .u64 _, .int .u64 _, .own q6, .bool _]) => Nat.beq q0 0 && Nat.beq q1 0 && Nat.beq q2 172 && Nat.beq q3 3 && Nat.beq q4 5 && Nat.beq q5 1 && Nat.beq q6 2 | _ => false)
 | _, _ => false
noncomputable def spg164_a20 (F : YF164_a20) : Ev.Spec := fun args objs k => match args, objs with
 | [.c (.ptr q0 q1)], [.cells q2 cs0, .vec q3 (.int .i64) x4 false, .vec q4 (.int .u8) x5 false] => (match splitRun 2 ctn cs0 with | some ([.int .i64 x0, .own q5], [.int .u64 x1, .int .u64 x2, .own q6, .bool x3]) => bif Nat.beq q0 0 && Nat.beq q1 0 && Nat.beq q2 172 && Nat.beq q3 3 && Nat.beq q4 5 && Nat.beq q5 1 && Nat.beq q6 2 then F x0 x1 x2 x3 x4 x5 (fun r => match r with | (r0, r1, r2, r3, r4, r5, r6) => k (.c (.bool r0), [.cells 172 (.int .i64 r1 :: .own 1 :: ctb (.int .u64 r2 :: .int .u64 r3 :: .own 2 :: .bool r4 :: [])), .vec 3 (.int .i64) r5 false, .vec 5 (.int .u8) r6 false])) else none | _ => none)
 | _, _ => none
noncomputable def spec164_a20 (fuel : Nat) : Ev.Spec := spg164_a20 (F_coder_Encoder_none_a20 fuel)
theorem ok164_a20 (fuel : Nat) : FnOK Try.prog 164 (spec164_a20 fuel) := by
  intro args objs kk r h
  unfold spec164_a20 spg164_a20 at h
  split at h
  · skip
    split at h
    rotate_left 1
    · cases h
    rename_i hsp
    have esp := splitRun_eq hsp
    subst esp
    obtain ⟨hb, h⟩ := cond_some' h
    simp only [Bool.and_eq_true, Nat.beq_eq, decide_eq_true_eq] at hb
    obtain ⟨⟨⟨⟨⟨⟨rfl, rfl⟩, rfl⟩, rfl⟩, rfl⟩, rfl⟩, rfl⟩ := hb
    exact fok164_a20 fuel _ _ kk r ((F164_a20_eq fuel _ _ _ _ _ _ kk).trans h)
  · cases h
end Go.Proofs.Ytihfgpfofmjbaaa

set_option linter.unusedVariables false
set_option linter.unusedSimpArgs false
set_option maxRecDepth 100000
set_option maxHeartbeats 2000000
namespace Go.Proofs.Ytihfgpfofmjbaaa
open Go Ev
def kp92_a20 (i : Nat) : Option (List Nat) := Ev.look i [(5, [0, 3, 15]), (10, [0, 3, 37, 38]), (100000, [3]), (100002, [3]), (200008, [0]), (400000, [2]), (400002, [2])]
noncomputable def Gg92_a20 (f164_a20 : YF164_a20) (f : Nat) : Option Ev.Spec := Ev.look f [(164, spg164_a20 f164_a20)]
noncomputable def G92_a20 (fuel : Nat) : Nat → Option Ev.Spec := Gg92_a20 (F_coder_Encoder_none_a20 fuel)
noncomputable def Sg_coder_Encoder_End_a20_2 (fuel : Nat) (f164_a20 : YF164_a20) (x0 x1 : Int) (x2 x3 x4 : Int) (x5 : Bool) (x6 x7 x8 : (List Int)) (c : (Int × Int × Int × Int × Int × Bool × (List Int) × (List Int) × (List Int)) → Option Ans) (B : (Int × Int × Int × Bool × (List Int) × (List Int) × (List Int) → Option Ans)) : Option Ans := match B with
 | b =>
  bif decide (x1 < x0) then
  bif decide (IntKind.i64.wrap ((24 : Int) - IntKind.i64.wrap ((8 : Int) * x1)) < (0 : Int)) then
  none
  else
  bif decide ((x8.length + [IntKind.u8.wrap (Ev.ishr IntKind.u64 x4 (IntKind.i64.wrap ((24 : Int) - IntKind.i64.wrap ((8 : Int) * x1))))].length) * (1 : Nat) ≤ (140737488355328 : Nat) ∧ x8.length + [IntKind.u8.wrap (Ev.ishr IntKind.u64 x4 (IntKind.i64.wrap ((24 : Int) - IntKind.i64.wrap ((8 : Int) * x1))))].length ≤ (140737488355328 : Nat)) then
  c (x0, IntKind.i64.wrap (x1 + (1 : Int)), x2, x3, x4, x5, x6, x7, x8 ++ [IntKind.u8.wrap (Ev.ishr IntKind.u64 x4 (IntKind.i64.wrap ((24 : Int) - IntKind.i64.wrap ((8 : Int) * x1))))])
  else none
  else
  b (x2, x3, x4, x5, x6, x7, x8)
noncomputable def S_coder_Encoder_End_a20_2 (fuel : Nat) (v : Int × Int × Int × Int × Int × Bool × (List Int) × (List Int) × (List Int)) (c : (Int × Int × Int × Int × Int × Bool × (List Int) × (List Int) × (List Int)) → Option Ans) (B : (Int × Int × Int × Bool × (List Int) × (List Int) × (List Int) → Option Ans)) : Option Ans := match v with
 | (x0, x1, x2, x3, x4, x5, x6, x7, x8) => Sg_coder_Encoder_End_a20_2 fuel (F_coder_Encoder_none_a20 fuel) x0 x1 x2 x3 x4 x5 x6 x7 x8 c B
noncomputable def L_coder_Encoder_End_a20_2 (fuel : Nat) (v : Int × Int × Int × Int × Int × Bool × (List Int) × (List Int) × (List Int)) (b : (Int × Int × Int × Bool × (List Int) × (List Int) × (List Int) → Option Ans)) : Option Ans := iter (S_coder_Encoder_End_a20_2 fuel) fuel v b
noncomputable def J92_a20_2 (fuel : Nat) (i : Nat) : Option Ev.Blk := Ev.look i []
noncomputable def T92_a20_2 (v : Int × Int × Int × Int × Int × Bool × (List Int) × (List Int) × (List Int)) : Ev.St := match v with | (x0, x1, x2, x3, x4, x5, x6, x7, x8) => ⟨[(0, .c (.ptr 0 0)), (3, .c (.own 3)), (37, .c (.int .i64 x0)), (38, .c (.int .i64 x1))], [(0, .cells 172 (.int .i64 x2 :: .own 1 :: ctb (.int .u64 x3 :: .int .u64 x4 :: .own 2 :: .bool x5 :: []))), (1, .vec 3 (.int .i64) x6 false), (2, .vec 5 (.int .u8) x7 false), (3, .vec 5 (.int .u8) x8 true)], 4, 3⟩
noncomputable def E92_a20_2 (K : Ev.Ex → Ev.St → Option Ans) : (Int × Int × Int × Bool × (List Int) × (List Int) × (List Int) → Option Ans) := (fun v => match v with | (x0, x1, x2, x3, x4, x5, x6) => K .normal ⟨[(3, .c (.own 3))], [(0, .cells 172 (.int .i64 x0 :: .own 1 :: ctb (.int .u64 x1 :: .int .u64 x2 :: .own 2 :: .bool x3 :: []))), (1, .vec 3 (.int .i64) x4 false), (2, .vec 5 (.int .u8) x5 false), (3, .vec 5 (.int .u8) x6 true)], 4, 3⟩)
theorem S92_a20_2_okg (fuel : Nat) (f164_a20 : YF164_a20) (R : Ev.St → Option Ans) (K : Ev.Ex → Ev.St → Option Ans) (x0 x1 : Int) (x2 x3 x4 : Int) (x5 : Bool) (x6 x7 x8 : (List Int)) : evalCode tab (Gg92_a20 f164_a20) (J92_a20_2 fuel) kp92_a20 fuel (bodyOf 2 Try.f92) (T92_a20_2 (x0, x1, x2, x3, x4, x5, x6, x7, x8)) (lc kp92_a20 10 2 R K) = Sg_coder_Encoder_End_a20_2 fuel f164_a20 x0 x1 x2 x3 x4 x5 x6 x7 x8 (fun v => R (T92_a20_2 v)) (E92_a20_2 K) := by
  kernel_rfl
theorem S92_a20_2_ok (fuel : Nat) (R : Ev.St → Option Ans) (K : Ev.Ex → Ev.St → Option Ans) (x0 x1 : Int) (x2 x3 x4 : Int) (x5 : Bool) (x6 x7 x8 : (List Int)) : evalCode tab (G92_a20 fuel) (J92_a20_2 fuel) kp92_a20 fuel (bodyOf 2 Try.f92) (T92_a20_2 (x0, x1, x2, x3, x4, x5, x6, x7, x8)) (lc kp92_a20 10 2 R K) = S_coder_Encoder_End_a20_2 fuel (x0, x1, x2, x3, x4, x5, x6, x7, x8) (fun v => R (T92_a20_2 v)) (E92_a20_2 K) :=
  S92_a20_2_okg fuel (F_coder_Encoder_none_a20 fuel) R K x0 x1 x2 x3 x4 x5 x6 x7 x8
noncomputable def B92_a20_2 (fuel : Nat) : Ev.Blk := fun st K => match canonO (kp92_a20 10) st with
 | some s => (match s with
 | ⟨[(q0, .c (.ptr q1 q2)), (q3, .c (.own q4)), (q5, .c (.int .i64 x0)), (q6, .c (.int .i64 x1))], [(q7, .cells q8 cs0), (q9, .vec q10 (.int .i64) x6 false), (q11, .vec q12 (.int .u8) x7 false), (q13, .vec q14 (.int .u8) x8 true)], q15, q16⟩ => (match splitRun 2 ctn cs0 with | some ([.int .i64 x2, .own q17], [.int .u64 x3, .int .u64 x4, .own q18, .bool x5]) => bif Nat.beq q0 0 && Nat.beq q1 0 && Nat.beq q2 0 && Nat.beq q3 3 && Nat.beq q4 3 && Nat.beq q5 37 && Nat.beq q6 38 && Nat.beq q7 0 && Nat.beq q8 172 && Nat.beq q9 1 && Nat.beq q10 3 && Nat.beq q11 2 && Nat.beq q12 5 && Nat.beq q13 3 && Nat.beq q14 5 && Nat.beq q15 4 && Nat.beq q16 3 && Nat.beq q17 1 && Nat.beq q18 2 then iter (S_coder_Encoder_End_a20_2 fuel) fuel (x0, x1, x2, x3, x4, x5, x6, x7, x8) (E92_a20_2 K) else none | _ => none)
 | _ => none)
 | none => none
theorem B92_a20_2_ok (fuel : Nat) (st : Ev.St) (K : Ev.Ex → Ev.St → Option Ans) (r : Ans) (h : B92_a20_2 fuel st K = some r) : evalCode tab (G92_a20 fuel) (J92_a20_2 fuel) kp92_a20 fuel (.block 2 (.loop (bodyOf 2 Try.f92))) st K = some r := by
  unfold B92_a20_2 at h
  split at h
  · rename_i s hs
    split at h
    · skip
      split at h
      rotate_left 1
      · cases h
      rename_i hsp
      have esp := splitRun_eq hsp
      subst esp
      obtain ⟨hb, h⟩ := cond_some' h
      simp only [Bool.and_eq_true, Nat.beq_eq, decide_eq_true_eq] at hb
      obtain ⟨⟨⟨⟨⟨⟨⟨⟨⟨⟨⟨⟨⟨⟨⟨⟨⟨⟨rfl, rfl⟩, rfl⟩, rfl⟩, rfl⟩, rfl⟩, rfl⟩, rfl⟩, rfl⟩, rfl⟩, rfl⟩, rfl⟩, rfl⟩, rfl⟩, rfl⟩, rfl⟩, rfl⟩, rfl⟩, rfl⟩ := hb
      exact blk_loop (S := T92_a20_2) (ks := E92_a20_2) (step := S_coder_Encoder_End_a20_2 fuel) (v := (_, _, _, _, _, _, _, _, _)) (by kernel_rfl) (by kernel_rfl) (fun R K v => by obtain ⟨x0, x1, x2, x3, x4, x5, x6, x7, x8⟩ := v; exact S92_a20_2_ok fuel R K x0 x1 x2 x3 x4 x5 x6 x7 x8) hs h
    · cases h
  · cases h
noncomputable def Sg_coder_Encoder_End_a20_0 (fuel : Nat) (f164_a20 : YF164_a20) (x0 x1 : Int) (x2 x3 : Int) (x4 : Bool) (x5 x6 x7 : (List Int)) (c : (Int × Int × Int × Int × Bool × (List Int) × (List Int) × (List Int)) → Option Ans) (B : (Int × Int × Int × Bool × (List Int) × (List Int) × (List Int) → Option Ans) × (Int × Int × Int × Bool × (List Int) × (List Int) × (List Int) → Option Ans)) : Option Ans := match B with
 | (ret, b) =>
  bif decide (x0 < (5 : Int)) then
  bif decide (IntKind.u64.wrap (IntKind.i64.wrap ((32 : Int) - IntKind.i64.wrap ((8 : Int) * x0))) < (0 : Int)) then
  none
  else
  bif decide (IntKind.u64.wrap (IntKind.i64.wrap ((32 : Int) - IntKind.i64.wrap ((8 : Int) * x0))) < (0 : Int)) then
  none
  else
  bif decide (Ev.ishl IntKind.u64 (Ev.ishr IntKind.u64 x3 (IntKind.u64.wrap (IntKind.i64.wrap ((32 : Int) - IntKind.i64.wrap ((8 : Int) * x0))))) (IntKind.u64.wrap (IntKind.i64.wrap ((32 : Int) - IntKind.i64.wrap ((8 : Int) * x0)))) ≥ x2) then
  (L_coder_Encoder_End_a20_2 fuel (x0, (0 : Int), x1, x2, x3, x4, x5, x6, x7)
  (fun (b2_0, b2_1, b2_2, b2_3, b2_4, b2_5, b2_6) =>
  ret (b2_0, b2_1, b2_2, b2_3, b2_4, b2_5, b2_6)))
  else
  c (IntKind.i64.wrap (x0 + (1 : Int)), x1, x2, x3, x4, x5, x6, x7)
  else
  b (x1, x2, x3, x4, x5, x6, x7)
noncomputable def S_coder_Encoder_End_a20_0 (fuel : Nat) (v : Int × Int × Int × Int × Bool × (List Int) × (List Int) × (List Int)) (c : (Int × Int × Int × Int × Bool × (List Int) × (List Int) × (List Int)) → Option Ans) (B : (Int × Int × Int × Bool × (List Int) × (List Int) × (List Int) → Option Ans) × (Int × Int × Int × Bool × (List Int) × (List Int) × (List Int) → Option Ans)) : Option Ans := match v with
 | (x0, x1, x2, x3, x4, x5, x6, x7) => Sg_coder_Encoder_End_a20_0 fuel (F_coder_Encoder_none_a20 fuel) x0 x1 x2 x3 x4 x5 x6 x7 c B
noncomputable def L_coder_Encoder_End_a20_0 (fuel : Nat) (v : Int × Int × Int × Int × Bool × (List Int) × (List Int) × (List Int)) (ret : (Int × Int × Int × Bool × (List Int) × (List Int) × (List Int) → Option Ans)) (b : (Int × Int × Int × Bool × (List Int) × (List Int) × (List Int) → Option Ans)) : Option Ans := iter (S_coder_Encoder_End_a20_0 fuel) fuel v (ret, b)
noncomputable def J92_a20_0 (fuel : Nat) (i : Nat) : Option Ev.Blk := Ev.look i [(100002, B92_a20_2 fuel)]
noncomputable def T92_a20_0 (v : Int × Int × Int × Int × Bool × (List Int) × (List Int) × (List Int)) : Ev.St := match v with | (x0, x1, x2, x3, x4, x5, x6, x7) => ⟨[(0, .c (.ptr 0 0)), (3, .c (.own 3)), (15, .c (.int .i64 x0))], [(0, .cells 172 (.int .i64 x1 :: .own 1 :: ctb (.int .u64 x2 :: .int .u64 x3 :: .own 2 :: .bool x4 :: []))), (1, .vec 3 (.int .i64) x5 false), (2, .vec 5 (.int .u8) x6 false), (3, .vec 5 (.int .u8) x7 true)], 4, 3⟩
noncomputable def E92_a20_0 (K : Ev.Ex → Ev.St → Option Ans) : (Int × Int × Int × Bool × (List Int) × (List Int) × (List Int) → Option Ans) × (Int × Int × Int × Bool × (List Int) × (List Int) × (List Int) → Option Ans) := ((fun v => match v with | (x0, x1, x2, x3, x4, x5, x6) => K .ret ⟨[(2, .c (.own 3))], [(0, .cells 172 (.int .i64 x0 :: .own 1 :: ctb (.int .u64 x1 :: .int .u64 x2 :: .own 2 :: .bool x3 :: []))), (1, .vec 3 (.int .i64) x4 false), (2, .vec 5 (.int .u8) x5 false), (3, .vec 5 (.int .u8) x6 true)], 4, 3⟩), (fun v => match v with | (x0, x1, x2, x3, x4, x5, x6) => K .normal ⟨[(3, .c (.own 3))], [(0, .cells 172 (.int .i64 x0 :: .own 1 :: ctb (.int .u64 x1 :: .int .u64 x2 :: .own 2 :: .bool x3 :: []))), (1, .vec 3 (.int .i64) x4 false), (2, .vec 5 (.int .u8) x5 false), (3, .vec 5 (.int .u8) x6 true)], 4, 3⟩))
theorem S92_a20_0_okg (fuel : Nat) (f164_a20 : YF164_a20) (R : Ev.St → Option Ans) (K : Ev.Ex → Ev.St → Option Ans) (x0 x1 : Int) (x2 x3 : Int) (x4 : Bool) (x5 x6 x7 : (List Int)) : evalCode tab (Gg92_a20 f164_a20) (J92_a20_0 fuel) kp92_a20 fuel (bodyOf 0 Try.f92) (T92_a20_0 (x0, x1, x2, x3, x4, x5, x6, x7)) (lc kp92_a20 5 0 R K) = Sg_coder_Encoder_End_a20_0 fuel f164_a20 x0 x1 x2 x3 x4 x5 x6 x7 (fun v => R (T92_a20_0 v)) (E92_a20_0 K) := by
  kernel_rfl
theorem S92_a20_0_ok (fuel : Nat) (R : Ev.St → Option Ans) (K : Ev.Ex → Ev.St → Option Ans) (x0 x1 : Int) (x2 x3 : Int) (x4 : Bool) (x5 x6 x7 : (List Int)) : evalCode tab (G92_a20 fuel) (J92_a20_0 fuel) kp92_a20 fuel (bodyOf 0 Try.f92) (T92_a20_0 (x0, x1, x2, x3, x4, x5, x6, x7)) (lc kp92_a20 5 0 R K) = S_coder_Encoder_End_a20_0 fuel (x0, x1, x2, x3, x4, x5, x6, x7) (fun v => R (T92_a20_0 v)) (E92_a20_0 K) :=
  S92_a20_0_okg fuel (F_coder_Encoder_none_a20 fuel) R K x0 x1 x2 x3 x4 x5 x6 x7
noncomputable def B92_a20_0 (fuel : Nat) : Ev.Blk := fun st K => match canonO (kp92_a20 5) st with
 | some s => (match s with
 | ⟨[(q0, .c (.ptr q1 q2)), (q3, .c (.own q4)), (q5, .c (.int .i64 x0))], [(q6, .cells q7 cs0), (q8, .vec q9 (.int .i64) x5 false), (q10, .vec q11 (.int .u8) x6 false), (q12, .vec q13 (.int .u8) x7 true)], q14, q15⟩ => (match splitRun 2 ctn cs0 with | some ([.int .i64 x1, .own q16], [.int .u64 x2, .int .u64 x3, .own q17, .bool x4]) => bif Nat.beq q0 0 && Nat.beq q1 0 && Nat.beq q2 0 && Nat.beq q3 3 && Nat.beq q4 3 && Nat.beq q5 15 && Nat.beq q6 0 && Nat.beq q7 172 && Nat.beq q8 1 && Nat.beq q9 3 && Nat.beq q10 2 && Nat.beq q11 5 && Nat.beq q12 3 && Nat.beq q13 5 && Nat.beq q14 4 && Nat.beq q15 3 && Nat.beq q16 1 && Nat.beq q17 2 then iter (S_coder_Encoder_End_a20_0 fuel) fuel (x0, x1, x2, x3, x4, x5, x6, x7) (E92_a20_0 K) else none | _ => none)
 | _ => none)
 | none => none
theorem B92_a20_0_ok (fuel : Nat) (st : Ev.St) (K : Ev.Ex → Ev.St → Option Ans) (r : Ans) (h : B92_a20_0 fuel st K = some r) : evalCode tab (G92_a20 fuel) (J92_a20_0 fuel) kp92_a20 fuel (.block 0 (.loop (bodyOf 0 Try.f92))) st K = some r := by
  unfold B92_a20_0 at h
  split at h
  · rename_i s hs
    split at h
    · skip
      split at h
      rotate_left 1
      · cases h
      rename_i hsp
      have esp := splitRun_eq hsp
      subst esp
      obtain ⟨hb, h⟩ := cond_some' h
      simp only [Bool.and_eq_true, Nat.beq_eq, decide_eq_true_eq] at hb
      obtain ⟨⟨⟨⟨⟨⟨⟨⟨⟨⟨⟨⟨⟨⟨⟨⟨⟨rfl, rfl⟩, rfl⟩, rfl⟩, rfl⟩, rfl⟩, rfl⟩, rfl⟩, rfl⟩, rfl⟩, rfl⟩, rfl⟩, rfl⟩, rfl⟩, rfl⟩, rfl⟩, rfl⟩, rfl⟩ := hb
      exact blk_loop (S := T92_a20_0) (ks := E92_a20_0) (step := S_coder_Encoder_End_a20_0 fuel) (v := (_, _, _, _, _, _, _, _)) (by kernel_rfl) (by kernel_rfl) (fun R K v => by obtain ⟨x0, x1, x2, x3, x4, x5, x6, x7⟩ := v; exact S92_a20_0_ok fuel R K x0 x1 x2 x3 x4 x5 x6 x7) hs h
    · cases h
  · cases h
noncomputable def J92_a20 (fuel : Nat) (i : Nat) : Option Ev.Blk := Ev.look i [(100002, B92_a20_2 fuel), (100000, B92_a20_0 fuel)]
noncomputable def Fg_coder_Encoder_End_a20 (fuel : Nat) (f164_a20 : YF164_a20) (x0 x1 x2 : Int) (x3 : Bool) (x4 x5 : (List Int)) (k0 : (Int × Int × Int × Bool × (List Int) × (List Int) × (List Int)) → Option Ans) : Option Ans :=
  (f164_a20 (x0) (x1) (x2) (x3) (x4) (x5)
  (fun (y2_0, y2_1, y2_2, y2_3, y2_4, y2_5, y2_6) =>
  bif y2_0 then
  k0 (y2_1, y2_2, y2_3, y2_4, y2_5, y2_6, [])
  else
  bif decide (((0 : Nat) + y2_6.length) * (1 : Nat) ≤ (140737488355328 : Nat) ∧ (0 : Nat) + y2_6.length ≤ (140737488355328 : Nat)) then
  (L_coder_Encoder_End_a20_0 fuel ((0 : Int), y2_1, y2_2, y2_3, y2_4, y2_5, y2_6, [] ++ y2_6)
  (fun (ret0_0, ret0_1, ret0_2, ret0_3, ret0_4, ret0_5, ret0_6) =>
  k0 (ret0_0, ret0_1, ret0_2, ret0_3, ret0_4, ret0_5, ret0_6))
  (fun (b0_0, b0_1, b0_2, b0_3, b0_4, b0_5, b0_6) =>
  k0 (b0_0, b0_1, b0_2, b0_3, b0_4, b0_5, b0_6)))
  else none))
noncomputable def F_coder_Encoder_End_a20 (fuel : Nat) (x0 x1 x2 : Int) (x3 : Bool) (x4 x5 : (List Int)) (k0 : (Int × Int × Int × Bool × (List Int) × (List Int) × (List Int)) → Option Ans) : Option Ans := Fg_coder_Encoder_End_a20 fuel (F_coder_Encoder_none_a20 fuel) x0 x1 x2 x3 x4 x5 k0
abbrev YF92_a20 : Type := (Int) → (Int) → (Int) → (Bool) → ((List Int)) → ((List Int)) → ((Int × Int × Int × Bool × (List Int) × (List Int) × (List Int)) → Option Ans) → Option Ans
theorem F92_a20_eqg (fuel : Nat) (f164_a20 : YF164_a20) (x0 x1 x2 : Int) (x3 : Bool) (x4 x5 : (List Int)) (k : Ev.Cont) : evalFn tab (Gg92_a20 f164_a20) (J92_a20 fuel) kp92_a20 fuel Try.f92 [.c (.ptr 0 0)] [.cells 172 (.int .i64 x0 :: .own 1 :: ctb (.int .u64 x1 :: .int .u64 x2 :: .own 2 :: .bool x3 :: [])), .vec 3 (.int .i64) x4 false, .vec 5 (.int .u8) x5 false] k = Fg_coder_Encoder_End_a20 fuel f164_a20 x0 x1 x2 x3 x4 x5 (fun r => match r with | (r0, r1, r2, r3, r4, r5, r6) => k (.c (.own 3), [.cells 172 (.int .i64 r0 :: .own 1 :: ctb (.int .u64 r1 :: .int .u64 r2 :: .own 2 :: .bool r3 :: [])), .vec 3 (.int .i64) r4 false, .vec 5 (.int .u8) r5 false, .vec 5 (.int .u8) r6 true])) := by
  kernel_rfl
theorem F92_a20_eq (fuel : Nat) (x0 x1 x2 : Int) (x3 : Bool) (x4 x5 : (List Int)) (k : Ev.Cont) : evalFn tab (G92_a20 fuel) (J92_a20 fuel) kp92_a20 fuel Try.f92 [.c (.ptr 0 0)] [.cells 172 (.int .i64 x0 :: .own 1 :: ctb (.int .u64 x1 :: .int .u64 x2 :: .own 2 :: .bool x3 :: [])), .vec 3 (.int .i64) x4 false, .vec 5 (.int .u8) x5 false] k = F_coder_Encoder_End_a20 fuel x0 x1 x2 x3 x4 x5 (fun r => match r with | (r0, r1, r2, r3, r4, r5, r6) => k (.c (.own 3), [.cells 172 (.int .i64 r0 :: .own 1 :: ctb (.int .u64 r1 :: .int .u64 r2 :: .own 2 :: .bool r3 :: [])), .vec 3 (.int .i64) r4 false, .vec 5 (.int .u8) r5 false, .vec 5 (.int .u8) r6 true])) :=
  F92_a20_eqg fuel (F_coder_Encoder_none_a20 fuel) x0 x1 x2 x3 x4 x5 k
theorem hG92_a20 (fuel : Nat) : GOK Try.prog (G92_a20 fuel) :=
  gok_cons ⟨ok164_a20 fuel, enters_of Try.func164 (by kernel_rfl) rfl⟩ <|
  gok_nil
theorem B92_a20_2_blk (fuel : Nat) : BlkOK Try.prog Try.f92.ntmps (.block 2 (.loop (bodyOf 2 Try.f92))) (B92_a20_2 fuel) :=
  blk_of (blk_of_code tab_ok (hG92_a20 fuel) mixed (J := J92_a20_2 fuel) (kp := kp92_a20) (fuel := fuel) (by kernel_rfl) (fun q hq => by
    rw [(by kernel_rfl : obl (J92_a20_2 fuel) (.block 2 (.loop (bodyOf 2 Try.f92))) = [])] at hq
    cases hq)) (B92_a20_2_ok fuel)
theorem B92_a20_0_blk (fuel : Nat) : BlkOK Try.prog Try.f92.ntmps (.block 0 (.loop (bodyOf 0 Try.f92))) (B92_a20_0 fuel) :=
  blk_of (blk_of_code tab_ok (hG92_a20 fuel) mixed (J := J92_a20_0 fuel) (kp := kp92_a20) (fuel := fuel) (by kernel_rfl) (fun q hq => by
    rw [(by kernel_rfl : obl (J92_a20_0 fuel) (.block 0 (.loop (bodyOf 0 Try.f92))) = [(.block 2 (.loop (bodyOf 2 Try.f92)), B92_a20_2 fuel)])] at hq
    simp only [List.mem_cons, List.not_mem_nil, or_false] at hq
    subst hq
    · exact B92_a20_2_blk fuel)) (B92_a20_0_ok fuel)
theorem fok92_a20 (fuel : Nat) : FnOK Try.prog 92 (evalFn tab (G92_a20 fuel) (J92_a20 fuel) kp92_a20 fuel Try.f92) :=
  fn_ok tab_ok (hG92_a20 fuel) mixed Try.func92 (c := (Try.f92.body).getD .skip) rfl (fun q hq => by
    rw [(by kernel_rfl : obl (J92_a20 fuel) ((Try.f92.body).getD .skip) = [(.block 0 (.loop (bodyOf 0 Try.f92)), B92_a20_0 fuel)])] at hq
    simp only [List.mem_cons, List.not_mem_nil, or_false] at hq
    subst hq
    · exact B92_a20_0_blk fuel)
noncomputable def mt92_a20 : List Ev.SV → List Ev.Ob → Bool := fun args objs => match args, objs with
 | [.c (.ptr q0 q1)], [.cells q2 cs0, .vec q3 (.int .i64) _ false, .vec q4 (.int .u8) _ false] => (match splitRun 2 ctn cs0 with | some ([.int .i64 _, .own q5], [.int .u64 _, .int .u64 _, .own q6, .bool _]) => Nat.beq q0 0 && Nat.beq q1 0 && Nat.beq q2 172 && Nat.beq q3 3 && Nat.beq q4 5 && Nat.beq q5 1 && Nat.beq q6 2 | _ => false)
 | _, _ => false
noncomputable def spg92_a20 (F : YF92_a20) : Ev.Spec := fun args objs k => match args, objs with
 | [.c (.ptr q0 q1)], [.cells q2 cs0, .vec q3 (.int .i64) x4 false, .vec q4 (.int .u8) x5 false] => (match splitRun 2 ctn cs0 with | some ([.int .i64 x0, .own q5], [.int .u64 x1, .int .u64 x2, .own q6, .bool x3]) => bif Nat.beq q0 0 && Nat.beq q1 0 && Nat.beq q2 172 && Nat.beq q3 3 && Nat.beq q4 5 && Nat.beq q5 1 && Nat.beq q6 2 then F x0 x1 x2 x3 x4 x5 (fun r => match r with | (r0, r1, r2, r3, r4, r5, r6) => k (.c (.own 3), [.cells 172 (.int .i64 r0 :: .own 1 :: ctb (.int .u64 r1 :: .int .u64 r2 :: .own 2 :: .bool r3 :: [])), .vec 3 (.int .i64) r4 false, .vec 5 (.int .u8) r5 false, .vec 5 (.int .u8) r6 true])) else none | _ => none)
 | _, _ => none
noncomputable def spec92_a20 (fuel : Nat) : Ev.Spec := spg92_a20 (F_coder_Encoder_End_a20 fuel)
theorem ok92_a20 (fuel : Nat) : FnOK Try.prog 92 (spec92_a20 fuel) := by
  intro args objs kk r h
  unfold spec92_a20 spg92_a20 at h
  split at h
  · skip
    split at h
    rotate_left 1
    · cases h
    rename_i hsp
    have esp := splitRun_eq hsp
    subst esp
    obtain ⟨hb, h⟩ := cond_some' h
    simp only [Bool.and_eq_true, Nat.beq_eq, decide_eq_true_eq] at hb
    obtain ⟨⟨⟨⟨⟨⟨rfl, rfl⟩, rfl⟩, rfl⟩, rfl⟩, rfl⟩, rfl⟩ := hb
    exact fok92_a20 fuel _ _ kk r ((F92_a20_eq fuel _ _ _ _ _ _ kk).trans h)
  · cases h
end Go.Proofs.Ytihfgpfofmjbaaa

set_option linter.unusedVariables false
set_option linter.unusedSimpArgs false
set_option maxRecDepth 100000
set_option maxHeartbeats 2000000
namespace Go.Proofs.Ytihfgpfofmjbaaa
open Go Ev
def kp46 (i : Nat) : Option (List Nat) := Ev.look i [(600000, [])]
noncomputable def Gg46 (f113 : YF113) (f114 : YF114) (f : Nat) : Option Ev.Spec := Ev.look f [(113, spg113 f113), (114, spg114 f114)]
noncomputable def G46 (fuel : Nat) : Nat → Option Ev.Spec := Gg46 (F_coder_Valid fuel) (F_coder_begin fuel)
noncomputable def J46 (fuel : Nat) (i : Nat) : Option Ev.Blk := Ev.look i []
noncomputable def Fg_coder_NewEncoder (fuel : Nat) (f113 : YF113) (f114 : YF114) (x0 : Int) (x1 : (List Int)) (k0 : (Int) → Option Ans) (k1 : (Int × Int × Int × Int × Bool × (List Int) × (List Int)) → Option Ans) : Option Ans :=
  (f113 (x0) (x1)
  (fun y2 =>
  bif !y2 then
  k0 ((10 : Int))
  else
  (f114 (x0) (x1)
  (fun (y7_0, y7_1, y7_2, y7_3) =>
  k1 ((0 : Int), y7_0, y7_1, y7_2, true, y7_3, [])))))
noncomputable def F_coder_NewEncoder (fuel : Nat) (x0 : Int) (x1 : (List Int)) (k0 : (Int) → Option Ans) (k1 : (Int × Int × Int × Int × Bool × (List Int) × (List Int)) → Option Ans) : Option Ans := Fg_coder_NewEncoder fuel (F_coder_Valid fuel) (F_coder_begin fuel) x0 x1 k0 k1
abbrev YF46 : Type := (Int) → ((List Int)) → ((Int) → Option Ans) → ((Int × Int × Int × Int × Bool × (List Int) × (List Int)) → Option Ans) → Option Ans
theorem F46_eqg (fuel : Nat) (f113 : YF113) (f114 : YF114) (x0 : Int) (x1 : (List Int)) (k : Ev.Cont) : evalFn tab (Gg46 f113 f114) (J46 fuel) kp46 fuel Try.f46 [.agg [.int .i64 x0, .sl (.int .i64) x1]] [] k = Fg_coder_NewEncoder fuel f113 f114 x0 x1 (fun r => match r with | r0 => k (.tup [(false, [.nilptr]), (false, [.int .i64 r0])], [])) (fun r => match r with | (r0, r1, r2, r3, r4, r5, r6) => k (.tup [(false, [.ptr 0 0]), (false, [.int .i64 r0])], [.cells 172 (.int .i64 r1 :: .own 1 :: ctb (.int .u64 r2 :: .int .u64 r3 :: .own 2 :: .bool r4 :: [])), .vec 3 (.int .i64) r5 true, .vec 5 (.int .u8) r6 true])) := by
  kernel_rfl
theorem F46_eq (fuel : Nat) (x0 : Int) (x1 : (List Int)) (k : Ev.Cont) : evalFn tab (G46 fuel) (J46 fuel) kp46 fuel Try.f46 [.agg [.int .i64 x0, .sl (.int .i64) x1]] [] k = F_coder_NewEncoder fuel x0 x1 (fun r => match r with | r0 => k (.tup [(false, [.nilptr]), (false, [.int .i64 r0])], [])) (fun r => match r with | (r0, r1, r2, r3, r4, r5, r6) => k (.tup [(false, [.ptr 0 0]), (false, [.int .i64 r0])], [.cells 172 (.int .i64 r1 :: .own 1 :: ctb (.int .u64 r2 :: .int .u64 r3 :: .own 2 :: .bool r4 :: [])), .vec 3 (.int .i64) r5 true, .vec 5 (.int .u8) r6 true])) :=
  F46_eqg fuel (F_coder_Valid fuel) (F_coder_begin fuel) x0 x1 k
theorem hG46 (fuel : Nat) : GOK Try.prog (G46 fuel) :=
  gok_cons ⟨ok113 fuel, enters_of Try.func113 (by kernel_rfl) rfl⟩ <|
  gok_cons ⟨ok114 fuel, enters_of Try.func114 (by kernel_rfl) rfl⟩ <|
  gok_nil
theorem fok46 (fuel : Nat) : FnOK Try.prog 46 (evalFn tab (G46 fuel) (J46 fuel) kp46 fuel Try.f46) :=
  fn_ok tab_ok (hG46 fuel) mixed Try.func46 (c := (Try.f46.body).getD .skip) rfl (fun q hq => by
    rw [(by kernel_rfl : obl (J46 fuel) ((Try.f46.body).getD .skip) = [])] at hq
    cases hq)
noncomputable def mt46 : List Ev.SV → List Ev.Ob → Bool := fun args objs => match args, objs with
 | [.agg [.int .i64 _, .sl (.int .i64) _]], [] => true
 | _, _ => false
noncomputable def spg46 (F : YF46) : Ev.Spec := fun args objs k => match args, objs with
 | [.agg [.int .i64 x0, .sl (.int .i64) x1]], [] => bif true then F x0 x1 (fun r => match r with | r0 => k (.tup [(false, [.nilptr]), (false, [.int .i64 r0])], [])) (fun r => match r with | (r0, r1, r2, r3, r4, r5, r6) => k (.tup [(false, [.ptr 0 0]), (false, [.int .i64 r0])], [.cells 172 (.int .i64 r1 :: .own 1 :: ctb (.int .u64 r2 :: .int .u64 r3 :: .own 2 :: .bool r4 :: [])), .vec 3 (.int .i64) r5 true, .vec 5 (.int .u8) r6 true])) else none
 | _, _ => none
noncomputable def spec46 (fuel : Nat) : Ev.Spec := spg46 (F_coder_NewEncoder fuel)
theorem ok46 (fuel : Nat) : FnOK Try.prog 46 (spec46 fuel) := by
  intro args objs kk r h
  unfold spec46 spg46 at h
  split at h
  · skip
    obtain ⟨hb, h⟩ := cond_some' h
    simp only [Bool.and_eq_true, Nat.beq_eq, decide_eq_true_eq] at hb
    clear hb
    exact fok46 fuel _ _ kk r ((F46_eq fuel _ _ kk).trans h)
  · cases h
end Go.Proofs.Ytihfgpfofmjbaaa

set_option linter.unusedVariables false
set_option linter.unusedSimpArgs false
set_option maxRecDepth 100000
set_option maxHeartbeats 2000000
namespace Go.Proofs.Ytihfgpfofmjbaaa
open Go Ev
def kp161 (i : Nat) : Option (List Nat) := Ev.look i []
noncomputable def Gg161 (f : Nat) : Option Ev.Spec := Ev.look f []
noncomputable def G161 (fuel : Nat) : Nat → Option Ev.Spec := Gg161
noncomputable def J161 (fuel : Nat) (i : Nat) : Option Ev.Blk := Ev.look i []
noncomputable def F_bytes_Equal (fuel : Nat) (x0 x1 : (List Int)) (k0 : (Bool) → Option Ans) : Option Ans :=
  k0 ((Go.strOfNums x0).toList == (Go.strOfNums x1).toList)
abbrev YF161 : Type := ((List Int)) → ((List Int)) → ((Bool) → Option Ans) → Option Ans
theorem F161_eq (fuel : Nat) (x0 x1 : (List Int)) (k : Ev.Cont) : evalFn tab (G161 fuel) (J161 fuel) kp161 fuel Try.f161 [.c (.sl (.int .u8) x0), .c (.sl (.int .u8) x1)] [] k = F_bytes_Equal fuel x0 x1 (fun r => match r with | r0 => k (.c (.bool r0), [])) := by
  kernel_rfl
theorem hG161 (fuel : Nat) : GOK Try.prog (G161 fuel) :=
  gok_nil
theorem fok161 (fuel : Nat) : FnOK Try.prog 161 (evalFn tab (G161 fuel) (J161 fuel) kp161 fuel Try.f161) :=
  fn_ok tab_ok (hG161 fuel) mixed Try.func161 (c := (Try.f161.body).getD .skip) rfl (fun q hq => by
    rw [(by kernel_rfl : obl (J161 fuel) ((Try.f161.body).getD .skip) = [])] at hq
    cases hq)
noncomputable def mt161 : List Ev.SV → List Ev.Ob → Bool := fun args objs => match args, objs with
 | [.c (.sl (.int .u8) _), .c (.sl (.int .u8) _)], [] => true
 | _, _ => false
noncomputable def spg161 (F : YF161) : Ev.Spec := fun args objs k => match args, objs with
 | [.c (.sl (.int .u8) x0), .c (.sl (.int .u8) x1)], [] => bif true then F x0 x1 (fun r => match r with | r0 => k (.c (.bool r0), [])) else none
 | _, _ => none
noncomputable def spec161 (fuel : Nat) : Ev.Spec := spg161 (F_bytes_Equal fuel)
theorem ok161 (fuel : Nat) : FnOK Try.prog 161 (spec161 fuel) := by
  intro args objs kk r h
  unfold spec161 spg161 at h
  split at h
  · skip
    obtain ⟨hb, h⟩ := cond_some' h
    simp only [Bool.and_eq_true, Nat.beq_eq, decide_eq_true_eq] at hb
    clear hb
    exact fok161 fuel _ _ kk r ((F161_eq fuel _ _ kk).trans h)
  · cases h
end Go.Proofs.Ytihfgpfofmjbaaa

set_option linter.unusedVariables false
set_option linter.unusedSimpArgs false
set_option maxRecDepth 100000
set_option maxHeartbeats 2000000
namespace Go.Proofs.Ytihfgpfofmjbaaa
open Go Ev
def kp169_a20 (i : Nat) : Option (List Nat) := Ev.look i []
noncomputable def Gg169_a20 (f : Nat) : Option Ev.Spec := Ev.look f []
noncomputable def G169_a20 (fuel : Nat) : Nat → Option Ev.Spec := Gg169_a20
noncomputable def J169_a20 (fuel : Nat) (i : Nat) : Option Ev.Blk := Ev.look i []
noncomputable def F_coder_interval_lose_a20 (fuel : Nat) (x0 x1 x2 : Int) (x3 : Bool) (x4 x5 : (List Int)) (k0 : (Int × Int × Int × Int × Bool × (List Int) × (List Int)) → Option Ans) : Option Ans :=
  k0 (IntKind.u8.wrap (Ev.ishr IntKind.u64 x1 (24 : Int)), x0, Ev.iand IntKind.u64 (Ev.ishl IntKind.u64 x1 (8 : Int)) (4294967295 : Int), Ev.ior IntKind.u64 (Ev.iand IntKind.u64 (Ev.ishl IntKind.u64 x2 (8 : Int)) (4294967295 : Int)) (255 : Int), x3, x4, x5)
abbrev YF169_a20 : Type := (Int) → (Int) → (Int) → (Bool) → ((List Int)) → ((List Int)) → ((Int × Int × Int × Int × Bool × (List Int) × (List Int)) → Option Ans) → Option Ans
theorem F169_a20_eq (fuel : Nat) (x0 x1 x2 : Int) (x3 : Bool) (x4 x5 : (List Int)) (k : Ev.Cont) : evalFn tab (G169_a20 fuel) (J169_a20 fuel) kp169_a20 fuel Try.f169 [.c (.ptr 0 0)] [.cells 172 (.int .i64 x0 :: .own 1 :: ctb (.int .u64 x1 :: .int .u64 x2 :: .own 2 :: .bool x3 :: [])), .vec 3 (.int .i64) x4 false, .vec 5 (.int .u8) x5 false] k = F_coder_interval_lose_a20 fuel x0 x1 x2 x3 x4 x5 (fun r => match r with | (r0, r1, r2, r3, r4, r5, r6) => k (.c (.int .u8 r0), [.cells 172 (.int .i64 r1 :: .own 1 :: ctb (.int .u64 r2 :: .int .u64 r3 :: .own 2 :: .bool r4 :: [])), .vec 3 (.int .i64) r5 false, .vec 5 (.int .u8) r6 false])) := by
  kernel_rfl
theorem hG169_a20 (fuel : Nat) : GOK Try.prog (G169_a20 fuel) :=
  gok_nil
theorem fok169_a20 (fuel : Nat) : FnOK Try.prog 169 (evalFn tab (G169_a20 fuel) (J169_a20 fuel) kp169_a20 fuel Try.f169) :=
  fn_ok tab_ok (hG169_a20 fuel) mixed Try.func169 (c := (Try.f169.body).getD .skip) rfl (fun q hq => by
    rw [(by kernel_rfl : obl (J169_a20 fuel) ((Try.f169.body).getD .skip) = [])] at hq
    cases hq)
noncomputable def mt169_a20 : List Ev.SV → List Ev.Ob → Bool := fun args objs => match args, objs with
 | [.c (.ptr q0 q1)], [.cells q2 cs0, .vec q3 (.int .i64) _ false, .vec q4 (.int .u8) _ false] => (match splitRun 2 ctn cs0 with | some ([.int .i64 _, .own q5], [.int .u64 _, .int .u64 _, .own q6, .bool _]) => Nat.beq q0 0 && Nat.beq q1 0 && Nat.beq q2 172 && Nat.beq q3 3 && Nat.beq q4 5 && Nat.beq q5 1 && Nat.beq q6 2 | _ => false)
 | _, _ => false
noncomputable def spg169_a20 (F : YF169_a20) : Ev.Spec := fun args objs k => match args, objs with
 | [.c (.ptr q0 q1)], [.cells q2 cs0, .vec q3 (.int .i64) x4 false, .vec q4 (.int .u8) x5 false] => (match splitRun 2 ctn cs0 with | some ([.int .i64 x0, .own q5], [.int .u64 x1, .int .u64 x2, .own q6, .bool x3]) => bif Nat.beq q0 0 && Nat.beq q1 0 && Nat.beq q2 172 && Nat.beq q3 3 && Nat.beq q4 5 && Nat.beq q5 1 && Nat.beq q6 2 then F x0 x1 x2 x3 x4 x5 (fun r => match r with | (r0, r1, r2, r3, r4, r5, r6) => k (.c (.int .u8 r0), [.cells 172 (.int .i64 r1 :: .own 1 :: ctb (.int .u64 r2 :: .int .u64 r3 :: .own 2 :: .bool r4 :: [])), .vec 3 (.int .i64) r5 false, .vec 5 (.int .u8) r6 false])) else none | _ => none)
 | _, _ => none
noncomputable def spec169_a20 (fuel : Nat) : Ev.Spec := spg169_a20 (F_coder_interval_lose_a20 fuel)
theorem ok169_a20 (fuel : Nat) : FnOK Try.prog 169 (spec169_a20 fuel) := by
  intro args objs kk r h
  unfold spec169_a20 spg169_a20 at h
  split at h
  · skip
    split at h
    rotate_left 1
    · cases h
    rename_i hsp
    have esp := splitRun_eq hsp
    subst esp
    obtain ⟨hb, h⟩ := cond_some' h
    simp only [Bool.and_eq_true, Nat.beq_eq, decide_eq_true_eq] at hb
    obtain ⟨⟨⟨⟨⟨⟨rfl, rfl⟩, rfl⟩, rfl⟩, rfl⟩, rfl⟩, rfl⟩ := hb
    exact fok169_a20 fuel _ _ kk r ((F169_a20_eq fuel _ _ _ _ _ _ kk).trans h)
  · cases h
end Go.Proofs.Ytihfgpfofmjbaaa

set_option linter.unusedVariables false
set_option linter.unusedSimpArgs false
set_option maxRecDepth 100000
set_option maxHeartbeats 2000000
namespace Go.Proofs.Ytihfgpfofmjbaaa
open Go Ev
def kp166_402 (i : Nat) : Option (List Nat) := Ev.look i [(200001, [0])]
noncomputable def Gg166_402 (f200_bb9 : YF200_bb9) (f : Nat) : Option Ev.Spec := Ev.look f [(200, spg200_bb9 f200_bb9)]
noncomputable def G166_402 (fuel : Nat) : Nat → Option Ev.Spec := Gg166_402 (F_coder_table_chance_bb9 fuel)
noncomputable def J166_402 (fuel : Nat) (i : Nat) : Option Ev.Blk := Ev.look i []
noncomputable def Fg_coder_interval_mid_402 (fuel : Nat) (f200_bb9 : YF200_bb9) (x0 x1 : Int) (x2 x3 : Int) (x4 : Bool) (x5 x6 : (List Int)) (k0 : (Int × Int × Int × Int × Bool × (List Int) × (List Int)) → Option Ans) : Option Ans :=
  bif decide ((0 : Int) ≤ x0 ∧ x0 < (↑x5.length : Int)) then
  (f200_bb9 (x1) (x5.getD x0.toNat (0 : Int))
  (fun y3 =>
  k0 (IntKind.u64.wrap (IntKind.u64.wrap (x2 + IntKind.u64.wrap (IntKind.u64.wrap ((IntKind.u64.wrap (x3 - x2)).tdiv (4096 : Int)) * IntKind.u64.wrap y3)) + IntKind.u64.wrap ((IntKind.u64.wrap ((IntKind.u64.wrap (x3 - x2)).tmod (4096 : Int) * IntKind.u64.wrap y3)).tdiv (4096 : Int))), x1, x2, x3, x4, x5, x6)))
  else none
noncomputable def F_coder_interval_mid_402 (fuel : Nat) (x0 x1 : Int) (x2 x3 : Int) (x4 : Bool) (x5 x6 : (List Int)) (k0 : (Int × Int × Int × Int × Bool × (List Int) × (List Int)) → Option Ans) : Option Ans := Fg_coder_interval_mid_402 fuel (F_coder_table_chance_bb9 fuel) x0 x1 x2 x3 x4 x5 x6 k0
abbrev YF166_402 : Type := (Int) → (Int) → (Int) → (Int) → (Bool) → ((List Int)) → ((List Int)) → ((Int × Int × Int × Int × Bool × (List Int) × (List Int)) → Option Ans) → Option Ans
theorem F166_402_eqg (fuel : Nat) (f200_bb9 : YF200_bb9) (x0 x1 : Int) (x2 x3 : Int) (x4 : Bool) (x5 x6 : (List Int)) (k : Ev.Cont) : evalFn tab (Gg166_402 f200_bb9) (J166_402 fuel) kp166_402 fuel Try.f166 [.c (.ptr 0 0), .c (.int .i64 x0)] [.cells 172 (.int .i64 x1 :: .own 1 :: ctb (.int .u64 x2 :: .int .u64 x3 :: .own 2 :: .bool x4 :: [])), .vec 3 (.int .i64) x5 false, .vec 5 (.int .u8) x6 false] k = Fg_coder_interval_mid_402 fuel f200_bb9 x0 x1 x2 x3 x4 x5 x6 (fun r => match r with | (r0, r1, r2, r3, r4, r5, r6) => k (.c (.int .u64 r0), [.cells 172 (.int .i64 r1 :: .own 1 :: ctb (.int .u64 r2 :: .int .u64 r3 :: .own 2 :: .bool r4 :: [])), .vec 3 (.int .i64) r5 false, .vec 5 (.int .u8) r6 false])) := by
  kernel_rfl
theorem F166_402_eq (fuel : Nat) (x0 x1 : Int) (x2 x3 : Int) (x4 : Bool) (x5 x6 : (List Int)) (k : Ev.Cont) : evalFn tab (G166_402 fuel) (J166_402 fuel) kp166_402 fuel Try.f166 [.c (.ptr 0 0), .c (.int .i64 x0)] [.cells 172 (.int .i64 x1 :: .own 1 :: ctb (.int .u64 x2 :: .int .u64 x3 :: .own 2 :: .bool x4 :: [])), .vec 3 (.int .i64) x5 false, .vec 5 (.int .u8) x6 false] k = F_coder_interval_mid_402 fuel x0 x1 x2 x3 x4 x5 x6 (fun r => match r with | (r0, r1, r2, r3, r4, r5, r6) => k (.c (.int .u64 r0), [.cells 172 (.int .i64 r1 :: .own 1 :: ctb (.int .u64 r2 :: .int .u64 r3 :: .own 2 :: .bool r4 :: [])), .vec 3 (.int .i64) r5 false, .vec 5 (.int .u8) r6 false])) :=
  F166_402_eqg fuel (F_coder_table_chance_bb9 fuel) x0 x1 x2 x3 x4 x5 x6 k
theorem hG166_402 (fuel : Nat) : GOK Try.prog (G166_402 fuel) :=
  gok_cons ⟨ok200_bb9 fuel, enters_of Try.func200 (by kernel_rfl) rfl⟩ <|
  gok_nil
theorem fok166_402 (fuel : Nat) : FnOK Try.prog 166 (evalFn tab (G166_402 fuel) (J166_402 fuel) kp166_402 fuel Try.f166) :=
  fn_ok tab_ok (hG166_402 fuel) mixed Try.func166 (c := (Try.f166.body).getD .skip) rfl (fun q hq => by
    rw [(by kernel_rfl : obl (J166_402 fuel) ((Try.f166.body).getD .skip) = [])] at hq
    cases hq)
noncomputable def mt166_402 : List Ev.SV → List Ev.Ob → Bool := fun args objs => match args, objs with
 | [.c (.ptr q0 q1), .c (.int .i64 _)], [.cells q2 cs0, .vec q3 (.int .i64) _ false, .vec q4 (.int .u8) _ false] => (match splitRun 2 ctn cs0 with | some ([.int .i64 _, .own q5], [.int .u64 _, .int .u64 _, .own q6, .bool _]) => Nat.beq q0 0 && Nat.beq q1 0 && Nat.beq q2 172 && Nat.beq q3 3 && Nat.beq q4 5 && Nat.beq q5 1 && Nat.beq q6 2 | _ => false)
 | _, _ => false
noncomputable def spg166_402 (F : YF166_402) : Ev.Spec := fun args objs k => match args, objs with
 | [.c (.ptr q0 q1), .c (.int .i64 x0)], [.cells q2 cs0, .vec q3 (.int .i64) x5 false, .vec q4 (.int .u8) x6 false] => (match splitRun 2 ctn cs0 with | some ([.int .i64 x1, .own q5], [.int .u64 x2, .int .u64 x3, .own q6, .bool x4]) => bif Nat.beq q0 0 && Nat.beq q1 0 && Nat.beq q2 172 && Nat.beq q3 3 && Nat.beq q4 5 && Nat.beq q5 1 && Nat.beq q6 2 then F x0 x1 x2 x3 x4 x5 x6 (fun r => match r with | (r0, r1, r2, r3, r4, r5, r6) => k (.c (.int .u64 r0), [.cells 172 (.int .i64 r1 :: .own 1 :: ctb (.int .u64 r2 :: .int .u64 r3 :: .own 2 :: .bool r4 :: [])), .vec 3 (.int .i64) r5 false, .vec 5 (.int .u8) r6 false])) else none | _ => none)
 | _, _ => none
noncomputable def spec166_402 (fuel : Nat) : Ev.Spec := spg166_402 (F_coder_interval_mid_402 fuel)
theorem ok166_402 (fuel : Nat) : FnOK Try.prog 166 (spec166_402 fuel) := by
  intro args objs kk r h
  unfold spec166_402 spg166_402 at h
  split at h
  · skip
    split at h
    rotate_left 1
    · cases h
    rename_i hsp
    have esp := splitRun_eq hsp
    subst esp
    obtain ⟨hb, h⟩ := cond_some' h
    simp only [Bool.and_eq_true, Nat.beq_eq, decide_eq_true_eq] at hb
    obtain ⟨⟨⟨⟨⟨⟨rfl, rfl⟩, rfl⟩, rfl⟩, rfl⟩, rfl⟩, rfl⟩ := hb
    exact fok166_402 fuel _ _ kk r ((F166_402_eq fuel _ _ _ _ _ _ _ kk).trans h)
  · cases h
end Go.Proofs.Ytihfgpfofmjbaaa

set_option linter.unusedVariables false
set_option linter.unusedSimpArgs false
set_option maxRecDepth 100000
set_option maxHeartbeats 2000000
namespace Go.Proofs.Ytihfgpfofmjbaaa
open Go Ev
def kp168_a20 (i : Nat) : Option (List Nat) := Ev.look i [(200001, [0])]
noncomputable def Gg168_a20 (f : Nat) : Option Ev.Spec := Ev.look f []
noncomputable def G168_a20 (fuel : Nat) : Nat → Option Ev.Spec := Gg168_a20
noncomputable def J168_a20 (fuel : Nat) (i : Nat) : Option Ev.Blk := Ev.look i []
noncomputable def F_coder_interval_same_a20 (fuel : Nat) (x0 x1 x2 : Int) (x3 : Bool) (x4 x5 : (List Int)) (k0 : (Bool × Int × Int × Int × Bool × (List Int) × (List Int)) → Option Ans) : Option Ans :=
  k0 (Ev.ishr IntKind.u64 x1 (24 : Int) == Ev.ishr IntKind.u64 x2 (24 : Int), x0, x1, x2, x3, x4, x5)
abbrev YF168_a20 : Type := (Int) → (Int) → (Int) → (Bool) → ((List Int)) → ((List Int)) → ((Bool × Int × Int × Int × Bool × (List Int) × (List Int)) → Option Ans) → Option Ans
theorem F168_a20_eq (fuel : Nat) (x0 x1 x2 : Int) (x3 : Bool) (x4 x5 : (List Int)) (k : Ev.Cont) : evalFn tab (G168_a20 fuel) (J168_a20 fuel) kp168_a20 fuel Try.f168 [.c (.ptr 0 0)] [.cells 172 (.int .i64 x0 :: .own 1 :: ctb (.int .u64 x1 :: .int .u64 x2 :: .own 2 :: .bool x3 :: [])), .vec 3 (.int .i64) x4 false, .vec 5 (.int .u8) x5 false] k = F_coder_interval_same_a20 fuel x0 x1 x2 x3 x4 x5 (fun r => match r with | (r0, r1, r2, r3, r4, r5, r6) => k (.c (.bool r0), [.cells 172 (.int .i64 r1 :: .own 1 :: ctb (.int .u64 r2 :: .int .u64 r3 :: .own 2 :: .bool r4 :: [])), .vec 3 (.int .i64) r5 false, .vec 5 (.int .u8) r6 false])) := by
  kernel_rfl
theorem hG168_a20 (fuel : Nat) : GOK Try.prog (G168_a20 fuel) :=
  gok_nil
theorem fok168_a20 (fuel : Nat) : FnOK Try.prog 168 (evalFn tab (G168_a20 fuel) (J168_a20 fuel) kp168_a20 fuel Try.f168) :=
  fn_ok tab_ok (hG168_a20 fuel) mixed Try.func168 (c := (Try.f168.body).getD .skip) rfl (fun q hq => by
    rw [(by kernel_rfl : obl (J168_a20 fuel) ((Try.f168.body).getD .skip) = [])] at hq
    cases hq)
noncomputable def mt168_a20 : List Ev.SV → List Ev.Ob → Bool := fun args objs => match args, objs with
 | [.c (.ptr q0 q1)], [.cells q2 cs0, .vec q3 (.int .i64) _ false, .vec q4 (.int .u8) _ false] => (match splitRun 2 ctn cs0 with | some ([.int .i64 _, .own q5], [.int .u64 _, .int .u64 _, .own q6, .bool _]) => Nat.beq q0 0 && Nat.beq q1 0 && Nat.beq q2 172 && Nat.beq q3 3 && Nat.beq q4 5 && Nat.beq q5 1 && Nat.beq q6 2 | _ => false)
 | _, _ => false
noncomputable def spg168_a20 (F : YF168_a20) : Ev.Spec := fun args objs k => match args, objs with
 | [.c (.ptr q0 q1)], [.cells q2 cs0, .vec q3 (.int .i64) x4 false, .vec q4 (.int .u8) x5 false] => (match splitRun 2 ctn cs0 with | some ([.int .i64 x0, .own q5], [.int .u64 x1, .int .u64 x2, .own q6, .bool x3]) => bif Nat.beq q0 0 && Nat.beq q1 0 && Nat.beq q2 172 && Nat.beq q3 3 && Nat.beq q4 5 && Nat.beq q5 1 && Nat.beq q6 2 then F x0 x1 x2 x3 x4 x5 (fun r => match r with | (r0, r1, r2, r3, r4, r5, r6) => k (.c (.bool r0), [.cells 172 (.int .i64 r1 :: .own 1 :: ctb (.int .u64 r2 :: .int .u64 r3 :: .own 2 :: .bool r4 :: [])), .vec 3 (.int .i64) r5 false, .vec 5 (.int .u8) r6 false])) else none | _ => none)
 | _, _ => none
noncomputable def spec168_a20 (fuel : Nat) : Ev.Spec := spg168_a20 (F_coder_interval_same_a20 fuel)
theorem ok168_a20 (fuel : Nat) : FnOK Try.prog 168 (spec168_a20 fuel) := by
  intro args objs kk r h
  unfold spec168_a20 spg168_a20 at h
  split at h
  · skip
    split at h
    rotate_left 1
    · cases h
    rename_i hsp
    have esp := splitRun_eq hsp
    subst esp
    obtain ⟨hb, h⟩ := cond_some' h
    simp only [Bool.and_eq_true, Nat.beq_eq, decide_eq_true_eq] at hb
    obtain ⟨⟨⟨⟨⟨⟨rfl, rfl⟩, rfl⟩, rfl⟩, rfl⟩, rfl⟩, rfl⟩ := hb
    exact fok168_a20 fuel _ _ kk r ((F168_a20_eq fuel _ _ _ _ _ _ kk).trans h)
  · cases h
end Go.Proofs.Ytihfgpfofmjbaaa

set_option linter.unusedVariables false
set_option linter.unusedSimpArgs false
set_option maxRecDepth 100000
set_option maxHeartbeats 2000000
namespace Go.Proofs.Ytihfgpfofmjbaaa
open Go Ev
def kp167_546 (i : Nat) : Option (List Nat) := Ev.look i [(200003, [0])]
noncomputable def Gg167_546 (f201 : YF201) (f : Nat) : Option Ev.Spec := Ev.look f [(201, spg201 f201)]
noncomputable def G167_546 (fuel : Nat) : Nat → Option Ev.Spec := Gg167_546 (F_coder_next fuel)
noncomputable def J167_546 (fuel : Nat) (i : Nat) : Option Ev.Blk := Ev.look i []
noncomputable def Fg_coder_interval_take_546 (fuel : Nat) (f201 : YF201) (x0 x1 : Int) (x2 x3 : Int) (x4 x5 : Int) (x6 : Bool) (x7 x8 : (List Int)) (k0 : (Int × Int × Int × Bool × (List Int) × (List Int)) → Option Ans) : Option Ans :=
  bif x1 == (1 : Int) then
  bif decide ((0 : Int) ≤ x0 ∧ x0 < (↑x7.length : Int)) then
  (f201 (x3) (x7.getD x0.toNat (0 : Int)) (x1)
  (fun y4 =>
  bif decide ((0 : Int) ≤ x0 ∧ x0 < (↑x7.length : Int)) then
  k0 (x3, x4, x2, x6, x7.set x0.toNat y4, x8)
  else none))
  else none
  else
  bif decide ((0 : Int) ≤ x0 ∧ x0 < (↑x7.length : Int)) then
  (f201 (x3) (x7.getD x0.toNat (0 : Int)) (x1)
  (fun y4 =>
  bif decide ((0 : Int) ≤ x0 ∧ x0 < (↑x7.length : Int)) then
  k0 (x3, IntKind.u64.wrap (x2 + (1 : Int)), x5, x6, x7.set x0.toNat y4, x8)
  else none))
  else none
noncomputable def F_coder_interval_take_546 (fuel : Nat) (x0 x1 : Int) (x2 x3 : Int) (x4 x5 : Int) (x6 : Bool) (x7 x8 : (List Int)) (k0 : (Int × Int × Int × Bool × (List Int) × (List Int)) → Option Ans) : Option Ans := Fg_coder_interval_take_546 fuel (F_coder_next fuel) x0 x1 x2 x3 x4 x5 x6 x7 x8 k0
abbrev YF167_546 : Type := (Int) → (Int) → (Int) → (Int) → (Int) → (Int) → (Bool) → ((List Int)) → ((List Int)) → ((Int × Int × Int × Bool × (List Int) × (List Int)) → Option Ans) → Option Ans
theorem F167_546_eqg (fuel : Nat) (f201 : YF201) (x0 x1 : Int) (x2 x3 : Int) (x4 x5 : Int) (x6 : Bool) (x7 x8 : (List Int)) (k : Ev.Cont) : evalFn tab (Gg167_546 f201) (J167_546 fuel) kp167_546 fuel Try.f167 [.c (.ptr 0 0), .c (.int .i64 x0), .c (.int .i64 x1), .c (.int .u64 x2)] [.cells 172 (.int .i64 x3 :: .own 1 :: ctb (.int .u64 x4 :: .int .u64 x5 :: .own 2 :: .bool x6 :: [])), .vec 3 (.int .i64) x7 false, .vec 5 (.int .u8) x8 false] k = Fg_coder_interval_take_546 fuel f201 x0 x1 x2 x3 x4 x5 x6 x7 x8 (fun r => match r with | (r0, r1, r2, r3, r4, r5) => k (.tup [], [.cells 172 (.int .i64 r0 :: .own 1 :: ctb (.int .u64 r1 :: .int .u64 r2 :: .own 2 :: .bool r3 :: [])), .vec 3 (.int .i64) r4 false, .vec 5 (.int .u8) r5 false])) := by
  kernel_rfl
theorem F167_546_eq (fuel : Nat) (x0 x1 : Int) (x2 x3 : Int) (x4 x5 : Int) (x6 : Bool) (x7 x8 : (List Int)) (k : Ev.Cont) : evalFn tab (G167_546 fuel) (J167_546 fuel) kp167_546 fuel Try.f167 [.c (.ptr 0 0), .c (.int .i64 x0), .c (.int .i64 x1), .c (.int .u64 x2)] [.cells 172 (.int .i64 x3 :: .own 1 :: ctb (.int .u64 x4 :: .int .u64 x5 :: .own 2 :: .bool x6 :: [])), .vec 3 (.int .i64) x7 false, .vec 5 (.int .u8) x8 false] k = F_coder_interval_take_546 fuel x0 x1 x2 x3 x4 x5 x6 x7 x8 (fun r => match r with | (r0, r1, r2, r3, r4, r5) => k (.tup [], [.cells 172 (.int .i64 r0 :: .own 1 :: ctb (.int .u64 r1 :: .int .u64 r2 :: .own 2 :: .bool r3 :: [])), .vec 3 (.int .i64) r4 false, .vec 5 (.int .u8) r5 false])) :=
  F167_546_eqg fuel (F_coder_next fuel) x0 x1 x2 x3 x4 x5 x6 x7 x8 k
theorem hG167_546 (fuel : Nat) : GOK Try.prog (G167_546 fuel) :=
  gok_cons ⟨ok201 fuel, enters_of Try.func201 (by kernel_rfl) rfl⟩ <|
  gok_nil
theorem fok167_546 (fuel : Nat) : FnOK Try.prog 167 (evalFn tab (G167_546 fuel) (J167_546 fuel) kp167_546 fuel Try.f167) :=
  fn_ok tab_ok (hG167_546 fuel) mixed Try.func167 (c := (Try.f167.body).getD .skip) rfl (fun q hq => by
    rw [(by kernel_rfl : obl (J167_546 fuel) ((Try.f167.body).getD .skip) = [])] at hq
    cases hq)
noncomputable def mt167_546 : List Ev.SV → List Ev.Ob → Bool := fun args objs => match args, objs with
 | [.c (.ptr q0 q1), .c (.int .i64 _), .c (.int .i64 _), .c (.int .u64 _)], [.cells q2 cs0, .vec q3 (.int .i64) _ false, .vec q4 (.int .u8) _ false] => (match splitRun 2 ctn cs0 with | some ([.int .i64 _, .own q5], [.int .u64 _, .int .u64 _, .own q6, .bool _]) => Nat.beq q0 0 && Nat.beq q1 0 && Nat.beq q2 172 && Nat.beq q3 3 && Nat.beq q4 5 && Nat.beq q5 1 && Nat.beq q6 2 | _ => false)
 | _, _ => false
noncomputable def spg167_546 (F : YF167_546) : Ev.Spec := fun args objs k => match args, objs with
 | [.c (.ptr q0 q1), .c (.int .i64 x0), .c (.int .i64 x1), .c (.int .u64 x2)], [.cells q2 cs0, .vec q3 (.int .i64) x7 false, .vec q4 (.int .u8) x8 false] => (match splitRun 2 ctn cs0 with | some ([.int .i64 x3, .own q5], [.int .u64 x4, .int .u64 x5, .own q6, .bool x6]) => bif Nat.beq q0 0 && Nat.beq q1 0 && Nat.beq q2 172 && Nat.beq q3 3 && Nat.beq q4 5 && Nat.beq q5 1 && Nat.beq q6 2 then F x0 x1 x2 x3 x4 x5 x6 x7 x8 (fun r => match r with | (r0, r1, r2, r3, r4, r5) => k (.tup [], [.cells 172 (.int .i64 r0 :: .own 1 :: ctb (.int .u64 r1 :: .int .u64 r2 :: .own 2 :: .bool r3 :: [])), .vec 3 (.int .i64) r4 false, .vec 5 (.int .u8) r5 false])) else none | _ => none)
 | _, _ => none
noncomputable def spec167_546 (fuel : Nat) : Ev.Spec := spg167_546 (F_coder_interval_take_546 fuel)
theorem ok167_546 (fuel : Nat) : FnOK Try.prog 167 (spec167_546 fuel) := by
  intro args objs kk r h
  unfold spec167_546 spg167_546 at h
  split at h
  · skip
    split at h
    rotate_left 1
    · cases h
    rename_i hsp
    have esp := splitRun_eq hsp
    subst esp
    obtain ⟨hb, h⟩ := cond_some' h
    simp only [Bool.and_eq_true, Nat.beq_eq, decide_eq_true_eq] at hb
    obtain ⟨⟨⟨⟨⟨⟨rfl, rfl⟩, rfl⟩, rfl⟩, rfl⟩, rfl⟩, rfl⟩ := hb
    exact fok167_546 fuel _ _ kk r ((F167_546_eq fuel _ _ _ _ _ _ _ _ _ kk).trans h)
  · cases h
end Go.Proofs.Ytihfgpfofmjbaaa

set_option linter.unusedVariables false
set_option linter.unusedSimpArgs false
set_option maxRecDepth 100000
set_option maxHeartbeats 2000000
namespace Go.Proofs.Ytihfgpfofmjbaaa
open Go Ev
def kp99_cf0 (i : Nat) : Option (List Nat) := Ev.look i [(6, [0, 1000002]), (100001, []), (400001, [6]), (600000, [])]
noncomputable def Gg99_cf0 (f164_a20 : YF164_a20) (f166_402 : YF166_402) (f167_546 : YF167_546) (f168_a20 : YF168_a20) (f169_a20 : YF169_a20) (f : Nat) : Option Ev.Spec := Ev.look f [(164, spg164_a20 f164_a20), (166, spg166_402 f166_402), (167, spg167_546 f167_546), (168, spg168_a20 f168_a20), (169, spg169_a20 f169_a20)]
noncomputable def G99_cf0 (fuel : Nat) : Nat → Option Ev.Spec := Gg99_cf0 (F_coder_Encoder_none_a20 fuel) (F_coder_interval_mid_402 fuel) (F_coder_interval_take_546 fuel) (F_coder_interval_same_a20 fuel) (F_coder_interval_lose_a20 fuel)
noncomputable def Sg_coder_Encoder_Put_cf0_1 (fuel : Nat) (f164_a20 : YF164_a20) (f166_402 : YF166_402) (f167_546 : YF167_546) (f168_a20 : YF168_a20) (f169_a20 : YF169_a20) (x0 x1 x2 : Int) (x3 : Bool) (x4 x5 : (List Int)) (c : (Int × Int × Int × Bool × (List Int) × (List Int)) → Option Ans) (B : (Int × Int × Int × Bool × (List Int) × (List Int) → Option Ans)) : Option Ans := match B with
 | b =>
  (f168_a20 (x0) (x1) (x2) (x3) (x4) (x5)
  (fun (y2_0, y2_1, y2_2, y2_3, y2_4, y2_5, y2_6) =>
  bif y2_0 then
  both ((f169_a20 (y2_1) (y2_2) (y2_3) (y2_4) (y2_5) (y2_6)
  (fun (y9_0, y9_1, y9_2, y9_3, y9_4, y9_5, y9_6) =>
  bif decide ((y9_6.length + [y9_0].length) * (1 : Nat) ≤ (140737488355328 : Nat) ∧ y9_6.length + [y9_0].length ≤ (140737488355328 : Nat)) then
  c (y9_1, y9_2, y9_3, y9_4, y9_5, y9_6 ++ [y9_0])
  else none)))
  ((f169_a20 (y2_1) (y2_2) (y2_3) (y2_4) (y2_5) (y2_6)
  (fun (y9_0, y9_1, y9_2, y9_3, y9_4, y9_5, y9_6) =>
  both (bif decide ((y9_6.length + [y9_0].length) * (1 : Nat) ≤ (140737488355328 : Nat) ∧ y9_6.length + [y9_0].length ≤ (140737488355328 : Nat)) then
  c (y9_1, y9_2, y9_3, y9_4, y9_5, y9_6 ++ [y9_0])
  else none)
  (bif decide ((y9_6.length + [y9_0].length) * (1 : Nat) ≤ (140737488355328 : Nat) ∧ y9_6.length + [y9_0].length ≤ (140737488355328 : Nat)) then
  c (y9_1, y9_2, y9_3, y9_4, y9_5, y9_6 ++ [y9_0])
  else none))))
  else
  b (y2_1, y2_2, y2_3, y2_4, y2_5, y2_6)))
noncomputable def S_coder_Encoder_Put_cf0_1 (fuel : Nat) (v : Int × Int × Int × Bool × (List Int) × (List Int)) (c : (Int × Int × Int × Bool × (List Int) × (List Int)) → Option Ans) (B : (Int × Int × Int × Bool × (List Int) × (List Int) → Option Ans)) : Option Ans := match v with
 | (x0, x1, x2, x3, x4, x5) => Sg_coder_Encoder_Put_cf0_1 fuel (F_coder_Encoder_none_a20 fuel) (F_coder_interval_mid_402 fuel) (F_coder_interval_take_546 fuel) (F_coder_interval_same_a20 fuel) (F_coder_interval_lose_a20 fuel) x0 x1 x2 x3 x4 x5 c B
noncomputable def L_coder_Encoder_Put_cf0_1 (fuel : Nat) (v : Int × Int × Int × Bool × (List Int) × (List Int)) (b : (Int × Int × Int × Bool × (List Int) × (List Int) → Option Ans)) : Option Ans := iter (S_coder_Encoder_Put_cf0_1 fuel) fuel v b
noncomputable def J99_cf0_1 (fuel : Nat) (i : Nat) : Option Ev.Blk := Ev.look i []
noncomputable def T99_cf0_1 (v : Int × Int × Int × Bool × (List Int) × (List Int)) : Ev.St := match v with | (x0, x1, x2, x3, x4, x5) => ⟨[(0, .c (.ptr 0 0))], [(0, .cells 172 (.int .i64 x0 :: .own 1 :: ctb (.int .u64 x1 :: .int .u64 x2 :: .own 2 :: .bool x3 :: []))), (1, .vec 3 (.int .i64) x4 false), (2, .vec 5 (.int .u8) x5 true)], 3, 3⟩
noncomputable def E99_cf0_1 (K : Ev.Ex → Ev.St → Option Ans) : (Int × Int × Int × Bool × (List Int) × (List Int) → Option Ans) := (fun v => match v with | (x0, x1, x2, x3, x4, x5) => K .normal ⟨[], [(0, .cells 172 (.int .i64 x0 :: .own 1 :: ctb (.int .u64 x1 :: .int .u64 x2 :: .own 2 :: .bool x3 :: []))), (1, .vec 3 (.int .i64) x4 false), (2, .vec 5 (.int .u8) x5 true)], 3, 3⟩)
theorem S99_cf0_1_okg (fuel : Nat) (f164_a20 : YF164_a20) (f166_402 : YF166_402) (f167_546 : YF167_546) (f168_a20 : YF168_a20) (f169_a20 : YF169_a20) (R : Ev.St → Option Ans) (K : Ev.Ex → Ev.St → Option Ans) (x0 x1 x2 : Int) (x3 : Bool) (x4 x5 : (List Int)) : evalCode tab (Gg99_cf0 f164_a20 f166_402 f167_546 f168_a20 f169_a20) (J99_cf0_1 fuel) kp99_cf0 fuel (bodyOf 1 Try.f99) (T99_cf0_1 (x0, x1, x2, x3, x4, x5)) (lc kp99_cf0 6 1 R K) = Sg_coder_Encoder_Put_cf0_1 fuel f164_a20 f166_402 f167_546 f168_a20 f169_a20 x0 x1 x2 x3 x4 x5 (fun v => R (T99_cf0_1 v)) (E99_cf0_1 K) := by
  kernel_rfl
theorem S99_cf0_1_ok (fuel : Nat) (R : Ev.St → Option Ans) (K : Ev.Ex → Ev.St → Option Ans) (x0 x1 x2 : Int) (x3 : Bool) (x4 x5 : (List Int)) : evalCode tab (G99_cf0 fuel) (J99_cf0_1 fuel) kp99_cf0 fuel (bodyOf 1 Try.f99) (T99_cf0_1 (x0, x1, x2, x3, x4, x5)) (lc kp99_cf0 6 1 R K) = S_coder_Encoder_Put_cf0_1 fuel (x0, x1, x2, x3, x4, x5) (fun v => R (T99_cf0_1 v)) (E99_cf0_1 K) :=
  S99_cf0_1_okg fuel (F_coder_Encoder_none_a20 fuel) (F_coder_interval_mid_402 fuel) (F_coder_interval_take_546 fuel) (F_coder_interval_same_a20 fuel) (F_coder_interval_lose_a20 fuel) R K x0 x1 x2 x3 x4 x5
noncomputable def B99_cf0_1 (fuel : Nat) : Ev.Blk := fun st K => match canonO (kp99_cf0 6) st with
 | some s => (match s with
 | ⟨[(q0, .c (.ptr q1 q2))], [(q3, .cells q4 cs0), (q5, .vec q6 (.int .i64) x4 false), (q7, .vec q8 (.int .u8) x5 true)], q9, q10⟩ => (match splitRun 2 ctn cs0 with | some ([.int .i64 x0, .own q11], [.int .u64 x1, .int .u64 x2, .own q12, .bool x3]) => bif Nat.beq q0 0 && Nat.beq q1 0 && Nat.beq q2 0 && Nat.beq q3 0 && Nat.beq q4 172 && Nat.beq q5 1 && Nat.beq q6 3 && Nat.beq q7 2 && Nat.beq q8 5 && Nat.beq q9 3 && Nat.beq q10 3 && Nat.beq q11 1 && Nat.beq q12 2 then iter (S_coder_Encoder_Put_cf0_1 fuel) fuel (x0, x1, x2, x3, x4, x5) (E99_cf0_1 K) else none | _ => none)
 | _ => none)
 | none => none
theorem B99_cf0_1_ok (fuel : Nat) (st : Ev.St) (K : Ev.Ex → Ev.St → Option Ans) (r : Ans) (h : B99_cf0_1 fuel st K = some r) : evalCode tab (G99_cf0 fuel) (J99_cf0_1 fuel) kp99_cf0 fuel (.block 1 (.loop (bodyOf 1 Try.f99))) st K = some r := by
  unfold B99_cf0_1 at h
  split at h
  · rename_i s hs
    split at h
    · skip
      split at h
      rotate_left 1
      · cases h
      rename_i hsp
      have esp := splitRun_eq hsp
      subst esp
      obtain ⟨hb, h⟩ := cond_some' h
      simp only [Bool.and_eq_true, Nat.beq_eq, decide_eq_true_eq] at hb
      obtain ⟨⟨⟨⟨⟨⟨⟨⟨⟨⟨⟨⟨rfl, rfl⟩, rfl⟩, rfl⟩, rfl⟩, rfl⟩, rfl⟩, rfl⟩, rfl⟩, rfl⟩, rfl⟩, rfl⟩, rfl⟩ := hb
      exact blk_loop (S := T99_cf0_1) (ks := E99_cf0_1) (step := S_coder_Encoder_Put_cf0_1 fuel) (v := (_, _, _, _, _, _)) (by kernel_rfl) (by kernel_rfl) (fun R K v => by obtain ⟨x0, x1, x2, x3, x4, x5⟩ := v; exact S99_cf0_1_ok fuel R K x0 x1 x2 x3 x4 x5) hs h
    · cases h
  · cases h
noncomputable def J99_cf0 (fuel : Nat) (i : Nat) : Option Ev.Blk := Ev.look i [(100001, B99_cf0_1 fuel)]
noncomputable def Fg_coder_Encoder_Put_cf0 (fuel : Nat) (f164_a20 : YF164_a20) (f166_402 : YF166_402) (f167_546 : YF167_546) (f168_a20 : YF168_a20) (f169_a20 : YF169_a20) (x0 x1 : Int) (x2 x3 x4 : Int) (x5 : Bool) (x6 x7 : (List Int)) (k0 : (Int × Int × Int × Int × Bool × (List Int) × (List Int)) → Option Ans) (k1 : (Int × Int × Int × Int × Bool × (List Int) × (List Int)) → Option Ans) : Option Ans :=
  (f164_a20 (x2) (x3) (x4) (x5) (x6) (x7)
  (fun (y2_0, y2_1, y2_2, y2_3, y2_4, y2_5, y2_6) =>
  bif y2_0 then
  k0 ((7 : Int), y2_1, y2_2, y2_3, y2_4, y2_5, y2_6)
  else
  bif decide (x0 < (0 : Int)) then
  k0 ((2 : Int), y2_1, y2_2, y2_3, y2_4, y2_5, y2_6)
  else
  bif decide (x0 ≥ (↑y2_5.length : Int)) then
  k0 ((2 : Int), y2_1, y2_2, y2_3, y2_4, y2_5, y2_6)
  else
  bif x1 != (0 : Int) then
  bif x1 != (1 : Int) then
  k0 ((2 : Int), y2_1, y2_2, y2_3, y2_4, y2_5, y2_6)
  else
  (f166_402 (x0) (y2_1) (y2_2) (y2_3) (y2_4) (y2_5) (y2_6)
  (fun (y11_0, y11_1, y11_2, y11_3, y11_4, y11_5, y11_6) =>
  (f167_546 (x0) (x1) (y11_0) (y11_1) (y11_2) (y11_3) (y11_4) (y11_5) (y11_6)
  (fun (y15_0, y15_1, y15_2, y15_3, y15_4, y15_5) =>
  (L_coder_Encoder_Put_cf0_1 fuel (y15_0, y15_1, y15_2, y15_3, y15_4, y15_5)
  (fun (b1_0, b1_1, b1_2, b1_3, b1_4, b1_5) =>
  k1 ((0 : Int), b1_0, b1_1, b1_2, b1_3, b1_4, b1_5)))))))
  else
  (f166_402 (x0) (y2_1) (y2_2) (y2_3) (y2_4) (y2_5) (y2_6)
  (fun (y10_0, y10_1, y10_2, y10_3, y10_4, y10_5, y10_6) =>
  (f167_546 (x0) (x1) (y10_0) (y10_1) (y10_2) (y10_3) (y10_4) (y10_5) (y10_6)
  (fun (y14_0, y14_1, y14_2, y14_3, y14_4, y14_5) =>
  (L_coder_Encoder_Put_cf0_1 fuel (y14_0, y14_1, y14_2, y14_3, y14_4, y14_5)
  (fun (b1_0, b1_1, b1_2, b1_3, b1_4, b1_5) =>
  k1 ((0 : Int), b1_0, b1_1, b1_2, b1_3, b1_4, b1_5)))))))))
noncomputable def F_coder_Encoder_Put_cf0 (fuel : Nat) (x0 x1 : Int) (x2 x3 x4 : Int) (x5 : Bool) (x6 x7 : (List Int)) (k0 : (Int × Int × Int × Int × Bool × (List Int) × (List Int)) → Option Ans) (k1 : (Int × Int × Int × Int × Bool × (List Int) × (List Int)) → Option Ans) : Option Ans := Fg_coder_Encoder_Put_cf0 fuel (F_coder_Encoder_none_a20 fuel) (F_coder_interval_mid_402 fuel) (F_coder_interval_take_546 fuel) (F_coder_interval_same_a20 fuel) (F_coder_interval_lose_a20 fuel) x0 x1 x2 x3 x4 x5 x6 x7 k0 k1
abbrev YF99_cf0 : Type := (Int) → (Int) → (Int) → (Int) → (Int) → (Bool) → ((List Int)) → ((List Int)) → ((Int × Int × Int × Int × Bool × (List Int) × (List Int)) → Option Ans) → ((Int × Int × Int × Int × Bool × (List Int) × (List Int)) → Option Ans) → Option Ans
theorem F99_cf0_eqg (fuel : Nat) (f164_a20 : YF164_a20) (f166_402 : YF166_402) (f167_546 : YF167_546) (f168_a20 : YF168_a20) (f169_a20 : YF169_a20) (x0 x1 : Int) (x2 x3 x4 : Int) (x5 : Bool) (x6 x7 : (List Int)) (k : Ev.Cont) : evalFn tab (Gg99_cf0 f164_a20 f166_402 f167_546 f168_a20 f169_a20) (J99_cf0 fuel) kp99_cf0 fuel Try.f99 [.c (.ptr 0 0), .c (.int .i64 x0), .c (.int .i64 x1)] [.cells 172 (.int .i64 x2 :: .own 1 :: ctb (.int .u64 x3 :: .int .u64 x4 :: .own 2 :: .bool x5 :: [])), .vec 3 (.int .i64) x6 false, .vec 5 (.int .u8) x7 false] k = Fg_coder_Encoder_Put_cf0 fuel f164_a20 f166_402 f167_546 f168_a20 f169_a20 x0 x1 x2 x3 x4 x5 x6 x7 (fun r => match r with | (r0, r1, r2, r3, r4, r5, r6) => k (.c (.int .i64 r0), [.cells 172 (.int .i64 r1 :: .own 1 :: ctb (.int .u64 r2 :: .int .u64 r3 :: .own 2 :: .bool r4 :: [])), .vec 3 (.int .i64) r5 false, .vec 5 (.int .u8) r6 false])) (fun r => match r with | (r0, r1, r2, r3, r4, r5, r6) => k (.c (.int .i64 r0), [.cells 172 (.int .i64 r1 :: .own 1 :: ctb (.int .u64 r2 :: .int .u64 r3 :: .own 2 :: .bool r4 :: [])), .vec 3 (.int .i64) r5 false, .vec 5 (.int .u8) r6 true])) := by
  kernel_rfl
theorem F99_cf0_eq (fuel : Nat) (x0 x1 : Int) (x2 x3 x4 : Int) (x5 : Bool) (x6 x7 : (List Int)) (k : Ev.Cont) : evalFn tab (G99_cf0 fuel) (J99_cf0 fuel) kp99_cf0 fuel Try.f99 [.c (.ptr 0 0), .c (.int .i64 x0), .c (.int .i64 x1)] [.cells 172 (.int .i64 x2 :: .own 1 :: ctb (.int .u64 x3 :: .int .u64 x4 :: .own 2 :: .bool x5 :: [])), .vec 3 (.int .i64) x6 false, .vec 5 (.int .u8) x7 false] k = F_coder_Encoder_Put_cf0 fuel x0 x1 x2 x3 x4 x5 x6 x7 (fun r => match r with | (r0, r1, r2, r3, r4, r5, r6) => k (.c (.int .i64 r0), [.cells 172 (.int .i64 r1 :: .own 1 :: ctb (.int .u64 r2 :: .int .u64 r3 :: .own 2 :: .bool r4 :: [])), .vec 3 (.int .i64) r5 false, .vec 5 (.int .u8) r6 false])) (fun r => match r with | (r0, r1, r2, r3, r4, r5, r6) => k (.c (.int .i64 r0), [.cells 172 (.int .i64 r1 :: .own 1 :: ctb (.int .u64 r2 :: .int .u64 r3 :: .own 2 :: .bool r4 :: [])), .vec 3 (.int .i64) r5 false, .vec 5 (.int .u8) r6 true])) :=
  F99_cf0_eqg fuel (F_coder_Encoder_none_a20 fuel) (F_coder_interval_mid_402 fuel) (F_coder_interval_take_546 fuel) (F_coder_interval_same_a20 fuel) (F_coder_interval_lose_a20 fuel) x0 x1 x2 x3 x4 x5 x6 x7 k
theorem hG99_cf0 (fuel : Nat) : GOK Try.prog (G99_cf0 fuel) :=
  gok_cons ⟨ok164_a20 fuel, enters_of Try.func164 (by kernel_rfl) rfl⟩ <|
  gok_cons ⟨ok166_402 fuel, enters_of Try.func166 (by kernel_rfl) rfl⟩ <|
  gok_cons ⟨ok167_546 fuel, enters_of Try.func167 (by kernel_rfl) rfl⟩ <|
  gok_cons ⟨ok168_a20 fuel, enters_of Try.func168 (by kernel_rfl) rfl⟩ <|
  gok_cons ⟨ok169_a20 fuel, enters_of Try.func169 (by kernel_rfl) rfl⟩ <|
  gok_nil
theorem B99_cf0_1_blk (fuel : Nat) : BlkOK Try.prog Try.f99.ntmps (.block 1 (.loop (bodyOf 1 Try.f99))) (B99_cf0_1 fuel) :=
  blk_of (blk_of_code tab_ok (hG99_cf0 fuel) mixed (J := J99_cf0_1 fuel) (kp := kp99_cf0) (fuel := fuel) (by kernel_rfl) (fun q hq => by
    rw [(by kernel_rfl : obl (J99_cf0_1 fuel) (.block 1 (.loop (bodyOf 1 Try.f99))) = [])] at hq
    cases hq)) (B99_cf0_1_ok fuel)
theorem fok99_cf0 (fuel : Nat) : FnOK Try.prog 99 (evalFn tab (G99_cf0 fuel) (J99_cf0 fuel) kp99_cf0 fuel Try.f99) :=
  fn_ok tab_ok (hG99_cf0 fuel) mixed Try.func99 (c := (Try.f99.body).getD .skip) rfl (fun q hq => by
    rw [(by kernel_rfl : obl (J99_cf0 fuel) ((Try.f99.body).getD .skip) = [(.block 1 (.loop (bodyOf 1 Try.f99)), B99_cf0_1 fuel)])] at hq
    simp only [List.mem_cons, List.not_mem_nil, or_false] at hq
    subst hq
    · exact B99_cf0_1_blk fuel)
noncomputable def mt99_cf0 : List Ev.SV → List Ev.Ob → Bool := fun args objs => match args, objs with
 | [.c (.ptr q0 q1), .c (.int .i64 _), .c (.int .i64 _)], [.cells q2 cs0, .vec q3 (.int .i64) _ false, .vec q4 (.int .u8) _ false] => (match splitRun 2 ctn cs0 with | some ([.int .i64 _, .own q5], [.int .u64 _, .int .u64 _, .own q6, .bool _]) => Nat.beq q0 0 && Nat.beq q1 0 && Nat.beq q2 172 && Nat.beq q3 3 && Nat.beq q4 5 && Nat.beq q5 1 && Nat.beq q6 2 | _ => false)
 | _, _ => false
noncomputable def spg99_cf0 (F : YF99_cf0) : Ev.Spec := fun args objs k => match args, objs with
 | [.c (.ptr q0 q1), .c (.int .i64 x0), .c (.int .i64 x1)], [.cells q2 cs0, .vec q3 (.int .i64) x6 false, .vec q4 (.int .u8) x7 false] => (match splitRun 2 ctn cs0 with | some ([.int .i64 x2, .own q5], [.int .u64 x3, .int .u64 x4, .own q6, .bool x5]) => bif Nat.beq q0 0 && Nat.beq q1 0 && Nat.beq q2 172 && Nat.beq q3 3 && Nat.beq q4 5 && Nat.beq q5 1 && Nat.beq q6 2 then F x0 x1 x2 x3 x4 x5 x6 x7 (fun r => match r with | (r0, r1, r2, r3, r4, r5, r6) => k (.c (.int .i64 r0), [.cells 172 (.int .i64 r1 :: .own 1 :: ctb (.int .u64 r2 :: .int .u64 r3 :: .own 2 :: .bool r4 :: [])), .vec 3 (.int .i64) r5 false, .vec 5 (.int .u8) r6 false])) (fun r => match r with | (r0, r1, r2, r3, r4, r5, r6) => k (.c (.int .i64 r0), [.cells 172 (.int .i64 r1 :: .own 1 :: ctb (.int .u64 r2 :: .int .u64 r3 :: .own 2 :: .bool r4 :: [])), .vec 3 (.int .i64) r5 false, .vec 5 (.int .u8) r6 true])) else none | _ => none)
 | _, _ => none
noncomputable def spec99_cf0 (fuel : Nat) : Ev.Spec := spg99_cf0 (F_coder_Encoder_Put_cf0 fuel)
theorem ok99_cf0 (fuel : Nat) : FnOK Try.prog 99 (spec99_cf0 fuel) := by
  intro args objs kk r h
  unfold spec99_cf0 spg99_cf0 at h
  split at h
  · skip
    split at h
    rotate_left 1
    · cases h
    rename_i hsp
    have esp := splitRun_eq hsp
    subst esp
    obtain ⟨hb, h⟩ := cond_some' h
    simp only [Bool.and_eq_true, Nat.beq_eq, decide_eq_true_eq] at hb
    obtain ⟨⟨⟨⟨⟨⟨rfl, rfl⟩, rfl⟩, rfl⟩, rfl⟩, rfl⟩, rfl⟩ := hb
    exact fok99_cf0 fuel _ _ kk r ((F99_cf0_eq fuel _ _ _ _ _ _ _ _ kk).trans h)
  · cases h
end Go.Proofs.Ytihfgpfofmjbaaa

set_option linter.unusedVariables false
set_option linter.unusedSimpArgs false
set_option maxRecDepth 100000
set_option maxHeartbeats 2000000
namespace Go.Proofs.Ytihfgpfofmjbaaa
open Go Ev
def kp199_a34 (i : Nat) : Option (List Nat) := Ev.look i [(200003, [0])]
noncomputable def Gg199_a34 (f : Nat) : Option Ev.Spec := Ev.look f []
noncomputable def G199_a34 (fuel : Nat) : Nat → Option Ev.Spec := Gg199_a34
noncomputable def J199_a34 (fuel : Nat) (i : Nat) : Option Ev.Blk := Ev.look i []
noncomputable def F_generic_plane_at_a34 (fuel : Nat) (x0 x1 : Int) (x2 x3 : Int) (x4 : (List Int)) (x5 : (List (Int × Int))) (k0 : (Int × Int × Int × (List Int) × (List (Int × Int))) → Option Ans) : Option Ans :=
  bif decide (x0 < (0 : Int)) then
  k0 ((0 : Int), x2, x3, x4, x5)
  else
  bif decide (x1 < (0 : Int)) then
  k0 ((0 : Int), x2, x3, x4, x5)
  else
  bif decide (x0 ≥ x2) then
  k0 ((0 : Int), x2, x3, x4, x5)
  else
  bif decide (x1 ≥ x3) then
  k0 ((0 : Int), x2, x3, x4, x5)
  else
  bif decide ((0 : Int) ≤ IntKind.i64.wrap (IntKind.i64.wrap (x1 * x2) + x0) ∧ IntKind.i64.wrap (IntKind.i64.wrap (x1 * x2) + x0) < (↑x4.length : Int)) then
  k0 (x4.getD (IntKind.i64.wrap (IntKind.i64.wrap (x1 * x2) + x0)).toNat (0 : Int), x2, x3, x4, x5)
  else none
abbrev YF199_a34 : Type := (Int) → (Int) → (Int) → (Int) → ((List Int)) → ((List (Int × Int))) → ((Int × Int × Int × (List Int) × (List (Int × Int))) → Option Ans) → Option Ans
theorem F199_a34_eq (fuel : Nat) (x0 x1 : Int) (x2 x3 : Int) (x4 : (List Int)) (x5 : (List (Int × Int))) (k : Ev.Cont) : evalFn tab (G199_a34 fuel) (J199_a34 fuel) kp199_a34 fuel Try.f199 [.c (.ptr 0 0), .c (.int .i64 x0), .c (.int .i64 x1)] [.cells 137 [.int .i64 x2, .int .i64 x3, .sl (.int .u8) x4, .own 1], .vec 44 (.pair (.int .i64) (.int .i64)) x5 false] k = F_generic_plane_at_a34 fuel x0 x1 x2 x3 x4 x5 (fun r => match r with | (r0, r1, r2, r3, r4) => k (.c (.int .u8 r0), [.cells 137 [.int .i64 r1, .int .i64 r2, .sl (.int .u8) r3, .own 1], .vec 44 (.pair (.int .i64) (.int .i64)) r4 false])) := by
  kernel_rfl
theorem hG199_a34 (fuel : Nat) : GOK Try.prog (G199_a34 fuel) :=
  gok_nil
theorem fok199_a34 (fuel : Nat) : FnOK Try.prog 199 (evalFn tab (G199_a34 fuel) (J199_a34 fuel) kp199_a34 fuel Try.f199) :=
  fn_ok tab_ok (hG199_a34 fuel) mixed Try.func199 (c := (Try.f199.body).getD .skip) rfl (fun q hq => by
    rw [(by kernel_rfl : obl (J199_a34 fuel) ((Try.f199.body).getD .skip) = [])] at hq
    cases hq)
noncomputable def mt199_a34 : List Ev.SV → List Ev.Ob → Bool := fun args objs => match args, objs with
 | [.c (.ptr q0 q1), .c (.int .i64 _), .c (.int .i64 _)], [.cells q2 [.int .i64 _, .int .i64 _, .sl (.int .u8) _, .own q3], .vec q4 (.pair (.int .i64) (.int .i64)) _ false] => Nat.beq q0 0 && Nat.beq q1 0 && Nat.beq q2 137 && Nat.beq q3 1 && Nat.beq q4 44
 | _, _ => false
noncomputable def spg199_a34 (F : YF199_a34) : Ev.Spec := fun args objs k => match args, objs with
 | [.c (.ptr q0 q1), .c (.int .i64 x0), .c (.int .i64 x1)], [.cells q2 [.int .i64 x2, .int .i64 x3, .sl (.int .u8) x4, .own q3], .vec q4 (.pair (.int .i64) (.int .i64)) x5 false] => bif Nat.beq q0 0 && Nat.beq q1 0 && Nat.beq q2 137 && Nat.beq q3 1 && Nat.beq q4 44 then F x0 x1 x2 x3 x4 x5 (fun r => match r with | (r0, r1, r2, r3, r4) => k (.c (.int .u8 r0), [.cells 137 [.int .i64 r1, .int .i64 r2, .sl (.int .u8) r3, .own 1], .vec 44 (.pair (.int .i64) (.int .i64)) r4 false])) else none
 | _, _ => none
noncomputable def spec199_a34 (fuel : Nat) : Ev.Spec := spg199_a34 (F_generic_plane_at_a34 fuel)
theorem ok199_a34 (fuel : Nat) : FnOK Try.prog 199 (spec199_a34 fuel) := by
  intro args objs kk r h
  unfold spec199_a34 spg199_a34 at h
  split at h
  · skip
    obtain ⟨hb, h⟩ := cond_some' h
    simp only [Bool.and_eq_true, Nat.beq_eq, decide_eq_true_eq] at hb
    obtain ⟨⟨⟨⟨rfl, rfl⟩, rfl⟩, rfl⟩, rfl⟩ := hb
    exact fok199_a34 fuel _ _ kk r ((F199_a34_eq fuel _ _ _ _ _ _ kk).trans h)
  · cases h
end Go.Proofs.Ytihfgpfofmjbaaa

set_option linter.unusedVariables false
set_option linter.unusedSimpArgs false
set_option maxRecDepth 100000
set_option maxHeartbeats 2000000
namespace Go.Proofs.Ytihfgpfofmjbaaa
open Go Ev
def kp162_b9e (i : Nat) : Option (List Nat) := Ev.look i [(3, [0, 1, 5, 7, 15, 16]), (100000, [7]), (200005, [0, 5]), (400000, [6])]
noncomputable def Gg162_b9e (f163 : YF163) (f199_a34 : YF199_a34) (f : Nat) : Option Ev.Spec := Ev.look f [(163, spg163 f163), (199, spg199_a34 f199_a34)]
noncomputable def G162_b9e (fuel : Nat) : Nat → Option Ev.Spec := Gg162_b9e (F_generic_skips fuel) (F_generic_plane_at_a34 fuel)
noncomputable def Sg_generic_plane_above_b9e_0 (fuel : Nat) (f163 : YF163) (f199_a34 : YF199_a34) (x0 x1 : Int) (x2 x3 x4 : Int) (x5 : (List Int)) (x6 : (List (Int × Int))) (x7 x8 : Int) (x9 x10 : (List Int)) (c : (Int × Int × Int × Int × Int × (List Int) × (List (Int × Int)) × Int × Int × (List Int) × (List Int)) → Option Ans) (B : (Int × Int × (List Int) × (List (Int × Int)) × (List Int) → Option Ans)) : Option Ans := match B with
 | b =>
  bif decide (x2 < x1) then
  (f163 (x7) (x8) (x9) (IntKind.i64.wrap (IntKind.i64.wrap (x0 * x3) + x2))
  (fun y3 =>
  bif !y3 then
  (f199_a34 (x2) (IntKind.i64.wrap (x0 - (1 : Int))) (x3) (x4) (x5) (x6)
  (fun (y8_0, y8_1, y8_2, y8_3, y8_4) =>
  bif decide ((0 : Int) ≤ x2 ∧ x2 < (↑x10.length : Int)) then
  c (x0, x1, IntKind.i64.wrap (x2 + (1 : Int)), y8_1, y8_2, y8_3, y8_4, x7, x8, x9, x10.set x2.toNat y8_0)
  else none))
  else
  c (x0, x1, IntKind.i64.wrap (x2 + (1 : Int)), x3, x4, x5, x6, x7, x8, x9, x10)))
  else
  b (x3, x4, x5, x6, x10)
noncomputable def S_generic_plane_above_b9e_0 (fuel : Nat) (v : Int × Int × Int × Int × Int × (List Int) × (List (Int × Int)) × Int × Int × (List Int) × (List Int)) (c : (Int × Int × Int × Int × Int × (List Int) × (List (Int × Int)) × Int × Int × (List Int) × (List Int)) → Option Ans) (B : (Int × Int × (List Int) × (List (Int × Int)) × (List Int) → Option Ans)) : Option Ans := match v with
 | (x0, x1, x2, x3, x4, x5, x6, x7, x8, x9, x10) => Sg_generic_plane_above_b9e_0 fuel (F_generic_skips fuel) (F_generic_plane_at_a34 fuel) x0 x1 x2 x3 x4 x5 x6 x7 x8 x9 x10 c B
noncomputable def L_generic_plane_above_b9e_0 (fuel : Nat) (v : Int × Int × Int × Int × Int × (List Int) × (List (Int × Int)) × Int × Int × (List Int) × (List Int)) (b : (Int × Int × (List Int) × (List (Int × Int)) × (List Int) → Option Ans)) : Option Ans := iter (S_generic_plane_above_b9e_0 fuel) fuel v b
noncomputable def J162_b9e_0 (fuel : Nat) (i : Nat) : Option Ev.Blk := Ev.look i []
noncomputable def T162_b9e_0 (v : Int × Int × Int × Int × Int × (List Int) × (List (Int × Int)) × Int × Int × (List Int) × (List Int)) : Ev.St := match v with | (x0, x1, x2, x3, x4, x5, x6, x7, x8, x9, x10) => ⟨[(0, .c (.ptr 0 0)), (1, .c (.int .i64 x0)), (5, .c (.ptr 2 0)), (7, .c (.own 3)), (15, .c (.int .i64 x1)), (16, .c (.int .i64 x2))], [(0, .cells 137 [.int .i64 x3, .int .i64 x4, .sl (.int .u8) x5, .own 1]), (1, .vec 44 (.pair (.int .i64) (.int .i64)) x6 false), (2, .cells 39 [.int .i64 x7, .int .i64 x8, .sl (.int .u8) x9]), (3, .vec 5 (.int .u8) x10 true)], 4, 2⟩
noncomputable def E162_b9e_0 (K : Ev.Ex → Ev.St → Option Ans) : (Int × Int × (List Int) × (List (Int × Int)) × (List Int) → Option Ans) := (fun v => match v with | (x0, x1, x2, x3, x4) => K .normal ⟨[(7, .c (.own 2))], [(0, .cells 137 [.int .i64 x0, .int .i64 x1, .sl (.int .u8) x2, .own 1]), (1, .vec 44 (.pair (.int .i64) (.int .i64)) x3 false), (2, .vec 5 (.int .u8) x4 true)], 3, 2⟩)
theorem S162_b9e_0_okg (fuel : Nat) (f163 : YF163) (f199_a34 : YF199_a34) (R : Ev.St → Option Ans) (K : Ev.Ex → Ev.St → Option Ans) (x0 x1 : Int) (x2 x3 x4 : Int) (x5 : (List Int)) (x6 : (List (Int × Int))) (x7 x8 : Int) (x9 x10 : (List Int)) : evalCode tab (Gg162_b9e f163 f199_a34) (J162_b9e_0 fuel) kp162_b9e fuel (bodyOf 0 Try.f162) (T162_b9e_0 (x0, x1, x2, x3, x4, x5, x6, x7, x8, x9, x10)) (lc kp162_b9e 3 0 R K) = Sg_generic_plane_above_b9e_0 fuel f163 f199_a34 x0 x1 x2 x3 x4 x5 x6 x7 x8 x9 x10 (fun v => R (T162_b9e_0 v)) (E162_b9e_0 K) := by
  kernel_rfl
theorem S162_b9e_0_ok (fuel : Nat) (R : Ev.St → Option Ans) (K : Ev.Ex → Ev.St → Option Ans) (x0 x1 : Int) (x2 x3 x4 : Int) (x5 : (List Int)) (x6 : (List (Int × Int))) (x7 x8 : Int) (x9 x10 : (List Int)) : evalCode tab (G162_b9e fuel) (J162_b9e_0 fuel) kp162_b9e fuel (bodyOf 0 Try.f162) (T162_b9e_0 (x0, x1, x2, x3, x4, x5, x6, x7, x8, x9, x10)) (lc kp162_b9e 3 0 R K) = S_generic_plane_above_b9e_0 fuel (x0, x1, x2, x3, x4, x5, x6, x7, x8, x9, x10) (fun v => R (T162_b9e_0 v)) (E162_b9e_0 K) :=
  S162_b9e_0_okg fuel (F_generic_skips fuel) (F_generic_plane_at_a34 fuel) R K x0 x1 x2 x3 x4 x5 x6 x7 x8 x9 x10
noncomputable def B162_b9e_0 (fuel : Nat) : Ev.Blk := fun st K => match canonO (kp162_b9e 3) st with
 | some s => (match s with
 | ⟨[(q0, .c (.ptr q1 q2)), (q3, .c (.int .i64 x0)), (q4, .c (.ptr q5 q6)), (q7, .c (.own q8)), (q9, .c (.int .i64 x1)), (q10, .c (.int .i64 x2))], [(q11, .cells q12 [.int .i64 x3, .int .i64 x4, .sl (.int .u8) x5, .own q13]), (q14, .vec q15 (.pair (.int .i64) (.int .i64)) x6 false), (q16, .cells q17 [.int .i64 x7, .int .i64 x8, .sl (.int .u8) x9]), (q18, .vec q19 (.int .u8) x10 true)], q20, q21⟩ => bif Nat.beq q0 0 && Nat.beq q1 0 && Nat.beq q2 0 && Nat.beq q3 1 && Nat.beq q4 5 && Nat.beq q5 2 && Nat.beq q6 0 && Nat.beq q7 7 && Nat.beq q8 3 && Nat.beq q9 15 && Nat.beq q10 16 && Nat.beq q11 0 && Nat.beq q12 137 && Nat.beq q13 1 && Nat.beq q14 1 && Nat.beq q15 44 && Nat.beq q16 2 && Nat.beq q17 39 && Nat.beq q18 3 && Nat.beq q19 5 && Nat.beq q20 4 && Nat.beq q21 2 then iter (S_generic_plane_above_b9e_0 fuel) fuel (x0, x1, x2, x3, x4, x5, x6, x7, x8, x9, x10) (E162_b9e_0 K) else none
 | _ => none)
 | none => none
theorem B162_b9e_0_ok (fuel : Nat) (st : Ev.St) (K : Ev.Ex → Ev.St → Option Ans) (r : Ans) (h : B162_b9e_0 fuel st K = some r) : evalCode tab (G162_b9e fuel) (J162_b9e_0 fuel) kp162_b9e fuel (.block 0 (.loop (bodyOf 0 Try.f162))) st K = some r := by
  unfold B162_b9e_0 at h
  split at h
  · rename_i s hs
    split at h
    · skip
      obtain ⟨hb, h⟩ := cond_some' h
      simp only [Bool.and_eq_true, Nat.beq_eq, decide_eq_true_eq] at hb
      obtain ⟨⟨⟨⟨⟨⟨⟨⟨⟨⟨⟨⟨⟨⟨⟨⟨⟨⟨⟨⟨⟨rfl, rfl⟩, rfl⟩, rfl⟩, rfl⟩, rfl⟩, rfl⟩, rfl⟩, rfl⟩, rfl⟩, rfl⟩, rfl⟩, rfl⟩, rfl⟩, rfl⟩, rfl⟩, rfl⟩, rfl⟩, rfl⟩, rfl⟩, rfl⟩, rfl⟩ := hb
      exact blk_loop (S := T162_b9e_0) (ks := E162_b9e_0) (step := S_generic_plane_above_b9e_0 fuel) (v := (_, _, _, _, _, _, _, _, _, _, _)) (by kernel_rfl) (by kernel_rfl) (fun R K v => by obtain ⟨x0, x1, x2, x3, x4, x5, x6, x7, x8, x9, x10⟩ := v; exact S162_b9e_0_ok fuel R K x0 x1 x2 x3 x4 x5 x6 x7 x8 x9 x10) hs h
    · cases h
  · cases h
noncomputable def J162_b9e (fuel : Nat) (i : Nat) : Option Ev.Blk := Ev.look i [(100000, B162_b9e_0 fuel)]
noncomputable def Fg_generic_plane_above_b9e (fuel : Nat) (f163 : YF163) (f199_a34 : YF199_a34) (x0 x1 x2 : Int) (x3 : (List Int)) (x4 x5 : Int) (x6 : (List Int)) (x7 : (List (Int × Int))) (k0 : (Int × Int × (List Int) × (List (Int × Int)) × (List Int)) → Option Ans) : Option Ans :=
  bif decide ((0 : Int) ≤ x4 ∧ x4 = x4 ∧ (↑(1 : Nat) : Int) * x4 ≤ (281474976710656 : Int) ∧ x4 ≤ (281474976710656 : Int)) then
  (L_generic_plane_above_b9e_0 fuel (x0, (↑(List.replicate x4.toNat (0 : Int)).length : Int), (0 : Int), x4, x5, x6, x7, x1, x2, x3, List.replicate x4.toNat (0 : Int))
  (fun (b0_0, b0_1, b0_2, b0_3, b0_4) =>
  k0 (b0_0, b0_1, b0_2, b0_3, b0_4)))
  else none
noncomputable def F_generic_plane_above_b9e (fuel : Nat) (x0 x1 x2 : Int) (x3 : (List Int)) (x4 x5 : Int) (x6 : (List Int)) (x7 : (List (Int × Int))) (k0 : (Int × Int × (List Int) × (List (Int × Int)) × (List Int)) → Option Ans) : Option Ans := Fg_generic_plane_above_b9e fuel (F_generic_skips fuel) (F_generic_plane_at_a34 fuel) x0 x1 x2 x3 x4 x5 x6 x7 k0
abbrev YF162_b9e : Type := (Int) → (Int) → (Int) → ((List Int)) → (Int) → (Int) → ((List Int)) → ((List (Int × Int))) → ((Int × Int × (List Int) × (List (Int × Int)) × (List Int)) → Option Ans) → Option Ans
theorem F162_b9e_eqg (fuel : Nat) (f163 : YF163) (f199_a34 : YF199_a34) (x0 x1 x2 : Int) (x3 : (List Int)) (x4 x5 : Int) (x6 : (List Int)) (x7 : (List (Int × Int))) (k : Ev.Cont) : evalFn tab (Gg162_b9e f163 f199_a34) (J162_b9e fuel) kp162_b9e fuel Try.f162 [.c (.ptr 0 0), .c (.int .i64 x0), .agg [.int .i64 x1, .int .i64 x2, .sl (.int .u8) x3]] [.cells 137 [.int .i64 x4, .int .i64 x5, .sl (.int .u8) x6, .own 1], .vec 44 (.pair (.int .i64) (.int .i64)) x7 false] k = Fg_generic_plane_above_b9e fuel f163 f199_a34 x0 x1 x2 x3 x4 x5 x6 x7 (fun r => match r with | (r0, r1, r2, r3, r4) => k (.c (.own 2), [.cells 137 [.int .i64 r0, .int .i64 r1, .sl (.int .u8) r2, .own 1], .vec 44 (.pair (.int .i64) (.int .i64)) r3 false, .vec 5 (.int .u8) r4 true])) := by
  kernel_rfl
theorem F162_b9e_eq (fuel : Nat) (x0 x1 x2 : Int) (x3 : (List Int)) (x4 x5 : Int) (x6 : (List Int)) (x7 : (List (Int × Int))) (k : Ev.Cont) : evalFn tab (G162_b9e fuel) (J162_b9e fuel) kp162_b9e fuel Try.f162 [.c (.ptr 0 0), .c (.int .i64 x0), .agg [.int .i64 x1, .int .i64 x2, .sl (.int .u8) x3]] [.cells 137 [.int .i64 x4, .int .i64 x5, .sl (.int .u8) x6, .own 1], .vec 44 (.pair (.int .i64) (.int .i64)) x7 false] k = F_generic_plane_above_b9e fuel x0 x1 x2 x3 x4 x5 x6 x7 (fun r => match r with | (r0, r1, r2, r3, r4) => k (.c (.own 2), [.cells 137 [.int .i64 r0, .int .i64 r1, .sl (.int .u8) r2, .own 1], .vec 44 (.pair (.int .i64) (.int .i64)) r3 false, .vec 5 (.int .u8) r4 true])) :=
  F162_b9e_eqg fuel (F_generic_skips fuel) (F_generic_plane_at_a34 fuel) x0 x1 x2 x3 x4 x5 x6 x7 k
theorem hG162_b9e (fuel : Nat) : GOK Try.prog (G162_b9e fuel) :=
  gok_cons ⟨ok163 fuel, enters_of Try.func163 (by kernel_rfl) rfl⟩ <|
  gok_cons ⟨ok199_a34 fuel, enters_of Try.func199 (by kernel_rfl) rfl⟩ <|
  gok_nil
theorem B162_b9e_0_blk (fuel : Nat) : BlkOK Try.prog Try.f162.ntmps (.block 0 (.loop (bodyOf 0 Try.f162))) (B162_b9e_0 fuel) :=
  blk_of (blk_of_code tab_ok (hG162_b9e fuel) mixed (J := J162_b9e_0 fuel) (kp := kp162_b9e) (fuel := fuel) (by kernel_rfl) (fun q hq => by
    rw [(by kernel_rfl : obl (J162_b9e_0 fuel) (.block 0 (.loop (bodyOf 0 Try.f162))) = [])] at hq
    cases hq)) (B162_b9e_0_ok fuel)
theorem fok162_b9e (fuel : Nat) : FnOK Try.prog 162 (evalFn tab (G162_b9e fuel) (J162_b9e fuel) kp162_b9e fuel Try.f162) :=
  fn_ok tab_ok (hG162_b9e fuel) mixed Try.func162 (c := (Try.f162.body).getD .skip) rfl (fun q hq => by
    rw [(by kernel_rfl : obl (J162_b9e fuel) ((Try.f162.body).getD .skip) = [(.block 0 (.loop (bodyOf 0 Try.f162)), B162_b9e_0 fuel)])] at hq
    simp only [List.mem_cons, List.not_mem_nil, or_false] at hq
    subst hq
    · exact B162_b9e_0_blk fuel)
noncomputable def mt162_b9e : List Ev.SV → List Ev.Ob → Bool := fun args objs => match args, objs with
 | [.c (.ptr q0 q1), .c (.int .i64 _), .agg [.int .i64 _, .int .i64 _, .sl (.int .u8) _]], [.cells q2 [.int .i64 _, .int .i64 _, .sl (.int .u8) _, .own q3], .vec q4 (.pair (.int .i64) (.int .i64)) _ false] => Nat.beq q0 0 && Nat.beq q1 0 && Nat.beq q2 137 && Nat.beq q3 1 && Nat.beq q4 44
 | _, _ => false
noncomputable def spg162_b9e (F : YF162_b9e) : Ev.Spec := fun args objs k => match args, objs with
 | [.c (.ptr q0 q1), .c (.int .i64 x0), .agg [.int .i64 x1, .int .i64 x2, .sl (.int .u8) x3]], [.cells q2 [.int .i64 x4, .int .i64 x5, .sl (.int .u8) x6, .own q3], .vec q4 (.pair (.int .i64) (.int .i64)) x7 false] => bif Nat.beq q0 0 && Nat.beq q1 0 && Nat.beq q2 137 && Nat.beq q3 1 && Nat.beq q4 44 then F x0 x1 x2 x3 x4 x5 x6 x7 (fun r => match r with | (r0, r1, r2, r3, r4) => k (.c (.own 2), [.cells 137 [.int .i64 r0, .int .i64 r1, .sl (.int .u8) r2, .own 1], .vec 44 (.pair (.int .i64) (.int .i64)) r3 false, .vec 5 (.int .u8) r4 true])) else none
 | _, _ => none
noncomputable def spec162_b9e (fuel : Nat) : Ev.Spec := spg162_b9e (F_generic_plane_above_b9e fuel)
theorem ok162_b9e (fuel : Nat) : FnOK Try.prog 162 (spec162_b9e fuel) := by
  intro args objs kk r h
  unfold spec162_b9e spg162_b9e at h
  split at h
  · skip
    obtain ⟨hb, h⟩ := cond_some' h
    simp only [Bool.and_eq_true, Nat.beq_eq, decide_eq_true_eq] at hb
    obtain ⟨⟨⟨⟨rfl, rfl⟩, rfl⟩, rfl⟩, rfl⟩ := hb
    exact fok162_b9e fuel _ _ kk r ((F162_b9e_eq fuel _ _ _ _ _ _ _ _ kk).trans h)
  · cases h
end Go.Proofs.Ytihfgpfofmjbaaa

