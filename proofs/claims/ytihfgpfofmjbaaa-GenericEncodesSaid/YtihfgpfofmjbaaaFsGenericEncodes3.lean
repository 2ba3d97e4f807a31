/- What the functions that GenericEncodes reaches do: their typed texts, each with the proof that the machine does it. No condition. -/
import Derived.Test.YtihfgpfofmjbaaaEvX
import Derived.Test.YtihfgpfofmjbaaaFsGenericEncodes2
import Derived.Test.YtihfgpfofmjbaaaFsGenericEncodes1
set_option linter.unusedVariables false
set_option linter.unusedSimpArgs false
set_option linter.unusedVariables false
set_option linter.unusedSimpArgs false
set_option maxRecDepth 100000
set_option maxHeartbeats 2000000
namespace Go.Proofs.Ytihfgpfofmjbaaa
open Go Ev
def kp158_a34 (i : Nat) : Option (List Nat) := Ev.look i [(3, [0, 1, 2, 7, 13, 14, 15]), (100000, [7]), (400000, [6])]
noncomputable def Gg158_a34 (f199_a34 : YF199_a34) (f : Nat) : Option Ev.Spec := Ev.look f [(199, spg199_a34 f199_a34)]
noncomputable def G158_a34 (fuel : Nat) : Nat → Option Ev.Spec := Gg158_a34 (F_generic_plane_at_a34 fuel)
noncomputable def Sg_generic_plane_context_a34_0 (fuel : Nat) (f199_a34 : YF199_a34) (x0 x1 : Int) (x2 x3 : Int) (x4 x5 x6 : Int) (x7 : (List Int)) (x8 : (List (Int × Int))) (c : (Int × Int × Int × Int × Int × Int × Int × (List Int) × (List (Int × Int))) → Option Ans) (B : (Int × Int × Int × (List Int) × (List (Int × Int)) → Option Ans)) : Option Ans := match B with
 | b =>
  bif decide (x4 < x3) then
  bif decide ((0 : Int) ≤ x4 ∧ x4 < (↑x8.length : Int)) then
  (f199_a34 (IntKind.i64.wrap (x0 + (x8.getD x4.toNat ((0 : Int), (0 : Int))).fst)) (IntKind.i64.wrap (x1 + (x8.getD x4.toNat ((0 : Int), (0 : Int))).snd)) (x5) (x6) (x7) (x8)
  (fun (y4_0, y4_1, y4_2, y4_3, y4_4) =>
  c (x0, x1, IntKind.i64.wrap (IntKind.i64.wrap ((2 : Int) * x2) + IntKind.i64.wrap y4_0), x3, IntKind.i64.wrap (x4 + (1 : Int)), y4_1, y4_2, y4_3, y4_4)))
  else none
  else
  b (x2, x5, x6, x7, x8)
noncomputable def S_generic_plane_context_a34_0 (fuel : Nat) (v : Int × Int × Int × Int × Int × Int × Int × (List Int) × (List (Int × Int))) (c : (Int × Int × Int × Int × Int × Int × Int × (List Int) × (List (Int × Int))) → Option Ans) (B : (Int × Int × Int × (List Int) × (List (Int × Int)) → Option Ans)) : Option Ans := match v with
 | (x0, x1, x2, x3, x4, x5, x6, x7, x8) => Sg_generic_plane_context_a34_0 fuel (F_generic_plane_at_a34 fuel) x0 x1 x2 x3 x4 x5 x6 x7 x8 c B
noncomputable def L_generic_plane_context_a34_0 (fuel : Nat) (v : Int × Int × Int × Int × Int × Int × Int × (List Int) × (List (Int × Int))) (b : (Int × Int × Int × (List Int) × (List (Int × Int)) → Option Ans)) : Option Ans := iter (S_generic_plane_context_a34_0 fuel) fuel v b
noncomputable def J158_a34_0 (fuel : Nat) (i : Nat) : Option Ev.Blk := Ev.look i []
noncomputable def T158_a34_0 (v : Int × Int × Int × Int × Int × Int × Int × (List Int) × (List (Int × Int))) : Ev.St := match v with | (x0, x1, x2, x3, x4, x5, x6, x7, x8) => ⟨[(0, .c (.ptr 0 0)), (1, .c (.int .i64 x0)), (2, .c (.int .i64 x1)), (7, .c (.int .i64 x2)), (13, .c (.own 1)), (14, .c (.int .i64 x3)), (15, .c (.int .i64 x4))], [(0, .cells 137 [.int .i64 x5, .int .i64 x6, .sl (.int .u8) x7, .own 1]), (1, .vec 44 (.pair (.int .i64) (.int .i64)) x8 false)], 2, 2⟩
noncomputable def E158_a34_0 (K : Ev.Ex → Ev.St → Option Ans) : (Int × Int × Int × (List Int) × (List (Int × Int)) → Option Ans) := (fun v => match v with | (x0, x1, x2, x3, x4) => K .normal ⟨[(7, .c (.int .i64 x0))], [(0, .cells 137 [.int .i64 x1, .int .i64 x2, .sl (.int .u8) x3, .own 1]), (1, .vec 44 (.pair (.int .i64) (.int .i64)) x4 false)], 2, 2⟩)
theorem S158_a34_0_okg (fuel : Nat) (f199_a34 : YF199_a34) (R : Ev.St → Option Ans) (K : Ev.Ex → Ev.St → Option Ans) (x0 x1 : Int) (x2 x3 : Int) (x4 x5 x6 : Int) (x7 : (List Int)) (x8 : (List (Int × Int))) : evalCode tab (Gg158_a34 f199_a34) (J158_a34_0 fuel) kp158_a34 fuel (bodyOf 0 Try.f158) (T158_a34_0 (x0, x1, x2, x3, x4, x5, x6, x7, x8)) (lc kp158_a34 3 0 R K) = Sg_generic_plane_context_a34_0 fuel f199_a34 x0 x1 x2 x3 x4 x5 x6 x7 x8 (fun v => R (T158_a34_0 v)) (E158_a34_0 K) := by
  kernel_rfl
theorem S158_a34_0_ok (fuel : Nat) (R : Ev.St → Option Ans) (K : Ev.Ex → Ev.St → Option Ans) (x0 x1 : Int) (x2 x3 : Int) (x4 x5 x6 : Int) (x7 : (List Int)) (x8 : (List (Int × Int))) : evalCode tab (G158_a34 fuel) (J158_a34_0 fuel) kp158_a34 fuel (bodyOf 0 Try.f158) (T158_a34_0 (x0, x1, x2, x3, x4, x5, x6, x7, x8)) (lc kp158_a34 3 0 R K) = S_generic_plane_context_a34_0 fuel (x0, x1, x2, x3, x4, x5, x6, x7, x8) (fun v => R (T158_a34_0 v)) (E158_a34_0 K) :=
  S158_a34_0_okg fuel (F_generic_plane_at_a34 fuel) R K x0 x1 x2 x3 x4 x5 x6 x7 x8
noncomputable def B158_a34_0 (fuel : Nat) : Ev.Blk := fun st K => match canonO (kp158_a34 3) st with
 | some s => (match s with
 | ⟨[(q0, .c (.ptr q1 q2)), (q3, .c (.int .i64 x0)), (q4, .c (.int .i64 x1)), (q5, .c (.int .i64 x2)), (q6, .c (.own q7)), (q8, .c (.int .i64 x3)), (q9, .c (.int .i64 x4))], [(q10, .cells q11 [.int .i64 x5, .int .i64 x6, .sl (.int .u8) x7, .own q12]), (q13, .vec q14 (.pair (.int .i64) (.int .i64)) x8 false)], q15, q16⟩ => bif Nat.beq q0 0 && Nat.beq q1 0 && Nat.beq q2 0 && Nat.beq q3 1 && Nat.beq q4 2 && Nat.beq q5 7 && Nat.beq q6 13 && Nat.beq q7 1 && Nat.beq q8 14 && Nat.beq q9 15 && Nat.beq q10 0 && Nat.beq q11 137 && Nat.beq q12 1 && Nat.beq q13 1 && Nat.beq q14 44 && Nat.beq q15 2 && Nat.beq q16 2 then iter (S_generic_plane_context_a34_0 fuel) fuel (x0, x1, x2, x3, x4, x5, x6, x7, x8) (E158_a34_0 K) else none
 | _ => none)
 | none => none
theorem B158_a34_0_ok (fuel : Nat) (st : Ev.St) (K : Ev.Ex → Ev.St → Option Ans) (r : Ans) (h : B158_a34_0 fuel st K = some r) : evalCode tab (G158_a34 fuel) (J158_a34_0 fuel) kp158_a34 fuel (.block 0 (.loop (bodyOf 0 Try.f158))) st K = some r := by
  unfold B158_a34_0 at h
  split at h
  · rename_i s hs
    split at h
    · skip
      obtain ⟨hb, h⟩ := cond_some' h
      simp only [Bool.and_eq_true, Nat.beq_eq, decide_eq_true_eq] at hb
      obtain ⟨⟨⟨⟨⟨⟨⟨⟨⟨⟨⟨⟨⟨⟨⟨⟨rfl, rfl⟩, rfl⟩, rfl⟩, rfl⟩, rfl⟩, rfl⟩, rfl⟩, rfl⟩, rfl⟩, rfl⟩, rfl⟩, rfl⟩, rfl⟩, rfl⟩, rfl⟩, rfl⟩ := hb
      exact blk_loop (S := T158_a34_0) (ks := E158_a34_0) (step := S_generic_plane_context_a34_0 fuel) (v := (_, _, _, _, _, _, _, _, _)) (by kernel_rfl) (by kernel_rfl) (fun R K v => by obtain ⟨x0, x1, x2, x3, x4, x5, x6, x7, x8⟩ := v; exact S158_a34_0_ok fuel R K x0 x1 x2 x3 x4 x5 x6 x7 x8) hs h
    · cases h
  · cases h
noncomputable def J158_a34 (fuel : Nat) (i : Nat) : Option Ev.Blk := Ev.look i [(100000, B158_a34_0 fuel)]
noncomputable def Fg_generic_plane_context_a34 (fuel : Nat) (f199_a34 : YF199_a34) (x0 x1 : Int) (x2 x3 : Int) (x4 : (List Int)) (x5 : (List (Int × Int))) (k0 : (Int × Int × Int × (List Int) × (List (Int × Int))) → Option Ans) : Option Ans :=
  (L_generic_plane_context_a34_0 fuel (x0, x1, (0 : Int), (↑x5.length : Int), (0 : Int), x2, x3, x4, x5)
  (fun (b0_0, b0_1, b0_2, b0_3, b0_4) =>
  k0 (b0_0, b0_1, b0_2, b0_3, b0_4)))
noncomputable def F_generic_plane_context_a34 (fuel : Nat) (x0 x1 : Int) (x2 x3 : Int) (x4 : (List Int)) (x5 : (List (Int × Int))) (k0 : (Int × Int × Int × (List Int) × (List (Int × Int))) → Option Ans) : Option Ans := Fg_generic_plane_context_a34 fuel (F_generic_plane_at_a34 fuel) x0 x1 x2 x3 x4 x5 k0
abbrev YF158_a34 : Type := (Int) → (Int) → (Int) → (Int) → ((List Int)) → ((List (Int × Int))) → ((Int × Int × Int × (List Int) × (List (Int × Int))) → Option Ans) → Option Ans
theorem F158_a34_eqg (fuel : Nat) (f199_a34 : YF199_a34) (x0 x1 : Int) (x2 x3 : Int) (x4 : (List Int)) (x5 : (List (Int × Int))) (k : Ev.Cont) : evalFn tab (Gg158_a34 f199_a34) (J158_a34 fuel) kp158_a34 fuel Try.f158 [.c (.ptr 0 0), .c (.int .i64 x0), .c (.int .i64 x1)] [.cells 137 [.int .i64 x2, .int .i64 x3, .sl (.int .u8) x4, .own 1], .vec 44 (.pair (.int .i64) (.int .i64)) x5 false] k = Fg_generic_plane_context_a34 fuel f199_a34 x0 x1 x2 x3 x4 x5 (fun r => match r with | (r0, r1, r2, r3, r4) => k (.c (.int .i64 r0), [.cells 137 [.int .i64 r1, .int .i64 r2, .sl (.int .u8) r3, .own 1], .vec 44 (.pair (.int .i64) (.int .i64)) r4 false])) := by
  kernel_rfl
theorem F158_a34_eq (fuel : Nat) (x0 x1 : Int) (x2 x3 : Int) (x4 : (List Int)) (x5 : (List (Int × Int))) (k : Ev.Cont) : evalFn tab (G158_a34 fuel) (J158_a34 fuel) kp158_a34 fuel Try.f158 [.c (.ptr 0 0), .c (.int .i64 x0), .c (.int .i64 x1)] [.cells 137 [.int .i64 x2, .int .i64 x3, .sl (.int .u8) x4, .own 1], .vec 44 (.pair (.int .i64) (.int .i64)) x5 false] k = F_generic_plane_context_a34 fuel x0 x1 x2 x3 x4 x5 (fun r => match r with | (r0, r1, r2, r3, r4) => k (.c (.int .i64 r0), [.cells 137 [.int .i64 r1, .int .i64 r2, .sl (.int .u8) r3, .own 1], .vec 44 (.pair (.int .i64) (.int .i64)) r4 false])) :=
  F158_a34_eqg fuel (F_generic_plane_at_a34 fuel) x0 x1 x2 x3 x4 x5 k
theorem hG158_a34 (fuel : Nat) : GOK Try.prog (G158_a34 fuel) :=
  gok_cons ⟨ok199_a34 fuel, enters_of Try.func199 (by kernel_rfl) rfl⟩ <|
  gok_nil
theorem B158_a34_0_blk (fuel : Nat) : BlkOK Try.prog Try.f158.ntmps (.block 0 (.loop (bodyOf 0 Try.f158))) (B158_a34_0 fuel) :=
  blk_of (blk_of_code tab_ok (hG158_a34 fuel) mixed (J := J158_a34_0 fuel) (kp := kp158_a34) (fuel := fuel) (by kernel_rfl) (fun q hq => by
    rw [(by kernel_rfl : obl (J158_a34_0 fuel) (.block 0 (.loop (bodyOf 0 Try.f158))) = [])] at hq
    cases hq)) (B158_a34_0_ok fuel)
theorem fok158_a34 (fuel : Nat) : FnOK Try.prog 158 (evalFn tab (G158_a34 fuel) (J158_a34 fuel) kp158_a34 fuel Try.f158) :=
  fn_ok tab_ok (hG158_a34 fuel) mixed Try.func158 (c := (Try.f158.body).getD .skip) rfl (fun q hq => by
    rw [(by kernel_rfl : obl (J158_a34 fuel) ((Try.f158.body).getD .skip) = [(.block 0 (.loop (bodyOf 0 Try.f158)), B158_a34_0 fuel)])] at hq
    simp only [List.mem_cons, List.not_mem_nil, or_false] at hq
    subst hq
    · exact B158_a34_0_blk fuel)
noncomputable def mt158_a34 : List Ev.SV → List Ev.Ob → Bool := fun args objs => match args, objs with
 | [.c (.ptr q0 q1), .c (.int .i64 _), .c (.int .i64 _)], [.cells q2 [.int .i64 _, .int .i64 _, .sl (.int .u8) _, .own q3], .vec q4 (.pair (.int .i64) (.int .i64)) _ false] => Nat.beq q0 0 && Nat.beq q1 0 && Nat.beq q2 137 && Nat.beq q3 1 && Nat.beq q4 44
 | _, _ => false
noncomputable def spg158_a34 (F : YF158_a34) : Ev.Spec := fun args objs k => match args, objs with
 | [.c (.ptr q0 q1), .c (.int .i64 x0), .c (.int .i64 x1)], [.cells q2 [.int .i64 x2, .int .i64 x3, .sl (.int .u8) x4, .own q3], .vec q4 (.pair (.int .i64) (.int .i64)) x5 false] => bif Nat.beq q0 0 && Nat.beq q1 0 && Nat.beq q2 137 && Nat.beq q3 1 && Nat.beq q4 44 then F x0 x1 x2 x3 x4 x5 (fun r => match r with | (r0, r1, r2, r3, r4) => k (.c (.int .i64 r0), [.cells 137 [.int .i64 r1, .int .i64 r2, .sl (.int .u8) r3, .own 1], .vec 44 (.pair (.int .i64) (.int .i64)) r4 false])) else none
 | _, _ => none
noncomputable def spec158_a34 (fuel : Nat) : Ev.Spec := spg158_a34 (F_generic_plane_context_a34 fuel)
theorem ok158_a34 (fuel : Nat) : FnOK Try.prog 158 (spec158_a34 fuel) := by
  intro args objs kk r h
  unfold spec158_a34 spg158_a34 at h
  split at h
  · skip
    obtain ⟨hb, h⟩ := cond_some' h
    simp only [Bool.and_eq_true, Nat.beq_eq, decide_eq_true_eq] at hb
    obtain ⟨⟨⟨⟨rfl, rfl⟩, rfl⟩, rfl⟩, rfl⟩ := hb
    exact fok158_a34 fuel _ _ kk r ((F158_a34_eq fuel _ _ _ _ _ _ kk).trans h)
  · cases h
end Go.Proofs.Ytihfgpfofmjbaaa

set_option linter.unusedVariables false
set_option linter.unusedSimpArgs false
set_option maxRecDepth 100000
set_option maxHeartbeats 2000000
namespace Go.Proofs.Ytihfgpfofmjbaaa
open Go Ev
def kp91_d0e (i : Nat) : Option (List Nat) := Ev.look i [(4, [0, 1, 7, 8, 9, 10, 27, 28, 1000002]), (13, [0, 1, 7, 8, 9, 10, 11, 27, 28, 60, 61]), (100000, []), (100002, [0, 1, 7, 8, 9, 10, 27, 28]), (200008, [8, 9]), (200017, [8]), (400000, []), (400002, [])]
noncomputable def Gg91_d0e (f90 : YF90) (f97 : YF97) (f99_cf0 : YF99_cf0) (f158_a34 : YF158_a34) (f161 : YF161) (f162_b9e : YF162_b9e) (f163 : YF163) (f : Nat) : Option Ev.Spec := Ev.look f [(90, spg90 f90), (97, spg97 f97), (99, spg99_cf0 f99_cf0), (158, spg158_a34 f158_a34), (161, spg161 f161), (162, spg162_b9e f162_b9e), (163, spg163 f163)]
noncomputable def G91_d0e (fuel : Nat) : Nat → Option Ev.Spec := Gg91_d0e (F_generic_contexts fuel) (F_generic_newPlane fuel) (F_coder_Encoder_Put_cf0 fuel) (F_generic_plane_context_a34 fuel) (F_bytes_Equal fuel) (F_generic_plane_above_b9e fuel) (F_generic_skips fuel)
noncomputable def Sg_generic_put_d0e_2 (fuel : Nat) (f90 : YF90) (f97 : YF97) (f99_cf0 : YF99_cf0) (f158_a34 : YF158_a34) (f161 : YF161) (f162_b9e : YF162_b9e) (f163 : YF163) (x0 x1 : Int) (x2 x3 : Int) (x4 x5 : Int) (x6 x7 x8 : Int) (x9 : Bool) (x10 x11 : (List Int)) (x12 x13 x14 : Int) (x15 : Bool) (x16 x17 x18 : Int) (x19 : (List Int)) (x20 x21 : Int) (x22 : (List Int)) (x23 x24 : Int) (x25 : (List Int)) (x26 : (List (Int × Int))) (c : (Int × Int × Int × Int × Int × Int × Int × Int × Int × Bool × (List Int) × (List Int) × Int × Int × Int × Bool × Int × Int × Int × (List Int) × Int × Int × (List Int) × Int × Int × (List Int) × (List (Int × Int))) → Option Ans) (B : (Int × Int × Int × Int × Int × Int × Bool × (List Int) × (List Int) × Int × Int × Int × Bool × Int × Int × Int × (List Int) × Int × Int × (List Int) × Int × Int × (List Int) × (List (Int × Int)) → Option Ans)) : Option Ans := match B with
 | b =>
  bif decide (x5 < x4) then
  (f163 (x20) (x21) (x22) (IntKind.i64.wrap (IntKind.i64.wrap (x1 * x17) + x5))
  (fun y3 =>
  bif !y3 then
  bif decide ((0 : Int) ≤ IntKind.i64.wrap (IntKind.i64.wrap (x1 * x17) + x5) ∧ IntKind.i64.wrap (IntKind.i64.wrap (x1 * x17) + x5) < (↑x19.length : Int)) then
  (f158_a34 (x5) (x1) (x23) (x24) (x25) (x26)
  (fun (y9_0, y9_1, y9_2, y9_3, y9_4) =>
  (f99_cf0 (IntKind.i64.wrap (x0 + y9_0)) (IntKind.i64.wrap (x19.getD (IntKind.i64.wrap (IntKind.i64.wrap (x1 * x17) + x5)).toNat (0 : Int))) (x6) (x7) (x8) (x9) (x10) (x11)
  (fun (y13_0, y13_1, y13_2, y13_3, y13_4, y13_5, y13_6) =>
  c (x0, x1, x2, x3, x4, IntKind.i64.wrap (x5 + (1 : Int)), y13_1, y13_2, y13_3, y13_4, y13_5, y13_6, x12, x13, x14, x15, x16, x17, x18, x19, x20, x21, x22, y9_1, y9_2, y9_3, y9_4))
  (fun (y13_0, y13_1, y13_2, y13_3, y13_4, y13_5, y13_6) =>
  c (x0, x1, x2, x3, x4, IntKind.i64.wrap (x5 + (1 : Int)), y13_1, y13_2, y13_3, y13_4, y13_5, y13_6, x12, x13, x14, x15, x16, x17, x18, x19, x20, x21, x22, y9_1, y9_2, y9_3, y9_4)))))
  else none
  else
  c (x0, x1, x2, x3, x4, IntKind.i64.wrap (x5 + (1 : Int)), x6, x7, x8, x9, x10, x11, x12, x13, x14, x15, x16, x17, x18, x19, x20, x21, x22, x23, x24, x25, x26)))
  else
  b (x0, x2, x3, x6, x7, x8, x9, x10, x11, x12, x13, x14, x15, x16, x17, x18, x19, x20, x21, x22, x23, x24, x25, x26)
noncomputable def S_generic_put_d0e_2 (fuel : Nat) (v : Int × Int × Int × Int × Int × Int × Int × Int × Int × Bool × (List Int) × (List Int) × Int × Int × Int × Bool × Int × Int × Int × (List Int) × Int × Int × (List Int) × Int × Int × (List Int) × (List (Int × Int))) (c : (Int × Int × Int × Int × Int × Int × Int × Int × Int × Bool × (List Int) × (List Int) × Int × Int × Int × Bool × Int × Int × Int × (List Int) × Int × Int × (List Int) × Int × Int × (List Int) × (List (Int × Int))) → Option Ans) (B : (Int × Int × Int × Int × Int × Int × Bool × (List Int) × (List Int) × Int × Int × Int × Bool × Int × Int × Int × (List Int) × Int × Int × (List Int) × Int × Int × (List Int) × (List (Int × Int)) → Option Ans)) : Option Ans := match v with
 | (x0, x1, x2, x3, x4, x5, x6, x7, x8, x9, x10, x11, x12, x13, x14, x15, x16, x17, x18, x19, x20, x21, x22, x23, x24, x25, x26) => Sg_generic_put_d0e_2 fuel (F_generic_contexts fuel) (F_generic_newPlane fuel) (F_coder_Encoder_Put_cf0 fuel) (F_generic_plane_context_a34 fuel) (F_bytes_Equal fuel) (F_generic_plane_above_b9e fuel) (F_generic_skips fuel) x0 x1 x2 x3 x4 x5 x6 x7 x8 x9 x10 x11 x12 x13 x14 x15 x16 x17 x18 x19 x20 x21 x22 x23 x24 x25 x26 c B
noncomputable def L_generic_put_d0e_2 (fuel : Nat) (v : Int × Int × Int × Int × Int × Int × Int × Int × Int × Bool × (List Int) × (List Int) × Int × Int × Int × Bool × Int × Int × Int × (List Int) × Int × Int × (List Int) × Int × Int × (List Int) × (List (Int × Int))) (b : (Int × Int × Int × Int × Int × Int × Bool × (List Int) × (List Int) × Int × Int × Int × Bool × Int × Int × Int × (List Int) × Int × Int × (List Int) × Int × Int × (List Int) × (List (Int × Int)) → Option Ans)) : Option Ans := iter (S_generic_put_d0e_2 fuel) fuel v b
noncomputable def J91_d0e_2 (fuel : Nat) (i : Nat) : Option Ev.Blk := Ev.look i []
noncomputable def T91_d0e_2 (v : Int × Int × Int × Int × Int × Int × Int × Int × Int × Bool × (List Int) × (List Int) × Int × Int × Int × Bool × Int × Int × Int × (List Int) × Int × Int × (List Int) × Int × Int × (List Int) × (List (Int × Int))) : Ev.St := match v with | (x0, x1, x2, x3, x4, x5, x6, x7, x8, x9, x10, x11, x12, x13, x14, x15, x16, x17, x18, x19, x20, x21, x22, x23, x24, x25, x26) => ⟨[(0, .c (.ptr 0 0)), (1, .c (.int .i64 x0)), (7, .c (.ptr 3 0)), (8, .c (.ptr 4 0)), (9, .c (.ptr 5 0)), (10, .c (.ptr 6 0)), (11, .c (.int .i64 x1)), (27, .c (.int .i64 x2)), (28, .c (.int .i64 x3)), (60, .c (.int .i64 x4)), (61, .c (.int .i64 x5))], [(0, .cells 172 (.int .i64 x6 :: .own 1 :: ctb (.int .u64 x7 :: .int .u64 x8 :: .own 2 :: .bool x9 :: []))), (1, .vec 3 (.int .i64) x10 false), (2, .vec 5 (.int .u8) x11 true), (3, .cells 46 [.int .i64 x12, .int .i64 x13, .int .i64 x14, .bool x15, .int .i64 x16]), (4, .cells 39 [.int .i64 x17, .int .i64 x18, .sl (.int .u8) x19]), (5, .cells 39 [.int .i64 x20, .int .i64 x21, .sl (.int .u8) x22]), (6, .cells 137 [.int .i64 x23, .int .i64 x24, .sl (.int .u8) x25, .own 7]), (7, .vec 44 (.pair (.int .i64) (.int .i64)) x26 true)], 8, 3⟩
noncomputable def E91_d0e_2 (K : Ev.Ex → Ev.St → Option Ans) : (Int × Int × Int × Int × Int × Int × Bool × (List Int) × (List Int) × Int × Int × Int × Bool × Int × Int × Int × (List Int) × Int × Int × (List Int) × Int × Int × (List Int) × (List (Int × Int)) → Option Ans) := (fun v => match v with | (x0, x1, x2, x3, x4, x5, x6, x7, x8, x9, x10, x11, x12, x13, x14, x15, x16, x17, x18, x19, x20, x21, x22, x23) => K .normal ⟨[(0, .c (.ptr 0 0)), (1, .c (.int .i64 x0)), (7, .c (.ptr 3 0)), (8, .c (.ptr 4 0)), (9, .c (.ptr 5 0)), (10, .c (.ptr 6 0)), (27, .c (.int .i64 x1)), (28, .c (.int .i64 x2))], [(0, .cells 172 (.int .i64 x3 :: .own 1 :: ctb (.int .u64 x4 :: .int .u64 x5 :: .own 2 :: .bool x6 :: []))), (1, .vec 3 (.int .i64) x7 false), (2, .vec 5 (.int .u8) x8 true), (3, .cells 46 [.int .i64 x9, .int .i64 x10, .int .i64 x11, .bool x12, .int .i64 x13]), (4, .cells 39 [.int .i64 x14, .int .i64 x15, .sl (.int .u8) x16]), (5, .cells 39 [.int .i64 x17, .int .i64 x18, .sl (.int .u8) x19]), (6, .cells 137 [.int .i64 x20, .int .i64 x21, .sl (.int .u8) x22, .own 7]), (7, .vec 44 (.pair (.int .i64) (.int .i64)) x23 true)], 8, 3⟩)
theorem S91_d0e_2_okg (fuel : Nat) (f90 : YF90) (f97 : YF97) (f99_cf0 : YF99_cf0) (f158_a34 : YF158_a34) (f161 : YF161) (f162_b9e : YF162_b9e) (f163 : YF163) (R : Ev.St → Option Ans) (K : Ev.Ex → Ev.St → Option Ans) (x0 x1 : Int) (x2 x3 : Int) (x4 x5 : Int) (x6 x7 x8 : Int) (x9 : Bool) (x10 x11 : (List Int)) (x12 x13 x14 : Int) (x15 : Bool) (x16 x17 x18 : Int) (x19 : (List Int)) (x20 x21 : Int) (x22 : (List Int)) (x23 x24 : Int) (x25 : (List Int)) (x26 : (List (Int × Int))) : evalCode tab (Gg91_d0e f90 f97 f99_cf0 f158_a34 f161 f162_b9e f163) (J91_d0e_2 fuel) kp91_d0e fuel (bodyOf 2 Try.f91) (T91_d0e_2 (x0, x1, x2, x3, x4, x5, x6, x7, x8, x9, x10, x11, x12, x13, x14, x15, x16, x17, x18, x19, x20, x21, x22, x23, x24, x25, x26)) (lc kp91_d0e 13 2 R K) = Sg_generic_put_d0e_2 fuel f90 f97 f99_cf0 f158_a34 f161 f162_b9e f163 x0 x1 x2 x3 x4 x5 x6 x7 x8 x9 x10 x11 x12 x13 x14 x15 x16 x17 x18 x19 x20 x21 x22 x23 x24 x25 x26 (fun v => R (T91_d0e_2 v)) (E91_d0e_2 K) := by
  kernel_rfl
theorem S91_d0e_2_ok (fuel : Nat) (R : Ev.St → Option Ans) (K : Ev.Ex → Ev.St → Option Ans) (x0 x1 : Int) (x2 x3 : Int) (x4 x5 : Int) (x6 x7 x8 : Int) (x9 : Bool) (x10 x11 : (List Int)) (x12 x13 x14 : Int) (x15 : Bool) (x16 x17 x18 : Int) (x19 : (List Int)) (x20 x21 : Int) (x22 : (List Int)) (x23 x24 : Int) (x25 : (List Int)) (x26 : (List (Int × Int))) : evalCode tab (G91_d0e fuel) (J91_d0e_2 fuel) kp91_d0e fuel (bodyOf 2 Try.f91) (T91_d0e_2 (x0, x1, x2, x3, x4, x5, x6, x7, x8, x9, x10, x11, x12, x13, x14, x15, x16, x17, x18, x19, x20, x21, x22, x23, x24, x25, x26)) (lc kp91_d0e 13 2 R K) = S_generic_put_d0e_2 fuel (x0, x1, x2, x3, x4, x5, x6, x7, x8, x9, x10, x11, x12, x13, x14, x15, x16, x17, x18, x19, x20, x21, x22, x23, x24, x25, x26) (fun v => R (T91_d0e_2 v)) (E91_d0e_2 K) :=
  S91_d0e_2_okg fuel (F_generic_contexts fuel) (F_generic_newPlane fuel) (F_coder_Encoder_Put_cf0 fuel) (F_generic_plane_context_a34 fuel) (F_bytes_Equal fuel) (F_generic_plane_above_b9e fuel) (F_generic_skips fuel) R K x0 x1 x2 x3 x4 x5 x6 x7 x8 x9 x10 x11 x12 x13 x14 x15 x16 x17 x18 x19 x20 x21 x22 x23 x24 x25 x26
noncomputable def B91_d0e_2 (fuel : Nat) : Ev.Blk := fun st K => match canonO (kp91_d0e 13) st with
 | some s => (match s with
 | ⟨[(q0, .c (.ptr q1 q2)), (q3, .c (.int .i64 x0)), (q4, .c (.ptr q5 q6)), (q7, .c (.ptr q8 q9)), (q10, .c (.ptr q11 q12)), (q13, .c (.ptr q14 q15)), (q16, .c (.int .i64 x1)), (q17, .c (.int .i64 x2)), (q18, .c (.int .i64 x3)), (q19, .c (.int .i64 x4)), (q20, .c (.int .i64 x5))], [(q21, .cells q22 cs0), (q23, .vec q24 (.int .i64) x10 false), (q25, .vec q26 (.int .u8) x11 true), (q27, .cells q28 [.int .i64 x12, .int .i64 x13, .int .i64 x14, .bool x15, .int .i64 x16]), (q29, .cells q30 [.int .i64 x17, .int .i64 x18, .sl (.int .u8) x19]), (q31, .cells q32 [.int .i64 x20, .int .i64 x21, .sl (.int .u8) x22]), (q33, .cells q34 [.int .i64 x23, .int .i64 x24, .sl (.int .u8) x25, .own q35]), (q36, .vec q37 (.pair (.int .i64) (.int .i64)) x26 true)], q38, q39⟩ => (match splitRun 2 ctn cs0 with | some ([.int .i64 x6, .own q40], [.int .u64 x7, .int .u64 x8, .own q41, .bool x9]) => bif Nat.beq q0 0 && Nat.beq q1 0 && Nat.beq q2 0 && Nat.beq q3 1 && Nat.beq q4 7 && Nat.beq q5 3 && Nat.beq q6 0 && Nat.beq q7 8 && Nat.beq q8 4 && Nat.beq q9 0 && Nat.beq q10 9 && Nat.beq q11 5 && Nat.beq q12 0 && Nat.beq q13 10 && Nat.beq q14 6 && Nat.beq q15 0 && Nat.beq q16 11 && Nat.beq q17 27 && Nat.beq q18 28 && Nat.beq q19 60 && Nat.beq q20 61 && Nat.beq q21 0 && Nat.beq q22 172 && Nat.beq q23 1 && Nat.beq q24 3 && Nat.beq q25 2 && Nat.beq q26 5 && Nat.beq q27 3 && Nat.beq q28 46 && Nat.beq q29 4 && Nat.beq q30 39 && Nat.beq q31 5 && Nat.beq q32 39 && Nat.beq q33 6 && Nat.beq q34 137 && Nat.beq q35 7 && Nat.beq q36 7 && Nat.beq q37 44 && Nat.beq q38 8 && Nat.beq q39 3 && Nat.beq q40 1 && Nat.beq q41 2 then iter (S_generic_put_d0e_2 fuel) fuel (x0, x1, x2, x3, x4, x5, x6, x7, x8, x9, x10, x11, x12, x13, x14, x15, x16, x17, x18, x19, x20, x21, x22, x23, x24, x25, x26) (E91_d0e_2 K) else none | _ => none)
 | _ => none)
 | none => none
theorem B91_d0e_2_ok (fuel : Nat) (st : Ev.St) (K : Ev.Ex → Ev.St → Option Ans) (r : Ans) (h : B91_d0e_2 fuel st K = some r) : evalCode tab (G91_d0e fuel) (J91_d0e_2 fuel) kp91_d0e fuel (.block 2 (.loop (bodyOf 2 Try.f91))) st K = some r := by
  unfold B91_d0e_2 at h
  split at h
  · rename_i s hs
    split at h
    · skip
      split at h
      rotate_left 1
      · cases h
      rename_i hsp
      have esp := splitRun_eq hsp
      subst esp
      obtain ⟨hb, h⟩ := cond_some' h
      simp only [Bool.and_eq_true, Nat.beq_eq, decide_eq_true_eq] at hb
      obtain ⟨⟨⟨⟨⟨⟨⟨⟨⟨⟨⟨⟨⟨⟨⟨⟨⟨⟨⟨⟨⟨⟨⟨⟨⟨⟨⟨⟨⟨⟨⟨⟨⟨⟨⟨⟨⟨⟨⟨⟨⟨rfl, rfl⟩, rfl⟩, rfl⟩, rfl⟩, rfl⟩, rfl⟩, rfl⟩, rfl⟩, rfl⟩, rfl⟩, rfl⟩, rfl⟩, rfl⟩, rfl⟩, rfl⟩, rfl⟩, rfl⟩, rfl⟩, rfl⟩, rfl⟩, rfl⟩, rfl⟩, rfl⟩, rfl⟩, rfl⟩, rfl⟩, rfl⟩, rfl⟩, rfl⟩, rfl⟩, rfl⟩, rfl⟩, rfl⟩, rfl⟩, rfl⟩, rfl⟩, rfl⟩, rfl⟩, rfl⟩, rfl⟩, rfl⟩ := hb
      exact blk_loop (S := T91_d0e_2) (ks := E91_d0e_2) (step := S_generic_put_d0e_2 fuel) (v := (_, _, _, _, _, _, _, _, _, _, _, _, _, _, _, _, _, _, _, _, _, _, _, _, _, _, _)) (by kernel_rfl) (by kernel_rfl) (fun R K v => by obtain ⟨x0, x1, x2, x3, x4, x5, x6, x7, x8, x9, x10, x11, x12, x13, x14, x15, x16, x17, x18, x19, x20, x21, x22, x23, x24, x25, x26⟩ := v; exact S91_d0e_2_ok fuel R K x0 x1 x2 x3 x4 x5 x6 x7 x8 x9 x10 x11 x12 x13 x14 x15 x16 x17 x18 x19 x20 x21 x22 x23 x24 x25 x26) hs h
    · cases h
  · cases h
noncomputable def Sg_generic_put_d0e_0 (fuel : Nat) (f90 : YF90) (f97 : YF97) (f99_cf0 : YF99_cf0) (f158_a34 : YF158_a34) (f161 : YF161) (f162_b9e : YF162_b9e) (f163 : YF163) (x0 x1 : Int) (x2 x3 : Int) (x4 x5 : Int) (x6 : Bool) (x7 x8 : (List Int)) (x9 x10 x11 : Int) (x12 : Bool) (x13 x14 x15 : Int) (x16 : (List Int)) (x17 x18 : Int) (x19 : (List Int)) (x20 x21 : Int) (x22 : (List Int)) (x23 : (List (Int × Int))) (c : (Int × Int × Int × Int × Int × Int × Bool × (List Int) × (List Int) × Int × Int × Int × Bool × Int × Int × Int × (List Int) × Int × Int × (List Int) × Int × Int × (List Int) × (List (Int × Int))) → Option Ans) (B : (Int × Int × Int × Bool × (List Int) × (List Int) → Option Ans)) : Option Ans := match B with
 | b =>
  bif decide (x2 < x1) then
  bif x12 then
  bif decide ((0 : Int) ≤ Ev.loOf (some (IntKind.i64.wrap (x2 * x14))) ∧ Ev.loOf (some (IntKind.i64.wrap (x2 * x14))) ≤ Ev.hiOf (some (IntKind.i64.wrap (IntKind.i64.wrap (x2 + (1 : Int)) * x14))) (↑x16.length : Int) ∧ Ev.hiOf (some (IntKind.i64.wrap (IntKind.i64.wrap (x2 + (1 : Int)) * x14))) (↑x16.length : Int) ≤ (↑x16.length : Int)) then
  (f162_b9e (x2) (x17) (x18) (x19) (x20) (x21) (x22) (x23)
  (fun (y5_0, y5_1, y5_2, y5_3, y5_4) =>
  (f161 (y5_4) (List.take (Ev.hiOf (some (IntKind.i64.wrap (IntKind.i64.wrap (x2 + (1 : Int)) * x14))) (↑x16.length : Int) - Ev.loOf (some (IntKind.i64.wrap (x2 * x14)))).toNat (List.drop (Ev.loOf (some (IntKind.i64.wrap (x2 * x14)))).toNat x16))
  (fun y9 =>
  bif y9 then
  (f90 (x9) (x10) (x11) (x12) (x13)
  (fun y14 =>
  (f99_cf0 (IntKind.i64.wrap (x0 + y14)) ((1 : Int)) (x3) (x4) (x5) (x6) (x7) (x8)
  (fun (y18_0, y18_1, y18_2, y18_3, y18_4, y18_5, y18_6) =>
  c (x0, x1, IntKind.i64.wrap (x2 + (1 : Int)), y18_1, y18_2, y18_3, y18_4, y18_5, y18_6, x9, x10, x11, x12, x13, x14, x15, x16, x17, x18, x19, y5_0, y5_1, y5_2, y5_3))
  (fun (y18_0, y18_1, y18_2, y18_3, y18_4, y18_5, y18_6) =>
  c (x0, x1, IntKind.i64.wrap (x2 + (1 : Int)), y18_1, y18_2, y18_3, y18_4, y18_5, y18_6, x9, x10, x11, x12, x13, x14, x15, x16, x17, x18, x19, y5_0, y5_1, y5_2, y5_3)))))
  else
  (f90 (x9) (x10) (x11) (x12) (x13)
  (fun y14 =>
  (f99_cf0 (IntKind.i64.wrap (x0 + y14)) ((0 : Int)) (x3) (x4) (x5) (x6) (x7) (x8)
  (fun (y18_0, y18_1, y18_2, y18_3, y18_4, y18_5, y18_6) =>
  (L_generic_put_d0e_2 fuel (x0, x2, x1, x2, x14, (0 : Int), y18_1, y18_2, y18_3, y18_4, y18_5, y18_6, x9, x10, x11, x12, x13, x14, x15, x16, x17, x18, x19, y5_0, y5_1, y5_2, y5_3)
  (fun (b2_0, b2_1, b2_2, b2_3, b2_4, b2_5, b2_6, b2_7, b2_8, b2_9, b2_10, b2_11, b2_12, b2_13, b2_14, b2_15, b2_16, b2_17, b2_18, b2_19, b2_20, b2_21, b2_22, b2_23) =>
  c (b2_0, b2_1, IntKind.i64.wrap (b2_2 + (1 : Int)), b2_3, b2_4, b2_5, b2_6, b2_7, b2_8, b2_9, b2_10, b2_11, b2_12, b2_13, b2_14, b2_15, b2_16, b2_17, b2_18, b2_19, b2_20, b2_21, b2_22, b2_23))))
  (fun (y18_0, y18_1, y18_2, y18_3, y18_4, y18_5, y18_6) =>
  (L_generic_put_d0e_2 fuel (x0, x2, x1, x2, x14, (0 : Int), y18_1, y18_2, y18_3, y18_4, y18_5, y18_6, x9, x10, x11, x12, x13, x14, x15, x16, x17, x18, x19, y5_0, y5_1, y5_2, y5_3)
  (fun (b2_0, b2_1, b2_2, b2_3, b2_4, b2_5, b2_6, b2_7, b2_8, b2_9, b2_10, b2_11, b2_12, b2_13, b2_14, b2_15, b2_16, b2_17, b2_18, b2_19, b2_20, b2_21, b2_22, b2_23) =>
  c (b2_0, b2_1, IntKind.i64.wrap (b2_2 + (1 : Int)), b2_3, b2_4, b2_5, b2_6, b2_7, b2_8, b2_9, b2_10, b2_11, b2_12, b2_13, b2_14, b2_15, b2_16, b2_17, b2_18, b2_19, b2_20, b2_21, b2_22, b2_23)))))))))))
  else none
  else
  (L_generic_put_d0e_2 fuel (x0, x2, x1, x2, x14, (0 : Int), x3, x4, x5, x6, x7, x8, x9, x10, x11, x12, x13, x14, x15, x16, x17, x18, x19, x20, x21, x22, x23)
  (fun (b2_0, b2_1, b2_2, b2_3, b2_4, b2_5, b2_6, b2_7, b2_8, b2_9, b2_10, b2_11, b2_12, b2_13, b2_14, b2_15, b2_16, b2_17, b2_18, b2_19, b2_20, b2_21, b2_22, b2_23) =>
  c (b2_0, b2_1, IntKind.i64.wrap (b2_2 + (1 : Int)), b2_3, b2_4, b2_5, b2_6, b2_7, b2_8, b2_9, b2_10, b2_11, b2_12, b2_13, b2_14, b2_15, b2_16, b2_17, b2_18, b2_19, b2_20, b2_21, b2_22, b2_23)))
  else
  b (x3, x4, x5, x6, x7, x8)
noncomputable def S_generic_put_d0e_0 (fuel : Nat) (v : Int × Int × Int × Int × Int × Int × Bool × (List Int) × (List Int) × Int × Int × Int × Bool × Int × Int × Int × (List Int) × Int × Int × (List Int) × Int × Int × (List Int) × (List (Int × Int))) (c : (Int × Int × Int × Int × Int × Int × Bool × (List Int) × (List Int) × Int × Int × Int × Bool × Int × Int × Int × (List Int) × Int × Int × (List Int) × Int × Int × (List Int) × (List (Int × Int))) → Option Ans) (B : (Int × Int × Int × Bool × (List Int) × (List Int) → Option Ans)) : Option Ans := match v with
 | (x0, x1, x2, x3, x4, x5, x6, x7, x8, x9, x10, x11, x12, x13, x14, x15, x16, x17, x18, x19, x20, x21, x22, x23) => Sg_generic_put_d0e_0 fuel (F_generic_contexts fuel) (F_generic_newPlane fuel) (F_coder_Encoder_Put_cf0 fuel) (F_generic_plane_context_a34 fuel) (F_bytes_Equal fuel) (F_generic_plane_above_b9e fuel) (F_generic_skips fuel) x0 x1 x2 x3 x4 x5 x6 x7 x8 x9 x10 x11 x12 x13 x14 x15 x16 x17 x18 x19 x20 x21 x22 x23 c B
noncomputable def L_generic_put_d0e_0 (fuel : Nat) (v : Int × Int × Int × Int × Int × Int × Bool × (List Int) × (List Int) × Int × Int × Int × Bool × Int × Int × Int × (List Int) × Int × Int × (List Int) × Int × Int × (List Int) × (List (Int × Int))) (b : (Int × Int × Int × Bool × (List Int) × (List Int) → Option Ans)) : Option Ans := iter (S_generic_put_d0e_0 fuel) fuel v b
noncomputable def J91_d0e_0 (fuel : Nat) (i : Nat) : Option Ev.Blk := Ev.look i [(100002, B91_d0e_2 fuel)]
noncomputable def T91_d0e_0 (v : Int × Int × Int × Int × Int × Int × Bool × (List Int) × (List Int) × Int × Int × Int × Bool × Int × Int × Int × (List Int) × Int × Int × (List Int) × Int × Int × (List Int) × (List (Int × Int))) : Ev.St := match v with | (x0, x1, x2, x3, x4, x5, x6, x7, x8, x9, x10, x11, x12, x13, x14, x15, x16, x17, x18, x19, x20, x21, x22, x23) => ⟨[(0, .c (.ptr 0 0)), (1, .c (.int .i64 x0)), (7, .c (.ptr 3 0)), (8, .c (.ptr 4 0)), (9, .c (.ptr 5 0)), (10, .c (.ptr 6 0)), (27, .c (.int .i64 x1)), (28, .c (.int .i64 x2))], [(0, .cells 172 (.int .i64 x3 :: .own 1 :: ctb (.int .u64 x4 :: .int .u64 x5 :: .own 2 :: .bool x6 :: []))), (1, .vec 3 (.int .i64) x7 false), (2, .vec 5 (.int .u8) x8 true), (3, .cells 46 [.int .i64 x9, .int .i64 x10, .int .i64 x11, .bool x12, .int .i64 x13]), (4, .cells 39 [.int .i64 x14, .int .i64 x15, .sl (.int .u8) x16]), (5, .cells 39 [.int .i64 x17, .int .i64 x18, .sl (.int .u8) x19]), (6, .cells 137 [.int .i64 x20, .int .i64 x21, .sl (.int .u8) x22, .own 7]), (7, .vec 44 (.pair (.int .i64) (.int .i64)) x23 true)], 8, 3⟩
noncomputable def E91_d0e_0 (K : Ev.Ex → Ev.St → Option Ans) : (Int × Int × Int × Bool × (List Int) × (List Int) → Option Ans) := (fun v => match v with | (x0, x1, x2, x3, x4, x5) => K .normal ⟨[], [(0, .cells 172 (.int .i64 x0 :: .own 1 :: ctb (.int .u64 x1 :: .int .u64 x2 :: .own 2 :: .bool x3 :: []))), (1, .vec 3 (.int .i64) x4 false), (2, .vec 5 (.int .u8) x5 true)], 3, 3⟩)
theorem S91_d0e_0_okg (fuel : Nat) (f90 : YF90) (f97 : YF97) (f99_cf0 : YF99_cf0) (f158_a34 : YF158_a34) (f161 : YF161) (f162_b9e : YF162_b9e) (f163 : YF163) (R : Ev.St → Option Ans) (K : Ev.Ex → Ev.St → Option Ans) (x0 x1 : Int) (x2 x3 : Int) (x4 x5 : Int) (x6 : Bool) (x7 x8 : (List Int)) (x9 x10 x11 : Int) (x12 : Bool) (x13 x14 x15 : Int) (x16 : (List Int)) (x17 x18 : Int) (x19 : (List Int)) (x20 x21 : Int) (x22 : (List Int)) (x23 : (List (Int × Int))) : evalCode tab (Gg91_d0e f90 f97 f99_cf0 f158_a34 f161 f162_b9e f163) (J91_d0e_0 fuel) kp91_d0e fuel (bodyOf 0 Try.f91) (T91_d0e_0 (x0, x1, x2, x3, x4, x5, x6, x7, x8, x9, x10, x11, x12, x13, x14, x15, x16, x17, x18, x19, x20, x21, x22, x23)) (lc kp91_d0e 4 0 R K) = Sg_generic_put_d0e_0 fuel f90 f97 f99_cf0 f158_a34 f161 f162_b9e f163 x0 x1 x2 x3 x4 x5 x6 x7 x8 x9 x10 x11 x12 x13 x14 x15 x16 x17 x18 x19 x20 x21 x22 x23 (fun v => R (T91_d0e_0 v)) (E91_d0e_0 K) := by
  kernel_rfl
theorem S91_d0e_0_ok (fuel : Nat) (R : Ev.St → Option Ans) (K : Ev.Ex → Ev.St → Option Ans) (x0 x1 : Int) (x2 x3 : Int) (x4 x5 : Int) (x6 : Bool) (x7 x8 : (List Int)) (x9 x10 x11 : Int) (x12 : Bool) (x13 x14 x15 : Int) (x16 : (List Int)) (x17 x18 : Int) (x19 : (List Int)) (x20 x21 : Int) (x22 : (List Int)) (x23 : (List (Int × Int))) : evalCode tab (G91_d0e fuel) (J91_d0e_0 fuel) kp91_d0e fuel (bodyOf 0 Try.f91) (T91_d0e_0 (x0, x1, x2, x3, x4, x5, x6, x7, x8, x9, x10, x11, x12, x13, x14, x15, x16, x17, x18, x19, x20, x21, x22, x23)) (lc kp91_d0e 4 0 R K) = S_generic_put_d0e_0 fuel (x0, x1, x2, x3, x4, x5, x6, x7, x8, x9, x10, x11, x12, x13, x14, x15, x16, x17, x18, x19, x20, x21, x22, x23) (fun v => R (T91_d0e_0 v)) (E91_d0e_0 K) :=
  S91_d0e_0_okg fuel (F_generic_contexts fuel) (F_generic_newPlane fuel) (F_coder_Encoder_Put_cf0 fuel) (F_generic_plane_context_a34 fuel) (F_bytes_Equal fuel) (F_generic_plane_above_b9e fuel) (F_generic_skips fuel) R K x0 x1 x2 x3 x4 x5 x6 x7 x8 x9 x10 x11 x12 x13 x14 x15 x16 x17 x18 x19 x20 x21 x22 x23
noncomputable def B91_d0e_0 (fuel : Nat) : Ev.Blk := fun st K => match canonO (kp91_d0e 4) st with
 | some s => (match s with
 | ⟨[(q0, .c (.ptr q1 q2)), (q3, .c (.int .i64 x0)), (q4, .c (.ptr q5 q6)), (q7, .c (.ptr q8 q9)), (q10, .c (.ptr q11 q12)), (q13, .c (.ptr q14 q15)), (q16, .c (.int .i64 x1)), (q17, .c (.int .i64 x2))], [(q18, .cells q19 cs0), (q20, .vec q21 (.int .i64) x7 false), (q22, .vec q23 (.int .u8) x8 true), (q24, .cells q25 [.int .i64 x9, .int .i64 x10, .int .i64 x11, .bool x12, .int .i64 x13]), (q26, .cells q27 [.int .i64 x14, .int .i64 x15, .sl (.int .u8) x16]), (q28, .cells q29 [.int .i64 x17, .int .i64 x18, .sl (.int .u8) x19]), (q30, .cells q31 [.int .i64 x20, .int .i64 x21, .sl (.int .u8) x22, .own q32]), (q33, .vec q34 (.pair (.int .i64) (.int .i64)) x23 true)], q35, q36⟩ => (match splitRun 2 ctn cs0 with | some ([.int .i64 x3, .own q37], [.int .u64 x4, .int .u64 x5, .own q38, .bool x6]) => bif Nat.beq q0 0 && Nat.beq q1 0 && Nat.beq q2 0 && Nat.beq q3 1 && Nat.beq q4 7 && Nat.beq q5 3 && Nat.beq q6 0 && Nat.beq q7 8 && Nat.beq q8 4 && Nat.beq q9 0 && Nat.beq q10 9 && Nat.beq q11 5 && Nat.beq q12 0 && Nat.beq q13 10 && Nat.beq q14 6 && Nat.beq q15 0 && Nat.beq q16 27 && Nat.beq q17 28 && Nat.beq q18 0 && Nat.beq q19 172 && Nat.beq q20 1 && Nat.beq q21 3 && Nat.beq q22 2 && Nat.beq q23 5 && Nat.beq q24 3 && Nat.beq q25 46 && Nat.beq q26 4 && Nat.beq q27 39 && Nat.beq q28 5 && Nat.beq q29 39 && Nat.beq q30 6 && Nat.beq q31 137 && Nat.beq q32 7 && Nat.beq q33 7 && Nat.beq q34 44 && Nat.beq q35 8 && Nat.beq q36 3 && Nat.beq q37 1 && Nat.beq q38 2 then iter (S_generic_put_d0e_0 fuel) fuel (x0, x1, x2, x3, x4, x5, x6, x7, x8, x9, x10, x11, x12, x13, x14, x15, x16, x17, x18, x19, x20, x21, x22, x23) (E91_d0e_0 K) else none | _ => none)
 | _ => none)
 | none => none
theorem B91_d0e_0_ok (fuel : Nat) (st : Ev.St) (K : Ev.Ex → Ev.St → Option Ans) (r : Ans) (h : B91_d0e_0 fuel st K = some r) : evalCode tab (G91_d0e fuel) (J91_d0e_0 fuel) kp91_d0e fuel (.block 0 (.loop (bodyOf 0 Try.f91))) st K = some r := by
  unfold B91_d0e_0 at h
  split at h
  · rename_i s hs
    split at h
    · skip
      split at h
      rotate_left 1
      · cases h
      rename_i hsp
      have esp := splitRun_eq hsp
      subst esp
      obtain ⟨hb, h⟩ := cond_some' h
      simp only [Bool.and_eq_true, Nat.beq_eq, decide_eq_true_eq] at hb
      obtain ⟨⟨⟨⟨⟨⟨⟨⟨⟨⟨⟨⟨⟨⟨⟨⟨⟨⟨⟨⟨⟨⟨⟨⟨⟨⟨⟨⟨⟨⟨⟨⟨⟨⟨⟨⟨⟨⟨rfl, rfl⟩, rfl⟩, rfl⟩, rfl⟩, rfl⟩, rfl⟩, rfl⟩, rfl⟩, rfl⟩, rfl⟩, rfl⟩, rfl⟩, rfl⟩, rfl⟩, rfl⟩, rfl⟩, rfl⟩, rfl⟩, rfl⟩, rfl⟩, rfl⟩, rfl⟩, rfl⟩, rfl⟩, rfl⟩, rfl⟩, rfl⟩, rfl⟩, rfl⟩, rfl⟩, rfl⟩, rfl⟩, rfl⟩, rfl⟩, rfl⟩, rfl⟩, rfl⟩, rfl⟩ := hb
      exact blk_loop (S := T91_d0e_0) (ks := E91_d0e_0) (step := S_generic_put_d0e_0 fuel) (v := (_, _, _, _, _, _, _, _, _, _, _, _, _, _, _, _, _, _, _, _, _, _, _, _)) (by kernel_rfl) (by kernel_rfl) (fun R K v => by obtain ⟨x0, x1, x2, x3, x4, x5, x6, x7, x8, x9, x10, x11, x12, x13, x14, x15, x16, x17, x18, x19, x20, x21, x22, x23⟩ := v; exact S91_d0e_0_ok fuel R K x0 x1 x2 x3 x4 x5 x6 x7 x8 x9 x10 x11 x12 x13 x14 x15 x16 x17 x18 x19 x20 x21 x22 x23) hs h
    · cases h
  · cases h
noncomputable def J91_d0e (fuel : Nat) (i : Nat) : Option Ev.Blk := Ev.look i [(100002, B91_d0e_2 fuel), (100000, B91_d0e_0 fuel)]
noncomputable def Fg_generic_put_d0e (fuel : Nat) (f90 : YF90) (f97 : YF97) (f99_cf0 : YF99_cf0) (f158_a34 : YF158_a34) (f161 : YF161) (f162_b9e : YF162_b9e) (f163 : YF163) (x0 x1 : Int) (x2 x3 : Int) (x4 : Bool) (x5 x6 x7 : Int) (x8 : (List Int)) (x9 x10 : Int) (x11 : (List Int)) (x12 x13 x14 : Int) (x15 : Bool) (x16 x17 : (List Int)) (k0 : (Int × Int × Int × Bool × (List Int) × (List Int)) → Option Ans) : Option Ans :=
  (f97 (x1) (x2) (x3) (x4) (x5) (x6) (x7)
  (fun (y2_0, y2_1, y2_2, y2_3) =>
  (L_generic_put_d0e_0 fuel (x0, x7, (0 : Int), x12, x13, x14, x15, x16, x17, x1, x2, x3, x4, x5, x6, x7, x8, x9, x10, x11, y2_0, y2_1, x8, y2_3)
  (fun (b0_0, b0_1, b0_2, b0_3, b0_4, b0_5) =>
  k0 (b0_0, b0_1, b0_2, b0_3, b0_4, b0_5)))))
noncomputable def F_generic_put_d0e (fuel : Nat) (x0 x1 : Int) (x2 x3 : Int) (x4 : Bool) (x5 x6 x7 : Int) (x8 : (List Int)) (x9 x10 : Int) (x11 : (List Int)) (x12 x13 x14 : Int) (x15 : Bool) (x16 x17 : (List Int)) (k0 : (Int × Int × Int × Bool × (List Int) × (List Int)) → Option Ans) : Option Ans := Fg_generic_put_d0e fuel (F_generic_contexts fuel) (F_generic_newPlane fuel) (F_coder_Encoder_Put_cf0 fuel) (F_generic_plane_context_a34 fuel) (F_bytes_Equal fuel) (F_generic_plane_above_b9e fuel) (F_generic_skips fuel) x0 x1 x2 x3 x4 x5 x6 x7 x8 x9 x10 x11 x12 x13 x14 x15 x16 x17 k0
abbrev YF91_d0e : Type := (Int) → (Int) → (Int) → (Int) → (Bool) → (Int) → (Int) → (Int) → ((List Int)) → (Int) → (Int) → ((List Int)) → (Int) → (Int) → (Int) → (Bool) → ((List Int)) → ((List Int)) → ((Int × Int × Int × Bool × (List Int) × (List Int)) → Option Ans) → Option Ans
theorem F91_d0e_eqg (fuel : Nat) (f90 : YF90) (f97 : YF97) (f99_cf0 : YF99_cf0) (f158_a34 : YF158_a34) (f161 : YF161) (f162_b9e : YF162_b9e) (f163 : YF163) (x0 x1 : Int) (x2 x3 : Int) (x4 : Bool) (x5 x6 x7 : Int) (x8 : (List Int)) (x9 x10 : Int) (x11 : (List Int)) (x12 x13 x14 : Int) (x15 : Bool) (x16 x17 : (List Int)) (k : Ev.Cont) : evalFn tab (Gg91_d0e f90 f97 f99_cf0 f158_a34 f161 f162_b9e f163) (J91_d0e fuel) kp91_d0e fuel Try.f91 [.c (.ptr 0 0), .c (.int .i64 x0), .agg [.int .i64 x1, .int .i64 x2, .int .i64 x3, .bool x4, .int .i64 x5], .agg [.int .i64 x6, .int .i64 x7, .sl (.int .u8) x8], .agg [.int .i64 x9, .int .i64 x10, .sl (.int .u8) x11]] [.cells 172 (.int .i64 x12 :: .own 1 :: ctb (.int .u64 x13 :: .int .u64 x14 :: .own 2 :: .bool x15 :: [])), .vec 3 (.int .i64) x16 false, .vec 5 (.int .u8) x17 false] k = Fg_generic_put_d0e fuel f90 f97 f99_cf0 f158_a34 f161 f162_b9e f163 x0 x1 x2 x3 x4 x5 x6 x7 x8 x9 x10 x11 x12 x13 x14 x15 x16 x17 (fun r => match r with | (r0, r1, r2, r3, r4, r5) => k (.tup [], [.cells 172 (.int .i64 r0 :: .own 1 :: ctb (.int .u64 r1 :: .int .u64 r2 :: .own 2 :: .bool r3 :: [])), .vec 3 (.int .i64) r4 false, .vec 5 (.int .u8) r5 true])) := by
  kernel_rfl
theorem F91_d0e_eq (fuel : Nat) (x0 x1 : Int) (x2 x3 : Int) (x4 : Bool) (x5 x6 x7 : Int) (x8 : (List Int)) (x9 x10 : Int) (x11 : (List Int)) (x12 x13 x14 : Int) (x15 : Bool) (x16 x17 : (List Int)) (k : Ev.Cont) : evalFn tab (G91_d0e fuel) (J91_d0e fuel) kp91_d0e fuel Try.f91 [.c (.ptr 0 0), .c (.int .i64 x0), .agg [.int .i64 x1, .int .i64 x2, .int .i64 x3, .bool x4, .int .i64 x5], .agg [.int .i64 x6, .int .i64 x7, .sl (.int .u8) x8], .agg [.int .i64 x9, .int .i64 x10, .sl (.int .u8) x11]] [.cells 172 (.int .i64 x12 :: .own 1 :: ctb (.int .u64 x13 :: .int .u64 x14 :: .own 2 :: .bool x15 :: [])), .vec 3 (.int .i64) x16 false, .vec 5 (.int .u8) x17 false] k = F_generic_put_d0e fuel x0 x1 x2 x3 x4 x5 x6 x7 x8 x9 x10 x11 x12 x13 x14 x15 x16 x17 (fun r => match r with | (r0, r1, r2, r3, r4, r5) => k (.tup [], [.cells 172 (.int .i64 r0 :: .own 1 :: ctb (.int .u64 r1 :: .int .u64 r2 :: .own 2 :: .bool r3 :: [])), .vec 3 (.int .i64) r4 false, .vec 5 (.int .u8) r5 true])) :=
  F91_d0e_eqg fuel (F_generic_contexts fuel) (F_generic_newPlane fuel) (F_coder_Encoder_Put_cf0 fuel) (F_generic_plane_context_a34 fuel) (F_bytes_Equal fuel) (F_generic_plane_above_b9e fuel) (F_generic_skips fuel) x0 x1 x2 x3 x4 x5 x6 x7 x8 x9 x10 x11 x12 x13 x14 x15 x16 x17 k
theorem hG91_d0e (fuel : Nat) : GOK Try.prog (G91_d0e fuel) :=
  gok_cons ⟨ok90 fuel, enters_of Try.func90 (by kernel_rfl) rfl⟩ <|
  gok_cons ⟨ok97 fuel, enters_of Try.func97 (by kernel_rfl) rfl⟩ <|
  gok_cons ⟨ok99_cf0 fuel, enters_of Try.func99 (by kernel_rfl) rfl⟩ <|
  gok_cons ⟨ok158_a34 fuel, enters_of Try.func158 (by kernel_rfl) rfl⟩ <|
  gok_cons ⟨ok161 fuel, enters_of Try.func161 (by kernel_rfl) rfl⟩ <|
  gok_cons ⟨ok162_b9e fuel, enters_of Try.func162 (by kernel_rfl) rfl⟩ <|
  gok_cons ⟨ok163 fuel, enters_of Try.func163 (by kernel_rfl) rfl⟩ <|
  gok_nil
theorem B91_d0e_2_blk (fuel : Nat) : BlkOK Try.prog Try.f91.ntmps (.block 2 (.loop (bodyOf 2 Try.f91))) (B91_d0e_2 fuel) :=
  blk_of (blk_of_code tab_ok (hG91_d0e fuel) mixed (J := J91_d0e_2 fuel) (kp := kp91_d0e) (fuel := fuel) (by kernel_rfl) (fun q hq => by
    rw [(by kernel_rfl : obl (J91_d0e_2 fuel) (.block 2 (.loop (bodyOf 2 Try.f91))) = [])] at hq
    cases hq)) (B91_d0e_2_ok fuel)
theorem B91_d0e_0_blk (fuel : Nat) : BlkOK Try.prog Try.f91.ntmps (.block 0 (.loop (bodyOf 0 Try.f91))) (B91_d0e_0 fuel) :=
  blk_of (blk_of_code tab_ok (hG91_d0e fuel) mixed (J := J91_d0e_0 fuel) (kp := kp91_d0e) (fuel := fuel) (by kernel_rfl) (fun q hq => by
    rw [(by kernel_rfl : obl (J91_d0e_0 fuel) (.block 0 (.loop (bodyOf 0 Try.f91))) = [(.block 2 (.loop (bodyOf 2 Try.f91)), B91_d0e_2 fuel)])] at hq
    simp only [List.mem_cons, List.not_mem_nil, or_false] at hq
    subst hq
    · exact B91_d0e_2_blk fuel)) (B91_d0e_0_ok fuel)
theorem fok91_d0e (fuel : Nat) : FnOK Try.prog 91 (evalFn tab (G91_d0e fuel) (J91_d0e fuel) kp91_d0e fuel Try.f91) :=
  fn_ok tab_ok (hG91_d0e fuel) mixed Try.func91 (c := (Try.f91.body).getD .skip) rfl (fun q hq => by
    rw [(by kernel_rfl : obl (J91_d0e fuel) ((Try.f91.body).getD .skip) = [(.block 0 (.loop (bodyOf 0 Try.f91)), B91_d0e_0 fuel)])] at hq
    simp only [List.mem_cons, List.not_mem_nil, or_false] at hq
    subst hq
    · exact B91_d0e_0_blk fuel)
noncomputable def mt91_d0e : List Ev.SV → List Ev.Ob → Bool := fun args objs => match args, objs with
 | [.c (.ptr q0 q1), .c (.int .i64 _), .agg [.int .i64 _, .int .i64 _, .int .i64 _, .bool _, .int .i64 _], .agg [.int .i64 _, .int .i64 _, .sl (.int .u8) _], .agg [.int .i64 _, .int .i64 _, .sl (.int .u8) _]], [.cells q2 cs0, .vec q3 (.int .i64) _ false, .vec q4 (.int .u8) _ false] => (match splitRun 2 ctn cs0 with | some ([.int .i64 _, .own q5], [.int .u64 _, .int .u64 _, .own q6, .bool _]) => Nat.beq q0 0 && Nat.beq q1 0 && Nat.beq q2 172 && Nat.beq q3 3 && Nat.beq q4 5 && Nat.beq q5 1 && Nat.beq q6 2 | _ => false)
 | _, _ => false
noncomputable def spg91_d0e (F : YF91_d0e) : Ev.Spec := fun args objs k => match args, objs with
 | [.c (.ptr q0 q1), .c (.int .i64 x0), .agg [.int .i64 x1, .int .i64 x2, .int .i64 x3, .bool x4, .int .i64 x5], .agg [.int .i64 x6, .int .i64 x7, .sl (.int .u8) x8], .agg [.int .i64 x9, .int .i64 x10, .sl (.int .u8) x11]], [.cells q2 cs0, .vec q3 (.int .i64) x16 false, .vec q4 (.int .u8) x17 false] => (match splitRun 2 ctn cs0 with | some ([.int .i64 x12, .own q5], [.int .u64 x13, .int .u64 x14, .own q6, .bool x15]) => bif Nat.beq q0 0 && Nat.beq q1 0 && Nat.beq q2 172 && Nat.beq q3 3 && Nat.beq q4 5 && Nat.beq q5 1 && Nat.beq q6 2 then F x0 x1 x2 x3 x4 x5 x6 x7 x8 x9 x10 x11 x12 x13 x14 x15 x16 x17 (fun r => match r with | (r0, r1, r2, r3, r4, r5) => k (.tup [], [.cells 172 (.int .i64 r0 :: .own 1 :: ctb (.int .u64 r1 :: .int .u64 r2 :: .own 2 :: .bool r3 :: [])), .vec 3 (.int .i64) r4 false, .vec 5 (.int .u8) r5 true])) else none | _ => none)
 | _, _ => none
noncomputable def spec91_d0e (fuel : Nat) : Ev.Spec := spg91_d0e (F_generic_put_d0e fuel)
theorem ok91_d0e (fuel : Nat) : FnOK Try.prog 91 (spec91_d0e fuel) := by
  intro args objs kk r h
  unfold spec91_d0e spg91_d0e at h
  split at h
  · skip
    split at h
    rotate_left 1
    · cases h
    rename_i hsp
    have esp := splitRun_eq hsp
    subst esp
    obtain ⟨hb, h⟩ := cond_some' h
    simp only [Bool.and_eq_true, Nat.beq_eq, decide_eq_true_eq] at hb
    obtain ⟨⟨⟨⟨⟨⟨rfl, rfl⟩, rfl⟩, rfl⟩, rfl⟩, rfl⟩, rfl⟩ := hb
    exact fok91_d0e fuel _ _ kk r ((F91_d0e_eq fuel _ _ _ _ _ _ _ _ _ _ _ _ _ _ _ _ _ _ kk).trans h)
  · cases h
end Go.Proofs.Ytihfgpfofmjbaaa

set_option linter.unusedVariables false
set_option linter.unusedSimpArgs false
set_option maxRecDepth 100000
set_option maxHeartbeats 2000000
namespace Go.Proofs.Ytihfgpfofmjbaaa
open Go Ev
def kp30 (i : Nat) : Option (List Nat) := Ev.look i [(200005, [2])]
noncomputable def Gg30 (f41 : YF41) (f46 : YF46) (f88 : YF88) (f89 : YF89) (f90 : YF90) (f91_d0e : YF91_d0e) (f92_a20 : YF92_a20) (f : Nat) : Option Ev.Spec := Ev.look f [(41, spg41 f41), (46, spg46 f46), (88, spg88 f88), (89, spg89 f89), (90, spg90 f90), (91, spg91_d0e f91_d0e), (92, spg92_a20 f92_a20)]
noncomputable def G30 (fuel : Nat) : Nat → Option Ev.Spec := Gg30 (F_coder_New fuel) (F_coder_NewEncoder fuel) (F_generic_Valid fuel) (F_bitmap_Valid fuel) (F_generic_contexts fuel) (F_generic_put_d0e fuel) (F_coder_Encoder_End_a20 fuel)
noncomputable def J30 (fuel : Nat) (i : Nat) : Option Ev.Blk := Ev.look i []
noncomputable def Fg_generic_Encode (fuel : Nat) (f41 : YF41) (f46 : YF46) (f88 : YF88) (f89 : YF89) (f90 : YF90) (f91_d0e : YF91_d0e) (f92_a20 : YF92_a20) (x0 x1 x2 : Int) (x3 : Bool) (x4 x5 x6 : Int) (x7 : (List Int)) (k0 : (Int × (List Int)) → Option Ans) : Option Ans :=
  (f88 (x0) (x1) (x2) (x3) (x4)
  (fun y2 =>
  bif !y2 then
  k0 ((2 : Int), [])
  else
  (f89 (x5) (x6) (x7)
  (fun y7 =>
  bif !y7 then
  k0 ((30 : Int), [])
  else
  both ((f90 (x0) (x1) (x2) (x3) (x4)
  (fun y14 =>
  both ((f41 (x4) (IntKind.i64.wrap (y14 + (1 : Int)))
  (fun (y20_0, y20_1, y20_2) =>
  (f46 (y20_0) (y20_2)
  (fun y24 =>
  none)
  (fun (y24_0, y24_1, y24_2, y24_3, y24_4, y24_5, y24_6) =>
  (f91_d0e ((0 : Int)) (x0) (x1) (x2) (x3) (x4) (x5) (x6) (x7) ((0 : Int)) ((0 : Int)) ([]) (y24_1) (y24_2) (y24_3) (y24_4) (y24_5) (y24_6)
  (fun (y28_0, y28_1, y28_2, y28_3, y28_4, y28_5) =>
  (f92_a20 (y28_0) (y28_1) (y28_2) (y28_3) (y28_4) (y28_5)
  (fun (y32_0, y32_1, y32_2, y32_3, y32_4, y32_5, y32_6) =>
  k0 ((0 : Int), y32_6))))))))))
  ((f41 (x4) (IntKind.i64.wrap (y14 + (1 : Int)))
  (fun (y20_0, y20_1, y20_2) =>
  (f46 (y20_0) (y20_2)
  (fun y24 =>
  none)
  (fun (y24_0, y24_1, y24_2, y24_3, y24_4, y24_5, y24_6) =>
  (f91_d0e ((0 : Int)) (x0) (x1) (x2) (x3) (x4) (x5) (x6) (x7) ((0 : Int)) ((0 : Int)) ([]) (y24_1) (y24_2) (y24_3) (y24_4) (y24_5) (y24_6)
  (fun (y28_0, y28_1, y28_2, y28_3, y28_4, y28_5) =>
  (f92_a20 (y28_0) (y28_1) (y28_2) (y28_3) (y28_4) (y28_5)
  (fun (y32_0, y32_1, y32_2, y32_3, y32_4, y32_5, y32_6) =>
  k0 ((0 : Int), y32_6)))))))))))))
  ((f90 (x0) (x1) (x2) (x3) (x4)
  (fun y14 =>
  (f41 (x4) (IntKind.i64.wrap (y14 + (1 : Int)))
  (fun (y18_0, y18_1, y18_2) =>
  (f46 (y18_0) (y18_2)
  (fun y22 =>
  none)
  (fun (y22_0, y22_1, y22_2, y22_3, y22_4, y22_5, y22_6) =>
  (f91_d0e ((0 : Int)) (x0) (x1) (x2) (x3) (x4) (x5) (x6) (x7) ((0 : Int)) ((0 : Int)) ([]) (y22_1) (y22_2) (y22_3) (y22_4) (y22_5) (y22_6)
  (fun (y26_0, y26_1, y26_2, y26_3, y26_4, y26_5) =>
  (f92_a20 (y26_0) (y26_1) (y26_2) (y26_3) (y26_4) (y26_5)
  (fun (y30_0, y30_1, y30_2, y30_3, y30_4, y30_5, y30_6) =>
  k0 ((0 : Int), y30_6))))))))))))))))
noncomputable def F_generic_Encode (fuel : Nat) (x0 x1 x2 : Int) (x3 : Bool) (x4 x5 x6 : Int) (x7 : (List Int)) (k0 : (Int × (List Int)) → Option Ans) : Option Ans := Fg_generic_Encode fuel (F_coder_New fuel) (F_coder_NewEncoder fuel) (F_generic_Valid fuel) (F_bitmap_Valid fuel) (F_generic_contexts fuel) (F_generic_put_d0e fuel) (F_coder_Encoder_End_a20 fuel) x0 x1 x2 x3 x4 x5 x6 x7 k0
abbrev YF30 : Type := (Int) → (Int) → (Int) → (Bool) → (Int) → (Int) → (Int) → ((List Int)) → ((Int × (List Int)) → Option Ans) → Option Ans
theorem F30_eqg (fuel : Nat) (f41 : YF41) (f46 : YF46) (f88 : YF88) (f89 : YF89) (f90 : YF90) (f91_d0e : YF91_d0e) (f92_a20 : YF92_a20) (x0 x1 x2 : Int) (x3 : Bool) (x4 x5 x6 : Int) (x7 : (List Int)) (k : Ev.Cont) : evalFn tab (Gg30 f41 f46 f88 f89 f90 f91_d0e f92_a20) (J30 fuel) kp30 fuel Try.f30 [.agg [.int .i64 x0, .int .i64 x1, .int .i64 x2, .bool x3, .int .i64 x4], .agg [.int .i64 x5, .int .i64 x6, .sl (.int .u8) x7]] [] k = Fg_generic_Encode fuel f41 f46 f88 f89 f90 f91_d0e f92_a20 x0 x1 x2 x3 x4 x5 x6 x7 (fun r => match r with | (r0, r1) => k (.tup [(false, [.own 0]), (false, [.int .i64 r0])], [.vec 5 (.int .u8) r1 true])) := by
  kernel_rfl
theorem F30_eq (fuel : Nat) (x0 x1 x2 : Int) (x3 : Bool) (x4 x5 x6 : Int) (x7 : (List Int)) (k : Ev.Cont) : evalFn tab (G30 fuel) (J30 fuel) kp30 fuel Try.f30 [.agg [.int .i64 x0, .int .i64 x1, .int .i64 x2, .bool x3, .int .i64 x4], .agg [.int .i64 x5, .int .i64 x6, .sl (.int .u8) x7]] [] k = F_generic_Encode fuel x0 x1 x2 x3 x4 x5 x6 x7 (fun r => match r with | (r0, r1) => k (.tup [(false, [.own 0]), (false, [.int .i64 r0])], [.vec 5 (.int .u8) r1 true])) :=
  F30_eqg fuel (F_coder_New fuel) (F_coder_NewEncoder fuel) (F_generic_Valid fuel) (F_bitmap_Valid fuel) (F_generic_contexts fuel) (F_generic_put_d0e fuel) (F_coder_Encoder_End_a20 fuel) x0 x1 x2 x3 x4 x5 x6 x7 k
theorem hG30 (fuel : Nat) : GOK Try.prog (G30 fuel) :=
  gok_cons ⟨ok41 fuel, enters_of Try.func41 (by kernel_rfl) rfl⟩ <|
  gok_cons ⟨ok46 fuel, enters_of Try.func46 (by kernel_rfl) rfl⟩ <|
  gok_cons ⟨ok88 fuel, enters_of Try.func88 (by kernel_rfl) rfl⟩ <|
  gok_cons ⟨ok89 fuel, enters_of Try.func89 (by kernel_rfl) rfl⟩ <|
  gok_cons ⟨ok90 fuel, enters_of Try.func90 (by kernel_rfl) rfl⟩ <|
  gok_cons ⟨ok91_d0e fuel, enters_of Try.func91 (by kernel_rfl) rfl⟩ <|
  gok_cons ⟨ok92_a20 fuel, enters_of Try.func92 (by kernel_rfl) rfl⟩ <|
  gok_nil
theorem fok30 (fuel : Nat) : FnOK Try.prog 30 (evalFn tab (G30 fuel) (J30 fuel) kp30 fuel Try.f30) :=
  fn_ok tab_ok (hG30 fuel) mixed Try.func30 (c := (Try.f30.body).getD .skip) rfl (fun q hq => by
    rw [(by kernel_rfl : obl (J30 fuel) ((Try.f30.body).getD .skip) = [])] at hq
    cases hq)
noncomputable def mt30 : List Ev.SV → List Ev.Ob → Bool := fun args objs => match args, objs with
 | [.agg [.int .i64 _, .int .i64 _, .int .i64 _, .bool _, .int .i64 _], .agg [.int .i64 _, .int .i64 _, .sl (.int .u8) _]], [] => true
 | _, _ => false
noncomputable def spg30 (F : YF30) : Ev.Spec := fun args objs k => match args, objs with
 | [.agg [.int .i64 x0, .int .i64 x1, .int .i64 x2, .bool x3, .int .i64 x4], .agg [.int .i64 x5, .int .i64 x6, .sl (.int .u8) x7]], [] => bif true then F x0 x1 x2 x3 x4 x5 x6 x7 (fun r => match r with | (r0, r1) => k (.tup [(false, [.own 0]), (false, [.int .i64 r0])], [.vec 5 (.int .u8) r1 true])) else none
 | _, _ => none
noncomputable def spec30 (fuel : Nat) : Ev.Spec := spg30 (F_generic_Encode fuel)
theorem ok30 (fuel : Nat) : FnOK Try.prog 30 (spec30 fuel) := by
  intro args objs kk r h
  unfold spec30 spg30 at h
  split at h
  · skip
    obtain ⟨hb, h⟩ := cond_some' h
    simp only [Bool.and_eq_true, Nat.beq_eq, decide_eq_true_eq] at hb
    clear hb
    exact fok30 fuel _ _ kk r ((F30_eq fuel _ _ _ _ _ _ _ _ kk).trans h)
  · cases h
end Go.Proofs.Ytihfgpfofmjbaaa

set_option linter.unusedVariables false
set_option linter.unusedSimpArgs false
set_option maxRecDepth 100000
set_option maxHeartbeats 2000000
namespace Go.Proofs.Ytihfgpfofmjbaaa
open Go Ev
def kp85 (i : Nat) : Option (List Nat) := Ev.look i []
noncomputable def Gg85 (f88 : YF88) (f89 : YF89) (f97 : YF97) (f158_a34 : YF158_a34) (f : Nat) : Option Ev.Spec := Ev.look f [(88, spg88 f88), (89, spg89 f89), (97, spg97 f97), (158, spg158_a34 f158_a34)]
noncomputable def G85 (fuel : Nat) : Nat → Option Ev.Spec := Gg85 (F_generic_Valid fuel) (F_bitmap_Valid fuel) (F_generic_newPlane fuel) (F_generic_plane_context_a34 fuel)
noncomputable def J85 (fuel : Nat) (i : Nat) : Option Ev.Blk := Ev.look i []
noncomputable def Fg_generic_Context (fuel : Nat) (f88 : YF88) (f89 : YF89) (f97 : YF97) (f158_a34 : YF158_a34) (x0 x1 x2 : Int) (x3 : Bool) (x4 x5 x6 : Int) (x7 : (List Int)) (x8 x9 : Int) (k0 : (Int × Int) → Option Ans) : Option Ans :=
  (f88 (x0) (x1) (x2) (x3) (x4)
  (fun y2 =>
  bif !y2 then
  k0 ((0 : Int), (2 : Int))
  else
  (f89 (x5) (x6) (x7)
  (fun y7 =>
  bif !y7 then
  k0 ((0 : Int), (30 : Int))
  else
  bif decide (x8 < (0 : Int)) then
  k0 ((0 : Int), (2 : Int))
  else
  bif decide (x9 < (0 : Int)) then
  k0 ((0 : Int), (2 : Int))
  else
  bif decide (x8 ≥ x5) then
  k0 ((0 : Int), (2 : Int))
  else
  bif decide (x9 ≥ x6) then
  k0 ((0 : Int), (2 : Int))
  else
  (f97 (x0) (x1) (x2) (x3) (x4) (x5) (x6)
  (fun (y16_0, y16_1, y16_2, y16_3) =>
  (f158_a34 (x8) (x9) (y16_0) (y16_1) (x7) (y16_3)
  (fun (y20_0, y20_1, y20_2, y20_3, y20_4) =>
  k0 (y20_0, (0 : Int))))))))))
noncomputable def F_generic_Context (fuel : Nat) (x0 x1 x2 : Int) (x3 : Bool) (x4 x5 x6 : Int) (x7 : (List Int)) (x8 x9 : Int) (k0 : (Int × Int) → Option Ans) : Option Ans := Fg_generic_Context fuel (F_generic_Valid fuel) (F_bitmap_Valid fuel) (F_generic_newPlane fuel) (F_generic_plane_context_a34 fuel) x0 x1 x2 x3 x4 x5 x6 x7 x8 x9 k0
abbrev YF85 : Type := (Int) → (Int) → (Int) → (Bool) → (Int) → (Int) → (Int) → ((List Int)) → (Int) → (Int) → ((Int × Int) → Option Ans) → Option Ans
theorem F85_eqg (fuel : Nat) (f88 : YF88) (f89 : YF89) (f97 : YF97) (f158_a34 : YF158_a34) (x0 x1 x2 : Int) (x3 : Bool) (x4 x5 x6 : Int) (x7 : (List Int)) (x8 x9 : Int) (k : Ev.Cont) : evalFn tab (Gg85 f88 f89 f97 f158_a34) (J85 fuel) kp85 fuel Try.f85 [.agg [.int .i64 x0, .int .i64 x1, .int .i64 x2, .bool x3, .int .i64 x4], .agg [.int .i64 x5, .int .i64 x6, .sl (.int .u8) x7], .c (.int .i64 x8), .c (.int .i64 x9)] [] k = Fg_generic_Context fuel f88 f89 f97 f158_a34 x0 x1 x2 x3 x4 x5 x6 x7 x8 x9 (fun r => match r with | (r0, r1) => k (.tup [(false, [.int .i64 r0]), (false, [.int .i64 r1])], [])) := by
  kernel_rfl
theorem F85_eq (fuel : Nat) (x0 x1 x2 : Int) (x3 : Bool) (x4 x5 x6 : Int) (x7 : (List Int)) (x8 x9 : Int) (k : Ev.Cont) : evalFn tab (G85 fuel) (J85 fuel) kp85 fuel Try.f85 [.agg [.int .i64 x0, .int .i64 x1, .int .i64 x2, .bool x3, .int .i64 x4], .agg [.int .i64 x5, .int .i64 x6, .sl (.int .u8) x7], .c (.int .i64 x8), .c (.int .i64 x9)] [] k = F_generic_Context fuel x0 x1 x2 x3 x4 x5 x6 x7 x8 x9 (fun r => match r with | (r0, r1) => k (.tup [(false, [.int .i64 r0]), (false, [.int .i64 r1])], [])) :=
  F85_eqg fuel (F_generic_Valid fuel) (F_bitmap_Valid fuel) (F_generic_newPlane fuel) (F_generic_plane_context_a34 fuel) x0 x1 x2 x3 x4 x5 x6 x7 x8 x9 k
theorem hG85 (fuel : Nat) : GOK Try.prog (G85 fuel) :=
  gok_cons ⟨ok88 fuel, enters_of Try.func88 (by kernel_rfl) rfl⟩ <|
  gok_cons ⟨ok89 fuel, enters_of Try.func89 (by kernel_rfl) rfl⟩ <|
  gok_cons ⟨ok97 fuel, enters_of Try.func97 (by kernel_rfl) rfl⟩ <|
  gok_cons ⟨ok158_a34 fuel, enters_of Try.func158 (by kernel_rfl) rfl⟩ <|
  gok_nil
theorem fok85 (fuel : Nat) : FnOK Try.prog 85 (evalFn tab (G85 fuel) (J85 fuel) kp85 fuel Try.f85) :=
  fn_ok tab_ok (hG85 fuel) mixed Try.func85 (c := (Try.f85.body).getD .skip) rfl (fun q hq => by
    rw [(by kernel_rfl : obl (J85 fuel) ((Try.f85.body).getD .skip) = [])] at hq
    cases hq)
noncomputable def mt85 : List Ev.SV → List Ev.Ob → Bool := fun args objs => match args, objs with
 | [.agg [.int .i64 _, .int .i64 _, .int .i64 _, .bool _, .int .i64 _], .agg [.int .i64 _, .int .i64 _, .sl (.int .u8) _], .c (.int .i64 _), .c (.int .i64 _)], [] => true
 | _, _ => false
noncomputable def spg85 (F : YF85) : Ev.Spec := fun args objs k => match args, objs with
 | [.agg [.int .i64 x0, .int .i64 x1, .int .i64 x2, .bool x3, .int .i64 x4], .agg [.int .i64 x5, .int .i64 x6, .sl (.int .u8) x7], .c (.int .i64 x8), .c (.int .i64 x9)], [] => bif true then F x0 x1 x2 x3 x4 x5 x6 x7 x8 x9 (fun r => match r with | (r0, r1) => k (.tup [(false, [.int .i64 r0]), (false, [.int .i64 r1])], [])) else none
 | _, _ => none
noncomputable def spec85 (fuel : Nat) : Ev.Spec := spg85 (F_generic_Context fuel)
theorem ok85 (fuel : Nat) : FnOK Try.prog 85 (spec85 fuel) := by
  intro args objs kk r h
  unfold spec85 spg85 at h
  split at h
  · skip
    obtain ⟨hb, h⟩ := cond_some' h
    simp only [Bool.and_eq_true, Nat.beq_eq, decide_eq_true_eq] at hb
    clear hb
    exact fok85 fuel _ _ kk r ((F85_eq fuel _ _ _ _ _ _ _ _ _ _ kk).trans h)
  · cases h
end Go.Proofs.Ytihfgpfofmjbaaa

set_option linter.unusedVariables false
set_option linter.unusedSimpArgs false
set_option maxRecDepth 100000
set_option maxHeartbeats 2000000
namespace Go.Proofs.Ytihfgpfofmjbaaa
open Go Ev
def kp84 (i : Nat) : Option (List Nat) := Ev.look i []
noncomputable def Gg84 (f88 : YF88) (f90 : YF90) (f : Nat) : Option Ev.Spec := Ev.look f [(88, spg88 f88), (90, spg90 f90)]
noncomputable def G84 (fuel : Nat) : Nat → Option Ev.Spec := Gg84 (F_generic_Valid fuel) (F_generic_contexts fuel)
noncomputable def J84 (fuel : Nat) (i : Nat) : Option Ev.Blk := Ev.look i []
noncomputable def Fg_generic_Size (fuel : Nat) (f88 : YF88) (f90 : YF90) (x0 x1 x2 : Int) (x3 : Bool) (x4 : Int) (k0 : (Int × Int) → Option Ans) : Option Ans :=
  (f88 (x0) (x1) (x2) (x3) (x4)
  (fun y2 =>
  bif !y2 then
  k0 ((0 : Int), (2 : Int))
  else
  (f90 (x0) (x1) (x2) (x3) (x4)
  (fun y7 =>
  k0 (IntKind.i64.wrap (y7 + (1 : Int)), (0 : Int))))))
noncomputable def F_generic_Size (fuel : Nat) (x0 x1 x2 : Int) (x3 : Bool) (x4 : Int) (k0 : (Int × Int) → Option Ans) : Option Ans := Fg_generic_Size fuel (F_generic_Valid fuel) (F_generic_contexts fuel) x0 x1 x2 x3 x4 k0
abbrev YF84 : Type := (Int) → (Int) → (Int) → (Bool) → (Int) → ((Int × Int) → Option Ans) → Option Ans
theorem F84_eqg (fuel : Nat) (f88 : YF88) (f90 : YF90) (x0 x1 x2 : Int) (x3 : Bool) (x4 : Int) (k : Ev.Cont) : evalFn tab (Gg84 f88 f90) (J84 fuel) kp84 fuel Try.f84 [.agg [.int .i64 x0, .int .i64 x1, .int .i64 x2, .bool x3, .int .i64 x4]] [] k = Fg_generic_Size fuel f88 f90 x0 x1 x2 x3 x4 (fun r => match r with | (r0, r1) => k (.tup [(false, [.int .i64 r0]), (false, [.int .i64 r1])], [])) := by
  kernel_rfl
theorem F84_eq (fuel : Nat) (x0 x1 x2 : Int) (x3 : Bool) (x4 : Int) (k : Ev.Cont) : evalFn tab (G84 fuel) (J84 fuel) kp84 fuel Try.f84 [.agg [.int .i64 x0, .int .i64 x1, .int .i64 x2, .bool x3, .int .i64 x4]] [] k = F_generic_Size fuel x0 x1 x2 x3 x4 (fun r => match r with | (r0, r1) => k (.tup [(false, [.int .i64 r0]), (false, [.int .i64 r1])], [])) :=
  F84_eqg fuel (F_generic_Valid fuel) (F_generic_contexts fuel) x0 x1 x2 x3 x4 k
theorem hG84 (fuel : Nat) : GOK Try.prog (G84 fuel) :=
  gok_cons ⟨ok88 fuel, enters_of Try.func88 (by kernel_rfl) rfl⟩ <|
  gok_cons ⟨ok90 fuel, enters_of Try.func90 (by kernel_rfl) rfl⟩ <|
  gok_nil
theorem fok84 (fuel : Nat) : FnOK Try.prog 84 (evalFn tab (G84 fuel) (J84 fuel) kp84 fuel Try.f84) :=
  fn_ok tab_ok (hG84 fuel) mixed Try.func84 (c := (Try.f84.body).getD .skip) rfl (fun q hq => by
    rw [(by kernel_rfl : obl (J84 fuel) ((Try.f84.body).getD .skip) = [])] at hq
    cases hq)
noncomputable def mt84 : List Ev.SV → List Ev.Ob → Bool := fun args objs => match args, objs with
 | [.agg [.int .i64 _, .int .i64 _, .int .i64 _, .bool _, .int .i64 _]], [] => true
 | _, _ => false
noncomputable def spg84 (F : YF84) : Ev.Spec := fun args objs k => match args, objs with
 | [.agg [.int .i64 x0, .int .i64 x1, .int .i64 x2, .bool x3, .int .i64 x4]], [] => bif true then F x0 x1 x2 x3 x4 (fun r => match r with | (r0, r1) => k (.tup [(false, [.int .i64 r0]), (false, [.int .i64 r1])], [])) else none
 | _, _ => none
noncomputable def spec84 (fuel : Nat) : Ev.Spec := spg84 (F_generic_Size fuel)
theorem ok84 (fuel : Nat) : FnOK Try.prog 84 (spec84 fuel) := by
  intro args objs kk r h
  unfold spec84 spg84 at h
  split at h
  · skip
    obtain ⟨hb, h⟩ := cond_some' h
    simp only [Bool.and_eq_true, Nat.beq_eq, decide_eq_true_eq] at hb
    clear hb
    exact fok84 fuel _ _ kk r ((F84_eq fuel _ _ _ _ _ kk).trans h)
  · cases h
end Go.Proofs.Ytihfgpfofmjbaaa

set_option linter.unusedVariables false
set_option linter.unusedSimpArgs false
set_option maxRecDepth 100000
set_option maxHeartbeats 2000000
namespace Go.Proofs.Ytihfgpfofmjbaaa
open Go Ev
def kp27 (i : Nat) : Option (List Nat) := Ev.look i []
noncomputable def Gg27 (f84 : YF84) (f85 : YF85) (f : Nat) : Option Ev.Spec := Ev.look f [(84, spg84 f84), (85, spg85 f85)]
noncomputable def G27 (fuel : Nat) : Nat → Option Ev.Spec := Gg27 (F_generic_Size fuel) (F_generic_Context fuel)
noncomputable def J27 (fuel : Nat) (i : Nat) : Option Ev.Blk := Ev.look i []
noncomputable def Fg_law07_Sane (fuel : Nat) (f84 : YF84) (f85 : YF85)  (k0 : (Bool) → Option Ans) : Option Ans :=
  (f84 ((3 : Int)) ((2 : Int)) ((-1 : Int)) (false) ((0 : Int))
  (fun (y2_0, y2_1) =>
  (f85 ((3 : Int)) ((-2 : Int)) ((0 : Int)) (false) ((0 : Int)) ((4 : Int)) ((1 : Int)) ([(1 : Int), (0 : Int), (1 : Int), (1 : Int)]) ((2 : Int)) ((0 : Int))
  (fun (y6_0, y6_1) =>
  bif y2_1 == (0 : Int) then
  bif y2_0 == (33 : Int) then
  bif y6_1 == (0 : Int) then
  k0 (y6_0 == (1 : Int))
  else
  k0 false
  else
  k0 false
  else
  k0 false))))
noncomputable def F_law07_Sane (fuel : Nat)  (k0 : (Bool) → Option Ans) : Option Ans := Fg_law07_Sane fuel (F_generic_Size fuel) (F_generic_Context fuel) k0
abbrev YF27 : Type := ((Bool) → Option Ans) → Option Ans
theorem F27_eqg (fuel : Nat) (f84 : YF84) (f85 : YF85)  (k : Ev.Cont) : evalFn tab (Gg27 f84 f85) (J27 fuel) kp27 fuel Try.f27 [] [] k = Fg_law07_Sane fuel f84 f85 (fun r => match r with | r0 => k (.c (.bool r0), [])) := by
  kernel_rfl
theorem F27_eq (fuel : Nat)  (k : Ev.Cont) : evalFn tab (G27 fuel) (J27 fuel) kp27 fuel Try.f27 [] [] k = F_law07_Sane fuel  (fun r => match r with | r0 => k (.c (.bool r0), [])) :=
  F27_eqg fuel (F_generic_Size fuel) (F_generic_Context fuel)  k
theorem hG27 (fuel : Nat) : GOK Try.prog (G27 fuel) :=
  gok_cons ⟨ok84 fuel, enters_of Try.func84 (by kernel_rfl) rfl⟩ <|
  gok_cons ⟨ok85 fuel, enters_of Try.func85 (by kernel_rfl) rfl⟩ <|
  gok_nil
theorem fok27 (fuel : Nat) : FnOK Try.prog 27 (evalFn tab (G27 fuel) (J27 fuel) kp27 fuel Try.f27) :=
  fn_ok tab_ok (hG27 fuel) mixed Try.func27 (c := (Try.f27.body).getD .skip) rfl (fun q hq => by
    rw [(by kernel_rfl : obl (J27 fuel) ((Try.f27.body).getD .skip) = [])] at hq
    cases hq)
noncomputable def mt27 : List Ev.SV → List Ev.Ob → Bool := fun args objs => match args, objs with
 | [], [] => true
 | _, _ => false
noncomputable def spg27 (F : YF27) : Ev.Spec := fun args objs k => match args, objs with
 | [], [] => bif true then F  (fun r => match r with | r0 => k (.c (.bool r0), [])) else none
 | _, _ => none
noncomputable def spec27 (fuel : Nat) : Ev.Spec := spg27 (F_law07_Sane fuel)
theorem ok27 (fuel : Nat) : FnOK Try.prog 27 (spec27 fuel) := by
  intro args objs kk r h
  unfold spec27 spg27 at h
  split at h
  · skip
    obtain ⟨hb, h⟩ := cond_some' h
    simp only [Bool.and_eq_true, Nat.beq_eq, decide_eq_true_eq] at hb
    clear hb
    exact fok27 fuel _ _ kk r ((F27_eq fuel kk).trans h)
  · cases h
end Go.Proofs.Ytihfgpfofmjbaaa

set_option linter.unusedVariables false
set_option linter.unusedSimpArgs false
set_option maxRecDepth 100000
set_option maxHeartbeats 2000000
namespace Go.Proofs.Ytihfgpfofmjbaaa
open Go Ev
def kp26 (i : Nat) : Option (List Nat) := Ev.look i []
noncomputable def Gg26 (f : Nat) : Option Ev.Spec := Ev.look f []
noncomputable def G26 (fuel : Nat) : Nat → Option Ev.Spec := Gg26
noncomputable def J26 (fuel : Nat) (i : Nat) : Option Ev.Blk := Ev.look i []
noncomputable def F_ref05_Same (fuel : Nat) (x0 x1 : Int) (x2 : (List Int)) (x3 x4 : Int) (x5 : (List Int)) (k0 : (Bool) → Option Ans) : Option Ans :=
  bif x0 == x3 then
  bif x1 == x4 then
  k0 ((Go.strOfNums x2).toList == (Go.strOfNums x5).toList)
  else
  k0 false
  else
  k0 false
abbrev YF26 : Type := (Int) → (Int) → ((List Int)) → (Int) → (Int) → ((List Int)) → ((Bool) → Option Ans) → Option Ans
theorem F26_eq (fuel : Nat) (x0 x1 : Int) (x2 : (List Int)) (x3 x4 : Int) (x5 : (List Int)) (k : Ev.Cont) : evalFn tab (G26 fuel) (J26 fuel) kp26 fuel Try.f26 [.agg [.int .i64 x0, .int .i64 x1, .sl (.int .u8) x2], .agg [.int .i64 x3, .int .i64 x4, .sl (.int .u8) x5]] [] k = F_ref05_Same fuel x0 x1 x2 x3 x4 x5 (fun r => match r with | r0 => k (.c (.bool r0), [])) := by
  kernel_rfl
theorem hG26 (fuel : Nat) : GOK Try.prog (G26 fuel) :=
  gok_nil
theorem fok26 (fuel : Nat) : FnOK Try.prog 26 (evalFn tab (G26 fuel) (J26 fuel) kp26 fuel Try.f26) :=
  fn_ok tab_ok (hG26 fuel) mixed Try.func26 (c := (Try.f26.body).getD .skip) rfl (fun q hq => by
    rw [(by kernel_rfl : obl (J26 fuel) ((Try.f26.body).getD .skip) = [])] at hq
    cases hq)
noncomputable def mt26 : List Ev.SV → List Ev.Ob → Bool := fun args objs => match args, objs with
 | [.agg [.int .i64 _, .int .i64 _, .sl (.int .u8) _], .agg [.int .i64 _, .int .i64 _, .sl (.int .u8) _]], [] => true
 | _, _ => false
noncomputable def spg26 (F : YF26) : Ev.Spec := fun args objs k => match args, objs with
 | [.agg [.int .i64 x0, .int .i64 x1, .sl (.int .u8) x2], .agg [.int .i64 x3, .int .i64 x4, .sl (.int .u8) x5]], [] => bif true then F x0 x1 x2 x3 x4 x5 (fun r => match r with | r0 => k (.c (.bool r0), [])) else none
 | _, _ => none
noncomputable def spec26 (fuel : Nat) : Ev.Spec := spg26 (F_ref05_Same fuel)
theorem ok26 (fuel : Nat) : FnOK Try.prog 26 (spec26 fuel) := by
  intro args objs kk r h
  unfold spec26 spg26 at h
  split at h
  · skip
    obtain ⟨hb, h⟩ := cond_some' h
    simp only [Bool.and_eq_true, Nat.beq_eq, decide_eq_true_eq] at hb
    clear hb
    exact fok26 fuel _ _ kk r ((F26_eq fuel _ _ _ _ _ _ kk).trans h)
  · cases h
end Go.Proofs.Ytihfgpfofmjbaaa

set_option linter.unusedVariables false
set_option linter.unusedSimpArgs false
set_option maxRecDepth 100000
set_option maxHeartbeats 2000000
namespace Go.Proofs.Ytihfgpfofmjbaaa
open Go Ev
def kp189 (i : Nat) : Option (List Nat) := Ev.look i [(3, [1, 3, 4]), (100000, [3]), (400000, [2])]
noncomputable def Gg189 (f : Nat) : Option Ev.Spec := Ev.look f []
noncomputable def G189 (fuel : Nat) : Nat → Option Ev.Spec := Gg189
noncomputable def S_ref02_Interval_End_0 (fuel : Nat) (v : Int × Int × Int × (List Int)) (c : (Int × Int × Int × (List Int)) → Option Ans) (B : ((List Int) → Option Ans)) : Option Ans := match v, B with
 | (x0, x1, x2, x3), b =>
  bif decide (x0 < x1) then
  bif decide (IntKind.i64.wrap ((24 : Int) - IntKind.i64.wrap ((8 : Int) * (↑x3.length : Int))) < (0 : Int)) then
  none
  else
  bif decide ((x3.length + [IntKind.u8.wrap (Ev.ishr IntKind.u64 x2 (IntKind.i64.wrap ((24 : Int) - IntKind.i64.wrap ((8 : Int) * (↑x3.length : Int)))))].length) * (1 : Nat) ≤ (140737488355328 : Nat) ∧ x3.length + [IntKind.u8.wrap (Ev.ishr IntKind.u64 x2 (IntKind.i64.wrap ((24 : Int) - IntKind.i64.wrap ((8 : Int) * (↑x3.length : Int)))))].length ≤ (140737488355328 : Nat)) then
  bif decide (IntKind.i64.wrap ((24 : Int) - IntKind.i64.wrap ((8 : Int) * (↑x3.length : Int))) < (0 : Int)) then
  none
  else
  bif decide (IntKind.i64.wrap ((24 : Int) - IntKind.i64.wrap ((8 : Int) * (↑x3.length : Int))) < (0 : Int)) then
  none
  else
  c (IntKind.u64.wrap (x0 + Ev.ishl IntKind.u64 ((Ev.ishr IntKind.u64 x2 (IntKind.i64.wrap ((24 : Int) - IntKind.i64.wrap ((8 : Int) * (↑x3.length : Int))))).tmod (256 : Int)) (IntKind.i64.wrap ((24 : Int) - IntKind.i64.wrap ((8 : Int) * (↑x3.length : Int))))), x1, x2, x3 ++ [IntKind.u8.wrap (Ev.ishr IntKind.u64 x2 (IntKind.i64.wrap ((24 : Int) - IntKind.i64.wrap ((8 : Int) * (↑x3.length : Int)))))])
  else none
  else
  b x3
noncomputable def L_ref02_Interval_End_0 (fuel : Nat) (v : Int × Int × Int × (List Int)) (b : ((List Int) → Option Ans)) : Option Ans := iter (S_ref02_Interval_End_0 fuel) fuel v b
noncomputable def J189_0 (fuel : Nat) (i : Nat) : Option Ev.Blk := Ev.look i []
noncomputable def T189_0 (v : Int × Int × Int × (List Int)) : Ev.St := match v with | (x0, x1, x2, x3) => ⟨[(1, .c (.ptr 0 0)), (3, .c (.own 1)), (4, .c (.int .u64 x0))], [(0, .cells 161 [.int .u64 x1, .int .u64 x2]), (1, .vec 5 (.int .u8) x3 true)], 2, 0⟩
noncomputable def E189_0 (K : Ev.Ex → Ev.St → Option Ans) : ((List Int) → Option Ans) := (fun v => match v with | x0 => K .normal ⟨[(3, .c (.own 0))], [(0, .vec 5 (.int .u8) x0 true)], 1, 0⟩)
theorem S189_0_ok (fuel : Nat) (R : Ev.St → Option Ans) (K : Ev.Ex → Ev.St → Option Ans) (x0 x1 x2 : Int) (x3 : (List Int)) : evalCode tab (G189 fuel) (J189_0 fuel) kp189 fuel (bodyOf 0 Try.f189) (T189_0 (x0, x1, x2, x3)) (lc kp189 3 0 R K) = S_ref02_Interval_End_0 fuel (x0, x1, x2, x3) (fun v => R (T189_0 v)) (E189_0 K) := by
  kernel_rfl
noncomputable def B189_0 (fuel : Nat) : Ev.Blk := fun st K => match canonO (kp189 3) st with
 | some s => (match s with
 | ⟨[(q0, .c (.ptr q1 q2)), (q3, .c (.own q4)), (q5, .c (.int .u64 x0))], [(q6, .cells q7 [.int .u64 x1, .int .u64 x2]), (q8, .vec q9 (.int .u8) x3 true)], q10, q11⟩ => bif Nat.beq q0 1 && Nat.beq q1 0 && Nat.beq q2 0 && Nat.beq q3 3 && Nat.beq q4 1 && Nat.beq q5 4 && Nat.beq q6 0 && Nat.beq q7 161 && Nat.beq q8 1 && Nat.beq q9 5 && Nat.beq q10 2 && Nat.beq q11 0 then iter (S_ref02_Interval_End_0 fuel) fuel (x0, x1, x2, x3) (E189_0 K) else none
 | _ => none)
 | none => none
theorem B189_0_ok (fuel : Nat) (st : Ev.St) (K : Ev.Ex → Ev.St → Option Ans) (r : Ans) (h : B189_0 fuel st K = some r) : evalCode tab (G189 fuel) (J189_0 fuel) kp189 fuel (.block 0 (.loop (bodyOf 0 Try.f189))) st K = some r := by
  unfold B189_0 at h
  split at h
  · rename_i s hs
    split at h
    · skip
      obtain ⟨hb, h⟩ := cond_some' h
      simp only [Bool.and_eq_true, Nat.beq_eq, decide_eq_true_eq] at hb
      obtain ⟨⟨⟨⟨⟨⟨⟨⟨⟨⟨⟨rfl, rfl⟩, rfl⟩, rfl⟩, rfl⟩, rfl⟩, rfl⟩, rfl⟩, rfl⟩, rfl⟩, rfl⟩, rfl⟩ := hb
      exact blk_loop (S := T189_0) (ks := E189_0) (step := S_ref02_Interval_End_0 fuel) (v := (_, _, _, _)) (by kernel_rfl) (by kernel_rfl) (fun R K v => by obtain ⟨x0, x1, x2, x3⟩ := v; exact S189_0_ok fuel R K x0 x1 x2 x3) hs h
    · cases h
  · cases h
noncomputable def J189 (fuel : Nat) (i : Nat) : Option Ev.Blk := Ev.look i [(100000, B189_0 fuel)]
noncomputable def F_ref02_Interval_End (fuel : Nat) (x0 x1 : Int) (k0 : ((List Int)) → Option Ans) : Option Ans :=
  (L_ref02_Interval_End_0 fuel ((0 : Int), x0, x1, [])
  (fun b0_0 =>
  k0 b0_0))
abbrev YF189 : Type := (Int) → (Int) → (((List Int)) → Option Ans) → Option Ans
theorem F189_eq (fuel : Nat) (x0 x1 : Int) (k : Ev.Cont) : evalFn tab (G189 fuel) (J189 fuel) kp189 fuel Try.f189 [.agg [.int .u64 x0, .int .u64 x1]] [] k = F_ref02_Interval_End fuel x0 x1 (fun r => match r with | r0 => k (.c (.own 0), [.vec 5 (.int .u8) r0 true])) := by
  kernel_rfl
theorem hG189 (fuel : Nat) : GOK Try.prog (G189 fuel) :=
  gok_nil
theorem B189_0_blk (fuel : Nat) : BlkOK Try.prog Try.f189.ntmps (.block 0 (.loop (bodyOf 0 Try.f189))) (B189_0 fuel) :=
  blk_of (blk_of_code tab_ok (hG189 fuel) mixed (J := J189_0 fuel) (kp := kp189) (fuel := fuel) (by kernel_rfl) (fun q hq => by
    rw [(by kernel_rfl : obl (J189_0 fuel) (.block 0 (.loop (bodyOf 0 Try.f189))) = [])] at hq
    cases hq)) (B189_0_ok fuel)
theorem fok189 (fuel : Nat) : FnOK Try.prog 189 (evalFn tab (G189 fuel) (J189 fuel) kp189 fuel Try.f189) :=
  fn_ok tab_ok (hG189 fuel) mixed Try.func189 (c := (Try.f189.body).getD .skip) rfl (fun q hq => by
    rw [(by kernel_rfl : obl (J189 fuel) ((Try.f189.body).getD .skip) = [(.block 0 (.loop (bodyOf 0 Try.f189)), B189_0 fuel)])] at hq
    simp only [List.mem_cons, List.not_mem_nil, or_false] at hq
    subst hq
    · exact B189_0_blk fuel)
noncomputable def mt189 : List Ev.SV → List Ev.Ob → Bool := fun args objs => match args, objs with
 | [.agg [.int .u64 _, .int .u64 _]], [] => true
 | _, _ => false
noncomputable def spg189 (F : YF189) : Ev.Spec := fun args objs k => match args, objs with
 | [.agg [.int .u64 x0, .int .u64 x1]], [] => bif true then F x0 x1 (fun r => match r with | r0 => k (.c (.own 0), [.vec 5 (.int .u8) r0 true])) else none
 | _, _ => none
noncomputable def spec189 (fuel : Nat) : Ev.Spec := spg189 (F_ref02_Interval_End fuel)
theorem ok189 (fuel : Nat) : FnOK Try.prog 189 (spec189 fuel) := by
  intro args objs kk r h
  unfold spec189 spg189 at h
  split at h
  · skip
    obtain ⟨hb, h⟩ := cond_some' h
    simp only [Bool.and_eq_true, Nat.beq_eq, decide_eq_true_eq] at hb
    clear hb
    exact fok189 fuel _ _ kk r ((F189_eq fuel _ _ kk).trans h)
  · cases h
end Go.Proofs.Ytihfgpfofmjbaaa

set_option linter.unusedVariables false
set_option linter.unusedSimpArgs false
set_option maxRecDepth 100000
set_option maxHeartbeats 2000000
namespace Go.Proofs.Ytihfgpfofmjbaaa
open Go Ev
def kp130_2fe (i : Nat) : Option (List Nat) := Ev.look i [(200003, [0])]
noncomputable def Gg130_2fe (f189 : YF189) (f : Nat) : Option Ev.Spec := Ev.look f [(189, spg189 f189)]
noncomputable def G130_2fe (fuel : Nat) : Nat → Option Ev.Spec := Gg130_2fe (F_ref02_Interval_End fuel)
noncomputable def J130_2fe (fuel : Nat) (i : Nat) : Option Ev.Blk := Ev.look i []
noncomputable def Fg_ref02_Encoder_End_2fe (fuel : Nat) (f189 : YF189) (x0 x1 x2 : Int) (x3 x4 : (List Int)) (k0 : (Int × Int × Int × (List Int) × (List Int) × (List Int)) → Option Ans) : Option Ans :=
  bif decide (((0 : Nat) + x4.length) * (1 : Nat) ≤ (140737488355328 : Nat) ∧ (0 : Nat) + x4.length ≤ (140737488355328 : Nat)) then
  (f189 (x1) (x2)
  (fun y3 =>
  bif decide ((([] ++ x4).length + y3.length) * (1 : Nat) ≤ (140737488355328 : Nat) ∧ ([] ++ x4).length + y3.length ≤ (140737488355328 : Nat)) then
  k0 (x0, x1, x2, x3, x4, [] ++ x4 ++ y3)
  else none))
  else none
noncomputable def F_ref02_Encoder_End_2fe (fuel : Nat) (x0 x1 x2 : Int) (x3 x4 : (List Int)) (k0 : (Int × Int × Int × (List Int) × (List Int) × (List Int)) → Option Ans) : Option Ans := Fg_ref02_Encoder_End_2fe fuel (F_ref02_Interval_End fuel) x0 x1 x2 x3 x4 k0
abbrev YF130_2fe : Type := (Int) → (Int) → (Int) → ((List Int)) → ((List Int)) → ((Int × Int × Int × (List Int) × (List Int) × (List Int)) → Option Ans) → Option Ans
theorem F130_2fe_eqg (fuel : Nat) (f189 : YF189) (x0 x1 x2 : Int) (x3 x4 : (List Int)) (k : Ev.Cont) : evalFn tab (Gg130_2fe f189) (J130_2fe fuel) kp130_2fe fuel Try.f130 [.c (.ptr 0 0)] [.cells 225 [.int .i64 x0, .own 1, .int .u64 x1, .int .u64 x2, .own 2], .vec 3 (.int .i64) x3 false, .vec 5 (.int .u8) x4 false] k = Fg_ref02_Encoder_End_2fe fuel f189 x0 x1 x2 x3 x4 (fun r => match r with | (r0, r1, r2, r3, r4, r5) => k (.c (.own 3), [.cells 225 [.int .i64 r0, .own 1, .int .u64 r1, .int .u64 r2, .own 2], .vec 3 (.int .i64) r3 false, .vec 5 (.int .u8) r4 false, .vec 5 (.int .u8) r5 true])) := by
  kernel_rfl
theorem F130_2fe_eq (fuel : Nat) (x0 x1 x2 : Int) (x3 x4 : (List Int)) (k : Ev.Cont) : evalFn tab (G130_2fe fuel) (J130_2fe fuel) kp130_2fe fuel Try.f130 [.c (.ptr 0 0)] [.cells 225 [.int .i64 x0, .own 1, .int .u64 x1, .int .u64 x2, .own 2], .vec 3 (.int .i64) x3 false, .vec 5 (.int .u8) x4 false] k = F_ref02_Encoder_End_2fe fuel x0 x1 x2 x3 x4 (fun r => match r with | (r0, r1, r2, r3, r4, r5) => k (.c (.own 3), [.cells 225 [.int .i64 r0, .own 1, .int .u64 r1, .int .u64 r2, .own 2], .vec 3 (.int .i64) r3 false, .vec 5 (.int .u8) r4 false, .vec 5 (.int .u8) r5 true])) :=
  F130_2fe_eqg fuel (F_ref02_Interval_End fuel) x0 x1 x2 x3 x4 k
theorem hG130_2fe (fuel : Nat) : GOK Try.prog (G130_2fe fuel) :=
  gok_cons ⟨ok189 fuel, enters_of Try.func189 (by kernel_rfl) rfl⟩ <|
  gok_nil
theorem fok130_2fe (fuel : Nat) : FnOK Try.prog 130 (evalFn tab (G130_2fe fuel) (J130_2fe fuel) kp130_2fe fuel Try.f130) :=
  fn_ok tab_ok (hG130_2fe fuel) mixed Try.func130 (c := (Try.f130.body).getD .skip) rfl (fun q hq => by
    rw [(by kernel_rfl : obl (J130_2fe fuel) ((Try.f130.body).getD .skip) = [])] at hq
    cases hq)
noncomputable def mt130_2fe : List Ev.SV → List Ev.Ob → Bool := fun args objs => match args, objs with
 | [.c (.ptr q0 q1)], [.cells q2 [.int .i64 _, .own q3, .int .u64 _, .int .u64 _, .own q4], .vec q5 (.int .i64) _ false, .vec q6 (.int .u8) _ false] => Nat.beq q0 0 && Nat.beq q1 0 && Nat.beq q2 225 && Nat.beq q3 1 && Nat.beq q4 2 && Nat.beq q5 3 && Nat.beq q6 5
 | _, _ => false
noncomputable def spg130_2fe (F : YF130_2fe) : Ev.Spec := fun args objs k => match args, objs with
 | [.c (.ptr q0 q1)], [.cells q2 [.int .i64 x0, .own q3, .int .u64 x1, .int .u64 x2, .own q4], .vec q5 (.int .i64) x3 false, .vec q6 (.int .u8) x4 false] => bif Nat.beq q0 0 && Nat.beq q1 0 && Nat.beq q2 225 && Nat.beq q3 1 && Nat.beq q4 2 && Nat.beq q5 3 && Nat.beq q6 5 then F x0 x1 x2 x3 x4 (fun r => match r with | (r0, r1, r2, r3, r4, r5) => k (.c (.own 3), [.cells 225 [.int .i64 r0, .own 1, .int .u64 r1, .int .u64 r2, .own 2], .vec 3 (.int .i64) r3 false, .vec 5 (.int .u8) r4 false, .vec 5 (.int .u8) r5 true])) else none
 | _, _ => none
noncomputable def spec130_2fe (fuel : Nat) : Ev.Spec := spg130_2fe (F_ref02_Encoder_End_2fe fuel)
theorem ok130_2fe (fuel : Nat) : FnOK Try.prog 130 (spec130_2fe fuel) := by
  intro args objs kk r h
  unfold spec130_2fe spg130_2fe at h
  split at h
  · skip
    obtain ⟨hb, h⟩ := cond_some' h
    simp only [Bool.and_eq_true, Nat.beq_eq, decide_eq_true_eq] at hb
    obtain ⟨⟨⟨⟨⟨⟨rfl, rfl⟩, rfl⟩, rfl⟩, rfl⟩, rfl⟩, rfl⟩ := hb
    exact fok130_2fe fuel _ _ kk r ((F130_2fe_eq fuel _ _ _ _ _ kk).trans h)
  · cases h
end Go.Proofs.Ytihfgpfofmjbaaa

set_option linter.unusedVariables false
set_option linter.unusedSimpArgs false
set_option maxRecDepth 100000
set_option maxHeartbeats 2000000
namespace Go.Proofs.Ytihfgpfofmjbaaa
open Go Ev
def kp43 (i : Nat) : Option (List Nat) := Ev.look i []
noncomputable def Gg43 (f : Nat) : Option Ev.Spec := Ev.look f []
noncomputable def G43 (fuel : Nat) : Nat → Option Ev.Spec := Gg43
noncomputable def J43 (fuel : Nat) (i : Nat) : Option Ev.Blk := Ev.look i []
noncomputable def F_ref02_New (fuel : Nat) (x0 x1 : Int) (k0 : (Int × Int × (List Int)) → Option Ans) : Option Ans :=
  bif x0 != (0 : Int) then
  bif x0 != (1 : Int) then
  k0 ((0 : Int), (2 : Int), [])
  else
  bif decide (x1 < (0 : Int)) then
  k0 ((0 : Int), (2 : Int), [])
  else
  bif decide (x1 > (8192 : Int)) then
  k0 ((0 : Int), (2 : Int), [])
  else
  bif decide ((0 : Int) ≤ x1 ∧ x1 = x1 ∧ (↑(8 : Nat) : Int) * x1 ≤ (281474976710656 : Int) ∧ x1 ≤ (281474976710656 : Int)) then
  k0 (x0, (0 : Int), List.replicate x1.toNat (0 : Int))
  else none
  else
  bif decide (x1 < (0 : Int)) then
  k0 ((0 : Int), (2 : Int), [])
  else
  bif decide (x1 > (8192 : Int)) then
  k0 ((0 : Int), (2 : Int), [])
  else
  bif decide ((0 : Int) ≤ x1 ∧ x1 = x1 ∧ (↑(8 : Nat) : Int) * x1 ≤ (281474976710656 : Int) ∧ x1 ≤ (281474976710656 : Int)) then
  k0 (x0, (0 : Int), List.replicate x1.toNat (0 : Int))
  else none
abbrev YF43 : Type := (Int) → (Int) → ((Int × Int × (List Int)) → Option Ans) → Option Ans
theorem F43_eq (fuel : Nat) (x0 x1 : Int) (k : Ev.Cont) : evalFn tab (G43 fuel) (J43 fuel) kp43 fuel Try.f43 [.c (.int .i64 x0), .c (.int .i64 x1)] [] k = F_ref02_New fuel x0 x1 (fun r => match r with | (r0, r1, r2) => k (.tup [(true, [.int .i64 r0, .own 0]), (false, [.int .i64 r1])], [.vec 3 (.int .i64) r2 true])) := by
  kernel_rfl
theorem hG43 (fuel : Nat) : GOK Try.prog (G43 fuel) :=
  gok_nil
theorem fok43 (fuel : Nat) : FnOK Try.prog 43 (evalFn tab (G43 fuel) (J43 fuel) kp43 fuel Try.f43) :=
  fn_ok tab_ok (hG43 fuel) mixed Try.func43 (c := (Try.f43.body).getD .skip) rfl (fun q hq => by
    rw [(by kernel_rfl : obl (J43 fuel) ((Try.f43.body).getD .skip) = [])] at hq
    cases hq)
noncomputable def mt43 : List Ev.SV → List Ev.Ob → Bool := fun args objs => match args, objs with
 | [.c (.int .i64 _), .c (.int .i64 _)], [] => true
 | _, _ => false
noncomputable def spg43 (F : YF43) : Ev.Spec := fun args objs k => match args, objs with
 | [.c (.int .i64 x0), .c (.int .i64 x1)], [] => bif true then F x0 x1 (fun r => match r with | (r0, r1, r2) => k (.tup [(true, [.int .i64 r0, .own 0]), (false, [.int .i64 r1])], [.vec 3 (.int .i64) r2 true])) else none
 | _, _ => none
noncomputable def spec43 (fuel : Nat) : Ev.Spec := spg43 (F_ref02_New fuel)
theorem ok43 (fuel : Nat) : FnOK Try.prog 43 (spec43 fuel) := by
  intro args objs kk r h
  unfold spec43 spg43 at h
  split at h
  · skip
    obtain ⟨hb, h⟩ := cond_some' h
    simp only [Bool.and_eq_true, Nat.beq_eq, decide_eq_true_eq] at hb
    clear hb
    exact fok43 fuel _ _ kk r ((F43_eq fuel _ _ kk).trans h)
  · cases h
end Go.Proofs.Ytihfgpfofmjbaaa

set_option linter.unusedVariables false
set_option linter.unusedSimpArgs false
set_option maxRecDepth 100000
set_option maxHeartbeats 2000000
namespace Go.Proofs.Ytihfgpfofmjbaaa
open Go Ev
def kp117 (i : Nat) : Option (List Nat) := Ev.look i [(200001, [1])]
noncomputable def Gg117 (f : Nat) : Option Ev.Spec := Ev.look f []
noncomputable def G117 (fuel : Nat) : Nat → Option Ev.Spec := Gg117
noncomputable def J117 (fuel : Nat) (i : Nat) : Option Ev.Blk := Ev.look i []
noncomputable def F_ref02_Copy (fuel : Nat) (x0 : Int) (x1 : (List Int)) (k0 : (Int × (List Int)) → Option Ans) : Option Ans :=
  bif decide (((0 : Nat) + x1.length) * (8 : Nat) ≤ (140737488355328 : Nat) ∧ (0 : Nat) + x1.length ≤ (140737488355328 : Nat)) then
  k0 (x0, [] ++ x1)
  else none
abbrev YF117 : Type := (Int) → ((List Int)) → ((Int × (List Int)) → Option Ans) → Option Ans
theorem F117_eq (fuel : Nat) (x0 : Int) (x1 : (List Int)) (k : Ev.Cont) : evalFn tab (G117 fuel) (J117 fuel) kp117 fuel Try.f117 [.agg [.int .i64 x0, .sl (.int .i64) x1]] [] k = F_ref02_Copy fuel x0 x1 (fun r => match r with | (r0, r1) => k (.agg [.int .i64 r0, .own 0], [.vec 3 (.int .i64) r1 true])) := by
  kernel_rfl
theorem hG117 (fuel : Nat) : GOK Try.prog (G117 fuel) :=
  gok_nil
theorem fok117 (fuel : Nat) : FnOK Try.prog 117 (evalFn tab (G117 fuel) (J117 fuel) kp117 fuel Try.f117) :=
  fn_ok tab_ok (hG117 fuel) mixed Try.func117 (c := (Try.f117.body).getD .skip) rfl (fun q hq => by
    rw [(by kernel_rfl : obl (J117 fuel) ((Try.f117.body).getD .skip) = [])] at hq
    cases hq)
noncomputable def mt117 : List Ev.SV → List Ev.Ob → Bool := fun args objs => match args, objs with
 | [.agg [.int .i64 _, .sl (.int .i64) _]], [] => true
 | _, _ => false
noncomputable def spg117 (F : YF117) : Ev.Spec := fun args objs k => match args, objs with
 | [.agg [.int .i64 x0, .sl (.int .i64) x1]], [] => bif true then F x0 x1 (fun r => match r with | (r0, r1) => k (.agg [.int .i64 r0, .own 0], [.vec 3 (.int .i64) r1 true])) else none
 | _, _ => none
noncomputable def spec117 (fuel : Nat) : Ev.Spec := spg117 (F_ref02_Copy fuel)
theorem ok117 (fuel : Nat) : FnOK Try.prog 117 (spec117 fuel) := by
  intro args objs kk r h
  unfold spec117 spg117 at h
  split at h
  · skip
    obtain ⟨hb, h⟩ := cond_some' h
    simp only [Bool.and_eq_true, Nat.beq_eq, decide_eq_true_eq] at hb
    clear hb
    exact fok117 fuel _ _ kk r ((F117_eq fuel _ _ kk).trans h)
  · cases h
end Go.Proofs.Ytihfgpfofmjbaaa

set_option linter.unusedVariables false
set_option linter.unusedSimpArgs false
set_option maxRecDepth 100000
set_option maxHeartbeats 2000000
namespace Go.Proofs.Ytihfgpfofmjbaaa
open Go Ev
def kp116 (i : Nat) : Option (List Nat) := Ev.look i [(7, [3, 24, 25, 26]), (100000, []), (400000, [2])]
noncomputable def Gg116 (f : Nat) : Option Ev.Spec := Ev.look f []
noncomputable def G116 (fuel : Nat) : Nat → Option Ev.Spec := Gg116
noncomputable def S_ref02_Valid_0 (fuel : Nat) (v : Int × (List Int) × Int × Int) (c : (Int × (List Int) × Int × Int) → Option Ans) (B : (Bool → Option Ans) × (Unit → Option Ans)) : Option Ans := match v, B with
 | (x0, x1, x2, x3), (ret, b) =>
  bif decide (x3 < x2) then
  bif decide ((0 : Int) ≤ x3 ∧ x3 < (↑x1.length : Int)) then
  bif decide (x1.getD x3.toNat (0 : Int) < (0 : Int)) then
  ret false
  else
  bif decide (x1.getD x3.toNat (0 : Int) > x0) then
  ret false
  else
  c (x0, x1, x2, IntKind.i64.wrap (x3 + (1 : Int)))
  else none
  else
  b ()
noncomputable def L_ref02_Valid_0 (fuel : Nat) (v : Int × (List Int) × Int × Int) (ret : (Bool → Option Ans)) (b : (Unit → Option Ans)) : Option Ans := iter (S_ref02_Valid_0 fuel) fuel v (ret, b)
noncomputable def J116_0 (fuel : Nat) (i : Nat) : Option Ev.Blk := Ev.look i []
noncomputable def T116_0 (v : Int × (List Int) × Int × Int) : Ev.St := match v with | (x0, x1, x2, x3) => ⟨[(3, .c (.int .i64 x0)), (24, .c (.sl (.int .i64) x1)), (25, .c (.int .i64 x2)), (26, .c (.int .i64 x3))], [], 0, 0⟩
noncomputable def E116_0 (K : Ev.Ex → Ev.St → Option Ans) : (Bool → Option Ans) × (Unit → Option Ans) := ((fun v => match v with | x0 => K .ret ⟨[(2, .c (.bool x0))], [], 0, 0⟩), (fun v => match v with | () => K .normal ⟨[], [], 0, 0⟩))
theorem S116_0_ok (fuel : Nat) (R : Ev.St → Option Ans) (K : Ev.Ex → Ev.St → Option Ans) (x0 : Int) (x1 : (List Int)) (x2 x3 : Int) : evalCode tab (G116 fuel) (J116_0 fuel) kp116 fuel (bodyOf 0 Try.f116) (T116_0 (x0, x1, x2, x3)) (lc kp116 7 0 R K) = S_ref02_Valid_0 fuel (x0, x1, x2, x3) (fun v => R (T116_0 v)) (E116_0 K) := by
  kernel_rfl
noncomputable def B116_0 (fuel : Nat) : Ev.Blk := fun st K => match canonO (kp116 7) st with
 | some s => (match s with
 | ⟨[(q0, .c (.int .i64 x0)), (q1, .c (.sl (.int .i64) x1)), (q2, .c (.int .i64 x2)), (q3, .c (.int .i64 x3))], [], q4, q5⟩ => bif Nat.beq q0 3 && Nat.beq q1 24 && Nat.beq q2 25 && Nat.beq q3 26 && Nat.beq q4 0 && Nat.beq q5 0 then iter (S_ref02_Valid_0 fuel) fuel (x0, x1, x2, x3) (E116_0 K) else none
 | _ => none)
 | none => none
theorem B116_0_ok (fuel : Nat) (st : Ev.St) (K : Ev.Ex → Ev.St → Option Ans) (r : Ans) (h : B116_0 fuel st K = some r) : evalCode tab (G116 fuel) (J116_0 fuel) kp116 fuel (.block 0 (.loop (bodyOf 0 Try.f116))) st K = some r := by
  unfold B116_0 at h
  split at h
  · rename_i s hs
    split at h
    · skip
      obtain ⟨hb, h⟩ := cond_some' h
      simp only [Bool.and_eq_true, Nat.beq_eq, decide_eq_true_eq] at hb
      obtain ⟨⟨⟨⟨⟨rfl, rfl⟩, rfl⟩, rfl⟩, rfl⟩, rfl⟩ := hb
      exact blk_loop (S := T116_0) (ks := E116_0) (step := S_ref02_Valid_0 fuel) (v := (_, _, _, _)) (by kernel_rfl) (by kernel_rfl) (fun R K v => by obtain ⟨x0, x1, x2, x3⟩ := v; exact S116_0_ok fuel R K x0 x1 x2 x3) hs h
    · cases h
  · cases h
noncomputable def J116 (fuel : Nat) (i : Nat) : Option Ev.Blk := Ev.look i [(100000, B116_0 fuel)]
noncomputable def F_ref02_Valid (fuel : Nat) (x0 : Int) (x1 : (List Int)) (k0 : (Bool) → Option Ans) : Option Ans :=
  bif x0 == (1 : Int) then
  bif x0 != (0 : Int) then
  bif x0 != (1 : Int) then
  k0 false
  else
  bif decide ((↑x1.length : Int) > (8192 : Int)) then
  k0 false
  else
  (L_ref02_Valid_0 fuel ((65535 : Int), x1, (↑x1.length : Int), (0 : Int))
  (fun ret0_0 =>
  k0 ret0_0)
  (fun () =>
  k0 true))
  else
  bif decide ((↑x1.length : Int) > (8192 : Int)) then
  k0 false
  else
  (L_ref02_Valid_0 fuel ((65535 : Int), x1, (↑x1.length : Int), (0 : Int))
  (fun ret0_0 =>
  k0 ret0_0)
  (fun () =>
  k0 true))
  else
  bif x0 != (0 : Int) then
  bif x0 != (1 : Int) then
  k0 false
  else
  bif decide ((↑x1.length : Int) > (8192 : Int)) then
  k0 false
  else
  (L_ref02_Valid_0 fuel ((63 : Int), x1, (↑x1.length : Int), (0 : Int))
  (fun ret0_0 =>
  k0 ret0_0)
  (fun () =>
  k0 true))
  else
  bif decide ((↑x1.length : Int) > (8192 : Int)) then
  k0 false
  else
  (L_ref02_Valid_0 fuel ((63 : Int), x1, (↑x1.length : Int), (0 : Int))
  (fun ret0_0 =>
  k0 ret0_0)
  (fun () =>
  k0 true))
abbrev YF116 : Type := (Int) → ((List Int)) → ((Bool) → Option Ans) → Option Ans
theorem F116_eq (fuel : Nat) (x0 : Int) (x1 : (List Int)) (k : Ev.Cont) : evalFn tab (G116 fuel) (J116 fuel) kp116 fuel Try.f116 [.agg [.int .i64 x0, .sl (.int .i64) x1]] [] k = F_ref02_Valid fuel x0 x1 (fun r => match r with | r0 => k (.c (.bool r0), [])) := by
  kernel_rfl
theorem hG116 (fuel : Nat) : GOK Try.prog (G116 fuel) :=
  gok_nil
theorem B116_0_blk (fuel : Nat) : BlkOK Try.prog Try.f116.ntmps (.block 0 (.loop (bodyOf 0 Try.f116))) (B116_0 fuel) :=
  blk_of (blk_of_code tab_ok (hG116 fuel) mixed (J := J116_0 fuel) (kp := kp116) (fuel := fuel) (by kernel_rfl) (fun q hq => by
    rw [(by kernel_rfl : obl (J116_0 fuel) (.block 0 (.loop (bodyOf 0 Try.f116))) = [])] at hq
    cases hq)) (B116_0_ok fuel)
theorem fok116 (fuel : Nat) : FnOK Try.prog 116 (evalFn tab (G116 fuel) (J116 fuel) kp116 fuel Try.f116) :=
  fn_ok tab_ok (hG116 fuel) mixed Try.func116 (c := (Try.f116.body).getD .skip) rfl (fun q hq => by
    rw [(by kernel_rfl : obl (J116 fuel) ((Try.f116.body).getD .skip) = [(.block 0 (.loop (bodyOf 0 Try.f116)), B116_0 fuel)])] at hq
    simp only [List.mem_cons, List.not_mem_nil, or_false] at hq
    subst hq
    · exact B116_0_blk fuel)
noncomputable def mt116 : List Ev.SV → List Ev.Ob → Bool := fun args objs => match args, objs with
 | [.agg [.int .i64 _, .sl (.int .i64) _]], [] => true
 | _, _ => false
noncomputable def spg116 (F : YF116) : Ev.Spec := fun args objs k => match args, objs with
 | [.agg [.int .i64 x0, .sl (.int .i64) x1]], [] => bif true then F x0 x1 (fun r => match r with | r0 => k (.c (.bool r0), [])) else none
 | _, _ => none
noncomputable def spec116 (fuel : Nat) : Ev.Spec := spg116 (F_ref02_Valid fuel)
theorem ok116 (fuel : Nat) : FnOK Try.prog 116 (spec116 fuel) := by
  intro args objs kk r h
  unfold spec116 spg116 at h
  split at h
  · skip
    obtain ⟨hb, h⟩ := cond_some' h
    simp only [Bool.and_eq_true, Nat.beq_eq, decide_eq_true_eq] at hb
    clear hb
    exact fok116 fuel _ _ kk r ((F116_eq fuel _ _ kk).trans h)
  · cases h
end Go.Proofs.Ytihfgpfofmjbaaa

set_option linter.unusedVariables false
set_option linter.unusedSimpArgs false
set_option maxRecDepth 100000
set_option maxHeartbeats 2000000
namespace Go.Proofs.Ytihfgpfofmjbaaa
open Go Ev
def kp118 (i : Nat) : Option (List Nat) := Ev.look i []
noncomputable def Gg118 (f : Nat) : Option Ev.Spec := Ev.look f []
noncomputable def G118 (fuel : Nat) : Nat → Option Ev.Spec := Gg118
noncomputable def J118 (fuel : Nat) (i : Nat) : Option Ev.Blk := Ev.look i []
noncomputable def F_ref02_Whole (fuel : Nat)  (k0 : (Int × Int) → Option Ans) : Option Ans :=
  k0 ((0 : Int), (4294967295 : Int))
abbrev YF118 : Type := ((Int × Int) → Option Ans) → Option Ans
theorem F118_eq (fuel : Nat)  (k : Ev.Cont) : evalFn tab (G118 fuel) (J118 fuel) kp118 fuel Try.f118 [] [] k = F_ref02_Whole fuel  (fun r => match r with | (r0, r1) => k (.agg [.int .u64 r0, .int .u64 r1], [])) := by
  kernel_rfl
theorem hG118 (fuel : Nat) : GOK Try.prog (G118 fuel) :=
  gok_nil
theorem fok118 (fuel : Nat) : FnOK Try.prog 118 (evalFn tab (G118 fuel) (J118 fuel) kp118 fuel Try.f118) :=
  fn_ok tab_ok (hG118 fuel) mixed Try.func118 (c := (Try.f118.body).getD .skip) rfl (fun q hq => by
    rw [(by kernel_rfl : obl (J118 fuel) ((Try.f118.body).getD .skip) = [])] at hq
    cases hq)
noncomputable def mt118 : List Ev.SV → List Ev.Ob → Bool := fun args objs => match args, objs with
 | [], [] => true
 | _, _ => false
noncomputable def spg118 (F : YF118) : Ev.Spec := fun args objs k => match args, objs with
 | [], [] => bif true then F  (fun r => match r with | (r0, r1) => k (.agg [.int .u64 r0, .int .u64 r1], [])) else none
 | _, _ => none
noncomputable def spec118 (fuel : Nat) : Ev.Spec := spg118 (F_ref02_Whole fuel)
theorem ok118 (fuel : Nat) : FnOK Try.prog 118 (spec118 fuel) := by
  intro args objs kk r h
  unfold spec118 spg118 at h
  split at h
  · skip
    obtain ⟨hb, h⟩ := cond_some' h
    simp only [Bool.and_eq_true, Nat.beq_eq, decide_eq_true_eq] at hb
    clear hb
    exact fok118 fuel _ _ kk r ((F118_eq fuel kk).trans h)
  · cases h
end Go.Proofs.Ytihfgpfofmjbaaa

set_option linter.unusedVariables false
set_option linter.unusedSimpArgs false
set_option maxRecDepth 100000
set_option maxHeartbeats 2000000
namespace Go.Proofs.Ytihfgpfofmjbaaa
open Go Ev
def kp128 (i : Nat) : Option (List Nat) := Ev.look i [(600000, [])]
noncomputable def Gg128 (f116 : YF116) (f117 : YF117) (f118 : YF118) (f : Nat) : Option Ev.Spec := Ev.look f [(116, spg116 f116), (117, spg117 f117), (118, spg118 f118)]
noncomputable def G128 (fuel : Nat) : Nat → Option Ev.Spec := Gg128 (F_ref02_Valid fuel) (F_ref02_Copy fuel) (F_ref02_Whole fuel)
noncomputable def J128 (fuel : Nat) (i : Nat) : Option Ev.Blk := Ev.look i []
noncomputable def Fg_ref02_NewEncoder (fuel : Nat) (f116 : YF116) (f117 : YF117) (f118 : YF118) (x0 : Int) (x1 : (List Int)) (k0 : (Int) → Option Ans) (k1 : (Int × Int × Int × Int × (List Int) × (List Int)) → Option Ans) : Option Ans :=
  (f116 (x0) (x1)
  (fun y2 =>
  bif !y2 then
  k0 ((10 : Int))
  else
  (f117 (x0) (x1)
  (fun (y7_0, y7_1) =>
  (f118
  (fun (y11_0, y11_1) =>
  k1 ((0 : Int), y7_0, y11_0, y11_1, y7_1, [])))))))
noncomputable def F_ref02_NewEncoder (fuel : Nat) (x0 : Int) (x1 : (List Int)) (k0 : (Int) → Option Ans) (k1 : (Int × Int × Int × Int × (List Int) × (List Int)) → Option Ans) : Option Ans := Fg_ref02_NewEncoder fuel (F_ref02_Valid fuel) (F_ref02_Copy fuel) (F_ref02_Whole fuel) x0 x1 k0 k1
abbrev YF128 : Type := (Int) → ((List Int)) → ((Int) → Option Ans) → ((Int × Int × Int × Int × (List Int) × (List Int)) → Option Ans) → Option Ans
theorem F128_eqg (fuel : Nat) (f116 : YF116) (f117 : YF117) (f118 : YF118) (x0 : Int) (x1 : (List Int)) (k : Ev.Cont) : evalFn tab (Gg128 f116 f117 f118) (J128 fuel) kp128 fuel Try.f128 [.agg [.int .i64 x0, .sl (.int .i64) x1]] [] k = Fg_ref02_NewEncoder fuel f116 f117 f118 x0 x1 (fun r => match r with | r0 => k (.tup [(false, [.nilptr]), (false, [.int .i64 r0])], [])) (fun r => match r with | (r0, r1, r2, r3, r4, r5) => k (.tup [(false, [.ptr 0 0]), (false, [.int .i64 r0])], [.cells 225 [.int .i64 r1, .own 1, .int .u64 r2, .int .u64 r3, .own 2], .vec 3 (.int .i64) r4 true, .vec 5 (.int .u8) r5 true])) := by
  kernel_rfl
theorem F128_eq (fuel : Nat) (x0 : Int) (x1 : (List Int)) (k : Ev.Cont) : evalFn tab (G128 fuel) (J128 fuel) kp128 fuel Try.f128 [.agg [.int .i64 x0, .sl (.int .i64) x1]] [] k = F_ref02_NewEncoder fuel x0 x1 (fun r => match r with | r0 => k (.tup [(false, [.nilptr]), (false, [.int .i64 r0])], [])) (fun r => match r with | (r0, r1, r2, r3, r4, r5) => k (.tup [(false, [.ptr 0 0]), (false, [.int .i64 r0])], [.cells 225 [.int .i64 r1, .own 1, .int .u64 r2, .int .u64 r3, .own 2], .vec 3 (.int .i64) r4 true, .vec 5 (.int .u8) r5 true])) :=
  F128_eqg fuel (F_ref02_Valid fuel) (F_ref02_Copy fuel) (F_ref02_Whole fuel) x0 x1 k
theorem hG128 (fuel : Nat) : GOK Try.prog (G128 fuel) :=
  gok_cons ⟨ok116 fuel, enters_of Try.func116 (by kernel_rfl) rfl⟩ <|
  gok_cons ⟨ok117 fuel, enters_of Try.func117 (by kernel_rfl) rfl⟩ <|
  gok_cons ⟨ok118 fuel, enters_of Try.func118 (by kernel_rfl) rfl⟩ <|
  gok_nil
theorem fok128 (fuel : Nat) : FnOK Try.prog 128 (evalFn tab (G128 fuel) (J128 fuel) kp128 fuel Try.f128) :=
  fn_ok tab_ok (hG128 fuel) mixed Try.func128 (c := (Try.f128.body).getD .skip) rfl (fun q hq => by
    rw [(by kernel_rfl : obl (J128 fuel) ((Try.f128.body).getD .skip) = [])] at hq
    cases hq)
noncomputable def mt128 : List Ev.SV → List Ev.Ob → Bool := fun args objs => match args, objs with
 | [.agg [.int .i64 _, .sl (.int .i64) _]], [] => true
 | _, _ => false
noncomputable def spg128 (F : YF128) : Ev.Spec := fun args objs k => match args, objs with
 | [.agg [.int .i64 x0, .sl (.int .i64) x1]], [] => bif true then F x0 x1 (fun r => match r with | r0 => k (.tup [(false, [.nilptr]), (false, [.int .i64 r0])], [])) (fun r => match r with | (r0, r1, r2, r3, r4, r5) => k (.tup [(false, [.ptr 0 0]), (false, [.int .i64 r0])], [.cells 225 [.int .i64 r1, .own 1, .int .u64 r2, .int .u64 r3, .own 2], .vec 3 (.int .i64) r4 true, .vec 5 (.int .u8) r5 true])) else none
 | _, _ => none
noncomputable def spec128 (fuel : Nat) : Ev.Spec := spg128 (F_ref02_NewEncoder fuel)
theorem ok128 (fuel : Nat) : FnOK Try.prog 128 (spec128 fuel) := by
  intro args objs kk r h
  unfold spec128 spg128 at h
  split at h
  · skip
    obtain ⟨hb, h⟩ := cond_some' h
    simp only [Bool.and_eq_true, Nat.beq_eq, decide_eq_true_eq] at hb
    clear hb
    exact fok128 fuel _ _ kk r ((F128_eq fuel _ _ kk).trans h)
  · cases h
end Go.Proofs.Ytihfgpfofmjbaaa

set_option linter.unusedVariables false
set_option linter.unusedSimpArgs false
set_option maxRecDepth 100000
set_option maxHeartbeats 2000000
namespace Go.Proofs.Ytihfgpfofmjbaaa
open Go Ev
def kp187_2fe (i : Nat) : Option (List Nat) := Ev.look i []
noncomputable def Gg187_2fe (f117 : YF117) (f : Nat) : Option Ev.Spec := Ev.look f [(117, spg117 f117)]
noncomputable def G187_2fe (fuel : Nat) : Nat → Option Ev.Spec := Gg187_2fe (F_ref02_Copy fuel)
noncomputable def J187_2fe (fuel : Nat) (i : Nat) : Option Ev.Blk := Ev.look i []
noncomputable def Fg_ref02_Encoder_Model_2fe (fuel : Nat) (f117 : YF117) (x0 x1 x2 : Int) (x3 x4 : (List Int)) (k0 : (Int × Int × Int × Int × (List Int) × (List Int) × (List Int)) → Option Ans) : Option Ans :=
  (f117 (x0) (x3)
  (fun (y2_0, y2_1) =>
  k0 (y2_0, x0, x1, x2, x3, x4, y2_1)))
noncomputable def F_ref02_Encoder_Model_2fe (fuel : Nat) (x0 x1 x2 : Int) (x3 x4 : (List Int)) (k0 : (Int × Int × Int × Int × (List Int) × (List Int) × (List Int)) → Option Ans) : Option Ans := Fg_ref02_Encoder_Model_2fe fuel (F_ref02_Copy fuel) x0 x1 x2 x3 x4 k0
abbrev YF187_2fe : Type := (Int) → (Int) → (Int) → ((List Int)) → ((List Int)) → ((Int × Int × Int × Int × (List Int) × (List Int) × (List Int)) → Option Ans) → Option Ans
theorem F187_2fe_eqg (fuel : Nat) (f117 : YF117) (x0 x1 x2 : Int) (x3 x4 : (List Int)) (k : Ev.Cont) : evalFn tab (Gg187_2fe f117) (J187_2fe fuel) kp187_2fe fuel Try.f187 [.c (.ptr 0 0)] [.cells 225 [.int .i64 x0, .own 1, .int .u64 x1, .int .u64 x2, .own 2], .vec 3 (.int .i64) x3 false, .vec 5 (.int .u8) x4 false] k = Fg_ref02_Encoder_Model_2fe fuel f117 x0 x1 x2 x3 x4 (fun r => match r with | (r0, r1, r2, r3, r4, r5, r6) => k (.agg [.int .i64 r0, .own 3], [.cells 225 [.int .i64 r1, .own 1, .int .u64 r2, .int .u64 r3, .own 2], .vec 3 (.int .i64) r4 false, .vec 5 (.int .u8) r5 false, .vec 3 (.int .i64) r6 true])) := by
  kernel_rfl
theorem F187_2fe_eq (fuel : Nat) (x0 x1 x2 : Int) (x3 x4 : (List Int)) (k : Ev.Cont) : evalFn tab (G187_2fe fuel) (J187_2fe fuel) kp187_2fe fuel Try.f187 [.c (.ptr 0 0)] [.cells 225 [.int .i64 x0, .own 1, .int .u64 x1, .int .u64 x2, .own 2], .vec 3 (.int .i64) x3 false, .vec 5 (.int .u8) x4 false] k = F_ref02_Encoder_Model_2fe fuel x0 x1 x2 x3 x4 (fun r => match r with | (r0, r1, r2, r3, r4, r5, r6) => k (.agg [.int .i64 r0, .own 3], [.cells 225 [.int .i64 r1, .own 1, .int .u64 r2, .int .u64 r3, .own 2], .vec 3 (.int .i64) r4 false, .vec 5 (.int .u8) r5 false, .vec 3 (.int .i64) r6 true])) :=
  F187_2fe_eqg fuel (F_ref02_Copy fuel) x0 x1 x2 x3 x4 k
theorem hG187_2fe (fuel : Nat) : GOK Try.prog (G187_2fe fuel) :=
  gok_cons ⟨ok117 fuel, enters_of Try.func117 (by kernel_rfl) rfl⟩ <|
  gok_nil
theorem fok187_2fe (fuel : Nat) : FnOK Try.prog 187 (evalFn tab (G187_2fe fuel) (J187_2fe fuel) kp187_2fe fuel Try.f187) :=
  fn_ok tab_ok (hG187_2fe fuel) mixed Try.func187 (c := (Try.f187.body).getD .skip) rfl (fun q hq => by
    rw [(by kernel_rfl : obl (J187_2fe fuel) ((Try.f187.body).getD .skip) = [])] at hq
    cases hq)
noncomputable def mt187_2fe : List Ev.SV → List Ev.Ob → Bool := fun args objs => match args, objs with
 | [.c (.ptr q0 q1)], [.cells q2 [.int .i64 _, .own q3, .int .u64 _, .int .u64 _, .own q4], .vec q5 (.int .i64) _ false, .vec q6 (.int .u8) _ false] => Nat.beq q0 0 && Nat.beq q1 0 && Nat.beq q2 225 && Nat.beq q3 1 && Nat.beq q4 2 && Nat.beq q5 3 && Nat.beq q6 5
 | _, _ => false
noncomputable def spg187_2fe (F : YF187_2fe) : Ev.Spec := fun args objs k => match args, objs with
 | [.c (.ptr q0 q1)], [.cells q2 [.int .i64 x0, .own q3, .int .u64 x1, .int .u64 x2, .own q4], .vec q5 (.int .i64) x3 false, .vec q6 (.int .u8) x4 false] => bif Nat.beq q0 0 && Nat.beq q1 0 && Nat.beq q2 225 && Nat.beq q3 1 && Nat.beq q4 2 && Nat.beq q5 3 && Nat.beq q6 5 then F x0 x1 x2 x3 x4 (fun r => match r with | (r0, r1, r2, r3, r4, r5, r6) => k (.agg [.int .i64 r0, .own 3], [.cells 225 [.int .i64 r1, .own 1, .int .u64 r2, .int .u64 r3, .own 2], .vec 3 (.int .i64) r4 false, .vec 5 (.int .u8) r5 false, .vec 3 (.int .i64) r6 true])) else none
 | _, _ => none
noncomputable def spec187_2fe (fuel : Nat) : Ev.Spec := spg187_2fe (F_ref02_Encoder_Model_2fe fuel)
theorem ok187_2fe (fuel : Nat) : FnOK Try.prog 187 (spec187_2fe fuel) := by
  intro args objs kk r h
  unfold spec187_2fe spg187_2fe at h
  split at h
  · skip
    obtain ⟨hb, h⟩ := cond_some' h
    simp only [Bool.and_eq_true, Nat.beq_eq, decide_eq_true_eq] at hb
    obtain ⟨⟨⟨⟨⟨⟨rfl, rfl⟩, rfl⟩, rfl⟩, rfl⟩, rfl⟩, rfl⟩ := hb
    exact fok187_2fe fuel _ _ kk r ((F187_2fe_eq fuel _ _ _ _ _ kk).trans h)
  · cases h
end Go.Proofs.Ytihfgpfofmjbaaa

set_option linter.unusedVariables false
set_option linter.unusedSimpArgs false
set_option maxRecDepth 100000
set_option maxHeartbeats 2000000
namespace Go.Proofs.Ytihfgpfofmjbaaa
open Go Ev
def kp186 (i : Nat) : Option (List Nat) := Ev.look i []
noncomputable def Gg186 (f : Nat) : Option Ev.Spec := Ev.look f []
noncomputable def G186 (fuel : Nat) : Nat → Option Ev.Spec := Gg186
noncomputable def J186 (fuel : Nat) (i : Nat) : Option Ev.Blk := Ev.look i []
noncomputable def F_ref02_After (fuel : Nat) (x0 x1 x2 : Int) (k0 : (Int) → Option Ans) : Option Ans :=
  bif x0 == (0 : Int) then
  bif x2 == IntKind.i64.wrap (x1.tdiv (32 : Int)) then
  k0 (IntKind.i64.wrap (IntKind.i64.wrap ((32 : Int) * IntKind.i64.wrap (x1.tdiv (32 : Int))) + bif decide ((31 : Int) < IntKind.i64.wrap (x1.tmod (32 : Int) + (1 : Int))) then (31 : Int) else IntKind.i64.wrap (x1.tmod (32 : Int) + (1 : Int))))
  else
  bif x1.tmod (32 : Int) == (0 : Int) then
  k0 (IntKind.i64.wrap ((32 : Int) * x2))
  else
  k0 (IntKind.i64.wrap (IntKind.i64.wrap (IntKind.i64.wrap (IntKind.i64.wrap ((32 : Int) * IntKind.i64.wrap (x1.tdiv (32 : Int))) + x1.tmod (32 : Int)) - (1 : Int)) - IntKind.i64.wrap ((x1.tmod (32 : Int)).tdiv (4 : Int))))
  else
  bif decide ((0 : Int) ≤ x2 ∧ x2 < (↑(2 : Nat) : Int)) then
  bif decide (x2 = (↑(0 : Nat) : Int)) then
  bif IntKind.i64.wrap (x1.tdiv (256 : Int)) == (255 : Int) then
  bif decide ((0 : Int) ≤ x2 ∧ x2 < (↑(2 : Nat) : Int)) then
  bif decide (x2 = (↑(0 : Nat) : Int)) then
  bif decide ((0 : Int) ≤ x2 ∧ x2 < (↑(2 : Nat) : Int)) then
  bif decide (x2 = (↑(0 : Nat) : Int)) then
  k0 (IntKind.i64.wrap (IntKind.i64.wrap ((256 : Int) * IntKind.i64.wrap (IntKind.i64.wrap ((IntKind.i64.wrap (x1.tdiv (256 : Int))).tdiv (2 : Int)) + (1 : Int))) + IntKind.i64.wrap ((x1.tmod (256 : Int)).tdiv (2 : Int))))
  else
  bif decide (x2 = (↑(1 : Nat) : Int)) then
  k0 (IntKind.i64.wrap (IntKind.i64.wrap ((256 : Int) * IntKind.i64.wrap ((IntKind.i64.wrap (x1.tdiv (256 : Int))).tdiv (2 : Int))) + IntKind.i64.wrap (IntKind.i64.wrap ((IntKind.i64.wrap (x1.tdiv (256 : Int))).tdiv (2 : Int)) + (1 : Int))))
  else none
  else none
  else
  bif decide (x2 = (↑(1 : Nat) : Int)) then
  bif decide ((0 : Int) ≤ x2 ∧ x2 < (↑(2 : Nat) : Int)) then
  bif decide (x2 = (↑(0 : Nat) : Int)) then
  k0 (IntKind.i64.wrap (IntKind.i64.wrap ((256 : Int) * IntKind.i64.wrap (IntKind.i64.wrap ((x1.tmod (256 : Int)).tdiv (2 : Int)) + (1 : Int))) + IntKind.i64.wrap ((x1.tmod (256 : Int)).tdiv (2 : Int))))
  else
  bif decide (x2 = (↑(1 : Nat) : Int)) then
  k0 (IntKind.i64.wrap (IntKind.i64.wrap ((256 : Int) * IntKind.i64.wrap ((IntKind.i64.wrap (x1.tdiv (256 : Int))).tdiv (2 : Int))) + IntKind.i64.wrap (IntKind.i64.wrap ((x1.tmod (256 : Int)).tdiv (2 : Int)) + (1 : Int))))
  else none
  else none
  else none
  else none
  else
  bif decide ((0 : Int) ≤ x2 ∧ x2 < (↑(2 : Nat) : Int)) then
  bif decide (x2 = (↑(0 : Nat) : Int)) then
  bif decide ((0 : Int) ≤ x2 ∧ x2 < (↑(2 : Nat) : Int)) then
  bif decide (x2 = (↑(0 : Nat) : Int)) then
  k0 (IntKind.i64.wrap (IntKind.i64.wrap ((256 : Int) * IntKind.i64.wrap (IntKind.i64.wrap (x1.tdiv (256 : Int)) + (1 : Int))) + x1.tmod (256 : Int)))
  else
  bif decide (x2 = (↑(1 : Nat) : Int)) then
  k0 (IntKind.i64.wrap (IntKind.i64.wrap ((256 : Int) * IntKind.i64.wrap (x1.tdiv (256 : Int))) + IntKind.i64.wrap (IntKind.i64.wrap (x1.tdiv (256 : Int)) + (1 : Int))))
  else none
  else none
  else
  bif decide (x2 = (↑(1 : Nat) : Int)) then
  bif decide ((0 : Int) ≤ x2 ∧ x2 < (↑(2 : Nat) : Int)) then
  bif decide (x2 = (↑(0 : Nat) : Int)) then
  k0 (IntKind.i64.wrap (IntKind.i64.wrap ((256 : Int) * IntKind.i64.wrap (x1.tmod (256 : Int) + (1 : Int))) + x1.tmod (256 : Int)))
  else
  bif decide (x2 = (↑(1 : Nat) : Int)) then
  k0 (IntKind.i64.wrap (IntKind.i64.wrap ((256 : Int) * IntKind.i64.wrap (x1.tdiv (256 : Int))) + IntKind.i64.wrap (x1.tmod (256 : Int) + (1 : Int))))
  else none
  else none
  else none
  else none
  else
  bif decide (x2 = (↑(1 : Nat) : Int)) then
  bif x1.tmod (256 : Int) == (255 : Int) then
  bif decide ((0 : Int) ≤ x2 ∧ x2 < (↑(2 : Nat) : Int)) then
  bif decide (x2 = (↑(0 : Nat) : Int)) then
  bif decide ((0 : Int) ≤ x2 ∧ x2 < (↑(2 : Nat) : Int)) then
  bif decide (x2 = (↑(0 : Nat) : Int)) then
  k0 (IntKind.i64.wrap (IntKind.i64.wrap ((256 : Int) * IntKind.i64.wrap (IntKind.i64.wrap ((IntKind.i64.wrap (x1.tdiv (256 : Int))).tdiv (2 : Int)) + (1 : Int))) + IntKind.i64.wrap ((x1.tmod (256 : Int)).tdiv (2 : Int))))
  else
  bif decide (x2 = (↑(1 : Nat) : Int)) then
  k0 (IntKind.i64.wrap (IntKind.i64.wrap ((256 : Int) * IntKind.i64.wrap ((IntKind.i64.wrap (x1.tdiv (256 : Int))).tdiv (2 : Int))) + IntKind.i64.wrap (IntKind.i64.wrap ((IntKind.i64.wrap (x1.tdiv (256 : Int))).tdiv (2 : Int)) + (1 : Int))))
  else none
  else none
  else
  bif decide (x2 = (↑(1 : Nat) : Int)) then
  bif decide ((0 : Int) ≤ x2 ∧ x2 < (↑(2 : Nat) : Int)) then
  bif decide (x2 = (↑(0 : Nat) : Int)) then
  k0 (IntKind.i64.wrap (IntKind.i64.wrap ((256 : Int) * IntKind.i64.wrap (IntKind.i64.wrap ((x1.tmod (256 : Int)).tdiv (2 : Int)) + (1 : Int))) + IntKind.i64.wrap ((x1.tmod (256 : Int)).tdiv (2 : Int))))
  else
  bif decide (x2 = (↑(1 : Nat) : Int)) then
  k0 (IntKind.i64.wrap (IntKind.i64.wrap ((256 : Int) * IntKind.i64.wrap ((IntKind.i64.wrap (x1.tdiv (256 : Int))).tdiv (2 : Int))) + IntKind.i64.wrap (IntKind.i64.wrap ((x1.tmod (256 : Int)).tdiv (2 : Int)) + (1 : Int))))
  else none
  else none
  else none
  else none
  else
  bif decide ((0 : Int) ≤ x2 ∧ x2 < (↑(2 : Nat) : Int)) then
  bif decide (x2 = (↑(0 : Nat) : Int)) then
  bif decide ((0 : Int) ≤ x2 ∧ x2 < (↑(2 : Nat) : Int)) then
  bif decide (x2 = (↑(0 : Nat) : Int)) then
  k0 (IntKind.i64.wrap (IntKind.i64.wrap ((256 : Int) * IntKind.i64.wrap (IntKind.i64.wrap (x1.tdiv (256 : Int)) + (1 : Int))) + x1.tmod (256 : Int)))
  else
  bif decide (x2 = (↑(1 : Nat) : Int)) then
  k0 (IntKind.i64.wrap (IntKind.i64.wrap ((256 : Int) * IntKind.i64.wrap (x1.tdiv (256 : Int))) + IntKind.i64.wrap (IntKind.i64.wrap (x1.tdiv (256 : Int)) + (1 : Int))))
  else none
  else none
  else
  bif decide (x2 = (↑(1 : Nat) : Int)) then
  bif decide ((0 : Int) ≤ x2 ∧ x2 < (↑(2 : Nat) : Int)) then
  bif decide (x2 = (↑(0 : Nat) : Int)) then
  k0 (IntKind.i64.wrap (IntKind.i64.wrap ((256 : Int) * IntKind.i64.wrap (x1.tmod (256 : Int) + (1 : Int))) + x1.tmod (256 : Int)))
  else
  bif decide (x2 = (↑(1 : Nat) : Int)) then
  k0 (IntKind.i64.wrap (IntKind.i64.wrap ((256 : Int) * IntKind.i64.wrap (x1.tdiv (256 : Int))) + IntKind.i64.wrap (x1.tmod (256 : Int) + (1 : Int))))
  else none
  else none
  else none
  else none
  else none
  else none
abbrev YF186 : Type := (Int) → (Int) → (Int) → ((Int) → Option Ans) → Option Ans
theorem F186_eq (fuel : Nat) (x0 x1 x2 : Int) (k : Ev.Cont) : evalFn tab (G186 fuel) (J186 fuel) kp186 fuel Try.f186 [.c (.int .i64 x0), .c (.int .i64 x1), .c (.int .i64 x2)] [] k = F_ref02_After fuel x0 x1 x2 (fun r => match r with | r0 => k (.c (.int .i64 r0), [])) := by
  kernel_rfl
theorem hG186 (fuel : Nat) : GOK Try.prog (G186 fuel) :=
  gok_nil
theorem fok186 (fuel : Nat) : FnOK Try.prog 186 (evalFn tab (G186 fuel) (J186 fuel) kp186 fuel Try.f186) :=
  fn_ok tab_ok (hG186 fuel) mixed Try.func186 (c := (Try.f186.body).getD .skip) rfl (fun q hq => by
    rw [(by kernel_rfl : obl (J186 fuel) ((Try.f186.body).getD .skip) = [])] at hq
    cases hq)
noncomputable def mt186 : List Ev.SV → List Ev.Ob → Bool := fun args objs => match args, objs with
 | [.c (.int .i64 _), .c (.int .i64 _), .c (.int .i64 _)], [] => true
 | _, _ => false
noncomputable def spg186 (F : YF186) : Ev.Spec := fun args objs k => match args, objs with
 | [.c (.int .i64 x0), .c (.int .i64 x1), .c (.int .i64 x2)], [] => bif true then F x0 x1 x2 (fun r => match r with | r0 => k (.c (.int .i64 r0), [])) else none
 | _, _ => none
noncomputable def spec186 (fuel : Nat) : Ev.Spec := spg186 (F_ref02_After fuel)
theorem ok186 (fuel : Nat) : FnOK Try.prog 186 (spec186 fuel) := by
  intro args objs kk r h
  unfold spec186 spg186 at h
  split at h
  · skip
    obtain ⟨hb, h⟩ := cond_some' h
    simp only [Bool.and_eq_true, Nat.beq_eq, decide_eq_true_eq] at hb
    clear hb
    exact fok186 fuel _ _ kk r ((F186_eq fuel _ _ _ kk).trans h)
  · cases h
end Go.Proofs.Ytihfgpfofmjbaaa

set_option linter.unusedVariables false
set_option linter.unusedSimpArgs false
set_option maxRecDepth 100000
set_option maxHeartbeats 2000000
namespace Go.Proofs.Ytihfgpfofmjbaaa
open Go Ev
def kp184 (i : Nat) : Option (List Nat) := Ev.look i []
noncomputable def Gg184 (f : Nat) : Option Ev.Spec := Ev.look f []
noncomputable def G184 (fuel : Nat) : Nat → Option Ev.Spec := Gg184
noncomputable def J184 (fuel : Nat) (i : Nat) : Option Ev.Blk := Ev.look i []
noncomputable def F_ref02_Interval_Fixed (fuel : Nat) (x0 x1 : Int) (k0 : (Bool) → Option Ans) : Option Ans :=
  k0 (Ev.ishr IntKind.u64 x0 (24 : Int) == Ev.ishr IntKind.u64 x1 (24 : Int))
abbrev YF184 : Type := (Int) → (Int) → ((Bool) → Option Ans) → Option Ans
theorem F184_eq (fuel : Nat) (x0 x1 : Int) (k : Ev.Cont) : evalFn tab (G184 fuel) (J184 fuel) kp184 fuel Try.f184 [.agg [.int .u64 x0, .int .u64 x1]] [] k = F_ref02_Interval_Fixed fuel x0 x1 (fun r => match r with | r0 => k (.c (.bool r0), [])) := by
  kernel_rfl
theorem hG184 (fuel : Nat) : GOK Try.prog (G184 fuel) :=
  gok_nil
theorem fok184 (fuel : Nat) : FnOK Try.prog 184 (evalFn tab (G184 fuel) (J184 fuel) kp184 fuel Try.f184) :=
  fn_ok tab_ok (hG184 fuel) mixed Try.func184 (c := (Try.f184.body).getD .skip) rfl (fun q hq => by
    rw [(by kernel_rfl : obl (J184 fuel) ((Try.f184.body).getD .skip) = [])] at hq
    cases hq)
noncomputable def mt184 : List Ev.SV → List Ev.Ob → Bool := fun args objs => match args, objs with
 | [.agg [.int .u64 _, .int .u64 _]], [] => true
 | _, _ => false
noncomputable def spg184 (F : YF184) : Ev.Spec := fun args objs k => match args, objs with
 | [.agg [.int .u64 x0, .int .u64 x1]], [] => bif true then F x0 x1 (fun r => match r with | r0 => k (.c (.bool r0), [])) else none
 | _, _ => none
noncomputable def spec184 (fuel : Nat) : Ev.Spec := spg184 (F_ref02_Interval_Fixed fuel)
theorem ok184 (fuel : Nat) : FnOK Try.prog 184 (spec184 fuel) := by
  intro args objs kk r h
  unfold spec184 spg184 at h
  split at h
  · skip
    obtain ⟨hb, h⟩ := cond_some' h
    simp only [Bool.and_eq_true, Nat.beq_eq, decide_eq_true_eq] at hb
    clear hb
    exact fok184 fuel _ _ kk r ((F184_eq fuel _ _ kk).trans h)
  · cases h
end Go.Proofs.Ytihfgpfofmjbaaa

set_option linter.unusedVariables false
set_option linter.unusedSimpArgs false
set_option maxRecDepth 100000
set_option maxHeartbeats 2000000
namespace Go.Proofs.Ytihfgpfofmjbaaa
open Go Ev
def kp182 (i : Nat) : Option (List Nat) := Ev.look i []
noncomputable def Gg182 (f : Nat) : Option Ev.Spec := Ev.look f []
noncomputable def G182 (fuel : Nat) : Nat → Option Ev.Spec := Gg182
noncomputable def J182 (fuel : Nat) (i : Nat) : Option Ev.Blk := Ev.look i []
noncomputable def F_ref02_Interval_Mid (fuel : Nat) (x0 x1 x2 : Int) (k0 : (Int) → Option Ans) : Option Ans :=
  k0 (IntKind.u64.wrap (IntKind.u64.wrap (x0 + IntKind.u64.wrap (IntKind.u64.wrap ((IntKind.u64.wrap (x1 - x0)).tdiv (4096 : Int)) * IntKind.u64.wrap x2)) + IntKind.u64.wrap ((IntKind.u64.wrap ((IntKind.u64.wrap (x1 - x0)).tmod (4096 : Int) * IntKind.u64.wrap x2)).tdiv (4096 : Int))))
abbrev YF182 : Type := (Int) → (Int) → (Int) → ((Int) → Option Ans) → Option Ans
theorem F182_eq (fuel : Nat) (x0 x1 x2 : Int) (k : Ev.Cont) : evalFn tab (G182 fuel) (J182 fuel) kp182 fuel Try.f182 [.agg [.int .u64 x0, .int .u64 x1], .c (.int .i64 x2)] [] k = F_ref02_Interval_Mid fuel x0 x1 x2 (fun r => match r with | r0 => k (.c (.int .u64 r0), [])) := by
  kernel_rfl
theorem hG182 (fuel : Nat) : GOK Try.prog (G182 fuel) :=
  gok_nil
theorem fok182 (fuel : Nat) : FnOK Try.prog 182 (evalFn tab (G182 fuel) (J182 fuel) kp182 fuel Try.f182) :=
  fn_ok tab_ok (hG182 fuel) mixed Try.func182 (c := (Try.f182.body).getD .skip) rfl (fun q hq => by
    rw [(by kernel_rfl : obl (J182 fuel) ((Try.f182.body).getD .skip) = [])] at hq
    cases hq)
noncomputable def mt182 : List Ev.SV → List Ev.Ob → Bool := fun args objs => match args, objs with
 | [.agg [.int .u64 _, .int .u64 _], .c (.int .i64 _)], [] => true
 | _, _ => false
noncomputable def spg182 (F : YF182) : Ev.Spec := fun args objs k => match args, objs with
 | [.agg [.int .u64 x0, .int .u64 x1], .c (.int .i64 x2)], [] => bif true then F x0 x1 x2 (fun r => match r with | r0 => k (.c (.int .u64 r0), [])) else none
 | _, _ => none
noncomputable def spec182 (fuel : Nat) : Ev.Spec := spg182 (F_ref02_Interval_Mid fuel)
theorem ok182 (fuel : Nat) : FnOK Try.prog 182 (spec182 fuel) := by
  intro args objs kk r h
  unfold spec182 spg182 at h
  split at h
  · skip
    obtain ⟨hb, h⟩ := cond_some' h
    simp only [Bool.and_eq_true, Nat.beq_eq, decide_eq_true_eq] at hb
    clear hb
    exact fok182 fuel _ _ kk r ((F182_eq fuel _ _ _ kk).trans h)
  · cases h
end Go.Proofs.Ytihfgpfofmjbaaa

set_option linter.unusedVariables false
set_option linter.unusedSimpArgs false
set_option maxRecDepth 100000
set_option maxHeartbeats 2000000
namespace Go.Proofs.Ytihfgpfofmjbaaa
open Go Ev
def kp183 (i : Nat) : Option (List Nat) := Ev.look i [(200002, [3]), (200003, [3])]
noncomputable def Gg183 (f182 : YF182) (f : Nat) : Option Ev.Spec := Ev.look f [(182, spg182 f182)]
noncomputable def G183 (fuel : Nat) : Nat → Option Ev.Spec := Gg183 (F_ref02_Interval_Mid fuel)
noncomputable def J183 (fuel : Nat) (i : Nat) : Option Ev.Blk := Ev.look i []
noncomputable def Fg_ref02_Interval_Part (fuel : Nat) (f182 : YF182) (x0 x1 : Int) (x2 x3 : Int) (k0 : (Int × Int) → Option Ans) : Option Ans :=
  bif x3 == (1 : Int) then
  (f182 (x0) (x1) (x2)
  (fun y3 =>
  k0 (x0, y3)))
  else
  (f182 (x0) (x1) (x2)
  (fun y3 =>
  k0 (IntKind.u64.wrap (y3 + (1 : Int)), x1)))
noncomputable def F_ref02_Interval_Part (fuel : Nat) (x0 x1 : Int) (x2 x3 : Int) (k0 : (Int × Int) → Option Ans) : Option Ans := Fg_ref02_Interval_Part fuel (F_ref02_Interval_Mid fuel) x0 x1 x2 x3 k0
abbrev YF183 : Type := (Int) → (Int) → (Int) → (Int) → ((Int × Int) → Option Ans) → Option Ans
theorem F183_eqg (fuel : Nat) (f182 : YF182) (x0 x1 : Int) (x2 x3 : Int) (k : Ev.Cont) : evalFn tab (Gg183 f182) (J183 fuel) kp183 fuel Try.f183 [.agg [.int .u64 x0, .int .u64 x1], .c (.int .i64 x2), .c (.int .i64 x3)] [] k = Fg_ref02_Interval_Part fuel f182 x0 x1 x2 x3 (fun r => match r with | (r0, r1) => k (.agg [.int .u64 r0, .int .u64 r1], [])) := by
  kernel_rfl
theorem F183_eq (fuel : Nat) (x0 x1 : Int) (x2 x3 : Int) (k : Ev.Cont) : evalFn tab (G183 fuel) (J183 fuel) kp183 fuel Try.f183 [.agg [.int .u64 x0, .int .u64 x1], .c (.int .i64 x2), .c (.int .i64 x3)] [] k = F_ref02_Interval_Part fuel x0 x1 x2 x3 (fun r => match r with | (r0, r1) => k (.agg [.int .u64 r0, .int .u64 r1], [])) :=
  F183_eqg fuel (F_ref02_Interval_Mid fuel) x0 x1 x2 x3 k
theorem hG183 (fuel : Nat) : GOK Try.prog (G183 fuel) :=
  gok_cons ⟨ok182 fuel, enters_of Try.func182 (by kernel_rfl) rfl⟩ <|
  gok_nil
theorem fok183 (fuel : Nat) : FnOK Try.prog 183 (evalFn tab (G183 fuel) (J183 fuel) kp183 fuel Try.f183) :=
  fn_ok tab_ok (hG183 fuel) mixed Try.func183 (c := (Try.f183.body).getD .skip) rfl (fun q hq => by
    rw [(by kernel_rfl : obl (J183 fuel) ((Try.f183.body).getD .skip) = [])] at hq
    cases hq)
noncomputable def mt183 : List Ev.SV → List Ev.Ob → Bool := fun args objs => match args, objs with
 | [.agg [.int .u64 _, .int .u64 _], .c (.int .i64 _), .c (.int .i64 _)], [] => true
 | _, _ => false
noncomputable def spg183 (F : YF183) : Ev.Spec := fun args objs k => match args, objs with
 | [.agg [.int .u64 x0, .int .u64 x1], .c (.int .i64 x2), .c (.int .i64 x3)], [] => bif true then F x0 x1 x2 x3 (fun r => match r with | (r0, r1) => k (.agg [.int .u64 r0, .int .u64 r1], [])) else none
 | _, _ => none
noncomputable def spec183 (fuel : Nat) : Ev.Spec := spg183 (F_ref02_Interval_Part fuel)
theorem ok183 (fuel : Nat) : FnOK Try.prog 183 (spec183 fuel) := by
  intro args objs kk r h
  unfold spec183 spg183 at h
  split at h
  · skip
    obtain ⟨hb, h⟩ := cond_some' h
    simp only [Bool.and_eq_true, Nat.beq_eq, decide_eq_true_eq] at hb
    clear hb
    exact fok183 fuel _ _ kk r ((F183_eq fuel _ _ _ _ kk).trans h)
  · cases h
end Go.Proofs.Ytihfgpfofmjbaaa

set_option linter.unusedVariables false
set_option linter.unusedSimpArgs false
set_option maxRecDepth 100000
set_option maxHeartbeats 2000000
namespace Go.Proofs.Ytihfgpfofmjbaaa
open Go Ev
def kp185 (i : Nat) : Option (List Nat) := Ev.look i []
noncomputable def Gg185 (f : Nat) : Option Ev.Spec := Ev.look f []
noncomputable def G185 (fuel : Nat) : Nat → Option Ev.Spec := Gg185
noncomputable def J185 (fuel : Nat) (i : Nat) : Option Ev.Blk := Ev.look i []
noncomputable def F_ref02_Interval_Shifted (fuel : Nat) (x0 x1 : Int) (k0 : (Int × Int) → Option Ans) : Option Ans :=
  k0 (IntKind.u64.wrap (x0.tmod (16777216 : Int) * (256 : Int)), IntKind.u64.wrap (IntKind.u64.wrap (x1.tmod (16777216 : Int) * (256 : Int)) + (255 : Int)))
abbrev YF185 : Type := (Int) → (Int) → ((Int × Int) → Option Ans) → Option Ans
theorem F185_eq (fuel : Nat) (x0 x1 : Int) (k : Ev.Cont) : evalFn tab (G185 fuel) (J185 fuel) kp185 fuel Try.f185 [.agg [.int .u64 x0, .int .u64 x1]] [] k = F_ref02_Interval_Shifted fuel x0 x1 (fun r => match r with | (r0, r1) => k (.agg [.int .u64 r0, .int .u64 r1], [])) := by
  kernel_rfl
theorem hG185 (fuel : Nat) : GOK Try.prog (G185 fuel) :=
  gok_nil
theorem fok185 (fuel : Nat) : FnOK Try.prog 185 (evalFn tab (G185 fuel) (J185 fuel) kp185 fuel Try.f185) :=
  fn_ok tab_ok (hG185 fuel) mixed Try.func185 (c := (Try.f185.body).getD .skip) rfl (fun q hq => by
    rw [(by kernel_rfl : obl (J185 fuel) ((Try.f185.body).getD .skip) = [])] at hq
    cases hq)
noncomputable def mt185 : List Ev.SV → List Ev.Ob → Bool := fun args objs => match args, objs with
 | [.agg [.int .u64 _, .int .u64 _]], [] => true
 | _, _ => false
noncomputable def spg185 (F : YF185) : Ev.Spec := fun args objs k => match args, objs with
 | [.agg [.int .u64 x0, .int .u64 x1]], [] => bif true then F x0 x1 (fun r => match r with | (r0, r1) => k (.agg [.int .u64 r0, .int .u64 r1], [])) else none
 | _, _ => none
noncomputable def spec185 (fuel : Nat) : Ev.Spec := spg185 (F_ref02_Interval_Shifted fuel)
theorem ok185 (fuel : Nat) : FnOK Try.prog 185 (spec185 fuel) := by
  intro args objs kk r h
  unfold spec185 spg185 at h
  split at h
  · skip
    obtain ⟨hb, h⟩ := cond_some' h
    simp only [Bool.and_eq_true, Nat.beq_eq, decide_eq_true_eq] at hb
    clear hb
    exact fok185 fuel _ _ kk r ((F185_eq fuel _ _ kk).trans h)
  · cases h
end Go.Proofs.Ytihfgpfofmjbaaa

set_option linter.unusedVariables false
set_option linter.unusedSimpArgs false
set_option maxRecDepth 100000
set_option maxHeartbeats 2000000
namespace Go.Proofs.Ytihfgpfofmjbaaa
open Go Ev
def kp206 (i : Nat) : Option (List Nat) := Ev.look i [(3, [0, 3, 4]), (100000, [3]), (400000, [2])]
noncomputable def Gg206 (f : Nat) : Option Ev.Spec := Ev.look f []
noncomputable def G206 (fuel : Nat) : Nat → Option Ev.Spec := Gg206
noncomputable def S_ref02_unlikely_0 (fuel : Nat) (v : Int × Int × Int) (c : (Int × Int × Int) → Option Ans) (B : (Int → Option Ans)) : Option Ans := match v, B with
 | (x0, x1, x2), b =>
  bif decide (x2 < x0) then
  c (x0, IntKind.i64.wrap (x1 - IntKind.i64.wrap (x1.tdiv (8 : Int))), IntKind.i64.wrap (x2 + (1 : Int)))
  else
  b x1
noncomputable def L_ref02_unlikely_0 (fuel : Nat) (v : Int × Int × Int) (b : (Int → Option Ans)) : Option Ans := iter (S_ref02_unlikely_0 fuel) fuel v b
noncomputable def J206_0 (fuel : Nat) (i : Nat) : Option Ev.Blk := Ev.look i []
noncomputable def T206_0 (v : Int × Int × Int) : Ev.St := match v with | (x0, x1, x2) => ⟨[(0, .c (.int .i64 x0)), (3, .c (.int .i64 x1)), (4, .c (.int .i64 x2))], [], 0, 0⟩
noncomputable def E206_0 (K : Ev.Ex → Ev.St → Option Ans) : (Int → Option Ans) := (fun v => match v with | x0 => K .normal ⟨[(3, .c (.int .i64 x0))], [], 0, 0⟩)
theorem S206_0_ok (fuel : Nat) (R : Ev.St → Option Ans) (K : Ev.Ex → Ev.St → Option Ans) (x0 x1 x2 : Int) : evalCode tab (G206 fuel) (J206_0 fuel) kp206 fuel (bodyOf 0 Try.f206) (T206_0 (x0, x1, x2)) (lc kp206 3 0 R K) = S_ref02_unlikely_0 fuel (x0, x1, x2) (fun v => R (T206_0 v)) (E206_0 K) := by
  kernel_rfl
noncomputable def B206_0 (fuel : Nat) : Ev.Blk := fun st K => match canonO (kp206 3) st with
 | some s => (match s with
 | ⟨[(q0, .c (.int .i64 x0)), (q1, .c (.int .i64 x1)), (q2, .c (.int .i64 x2))], [], q3, q4⟩ => bif Nat.beq q0 0 && Nat.beq q1 3 && Nat.beq q2 4 && Nat.beq q3 0 && Nat.beq q4 0 then iter (S_ref02_unlikely_0 fuel) fuel (x0, x1, x2) (E206_0 K) else none
 | _ => none)
 | none => none
theorem B206_0_ok (fuel : Nat) (st : Ev.St) (K : Ev.Ex → Ev.St → Option Ans) (r : Ans) (h : B206_0 fuel st K = some r) : evalCode tab (G206 fuel) (J206_0 fuel) kp206 fuel (.block 0 (.loop (bodyOf 0 Try.f206))) st K = some r := by
  unfold B206_0 at h
  split at h
  · rename_i s hs
    split at h
    · skip
      obtain ⟨hb, h⟩ := cond_some' h
      simp only [Bool.and_eq_true, Nat.beq_eq, decide_eq_true_eq] at hb
      obtain ⟨⟨⟨⟨rfl, rfl⟩, rfl⟩, rfl⟩, rfl⟩ := hb
      exact blk_loop (S := T206_0) (ks := E206_0) (step := S_ref02_unlikely_0 fuel) (v := (_, _, _)) (by kernel_rfl) (by kernel_rfl) (fun R K v => by obtain ⟨x0, x1, x2⟩ := v; exact S206_0_ok fuel R K x0 x1 x2) hs h
    · cases h
  · cases h
noncomputable def J206 (fuel : Nat) (i : Nat) : Option Ev.Blk := Ev.look i [(100000, B206_0 fuel)]
noncomputable def F_ref02_unlikely (fuel : Nat) (x0 : Int) (k0 : (Int) → Option Ans) : Option Ans :=
  (L_ref02_unlikely_0 fuel (x0, (2048 : Int), (0 : Int))
  (fun b0_0 =>
  k0 b0_0))
abbrev YF206 : Type := (Int) → ((Int) → Option Ans) → Option Ans
theorem F206_eq (fuel : Nat) (x0 : Int) (k : Ev.Cont) : evalFn tab (G206 fuel) (J206 fuel) kp206 fuel Try.f206 [.c (.int .i64 x0)] [] k = F_ref02_unlikely fuel x0 (fun r => match r with | r0 => k (.c (.int .i64 r0), [])) := by
  kernel_rfl
theorem hG206 (fuel : Nat) : GOK Try.prog (G206 fuel) :=
  gok_nil
theorem B206_0_blk (fuel : Nat) : BlkOK Try.prog Try.f206.ntmps (.block 0 (.loop (bodyOf 0 Try.f206))) (B206_0 fuel) :=
  blk_of (blk_of_code tab_ok (hG206 fuel) mixed (J := J206_0 fuel) (kp := kp206) (fuel := fuel) (by kernel_rfl) (fun q hq => by
    rw [(by kernel_rfl : obl (J206_0 fuel) (.block 0 (.loop (bodyOf 0 Try.f206))) = [])] at hq
    cases hq)) (B206_0_ok fuel)
theorem fok206 (fuel : Nat) : FnOK Try.prog 206 (evalFn tab (G206 fuel) (J206 fuel) kp206 fuel Try.f206) :=
  fn_ok tab_ok (hG206 fuel) mixed Try.func206 (c := (Try.f206.body).getD .skip) rfl (fun q hq => by
    rw [(by kernel_rfl : obl (J206 fuel) ((Try.f206.body).getD .skip) = [(.block 0 (.loop (bodyOf 0 Try.f206)), B206_0 fuel)])] at hq
    simp only [List.mem_cons, List.not_mem_nil, or_false] at hq
    subst hq
    · exact B206_0_blk fuel)
noncomputable def mt206 : List Ev.SV → List Ev.Ob → Bool := fun args objs => match args, objs with
 | [.c (.int .i64 _)], [] => true
 | _, _ => false
noncomputable def spg206 (F : YF206) : Ev.Spec := fun args objs k => match args, objs with
 | [.c (.int .i64 x0)], [] => bif true then F x0 (fun r => match r with | r0 => k (.c (.int .i64 r0), [])) else none
 | _, _ => none
noncomputable def spec206 (fuel : Nat) : Ev.Spec := spg206 (F_ref02_unlikely fuel)
theorem ok206 (fuel : Nat) : FnOK Try.prog 206 (spec206 fuel) := by
  intro args objs kk r h
  unfold spec206 spg206 at h
  split at h
  · skip
    obtain ⟨hb, h⟩ := cond_some' h
    simp only [Bool.and_eq_true, Nat.beq_eq, decide_eq_true_eq] at hb
    clear hb
    exact fok206 fuel _ _ kk r ((F206_eq fuel _ kk).trans h)
  · cases h
end Go.Proofs.Ytihfgpfofmjbaaa

set_option linter.unusedVariables false
set_option linter.unusedSimpArgs false
set_option maxRecDepth 100000
set_option maxHeartbeats 2000000
namespace Go.Proofs.Ytihfgpfofmjbaaa
open Go Ev
def kp181 (i : Nat) : Option (List Nat) := Ev.look i []
noncomputable def Gg181 (f206 : YF206) (f : Nat) : Option Ev.Spec := Ev.look f [(206, spg206 f206)]
noncomputable def G181 (fuel : Nat) : Nat → Option Ev.Spec := Gg181 (F_ref02_unlikely fuel)
noncomputable def J181 (fuel : Nat) (i : Nat) : Option Ev.Blk := Ev.look i []
noncomputable def Fg_ref02_Likely (fuel : Nat) (f206 : YF206) (x0 x1 : Int) (k0 : (Int) → Option Ans) : Option Ans :=
  bif x0 == (0 : Int) then
  (f206 (x1.tmod (32 : Int))
  (fun y3 =>
  bif decide (x1 < (32 : Int)) then
  k0 y3
  else
  (f206 (x1.tmod (32 : Int))
  (fun y8 =>
  k0 (IntKind.i64.wrap ((4096 : Int) - y8))))))
  else
  bif decide (IntKind.i64.wrap (IntKind.i64.wrap (IntKind.i64.wrap ((2 : Int) * IntKind.i64.wrap (x1.tdiv (256 : Int))) + IntKind.i64.wrap ((2 : Int) * x1.tmod (256 : Int))) + (2 : Int)) = (0 : Int)) then
  none
  else
  k0 (bif decide ((4095 : Int) < bif decide ((1 : Int) > IntKind.i64.wrap ((IntKind.i64.wrap (IntKind.i64.wrap (IntKind.i64.wrap ((2 : Int) * x1.tmod (256 : Int)) + (1 : Int)) * (4096 : Int))).tdiv (IntKind.i64.wrap (IntKind.i64.wrap (IntKind.i64.wrap ((2 : Int) * IntKind.i64.wrap (x1.tdiv (256 : Int))) + IntKind.i64.wrap ((2 : Int) * x1.tmod (256 : Int))) + (2 : Int))))) then (1 : Int) else IntKind.i64.wrap ((IntKind.i64.wrap (IntKind.i64.wrap (IntKind.i64.wrap ((2 : Int) * x1.tmod (256 : Int)) + (1 : Int)) * (4096 : Int))).tdiv (IntKind.i64.wrap (IntKind.i64.wrap (IntKind.i64.wrap ((2 : Int) * IntKind.i64.wrap (x1.tdiv (256 : Int))) + IntKind.i64.wrap ((2 : Int) * x1.tmod (256 : Int))) + (2 : Int))))) then (4095 : Int) else bif decide ((1 : Int) > IntKind.i64.wrap ((IntKind.i64.wrap (IntKind.i64.wrap (IntKind.i64.wrap ((2 : Int) * x1.tmod (256 : Int)) + (1 : Int)) * (4096 : Int))).tdiv (IntKind.i64.wrap (IntKind.i64.wrap (IntKind.i64.wrap ((2 : Int) * IntKind.i64.wrap (x1.tdiv (256 : Int))) + IntKind.i64.wrap ((2 : Int) * x1.tmod (256 : Int))) + (2 : Int))))) then (1 : Int) else IntKind.i64.wrap ((IntKind.i64.wrap (IntKind.i64.wrap (IntKind.i64.wrap ((2 : Int) * x1.tmod (256 : Int)) + (1 : Int)) * (4096 : Int))).tdiv (IntKind.i64.wrap (IntKind.i64.wrap (IntKind.i64.wrap ((2 : Int) * IntKind.i64.wrap (x1.tdiv (256 : Int))) + IntKind.i64.wrap ((2 : Int) * x1.tmod (256 : Int))) + (2 : Int)))))
noncomputable def F_ref02_Likely (fuel : Nat) (x0 x1 : Int) (k0 : (Int) → Option Ans) : Option Ans := Fg_ref02_Likely fuel (F_ref02_unlikely fuel) x0 x1 k0
abbrev YF181 : Type := (Int) → (Int) → ((Int) → Option Ans) → Option Ans
theorem F181_eqg (fuel : Nat) (f206 : YF206) (x0 x1 : Int) (k : Ev.Cont) : evalFn tab (Gg181 f206) (J181 fuel) kp181 fuel Try.f181 [.c (.int .i64 x0), .c (.int .i64 x1)] [] k = Fg_ref02_Likely fuel f206 x0 x1 (fun r => match r with | r0 => k (.c (.int .i64 r0), [])) := by
  kernel_rfl
theorem F181_eq (fuel : Nat) (x0 x1 : Int) (k : Ev.Cont) : evalFn tab (G181 fuel) (J181 fuel) kp181 fuel Try.f181 [.c (.int .i64 x0), .c (.int .i64 x1)] [] k = F_ref02_Likely fuel x0 x1 (fun r => match r with | r0 => k (.c (.int .i64 r0), [])) :=
  F181_eqg fuel (F_ref02_unlikely fuel) x0 x1 k
theorem hG181 (fuel : Nat) : GOK Try.prog (G181 fuel) :=
  gok_cons ⟨ok206 fuel, enters_of Try.func206 (by kernel_rfl) rfl⟩ <|
  gok_nil
theorem fok181 (fuel : Nat) : FnOK Try.prog 181 (evalFn tab (G181 fuel) (J181 fuel) kp181 fuel Try.f181) :=
  fn_ok tab_ok (hG181 fuel) mixed Try.func181 (c := (Try.f181.body).getD .skip) rfl (fun q hq => by
    rw [(by kernel_rfl : obl (J181 fuel) ((Try.f181.body).getD .skip) = [])] at hq
    cases hq)
noncomputable def mt181 : List Ev.SV → List Ev.Ob → Bool := fun args objs => match args, objs with
 | [.c (.int .i64 _), .c (.int .i64 _)], [] => true
 | _, _ => false
noncomputable def spg181 (F : YF181) : Ev.Spec := fun args objs k => match args, objs with
 | [.c (.int .i64 x0), .c (.int .i64 x1)], [] => bif true then F x0 x1 (fun r => match r with | r0 => k (.c (.int .i64 r0), [])) else none
 | _, _ => none
noncomputable def spec181 (fuel : Nat) : Ev.Spec := spg181 (F_ref02_Likely fuel)
theorem ok181 (fuel : Nat) : FnOK Try.prog 181 (spec181 fuel) := by
  intro args objs kk r h
  unfold spec181 spg181 at h
  split at h
  · skip
    obtain ⟨hb, h⟩ := cond_some' h
    simp only [Bool.and_eq_true, Nat.beq_eq, decide_eq_true_eq] at hb
    clear hb
    exact fok181 fuel _ _ kk r ((F181_eq fuel _ _ kk).trans h)
  · cases h
end Go.Proofs.Ytihfgpfofmjbaaa

set_option linter.unusedVariables false
set_option linter.unusedSimpArgs false
set_option maxRecDepth 100000
set_option maxHeartbeats 2000000
namespace Go.Proofs.Ytihfgpfofmjbaaa
open Go Ev
def kp188_e89 (i : Nat) : Option (List Nat) := Ev.look i [(8, [0, 1000002]), (100000, []), (200005, [0]), (200007, [0]), (400000, [6]), (600000, [])]
noncomputable def Gg188_e89 (f181 : YF181) (f183 : YF183) (f184 : YF184) (f185 : YF185) (f186 : YF186) (f : Nat) : Option Ev.Spec := Ev.look f [(181, spg181 f181), (183, spg183 f183), (184, spg184 f184), (185, spg185 f185), (186, spg186 f186)]
noncomputable def G188_e89 (fuel : Nat) : Nat → Option Ev.Spec := Gg188_e89 (F_ref02_Likely fuel) (F_ref02_Interval_Part fuel) (F_ref02_Interval_Fixed fuel) (F_ref02_Interval_Shifted fuel) (F_ref02_After fuel)
noncomputable def Sg_ref02_Encoder_Put_e89_0 (fuel : Nat) (f181 : YF181) (f183 : YF183) (f184 : YF184) (f185 : YF185) (f186 : YF186) (x0 x1 x2 : Int) (x3 x4 : (List Int)) (c : (Int × Int × Int × (List Int) × (List Int)) → Option Ans) (B : (Int × Int × Int × (List Int) × (List Int) → Option Ans)) : Option Ans := match B with
 | b =>
  (f184 (x1) (x2)
  (fun y2 =>
  bif y2 then
  both (bif decide ((x4.length + [IntKind.u8.wrap (Ev.ishr IntKind.u64 x2 (24 : Int))].length) * (1 : Nat) ≤ (140737488355328 : Nat) ∧ x4.length + [IntKind.u8.wrap (Ev.ishr IntKind.u64 x2 (24 : Int))].length ≤ (140737488355328 : Nat)) then
  (f185 (x1) (x2)
  (fun (y10_0, y10_1) =>
  c (x0, y10_0, y10_1, x3, x4 ++ [IntKind.u8.wrap (Ev.ishr IntKind.u64 x2 (24 : Int))])))
  else none)
  (both (bif decide ((x4.length + [IntKind.u8.wrap (Ev.ishr IntKind.u64 x2 (24 : Int))].length) * (1 : Nat) ≤ (140737488355328 : Nat) ∧ x4.length + [IntKind.u8.wrap (Ev.ishr IntKind.u64 x2 (24 : Int))].length ≤ (140737488355328 : Nat)) then
  (f185 (x1) (x2)
  (fun (y12_0, y12_1) =>
  c (x0, y12_0, y12_1, x3, x4 ++ [IntKind.u8.wrap (Ev.ishr IntKind.u64 x2 (24 : Int))])))
  else none)
  (bif decide ((x4.length + [IntKind.u8.wrap (Ev.ishr IntKind.u64 x2 (24 : Int))].length) * (1 : Nat) ≤ (140737488355328 : Nat) ∧ x4.length + [IntKind.u8.wrap (Ev.ishr IntKind.u64 x2 (24 : Int))].length ≤ (140737488355328 : Nat)) then
  (f185 (x1) (x2)
  (fun (y12_0, y12_1) =>
  c (x0, y12_0, y12_1, x3, x4 ++ [IntKind.u8.wrap (Ev.ishr IntKind.u64 x2 (24 : Int))])))
  else none))
  else
  b (x0, x1, x2, x3, x4)))
noncomputable def S_ref02_Encoder_Put_e89_0 (fuel : Nat) (v : Int × Int × Int × (List Int) × (List Int)) (c : (Int × Int × Int × (List Int) × (List Int)) → Option Ans) (B : (Int × Int × Int × (List Int) × (List Int) → Option Ans)) : Option Ans := match v with
 | (x0, x1, x2, x3, x4) => Sg_ref02_Encoder_Put_e89_0 fuel (F_ref02_Likely fuel) (F_ref02_Interval_Part fuel) (F_ref02_Interval_Fixed fuel) (F_ref02_Interval_Shifted fuel) (F_ref02_After fuel) x0 x1 x2 x3 x4 c B
noncomputable def L_ref02_Encoder_Put_e89_0 (fuel : Nat) (v : Int × Int × Int × (List Int) × (List Int)) (b : (Int × Int × Int × (List Int) × (List Int) → Option Ans)) : Option Ans := iter (S_ref02_Encoder_Put_e89_0 fuel) fuel v b
noncomputable def J188_e89_0 (fuel : Nat) (i : Nat) : Option Ev.Blk := Ev.look i []
noncomputable def T188_e89_0 (v : Int × Int × Int × (List Int) × (List Int)) : Ev.St := match v with | (x0, x1, x2, x3, x4) => ⟨[(0, .c (.ptr 0 0))], [(0, .cells 225 [.int .i64 x0, .own 1, .int .u64 x1, .int .u64 x2, .own 2]), (1, .vec 3 (.int .i64) x3 false), (2, .vec 5 (.int .u8) x4 true)], 3, 3⟩
noncomputable def E188_e89_0 (K : Ev.Ex → Ev.St → Option Ans) : (Int × Int × Int × (List Int) × (List Int) → Option Ans) := (fun v => match v with | (x0, x1, x2, x3, x4) => K .normal ⟨[], [(0, .cells 225 [.int .i64 x0, .own 1, .int .u64 x1, .int .u64 x2, .own 2]), (1, .vec 3 (.int .i64) x3 false), (2, .vec 5 (.int .u8) x4 true)], 3, 3⟩)
theorem S188_e89_0_okg (fuel : Nat) (f181 : YF181) (f183 : YF183) (f184 : YF184) (f185 : YF185) (f186 : YF186) (R : Ev.St → Option Ans) (K : Ev.Ex → Ev.St → Option Ans) (x0 x1 x2 : Int) (x3 x4 : (List Int)) : evalCode tab (Gg188_e89 f181 f183 f184 f185 f186) (J188_e89_0 fuel) kp188_e89 fuel (bodyOf 0 Try.f188) (T188_e89_0 (x0, x1, x2, x3, x4)) (lc kp188_e89 8 0 R K) = Sg_ref02_Encoder_Put_e89_0 fuel f181 f183 f184 f185 f186 x0 x1 x2 x3 x4 (fun v => R (T188_e89_0 v)) (E188_e89_0 K) := by
  kernel_rfl
theorem S188_e89_0_ok (fuel : Nat) (R : Ev.St → Option Ans) (K : Ev.Ex → Ev.St → Option Ans) (x0 x1 x2 : Int) (x3 x4 : (List Int)) : evalCode tab (G188_e89 fuel) (J188_e89_0 fuel) kp188_e89 fuel (bodyOf 0 Try.f188) (T188_e89_0 (x0, x1, x2, x3, x4)) (lc kp188_e89 8 0 R K) = S_ref02_Encoder_Put_e89_0 fuel (x0, x1, x2, x3, x4) (fun v => R (T188_e89_0 v)) (E188_e89_0 K) :=
  S188_e89_0_okg fuel (F_ref02_Likely fuel) (F_ref02_Interval_Part fuel) (F_ref02_Interval_Fixed fuel) (F_ref02_Interval_Shifted fuel) (F_ref02_After fuel) R K x0 x1 x2 x3 x4
noncomputable def B188_e89_0 (fuel : Nat) : Ev.Blk := fun st K => match canonO (kp188_e89 8) st with
 | some s => (match s with
 | ⟨[(q0, .c (.ptr q1 q2))], [(q3, .cells q4 [.int .i64 x0, .own q5, .int .u64 x1, .int .u64 x2, .own q6]), (q7, .vec q8 (.int .i64) x3 false), (q9, .vec q10 (.int .u8) x4 true)], q11, q12⟩ => bif Nat.beq q0 0 && Nat.beq q1 0 && Nat.beq q2 0 && Nat.beq q3 0 && Nat.beq q4 225 && Nat.beq q5 1 && Nat.beq q6 2 && Nat.beq q7 1 && Nat.beq q8 3 && Nat.beq q9 2 && Nat.beq q10 5 && Nat.beq q11 3 && Nat.beq q12 3 then iter (S_ref02_Encoder_Put_e89_0 fuel) fuel (x0, x1, x2, x3, x4) (E188_e89_0 K) else none
 | _ => none)
 | none => none
theorem B188_e89_0_ok (fuel : Nat) (st : Ev.St) (K : Ev.Ex → Ev.St → Option Ans) (r : Ans) (h : B188_e89_0 fuel st K = some r) : evalCode tab (G188_e89 fuel) (J188_e89_0 fuel) kp188_e89 fuel (.block 0 (.loop (bodyOf 0 Try.f188))) st K = some r := by
  unfold B188_e89_0 at h
  split at h
  · rename_i s hs
    split at h
    · skip
      obtain ⟨hb, h⟩ := cond_some' h
      simp only [Bool.and_eq_true, Nat.beq_eq, decide_eq_true_eq] at hb
      obtain ⟨⟨⟨⟨⟨⟨⟨⟨⟨⟨⟨⟨rfl, rfl⟩, rfl⟩, rfl⟩, rfl⟩, rfl⟩, rfl⟩, rfl⟩, rfl⟩, rfl⟩, rfl⟩, rfl⟩, rfl⟩ := hb
      exact blk_loop (S := T188_e89_0) (ks := E188_e89_0) (step := S_ref02_Encoder_Put_e89_0 fuel) (v := (_, _, _, _, _)) (by kernel_rfl) (by kernel_rfl) (fun R K v => by obtain ⟨x0, x1, x2, x3, x4⟩ := v; exact S188_e89_0_ok fuel R K x0 x1 x2 x3 x4) hs h
    · cases h
  · cases h
noncomputable def J188_e89 (fuel : Nat) (i : Nat) : Option Ev.Blk := Ev.look i [(100000, B188_e89_0 fuel)]
noncomputable def Fg_ref02_Encoder_Put_e89 (fuel : Nat) (f181 : YF181) (f183 : YF183) (f184 : YF184) (f185 : YF185) (f186 : YF186) (x0 x1 : Int) (x2 x3 x4 : Int) (x5 x6 : (List Int)) (k0 : (Int × Int × Int × Int × (List Int) × (List Int)) → Option Ans) (k1 : (Int × Int × Int × Int × (List Int) × (List Int)) → Option Ans) : Option Ans :=
  bif decide (x0 < (0 : Int)) then
  k0 ((2 : Int), x2, x3, x4, x5, x6)
  else
  bif decide (x0 ≥ (↑x5.length : Int)) then
  k0 ((2 : Int), x2, x3, x4, x5, x6)
  else
  bif x1 != (0 : Int) then
  bif x1 != (1 : Int) then
  k0 ((2 : Int), x2, x3, x4, x5, x6)
  else
  bif decide ((0 : Int) ≤ x0 ∧ x0 < (↑x5.length : Int)) then
  (f181 (x2) (x5.getD x0.toNat (0 : Int))
  (fun y7 =>
  (f183 (x3) (x4) (y7) (x1)
  (fun (y11_0, y11_1) =>
  bif decide ((0 : Int) ≤ x0 ∧ x0 < (↑x5.length : Int)) then
  (f186 (x2) (x5.getD x0.toNat (0 : Int)) (x1)
  (fun y16 =>
  bif decide ((0 : Int) ≤ x0 ∧ x0 < (↑x5.length : Int)) then
  (L_ref02_Encoder_Put_e89_0 fuel (x2, y11_0, y11_1, x5.set x0.toNat y16, x6)
  (fun (b0_0, b0_1, b0_2, b0_3, b0_4) =>
  k1 ((0 : Int), b0_0, b0_1, b0_2, b0_3, b0_4)))
  else none))
  else none))))
  else none
  else
  bif decide ((0 : Int) ≤ x0 ∧ x0 < (↑x5.length : Int)) then
  (f181 (x2) (x5.getD x0.toNat (0 : Int))
  (fun y6 =>
  (f183 (x3) (x4) (y6) (x1)
  (fun (y10_0, y10_1) =>
  bif decide ((0 : Int) ≤ x0 ∧ x0 < (↑x5.length : Int)) then
  (f186 (x2) (x5.getD x0.toNat (0 : Int)) (x1)
  (fun y15 =>
  bif decide ((0 : Int) ≤ x0 ∧ x0 < (↑x5.length : Int)) then
  (L_ref02_Encoder_Put_e89_0 fuel (x2, y10_0, y10_1, x5.set x0.toNat y15, x6)
  (fun (b0_0, b0_1, b0_2, b0_3, b0_4) =>
  k1 ((0 : Int), b0_0, b0_1, b0_2, b0_3, b0_4)))
  else none))
  else none))))
  else none
noncomputable def F_ref02_Encoder_Put_e89 (fuel : Nat) (x0 x1 : Int) (x2 x3 x4 : Int) (x5 x6 : (List Int)) (k0 : (Int × Int × Int × Int × (List Int) × (List Int)) → Option Ans) (k1 : (Int × Int × Int × Int × (List Int) × (List Int)) → Option Ans) : Option Ans := Fg_ref02_Encoder_Put_e89 fuel (F_ref02_Likely fuel) (F_ref02_Interval_Part fuel) (F_ref02_Interval_Fixed fuel) (F_ref02_Interval_Shifted fuel) (F_ref02_After fuel) x0 x1 x2 x3 x4 x5 x6 k0 k1
abbrev YF188_e89 : Type := (Int) → (Int) → (Int) → (Int) → (Int) → ((List Int)) → ((List Int)) → ((Int × Int × Int × Int × (List Int) × (List Int)) → Option Ans) → ((Int × Int × Int × Int × (List Int) × (List Int)) → Option Ans) → Option Ans
theorem F188_e89_eqg (fuel : Nat) (f181 : YF181) (f183 : YF183) (f184 : YF184) (f185 : YF185) (f186 : YF186) (x0 x1 : Int) (x2 x3 x4 : Int) (x5 x6 : (List Int)) (k : Ev.Cont) : evalFn tab (Gg188_e89 f181 f183 f184 f185 f186) (J188_e89 fuel) kp188_e89 fuel Try.f188 [.c (.ptr 0 0), .c (.int .i64 x0), .c (.int .i64 x1)] [.cells 225 [.int .i64 x2, .own 1, .int .u64 x3, .int .u64 x4, .own 2], .vec 3 (.int .i64) x5 false, .vec 5 (.int .u8) x6 false] k = Fg_ref02_Encoder_Put_e89 fuel f181 f183 f184 f185 f186 x0 x1 x2 x3 x4 x5 x6 (fun r => match r with | (r0, r1, r2, r3, r4, r5) => k (.c (.int .i64 r0), [.cells 225 [.int .i64 r1, .own 1, .int .u64 r2, .int .u64 r3, .own 2], .vec 3 (.int .i64) r4 false, .vec 5 (.int .u8) r5 false])) (fun r => match r with | (r0, r1, r2, r3, r4, r5) => k (.c (.int .i64 r0), [.cells 225 [.int .i64 r1, .own 1, .int .u64 r2, .int .u64 r3, .own 2], .vec 3 (.int .i64) r4 false, .vec 5 (.int .u8) r5 true])) := by
  kernel_rfl
theorem F188_e89_eq (fuel : Nat) (x0 x1 : Int) (x2 x3 x4 : Int) (x5 x6 : (List Int)) (k : Ev.Cont) : evalFn tab (G188_e89 fuel) (J188_e89 fuel) kp188_e89 fuel Try.f188 [.c (.ptr 0 0), .c (.int .i64 x0), .c (.int .i64 x1)] [.cells 225 [.int .i64 x2, .own 1, .int .u64 x3, .int .u64 x4, .own 2], .vec 3 (.int .i64) x5 false, .vec 5 (.int .u8) x6 false] k = F_ref02_Encoder_Put_e89 fuel x0 x1 x2 x3 x4 x5 x6 (fun r => match r with | (r0, r1, r2, r3, r4, r5) => k (.c (.int .i64 r0), [.cells 225 [.int .i64 r1, .own 1, .int .u64 r2, .int .u64 r3, .own 2], .vec 3 (.int .i64) r4 false, .vec 5 (.int .u8) r5 false])) (fun r => match r with | (r0, r1, r2, r3, r4, r5) => k (.c (.int .i64 r0), [.cells 225 [.int .i64 r1, .own 1, .int .u64 r2, .int .u64 r3, .own 2], .vec 3 (.int .i64) r4 false, .vec 5 (.int .u8) r5 true])) :=
  F188_e89_eqg fuel (F_ref02_Likely fuel) (F_ref02_Interval_Part fuel) (F_ref02_Interval_Fixed fuel) (F_ref02_Interval_Shifted fuel) (F_ref02_After fuel) x0 x1 x2 x3 x4 x5 x6 k
theorem hG188_e89 (fuel : Nat) : GOK Try.prog (G188_e89 fuel) :=
  gok_cons ⟨ok181 fuel, enters_of Try.func181 (by kernel_rfl) rfl⟩ <|
  gok_cons ⟨ok183 fuel, enters_of Try.func183 (by kernel_rfl) rfl⟩ <|
  gok_cons ⟨ok184 fuel, enters_of Try.func184 (by kernel_rfl) rfl⟩ <|
  gok_cons ⟨ok185 fuel, enters_of Try.func185 (by kernel_rfl) rfl⟩ <|
  gok_cons ⟨ok186 fuel, enters_of Try.func186 (by kernel_rfl) rfl⟩ <|
  gok_nil
theorem B188_e89_0_blk (fuel : Nat) : BlkOK Try.prog Try.f188.ntmps (.block 0 (.loop (bodyOf 0 Try.f188))) (B188_e89_0 fuel) :=
  blk_of (blk_of_code tab_ok (hG188_e89 fuel) mixed (J := J188_e89_0 fuel) (kp := kp188_e89) (fuel := fuel) (by kernel_rfl) (fun q hq => by
    rw [(by kernel_rfl : obl (J188_e89_0 fuel) (.block 0 (.loop (bodyOf 0 Try.f188))) = [])] at hq
    cases hq)) (B188_e89_0_ok fuel)
theorem fok188_e89 (fuel : Nat) : FnOK Try.prog 188 (evalFn tab (G188_e89 fuel) (J188_e89 fuel) kp188_e89 fuel Try.f188) :=
  fn_ok tab_ok (hG188_e89 fuel) mixed Try.func188 (c := (Try.f188.body).getD .skip) rfl (fun q hq => by
    rw [(by kernel_rfl : obl (J188_e89 fuel) ((Try.f188.body).getD .skip) = [(.block 0 (.loop (bodyOf 0 Try.f188)), B188_e89_0 fuel)])] at hq
    simp only [List.mem_cons, List.not_mem_nil, or_false] at hq
    subst hq
    · exact B188_e89_0_blk fuel)
noncomputable def mt188_e89 : List Ev.SV → List Ev.Ob → Bool := fun args objs => match args, objs with
 | [.c (.ptr q0 q1), .c (.int .i64 _), .c (.int .i64 _)], [.cells q2 [.int .i64 _, .own q3, .int .u64 _, .int .u64 _, .own q4], .vec q5 (.int .i64) _ false, .vec q6 (.int .u8) _ false] => Nat.beq q0 0 && Nat.beq q1 0 && Nat.beq q2 225 && Nat.beq q3 1 && Nat.beq q4 2 && Nat.beq q5 3 && Nat.beq q6 5
 | _, _ => false
noncomputable def spg188_e89 (F : YF188_e89) : Ev.Spec := fun args objs k => match args, objs with
 | [.c (.ptr q0 q1), .c (.int .i64 x0), .c (.int .i64 x1)], [.cells q2 [.int .i64 x2, .own q3, .int .u64 x3, .int .u64 x4, .own q4], .vec q5 (.int .i64) x5 false, .vec q6 (.int .u8) x6 false] => bif Nat.beq q0 0 && Nat.beq q1 0 && Nat.beq q2 225 && Nat.beq q3 1 && Nat.beq q4 2 && Nat.beq q5 3 && Nat.beq q6 5 then F x0 x1 x2 x3 x4 x5 x6 (fun r => match r with | (r0, r1, r2, r3, r4, r5) => k (.c (.int .i64 r0), [.cells 225 [.int .i64 r1, .own 1, .int .u64 r2, .int .u64 r3, .own 2], .vec 3 (.int .i64) r4 false, .vec 5 (.int .u8) r5 false])) (fun r => match r with | (r0, r1, r2, r3, r4, r5) => k (.c (.int .i64 r0), [.cells 225 [.int .i64 r1, .own 1, .int .u64 r2, .int .u64 r3, .own 2], .vec 3 (.int .i64) r4 false, .vec 5 (.int .u8) r5 true])) else none
 | _, _ => none
noncomputable def spec188_e89 (fuel : Nat) : Ev.Spec := spg188_e89 (F_ref02_Encoder_Put_e89 fuel)
theorem ok188_e89 (fuel : Nat) : FnOK Try.prog 188 (spec188_e89 fuel) := by
  intro args objs kk r h
  unfold spec188_e89 spg188_e89 at h
  split at h
  · skip
    obtain ⟨hb, h⟩ := cond_some' h
    simp only [Bool.and_eq_true, Nat.beq_eq, decide_eq_true_eq] at hb
    obtain ⟨⟨⟨⟨⟨⟨rfl, rfl⟩, rfl⟩, rfl⟩, rfl⟩, rfl⟩, rfl⟩ := hb
    exact fok188_e89 fuel _ _ kk r ((F188_e89_eq fuel _ _ _ _ _ _ _ kk).trans h)
  · cases h
end Go.Proofs.Ytihfgpfofmjbaaa

set_option linter.unusedVariables false
set_option linter.unusedSimpArgs false
set_option maxRecDepth 100000
set_option maxHeartbeats 2000000
namespace Go.Proofs.Ytihfgpfofmjbaaa
open Go Ev
def kp156 (i : Nat) : Option (List Nat) := Ev.look i []
noncomputable def Gg156 (f : Nat) : Option Ev.Spec := Ev.look f []
noncomputable def G156 (fuel : Nat) : Nat → Option Ev.Spec := Gg156
noncomputable def J156 (fuel : Nat) (i : Nat) : Option Ev.Blk := Ev.look i []
noncomputable def F_ref05_inside (fuel : Nat) (x0 x1 : Int) (x2 : (List Int)) (x3 x4 : Int) (k0 : (Bool) → Option Ans) : Option Ans :=
  bif decide (x3 ≥ (0 : Int)) then
  bif decide (x4 ≥ (0 : Int)) then
  bif decide (x3 < x0) then
  k0 (decide (x4 < x1))
  else
  k0 false
  else
  k0 false
  else
  k0 false
abbrev YF156 : Type := (Int) → (Int) → ((List Int)) → (Int) → (Int) → ((Bool) → Option Ans) → Option Ans
theorem F156_eq (fuel : Nat) (x0 x1 : Int) (x2 : (List Int)) (x3 x4 : Int) (k : Ev.Cont) : evalFn tab (G156 fuel) (J156 fuel) kp156 fuel Try.f156 [.agg [.int .i64 x0, .int .i64 x1, .sl (.int .u8) x2], .c (.int .i64 x3), .c (.int .i64 x4)] [] k = F_ref05_inside fuel x0 x1 x2 x3 x4 (fun r => match r with | r0 => k (.c (.bool r0), [])) := by
  kernel_rfl
theorem hG156 (fuel : Nat) : GOK Try.prog (G156 fuel) :=
  gok_nil
theorem fok156 (fuel : Nat) : FnOK Try.prog 156 (evalFn tab (G156 fuel) (J156 fuel) kp156 fuel Try.f156) :=
  fn_ok tab_ok (hG156 fuel) mixed Try.func156 (c := (Try.f156.body).getD .skip) rfl (fun q hq => by
    rw [(by kernel_rfl : obl (J156 fuel) ((Try.f156.body).getD .skip) = [])] at hq
    cases hq)
noncomputable def mt156 : List Ev.SV → List Ev.Ob → Bool := fun args objs => match args, objs with
 | [.agg [.int .i64 _, .int .i64 _, .sl (.int .u8) _], .c (.int .i64 _), .c (.int .i64 _)], [] => true
 | _, _ => false
noncomputable def spg156 (F : YF156) : Ev.Spec := fun args objs k => match args, objs with
 | [.agg [.int .i64 x0, .int .i64 x1, .sl (.int .u8) x2], .c (.int .i64 x3), .c (.int .i64 x4)], [] => bif true then F x0 x1 x2 x3 x4 (fun r => match r with | r0 => k (.c (.bool r0), [])) else none
 | _, _ => none
noncomputable def spec156 (fuel : Nat) : Ev.Spec := spg156 (F_ref05_inside fuel)
theorem ok156 (fuel : Nat) : FnOK Try.prog 156 (spec156 fuel) := by
  intro args objs kk r h
  unfold spec156 spg156 at h
  split at h
  · skip
    obtain ⟨hb, h⟩ := cond_some' h
    simp only [Bool.and_eq_true, Nat.beq_eq, decide_eq_true_eq] at hb
    clear hb
    exact fok156 fuel _ _ kk r ((F156_eq fuel _ _ _ _ _ kk).trans h)
  · cases h
end Go.Proofs.Ytihfgpfofmjbaaa

set_option linter.unusedVariables false
set_option linter.unusedSimpArgs false
set_option maxRecDepth 100000
set_option maxHeartbeats 2000000
namespace Go.Proofs.Ytihfgpfofmjbaaa
open Go Ev
def kp125 (i : Nat) : Option (List Nat) := Ev.look i []
noncomputable def Gg125 (f156 : YF156) (f : Nat) : Option Ev.Spec := Ev.look f [(156, spg156 f156)]
noncomputable def G125 (fuel : Nat) : Nat → Option Ev.Spec := Gg125 (F_ref05_inside fuel)
noncomputable def J125 (fuel : Nat) (i : Nat) : Option Ev.Blk := Ev.look i []
noncomputable def Fg_ref05_At (fuel : Nat) (f156 : YF156) (x0 x1 : Int) (x2 : (List Int)) (x3 x4 : Int) (k0 : (Int) → Option Ans) : Option Ans :=
  (f156 (x0) (x1) (x2) (x3) (x4)
  (fun y2 =>
  bif !y2 then
  k0 ((0 : Int))
  else
  bif decide ((0 : Int) ≤ IntKind.i64.wrap (IntKind.i64.wrap (x4 * x0) + x3) ∧ IntKind.i64.wrap (IntKind.i64.wrap (x4 * x0) + x3) < (↑x2.length : Int)) then
  k0 (IntKind.i64.wrap (x2.getD (IntKind.i64.wrap (IntKind.i64.wrap (x4 * x0) + x3)).toNat (0 : Int)))
  else none))
noncomputable def F_ref05_At (fuel : Nat) (x0 x1 : Int) (x2 : (List Int)) (x3 x4 : Int) (k0 : (Int) → Option Ans) : Option Ans := Fg_ref05_At fuel (F_ref05_inside fuel) x0 x1 x2 x3 x4 k0
abbrev YF125 : Type := (Int) → (Int) → ((List Int)) → (Int) → (Int) → ((Int) → Option Ans) → Option Ans
theorem F125_eqg (fuel : Nat) (f156 : YF156) (x0 x1 : Int) (x2 : (List Int)) (x3 x4 : Int) (k : Ev.Cont) : evalFn tab (Gg125 f156) (J125 fuel) kp125 fuel Try.f125 [.agg [.int .i64 x0, .int .i64 x1, .sl (.int .u8) x2], .c (.int .i64 x3), .c (.int .i64 x4)] [] k = Fg_ref05_At fuel f156 x0 x1 x2 x3 x4 (fun r => match r with | r0 => k (.c (.int .i64 r0), [])) := by
  kernel_rfl
theorem F125_eq (fuel : Nat) (x0 x1 : Int) (x2 : (List Int)) (x3 x4 : Int) (k : Ev.Cont) : evalFn tab (G125 fuel) (J125 fuel) kp125 fuel Try.f125 [.agg [.int .i64 x0, .int .i64 x1, .sl (.int .u8) x2], .c (.int .i64 x3), .c (.int .i64 x4)] [] k = F_ref05_At fuel x0 x1 x2 x3 x4 (fun r => match r with | r0 => k (.c (.int .i64 r0), [])) :=
  F125_eqg fuel (F_ref05_inside fuel) x0 x1 x2 x3 x4 k
theorem hG125 (fuel : Nat) : GOK Try.prog (G125 fuel) :=
  gok_cons ⟨ok156 fuel, enters_of Try.func156 (by kernel_rfl) rfl⟩ <|
  gok_nil
theorem fok125 (fuel : Nat) : FnOK Try.prog 125 (evalFn tab (G125 fuel) (J125 fuel) kp125 fuel Try.f125) :=
  fn_ok tab_ok (hG125 fuel) mixed Try.func125 (c := (Try.f125.body).getD .skip) rfl (fun q hq => by
    rw [(by kernel_rfl : obl (J125 fuel) ((Try.f125.body).getD .skip) = [])] at hq
    cases hq)
noncomputable def mt125 : List Ev.SV → List Ev.Ob → Bool := fun args objs => match args, objs with
 | [.agg [.int .i64 _, .int .i64 _, .sl (.int .u8) _], .c (.int .i64 _), .c (.int .i64 _)], [] => true
 | _, _ => false
noncomputable def spg125 (F : YF125) : Ev.Spec := fun args objs k => match args, objs with
 | [.agg [.int .i64 x0, .int .i64 x1, .sl (.int .u8) x2], .c (.int .i64 x3), .c (.int .i64 x4)], [] => bif true then F x0 x1 x2 x3 x4 (fun r => match r with | r0 => k (.c (.int .i64 r0), [])) else none
 | _, _ => none
noncomputable def spec125 (fuel : Nat) : Ev.Spec := spg125 (F_ref05_At fuel)
theorem ok125 (fuel : Nat) : FnOK Try.prog 125 (spec125 fuel) := by
  intro args objs kk r h
  unfold spec125 spg125 at h
  split at h
  · skip
    obtain ⟨hb, h⟩ := cond_some' h
    simp only [Bool.and_eq_true, Nat.beq_eq, decide_eq_true_eq] at hb
    clear hb
    exact fok125 fuel _ _ kk r ((F125_eq fuel _ _ _ _ _ kk).trans h)
  · cases h
end Go.Proofs.Ytihfgpfofmjbaaa

set_option linter.unusedVariables false
set_option linter.unusedSimpArgs false
set_option maxRecDepth 100000
set_option maxHeartbeats 2000000
namespace Go.Proofs.Ytihfgpfofmjbaaa
open Go Ev
def kp112 (i : Nat) : Option (List Nat) := Ev.look i []
noncomputable def Gg112 (f : Nat) : Option Ev.Spec := Ev.look f []
noncomputable def G112 (fuel : Nat) : Nat → Option Ev.Spec := Gg112
noncomputable def J112 (fuel : Nat) (i : Nat) : Option Ev.Blk := Ev.look i []
noncomputable def F_ref05_Sides (fuel : Nat) (x0 x1 : Int) (k0 : (Bool) → Option Ans) : Option Ans :=
  bif decide (x0 ≥ (0 : Int)) then
  bif decide (x1 ≥ (0 : Int)) then
  bif decide (x0 ≤ (200 : Int)) then
  bif decide (x1 ≤ (200 : Int)) then
  k0 (decide (IntKind.i64.wrap (x0 * x1) ≤ (8192 : Int)))
  else
  k0 false
  else
  k0 false
  else
  k0 false
  else
  k0 false
abbrev YF112 : Type := (Int) → (Int) → ((Bool) → Option Ans) → Option Ans
theorem F112_eq (fuel : Nat) (x0 x1 : Int) (k : Ev.Cont) : evalFn tab (G112 fuel) (J112 fuel) kp112 fuel Try.f112 [.c (.int .i64 x0), .c (.int .i64 x1)] [] k = F_ref05_Sides fuel x0 x1 (fun r => match r with | r0 => k (.c (.bool r0), [])) := by
  kernel_rfl
theorem hG112 (fuel : Nat) : GOK Try.prog (G112 fuel) :=
  gok_nil
theorem fok112 (fuel : Nat) : FnOK Try.prog 112 (evalFn tab (G112 fuel) (J112 fuel) kp112 fuel Try.f112) :=
  fn_ok tab_ok (hG112 fuel) mixed Try.func112 (c := (Try.f112.body).getD .skip) rfl (fun q hq => by
    rw [(by kernel_rfl : obl (J112 fuel) ((Try.f112.body).getD .skip) = [])] at hq
    cases hq)
noncomputable def mt112 : List Ev.SV → List Ev.Ob → Bool := fun args objs => match args, objs with
 | [.c (.int .i64 _), .c (.int .i64 _)], [] => true
 | _, _ => false
noncomputable def spg112 (F : YF112) : Ev.Spec := fun args objs k => match args, objs with
 | [.c (.int .i64 x0), .c (.int .i64 x1)], [] => bif true then F x0 x1 (fun r => match r with | r0 => k (.c (.bool r0), [])) else none
 | _, _ => none
noncomputable def spec112 (fuel : Nat) : Ev.Spec := spg112 (F_ref05_Sides fuel)
theorem ok112 (fuel : Nat) : FnOK Try.prog 112 (spec112 fuel) := by
  intro args objs kk r h
  unfold spec112 spg112 at h
  split at h
  · skip
    obtain ⟨hb, h⟩ := cond_some' h
    simp only [Bool.and_eq_true, Nat.beq_eq, decide_eq_true_eq] at hb
    clear hb
    exact fok112 fuel _ _ kk r ((F112_eq fuel _ _ kk).trans h)
  · cases h
end Go.Proofs.Ytihfgpfofmjbaaa

set_option linter.unusedVariables false
set_option linter.unusedSimpArgs false
set_option maxRecDepth 100000
set_option maxHeartbeats 2000000
namespace Go.Proofs.Ytihfgpfofmjbaaa
open Go Ev
def kp86 (i : Nat) : Option (List Nat) := Ev.look i [(4, [1, 3]), (100000, []), (400000, [2])]
noncomputable def Gg86 (f112 : YF112) (f : Nat) : Option Ev.Spec := Ev.look f [(112, spg112 f112)]
noncomputable def G86 (fuel : Nat) : Nat → Option Ev.Spec := Gg86 (F_ref05_Sides fuel)
noncomputable def Sg_ref05_Valid_0 (fuel : Nat) (f112 : YF112) (x0 x1 x2 : Int) (x3 : (List Int)) (c : (Int × Int × Int × (List Int)) → Option Ans) (B : (Bool → Option Ans) × (Unit → Option Ans)) : Option Ans := match B with
 | (ret, b) =>
  bif decide (x0 < (↑x3.length : Int)) then
  bif decide ((0 : Int) ≤ x0 ∧ x0 < (↑x3.length : Int)) then
  bif decide (x3.getD x0.toNat (0 : Int) > (1 : Int)) then
  ret false
  else
  c (IntKind.i64.wrap (x0 + (1 : Int)), x1, x2, x3)
  else none
  else
  b ()
noncomputable def S_ref05_Valid_0 (fuel : Nat) (v : Int × Int × Int × (List Int)) (c : (Int × Int × Int × (List Int)) → Option Ans) (B : (Bool → Option Ans) × (Unit → Option Ans)) : Option Ans := match v with
 | (x0, x1, x2, x3) => Sg_ref05_Valid_0 fuel (F_ref05_Sides fuel) x0 x1 x2 x3 c B
noncomputable def L_ref05_Valid_0 (fuel : Nat) (v : Int × Int × Int × (List Int)) (ret : (Bool → Option Ans)) (b : (Unit → Option Ans)) : Option Ans := iter (S_ref05_Valid_0 fuel) fuel v (ret, b)
noncomputable def J86_0 (fuel : Nat) (i : Nat) : Option Ev.Blk := Ev.look i []
noncomputable def T86_0 (v : Int × Int × Int × (List Int)) : Ev.St := match v with | (x0, x1, x2, x3) => ⟨[(1, .c (.ptr 0 0)), (3, .c (.int .i64 x0))], [(0, .cells 39 [.int .i64 x1, .int .i64 x2, .sl (.int .u8) x3])], 1, 0⟩
noncomputable def E86_0 (K : Ev.Ex → Ev.St → Option Ans) : (Bool → Option Ans) × (Unit → Option Ans) := ((fun v => match v with | x0 => K .ret ⟨[(2, .c (.bool x0))], [], 0, 0⟩), (fun v => match v with | () => K .normal ⟨[], [], 0, 0⟩))
theorem S86_0_okg (fuel : Nat) (f112 : YF112) (R : Ev.St → Option Ans) (K : Ev.Ex → Ev.St → Option Ans) (x0 x1 x2 : Int) (x3 : (List Int)) : evalCode tab (Gg86 f112) (J86_0 fuel) kp86 fuel (bodyOf 0 Try.f86) (T86_0 (x0, x1, x2, x3)) (lc kp86 4 0 R K) = Sg_ref05_Valid_0 fuel f112 x0 x1 x2 x3 (fun v => R (T86_0 v)) (E86_0 K) := by
  kernel_rfl
theorem S86_0_ok (fuel : Nat) (R : Ev.St → Option Ans) (K : Ev.Ex → Ev.St → Option Ans) (x0 x1 x2 : Int) (x3 : (List Int)) : evalCode tab (G86 fuel) (J86_0 fuel) kp86 fuel (bodyOf 0 Try.f86) (T86_0 (x0, x1, x2, x3)) (lc kp86 4 0 R K) = S_ref05_Valid_0 fuel (x0, x1, x2, x3) (fun v => R (T86_0 v)) (E86_0 K) :=
  S86_0_okg fuel (F_ref05_Sides fuel) R K x0 x1 x2 x3
noncomputable def B86_0 (fuel : Nat) : Ev.Blk := fun st K => match canonO (kp86 4) st with
 | some s => (match s with
 | ⟨[(q0, .c (.ptr q1 q2)), (q3, .c (.int .i64 x0))], [(q4, .cells q5 [.int .i64 x1, .int .i64 x2, .sl (.int .u8) x3])], q6, q7⟩ => bif Nat.beq q0 1 && Nat.beq q1 0 && Nat.beq q2 0 && Nat.beq q3 3 && Nat.beq q4 0 && Nat.beq q5 39 && Nat.beq q6 1 && Nat.beq q7 0 then iter (S_ref05_Valid_0 fuel) fuel (x0, x1, x2, x3) (E86_0 K) else none
 | _ => none)
 | none => none
theorem B86_0_ok (fuel : Nat) (st : Ev.St) (K : Ev.Ex → Ev.St → Option Ans) (r : Ans) (h : B86_0 fuel st K = some r) : evalCode tab (G86 fuel) (J86_0 fuel) kp86 fuel (.block 0 (.loop (bodyOf 0 Try.f86))) st K = some r := by
  unfold B86_0 at h
  split at h
  · rename_i s hs
    split at h
    · skip
      obtain ⟨hb, h⟩ := cond_some' h
      simp only [Bool.and_eq_true, Nat.beq_eq, decide_eq_true_eq] at hb
      obtain ⟨⟨⟨⟨⟨⟨⟨rfl, rfl⟩, rfl⟩, rfl⟩, rfl⟩, rfl⟩, rfl⟩, rfl⟩ := hb
      exact blk_loop (S := T86_0) (ks := E86_0) (step := S_ref05_Valid_0 fuel) (v := (_, _, _, _)) (by kernel_rfl) (by kernel_rfl) (fun R K v => by obtain ⟨x0, x1, x2, x3⟩ := v; exact S86_0_ok fuel R K x0 x1 x2 x3) hs h
    · cases h
  · cases h
noncomputable def J86 (fuel : Nat) (i : Nat) : Option Ev.Blk := Ev.look i [(100000, B86_0 fuel)]
noncomputable def Fg_ref05_Valid (fuel : Nat) (f112 : YF112) (x0 x1 : Int) (x2 : (List Int)) (k0 : (Bool) → Option Ans) : Option Ans :=
  (f112 (x0) (x1)
  (fun y2 =>
  bif !y2 then
  k0 false
  else
  bif (↑x2.length : Int) != IntKind.i64.wrap (x0 * x1) then
  k0 false
  else
  (L_ref05_Valid_0 fuel ((0 : Int), x0, x1, x2)
  (fun ret0_0 =>
  k0 ret0_0)
  (fun () =>
  k0 true))))
noncomputable def F_ref05_Valid (fuel : Nat) (x0 x1 : Int) (x2 : (List Int)) (k0 : (Bool) → Option Ans) : Option Ans := Fg_ref05_Valid fuel (F_ref05_Sides fuel) x0 x1 x2 k0
abbrev YF86 : Type := (Int) → (Int) → ((List Int)) → ((Bool) → Option Ans) → Option Ans
theorem F86_eqg (fuel : Nat) (f112 : YF112) (x0 x1 : Int) (x2 : (List Int)) (k : Ev.Cont) : evalFn tab (Gg86 f112) (J86 fuel) kp86 fuel Try.f86 [.agg [.int .i64 x0, .int .i64 x1, .sl (.int .u8) x2]] [] k = Fg_ref05_Valid fuel f112 x0 x1 x2 (fun r => match r with | r0 => k (.c (.bool r0), [])) := by
  kernel_rfl
theorem F86_eq (fuel : Nat) (x0 x1 : Int) (x2 : (List Int)) (k : Ev.Cont) : evalFn tab (G86 fuel) (J86 fuel) kp86 fuel Try.f86 [.agg [.int .i64 x0, .int .i64 x1, .sl (.int .u8) x2]] [] k = F_ref05_Valid fuel x0 x1 x2 (fun r => match r with | r0 => k (.c (.bool r0), [])) :=
  F86_eqg fuel (F_ref05_Sides fuel) x0 x1 x2 k
theorem hG86 (fuel : Nat) : GOK Try.prog (G86 fuel) :=
  gok_cons ⟨ok112 fuel, enters_of Try.func112 (by kernel_rfl) rfl⟩ <|
  gok_nil
theorem B86_0_blk (fuel : Nat) : BlkOK Try.prog Try.f86.ntmps (.block 0 (.loop (bodyOf 0 Try.f86))) (B86_0 fuel) :=
  blk_of (blk_of_code tab_ok (hG86 fuel) mixed (J := J86_0 fuel) (kp := kp86) (fuel := fuel) (by kernel_rfl) (fun q hq => by
    rw [(by kernel_rfl : obl (J86_0 fuel) (.block 0 (.loop (bodyOf 0 Try.f86))) = [])] at hq
    cases hq)) (B86_0_ok fuel)
theorem fok86 (fuel : Nat) : FnOK Try.prog 86 (evalFn tab (G86 fuel) (J86 fuel) kp86 fuel Try.f86) :=
  fn_ok tab_ok (hG86 fuel) mixed Try.func86 (c := (Try.f86.body).getD .skip) rfl (fun q hq => by
    rw [(by kernel_rfl : obl (J86 fuel) ((Try.f86.body).getD .skip) = [(.block 0 (.loop (bodyOf 0 Try.f86)), B86_0 fuel)])] at hq
    simp only [List.mem_cons, List.not_mem_nil, or_false] at hq
    subst hq
    · exact B86_0_blk fuel)
noncomputable def mt86 : List Ev.SV → List Ev.Ob → Bool := fun args objs => match args, objs with
 | [.agg [.int .i64 _, .int .i64 _, .sl (.int .u8) _]], [] => true
 | _, _ => false
noncomputable def spg86 (F : YF86) : Ev.Spec := fun args objs k => match args, objs with
 | [.agg [.int .i64 x0, .int .i64 x1, .sl (.int .u8) x2]], [] => bif true then F x0 x1 x2 (fun r => match r with | r0 => k (.c (.bool r0), [])) else none
 | _, _ => none
noncomputable def spec86 (fuel : Nat) : Ev.Spec := spg86 (F_ref05_Valid fuel)
theorem ok86 (fuel : Nat) : FnOK Try.prog 86 (spec86 fuel) := by
  intro args objs kk r h
  unfold spec86 spg86 at h
  split at h
  · skip
    obtain ⟨hb, h⟩ := cond_some' h
    simp only [Bool.and_eq_true, Nat.beq_eq, decide_eq_true_eq] at hb
    clear hb
    exact fok86 fuel _ _ kk r ((F86_eq fuel _ _ _ kk).trans h)
  · cases h
end Go.Proofs.Ytihfgpfofmjbaaa

set_option linter.unusedVariables false
set_option linter.unusedSimpArgs false
set_option maxRecDepth 100000
set_option maxHeartbeats 2000000
namespace Go.Proofs.Ytihfgpfofmjbaaa
open Go Ev
def kp109 (i : Nat) : Option (List Nat) := Ev.look i []
noncomputable def Gg109 (f : Nat) : Option Ev.Spec := Ev.look f []
noncomputable def G109 (fuel : Nat) : Nat → Option Ev.Spec := Gg109
noncomputable def J109 (fuel : Nat) (i : Nat) : Option Ev.Blk := Ev.look i []
noncomputable def F_ref07_Valid (fuel : Nat) (x0 x1 x2 : Int) (x3 : Bool) (x4 : Int) (k0 : (Bool) → Option Ans) : Option Ans :=
  bif decide (x0 < (0 : Int)) then
  k0 false
  else
  bif decide (x0 > (3 : Int)) then
  k0 false
  else
  bif decide (x4 < (0 : Int)) then
  k0 false
  else
  bif decide (x4 > (1 : Int)) then
  k0 false
  else
  bif decide (x1 < (-8 : Int)) then
  k0 false
  else
  bif decide (x1 > (8 : Int)) then
  k0 false
  else
  bif decide (x2 < (-8 : Int)) then
  k0 false
  else
  bif decide (x2 > (0 : Int)) then
  k0 false
  else
  bif decide (x2 < (0 : Int)) then
  k0 true
  else
  k0 (decide (x1 < (0 : Int)))
abbrev YF109 : Type := (Int) → (Int) → (Int) → (Bool) → (Int) → ((Bool) → Option Ans) → Option Ans
theorem F109_eq (fuel : Nat) (x0 x1 x2 : Int) (x3 : Bool) (x4 : Int) (k : Ev.Cont) : evalFn tab (G109 fuel) (J109 fuel) kp109 fuel Try.f109 [.agg [.int .i64 x0, .int .i64 x1, .int .i64 x2, .bool x3, .int .i64 x4]] [] k = F_ref07_Valid fuel x0 x1 x2 x3 x4 (fun r => match r with | r0 => k (.c (.bool r0), [])) := by
  kernel_rfl
theorem hG109 (fuel : Nat) : GOK Try.prog (G109 fuel) :=
  gok_nil
theorem fok109 (fuel : Nat) : FnOK Try.prog 109 (evalFn tab (G109 fuel) (J109 fuel) kp109 fuel Try.f109) :=
  fn_ok tab_ok (hG109 fuel) mixed Try.func109 (c := (Try.f109.body).getD .skip) rfl (fun q hq => by
    rw [(by kernel_rfl : obl (J109 fuel) ((Try.f109.body).getD .skip) = [])] at hq
    cases hq)
noncomputable def mt109 : List Ev.SV → List Ev.Ob → Bool := fun args objs => match args, objs with
 | [.agg [.int .i64 _, .int .i64 _, .int .i64 _, .bool _, .int .i64 _]], [] => true
 | _, _ => false
noncomputable def spg109 (F : YF109) : Ev.Spec := fun args objs k => match args, objs with
 | [.agg [.int .i64 x0, .int .i64 x1, .int .i64 x2, .bool x3, .int .i64 x4]], [] => bif true then F x0 x1 x2 x3 x4 (fun r => match r with | r0 => k (.c (.bool r0), [])) else none
 | _, _ => none
noncomputable def spec109 (fuel : Nat) : Ev.Spec := spg109 (F_ref07_Valid fuel)
theorem ok109 (fuel : Nat) : FnOK Try.prog 109 (spec109 fuel) := by
  intro args objs kk r h
  unfold spec109 spg109 at h
  split at h
  · skip
    obtain ⟨hb, h⟩ := cond_some' h
    simp only [Bool.and_eq_true, Nat.beq_eq, decide_eq_true_eq] at hb
    clear hb
    exact fok109 fuel _ _ kk r ((F109_eq fuel _ _ _ _ _ kk).trans h)
  · cases h
end Go.Proofs.Ytihfgpfofmjbaaa

set_option linter.unusedVariables false
set_option linter.unusedSimpArgs false
set_option maxRecDepth 100000
set_option maxHeartbeats 2000000
namespace Go.Proofs.Ytihfgpfofmjbaaa
open Go Ev
def kp205 (i : Nat) : Option (List Nat) := Ev.look i []
noncomputable def Gg205 (f : Nat) : Option Ev.Spec := Ev.look f []
noncomputable def G205 (fuel : Nat) : Nat → Option Ev.Spec := Gg205
noncomputable def J205 (fuel : Nat) (i : Nat) : Option Ev.Blk := Ev.look i []
noncomputable def F_ref07_template (fuel : Nat) (x0 : Int) (k0 : ((List (Int × Int))) → Option Ans) : Option Ans :=
  bif x0 == (0 : Int) then
  k0 ([((-1 : Int), (-2 : Int)), ((0 : Int), (-2 : Int)), ((1 : Int), (-2 : Int)), ((-2 : Int), (-1 : Int)), ((-1 : Int), (-1 : Int)), ((0 : Int), (-1 : Int)), ((1 : Int), (-1 : Int)), ((2 : Int), (-1 : Int)), ((-2 : Int), (0 : Int)), ((-1 : Int), (0 : Int))])
  else
  bif x0 == (1 : Int) then
  k0 ([((-1 : Int), (-2 : Int)), ((0 : Int), (-2 : Int)), ((-1 : Int), (-1 : Int)), ((0 : Int), (-1 : Int)), ((1 : Int), (-1 : Int)), ((-2 : Int), (0 : Int)), ((-1 : Int), (0 : Int))])
  else
  bif x0 == (2 : Int) then
  k0 ([((-2 : Int), (-1 : Int)), ((-1 : Int), (-1 : Int)), ((0 : Int), (-1 : Int)), ((1 : Int), (-1 : Int)), ((2 : Int), (-1 : Int)), ((-2 : Int), (0 : Int)), ((-1 : Int), (0 : Int))])
  else
  k0 ([((-1 : Int), (-1 : Int)), ((0 : Int), (-1 : Int)), ((1 : Int), (-1 : Int)), ((-1 : Int), (0 : Int))])
abbrev YF205 : Type := (Int) → (((List (Int × Int))) → Option Ans) → Option Ans
theorem F205_eq (fuel : Nat) (x0 : Int) (k : Ev.Cont) : evalFn tab (G205 fuel) (J205 fuel) kp205 fuel Try.f205 [.c (.int .i64 x0)] [] k = F_ref07_template fuel x0 (fun r => match r with | r0 => k (.c (.own 0), [.vec 223 (.pair (.int .i64) (.int .i64)) r0 true])) := by
  kernel_rfl
theorem hG205 (fuel : Nat) : GOK Try.prog (G205 fuel) :=
  gok_nil
theorem fok205 (fuel : Nat) : FnOK Try.prog 205 (evalFn tab (G205 fuel) (J205 fuel) kp205 fuel Try.f205) :=
  fn_ok tab_ok (hG205 fuel) mixed Try.func205 (c := (Try.f205.body).getD .skip) rfl (fun q hq => by
    rw [(by kernel_rfl : obl (J205 fuel) ((Try.f205.body).getD .skip) = [])] at hq
    cases hq)
noncomputable def mt205 : List Ev.SV → List Ev.Ob → Bool := fun args objs => match args, objs with
 | [.c (.int .i64 _)], [] => true
 | _, _ => false
noncomputable def spg205 (F : YF205) : Ev.Spec := fun args objs k => match args, objs with
 | [.c (.int .i64 x0)], [] => bif true then F x0 (fun r => match r with | r0 => k (.c (.own 0), [.vec 223 (.pair (.int .i64) (.int .i64)) r0 true])) else none
 | _, _ => none
noncomputable def spec205 (fuel : Nat) : Ev.Spec := spg205 (F_ref07_template fuel)
theorem ok205 (fuel : Nat) : FnOK Try.prog 205 (spec205 fuel) := by
  intro args objs kk r h
  unfold spec205 spg205 at h
  split at h
  · skip
    obtain ⟨hb, h⟩ := cond_some' h
    simp only [Bool.and_eq_true, Nat.beq_eq, decide_eq_true_eq] at hb
    clear hb
    exact fok205 fuel _ _ kk r ((F205_eq fuel _ kk).trans h)
  · cases h
end Go.Proofs.Ytihfgpfofmjbaaa

set_option linter.unusedVariables false
set_option linter.unusedSimpArgs false
set_option maxRecDepth 100000
set_option maxHeartbeats 2000000
namespace Go.Proofs.Ytihfgpfofmjbaaa
open Go Ev
def kp180 (i : Nat) : Option (List Nat) := Ev.look i [(200001, [1])]
noncomputable def Gg180 (f205 : YF205) (f : Nat) : Option Ev.Spec := Ev.look f [(205, spg205 f205)]
noncomputable def G180 (fuel : Nat) : Nat → Option Ev.Spec := Gg180 (F_ref07_template fuel)
noncomputable def J180 (fuel : Nat) (i : Nat) : Option Ev.Blk := Ev.look i []
noncomputable def Fg_ref07_pixels (fuel : Nat) (f205 : YF205) (x0 x1 x2 : Int) (x3 : Bool) (x4 : Int) (k0 : ((List (Int × Int))) → Option Ans) : Option Ans :=
  both ((f205 (x0)
  (fun y4 =>
  bif decide ((y4.length + [(x1, x2)].length) * (16 : Nat) ≤ (140737488355328 : Nat) ∧ y4.length + [(x1, x2)].length ≤ (140737488355328 : Nat)) then
  k0 (y4 ++ [(x1, x2)])
  else none)))
  (both ((f205 (x0)
  (fun y6 =>
  bif decide ((y6.length + [(x1, x2)].length) * (16 : Nat) ≤ (140737488355328 : Nat) ∧ y6.length + [(x1, x2)].length ≤ (140737488355328 : Nat)) then
  k0 (y6 ++ [(x1, x2)])
  else none)))
  ((f205 (x0)
  (fun y6 =>
  bif decide ((y6.length + [(x1, x2)].length) * (16 : Nat) ≤ (140737488355328 : Nat) ∧ y6.length + [(x1, x2)].length ≤ (140737488355328 : Nat)) then
  k0 (y6 ++ [(x1, x2)])
  else none))))
noncomputable def F_ref07_pixels (fuel : Nat) (x0 x1 x2 : Int) (x3 : Bool) (x4 : Int) (k0 : ((List (Int × Int))) → Option Ans) : Option Ans := Fg_ref07_pixels fuel (F_ref07_template fuel) x0 x1 x2 x3 x4 k0
abbrev YF180 : Type := (Int) → (Int) → (Int) → (Bool) → (Int) → (((List (Int × Int))) → Option Ans) → Option Ans
theorem F180_eqg (fuel : Nat) (f205 : YF205) (x0 x1 x2 : Int) (x3 : Bool) (x4 : Int) (k : Ev.Cont) : evalFn tab (Gg180 f205) (J180 fuel) kp180 fuel Try.f180 [.agg [.int .i64 x0, .int .i64 x1, .int .i64 x2, .bool x3, .int .i64 x4]] [] k = Fg_ref07_pixels fuel f205 x0 x1 x2 x3 x4 (fun r => match r with | r0 => k (.c (.own 0), [.vec 223 (.pair (.int .i64) (.int .i64)) r0 true])) := by
  kernel_rfl
theorem F180_eq (fuel : Nat) (x0 x1 x2 : Int) (x3 : Bool) (x4 : Int) (k : Ev.Cont) : evalFn tab (G180 fuel) (J180 fuel) kp180 fuel Try.f180 [.agg [.int .i64 x0, .int .i64 x1, .int .i64 x2, .bool x3, .int .i64 x4]] [] k = F_ref07_pixels fuel x0 x1 x2 x3 x4 (fun r => match r with | r0 => k (.c (.own 0), [.vec 223 (.pair (.int .i64) (.int .i64)) r0 true])) :=
  F180_eqg fuel (F_ref07_template fuel) x0 x1 x2 x3 x4 k
theorem hG180 (fuel : Nat) : GOK Try.prog (G180 fuel) :=
  gok_cons ⟨ok205 fuel, enters_of Try.func205 (by kernel_rfl) rfl⟩ <|
  gok_nil
theorem fok180 (fuel : Nat) : FnOK Try.prog 180 (evalFn tab (G180 fuel) (J180 fuel) kp180 fuel Try.f180) :=
  fn_ok tab_ok (hG180 fuel) mixed Try.func180 (c := (Try.f180.body).getD .skip) rfl (fun q hq => by
    rw [(by kernel_rfl : obl (J180 fuel) ((Try.f180.body).getD .skip) = [])] at hq
    cases hq)
noncomputable def mt180 : List Ev.SV → List Ev.Ob → Bool := fun args objs => match args, objs with
 | [.agg [.int .i64 _, .int .i64 _, .int .i64 _, .bool _, .int .i64 _]], [] => true
 | _, _ => false
noncomputable def spg180 (F : YF180) : Ev.Spec := fun args objs k => match args, objs with
 | [.agg [.int .i64 x0, .int .i64 x1, .int .i64 x2, .bool x3, .int .i64 x4]], [] => bif true then F x0 x1 x2 x3 x4 (fun r => match r with | r0 => k (.c (.own 0), [.vec 223 (.pair (.int .i64) (.int .i64)) r0 true])) else none
 | _, _ => none
noncomputable def spec180 (fuel : Nat) : Ev.Spec := spg180 (F_ref07_pixels fuel)
theorem ok180 (fuel : Nat) : FnOK Try.prog 180 (spec180 fuel) := by
  intro args objs kk r h
  unfold spec180 spg180 at h
  split at h
  · skip
    obtain ⟨hb, h⟩ := cond_some' h
    simp only [Bool.and_eq_true, Nat.beq_eq, decide_eq_true_eq] at hb
    clear hb
    exact fok180 fuel _ _ kk r ((F180_eq fuel _ _ _ _ _ kk).trans h)
  · cases h
end Go.Proofs.Ytihfgpfofmjbaaa

set_option linter.unusedVariables false
set_option linter.unusedSimpArgs false
set_option maxRecDepth 100000
set_option maxHeartbeats 2000000
namespace Go.Proofs.Ytihfgpfofmjbaaa
open Go Ev
def kp122 (i : Nat) : Option (List Nat) := Ev.look i []
noncomputable def Gg122 (f109 : YF109) (f180 : YF180) (f : Nat) : Option Ev.Spec := Ev.look f [(109, spg109 f109), (180, spg180 f180)]
noncomputable def G122 (fuel : Nat) : Nat → Option Ev.Spec := Gg122 (F_ref07_Valid fuel) (F_ref07_pixels fuel)
noncomputable def J122 (fuel : Nat) (i : Nat) : Option Ev.Blk := Ev.look i []
noncomputable def Fg_ref07_Size (fuel : Nat) (f109 : YF109) (f180 : YF180) (x0 x1 x2 : Int) (x3 : Bool) (x4 : Int) (k0 : (Int × Int) → Option Ans) : Option Ans :=
  (f109 (x0) (x1) (x2) (x3) (x4)
  (fun y2 =>
  bif !y2 then
  k0 ((0 : Int), (2 : Int))
  else
  (f180 (x0) (x1) (x2) (x3) (x4)
  (fun y7 =>
  k0 (IntKind.i64.wrap (Ev.ishl IntKind.i64 (1 : Int) (↑y7.length : Int) + (1 : Int)), (0 : Int))))))
noncomputable def F_ref07_Size (fuel : Nat) (x0 x1 x2 : Int) (x3 : Bool) (x4 : Int) (k0 : (Int × Int) → Option Ans) : Option Ans := Fg_ref07_Size fuel (F_ref07_Valid fuel) (F_ref07_pixels fuel) x0 x1 x2 x3 x4 k0
abbrev YF122 : Type := (Int) → (Int) → (Int) → (Bool) → (Int) → ((Int × Int) → Option Ans) → Option Ans
theorem F122_eqg (fuel : Nat) (f109 : YF109) (f180 : YF180) (x0 x1 x2 : Int) (x3 : Bool) (x4 : Int) (k : Ev.Cont) : evalFn tab (Gg122 f109 f180) (J122 fuel) kp122 fuel Try.f122 [.agg [.int .i64 x0, .int .i64 x1, .int .i64 x2, .bool x3, .int .i64 x4]] [] k = Fg_ref07_Size fuel f109 f180 x0 x1 x2 x3 x4 (fun r => match r with | (r0, r1) => k (.tup [(false, [.int .i64 r0]), (false, [.int .i64 r1])], [])) := by
  kernel_rfl
theorem F122_eq (fuel : Nat) (x0 x1 x2 : Int) (x3 : Bool) (x4 : Int) (k : Ev.Cont) : evalFn tab (G122 fuel) (J122 fuel) kp122 fuel Try.f122 [.agg [.int .i64 x0, .int .i64 x1, .int .i64 x2, .bool x3, .int .i64 x4]] [] k = F_ref07_Size fuel x0 x1 x2 x3 x4 (fun r => match r with | (r0, r1) => k (.tup [(false, [.int .i64 r0]), (false, [.int .i64 r1])], [])) :=
  F122_eqg fuel (F_ref07_Valid fuel) (F_ref07_pixels fuel) x0 x1 x2 x3 x4 k
theorem hG122 (fuel : Nat) : GOK Try.prog (G122 fuel) :=
  gok_cons ⟨ok109 fuel, enters_of Try.func109 (by kernel_rfl) rfl⟩ <|
  gok_cons ⟨ok180 fuel, enters_of Try.func180 (by kernel_rfl) rfl⟩ <|
  gok_nil
theorem fok122 (fuel : Nat) : FnOK Try.prog 122 (evalFn tab (G122 fuel) (J122 fuel) kp122 fuel Try.f122) :=
  fn_ok tab_ok (hG122 fuel) mixed Try.func122 (c := (Try.f122.body).getD .skip) rfl (fun q hq => by
    rw [(by kernel_rfl : obl (J122 fuel) ((Try.f122.body).getD .skip) = [])] at hq
    cases hq)
noncomputable def mt122 : List Ev.SV → List Ev.Ob → Bool := fun args objs => match args, objs with
 | [.agg [.int .i64 _, .int .i64 _, .int .i64 _, .bool _, .int .i64 _]], [] => true
 | _, _ => false
noncomputable def spg122 (F : YF122) : Ev.Spec := fun args objs k => match args, objs with
 | [.agg [.int .i64 x0, .int .i64 x1, .int .i64 x2, .bool x3, .int .i64 x4]], [] => bif true then F x0 x1 x2 x3 x4 (fun r => match r with | (r0, r1) => k (.tup [(false, [.int .i64 r0]), (false, [.int .i64 r1])], [])) else none
 | _, _ => none
noncomputable def spec122 (fuel : Nat) : Ev.Spec := spg122 (F_ref07_Size fuel)
theorem ok122 (fuel : Nat) : FnOK Try.prog 122 (spec122 fuel) := by
  intro args objs kk r h
  unfold spec122 spg122 at h
  split at h
  · skip
    obtain ⟨hb, h⟩ := cond_some' h
    simp only [Bool.and_eq_true, Nat.beq_eq, decide_eq_true_eq] at hb
    clear hb
    exact fok122 fuel _ _ kk r ((F122_eq fuel _ _ _ _ _ kk).trans h)
  · cases h
end Go.Proofs.Ytihfgpfofmjbaaa

set_option linter.unusedVariables false
set_option linter.unusedSimpArgs false
set_option maxRecDepth 100000
set_option maxHeartbeats 2000000
namespace Go.Proofs.Ytihfgpfofmjbaaa
open Go Ev
def kp126 (i : Nat) : Option (List Nat) := Ev.look i [(4, [2, 3, 5, 9, 10, 11]), (100000, [10]), (200006, [5, 9]), (400000, [8])]
noncomputable def Gg126 (f125 : YF125) (f180 : YF180) (f : Nat) : Option Ev.Spec := Ev.look f [(125, spg125 f125), (180, spg180 f180)]
noncomputable def G126 (fuel : Nat) : Nat → Option Ev.Spec := Gg126 (F_ref05_At fuel) (F_ref07_pixels fuel)
noncomputable def Sg_ref07_context_0 (fuel : Nat) (f125 : YF125) (f180 : YF180) (x0 x1 : Int) (x2 x3 : Int) (x4 x5 : Int) (x6 : (List Int)) (x7 : (List (Int × Int))) (c : (Int × Int × Int × Int × Int × Int × (List Int) × (List (Int × Int))) → Option Ans) (B : (Int → Option Ans)) : Option Ans := match B with
 | b =>
  bif decide (x3 < (↑x7.length : Int)) then
  bif decide ((0 : Int) ≤ x3 ∧ x3 < (↑x7.length : Int)) then
  bif decide ((0 : Int) ≤ x3 ∧ x3 < (↑x7.length : Int)) then
  both ((f125 (x4) (x5) (x6) (IntKind.i64.wrap (x0 + (x7.getD x3.toNat ((0 : Int), (0 : Int))).fst)) (IntKind.i64.wrap (x1 + (x7.getD x3.toNat ((0 : Int), (0 : Int))).snd))
  (fun y7 =>
  c (x0, x1, IntKind.i64.wrap (IntKind.i64.wrap ((2 : Int) * x2) + y7), IntKind.i64.wrap (x3 + (1 : Int)), x4, x5, x6, x7))))
  ((f125 (x4) (x5) (x6) (IntKind.i64.wrap (x0 + (x7.getD x3.toNat ((0 : Int), (0 : Int))).fst)) (IntKind.i64.wrap (x1 + (x7.getD x3.toNat ((0 : Int), (0 : Int))).snd))
  (fun y7 =>
  c (x0, x1, IntKind.i64.wrap (IntKind.i64.wrap ((2 : Int) * x2) + y7), IntKind.i64.wrap (x3 + (1 : Int)), x4, x5, x6, x7))))
  else none
  else none
  else
  b x2
noncomputable def S_ref07_context_0 (fuel : Nat) (v : Int × Int × Int × Int × Int × Int × (List Int) × (List (Int × Int))) (c : (Int × Int × Int × Int × Int × Int × (List Int) × (List (Int × Int))) → Option Ans) (B : (Int → Option Ans)) : Option Ans := match v with
 | (x0, x1, x2, x3, x4, x5, x6, x7) => Sg_ref07_context_0 fuel (F_ref05_At fuel) (F_ref07_pixels fuel) x0 x1 x2 x3 x4 x5 x6 x7 c B
noncomputable def L_ref07_context_0 (fuel : Nat) (v : Int × Int × Int × Int × Int × Int × (List Int) × (List (Int × Int))) (b : (Int → Option Ans)) : Option Ans := iter (S_ref07_context_0 fuel) fuel v b
noncomputable def J126_0 (fuel : Nat) (i : Nat) : Option Ev.Blk := Ev.look i []
noncomputable def T126_0 (v : Int × Int × Int × Int × Int × Int × (List Int) × (List (Int × Int))) : Ev.St := match v with | (x0, x1, x2, x3, x4, x5, x6, x7) => ⟨[(2, .c (.int .i64 x0)), (3, .c (.int .i64 x1)), (5, .c (.ptr 0 0)), (9, .c (.own 1)), (10, .c (.int .i64 x2)), (11, .c (.int .i64 x3))], [(0, .cells 39 [.int .i64 x4, .int .i64 x5, .sl (.int .u8) x6]), (1, .vec 223 (.pair (.int .i64) (.int .i64)) x7 true)], 2, 0⟩
noncomputable def E126_0 (K : Ev.Ex → Ev.St → Option Ans) : (Int → Option Ans) := (fun v => match v with | x0 => K .normal ⟨[(10, .c (.int .i64 x0))], [], 0, 0⟩)
theorem S126_0_okg (fuel : Nat) (f125 : YF125) (f180 : YF180) (R : Ev.St → Option Ans) (K : Ev.Ex → Ev.St → Option Ans) (x0 x1 : Int) (x2 x3 : Int) (x4 x5 : Int) (x6 : (List Int)) (x7 : (List (Int × Int))) : evalCode tab (Gg126 f125 f180) (J126_0 fuel) kp126 fuel (bodyOf 0 Try.f126) (T126_0 (x0, x1, x2, x3, x4, x5, x6, x7)) (lc kp126 4 0 R K) = Sg_ref07_context_0 fuel f125 f180 x0 x1 x2 x3 x4 x5 x6 x7 (fun v => R (T126_0 v)) (E126_0 K) := by
  kernel_rfl
theorem S126_0_ok (fuel : Nat) (R : Ev.St → Option Ans) (K : Ev.Ex → Ev.St → Option Ans) (x0 x1 : Int) (x2 x3 : Int) (x4 x5 : Int) (x6 : (List Int)) (x7 : (List (Int × Int))) : evalCode tab (G126 fuel) (J126_0 fuel) kp126 fuel (bodyOf 0 Try.f126) (T126_0 (x0, x1, x2, x3, x4, x5, x6, x7)) (lc kp126 4 0 R K) = S_ref07_context_0 fuel (x0, x1, x2, x3, x4, x5, x6, x7) (fun v => R (T126_0 v)) (E126_0 K) :=
  S126_0_okg fuel (F_ref05_At fuel) (F_ref07_pixels fuel) R K x0 x1 x2 x3 x4 x5 x6 x7
noncomputable def B126_0 (fuel : Nat) : Ev.Blk := fun st K => match canonO (kp126 4) st with
 | some s => (match s with
 | ⟨[(q0, .c (.int .i64 x0)), (q1, .c (.int .i64 x1)), (q2, .c (.ptr q3 q4)), (q5, .c (.own q6)), (q7, .c (.int .i64 x2)), (q8, .c (.int .i64 x3))], [(q9, .cells q10 [.int .i64 x4, .int .i64 x5, .sl (.int .u8) x6]), (q11, .vec q12 (.pair (.int .i64) (.int .i64)) x7 true)], q13, q14⟩ => bif Nat.beq q0 2 && Nat.beq q1 3 && Nat.beq q2 5 && Nat.beq q3 0 && Nat.beq q4 0 && Nat.beq q5 9 && Nat.beq q6 1 && Nat.beq q7 10 && Nat.beq q8 11 && Nat.beq q9 0 && Nat.beq q10 39 && Nat.beq q11 1 && Nat.beq q12 223 && Nat.beq q13 2 && Nat.beq q14 0 then iter (S_ref07_context_0 fuel) fuel (x0, x1, x2, x3, x4, x5, x6, x7) (E126_0 K) else none
 | _ => none)
 | none => none
theorem B126_0_ok (fuel : Nat) (st : Ev.St) (K : Ev.Ex → Ev.St → Option Ans) (r : Ans) (h : B126_0 fuel st K = some r) : evalCode tab (G126 fuel) (J126_0 fuel) kp126 fuel (.block 0 (.loop (bodyOf 0 Try.f126))) st K = some r := by
  unfold B126_0 at h
  split at h
  · rename_i s hs
    split at h
    · skip
      obtain ⟨hb, h⟩ := cond_some' h
      simp only [Bool.and_eq_true, Nat.beq_eq, decide_eq_true_eq] at hb
      obtain ⟨⟨⟨⟨⟨⟨⟨⟨⟨⟨⟨⟨⟨⟨rfl, rfl⟩, rfl⟩, rfl⟩, rfl⟩, rfl⟩, rfl⟩, rfl⟩, rfl⟩, rfl⟩, rfl⟩, rfl⟩, rfl⟩, rfl⟩, rfl⟩ := hb
      exact blk_loop (S := T126_0) (ks := E126_0) (step := S_ref07_context_0 fuel) (v := (_, _, _, _, _, _, _, _)) (by kernel_rfl) (by kernel_rfl) (fun R K v => by obtain ⟨x0, x1, x2, x3, x4, x5, x6, x7⟩ := v; exact S126_0_ok fuel R K x0 x1 x2 x3 x4 x5 x6 x7) hs h
    · cases h
  · cases h
noncomputable def J126 (fuel : Nat) (i : Nat) : Option Ev.Blk := Ev.look i [(100000, B126_0 fuel)]
noncomputable def Fg_ref07_context (fuel : Nat) (f125 : YF125) (f180 : YF180) (x0 x1 x2 : Int) (x3 : Bool) (x4 x5 x6 : Int) (x7 : (List Int)) (x8 x9 : Int) (k0 : (Int) → Option Ans) : Option Ans :=
  (f180 (x0) (x1) (x2) (x3) (x4)
  (fun y2 =>
  (L_ref07_context_0 fuel (x8, x9, (0 : Int), (0 : Int), x5, x6, x7, y2)
  (fun b0_0 =>
  k0 b0_0))))
noncomputable def F_ref07_context (fuel : Nat) (x0 x1 x2 : Int) (x3 : Bool) (x4 x5 x6 : Int) (x7 : (List Int)) (x8 x9 : Int) (k0 : (Int) → Option Ans) : Option Ans := Fg_ref07_context fuel (F_ref05_At fuel) (F_ref07_pixels fuel) x0 x1 x2 x3 x4 x5 x6 x7 x8 x9 k0
abbrev YF126 : Type := (Int) → (Int) → (Int) → (Bool) → (Int) → (Int) → (Int) → ((List Int)) → (Int) → (Int) → ((Int) → Option Ans) → Option Ans
theorem F126_eqg (fuel : Nat) (f125 : YF125) (f180 : YF180) (x0 x1 x2 : Int) (x3 : Bool) (x4 x5 x6 : Int) (x7 : (List Int)) (x8 x9 : Int) (k : Ev.Cont) : evalFn tab (Gg126 f125 f180) (J126 fuel) kp126 fuel Try.f126 [.agg [.int .i64 x0, .int .i64 x1, .int .i64 x2, .bool x3, .int .i64 x4], .agg [.int .i64 x5, .int .i64 x6, .sl (.int .u8) x7], .c (.int .i64 x8), .c (.int .i64 x9)] [] k = Fg_ref07_context fuel f125 f180 x0 x1 x2 x3 x4 x5 x6 x7 x8 x9 (fun r => match r with | r0 => k (.c (.int .i64 r0), [])) := by
  kernel_rfl
theorem F126_eq (fuel : Nat) (x0 x1 x2 : Int) (x3 : Bool) (x4 x5 x6 : Int) (x7 : (List Int)) (x8 x9 : Int) (k : Ev.Cont) : evalFn tab (G126 fuel) (J126 fuel) kp126 fuel Try.f126 [.agg [.int .i64 x0, .int .i64 x1, .int .i64 x2, .bool x3, .int .i64 x4], .agg [.int .i64 x5, .int .i64 x6, .sl (.int .u8) x7], .c (.int .i64 x8), .c (.int .i64 x9)] [] k = F_ref07_context fuel x0 x1 x2 x3 x4 x5 x6 x7 x8 x9 (fun r => match r with | r0 => k (.c (.int .i64 r0), [])) :=
  F126_eqg fuel (F_ref05_At fuel) (F_ref07_pixels fuel) x0 x1 x2 x3 x4 x5 x6 x7 x8 x9 k
theorem hG126 (fuel : Nat) : GOK Try.prog (G126 fuel) :=
  gok_cons ⟨ok125 fuel, enters_of Try.func125 (by kernel_rfl) rfl⟩ <|
  gok_cons ⟨ok180 fuel, enters_of Try.func180 (by kernel_rfl) rfl⟩ <|
  gok_nil
theorem B126_0_blk (fuel : Nat) : BlkOK Try.prog Try.f126.ntmps (.block 0 (.loop (bodyOf 0 Try.f126))) (B126_0 fuel) :=
  blk_of (blk_of_code tab_ok (hG126 fuel) mixed (J := J126_0 fuel) (kp := kp126) (fuel := fuel) (by kernel_rfl) (fun q hq => by
    rw [(by kernel_rfl : obl (J126_0 fuel) (.block 0 (.loop (bodyOf 0 Try.f126))) = [])] at hq
    cases hq)) (B126_0_ok fuel)
theorem fok126 (fuel : Nat) : FnOK Try.prog 126 (evalFn tab (G126 fuel) (J126 fuel) kp126 fuel Try.f126) :=
  fn_ok tab_ok (hG126 fuel) mixed Try.func126 (c := (Try.f126.body).getD .skip) rfl (fun q hq => by
    rw [(by kernel_rfl : obl (J126 fuel) ((Try.f126.body).getD .skip) = [(.block 0 (.loop (bodyOf 0 Try.f126)), B126_0 fuel)])] at hq
    simp only [List.mem_cons, List.not_mem_nil, or_false] at hq
    subst hq
    · exact B126_0_blk fuel)
noncomputable def mt126 : List Ev.SV → List Ev.Ob → Bool := fun args objs => match args, objs with
 | [.agg [.int .i64 _, .int .i64 _, .int .i64 _, .bool _, .int .i64 _], .agg [.int .i64 _, .int .i64 _, .sl (.int .u8) _], .c (.int .i64 _), .c (.int .i64 _)], [] => true
 | _, _ => false
noncomputable def spg126 (F : YF126) : Ev.Spec := fun args objs k => match args, objs with
 | [.agg [.int .i64 x0, .int .i64 x1, .int .i64 x2, .bool x3, .int .i64 x4], .agg [.int .i64 x5, .int .i64 x6, .sl (.int .u8) x7], .c (.int .i64 x8), .c (.int .i64 x9)], [] => bif true then F x0 x1 x2 x3 x4 x5 x6 x7 x8 x9 (fun r => match r with | r0 => k (.c (.int .i64 r0), [])) else none
 | _, _ => none
noncomputable def spec126 (fuel : Nat) : Ev.Spec := spg126 (F_ref07_context fuel)
theorem ok126 (fuel : Nat) : FnOK Try.prog 126 (spec126 fuel) := by
  intro args objs kk r h
  unfold spec126 spg126 at h
  split at h
  · skip
    obtain ⟨hb, h⟩ := cond_some' h
    simp only [Bool.and_eq_true, Nat.beq_eq, decide_eq_true_eq] at hb
    clear hb
    exact fok126 fuel _ _ kk r ((F126_eq fuel _ _ _ _ _ _ _ _ _ _ kk).trans h)
  · cases h
end Go.Proofs.Ytihfgpfofmjbaaa

set_option linter.unusedVariables false
set_option linter.unusedSimpArgs false
set_option maxRecDepth 100000
set_option maxHeartbeats 2000000
namespace Go.Proofs.Ytihfgpfofmjbaaa
open Go Ev
def kp179 (i : Nat) : Option (List Nat) := Ev.look i []
noncomputable def Gg179 (f : Nat) : Option Ev.Spec := Ev.look f []
noncomputable def G179 (fuel : Nat) : Nat → Option Ev.Spec := Gg179
noncomputable def J179 (fuel : Nat) (i : Nat) : Option Ev.Blk := Ev.look i []
noncomputable def F_ref07_none (fuel : Nat) (x0 x1 : Int) (x2 : (List Int)) (k0 : (Bool) → Option Ans) : Option Ans :=
  bif x0 == (0 : Int) then
  k0 (x1 == (0 : Int))
  else
  k0 false
abbrev YF179 : Type := (Int) → (Int) → ((List Int)) → ((Bool) → Option Ans) → Option Ans
theorem F179_eq (fuel : Nat) (x0 x1 : Int) (x2 : (List Int)) (k : Ev.Cont) : evalFn tab (G179 fuel) (J179 fuel) kp179 fuel Try.f179 [.agg [.int .i64 x0, .int .i64 x1, .sl (.int .u8) x2]] [] k = F_ref07_none fuel x0 x1 x2 (fun r => match r with | r0 => k (.c (.bool r0), [])) := by
  kernel_rfl
theorem hG179 (fuel : Nat) : GOK Try.prog (G179 fuel) :=
  gok_nil
theorem fok179 (fuel : Nat) : FnOK Try.prog 179 (evalFn tab (G179 fuel) (J179 fuel) kp179 fuel Try.f179) :=
  fn_ok tab_ok (hG179 fuel) mixed Try.func179 (c := (Try.f179.body).getD .skip) rfl (fun q hq => by
    rw [(by kernel_rfl : obl (J179 fuel) ((Try.f179.body).getD .skip) = [])] at hq
    cases hq)
noncomputable def mt179 : List Ev.SV → List Ev.Ob → Bool := fun args objs => match args, objs with
 | [.agg [.int .i64 _, .int .i64 _, .sl (.int .u8) _]], [] => true
 | _, _ => false
noncomputable def spg179 (F : YF179) : Ev.Spec := fun args objs k => match args, objs with
 | [.agg [.int .i64 x0, .int .i64 x1, .sl (.int .u8) x2]], [] => bif true then F x0 x1 x2 (fun r => match r with | r0 => k (.c (.bool r0), [])) else none
 | _, _ => none
noncomputable def spec179 (fuel : Nat) : Ev.Spec := spg179 (F_ref07_none fuel)
theorem ok179 (fuel : Nat) : FnOK Try.prog 179 (spec179 fuel) := by
  intro args objs kk r h
  unfold spec179 spg179 at h
  split at h
  · skip
    obtain ⟨hb, h⟩ := cond_some' h
    simp only [Bool.and_eq_true, Nat.beq_eq, decide_eq_true_eq] at hb
    clear hb
    exact fok179 fuel _ _ kk r ((F179_eq fuel _ _ _ kk).trans h)
  · cases h
end Go.Proofs.Ytihfgpfofmjbaaa

set_option linter.unusedVariables false
set_option linter.unusedSimpArgs false
set_option maxRecDepth 100000
set_option maxHeartbeats 2000000
namespace Go.Proofs.Ytihfgpfofmjbaaa
open Go Ev
def kp120 (i : Nat) : Option (List Nat) := Ev.look i []
noncomputable def Gg120 (f122 : YF122) (f179 : YF179) (f : Nat) : Option Ev.Spec := Ev.look f [(122, spg122 f122), (179, spg179 f179)]
noncomputable def G120 (fuel : Nat) : Nat → Option Ev.Spec := Gg120 (F_ref07_Size fuel) (F_ref07_none fuel)
noncomputable def J120 (fuel : Nat) (i : Nat) : Option Ev.Blk := Ev.look i []
noncomputable def Fg_ref07_room (fuel : Nat) (f122 : YF122) (f179 : YF179) (x0 x1 x2 : Int) (x3 : Bool) (x4 x5 : Int) (x6 x7 : Int) (x8 x9 x10 : Int) (x11 : (List Int)) (k0 : (Int) → Option Ans) : Option Ans :=
  (f122 (x0) (x1) (x2) (x3) (x4)
  (fun (y2_0, y2_1) =>
  (f179 (x9) (x10) (x11)
  (fun y6 =>
  bif !y6 then
  bif x9 != x7 then
  k0 ((2 : Int))
  else
  bif x10 != x8 then
  k0 ((2 : Int))
  else
  bif decide (x5 < (0 : Int)) then
  k0 ((2 : Int))
  else
  bif decide (x5 > x6) then
  k0 ((2 : Int))
  else
  bif decide (y2_0 > IntKind.i64.wrap (x6 - x5)) then
  k0 ((2 : Int))
  else
  k0 ((0 : Int))
  else
  bif decide (x5 < (0 : Int)) then
  k0 ((2 : Int))
  else
  bif decide (x5 > x6) then
  k0 ((2 : Int))
  else
  bif decide (y2_0 > IntKind.i64.wrap (x6 - x5)) then
  k0 ((2 : Int))
  else
  k0 ((0 : Int))))))
noncomputable def F_ref07_room (fuel : Nat) (x0 x1 x2 : Int) (x3 : Bool) (x4 x5 : Int) (x6 x7 : Int) (x8 x9 x10 : Int) (x11 : (List Int)) (k0 : (Int) → Option Ans) : Option Ans := Fg_ref07_room fuel (F_ref07_Size fuel) (F_ref07_none fuel) x0 x1 x2 x3 x4 x5 x6 x7 x8 x9 x10 x11 k0
abbrev YF120 : Type := (Int) → (Int) → (Int) → (Bool) → (Int) → (Int) → (Int) → (Int) → (Int) → (Int) → (Int) → ((List Int)) → ((Int) → Option Ans) → Option Ans
theorem F120_eqg (fuel : Nat) (f122 : YF122) (f179 : YF179) (x0 x1 x2 : Int) (x3 : Bool) (x4 x5 : Int) (x6 x7 : Int) (x8 x9 x10 : Int) (x11 : (List Int)) (k : Ev.Cont) : evalFn tab (Gg120 f122 f179) (J120 fuel) kp120 fuel Try.f120 [.agg [.int .i64 x0, .int .i64 x1, .int .i64 x2, .bool x3, .int .i64 x4], .c (.int .i64 x5), .c (.int .i64 x6), .c (.int .i64 x7), .c (.int .i64 x8), .agg [.int .i64 x9, .int .i64 x10, .sl (.int .u8) x11]] [] k = Fg_ref07_room fuel f122 f179 x0 x1 x2 x3 x4 x5 x6 x7 x8 x9 x10 x11 (fun r => match r with | r0 => k (.c (.int .i64 r0), [])) := by
  kernel_rfl
theorem F120_eq (fuel : Nat) (x0 x1 x2 : Int) (x3 : Bool) (x4 x5 : Int) (x6 x7 : Int) (x8 x9 x10 : Int) (x11 : (List Int)) (k : Ev.Cont) : evalFn tab (G120 fuel) (J120 fuel) kp120 fuel Try.f120 [.agg [.int .i64 x0, .int .i64 x1, .int .i64 x2, .bool x3, .int .i64 x4], .c (.int .i64 x5), .c (.int .i64 x6), .c (.int .i64 x7), .c (.int .i64 x8), .agg [.int .i64 x9, .int .i64 x10, .sl (.int .u8) x11]] [] k = F_ref07_room fuel x0 x1 x2 x3 x4 x5 x6 x7 x8 x9 x10 x11 (fun r => match r with | r0 => k (.c (.int .i64 r0), [])) :=
  F120_eqg fuel (F_ref07_Size fuel) (F_ref07_none fuel) x0 x1 x2 x3 x4 x5 x6 x7 x8 x9 x10 x11 k
theorem hG120 (fuel : Nat) : GOK Try.prog (G120 fuel) :=
  gok_cons ⟨ok122 fuel, enters_of Try.func122 (by kernel_rfl) rfl⟩ <|
  gok_cons ⟨ok179 fuel, enters_of Try.func179 (by kernel_rfl) rfl⟩ <|
  gok_nil
theorem fok120 (fuel : Nat) : FnOK Try.prog 120 (evalFn tab (G120 fuel) (J120 fuel) kp120 fuel Try.f120) :=
  fn_ok tab_ok (hG120 fuel) mixed Try.func120 (c := (Try.f120.body).getD .skip) rfl (fun q hq => by
    rw [(by kernel_rfl : obl (J120 fuel) ((Try.f120.body).getD .skip) = [])] at hq
    cases hq)
noncomputable def mt120 : List Ev.SV → List Ev.Ob → Bool := fun args objs => match args, objs with
 | [.agg [.int .i64 _, .int .i64 _, .int .i64 _, .bool _, .int .i64 _], .c (.int .i64 _), .c (.int .i64 _), .c (.int .i64 _), .c (.int .i64 _), .agg [.int .i64 _, .int .i64 _, .sl (.int .u8) _]], [] => true
 | _, _ => false
noncomputable def spg120 (F : YF120) : Ev.Spec := fun args objs k => match args, objs with
 | [.agg [.int .i64 x0, .int .i64 x1, .int .i64 x2, .bool x3, .int .i64 x4], .c (.int .i64 x5), .c (.int .i64 x6), .c (.int .i64 x7), .c (.int .i64 x8), .agg [.int .i64 x9, .int .i64 x10, .sl (.int .u8) x11]], [] => bif true then F x0 x1 x2 x3 x4 x5 x6 x7 x8 x9 x10 x11 (fun r => match r with | r0 => k (.c (.int .i64 r0), [])) else none
 | _, _ => none
noncomputable def spec120 (fuel : Nat) : Ev.Spec := spg120 (F_ref07_room fuel)
theorem ok120 (fuel : Nat) : FnOK Try.prog 120 (spec120 fuel) := by
  intro args objs kk r h
  unfold spec120 spg120 at h
  split at h
  · skip
    obtain ⟨hb, h⟩ := cond_some' h
    simp only [Bool.and_eq_true, Nat.beq_eq, decide_eq_true_eq] at hb
    clear hb
    exact fok120 fuel _ _ kk r ((F120_eq fuel _ _ _ _ _ _ _ _ _ _ _ _ kk).trans h)
  · cases h
end Go.Proofs.Ytihfgpfofmjbaaa

set_option linter.unusedVariables false
set_option linter.unusedSimpArgs false
set_option maxRecDepth 100000
set_option maxHeartbeats 2000000
namespace Go.Proofs.Ytihfgpfofmjbaaa
open Go Ev
def kp124 (i : Nat) : Option (List Nat) := Ev.look i [(3, [2, 3, 4, 7, 8]), (100000, [7]), (400000, [6])]
noncomputable def Gg124 (f125 : YF125) (f : Nat) : Option Ev.Spec := Ev.look f [(125, spg125 f125)]
noncomputable def G124 (fuel : Nat) : Nat → Option Ev.Spec := Gg124 (F_ref05_At fuel)
noncomputable def Sg_ref07_typical_0 (fuel : Nat) (f125 : YF125) (x0 x1 : Int) (x2 x3 : Int) (x4 : (List Int)) (x5 x6 : Int) (x7 x8 : (List Int)) (c : (Int × Int × Int × Int × (List Int) × Int × Int × (List Int) × (List Int)) → Option Ans) (B : ((List Int) → Option Ans)) : Option Ans := match B with
 | b =>
  bif decide (x1 < x2) then
  (f125 (x2) (x3) (x4) (x1) (IntKind.i64.wrap (x0 - (1 : Int)))
  (fun y3 =>
  (f125 (x5) (x6) (x7) (x1) (x0)
  (fun y7 =>
  bif y7 == (1 : Int) then
  bif decide ((x8.length + [IntKind.u8.wrap (0 : Int)].length) * (1 : Nat) ≤ (140737488355328 : Nat) ∧ x8.length + [IntKind.u8.wrap (0 : Int)].length ≤ (140737488355328 : Nat)) then
  c (x0, IntKind.i64.wrap (x1 + (1 : Int)), x2, x3, x4, x5, x6, x7, x8 ++ [IntKind.u8.wrap (0 : Int)])
  else none
  else
  bif decide ((x8.length + [IntKind.u8.wrap y3].length) * (1 : Nat) ≤ (140737488355328 : Nat) ∧ x8.length + [IntKind.u8.wrap y3].length ≤ (140737488355328 : Nat)) then
  c (x0, IntKind.i64.wrap (x1 + (1 : Int)), x2, x3, x4, x5, x6, x7, x8 ++ [IntKind.u8.wrap y3])
  else none))))
  else
  b x8
noncomputable def S_ref07_typical_0 (fuel : Nat) (v : Int × Int × Int × Int × (List Int) × Int × Int × (List Int) × (List Int)) (c : (Int × Int × Int × Int × (List Int) × Int × Int × (List Int) × (List Int)) → Option Ans) (B : ((List Int) → Option Ans)) : Option Ans := match v with
 | (x0, x1, x2, x3, x4, x5, x6, x7, x8) => Sg_ref07_typical_0 fuel (F_ref05_At fuel) x0 x1 x2 x3 x4 x5 x6 x7 x8 c B
noncomputable def L_ref07_typical_0 (fuel : Nat) (v : Int × Int × Int × Int × (List Int) × Int × Int × (List Int) × (List Int)) (b : ((List Int) → Option Ans)) : Option Ans := iter (S_ref07_typical_0 fuel) fuel v b
noncomputable def J124_0 (fuel : Nat) (i : Nat) : Option Ev.Blk := Ev.look i []
noncomputable def T124_0 (v : Int × Int × Int × Int × (List Int) × Int × Int × (List Int) × (List Int)) : Ev.St := match v with | (x0, x1, x2, x3, x4, x5, x6, x7, x8) => ⟨[(2, .c (.int .i64 x0)), (3, .c (.ptr 0 0)), (4, .c (.ptr 1 0)), (7, .c (.own 2)), (8, .c (.int .i64 x1))], [(0, .cells 39 [.int .i64 x2, .int .i64 x3, .sl (.int .u8) x4]), (1, .cells 39 [.int .i64 x5, .int .i64 x6, .sl (.int .u8) x7]), (2, .vec 5 (.int .u8) x8 true)], 3, 0⟩
noncomputable def E124_0 (K : Ev.Ex → Ev.St → Option Ans) : ((List Int) → Option Ans) := (fun v => match v with | x0 => K .normal ⟨[(7, .c (.own 0))], [(0, .vec 5 (.int .u8) x0 true)], 1, 0⟩)
theorem S124_0_okg (fuel : Nat) (f125 : YF125) (R : Ev.St → Option Ans) (K : Ev.Ex → Ev.St → Option Ans) (x0 x1 : Int) (x2 x3 : Int) (x4 : (List Int)) (x5 x6 : Int) (x7 x8 : (List Int)) : evalCode tab (Gg124 f125) (J124_0 fuel) kp124 fuel (bodyOf 0 Try.f124) (T124_0 (x0, x1, x2, x3, x4, x5, x6, x7, x8)) (lc kp124 3 0 R K) = Sg_ref07_typical_0 fuel f125 x0 x1 x2 x3 x4 x5 x6 x7 x8 (fun v => R (T124_0 v)) (E124_0 K) := by
  kernel_rfl
theorem S124_0_ok (fuel : Nat) (R : Ev.St → Option Ans) (K : Ev.Ex → Ev.St → Option Ans) (x0 x1 : Int) (x2 x3 : Int) (x4 : (List Int)) (x5 x6 : Int) (x7 x8 : (List Int)) : evalCode tab (G124 fuel) (J124_0 fuel) kp124 fuel (bodyOf 0 Try.f124) (T124_0 (x0, x1, x2, x3, x4, x5, x6, x7, x8)) (lc kp124 3 0 R K) = S_ref07_typical_0 fuel (x0, x1, x2, x3, x4, x5, x6, x7, x8) (fun v => R (T124_0 v)) (E124_0 K) :=
  S124_0_okg fuel (F_ref05_At fuel) R K x0 x1 x2 x3 x4 x5 x6 x7 x8
noncomputable def B124_0 (fuel : Nat) : Ev.Blk := fun st K => match canonO (kp124 3) st with
 | some s => (match s with
 | ⟨[(q0, .c (.int .i64 x0)), (q1, .c (.ptr q2 q3)), (q4, .c (.ptr q5 q6)), (q7, .c (.own q8)), (q9, .c (.int .i64 x1))], [(q10, .cells q11 [.int .i64 x2, .int .i64 x3, .sl (.int .u8) x4]), (q12, .cells q13 [.int .i64 x5, .int .i64 x6, .sl (.int .u8) x7]), (q14, .vec q15 (.int .u8) x8 true)], q16, q17⟩ => bif Nat.beq q0 2 && Nat.beq q1 3 && Nat.beq q2 0 && Nat.beq q3 0 && Nat.beq q4 4 && Nat.beq q5 1 && Nat.beq q6 0 && Nat.beq q7 7 && Nat.beq q8 2 && Nat.beq q9 8 && Nat.beq q10 0 && Nat.beq q11 39 && Nat.beq q12 1 && Nat.beq q13 39 && Nat.beq q14 2 && Nat.beq q15 5 && Nat.beq q16 3 && Nat.beq q17 0 then iter (S_ref07_typical_0 fuel) fuel (x0, x1, x2, x3, x4, x5, x6, x7, x8) (E124_0 K) else none
 | _ => none)
 | none => none
theorem B124_0_ok (fuel : Nat) (st : Ev.St) (K : Ev.Ex → Ev.St → Option Ans) (r : Ans) (h : B124_0 fuel st K = some r) : evalCode tab (G124 fuel) (J124_0 fuel) kp124 fuel (.block 0 (.loop (bodyOf 0 Try.f124))) st K = some r := by
  unfold B124_0 at h
  split at h
  · rename_i s hs
    split at h
    · skip
      obtain ⟨hb, h⟩ := cond_some' h
      simp only [Bool.and_eq_true, Nat.beq_eq, decide_eq_true_eq] at hb
      obtain ⟨⟨⟨⟨⟨⟨⟨⟨⟨⟨⟨⟨⟨⟨⟨⟨⟨rfl, rfl⟩, rfl⟩, rfl⟩, rfl⟩, rfl⟩, rfl⟩, rfl⟩, rfl⟩, rfl⟩, rfl⟩, rfl⟩, rfl⟩, rfl⟩, rfl⟩, rfl⟩, rfl⟩, rfl⟩ := hb
      exact blk_loop (S := T124_0) (ks := E124_0) (step := S_ref07_typical_0 fuel) (v := (_, _, _, _, _, _, _, _, _)) (by kernel_rfl) (by kernel_rfl) (fun R K v => by obtain ⟨x0, x1, x2, x3, x4, x5, x6, x7, x8⟩ := v; exact S124_0_ok fuel R K x0 x1 x2 x3 x4 x5 x6 x7 x8) hs h
    · cases h
  · cases h
noncomputable def J124 (fuel : Nat) (i : Nat) : Option Ev.Blk := Ev.look i [(100000, B124_0 fuel)]
noncomputable def Fg_ref07_typical (fuel : Nat) (f125 : YF125) (x0 x1 : Int) (x2 : (List Int)) (x3 x4 : Int) (x5 : (List Int)) (x6 : Int) (k0 : ((List Int)) → Option Ans) : Option Ans :=
  (L_ref07_typical_0 fuel (x6, (0 : Int), x0, x1, x2, x3, x4, x5, [])
  (fun b0_0 =>
  k0 b0_0))
noncomputable def F_ref07_typical (fuel : Nat) (x0 x1 : Int) (x2 : (List Int)) (x3 x4 : Int) (x5 : (List Int)) (x6 : Int) (k0 : ((List Int)) → Option Ans) : Option Ans := Fg_ref07_typical fuel (F_ref05_At fuel) x0 x1 x2 x3 x4 x5 x6 k0
abbrev YF124 : Type := (Int) → (Int) → ((List Int)) → (Int) → (Int) → ((List Int)) → (Int) → (((List Int)) → Option Ans) → Option Ans
theorem F124_eqg (fuel : Nat) (f125 : YF125) (x0 x1 : Int) (x2 : (List Int)) (x3 x4 : Int) (x5 : (List Int)) (x6 : Int) (k : Ev.Cont) : evalFn tab (Gg124 f125) (J124 fuel) kp124 fuel Try.f124 [.agg [.int .i64 x0, .int .i64 x1, .sl (.int .u8) x2], .agg [.int .i64 x3, .int .i64 x4, .sl (.int .u8) x5], .c (.int .i64 x6)] [] k = Fg_ref07_typical fuel f125 x0 x1 x2 x3 x4 x5 x6 (fun r => match r with | r0 => k (.c (.own 0), [.vec 5 (.int .u8) r0 true])) := by
  kernel_rfl
theorem F124_eq (fuel : Nat) (x0 x1 : Int) (x2 : (List Int)) (x3 x4 : Int) (x5 : (List Int)) (x6 : Int) (k : Ev.Cont) : evalFn tab (G124 fuel) (J124 fuel) kp124 fuel Try.f124 [.agg [.int .i64 x0, .int .i64 x1, .sl (.int .u8) x2], .agg [.int .i64 x3, .int .i64 x4, .sl (.int .u8) x5], .c (.int .i64 x6)] [] k = F_ref07_typical fuel x0 x1 x2 x3 x4 x5 x6 (fun r => match r with | r0 => k (.c (.own 0), [.vec 5 (.int .u8) r0 true])) :=
  F124_eqg fuel (F_ref05_At fuel) x0 x1 x2 x3 x4 x5 x6 k
theorem hG124 (fuel : Nat) : GOK Try.prog (G124 fuel) :=
  gok_cons ⟨ok125 fuel, enters_of Try.func125 (by kernel_rfl) rfl⟩ <|
  gok_nil
theorem B124_0_blk (fuel : Nat) : BlkOK Try.prog Try.f124.ntmps (.block 0 (.loop (bodyOf 0 Try.f124))) (B124_0 fuel) :=
  blk_of (blk_of_code tab_ok (hG124 fuel) mixed (J := J124_0 fuel) (kp := kp124) (fuel := fuel) (by kernel_rfl) (fun q hq => by
    rw [(by kernel_rfl : obl (J124_0 fuel) (.block 0 (.loop (bodyOf 0 Try.f124))) = [])] at hq
    cases hq)) (B124_0_ok fuel)
theorem fok124 (fuel : Nat) : FnOK Try.prog 124 (evalFn tab (G124 fuel) (J124 fuel) kp124 fuel Try.f124) :=
  fn_ok tab_ok (hG124 fuel) mixed Try.func124 (c := (Try.f124.body).getD .skip) rfl (fun q hq => by
    rw [(by kernel_rfl : obl (J124 fuel) ((Try.f124.body).getD .skip) = [(.block 0 (.loop (bodyOf 0 Try.f124)), B124_0 fuel)])] at hq
    simp only [List.mem_cons, List.not_mem_nil, or_false] at hq
    subst hq
    · exact B124_0_blk fuel)
noncomputable def mt124 : List Ev.SV → List Ev.Ob → Bool := fun args objs => match args, objs with
 | [.agg [.int .i64 _, .int .i64 _, .sl (.int .u8) _], .agg [.int .i64 _, .int .i64 _, .sl (.int .u8) _], .c (.int .i64 _)], [] => true
 | _, _ => false
noncomputable def spg124 (F : YF124) : Ev.Spec := fun args objs k => match args, objs with
 | [.agg [.int .i64 x0, .int .i64 x1, .sl (.int .u8) x2], .agg [.int .i64 x3, .int .i64 x4, .sl (.int .u8) x5], .c (.int .i64 x6)], [] => bif true then F x0 x1 x2 x3 x4 x5 x6 (fun r => match r with | r0 => k (.c (.own 0), [.vec 5 (.int .u8) r0 true])) else none
 | _, _ => none
noncomputable def spec124 (fuel : Nat) : Ev.Spec := spg124 (F_ref07_typical fuel)
theorem ok124 (fuel : Nat) : FnOK Try.prog 124 (spec124 fuel) := by
  intro args objs kk r h
  unfold spec124 spg124 at h
  split at h
  · skip
    obtain ⟨hb, h⟩ := cond_some' h
    simp only [Bool.and_eq_true, Nat.beq_eq, decide_eq_true_eq] at hb
    clear hb
    exact fok124 fuel _ _ kk r ((F124_eq fuel _ _ _ _ _ _ _ kk).trans h)
  · cases h
end Go.Proofs.Ytihfgpfofmjbaaa

