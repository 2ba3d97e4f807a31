/- (*incunable/generic.plane).context: its typed text, and that the machine does it. -/
import Derived.Test.YtajidgilfkineaaEvU
import Derived.Test.YtajidgilfkineaaFgenericplaneata34
set_option linter.unusedVariables false
set_option linter.unusedSimpArgs false
set_option maxRecDepth 100000
namespace Go.Proofs.Ytajidgilfkineaa
open Go Ev
def kp71_a34 (i : Nat) : Option (List Nat) := Ev.look i [(3, [0, 1, 2, 7, 13, 14, 15]), (100000, [7]), (400000, [6])]
def Gg71_a34 (f109_a34 : YF109_a34) (f : Nat) : Option Ev.Spec := Ev.look f [(109, spg109_a34 f109_a34)]
def G71_a34 (fuel : Nat) : Nat → Option Ev.Spec := Gg71_a34 (F_generic_plane_at_a34 fuel)
def S_generic_plane_context_a34_0 (fuel : Nat) (v : Int × Int × Int × Int × Int × Int × Int × (List Int) × (List (Int × Int))) (c : (Int × Int × Int × Int × Int × Int × Int × (List Int) × (List (Int × Int))) → Option Ans) (B : (Int × Int × Int × (List Int) × (List (Int × Int)) → Option Ans)) : Option Ans := match v, B with
  | (x0, x1, x2, x3, x4, x5, x6, x7, x8), b =>
   bif Decidable.decide (x4 < x3) then
      bif Decidable.decide ((0 : Int) ≤ x4 ∧ x4 < (↑x8.length : Int)) then
      (F_generic_plane_at_a34 fuel (Go.IntKind.i64.wrap (x0 + (x8.getD x4.toNat ((0 : Int), (0 : Int))).fst)) (Go.IntKind.i64.wrap (x1 + (x8.getD x4.toNat ((0 : Int), (0 : Int))).snd)) (x5) (x6) (x7) (x8)
         (fun (y4_0, y4_1, y4_2, y4_3, y4_4) =>
           c (x0, x1, Go.IntKind.i64.wrap (Go.IntKind.i64.wrap ((2 : Int) * x2) + Go.IntKind.i64.wrap y4_0), x3, Go.IntKind.i64.wrap (x4 + (1 : Int)), y4_1, y4_2, y4_3, y4_4)))
      else none
     else
      b (x2, x5, x6, x7, x8)
def L_generic_plane_context_a34_0 (fuel : Nat) (v : Int × Int × Int × Int × Int × Int × Int × (List Int) × (List (Int × Int))) (b : (Int × Int × Int × (List Int) × (List (Int × Int)) → Option Ans)) : Option Ans := iter (S_generic_plane_context_a34_0 fuel) fuel v b
def J71_a34_0 (fuel : Nat) (i : Nat) : Option Ev.Blk := Ev.look i []
def T71_a34_0 (v : Int × Int × Int × Int × Int × Int × Int × (List Int) × (List (Int × Int))) : Ev.St := match v with | (x0, x1, x2, x3, x4, x5, x6, x7, x8) => ⟨[(0, .c (.ptr 0 0)), (1, .c (.int .i64 x0)), (2, .c (.int .i64 x1)), (7, .c (.int .i64 x2)), (13, .c (.own 1)), (14, .c (.int .i64 x3)), (15, .c (.int .i64 x4))], [(0, .cells 93 [.int .i64 x5, .int .i64 x6, .sl (.int .u8) x7, .own 1]), (1, .vec 47 (.pair (.int .i64) (.int .i64)) x8 false)], 2, 2⟩
def E71_a34_0 (K : Ev.Ex → Ev.St → Option Ans) : (Int × Int × Int × (List Int) × (List (Int × Int)) → Option Ans) := (fun v => match v with | (x0, x1, x2, x3, x4) => K .normal ⟨[(7, .c (.int .i64 x0))], [(0, .cells 93 [.int .i64 x1, .int .i64 x2, .sl (.int .u8) x3, .own 1]), (1, .vec 47 (.pair (.int .i64) (.int .i64)) x4 false)], 2, 2⟩)
theorem S71_a34_0_okg (fuel : Nat) (f109_a34 : YF109_a34) (R : Ev.St → Option Ans) (K : Ev.Ex → Ev.St → Option Ans) (x0 : Int) (x1 : Int) (x2 : Int) (x3 : Int) (x4 : Int) (x5 : Int) (x6 : Int) (x7 : (List Int)) (x8 : (List (Int × Int))) : evalCode tab (Gg71_a34 f109_a34) (J71_a34_0 fuel) kp71_a34 fuel (bodyOf 0 Try.f71) (T71_a34_0 (x0, x1, x2, x3, x4, x5, x6, x7, x8)) (lc kp71_a34 3 0 R K) = (fun (c : (Int × Int × Int × Int × Int × Int × Int × (List Int) × (List (Int × Int))) → Option Ans) (B : (Int × Int × Int × (List Int) × (List (Int × Int)) → Option Ans)) => match B with
  | b =>
   bif Decidable.decide (x4 < x3) then
      bif Decidable.decide ((0 : Int) ≤ x4 ∧ x4 < (↑x8.length : Int)) then
      (f109_a34 (Go.IntKind.i64.wrap (x0 + (x8.getD x4.toNat ((0 : Int), (0 : Int))).fst)) (Go.IntKind.i64.wrap (x1 + (x8.getD x4.toNat ((0 : Int), (0 : Int))).snd)) (x5) (x6) (x7) (x8)
         (fun (y4_0, y4_1, y4_2, y4_3, y4_4) =>
           c (x0, x1, Go.IntKind.i64.wrap (Go.IntKind.i64.wrap ((2 : Int) * x2) + Go.IntKind.i64.wrap y4_0), x3, Go.IntKind.i64.wrap (x4 + (1 : Int)), y4_1, y4_2, y4_3, y4_4)))
      else none
     else
      b (x2, x5, x6, x7, x8)) (fun v => R (T71_a34_0 v)) (E71_a34_0 K) := by
  kernel_rfl
theorem S71_a34_0_ok (fuel : Nat) (R : Ev.St → Option Ans) (K : Ev.Ex → Ev.St → Option Ans) (x0 : Int) (x1 : Int) (x2 : Int) (x3 : Int) (x4 : Int) (x5 : Int) (x6 : Int) (x7 : (List Int)) (x8 : (List (Int × Int))) : evalCode tab (G71_a34 fuel) (J71_a34_0 fuel) kp71_a34 fuel (bodyOf 0 Try.f71) (T71_a34_0 (x0, x1, x2, x3, x4, x5, x6, x7, x8)) (lc kp71_a34 3 0 R K) = S_generic_plane_context_a34_0 fuel (x0, x1, x2, x3, x4, x5, x6, x7, x8) (fun v => R (T71_a34_0 v)) (E71_a34_0 K) :=
  S71_a34_0_okg fuel (F_generic_plane_at_a34 fuel) R K x0 x1 x2 x3 x4 x5 x6 x7 x8
def B71_a34_0 (fuel : Nat) : Ev.Blk := fun st K => match canonO (kp71_a34 3) st with
  | some s => (match s with
    | ⟨[(q0, .c (.ptr q1 q2)), (q3, .c (.int .i64 x0)), (q4, .c (.int .i64 x1)), (q5, .c (.int .i64 x2)), (q6, .c (.own q7)), (q8, .c (.int .i64 x3)), (q9, .c (.int .i64 x4))], [(q10, .cells q11 [.int .i64 x5, .int .i64 x6, .sl (.int .u8) x7, .own q12]), (q13, .vec q14 (.pair (.int .i64) (.int .i64)) x8 false)], q15, q16⟩ => bif Nat.beq q0 0 && Nat.beq q1 0 && Nat.beq q2 0 && Nat.beq q3 1 && Nat.beq q4 2 && Nat.beq q5 7 && Nat.beq q6 13 && Nat.beq q7 1 && Nat.beq q8 14 && Nat.beq q9 15 && Nat.beq q10 0 && Nat.beq q11 93 && Nat.beq q12 1 && Nat.beq q13 1 && Nat.beq q14 47 && Nat.beq q15 2 && Nat.beq q16 2 then iter (S_generic_plane_context_a34_0 fuel) fuel (x0, x1, x2, x3, x4, x5, x6, x7, x8) (E71_a34_0 K) else none
    | _ => none)
  | none => none
theorem B71_a34_0_ok (fuel : Nat) (st : Ev.St) (K : Ev.Ex → Ev.St → Option Ans) (r : Ans) (h : B71_a34_0 fuel st K = some r) : evalCode tab (G71_a34 fuel) (J71_a34_0 fuel) kp71_a34 fuel (.block 0 (.loop (bodyOf 0 Try.f71))) st K = some r := by
  unfold B71_a34_0 at h
  split at h
  · rename_i s hs
    split at h
    · obtain ⟨hb, h⟩ := cond_some' h
      simp only [Bool.and_eq_true, Nat.beq_eq, decide_eq_true_eq] at hb
      obtain ⟨⟨⟨⟨⟨⟨⟨⟨⟨⟨⟨⟨⟨⟨⟨⟨rfl, rfl⟩, rfl⟩, rfl⟩, rfl⟩, rfl⟩, rfl⟩, rfl⟩, rfl⟩, rfl⟩, rfl⟩, rfl⟩, rfl⟩, rfl⟩, rfl⟩, rfl⟩, rfl⟩ := hb
      exact blk_loop (S := T71_a34_0) (ks := E71_a34_0) (step := S_generic_plane_context_a34_0 fuel) (v := (_, _, _, _, _, _, _, _, _)) (by kernel_rfl) (by kernel_rfl) (fun R K v => by obtain ⟨x0, x1, x2, x3, x4, x5, x6, x7, x8⟩ := v; exact S71_a34_0_ok fuel R K x0 x1 x2 x3 x4 x5 x6 x7 x8) hs h
    · cases h
  · cases h
def J71_a34 (fuel : Nat) (i : Nat) : Option Ev.Blk := Ev.look i [(100000, B71_a34_0 fuel)]
def F_generic_plane_context_a34 (fuel : Nat) (x0 : Int) (x1 : Int) (x2 : Int) (x3 : Int) (x4 : (List Int)) (x5 : (List (Int × Int))) (k0 : (Int × Int × Int × (List Int) × (List (Int × Int))) → Option Ans) : Option Ans :=
  (L_generic_plane_context_a34_0 fuel (x0, x1, (0 : Int), (↑x5.length : Int), (0 : Int), x2, x3, x4, x5)
    (fun (b0_0, b0_1, b0_2, b0_3, b0_4) =>
      k0 (b0_0, b0_1, b0_2, b0_3, b0_4)))
abbrev YF71_a34 : Type := (Int) → (Int) → (Int) → (Int) → ((List Int)) → ((List (Int × Int))) → ((Int × Int × Int × (List Int) × (List (Int × Int))) → Option Ans) → Option Ans
theorem F71_a34_eqg (fuel : Nat) (f109_a34 : YF109_a34) (x0 : Int) (x1 : Int) (x2 : Int) (x3 : Int) (x4 : (List Int)) (x5 : (List (Int × Int))) (k : Ev.Cont) : evalFn tab (Gg71_a34 f109_a34) (J71_a34 fuel) kp71_a34 fuel Try.f71 [.c (.ptr 0 0), .c (.int .i64 x0), .c (.int .i64 x1)] [.cells 93 [.int .i64 x2, .int .i64 x3, .sl (.int .u8) x4, .own 1], .vec 47 (.pair (.int .i64) (.int .i64)) x5 false] k = (fun  (k0 : (Int × Int × Int × (List Int) × (List (Int × Int))) → Option Ans) =>
  (L_generic_plane_context_a34_0 fuel (x0, x1, (0 : Int), (↑x5.length : Int), (0 : Int), x2, x3, x4, x5)
    (fun (b0_0, b0_1, b0_2, b0_3, b0_4) =>
      k0 (b0_0, b0_1, b0_2, b0_3, b0_4)))) (fun r => match r with | (r0, r1, r2, r3, r4) => k (.c (.int .i64 r0), [.cells 93 [.int .i64 r1, .int .i64 r2, .sl (.int .u8) r3, .own 1], .vec 47 (.pair (.int .i64) (.int .i64)) r4 false])) := by
  kernel_rfl
theorem F71_a34_eq (fuel : Nat) (x0 : Int) (x1 : Int) (x2 : Int) (x3 : Int) (x4 : (List Int)) (x5 : (List (Int × Int))) (k : Ev.Cont) : evalFn tab (G71_a34 fuel) (J71_a34 fuel) kp71_a34 fuel Try.f71 [.c (.ptr 0 0), .c (.int .i64 x0), .c (.int .i64 x1)] [.cells 93 [.int .i64 x2, .int .i64 x3, .sl (.int .u8) x4, .own 1], .vec 47 (.pair (.int .i64) (.int .i64)) x5 false] k = F_generic_plane_context_a34 fuel x0 x1 x2 x3 x4 x5 (fun r => match r with | (r0, r1, r2, r3, r4) => k (.c (.int .i64 r0), [.cells 93 [.int .i64 r1, .int .i64 r2, .sl (.int .u8) r3, .own 1], .vec 47 (.pair (.int .i64) (.int .i64)) r4 false])) :=
  F71_a34_eqg fuel (F_generic_plane_at_a34 fuel) x0 x1 x2 x3 x4 x5 k
theorem hG71_a34 (fuel : Nat) : GOK Try.prog (G71_a34 fuel) :=
  gok_cons ⟨ok109_a34 fuel, enters_of Try.func109 (by kernel_rfl) rfl⟩ <|
  gok_nil
theorem B71_a34_0_blk (fuel : Nat) : BlkOK Try.prog Try.f71.ntmps (.block 0 (.loop (bodyOf 0 Try.f71))) (B71_a34_0 fuel) :=
  blk_of (blk_of_code tab_ok (hG71_a34 fuel) mixed (J := J71_a34_0 fuel) (kp := kp71_a34) (fuel := fuel) (by kernel_rfl) (fun q hq => by
    rw [(by kernel_rfl : obl (J71_a34_0 fuel) (.block 0 (.loop (bodyOf 0 Try.f71))) = [])] at hq
    cases hq)) (B71_a34_0_ok fuel)
theorem fok71_a34 (fuel : Nat) : FnOK Try.prog 71 (evalFn tab (G71_a34 fuel) (J71_a34 fuel) kp71_a34 fuel Try.f71) :=
  fn_ok tab_ok (hG71_a34 fuel) mixed Try.func71 (c := (Try.f71.body).getD .skip) rfl (fun q hq => by
    rw [(by kernel_rfl : obl (J71_a34 fuel) ((Try.f71.body).getD .skip) = [(.block 0 (.loop (bodyOf 0 Try.f71)), B71_a34_0 fuel)])] at hq
    simp only [List.mem_cons, List.not_mem_nil, or_false] at hq
    subst hq
    · exact B71_a34_0_blk fuel)
def mt71_a34 : List Ev.SV → List Ev.Ob → Bool := fun args objs => match args, objs with
  | [.c (.ptr q0 q1), .c (.int .i64 _), .c (.int .i64 _)], [.cells q2 [.int .i64 _, .int .i64 _, .sl (.int .u8) _, .own q3], .vec q4 (.pair (.int .i64) (.int .i64)) _ false] => Nat.beq q0 0 && Nat.beq q1 0 && Nat.beq q2 93 && Nat.beq q3 1 && Nat.beq q4 47
  | _, _ => false
def spg71_a34 (F : YF71_a34) : Ev.Spec := fun args objs k => match args, objs with
  | [.c (.ptr q0 q1), .c (.int .i64 x0), .c (.int .i64 x1)], [.cells q2 [.int .i64 x2, .int .i64 x3, .sl (.int .u8) x4, .own q3], .vec q4 (.pair (.int .i64) (.int .i64)) x5 false] => bif Nat.beq q0 0 && Nat.beq q1 0 && Nat.beq q2 93 && Nat.beq q3 1 && Nat.beq q4 47 then F x0 x1 x2 x3 x4 x5 (fun r => match r with | (r0, r1, r2, r3, r4) => k (.c (.int .i64 r0), [.cells 93 [.int .i64 r1, .int .i64 r2, .sl (.int .u8) r3, .own 1], .vec 47 (.pair (.int .i64) (.int .i64)) r4 false])) else none
  | _, _ => none
def spec71_a34 (fuel : Nat) : Ev.Spec := spg71_a34 (F_generic_plane_context_a34 fuel)
theorem ok71_a34 (fuel : Nat) : FnOK Try.prog 71 (spec71_a34 fuel) := by
  intro args objs kk r h
  unfold spec71_a34 spg71_a34 at h
  split at h
  · obtain ⟨hb, h⟩ := cond_some' h
    simp only [Bool.and_eq_true, Nat.beq_eq, decide_eq_true_eq] at hb
    obtain ⟨⟨⟨⟨rfl, rfl⟩, rfl⟩, rfl⟩, rfl⟩ := hb
    exact fok71_a34 fuel _ _ kk r ((F71_a34_eq fuel _ _ _ _ _ _ kk).trans h)
  · cases h
end Go.Proofs.Ytajidgilfkineaa
