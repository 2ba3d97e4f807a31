/- incunable/incunableref07.context: its typed text, and that the machine does it. -/
import Derived.Test.YtajidgilfkineaaEvU
import Derived.Test.YtajidgilfkineaaFref05At
import Derived.Test.YtajidgilfkineaaFref07pixels
set_option linter.unusedVariables false
set_option linter.unusedSimpArgs false
set_option maxRecDepth 100000
namespace Go.Proofs.Ytajidgilfkineaa
open Go Ev
def kp72 (i : Nat) : Option (List Nat) := Ev.look i [(4, [2, 3, 5, 9, 10, 11]), (100000, [10]), (200006, [5]), (400000, [8])]
def Gg72 (f74 : YF74) (f110 : YF110) (f : Nat) : Option Ev.Spec := Ev.look f [(74, spg74 f74), (110, spg110 f110)]
def G72 (fuel : Nat) : Nat → Option Ev.Spec := Gg72 (F_ref07_pixels fuel) (F_ref05_At fuel)
def S_ref07_context_0 (fuel : Nat) (v : Int × Int × Int × Int × Int × Int × (List Int) × (List (Int × Int))) (c : (Int × Int × Int × Int × Int × Int × (List Int) × (List (Int × Int))) → Option Ans) (B : (Int → Option Ans)) : Option Ans := match v, B with
  | (x0, x1, x2, x3, x4, x5, x6, x7), b =>
   bif Decidable.decide (x3 < (↑x7.length : Int)) then
      bif Decidable.decide ((0 : Int) ≤ x3 ∧ x3 < (↑x7.length : Int)) then
      bif Decidable.decide ((0 : Int) ≤ x3 ∧ x3 < (↑x7.length : Int)) then
       both ((F_ref05_At fuel (x4) (x5) (x6) (Go.IntKind.i64.wrap (x0 + (x7.getD x3.toNat ((0 : Int), (0 : Int))).fst)) (Go.IntKind.i64.wrap (x1 + (x7.getD x3.toNat ((0 : Int), (0 : Int))).snd))
            (fun y7 =>
              c (x0, x1, Go.IntKind.i64.wrap (Go.IntKind.i64.wrap ((2 : Int) * x2) + y7), Go.IntKind.i64.wrap (x3 + (1 : Int)), x4, x5, x6, x7))))
         ((F_ref05_At fuel (x4) (x5) (x6) (Go.IntKind.i64.wrap (x0 + (x7.getD x3.toNat ((0 : Int), (0 : Int))).fst)) (Go.IntKind.i64.wrap (x1 + (x7.getD x3.toNat ((0 : Int), (0 : Int))).snd))
            (fun y7 =>
              c (x0, x1, Go.IntKind.i64.wrap (Go.IntKind.i64.wrap ((2 : Int) * x2) + y7), Go.IntKind.i64.wrap (x3 + (1 : Int)), x4, x5, x6, x7))))
       else none
      else none
     else
      b x2
def L_ref07_context_0 (fuel : Nat) (v : Int × Int × Int × Int × Int × Int × (List Int) × (List (Int × Int))) (b : (Int → Option Ans)) : Option Ans := iter (S_ref07_context_0 fuel) fuel v b
def J72_0 (fuel : Nat) (i : Nat) : Option Ev.Blk := Ev.look i []
def T72_0 (v : Int × Int × Int × Int × Int × Int × (List Int) × (List (Int × Int))) : Ev.St := match v with | (x0, x1, x2, x3, x4, x5, x6, x7) => ⟨[(2, .c (.int .i64 x0)), (3, .c (.int .i64 x1)), (5, .c (.ptr 0 0)), (9, .c (.own 1)), (10, .c (.int .i64 x2)), (11, .c (.int .i64 x3))], [(0, .cells 45 [.int .i64 x4, .int .i64 x5, .sl (.int .u8) x6]), (1, .vec 131 (.pair (.int .i64) (.int .i64)) x7 true)], 2, 0⟩
def E72_0 (K : Ev.Ex → Ev.St → Option Ans) : (Int → Option Ans) := (fun v => match v with | x0 => K .normal ⟨[(10, .c (.int .i64 x0))], [], 0, 0⟩)
theorem S72_0_okg (fuel : Nat) (f74 : YF74) (f110 : YF110) (R : Ev.St → Option Ans) (K : Ev.Ex → Ev.St → Option Ans) (x0 : Int) (x1 : Int) (x2 : Int) (x3 : Int) (x4 : Int) (x5 : Int) (x6 : (List Int)) (x7 : (List (Int × Int))) : evalCode tab (Gg72 f74 f110) (J72_0 fuel) kp72 fuel (bodyOf 0 Try.f72) (T72_0 (x0, x1, x2, x3, x4, x5, x6, x7)) (lc kp72 4 0 R K) = (fun (c : (Int × Int × Int × Int × Int × Int × (List Int) × (List (Int × Int))) → Option Ans) (B : (Int → Option Ans)) => match B with
  | b =>
   bif Decidable.decide (x3 < (↑x7.length : Int)) then
      bif Decidable.decide ((0 : Int) ≤ x3 ∧ x3 < (↑x7.length : Int)) then
      bif Decidable.decide ((0 : Int) ≤ x3 ∧ x3 < (↑x7.length : Int)) then
       both ((f110 (x4) (x5) (x6) (Go.IntKind.i64.wrap (x0 + (x7.getD x3.toNat ((0 : Int), (0 : Int))).fst)) (Go.IntKind.i64.wrap (x1 + (x7.getD x3.toNat ((0 : Int), (0 : Int))).snd))
            (fun y7 =>
              c (x0, x1, Go.IntKind.i64.wrap (Go.IntKind.i64.wrap ((2 : Int) * x2) + y7), Go.IntKind.i64.wrap (x3 + (1 : Int)), x4, x5, x6, x7))))
         ((f110 (x4) (x5) (x6) (Go.IntKind.i64.wrap (x0 + (x7.getD x3.toNat ((0 : Int), (0 : Int))).fst)) (Go.IntKind.i64.wrap (x1 + (x7.getD x3.toNat ((0 : Int), (0 : Int))).snd))
            (fun y7 =>
              c (x0, x1, Go.IntKind.i64.wrap (Go.IntKind.i64.wrap ((2 : Int) * x2) + y7), Go.IntKind.i64.wrap (x3 + (1 : Int)), x4, x5, x6, x7))))
       else none
      else none
     else
      b x2) (fun v => R (T72_0 v)) (E72_0 K) := by
  kernel_rfl
theorem S72_0_ok (fuel : Nat) (R : Ev.St → Option Ans) (K : Ev.Ex → Ev.St → Option Ans) (x0 : Int) (x1 : Int) (x2 : Int) (x3 : Int) (x4 : Int) (x5 : Int) (x6 : (List Int)) (x7 : (List (Int × Int))) : evalCode tab (G72 fuel) (J72_0 fuel) kp72 fuel (bodyOf 0 Try.f72) (T72_0 (x0, x1, x2, x3, x4, x5, x6, x7)) (lc kp72 4 0 R K) = S_ref07_context_0 fuel (x0, x1, x2, x3, x4, x5, x6, x7) (fun v => R (T72_0 v)) (E72_0 K) :=
  S72_0_okg fuel (F_ref07_pixels fuel) (F_ref05_At fuel) R K x0 x1 x2 x3 x4 x5 x6 x7
def B72_0 (fuel : Nat) : Ev.Blk := fun st K => match canonO (kp72 4) st with
  | some s => (match s with
    | ⟨[(q0, .c (.int .i64 x0)), (q1, .c (.int .i64 x1)), (q2, .c (.ptr q3 q4)), (q5, .c (.own q6)), (q7, .c (.int .i64 x2)), (q8, .c (.int .i64 x3))], [(q9, .cells q10 [.int .i64 x4, .int .i64 x5, .sl (.int .u8) x6]), (q11, .vec q12 (.pair (.int .i64) (.int .i64)) x7 true)], q13, q14⟩ => bif Nat.beq q0 2 && Nat.beq q1 3 && Nat.beq q2 5 && Nat.beq q3 0 && Nat.beq q4 0 && Nat.beq q5 9 && Nat.beq q6 1 && Nat.beq q7 10 && Nat.beq q8 11 && Nat.beq q9 0 && Nat.beq q10 45 && Nat.beq q11 1 && Nat.beq q12 131 && Nat.beq q13 2 && Nat.beq q14 0 then iter (S_ref07_context_0 fuel) fuel (x0, x1, x2, x3, x4, x5, x6, x7) (E72_0 K) else none
    | _ => none)
  | none => none
theorem B72_0_ok (fuel : Nat) (st : Ev.St) (K : Ev.Ex → Ev.St → Option Ans) (r : Ans) (h : B72_0 fuel st K = some r) : evalCode tab (G72 fuel) (J72_0 fuel) kp72 fuel (.block 0 (.loop (bodyOf 0 Try.f72))) st K = some r := by
  unfold B72_0 at h
  split at h
  · rename_i s hs
    split at h
    · obtain ⟨hb, h⟩ := cond_some' h
      simp only [Bool.and_eq_true, Nat.beq_eq, decide_eq_true_eq] at hb
      obtain ⟨⟨⟨⟨⟨⟨⟨⟨⟨⟨⟨⟨⟨⟨rfl, rfl⟩, rfl⟩, rfl⟩, rfl⟩, rfl⟩, rfl⟩, rfl⟩, rfl⟩, rfl⟩, rfl⟩, rfl⟩, rfl⟩, rfl⟩, rfl⟩ := hb
      exact blk_loop (S := T72_0) (ks := E72_0) (step := S_ref07_context_0 fuel) (v := (_, _, _, _, _, _, _, _)) (by kernel_rfl) (by kernel_rfl) (fun R K v => by obtain ⟨x0, x1, x2, x3, x4, x5, x6, x7⟩ := v; exact S72_0_ok fuel R K x0 x1 x2 x3 x4 x5 x6 x7) hs h
    · cases h
  · cases h
def J72 (fuel : Nat) (i : Nat) : Option Ev.Blk := Ev.look i [(100000, B72_0 fuel)]
def F_ref07_context (fuel : Nat) (x0 : Int) (x1 : Int) (x2 : Int) (x3 : Bool) (x4 : Int) (x5 : Int) (x6 : Int) (x7 : (List Int)) (x8 : Int) (x9 : Int) (k0 : (Int) → Option Ans) : Option Ans :=
  (F_ref07_pixels fuel (x0) (x1) (x2) (x3) (x4)
    (fun y2 =>
      (L_ref07_context_0 fuel (x8, x9, (0 : Int), (0 : Int), x5, x6, x7, y2)
        (fun b0_0 =>
          k0 b0_0))))
abbrev YF72 : Type := (Int) → (Int) → (Int) → (Bool) → (Int) → (Int) → (Int) → ((List Int)) → (Int) → (Int) → ((Int) → Option Ans) → Option Ans
theorem F72_eqg (fuel : Nat) (f74 : YF74) (f110 : YF110) (x0 : Int) (x1 : Int) (x2 : Int) (x3 : Bool) (x4 : Int) (x5 : Int) (x6 : Int) (x7 : (List Int)) (x8 : Int) (x9 : Int) (k : Ev.Cont) : evalFn tab (Gg72 f74 f110) (J72 fuel) kp72 fuel Try.f72 [.agg [.int .i64 x0, .int .i64 x1, .int .i64 x2, .bool x3, .int .i64 x4], .agg [.int .i64 x5, .int .i64 x6, .sl (.int .u8) x7], .c (.int .i64 x8), .c (.int .i64 x9)] [] k = (fun  (k0 : (Int) → Option Ans) =>
  (f74 (x0) (x1) (x2) (x3) (x4)
    (fun y2 =>
      (L_ref07_context_0 fuel (x8, x9, (0 : Int), (0 : Int), x5, x6, x7, y2)
        (fun b0_0 =>
          k0 b0_0))))) (fun r => match r with | r0 => k (.c (.int .i64 r0), [])) := by
  kernel_rfl
theorem F72_eq (fuel : Nat) (x0 : Int) (x1 : Int) (x2 : Int) (x3 : Bool) (x4 : Int) (x5 : Int) (x6 : Int) (x7 : (List Int)) (x8 : Int) (x9 : Int) (k : Ev.Cont) : evalFn tab (G72 fuel) (J72 fuel) kp72 fuel Try.f72 [.agg [.int .i64 x0, .int .i64 x1, .int .i64 x2, .bool x3, .int .i64 x4], .agg [.int .i64 x5, .int .i64 x6, .sl (.int .u8) x7], .c (.int .i64 x8), .c (.int .i64 x9)] [] k = F_ref07_context fuel x0 x1 x2 x3 x4 x5 x6 x7 x8 x9 (fun r => match r with | r0 => k (.c (.int .i64 r0), [])) :=
  F72_eqg fuel (F_ref07_pixels fuel) (F_ref05_At fuel) x0 x1 x2 x3 x4 x5 x6 x7 x8 x9 k
theorem hG72 (fuel : Nat) : GOK Try.prog (G72 fuel) :=
  gok_cons ⟨ok74 fuel, enters_of Try.func74 (by kernel_rfl) rfl⟩ <|
  gok_cons ⟨ok110 fuel, enters_of Try.func110 (by kernel_rfl) rfl⟩ <|
  gok_nil
theorem B72_0_blk (fuel : Nat) : BlkOK Try.prog Try.f72.ntmps (.block 0 (.loop (bodyOf 0 Try.f72))) (B72_0 fuel) :=
  blk_of (blk_of_code tab_ok (hG72 fuel) mixed (J := J72_0 fuel) (kp := kp72) (fuel := fuel) (by kernel_rfl) (fun q hq => by
    rw [(by kernel_rfl : obl (J72_0 fuel) (.block 0 (.loop (bodyOf 0 Try.f72))) = [])] at hq
    cases hq)) (B72_0_ok fuel)
theorem fok72 (fuel : Nat) : FnOK Try.prog 72 (evalFn tab (G72 fuel) (J72 fuel) kp72 fuel Try.f72) :=
  fn_ok tab_ok (hG72 fuel) mixed Try.func72 (c := (Try.f72.body).getD .skip) rfl (fun q hq => by
    rw [(by kernel_rfl : obl (J72 fuel) ((Try.f72.body).getD .skip) = [(.block 0 (.loop (bodyOf 0 Try.f72)), B72_0 fuel)])] at hq
    simp only [List.mem_cons, List.not_mem_nil, or_false] at hq
    subst hq
    · exact B72_0_blk fuel)
def mt72 : List Ev.SV → List Ev.Ob → Bool := fun args objs => match args, objs with
  | [.agg [.int .i64 _, .int .i64 _, .int .i64 _, .bool _, .int .i64 _], .agg [.int .i64 _, .int .i64 _, .sl (.int .u8) _], .c (.int .i64 _), .c (.int .i64 _)], [] => true
  | _, _ => false
def spg72 (F : YF72) : Ev.Spec := fun args objs k => match args, objs with
  | [.agg [.int .i64 x0, .int .i64 x1, .int .i64 x2, .bool x3, .int .i64 x4], .agg [.int .i64 x5, .int .i64 x6, .sl (.int .u8) x7], .c (.int .i64 x8), .c (.int .i64 x9)], [] => bif true then F x0 x1 x2 x3 x4 x5 x6 x7 x8 x9 (fun r => match r with | r0 => k (.c (.int .i64 r0), [])) else none
  | _, _ => none
def spec72 (fuel : Nat) : Ev.Spec := spg72 (F_ref07_context fuel)
theorem ok72 (fuel : Nat) : FnOK Try.prog 72 (spec72 fuel) := by
  intro args objs kk r h
  unfold spec72 spg72 at h
  split at h
  · obtain ⟨hb, h⟩ := cond_some' h
    simp only [Bool.and_eq_true, Nat.beq_eq, decide_eq_true_eq] at hb
    clear hb
    exact fok72 fuel _ _ kk r ((F72_eq fuel _ _ _ _ _ _ _ _ _ _ kk).trans h)
  · cases h
end Go.Proofs.Ytajidgilfkineaa
