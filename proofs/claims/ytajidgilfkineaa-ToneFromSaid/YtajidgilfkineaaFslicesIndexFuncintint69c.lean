/- slices.IndexFunc[[]int,int]: its typed text, and that the machine does it. -/
import Derived.Test.YtajidgilfkineaaEvU
import Derived.Test.YtajidgilfkineaaFtonePlanes1e21
set_option linter.unusedVariables false
set_option linter.unusedSimpArgs false
set_option maxRecDepth 100000
namespace Go.Proofs.Ytajidgilfkineaa
open Go Ev
def kp101_69c (i : Nat) : Option (List Nat) := Ev.look i [(2, [0, 1, 7, 8]), (100000, []), (400000, [4])]
def Gg101_69c (f58_e21 : YF58_e21) (f : Nat) : Option Ev.Spec := Ev.look f [(58, spg58_e21 f58_e21)]
def G101_69c (fuel : Nat) : Nat → Option Ev.Spec := Gg101_69c (F_tone_Planes_1_e21 fuel)
def S_slices_IndexFunc_int_int_69c_0 (fuel : Nat) (v : (List Int) × Int × Int × Int) (c : ((List Int) × Int × Int × Int) → Option Ans) (B : (Int × Int → Option Ans) × (Int → Option Ans)) : Option Ans := match v, B with
  | (x0, x1, x2, x3), (ret, b) =>
   bif Decidable.decide (x2 < x1) then
      bif Decidable.decide ((0 : Int) ≤ x2 ∧ x2 < (↑x0.length : Int)) then
      (F_tone_Planes_1_e21 fuel (x0.getD x2.toNat (0 : Int)) (x3)
         (fun (y4_0, y4_1) =>
           bif y4_0 then
            ret (x2, y4_1)
           else
            c (x0, x1, Go.IntKind.i64.wrap (x2 + (1 : Int)), y4_1)))
      else none
     else
      b x3
def L_slices_IndexFunc_int_int_69c_0 (fuel : Nat) (v : (List Int) × Int × Int × Int) (ret : (Int × Int → Option Ans)) (b : (Int → Option Ans)) : Option Ans := iter (S_slices_IndexFunc_int_int_69c_0 fuel) fuel v (ret, b)
def J101_69c_0 (fuel : Nat) (i : Nat) : Option Ev.Blk := Ev.look i []
def T101_69c_0 (v : (List Int) × Int × Int × Int) : Ev.St := match v with | (x0, x1, x2, x3) => ⟨[(0, .c (.sl (.int .i64) x0)), (1, .c (.clo 58 [0])), (7, .c (.int .i64 x1)), (8, .c (.int .i64 x2))], [(0, .cells 3 [.int .i64 x3])], 1, 1⟩
def E101_69c_0 (K : Ev.Ex → Ev.St → Option Ans) : (Int × Int → Option Ans) × (Int → Option Ans) := ((fun v => match v with | (x0, x1) => K .ret ⟨[(4, .c (.int .i64 x0))], [(0, .cells 3 [.int .i64 x1])], 1, 1⟩), (fun v => match v with | x0 => K .normal ⟨[], [(0, .cells 3 [.int .i64 x0])], 1, 1⟩))
theorem S101_69c_0_okg (fuel : Nat) (f58_e21 : YF58_e21) (R : Ev.St → Option Ans) (K : Ev.Ex → Ev.St → Option Ans) (x0 : (List Int)) (x1 : Int) (x2 : Int) (x3 : Int) : evalCode tab (Gg101_69c f58_e21) (J101_69c_0 fuel) kp101_69c fuel (bodyOf 0 Try.f101) (T101_69c_0 (x0, x1, x2, x3)) (lc kp101_69c 2 0 R K) = (fun (c : ((List Int) × Int × Int × Int) → Option Ans) (B : (Int × Int → Option Ans) × (Int → Option Ans)) => match B with
  | (ret, b) =>
   bif Decidable.decide (x2 < x1) then
      bif Decidable.decide ((0 : Int) ≤ x2 ∧ x2 < (↑x0.length : Int)) then
      (f58_e21 (x0.getD x2.toNat (0 : Int)) (x3)
         (fun (y4_0, y4_1) =>
           bif y4_0 then
            ret (x2, y4_1)
           else
            c (x0, x1, Go.IntKind.i64.wrap (x2 + (1 : Int)), y4_1)))
      else none
     else
      b x3) (fun v => R (T101_69c_0 v)) (E101_69c_0 K) := by
  kernel_rfl
theorem S101_69c_0_ok (fuel : Nat) (R : Ev.St → Option Ans) (K : Ev.Ex → Ev.St → Option Ans) (x0 : (List Int)) (x1 : Int) (x2 : Int) (x3 : Int) : evalCode tab (G101_69c fuel) (J101_69c_0 fuel) kp101_69c fuel (bodyOf 0 Try.f101) (T101_69c_0 (x0, x1, x2, x3)) (lc kp101_69c 2 0 R K) = S_slices_IndexFunc_int_int_69c_0 fuel (x0, x1, x2, x3) (fun v => R (T101_69c_0 v)) (E101_69c_0 K) :=
  S101_69c_0_okg fuel (F_tone_Planes_1_e21 fuel) R K x0 x1 x2 x3
def B101_69c_0 (fuel : Nat) : Ev.Blk := fun st K => match canonO (kp101_69c 2) st with
  | some s => (match s with
    | ⟨[(q0, .c (.sl (.int .i64) x0)), (q1, .c (.clo q2 [q3])), (q4, .c (.int .i64 x1)), (q5, .c (.int .i64 x2))], [(q6, .cells q7 [.int .i64 x3])], q8, q9⟩ => bif Nat.beq q0 0 && Nat.beq q1 1 && Nat.beq q2 58 && Nat.beq q3 0 && Nat.beq q4 7 && Nat.beq q5 8 && Nat.beq q6 0 && Nat.beq q7 3 && Nat.beq q8 1 && Nat.beq q9 1 then iter (S_slices_IndexFunc_int_int_69c_0 fuel) fuel (x0, x1, x2, x3) (E101_69c_0 K) else none
    | _ => none)
  | none => none
theorem B101_69c_0_ok (fuel : Nat) (st : Ev.St) (K : Ev.Ex → Ev.St → Option Ans) (r : Ans) (h : B101_69c_0 fuel st K = some r) : evalCode tab (G101_69c fuel) (J101_69c_0 fuel) kp101_69c fuel (.block 0 (.loop (bodyOf 0 Try.f101))) st K = some r := by
  unfold B101_69c_0 at h
  split at h
  · rename_i s hs
    split at h
    · obtain ⟨hb, h⟩ := cond_some' h
      simp only [Bool.and_eq_true, Nat.beq_eq, decide_eq_true_eq] at hb
      obtain ⟨⟨⟨⟨⟨⟨⟨⟨⟨rfl, rfl⟩, rfl⟩, rfl⟩, rfl⟩, rfl⟩, rfl⟩, rfl⟩, rfl⟩, rfl⟩ := hb
      exact blk_loop (S := T101_69c_0) (ks := E101_69c_0) (step := S_slices_IndexFunc_int_int_69c_0 fuel) (v := (_, _, _, _)) (by kernel_rfl) (by kernel_rfl) (fun R K v => by obtain ⟨x0, x1, x2, x3⟩ := v; exact S101_69c_0_ok fuel R K x0 x1 x2 x3) hs h
    · cases h
  · cases h
def J101_69c (fuel : Nat) (i : Nat) : Option Ev.Blk := Ev.look i [(100000, B101_69c_0 fuel)]
def F_slices_IndexFunc_int_int_69c (fuel : Nat) (x0 : (List Int)) (x1 : Int) (k0 : (Int × Int) → Option Ans) : Option Ans :=
  (L_slices_IndexFunc_int_int_69c_0 fuel (x0, (↑x0.length : Int), (0 : Int), x1)
    (fun (ret0_0, ret0_1) =>
      k0 (ret0_0, ret0_1))
    (fun b0_0 =>
      k0 ((-1 : Int), b0_0)))
abbrev YF101_69c : Type := ((List Int)) → (Int) → ((Int × Int) → Option Ans) → Option Ans
theorem F101_69c_eqg (fuel : Nat) (f58_e21 : YF58_e21) (x0 : (List Int)) (x1 : Int) (k : Ev.Cont) : evalFn tab (Gg101_69c f58_e21) (J101_69c fuel) kp101_69c fuel Try.f101 [.c (.sl (.int .i64) x0), .c (.clo 58 [0])] [.cells 3 [.int .i64 x1]] k = (fun  (k0 : (Int × Int) → Option Ans) =>
  (L_slices_IndexFunc_int_int_69c_0 fuel (x0, (↑x0.length : Int), (0 : Int), x1)
    (fun (ret0_0, ret0_1) =>
      k0 (ret0_0, ret0_1))
    (fun b0_0 =>
      k0 ((-1 : Int), b0_0)))) (fun r => match r with | (r0, r1) => k (.c (.int .i64 r0), [.cells 3 [.int .i64 r1]])) := by
  kernel_rfl
theorem F101_69c_eq (fuel : Nat) (x0 : (List Int)) (x1 : Int) (k : Ev.Cont) : evalFn tab (G101_69c fuel) (J101_69c fuel) kp101_69c fuel Try.f101 [.c (.sl (.int .i64) x0), .c (.clo 58 [0])] [.cells 3 [.int .i64 x1]] k = F_slices_IndexFunc_int_int_69c fuel x0 x1 (fun r => match r with | (r0, r1) => k (.c (.int .i64 r0), [.cells 3 [.int .i64 r1]])) :=
  F101_69c_eqg fuel (F_tone_Planes_1_e21 fuel) x0 x1 k
theorem hG101_69c (fuel : Nat) : GOK Try.prog (G101_69c fuel) :=
  gok_cons ⟨ok58_e21 fuel, enters_of Try.func58 (by kernel_rfl) rfl⟩ <|
  gok_nil
theorem B101_69c_0_blk (fuel : Nat) : BlkOK Try.prog Try.f101.ntmps (.block 0 (.loop (bodyOf 0 Try.f101))) (B101_69c_0 fuel) :=
  blk_of (blk_of_code tab_ok (hG101_69c fuel) mixed (J := J101_69c_0 fuel) (kp := kp101_69c) (fuel := fuel) (by kernel_rfl) (fun q hq => by
    rw [(by kernel_rfl : obl (J101_69c_0 fuel) (.block 0 (.loop (bodyOf 0 Try.f101))) = [])] at hq
    cases hq)) (B101_69c_0_ok fuel)
theorem fok101_69c (fuel : Nat) : FnOK Try.prog 101 (evalFn tab (G101_69c fuel) (J101_69c fuel) kp101_69c fuel Try.f101) :=
  fn_ok tab_ok (hG101_69c fuel) mixed Try.func101 (c := (Try.f101.body).getD .skip) rfl (fun q hq => by
    rw [(by kernel_rfl : obl (J101_69c fuel) ((Try.f101.body).getD .skip) = [(.block 0 (.loop (bodyOf 0 Try.f101)), B101_69c_0 fuel)])] at hq
    simp only [List.mem_cons, List.not_mem_nil, or_false] at hq
    subst hq
    · exact B101_69c_0_blk fuel)
def mt101_69c : List Ev.SV → List Ev.Ob → Bool := fun args objs => match args, objs with
  | [.c (.sl (.int .i64) _), .c (.clo q0 [q1])], [.cells q2 [.int .i64 _]] => Nat.beq q0 58 && Nat.beq q1 0 && Nat.beq q2 3
  | _, _ => false
def spg101_69c (F : YF101_69c) : Ev.Spec := fun args objs k => match args, objs with
  | [.c (.sl (.int .i64) x0), .c (.clo q0 [q1])], [.cells q2 [.int .i64 x1]] => bif Nat.beq q0 58 && Nat.beq q1 0 && Nat.beq q2 3 then F x0 x1 (fun r => match r with | (r0, r1) => k (.c (.int .i64 r0), [.cells 3 [.int .i64 r1]])) else none
  | _, _ => none
def spec101_69c (fuel : Nat) : Ev.Spec := spg101_69c (F_slices_IndexFunc_int_int_69c fuel)
theorem ok101_69c (fuel : Nat) : FnOK Try.prog 101 (spec101_69c fuel) := by
  intro args objs kk r h
  unfold spec101_69c spg101_69c at h
  split at h
  · obtain ⟨hb, h⟩ := cond_some' h
    simp only [Bool.and_eq_true, Nat.beq_eq, decide_eq_true_eq] at hb
    obtain ⟨⟨rfl, rfl⟩, rfl⟩ := hb
    exact fok101_69c fuel _ _ kk r ((F101_69c_eq fuel _ _ kk).trans h)
  · cases h
end Go.Proofs.Ytajidgilfkineaa
