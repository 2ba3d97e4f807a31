/- What the functions that ToneRenders reaches do: their typed texts, each with the proof that the machine does it. No condition. -/
import Derived.Test.YtihfgpfofmjbaaaEvX
set_option linter.unusedVariables false
set_option linter.unusedSimpArgs false
set_option linter.unusedVariables false
set_option linter.unusedSimpArgs false
set_option maxRecDepth 100000
set_option maxHeartbeats 2000000
namespace Go.Proofs.Ytihfgpfofmjbaaa
open Go Ev
def kp69 (i : Nat) : Option (List Nat) := Ev.look i [(3, [0, 3, 4]), (100000, [3]), (400000, [2])]
noncomputable def Gg69 (f : Nat) : Option Ev.Spec := Ev.look f []
noncomputable def G69 (fuel : Nat) : Nat → Option Ev.Spec := Gg69
noncomputable def S_law11_many_0 (fuel : Nat) (v : (List (Int × (Int × (List Int)))) × Int × Int) (c : ((List (Int × (Int × (List Int)))) × Int × Int) → Option Ans) (B : (Int → Option Ans)) : Option Ans := match v, B with
  | (x0, x1, x2), b =>
   bif Decidable.decide (x2 < (↑x0.length : Int)) then
      bif Decidable.decide ((0 : Int) ≤ x2 ∧ x2 < (↑x0.length : Int)) then
      c (x0, Go.IntKind.i64.wrap (Go.IntKind.i64.wrap (x1 + (1 : Int)) + (↑(List.length (x0.getD x2.toNat ((0 : Int), (0 : Int), [])).snd.snd) : Int)), Go.IntKind.i64.wrap (x2 + (1 : Int)))
      else none
     else
      b x1
noncomputable def L_law11_many_0 (fuel : Nat) (v : (List (Int × (Int × (List Int)))) × Int × Int) (b : (Int → Option Ans)) : Option Ans := iter (S_law11_many_0 fuel) fuel v b
noncomputable def J69_0 (fuel : Nat) (i : Nat) : Option Ev.Blk := Ev.look i []
noncomputable def T69_0 (v : (List (Int × (Int × (List Int)))) × Int × Int) : Ev.St := match v with | (x0, x1, x2) => ⟨[(0, .c (.sl (.pair (.int .i64) (.pair (.int .i64) (.sl (.int .u8)))) x0)), (3, .c (.int .i64 x1)), (4, .c (.int .i64 x2))], [], 0, 0⟩
noncomputable def E69_0 (K : Ev.Ex → Ev.St → Option Ans) : (Int → Option Ans) := (fun v => match v with | x0 => K .normal ⟨[(3, .c (.int .i64 x0))], [], 0, 0⟩)
theorem S69_0_ok (fuel : Nat) (R : Ev.St → Option Ans) (K : Ev.Ex → Ev.St → Option Ans) (x0 : (List (Int × (Int × (List Int))))) (x1 : Int) (x2 : Int) : evalCode tab (G69 fuel) (J69_0 fuel) kp69 fuel (bodyOf 0 Try.f69) (T69_0 (x0, x1, x2)) (lc kp69 3 0 R K) = S_law11_many_0 fuel (x0, x1, x2) (fun v => R (T69_0 v)) (E69_0 K) := by
  kernel_rfl
noncomputable def B69_0 (fuel : Nat) : Ev.Blk := fun st K => match canonO (kp69 3) st with
  | some s => (match s with
    | ⟨[(q0, .c (.sl (.pair (.int .i64) (.pair (.int .i64) (.sl (.int .u8)))) x0)), (q1, .c (.int .i64 x1)), (q2, .c (.int .i64 x2))], [], q3, q4⟩ => bif Nat.beq q0 0 && Nat.beq q1 3 && Nat.beq q2 4 && Nat.beq q3 0 && Nat.beq q4 0 then iter (S_law11_many_0 fuel) fuel (x0, x1, x2) (E69_0 K) else none
    | _ => none)
  | none => none
theorem B69_0_ok (fuel : Nat) (st : Ev.St) (K : Ev.Ex → Ev.St → Option Ans) (r : Ans) (h : B69_0 fuel st K = some r) : evalCode tab (G69 fuel) (J69_0 fuel) kp69 fuel (.block 0 (.loop (bodyOf 0 Try.f69))) st K = some r := by
  unfold B69_0 at h
  split at h
  · rename_i s hs
    split at h
    · skip
      obtain ⟨hb, h⟩ := cond_some' h
      simp only [Bool.and_eq_true, Nat.beq_eq, decide_eq_true_eq] at hb
      obtain ⟨⟨⟨⟨rfl, rfl⟩, rfl⟩, rfl⟩, rfl⟩ := hb
      exact blk_loop (S := T69_0) (ks := E69_0) (step := S_law11_many_0 fuel) (v := (_, _, _)) (by kernel_rfl) (by kernel_rfl) (fun R K v => by obtain ⟨x0, x1, x2⟩ := v; exact S69_0_ok fuel R K x0 x1 x2) hs h
    · cases h
  · cases h
noncomputable def J69 (fuel : Nat) (i : Nat) : Option Ev.Blk := Ev.look i [(100000, B69_0 fuel)]
noncomputable def F_law11_many (fuel : Nat) (x0 : (List (Int × Int × (List Int)))) (k0 : (Int) → Option Ans) : Option Ans :=
  (L_law11_many_0 fuel (x0, (0 : Int), (0 : Int))
    (fun b0_0 =>
      k0 b0_0))
abbrev YF69 : Type := ((List (Int × Int × (List Int)))) → ((Int) → Option Ans) → Option Ans
theorem F69_eq (fuel : Nat) (x0 : (List (Int × Int × (List Int)))) (k : Ev.Cont) : evalFn tab (G69 fuel) (J69 fuel) kp69 fuel Try.f69 [.c (.sl (.pair (.int .i64) (.pair (.int .i64) (.sl (.int .u8)))) x0)] [] k = F_law11_many fuel x0 (fun r => match r with | r0 => k (.c (.int .i64 r0), [])) := by
  kernel_rfl
theorem hG69 (fuel : Nat) : GOK Try.prog (G69 fuel) :=
  gok_nil
theorem B69_0_blk (fuel : Nat) : BlkOK Try.prog Try.f69.ntmps (.block 0 (.loop (bodyOf 0 Try.f69))) (B69_0 fuel) :=
  blk_of (blk_of_code tab_ok (hG69 fuel) mixed (J := J69_0 fuel) (kp := kp69) (fuel := fuel) (by kernel_rfl) (fun q hq => by
    rw [(by kernel_rfl : obl (J69_0 fuel) (.block 0 (.loop (bodyOf 0 Try.f69))) = [])] at hq
    cases hq)) (B69_0_ok fuel)
theorem fok69 (fuel : Nat) : FnOK Try.prog 69 (evalFn tab (G69 fuel) (J69 fuel) kp69 fuel Try.f69) :=
  fn_ok tab_ok (hG69 fuel) mixed Try.func69 (c := (Try.f69.body).getD .skip) rfl (fun q hq => by
    rw [(by kernel_rfl : obl (J69 fuel) ((Try.f69.body).getD .skip) = [(.block 0 (.loop (bodyOf 0 Try.f69)), B69_0 fuel)])] at hq
    simp only [List.mem_cons, List.not_mem_nil, or_false] at hq
    subst hq
    · exact B69_0_blk fuel)
noncomputable def mt69 : List Ev.SV → List Ev.Ob → Bool := fun args objs => match args, objs with
  | [.c (.sl (.pair (.int .i64) (.pair (.int .i64) (.sl (.int .u8)))) _)], [] => true
  | _, _ => false
noncomputable def spg69 (F : YF69) : Ev.Spec := fun args objs k => match args, objs with
  | [.c (.sl (.pair (.int .i64) (.pair (.int .i64) (.sl (.int .u8)))) x0)], [] => bif true then F x0 (fun r => match r with | r0 => k (.c (.int .i64 r0), [])) else none
  | _, _ => none
noncomputable def spec69 (fuel : Nat) : Ev.Spec := spg69 (F_law11_many fuel)
theorem ok69 (fuel : Nat) : FnOK Try.prog 69 (spec69 fuel) := by
  intro args objs kk r h
  unfold spec69 spg69 at h
  split at h
  · skip
    obtain ⟨hb, h⟩ := cond_some' h
    simp only [Bool.and_eq_true, Nat.beq_eq, decide_eq_true_eq] at hb
    clear hb
    exact fok69 fuel _ _ kk r ((F69_eq fuel _ kk).trans h)
  · cases h
end Go.Proofs.Ytihfgpfofmjbaaa

set_option linter.unusedVariables false
set_option linter.unusedSimpArgs false
set_option maxRecDepth 100000
set_option maxHeartbeats 2000000
namespace Go.Proofs.Ytihfgpfofmjbaaa
open Go Ev
def kp20 (i : Nat) : Option (List Nat) := Ev.look i []
noncomputable def Gg20 (f69 : YF69) (f : Nat) : Option Ev.Spec := Ev.look f [(69, spg69 f69)]
noncomputable def G20 (fuel : Nat) : Nat → Option Ev.Spec := Gg20 (F_law11_many fuel)
noncomputable def J20 (fuel : Nat) (i : Nat) : Option Ev.Blk := Ev.look i []
noncomputable def F_law11_Large (fuel : Nat) (x0 : Int) (x1 : Int) (x2 : Int) (x3 : Int) (x4 : Int) (x5 : Int) (x6 : Int) (x7 : Int) (x8 : Bool) (x9 : Int) (x10 : (List (Int × Int × (List Int)))) (x11 : Int) (x12 : Int) (x13 : (List Int)) (k0 : (Bool) → Option Ans) : Option Ans :=
  (F_law11_many fuel (x10)
    (fun y2 =>
      bif Decidable.decide (y2 > (1500 : Int)) then
       k0 Bool.true
      else
       bif Decidable.decide ((↑x13.length : Int) > (5000 : Int)) then
        k0 Bool.true
       else
        bif Decidable.decide (x0 > (0 : Int)) then
         bif Decidable.decide (x1 > (0 : Int)) then
          bif Decidable.decide (x0 ≤ (64 : Int)) then
           bif Decidable.decide (x1 ≤ (64 : Int)) then
            k0 (Decidable.decide (Go.IntKind.i64.wrap (x0 * x1) > (300 : Int)))
           else
            k0 Bool.false
          else
           k0 Bool.false
         else
          k0 Bool.false
        else
         k0 Bool.false))
abbrev YF20 : Type := (Int) → (Int) → (Int) → (Int) → (Int) → (Int) → (Int) → (Int) → (Bool) → (Int) → ((List (Int × Int × (List Int)))) → (Int) → (Int) → ((List Int)) → ((Bool) → Option Ans) → Option Ans
theorem F20_eqg (fuel : Nat) (f69 : YF69) (x0 : Int) (x1 : Int) (x2 : Int) (x3 : Int) (x4 : Int) (x5 : Int) (x6 : Int) (x7 : Int) (x8 : Bool) (x9 : Int) (x10 : (List (Int × Int × (List Int)))) (x11 : Int) (x12 : Int) (x13 : (List Int)) (k : Ev.Cont) : evalFn tab (Gg20 f69) (J20 fuel) kp20 fuel Try.f20 [.agg [.int .i64 x0, .int .i64 x1, .int .i64 x2, .int .i64 x3, .int .i64 x4, .int .i64 x5, .int .i64 x6, .int .i64 x7, .bool x8, .int .i64 x9, .sl (.pair (.int .i64) (.pair (.int .i64) (.sl (.int .u8)))) x10, .int .i64 x11, .int .i64 x12, .sl (.int .i64) x13]] [] k = (fun  (k0 : (Bool) → Option Ans) =>
  (f69 (x10)
    (fun y2 =>
      bif Decidable.decide (y2 > (1500 : Int)) then
       k0 Bool.true
      else
       bif Decidable.decide ((↑x13.length : Int) > (5000 : Int)) then
        k0 Bool.true
       else
        bif Decidable.decide (x0 > (0 : Int)) then
         bif Decidable.decide (x1 > (0 : Int)) then
          bif Decidable.decide (x0 ≤ (64 : Int)) then
           bif Decidable.decide (x1 ≤ (64 : Int)) then
            k0 (Decidable.decide (Go.IntKind.i64.wrap (x0 * x1) > (300 : Int)))
           else
            k0 Bool.false
          else
           k0 Bool.false
         else
          k0 Bool.false
        else
         k0 Bool.false))) (fun r => match r with | r0 => k (.c (.bool r0), [])) := by
  kernel_rfl
theorem F20_eq (fuel : Nat) (x0 : Int) (x1 : Int) (x2 : Int) (x3 : Int) (x4 : Int) (x5 : Int) (x6 : Int) (x7 : Int) (x8 : Bool) (x9 : Int) (x10 : (List (Int × Int × (List Int)))) (x11 : Int) (x12 : Int) (x13 : (List Int)) (k : Ev.Cont) : evalFn tab (G20 fuel) (J20 fuel) kp20 fuel Try.f20 [.agg [.int .i64 x0, .int .i64 x1, .int .i64 x2, .int .i64 x3, .int .i64 x4, .int .i64 x5, .int .i64 x6, .int .i64 x7, .bool x8, .int .i64 x9, .sl (.pair (.int .i64) (.pair (.int .i64) (.sl (.int .u8)))) x10, .int .i64 x11, .int .i64 x12, .sl (.int .i64) x13]] [] k = F_law11_Large fuel x0 x1 x2 x3 x4 x5 x6 x7 x8 x9 x10 x11 x12 x13 (fun r => match r with | r0 => k (.c (.bool r0), [])) :=
  F20_eqg fuel (F_law11_many fuel) x0 x1 x2 x3 x4 x5 x6 x7 x8 x9 x10 x11 x12 x13 k
theorem hG20 (fuel : Nat) : GOK Try.prog (G20 fuel) :=
  gok_cons ⟨ok69 fuel, enters_of Try.func69 (by kernel_rfl) rfl⟩ <|
  gok_nil
theorem fok20 (fuel : Nat) : FnOK Try.prog 20 (evalFn tab (G20 fuel) (J20 fuel) kp20 fuel Try.f20) :=
  fn_ok tab_ok (hG20 fuel) mixed Try.func20 (c := (Try.f20.body).getD .skip) rfl (fun q hq => by
    rw [(by kernel_rfl : obl (J20 fuel) ((Try.f20.body).getD .skip) = [])] at hq
    cases hq)
noncomputable def mt20 : List Ev.SV → List Ev.Ob → Bool := fun args objs => match args, objs with
  | [.agg [.int .i64 _, .int .i64 _, .int .i64 _, .int .i64 _, .int .i64 _, .int .i64 _, .int .i64 _, .int .i64 _, .bool _, .int .i64 _, .sl (.pair (.int .i64) (.pair (.int .i64) (.sl (.int .u8)))) _, .int .i64 _, .int .i64 _, .sl (.int .i64) _]], [] => true
  | _, _ => false
noncomputable def spg20 (F : YF20) : Ev.Spec := fun args objs k => match args, objs with
  | [.agg [.int .i64 x0, .int .i64 x1, .int .i64 x2, .int .i64 x3, .int .i64 x4, .int .i64 x5, .int .i64 x6, .int .i64 x7, .bool x8, .int .i64 x9, .sl (.pair (.int .i64) (.pair (.int .i64) (.sl (.int .u8)))) x10, .int .i64 x11, .int .i64 x12, .sl (.int .i64) x13]], [] => bif true then F x0 x1 x2 x3 x4 x5 x6 x7 x8 x9 x10 x11 x12 x13 (fun r => match r with | r0 => k (.c (.bool r0), [])) else none
  | _, _ => none
noncomputable def spec20 (fuel : Nat) : Ev.Spec := spg20 (F_law11_Large fuel)
theorem ok20 (fuel : Nat) : FnOK Try.prog 20 (spec20 fuel) := by
  intro args objs kk r h
  unfold spec20 spg20 at h
  split at h
  · skip
    obtain ⟨hb, h⟩ := cond_some' h
    simp only [Bool.and_eq_true, Nat.beq_eq, decide_eq_true_eq] at hb
    clear hb
    exact fok20 fuel _ _ kk r ((F20_eq fuel _ _ _ _ _ _ _ _ _ _ _ _ _ _ kk).trans h)
  · cases h
end Go.Proofs.Ytihfgpfofmjbaaa

set_option linter.unusedVariables false
set_option linter.unusedSimpArgs false
set_option maxRecDepth 100000
set_option maxHeartbeats 2000000
namespace Go.Proofs.Ytihfgpfofmjbaaa
open Go Ev
def kp143_e21 (i : Nat) : Option (List Nat) := Ev.look i []
noncomputable def Gg143_e21 (f : Nat) : Option Ev.Spec := Ev.look f []
noncomputable def G143_e21 (fuel : Nat) : Nat → Option Ev.Spec := Gg143_e21
noncomputable def J143_e21 (fuel : Nat) (i : Nat) : Option Ev.Blk := Ev.look i []
noncomputable def F_tone_Planes_1_e21 (fuel : Nat) (x0 : Int) (x1 : Int) (k0 : (Bool × Int) → Option Ans) : Option Ans :=
  bif Decidable.decide (x0 < (0 : Int)) then
   k0 (Bool.true, x1)
  else
   bif Decidable.decide (x1 < (0 : Int)) then
    none
   else
    k0 (Decidable.decide (x0 ≥ Ev.ishl Go.IntKind.i64 (1 : Int) x1), x1)
abbrev YF143_e21 : Type := (Int) → (Int) → ((Bool × Int) → Option Ans) → Option Ans
theorem F143_e21_eq (fuel : Nat) (x0 : Int) (x1 : Int) (k : Ev.Cont) : evalFn tab (G143_e21 fuel) (J143_e21 fuel) kp143_e21 fuel Try.f143 [.c (.int .i64 x0), .c (.ptr 0 0)] [.cells 3 [.int .i64 x1]] k = F_tone_Planes_1_e21 fuel x0 x1 (fun r => match r with | (r0, r1) => k (.c (.bool r0), [.cells 3 [.int .i64 r1]])) := by
  kernel_rfl
theorem hG143_e21 (fuel : Nat) : GOK Try.prog (G143_e21 fuel) :=
  gok_nil
theorem fok143_e21 (fuel : Nat) : FnOK Try.prog 143 (evalFn tab (G143_e21 fuel) (J143_e21 fuel) kp143_e21 fuel Try.f143) :=
  fn_ok tab_ok (hG143_e21 fuel) mixed Try.func143 (c := (Try.f143.body).getD .skip) rfl (fun q hq => by
    rw [(by kernel_rfl : obl (J143_e21 fuel) ((Try.f143.body).getD .skip) = [])] at hq
    cases hq)
noncomputable def mt143_e21 : List Ev.SV → List Ev.Ob → Bool := fun args objs => match args, objs with
  | [.c (.int .i64 _), .c (.ptr q0 q1)], [.cells q2 [.int .i64 _]] => Nat.beq q0 0 && Nat.beq q1 0 && Nat.beq q2 3
  | _, _ => false
noncomputable def spg143_e21 (F : YF143_e21) : Ev.Spec := fun args objs k => match args, objs with
  | [.c (.int .i64 x0), .c (.ptr q0 q1)], [.cells q2 [.int .i64 x1]] => bif Nat.beq q0 0 && Nat.beq q1 0 && Nat.beq q2 3 then F x0 x1 (fun r => match r with | (r0, r1) => k (.c (.bool r0), [.cells 3 [.int .i64 r1]])) else none
  | _, _ => none
noncomputable def spec143_e21 (fuel : Nat) : Ev.Spec := spg143_e21 (F_tone_Planes_1_e21 fuel)
theorem ok143_e21 (fuel : Nat) : FnOK Try.prog 143 (spec143_e21 fuel) := by
  intro args objs kk r h
  unfold spec143_e21 spg143_e21 at h
  split at h
  · skip
    obtain ⟨hb, h⟩ := cond_some' h
    simp only [Bool.and_eq_true, Nat.beq_eq, decide_eq_true_eq] at hb
    obtain ⟨⟨rfl, rfl⟩, rfl⟩ := hb
    exact fok143_e21 fuel _ _ kk r ((F143_e21_eq fuel _ _ kk).trans h)
  · cases h
end Go.Proofs.Ytihfgpfofmjbaaa

set_option linter.unusedVariables false
set_option linter.unusedSimpArgs false
set_option maxRecDepth 100000
set_option maxHeartbeats 2000000
namespace Go.Proofs.Ytihfgpfofmjbaaa
open Go Ev
def kp196_69c (i : Nat) : Option (List Nat) := Ev.look i [(2, [0, 1, 7, 8]), (100000, []), (400000, [4])]
noncomputable def Gg196_69c (f143_e21 : YF143_e21) (f : Nat) : Option Ev.Spec := Ev.look f [(143, spg143_e21 f143_e21)]
noncomputable def G196_69c (fuel : Nat) : Nat → Option Ev.Spec := Gg196_69c (F_tone_Planes_1_e21 fuel)
noncomputable def S_slices_IndexFunc_int_int_69c_0 (fuel : Nat) (v : (List Int) × Int × Int × Int) (c : ((List Int) × Int × Int × Int) → Option Ans) (B : (Int × Int → Option Ans) × (Int → Option Ans)) : Option Ans := match v, B with
  | (x0, x1, x2, x3), (ret, b) =>
   bif Decidable.decide (x2 < x1) then
      bif Decidable.decide ((0 : Int) ≤ x2 ∧ x2 < (↑x0.length : Int)) then
      (F_tone_Planes_1_e21 fuel (x0.getD x2.toNat (0 : Int)) (x3)
         (fun (y4_0, y4_1) =>
           bif y4_0 then
            ret (x2, y4_1)
           else
            c (x0, x1, Go.IntKind.i64.wrap (x2 + (1 : Int)), y4_1)))
      else none
     else
      b x3
noncomputable def L_slices_IndexFunc_int_int_69c_0 (fuel : Nat) (v : (List Int) × Int × Int × Int) (ret : (Int × Int → Option Ans)) (b : (Int → Option Ans)) : Option Ans := iter (S_slices_IndexFunc_int_int_69c_0 fuel) fuel v (ret, b)
noncomputable def J196_69c_0 (fuel : Nat) (i : Nat) : Option Ev.Blk := Ev.look i []
noncomputable def T196_69c_0 (v : (List Int) × Int × Int × Int) : Ev.St := match v with | (x0, x1, x2, x3) => ⟨[(0, .c (.sl (.int .i64) x0)), (1, .c (.clo 143 [0])), (7, .c (.int .i64 x1)), (8, .c (.int .i64 x2))], [(0, .cells 3 [.int .i64 x3])], 1, 1⟩
noncomputable def E196_69c_0 (K : Ev.Ex → Ev.St → Option Ans) : (Int × Int → Option Ans) × (Int → Option Ans) := ((fun v => match v with | (x0, x1) => K .ret ⟨[(4, .c (.int .i64 x0))], [(0, .cells 3 [.int .i64 x1])], 1, 1⟩), (fun v => match v with | x0 => K .normal ⟨[], [(0, .cells 3 [.int .i64 x0])], 1, 1⟩))
theorem S196_69c_0_okg (fuel : Nat) (f143_e21 : YF143_e21) (R : Ev.St → Option Ans) (K : Ev.Ex → Ev.St → Option Ans) (x0 : (List Int)) (x1 : Int) (x2 : Int) (x3 : Int) : evalCode tab (Gg196_69c f143_e21) (J196_69c_0 fuel) kp196_69c fuel (bodyOf 0 Try.f196) (T196_69c_0 (x0, x1, x2, x3)) (lc kp196_69c 2 0 R K) = (fun (c : ((List Int) × Int × Int × Int) → Option Ans) (B : (Int × Int → Option Ans) × (Int → Option Ans)) => match B with
  | (ret, b) =>
   bif Decidable.decide (x2 < x1) then
      bif Decidable.decide ((0 : Int) ≤ x2 ∧ x2 < (↑x0.length : Int)) then
      (f143_e21 (x0.getD x2.toNat (0 : Int)) (x3)
         (fun (y4_0, y4_1) =>
           bif y4_0 then
            ret (x2, y4_1)
           else
            c (x0, x1, Go.IntKind.i64.wrap (x2 + (1 : Int)), y4_1)))
      else none
     else
      b x3) (fun v => R (T196_69c_0 v)) (E196_69c_0 K) := by
  kernel_rfl
theorem S196_69c_0_ok (fuel : Nat) (R : Ev.St → Option Ans) (K : Ev.Ex → Ev.St → Option Ans) (x0 : (List Int)) (x1 : Int) (x2 : Int) (x3 : Int) : evalCode tab (G196_69c fuel) (J196_69c_0 fuel) kp196_69c fuel (bodyOf 0 Try.f196) (T196_69c_0 (x0, x1, x2, x3)) (lc kp196_69c 2 0 R K) = S_slices_IndexFunc_int_int_69c_0 fuel (x0, x1, x2, x3) (fun v => R (T196_69c_0 v)) (E196_69c_0 K) :=
  S196_69c_0_okg fuel (F_tone_Planes_1_e21 fuel) R K x0 x1 x2 x3
noncomputable def B196_69c_0 (fuel : Nat) : Ev.Blk := fun st K => match canonO (kp196_69c 2) st with
  | some s => (match s with
    | ⟨[(q0, .c (.sl (.int .i64) x0)), (q1, .c (.clo q2 [q3])), (q4, .c (.int .i64 x1)), (q5, .c (.int .i64 x2))], [(q6, .cells q7 [.int .i64 x3])], q8, q9⟩ => bif Nat.beq q0 0 && Nat.beq q1 1 && Nat.beq q2 143 && Nat.beq q3 0 && Nat.beq q4 7 && Nat.beq q5 8 && Nat.beq q6 0 && Nat.beq q7 3 && Nat.beq q8 1 && Nat.beq q9 1 then iter (S_slices_IndexFunc_int_int_69c_0 fuel) fuel (x0, x1, x2, x3) (E196_69c_0 K) else none
    | _ => none)
  | none => none
theorem B196_69c_0_ok (fuel : Nat) (st : Ev.St) (K : Ev.Ex → Ev.St → Option Ans) (r : Ans) (h : B196_69c_0 fuel st K = some r) : evalCode tab (G196_69c fuel) (J196_69c_0 fuel) kp196_69c fuel (.block 0 (.loop (bodyOf 0 Try.f196))) st K = some r := by
  unfold B196_69c_0 at h
  split at h
  · rename_i s hs
    split at h
    · skip
      obtain ⟨hb, h⟩ := cond_some' h
      simp only [Bool.and_eq_true, Nat.beq_eq, decide_eq_true_eq] at hb
      obtain ⟨⟨⟨⟨⟨⟨⟨⟨⟨rfl, rfl⟩, rfl⟩, rfl⟩, rfl⟩, rfl⟩, rfl⟩, rfl⟩, rfl⟩, rfl⟩ := hb
      exact blk_loop (S := T196_69c_0) (ks := E196_69c_0) (step := S_slices_IndexFunc_int_int_69c_0 fuel) (v := (_, _, _, _)) (by kernel_rfl) (by kernel_rfl) (fun R K v => by obtain ⟨x0, x1, x2, x3⟩ := v; exact S196_69c_0_ok fuel R K x0 x1 x2 x3) hs h
    · cases h
  · cases h
noncomputable def J196_69c (fuel : Nat) (i : Nat) : Option Ev.Blk := Ev.look i [(100000, B196_69c_0 fuel)]
noncomputable def F_slices_IndexFunc_int_int_69c (fuel : Nat) (x0 : (List Int)) (x1 : Int) (k0 : (Int × Int) → Option Ans) : Option Ans :=
  (L_slices_IndexFunc_int_int_69c_0 fuel (x0, (↑x0.length : Int), (0 : Int), x1)
    (fun (ret0_0, ret0_1) =>
      k0 (ret0_0, ret0_1))
    (fun b0_0 =>
      k0 ((-1 : Int), b0_0)))
abbrev YF196_69c : Type := ((List Int)) → (Int) → ((Int × Int) → Option Ans) → Option Ans
theorem F196_69c_eqg (fuel : Nat) (f143_e21 : YF143_e21) (x0 : (List Int)) (x1 : Int) (k : Ev.Cont) : evalFn tab (Gg196_69c f143_e21) (J196_69c fuel) kp196_69c fuel Try.f196 [.c (.sl (.int .i64) x0), .c (.clo 143 [0])] [.cells 3 [.int .i64 x1]] k = (fun  (k0 : (Int × Int) → Option Ans) =>
  (L_slices_IndexFunc_int_int_69c_0 fuel (x0, (↑x0.length : Int), (0 : Int), x1)
    (fun (ret0_0, ret0_1) =>
      k0 (ret0_0, ret0_1))
    (fun b0_0 =>
      k0 ((-1 : Int), b0_0)))) (fun r => match r with | (r0, r1) => k (.c (.int .i64 r0), [.cells 3 [.int .i64 r1]])) := by
  kernel_rfl
theorem F196_69c_eq (fuel : Nat) (x0 : (List Int)) (x1 : Int) (k : Ev.Cont) : evalFn tab (G196_69c fuel) (J196_69c fuel) kp196_69c fuel Try.f196 [.c (.sl (.int .i64) x0), .c (.clo 143 [0])] [.cells 3 [.int .i64 x1]] k = F_slices_IndexFunc_int_int_69c fuel x0 x1 (fun r => match r with | (r0, r1) => k (.c (.int .i64 r0), [.cells 3 [.int .i64 r1]])) :=
  F196_69c_eqg fuel (F_tone_Planes_1_e21 fuel) x0 x1 k
theorem hG196_69c (fuel : Nat) : GOK Try.prog (G196_69c fuel) :=
  gok_cons ⟨ok143_e21 fuel, enters_of Try.func143 (by kernel_rfl) rfl⟩ <|
  gok_nil
theorem B196_69c_0_blk (fuel : Nat) : BlkOK Try.prog Try.f196.ntmps (.block 0 (.loop (bodyOf 0 Try.f196))) (B196_69c_0 fuel) :=
  blk_of (blk_of_code tab_ok (hG196_69c fuel) mixed (J := J196_69c_0 fuel) (kp := kp196_69c) (fuel := fuel) (by kernel_rfl) (fun q hq => by
    rw [(by kernel_rfl : obl (J196_69c_0 fuel) (.block 0 (.loop (bodyOf 0 Try.f196))) = [])] at hq
    cases hq)) (B196_69c_0_ok fuel)
theorem fok196_69c (fuel : Nat) : FnOK Try.prog 196 (evalFn tab (G196_69c fuel) (J196_69c fuel) kp196_69c fuel Try.f196) :=
  fn_ok tab_ok (hG196_69c fuel) mixed Try.func196 (c := (Try.f196.body).getD .skip) rfl (fun q hq => by
    rw [(by kernel_rfl : obl (J196_69c fuel) ((Try.f196.body).getD .skip) = [(.block 0 (.loop (bodyOf 0 Try.f196)), B196_69c_0 fuel)])] at hq
    simp only [List.mem_cons, List.not_mem_nil, or_false] at hq
    subst hq
    · exact B196_69c_0_blk fuel)
noncomputable def mt196_69c : List Ev.SV → List Ev.Ob → Bool := fun args objs => match args, objs with
  | [.c (.sl (.int .i64) _), .c (.clo q0 [q1])], [.cells q2 [.int .i64 _]] => Nat.beq q0 143 && Nat.beq q1 0 && Nat.beq q2 3
  | _, _ => false
noncomputable def spg196_69c (F : YF196_69c) : Ev.Spec := fun args objs k => match args, objs with
  | [.c (.sl (.int .i64) x0), .c (.clo q0 [q1])], [.cells q2 [.int .i64 x1]] => bif Nat.beq q0 143 && Nat.beq q1 0 && Nat.beq q2 3 then F x0 x1 (fun r => match r with | (r0, r1) => k (.c (.int .i64 r0), [.cells 3 [.int .i64 r1]])) else none
  | _, _ => none
noncomputable def spec196_69c (fuel : Nat) : Ev.Spec := spg196_69c (F_slices_IndexFunc_int_int_69c fuel)
theorem ok196_69c (fuel : Nat) : FnOK Try.prog 196 (spec196_69c fuel) := by
  intro args objs kk r h
  unfold spec196_69c spg196_69c at h
  split at h
  · skip
    obtain ⟨hb, h⟩ := cond_some' h
    simp only [Bool.and_eq_true, Nat.beq_eq, decide_eq_true_eq] at hb
    obtain ⟨⟨rfl, rfl⟩, rfl⟩ := hb
    exact fok196_69c fuel _ _ kk r ((F196_69c_eq fuel _ _ kk).trans h)
  · cases h
end Go.Proofs.Ytihfgpfofmjbaaa

set_option linter.unusedVariables false
set_option linter.unusedSimpArgs false
set_option maxRecDepth 100000
set_option maxHeartbeats 2000000
namespace Go.Proofs.Ytihfgpfofmjbaaa
open Go Ev
def kp142_69c (i : Nat) : Option (List Nat) := Ev.look i []
noncomputable def Gg142_69c (f196_69c : YF196_69c) (f : Nat) : Option Ev.Spec := Ev.look f [(196, spg196_69c f196_69c)]
noncomputable def G142_69c (fuel : Nat) : Nat → Option Ev.Spec := Gg142_69c (F_slices_IndexFunc_int_int_69c fuel)
noncomputable def J142_69c (fuel : Nat) (i : Nat) : Option Ev.Blk := Ev.look i []
noncomputable def F_slices_ContainsFunc_int_int_69c (fuel : Nat) (x0 : (List Int)) (x1 : Int) (k0 : (Bool × Int) → Option Ans) : Option Ans :=
  (F_slices_IndexFunc_int_int_69c fuel (x0) (x1)
    (fun (y2_0, y2_1) =>
      k0 (Decidable.decide (y2_0 ≥ (0 : Int)), y2_1)))
abbrev YF142_69c : Type := ((List Int)) → (Int) → ((Bool × Int) → Option Ans) → Option Ans
theorem F142_69c_eqg (fuel : Nat) (f196_69c : YF196_69c) (x0 : (List Int)) (x1 : Int) (k : Ev.Cont) : evalFn tab (Gg142_69c f196_69c) (J142_69c fuel) kp142_69c fuel Try.f142 [.c (.sl (.int .i64) x0), .c (.clo 143 [0])] [.cells 3 [.int .i64 x1]] k = (fun  (k0 : (Bool × Int) → Option Ans) =>
  (f196_69c (x0) (x1)
    (fun (y2_0, y2_1) =>
      k0 (Decidable.decide (y2_0 ≥ (0 : Int)), y2_1)))) (fun r => match r with | (r0, r1) => k (.c (.bool r0), [.cells 3 [.int .i64 r1]])) := by
  kernel_rfl
theorem F142_69c_eq (fuel : Nat) (x0 : (List Int)) (x1 : Int) (k : Ev.Cont) : evalFn tab (G142_69c fuel) (J142_69c fuel) kp142_69c fuel Try.f142 [.c (.sl (.int .i64) x0), .c (.clo 143 [0])] [.cells 3 [.int .i64 x1]] k = F_slices_ContainsFunc_int_int_69c fuel x0 x1 (fun r => match r with | (r0, r1) => k (.c (.bool r0), [.cells 3 [.int .i64 r1]])) :=
  F142_69c_eqg fuel (F_slices_IndexFunc_int_int_69c fuel) x0 x1 k
theorem hG142_69c (fuel : Nat) : GOK Try.prog (G142_69c fuel) :=
  gok_cons ⟨ok196_69c fuel, enters_of Try.func196 (by kernel_rfl) rfl⟩ <|
  gok_nil
theorem fok142_69c (fuel : Nat) : FnOK Try.prog 142 (evalFn tab (G142_69c fuel) (J142_69c fuel) kp142_69c fuel Try.f142) :=
  fn_ok tab_ok (hG142_69c fuel) mixed Try.func142 (c := (Try.f142.body).getD .skip) rfl (fun q hq => by
    rw [(by kernel_rfl : obl (J142_69c fuel) ((Try.f142.body).getD .skip) = [])] at hq
    cases hq)
noncomputable def mt142_69c : List Ev.SV → List Ev.Ob → Bool := fun args objs => match args, objs with
  | [.c (.sl (.int .i64) _), .c (.clo q0 [q1])], [.cells q2 [.int .i64 _]] => Nat.beq q0 143 && Nat.beq q1 0 && Nat.beq q2 3
  | _, _ => false
noncomputable def spg142_69c (F : YF142_69c) : Ev.Spec := fun args objs k => match args, objs with
  | [.c (.sl (.int .i64) x0), .c (.clo q0 [q1])], [.cells q2 [.int .i64 x1]] => bif Nat.beq q0 143 && Nat.beq q1 0 && Nat.beq q2 3 then F x0 x1 (fun r => match r with | (r0, r1) => k (.c (.bool r0), [.cells 3 [.int .i64 r1]])) else none
  | _, _ => none
noncomputable def spec142_69c (fuel : Nat) : Ev.Spec := spg142_69c (F_slices_ContainsFunc_int_int_69c fuel)
theorem ok142_69c (fuel : Nat) : FnOK Try.prog 142 (spec142_69c fuel) := by
  intro args objs kk r h
  unfold spec142_69c spg142_69c at h
  split at h
  · skip
    obtain ⟨hb, h⟩ := cond_some' h
    simp only [Bool.and_eq_true, Nat.beq_eq, decide_eq_true_eq] at hb
    obtain ⟨⟨rfl, rfl⟩, rfl⟩ := hb
    exact fok142_69c fuel _ _ kk r ((F142_69c_eq fuel _ _ kk).trans h)
  · cases h
end Go.Proofs.Ytihfgpfofmjbaaa

set_option linter.unusedVariables false
set_option linter.unusedSimpArgs false
set_option maxRecDepth 100000
set_option maxHeartbeats 2000000
namespace Go.Proofs.Ytihfgpfofmjbaaa
open Go Ev
def kp70 (i : Nat) : Option (List Nat) := Ev.look i [(5, [0, 6, 7]), (9, [0, 6, 7, 8, 28, 29, 30]), (100000, [6]), (100002, [0, 6, 7, 8]), (400000, [4, 5]), (400002, [4, 5])]
noncomputable def Gg70 (f142_69c : YF142_69c) (f : Nat) : Option Ev.Spec := Ev.look f [(142, spg142_69c f142_69c)]
noncomputable def G70 (fuel : Nat) : Nat → Option Ev.Spec := Gg70 (F_slices_ContainsFunc_int_int_69c fuel)
noncomputable def S_tone_Planes_2 (fuel : Nat) (v : (List Int) × Int × (List Int) × Int × Int × (List (List Int)) × (List Int)) (c : ((List Int) × Int × (List Int) × Int × Int × (List (List Int)) × (List Int)) → Option Ans) (B : ((List Int) × Int × (List (List Int)) × (List Int) → Option Ans)) : Option Ans := match v, B with
  | (x0, x1, x2, x3, x4, x5, x6), b =>
   bif Decidable.decide (x4 < x3) then
      bif Decidable.decide ((0 : Int) ≤ x4 ∧ x4 < (↑x2.length : Int)) then
      bif Decidable.decide (x1 < (0 : Int)) then
        none
       else
        bif Decidable.decide (Go.IntKind.i64.wrap (x1 + (1 : Int)) < (0 : Int)) then
         none
        else
         bif Decidable.decide ((x6.length + [Go.IntKind.u8.wrap (Ev.iand Go.IntKind.i64 (Ev.ixor Go.IntKind.i64 (Ev.ishr Go.IntKind.i64 (x2.getD x4.toNat (0 : Int)) x1) (Ev.ishr Go.IntKind.i64 (x2.getD x4.toNat (0 : Int)) (Go.IntKind.i64.wrap (x1 + (1 : Int))))) (1 : Int))].length) * (1 : Nat) ≤ (140737488355328 : Nat) ∧ x6.length + [Go.IntKind.u8.wrap (Ev.iand Go.IntKind.i64 (Ev.ixor Go.IntKind.i64 (Ev.ishr Go.IntKind.i64 (x2.getD x4.toNat (0 : Int)) x1) (Ev.ishr Go.IntKind.i64 (x2.getD x4.toNat (0 : Int)) (Go.IntKind.i64.wrap (x1 + (1 : Int))))) (1 : Int))].length ≤ (140737488355328 : Nat)) then
         c (x0, x1, x2, x3, Go.IntKind.i64.wrap (x4 + (1 : Int)), x5, x6 ++ [Go.IntKind.u8.wrap (Ev.iand Go.IntKind.i64 (Ev.ixor Go.IntKind.i64 (Ev.ishr Go.IntKind.i64 (x2.getD x4.toNat (0 : Int)) x1) (Ev.ishr Go.IntKind.i64 (x2.getD x4.toNat (0 : Int)) (Go.IntKind.i64.wrap (x1 + (1 : Int))))) (1 : Int))])
         else none
      else none
     else
      b (x0, x1, x5, x6)
noncomputable def L_tone_Planes_2 (fuel : Nat) (v : (List Int) × Int × (List Int) × Int × Int × (List (List Int)) × (List Int)) (b : ((List Int) × Int × (List (List Int)) × (List Int) → Option Ans)) : Option Ans := iter (S_tone_Planes_2 fuel) fuel v b
noncomputable def J70_2 (fuel : Nat) (i : Nat) : Option Ev.Blk := Ev.look i []
noncomputable def T70_2 (v : (List Int) × Int × (List Int) × Int × Int × (List (List Int)) × (List Int)) : Ev.St := match v with | (x0, x1, x2, x3, x4, x5, x6) => ⟨[(0, .c (.sl (.int .i64) x0)), (6, .c (.own 0)), (7, .c (.int .i64 x1)), (8, .c (.own 1)), (28, .c (.sl (.int .i64) x2)), (29, .c (.int .i64 x3)), (30, .c (.int .i64 x4))], [(0, .vec 25 (.sl (.int .u8)) x5 true), (1, .vec 5 (.int .u8) x6 true)], 2, 0⟩
noncomputable def E70_2 (K : Ev.Ex → Ev.St → Option Ans) : ((List Int) × Int × (List (List Int)) × (List Int) → Option Ans) := (fun v => match v with | (x0, x1, x2, x3) => K .normal ⟨[(0, .c (.sl (.int .i64) x0)), (6, .c (.own 0)), (7, .c (.int .i64 x1)), (8, .c (.own 1))], [(0, .vec 25 (.sl (.int .u8)) x2 true), (1, .vec 5 (.int .u8) x3 true)], 2, 0⟩)
theorem S70_2_okg (fuel : Nat) (f142_69c : YF142_69c) (R : Ev.St → Option Ans) (K : Ev.Ex → Ev.St → Option Ans) (x0 : (List Int)) (x1 : Int) (x2 : (List Int)) (x3 : Int) (x4 : Int) (x5 : (List (List Int))) (x6 : (List Int)) : evalCode tab (Gg70 f142_69c) (J70_2 fuel) kp70 fuel (bodyOf 2 Try.f70) (T70_2 (x0, x1, x2, x3, x4, x5, x6)) (lc kp70 9 2 R K) = (fun (c : ((List Int) × Int × (List Int) × Int × Int × (List (List Int)) × (List Int)) → Option Ans) (B : ((List Int) × Int × (List (List Int)) × (List Int) → Option Ans)) => match B with
  | b =>
   bif Decidable.decide (x4 < x3) then
      bif Decidable.decide ((0 : Int) ≤ x4 ∧ x4 < (↑x2.length : Int)) then
      bif Decidable.decide (x1 < (0 : Int)) then
        none
       else
        bif Decidable.decide (Go.IntKind.i64.wrap (x1 + (1 : Int)) < (0 : Int)) then
         none
        else
         bif Decidable.decide ((x6.length + [Go.IntKind.u8.wrap (Ev.iand Go.IntKind.i64 (Ev.ixor Go.IntKind.i64 (Ev.ishr Go.IntKind.i64 (x2.getD x4.toNat (0 : Int)) x1) (Ev.ishr Go.IntKind.i64 (x2.getD x4.toNat (0 : Int)) (Go.IntKind.i64.wrap (x1 + (1 : Int))))) (1 : Int))].length) * (1 : Nat) ≤ (140737488355328 : Nat) ∧ x6.length + [Go.IntKind.u8.wrap (Ev.iand Go.IntKind.i64 (Ev.ixor Go.IntKind.i64 (Ev.ishr Go.IntKind.i64 (x2.getD x4.toNat (0 : Int)) x1) (Ev.ishr Go.IntKind.i64 (x2.getD x4.toNat (0 : Int)) (Go.IntKind.i64.wrap (x1 + (1 : Int))))) (1 : Int))].length ≤ (140737488355328 : Nat)) then
         c (x0, x1, x2, x3, Go.IntKind.i64.wrap (x4 + (1 : Int)), x5, x6 ++ [Go.IntKind.u8.wrap (Ev.iand Go.IntKind.i64 (Ev.ixor Go.IntKind.i64 (Ev.ishr Go.IntKind.i64 (x2.getD x4.toNat (0 : Int)) x1) (Ev.ishr Go.IntKind.i64 (x2.getD x4.toNat (0 : Int)) (Go.IntKind.i64.wrap (x1 + (1 : Int))))) (1 : Int))])
         else none
      else none
     else
      b (x0, x1, x5, x6)) (fun v => R (T70_2 v)) (E70_2 K) := by
  kernel_rfl
theorem S70_2_ok (fuel : Nat) (R : Ev.St → Option Ans) (K : Ev.Ex → Ev.St → Option Ans) (x0 : (List Int)) (x1 : Int) (x2 : (List Int)) (x3 : Int) (x4 : Int) (x5 : (List (List Int))) (x6 : (List Int)) : evalCode tab (G70 fuel) (J70_2 fuel) kp70 fuel (bodyOf 2 Try.f70) (T70_2 (x0, x1, x2, x3, x4, x5, x6)) (lc kp70 9 2 R K) = S_tone_Planes_2 fuel (x0, x1, x2, x3, x4, x5, x6) (fun v => R (T70_2 v)) (E70_2 K) :=
  S70_2_okg fuel (F_slices_ContainsFunc_int_int_69c fuel) R K x0 x1 x2 x3 x4 x5 x6
noncomputable def B70_2 (fuel : Nat) : Ev.Blk := fun st K => match canonO (kp70 9) st with
  | some s => (match s with
    | ⟨[(q0, .c (.sl (.int .i64) x0)), (q1, .c (.own q2)), (q3, .c (.int .i64 x1)), (q4, .c (.own q5)), (q6, .c (.sl (.int .i64) x2)), (q7, .c (.int .i64 x3)), (q8, .c (.int .i64 x4))], [(q9, .vec q10 (.sl (.int .u8)) x5 true), (q11, .vec q12 (.int .u8) x6 true)], q13, q14⟩ => bif Nat.beq q0 0 && Nat.beq q1 6 && Nat.beq q2 0 && Nat.beq q3 7 && Nat.beq q4 8 && Nat.beq q5 1 && Nat.beq q6 28 && Nat.beq q7 29 && Nat.beq q8 30 && Nat.beq q9 0 && Nat.beq q10 25 && Nat.beq q11 1 && Nat.beq q12 5 && Nat.beq q13 2 && Nat.beq q14 0 then iter (S_tone_Planes_2 fuel) fuel (x0, x1, x2, x3, x4, x5, x6) (E70_2 K) else none
    | _ => none)
  | none => none
theorem B70_2_ok (fuel : Nat) (st : Ev.St) (K : Ev.Ex → Ev.St → Option Ans) (r : Ans) (h : B70_2 fuel st K = some r) : evalCode tab (G70 fuel) (J70_2 fuel) kp70 fuel (.block 2 (.loop (bodyOf 2 Try.f70))) st K = some r := by
  unfold B70_2 at h
  split at h
  · rename_i s hs
    split at h
    · skip
      obtain ⟨hb, h⟩ := cond_some' h
      simp only [Bool.and_eq_true, Nat.beq_eq, decide_eq_true_eq] at hb
      obtain ⟨⟨⟨⟨⟨⟨⟨⟨⟨⟨⟨⟨⟨⟨rfl, rfl⟩, rfl⟩, rfl⟩, rfl⟩, rfl⟩, rfl⟩, rfl⟩, rfl⟩, rfl⟩, rfl⟩, rfl⟩, rfl⟩, rfl⟩, rfl⟩ := hb
      exact blk_loop (S := T70_2) (ks := E70_2) (step := S_tone_Planes_2 fuel) (v := (_, _, _, _, _, _, _)) (by kernel_rfl) (by kernel_rfl) (fun R K v => by obtain ⟨x0, x1, x2, x3, x4, x5, x6⟩ := v; exact S70_2_ok fuel R K x0 x1 x2 x3 x4 x5 x6) hs h
    · cases h
  · cases h
noncomputable def S_tone_Planes_0 (fuel : Nat) (v : (List Int) × Int × (List (List Int))) (c : ((List Int) × Int × (List (List Int))) → Option Ans) (B : ((List (List Int)) → Option Ans)) : Option Ans := match v, B with
  | (x0, x1, x2), b =>
   bif Decidable.decide (x1 ≥ (0 : Int)) then
      (L_tone_Planes_2 fuel (x0, x1, x0, (↑x0.length : Int), (0 : Int), x2, [])
        (fun (b2_0, b2_1, b2_2, b2_3) =>
          bif Decidable.decide ((b2_2.length + [b2_3].length) * (24 : Nat) ≤ (140737488355328 : Nat) ∧ b2_2.length + [b2_3].length ≤ (140737488355328 : Nat)) then
          c (b2_0, Go.IntKind.i64.wrap (b2_1 - (1 : Int)), b2_2 ++ [b2_3])
          else none))
     else
      b x2
noncomputable def L_tone_Planes_0 (fuel : Nat) (v : (List Int) × Int × (List (List Int))) (b : ((List (List Int)) → Option Ans)) : Option Ans := iter (S_tone_Planes_0 fuel) fuel v b
noncomputable def J70_0 (fuel : Nat) (i : Nat) : Option Ev.Blk := Ev.look i [(100002, B70_2 fuel)]
noncomputable def T70_0 (v : (List Int) × Int × (List (List Int))) : Ev.St := match v with | (x0, x1, x2) => ⟨[(0, .c (.sl (.int .i64) x0)), (6, .c (.own 0)), (7, .c (.int .i64 x1))], [(0, .vec 25 (.sl (.int .u8)) x2 true)], 1, 0⟩
noncomputable def E70_0 (K : Ev.Ex → Ev.St → Option Ans) : ((List (List Int)) → Option Ans) := (fun v => match v with | x0 => K .normal ⟨[(6, .c (.own 0))], [(0, .vec 25 (.sl (.int .u8)) x0 true)], 1, 0⟩)
theorem S70_0_okg (fuel : Nat) (f142_69c : YF142_69c) (R : Ev.St → Option Ans) (K : Ev.Ex → Ev.St → Option Ans) (x0 : (List Int)) (x1 : Int) (x2 : (List (List Int))) : evalCode tab (Gg70 f142_69c) (J70_0 fuel) kp70 fuel (bodyOf 0 Try.f70) (T70_0 (x0, x1, x2)) (lc kp70 5 0 R K) = (fun (c : ((List Int) × Int × (List (List Int))) → Option Ans) (B : ((List (List Int)) → Option Ans)) => match B with
  | b =>
   bif Decidable.decide (x1 ≥ (0 : Int)) then
      (L_tone_Planes_2 fuel (x0, x1, x0, (↑x0.length : Int), (0 : Int), x2, [])
        (fun (b2_0, b2_1, b2_2, b2_3) =>
          bif Decidable.decide ((b2_2.length + [b2_3].length) * (24 : Nat) ≤ (140737488355328 : Nat) ∧ b2_2.length + [b2_3].length ≤ (140737488355328 : Nat)) then
          c (b2_0, Go.IntKind.i64.wrap (b2_1 - (1 : Int)), b2_2 ++ [b2_3])
          else none))
     else
      b x2) (fun v => R (T70_0 v)) (E70_0 K) := by
  kernel_rfl
theorem S70_0_ok (fuel : Nat) (R : Ev.St → Option Ans) (K : Ev.Ex → Ev.St → Option Ans) (x0 : (List Int)) (x1 : Int) (x2 : (List (List Int))) : evalCode tab (G70 fuel) (J70_0 fuel) kp70 fuel (bodyOf 0 Try.f70) (T70_0 (x0, x1, x2)) (lc kp70 5 0 R K) = S_tone_Planes_0 fuel (x0, x1, x2) (fun v => R (T70_0 v)) (E70_0 K) :=
  S70_0_okg fuel (F_slices_ContainsFunc_int_int_69c fuel) R K x0 x1 x2
noncomputable def B70_0 (fuel : Nat) : Ev.Blk := fun st K => match canonO (kp70 5) st with
  | some s => (match s with
    | ⟨[(q0, .c (.sl (.int .i64) x0)), (q1, .c (.own q2)), (q3, .c (.int .i64 x1))], [(q4, .vec q5 (.sl (.int .u8)) x2 true)], q6, q7⟩ => bif Nat.beq q0 0 && Nat.beq q1 6 && Nat.beq q2 0 && Nat.beq q3 7 && Nat.beq q4 0 && Nat.beq q5 25 && Nat.beq q6 1 && Nat.beq q7 0 then iter (S_tone_Planes_0 fuel) fuel (x0, x1, x2) (E70_0 K) else none
    | _ => none)
  | none => none
theorem B70_0_ok (fuel : Nat) (st : Ev.St) (K : Ev.Ex → Ev.St → Option Ans) (r : Ans) (h : B70_0 fuel st K = some r) : evalCode tab (G70 fuel) (J70_0 fuel) kp70 fuel (.block 0 (.loop (bodyOf 0 Try.f70))) st K = some r := by
  unfold B70_0 at h
  split at h
  · rename_i s hs
    split at h
    · skip
      obtain ⟨hb, h⟩ := cond_some' h
      simp only [Bool.and_eq_true, Nat.beq_eq, decide_eq_true_eq] at hb
      obtain ⟨⟨⟨⟨⟨⟨⟨rfl, rfl⟩, rfl⟩, rfl⟩, rfl⟩, rfl⟩, rfl⟩, rfl⟩ := hb
      exact blk_loop (S := T70_0) (ks := E70_0) (step := S_tone_Planes_0 fuel) (v := (_, _, _)) (by kernel_rfl) (by kernel_rfl) (fun R K v => by obtain ⟨x0, x1, x2⟩ := v; exact S70_0_ok fuel R K x0 x1 x2) hs h
    · cases h
  · cases h
noncomputable def J70 (fuel : Nat) (i : Nat) : Option Ev.Blk := Ev.look i [(100002, B70_2 fuel), (100000, B70_0 fuel)]
noncomputable def F_tone_Planes (fuel : Nat) (x0 : (List Int)) (x1 : Int) (k0 : (Int × (List (List Int))) → Option Ans) : Option Ans :=
  bif Decidable.decide (x1 < (0 : Int)) then
   k0 ((2 : Int), [])
  else
   bif Decidable.decide (x1 > (8 : Int)) then
    k0 ((2 : Int), [])
   else
    (F_slices_ContainsFunc_int_int_69c fuel (x0) (x1)
      (fun (y4_0, y4_1) =>
        bif y4_0 then
         k0 ((2 : Int), [])
        else
         (L_tone_Planes_0 fuel (x0, Go.IntKind.i64.wrap (y4_1 - (1 : Int)), [])
           (fun b0_0 =>
             k0 ((0 : Int), b0_0)))))
abbrev YF70 : Type := ((List Int)) → (Int) → ((Int × (List (List Int))) → Option Ans) → Option Ans
theorem F70_eqg (fuel : Nat) (f142_69c : YF142_69c) (x0 : (List Int)) (x1 : Int) (k : Ev.Cont) : evalFn tab (Gg70 f142_69c) (J70 fuel) kp70 fuel Try.f70 [.c (.sl (.int .i64) x0), .c (.int .i64 x1)] [] k = (fun  (k0 : (Int × (List (List Int))) → Option Ans) =>
  bif Decidable.decide (x1 < (0 : Int)) then
   k0 ((2 : Int), [])
  else
   bif Decidable.decide (x1 > (8 : Int)) then
    k0 ((2 : Int), [])
   else
    (f142_69c (x0) (x1)
      (fun (y4_0, y4_1) =>
        bif y4_0 then
         k0 ((2 : Int), [])
        else
         (L_tone_Planes_0 fuel (x0, Go.IntKind.i64.wrap (y4_1 - (1 : Int)), [])
           (fun b0_0 =>
             k0 ((0 : Int), b0_0)))))) (fun r => match r with | (r0, r1) => k (.tup [(false, [.own 0]), (false, [.int .i64 r0])], [.vec 25 (.sl (.int .u8)) r1 true])) := by
  kernel_rfl
theorem F70_eq (fuel : Nat) (x0 : (List Int)) (x1 : Int) (k : Ev.Cont) : evalFn tab (G70 fuel) (J70 fuel) kp70 fuel Try.f70 [.c (.sl (.int .i64) x0), .c (.int .i64 x1)] [] k = F_tone_Planes fuel x0 x1 (fun r => match r with | (r0, r1) => k (.tup [(false, [.own 0]), (false, [.int .i64 r0])], [.vec 25 (.sl (.int .u8)) r1 true])) :=
  F70_eqg fuel (F_slices_ContainsFunc_int_int_69c fuel) x0 x1 k
theorem hG70 (fuel : Nat) : GOK Try.prog (G70 fuel) :=
  gok_cons ⟨ok142_69c fuel, enters_of Try.func142 (by kernel_rfl) rfl⟩ <|
  gok_nil
theorem B70_2_blk (fuel : Nat) : BlkOK Try.prog Try.f70.ntmps (.block 2 (.loop (bodyOf 2 Try.f70))) (B70_2 fuel) :=
  blk_of (blk_of_code tab_ok (hG70 fuel) mixed (J := J70_2 fuel) (kp := kp70) (fuel := fuel) (by kernel_rfl) (fun q hq => by
    rw [(by kernel_rfl : obl (J70_2 fuel) (.block 2 (.loop (bodyOf 2 Try.f70))) = [])] at hq
    cases hq)) (B70_2_ok fuel)
theorem B70_0_blk (fuel : Nat) : BlkOK Try.prog Try.f70.ntmps (.block 0 (.loop (bodyOf 0 Try.f70))) (B70_0 fuel) :=
  blk_of (blk_of_code tab_ok (hG70 fuel) mixed (J := J70_0 fuel) (kp := kp70) (fuel := fuel) (by kernel_rfl) (fun q hq => by
    rw [(by kernel_rfl : obl (J70_0 fuel) (.block 0 (.loop (bodyOf 0 Try.f70))) = [(.block 2 (.loop (bodyOf 2 Try.f70)), B70_2 fuel)])] at hq
    simp only [List.mem_cons, List.not_mem_nil, or_false] at hq
    subst hq
    · exact B70_2_blk fuel)) (B70_0_ok fuel)
theorem fok70 (fuel : Nat) : FnOK Try.prog 70 (evalFn tab (G70 fuel) (J70 fuel) kp70 fuel Try.f70) :=
  fn_ok tab_ok (hG70 fuel) mixed Try.func70 (c := (Try.f70.body).getD .skip) rfl (fun q hq => by
    rw [(by kernel_rfl : obl (J70 fuel) ((Try.f70.body).getD .skip) = [(.block 0 (.loop (bodyOf 0 Try.f70)), B70_0 fuel)])] at hq
    simp only [List.mem_cons, List.not_mem_nil, or_false] at hq
    subst hq
    · exact B70_0_blk fuel)
noncomputable def mt70 : List Ev.SV → List Ev.Ob → Bool := fun args objs => match args, objs with
  | [.c (.sl (.int .i64) _), .c (.int .i64 _)], [] => true
  | _, _ => false
noncomputable def spg70 (F : YF70) : Ev.Spec := fun args objs k => match args, objs with
  | [.c (.sl (.int .i64) x0), .c (.int .i64 x1)], [] => bif true then F x0 x1 (fun r => match r with | (r0, r1) => k (.tup [(false, [.own 0]), (false, [.int .i64 r0])], [.vec 25 (.sl (.int .u8)) r1 true])) else none
  | _, _ => none
noncomputable def spec70 (fuel : Nat) : Ev.Spec := spg70 (F_tone_Planes fuel)
theorem ok70 (fuel : Nat) : FnOK Try.prog 70 (spec70 fuel) := by
  intro args objs kk r h
  unfold spec70 spg70 at h
  split at h
  · skip
    obtain ⟨hb, h⟩ := cond_some' h
    simp only [Bool.and_eq_true, Nat.beq_eq, decide_eq_true_eq] at hb
    clear hb
    exact fok70 fuel _ _ kk r ((F70_eq fuel _ _ kk).trans h)
  · cases h
end Go.Proofs.Ytihfgpfofmjbaaa

set_option linter.unusedVariables false
set_option linter.unusedSimpArgs false
set_option maxRecDepth 100000
set_option maxHeartbeats 2000000
namespace Go.Proofs.Ytihfgpfofmjbaaa
open Go Ev
def kp21 (i : Nat) : Option (List Nat) := Ev.look i []
noncomputable def Gg21 (f70 : YF70) (f : Nat) : Option Ev.Spec := Ev.look f [(70, spg70 f70)]
noncomputable def G21 (fuel : Nat) : Nat → Option Ev.Spec := Gg21 (F_tone_Planes fuel)
noncomputable def J21 (fuel : Nat) (i : Nat) : Option Ev.Blk := Ev.look i []
noncomputable def F_law11_Sane (fuel : Nat)  (k0 : (Bool) → Option Ans) : Option Ans :=
  (F_tone_Planes fuel ([(0 : Int), (1 : Int), (2 : Int), (3 : Int)]) ((2 : Int))
    (fun (y2_0, y2_1) =>
      bif y2_0 == (0 : Int) then
       bif (↑y2_1.length : Int) == (2 : Int) then
        bif Decidable.decide ((0 : Int) ≤ (0 : Int) ∧ (0 : Int) < (↑y2_1.length : Int)) then
        both (both (bif (Go.strOfNums (y2_1.getD (Int.toNat (0 : Int)) [])).toList == (Go.strOfNums [(0 : Int), (0 : Int), (1 : Int), (1 : Int)]).toList then
              bif Decidable.decide ((0 : Int) ≤ (1 : Int) ∧ (1 : Int) < (↑y2_1.length : Int)) then
              both (both (k0 ((Go.strOfNums (y2_1.getD (Int.toNat (1 : Int)) [])).toList == (Go.strOfNums [(0 : Int), (1 : Int), (1 : Int), (0 : Int)]).toList))
                  (both (k0 ((Go.strOfNums (y2_1.getD (Int.toNat (1 : Int)) [])).toList == (Go.strOfNums [(0 : Int), (1 : Int), (1 : Int), (0 : Int)]).toList))
                    (k0 ((Go.strOfNums (y2_1.getD (Int.toNat (1 : Int)) [])).toList == (Go.strOfNums [(0 : Int), (1 : Int), (1 : Int), (0 : Int)]).toList))))
                (both (both (k0 ((Go.strOfNums (y2_1.getD (Int.toNat (1 : Int)) [])).toList == (Go.strOfNums [(0 : Int), (1 : Int), (1 : Int), (0 : Int)]).toList))
                    (k0 ((Go.strOfNums (y2_1.getD (Int.toNat (1 : Int)) [])).toList == (Go.strOfNums [(0 : Int), (1 : Int), (1 : Int), (0 : Int)]).toList)))
                  (k0 ((Go.strOfNums (y2_1.getD (Int.toNat (1 : Int)) [])).toList == (Go.strOfNums [(0 : Int), (1 : Int), (1 : Int), (0 : Int)]).toList)))
              else none
             else
              k0 Bool.false)
            (both (bif (Go.strOfNums (y2_1.getD (Int.toNat (0 : Int)) [])).toList == (Go.strOfNums [(0 : Int), (0 : Int), (1 : Int), (1 : Int)]).toList then
                bif Decidable.decide ((0 : Int) ≤ (1 : Int) ∧ (1 : Int) < (↑y2_1.length : Int)) then
                both (both (k0 ((Go.strOfNums (y2_1.getD (Int.toNat (1 : Int)) [])).toList == (Go.strOfNums [(0 : Int), (1 : Int), (1 : Int), (0 : Int)]).toList))
                    (both (k0 ((Go.strOfNums (y2_1.getD (Int.toNat (1 : Int)) [])).toList == (Go.strOfNums [(0 : Int), (1 : Int), (1 : Int), (0 : Int)]).toList))
                      (k0 ((Go.strOfNums (y2_1.getD (Int.toNat (1 : Int)) [])).toList == (Go.strOfNums [(0 : Int), (1 : Int), (1 : Int), (0 : Int)]).toList))))
                  (both (both (k0 ((Go.strOfNums (y2_1.getD (Int.toNat (1 : Int)) [])).toList == (Go.strOfNums [(0 : Int), (1 : Int), (1 : Int), (0 : Int)]).toList))
                      (k0 ((Go.strOfNums (y2_1.getD (Int.toNat (1 : Int)) [])).toList == (Go.strOfNums [(0 : Int), (1 : Int), (1 : Int), (0 : Int)]).toList)))
                    (k0 ((Go.strOfNums (y2_1.getD (Int.toNat (1 : Int)) [])).toList == (Go.strOfNums [(0 : Int), (1 : Int), (1 : Int), (0 : Int)]).toList)))
                else none
               else
                k0 Bool.false)
              (bif (Go.strOfNums (y2_1.getD (Int.toNat (0 : Int)) [])).toList == (Go.strOfNums [(0 : Int), (0 : Int), (1 : Int), (1 : Int)]).toList then
                bif Decidable.decide ((0 : Int) ≤ (1 : Int) ∧ (1 : Int) < (↑y2_1.length : Int)) then
                both (both (k0 ((Go.strOfNums (y2_1.getD (Int.toNat (1 : Int)) [])).toList == (Go.strOfNums [(0 : Int), (1 : Int), (1 : Int), (0 : Int)]).toList))
                    (both (k0 ((Go.strOfNums (y2_1.getD (Int.toNat (1 : Int)) [])).toList == (Go.strOfNums [(0 : Int), (1 : Int), (1 : Int), (0 : Int)]).toList))
                      (k0 ((Go.strOfNums (y2_1.getD (Int.toNat (1 : Int)) [])).toList == (Go.strOfNums [(0 : Int), (1 : Int), (1 : Int), (0 : Int)]).toList))))
                  (both (both (k0 ((Go.strOfNums (y2_1.getD (Int.toNat (1 : Int)) [])).toList == (Go.strOfNums [(0 : Int), (1 : Int), (1 : Int), (0 : Int)]).toList))
                      (k0 ((Go.strOfNums (y2_1.getD (Int.toNat (1 : Int)) [])).toList == (Go.strOfNums [(0 : Int), (1 : Int), (1 : Int), (0 : Int)]).toList)))
                    (k0 ((Go.strOfNums (y2_1.getD (Int.toNat (1 : Int)) [])).toList == (Go.strOfNums [(0 : Int), (1 : Int), (1 : Int), (0 : Int)]).toList)))
                else none
               else
                k0 Bool.false)))
          (both (both (bif (Go.strOfNums (y2_1.getD (Int.toNat (0 : Int)) [])).toList == (Go.strOfNums [(0 : Int), (0 : Int), (1 : Int), (1 : Int)]).toList then
                bif Decidable.decide ((0 : Int) ≤ (1 : Int) ∧ (1 : Int) < (↑y2_1.length : Int)) then
                both (both (k0 ((Go.strOfNums (y2_1.getD (Int.toNat (1 : Int)) [])).toList == (Go.strOfNums [(0 : Int), (1 : Int), (1 : Int), (0 : Int)]).toList))
                    (both (k0 ((Go.strOfNums (y2_1.getD (Int.toNat (1 : Int)) [])).toList == (Go.strOfNums [(0 : Int), (1 : Int), (1 : Int), (0 : Int)]).toList))
                      (k0 ((Go.strOfNums (y2_1.getD (Int.toNat (1 : Int)) [])).toList == (Go.strOfNums [(0 : Int), (1 : Int), (1 : Int), (0 : Int)]).toList))))
                  (both (both (k0 ((Go.strOfNums (y2_1.getD (Int.toNat (1 : Int)) [])).toList == (Go.strOfNums [(0 : Int), (1 : Int), (1 : Int), (0 : Int)]).toList))
                      (k0 ((Go.strOfNums (y2_1.getD (Int.toNat (1 : Int)) [])).toList == (Go.strOfNums [(0 : Int), (1 : Int), (1 : Int), (0 : Int)]).toList)))
                    (k0 ((Go.strOfNums (y2_1.getD (Int.toNat (1 : Int)) [])).toList == (Go.strOfNums [(0 : Int), (1 : Int), (1 : Int), (0 : Int)]).toList)))
                else none
               else
                k0 Bool.false)
              (bif (Go.strOfNums (y2_1.getD (Int.toNat (0 : Int)) [])).toList == (Go.strOfNums [(0 : Int), (0 : Int), (1 : Int), (1 : Int)]).toList then
                bif Decidable.decide ((0 : Int) ≤ (1 : Int) ∧ (1 : Int) < (↑y2_1.length : Int)) then
                both (both (k0 ((Go.strOfNums (y2_1.getD (Int.toNat (1 : Int)) [])).toList == (Go.strOfNums [(0 : Int), (1 : Int), (1 : Int), (0 : Int)]).toList))
                    (both (k0 ((Go.strOfNums (y2_1.getD (Int.toNat (1 : Int)) [])).toList == (Go.strOfNums [(0 : Int), (1 : Int), (1 : Int), (0 : Int)]).toList))
                      (k0 ((Go.strOfNums (y2_1.getD (Int.toNat (1 : Int)) [])).toList == (Go.strOfNums [(0 : Int), (1 : Int), (1 : Int), (0 : Int)]).toList))))
                  (both (both (k0 ((Go.strOfNums (y2_1.getD (Int.toNat (1 : Int)) [])).toList == (Go.strOfNums [(0 : Int), (1 : Int), (1 : Int), (0 : Int)]).toList))
                      (k0 ((Go.strOfNums (y2_1.getD (Int.toNat (1 : Int)) [])).toList == (Go.strOfNums [(0 : Int), (1 : Int), (1 : Int), (0 : Int)]).toList)))
                    (k0 ((Go.strOfNums (y2_1.getD (Int.toNat (1 : Int)) [])).toList == (Go.strOfNums [(0 : Int), (1 : Int), (1 : Int), (0 : Int)]).toList)))
                else none
               else
                k0 Bool.false))
            (bif (Go.strOfNums (y2_1.getD (Int.toNat (0 : Int)) [])).toList == (Go.strOfNums [(0 : Int), (0 : Int), (1 : Int), (1 : Int)]).toList then
              bif Decidable.decide ((0 : Int) ≤ (1 : Int) ∧ (1 : Int) < (↑y2_1.length : Int)) then
              both (both (k0 ((Go.strOfNums (y2_1.getD (Int.toNat (1 : Int)) [])).toList == (Go.strOfNums [(0 : Int), (1 : Int), (1 : Int), (0 : Int)]).toList))
                  (both (k0 ((Go.strOfNums (y2_1.getD (Int.toNat (1 : Int)) [])).toList == (Go.strOfNums [(0 : Int), (1 : Int), (1 : Int), (0 : Int)]).toList))
                    (k0 ((Go.strOfNums (y2_1.getD (Int.toNat (1 : Int)) [])).toList == (Go.strOfNums [(0 : Int), (1 : Int), (1 : Int), (0 : Int)]).toList))))
                (both (both (k0 ((Go.strOfNums (y2_1.getD (Int.toNat (1 : Int)) [])).toList == (Go.strOfNums [(0 : Int), (1 : Int), (1 : Int), (0 : Int)]).toList))
                    (k0 ((Go.strOfNums (y2_1.getD (Int.toNat (1 : Int)) [])).toList == (Go.strOfNums [(0 : Int), (1 : Int), (1 : Int), (0 : Int)]).toList)))
                  (k0 ((Go.strOfNums (y2_1.getD (Int.toNat (1 : Int)) [])).toList == (Go.strOfNums [(0 : Int), (1 : Int), (1 : Int), (0 : Int)]).toList)))
              else none
             else
              k0 Bool.false))
        else none
       else
        k0 Bool.false
      else
       k0 Bool.false))
abbrev YF21 : Type := ((Bool) → Option Ans) → Option Ans
theorem F21_eqg (fuel : Nat) (f70 : YF70)  (k : Ev.Cont) : evalFn tab (Gg21 f70) (J21 fuel) kp21 fuel Try.f21 [] [] k = (fun  (k0 : (Bool) → Option Ans) =>
  (f70 ([(0 : Int), (1 : Int), (2 : Int), (3 : Int)]) ((2 : Int))
    (fun (y2_0, y2_1) =>
      bif y2_0 == (0 : Int) then
       bif (↑y2_1.length : Int) == (2 : Int) then
        bif Decidable.decide ((0 : Int) ≤ (0 : Int) ∧ (0 : Int) < (↑y2_1.length : Int)) then
        both (both (bif (Go.strOfNums (y2_1.getD (Int.toNat (0 : Int)) [])).toList == (Go.strOfNums [(0 : Int), (0 : Int), (1 : Int), (1 : Int)]).toList then
              bif Decidable.decide ((0 : Int) ≤ (1 : Int) ∧ (1 : Int) < (↑y2_1.length : Int)) then
              both (both (k0 ((Go.strOfNums (y2_1.getD (Int.toNat (1 : Int)) [])).toList == (Go.strOfNums [(0 : Int), (1 : Int), (1 : Int), (0 : Int)]).toList))
                  (both (k0 ((Go.strOfNums (y2_1.getD (Int.toNat (1 : Int)) [])).toList == (Go.strOfNums [(0 : Int), (1 : Int), (1 : Int), (0 : Int)]).toList))
                    (k0 ((Go.strOfNums (y2_1.getD (Int.toNat (1 : Int)) [])).toList == (Go.strOfNums [(0 : Int), (1 : Int), (1 : Int), (0 : Int)]).toList))))
                (both (both (k0 ((Go.strOfNums (y2_1.getD (Int.toNat (1 : Int)) [])).toList == (Go.strOfNums [(0 : Int), (1 : Int), (1 : Int), (0 : Int)]).toList))
                    (k0 ((Go.strOfNums (y2_1.getD (Int.toNat (1 : Int)) [])).toList == (Go.strOfNums [(0 : Int), (1 : Int), (1 : Int), (0 : Int)]).toList)))
                  (k0 ((Go.strOfNums (y2_1.getD (Int.toNat (1 : Int)) [])).toList == (Go.strOfNums [(0 : Int), (1 : Int), (1 : Int), (0 : Int)]).toList)))
              else none
             else
              k0 Bool.false)
            (both (bif (Go.strOfNums (y2_1.getD (Int.toNat (0 : Int)) [])).toList == (Go.strOfNums [(0 : Int), (0 : Int), (1 : Int), (1 : Int)]).toList then
                bif Decidable.decide ((0 : Int) ≤ (1 : Int) ∧ (1 : Int) < (↑y2_1.length : Int)) then
                both (both (k0 ((Go.strOfNums (y2_1.getD (Int.toNat (1 : Int)) [])).toList == (Go.strOfNums [(0 : Int), (1 : Int), (1 : Int), (0 : Int)]).toList))
                    (both (k0 ((Go.strOfNums (y2_1.getD (Int.toNat (1 : Int)) [])).toList == (Go.strOfNums [(0 : Int), (1 : Int), (1 : Int), (0 : Int)]).toList))
                      (k0 ((Go.strOfNums (y2_1.getD (Int.toNat (1 : Int)) [])).toList == (Go.strOfNums [(0 : Int), (1 : Int), (1 : Int), (0 : Int)]).toList))))
                  (both (both (k0 ((Go.strOfNums (y2_1.getD (Int.toNat (1 : Int)) [])).toList == (Go.strOfNums [(0 : Int), (1 : Int), (1 : Int), (0 : Int)]).toList))
                      (k0 ((Go.strOfNums (y2_1.getD (Int.toNat (1 : Int)) [])).toList == (Go.strOfNums [(0 : Int), (1 : Int), (1 : Int), (0 : Int)]).toList)))
                    (k0 ((Go.strOfNums (y2_1.getD (Int.toNat (1 : Int)) [])).toList == (Go.strOfNums [(0 : Int), (1 : Int), (1 : Int), (0 : Int)]).toList)))
                else none
               else
                k0 Bool.false)
              (bif (Go.strOfNums (y2_1.getD (Int.toNat (0 : Int)) [])).toList == (Go.strOfNums [(0 : Int), (0 : Int), (1 : Int), (1 : Int)]).toList then
                bif Decidable.decide ((0 : Int) ≤ (1 : Int) ∧ (1 : Int) < (↑y2_1.length : Int)) then
                both (both (k0 ((Go.strOfNums (y2_1.getD (Int.toNat (1 : Int)) [])).toList == (Go.strOfNums [(0 : Int), (1 : Int), (1 : Int), (0 : Int)]).toList))
                    (both (k0 ((Go.strOfNums (y2_1.getD (Int.toNat (1 : Int)) [])).toList == (Go.strOfNums [(0 : Int), (1 : Int), (1 : Int), (0 : Int)]).toList))
                      (k0 ((Go.strOfNums (y2_1.getD (Int.toNat (1 : Int)) [])).toList == (Go.strOfNums [(0 : Int), (1 : Int), (1 : Int), (0 : Int)]).toList))))
                  (both (both (k0 ((Go.strOfNums (y2_1.getD (Int.toNat (1 : Int)) [])).toList == (Go.strOfNums [(0 : Int), (1 : Int), (1 : Int), (0 : Int)]).toList))
                      (k0 ((Go.strOfNums (y2_1.getD (Int.toNat (1 : Int)) [])).toList == (Go.strOfNums [(0 : Int), (1 : Int), (1 : Int), (0 : Int)]).toList)))
                    (k0 ((Go.strOfNums (y2_1.getD (Int.toNat (1 : Int)) [])).toList == (Go.strOfNums [(0 : Int), (1 : Int), (1 : Int), (0 : Int)]).toList)))
                else none
               else
                k0 Bool.false)))
          (both (both (bif (Go.strOfNums (y2_1.getD (Int.toNat (0 : Int)) [])).toList == (Go.strOfNums [(0 : Int), (0 : Int), (1 : Int), (1 : Int)]).toList then
                bif Decidable.decide ((0 : Int) ≤ (1 : Int) ∧ (1 : Int) < (↑y2_1.length : Int)) then
                both (both (k0 ((Go.strOfNums (y2_1.getD (Int.toNat (1 : Int)) [])).toList == (Go.strOfNums [(0 : Int), (1 : Int), (1 : Int), (0 : Int)]).toList))
                    (both (k0 ((Go.strOfNums (y2_1.getD (Int.toNat (1 : Int)) [])).toList == (Go.strOfNums [(0 : Int), (1 : Int), (1 : Int), (0 : Int)]).toList))
                      (k0 ((Go.strOfNums (y2_1.getD (Int.toNat (1 : Int)) [])).toList == (Go.strOfNums [(0 : Int), (1 : Int), (1 : Int), (0 : Int)]).toList))))
                  (both (both (k0 ((Go.strOfNums (y2_1.getD (Int.toNat (1 : Int)) [])).toList == (Go.strOfNums [(0 : Int), (1 : Int), (1 : Int), (0 : Int)]).toList))
                      (k0 ((Go.strOfNums (y2_1.getD (Int.toNat (1 : Int)) [])).toList == (Go.strOfNums [(0 : Int), (1 : Int), (1 : Int), (0 : Int)]).toList)))
                    (k0 ((Go.strOfNums (y2_1.getD (Int.toNat (1 : Int)) [])).toList == (Go.strOfNums [(0 : Int), (1 : Int), (1 : Int), (0 : Int)]).toList)))
                else none
               else
                k0 Bool.false)
              (bif (Go.strOfNums (y2_1.getD (Int.toNat (0 : Int)) [])).toList == (Go.strOfNums [(0 : Int), (0 : Int), (1 : Int), (1 : Int)]).toList then
                bif Decidable.decide ((0 : Int) ≤ (1 : Int) ∧ (1 : Int) < (↑y2_1.length : Int)) then
                both (both (k0 ((Go.strOfNums (y2_1.getD (Int.toNat (1 : Int)) [])).toList == (Go.strOfNums [(0 : Int), (1 : Int), (1 : Int), (0 : Int)]).toList))
                    (both (k0 ((Go.strOfNums (y2_1.getD (Int.toNat (1 : Int)) [])).toList == (Go.strOfNums [(0 : Int), (1 : Int), (1 : Int), (0 : Int)]).toList))
                      (k0 ((Go.strOfNums (y2_1.getD (Int.toNat (1 : Int)) [])).toList == (Go.strOfNums [(0 : Int), (1 : Int), (1 : Int), (0 : Int)]).toList))))
                  (both (both (k0 ((Go.strOfNums (y2_1.getD (Int.toNat (1 : Int)) [])).toList == (Go.strOfNums [(0 : Int), (1 : Int), (1 : Int), (0 : Int)]).toList))
                      (k0 ((Go.strOfNums (y2_1.getD (Int.toNat (1 : Int)) [])).toList == (Go.strOfNums [(0 : Int), (1 : Int), (1 : Int), (0 : Int)]).toList)))
                    (k0 ((Go.strOfNums (y2_1.getD (Int.toNat (1 : Int)) [])).toList == (Go.strOfNums [(0 : Int), (1 : Int), (1 : Int), (0 : Int)]).toList)))
                else none
               else
                k0 Bool.false))
            (bif (Go.strOfNums (y2_1.getD (Int.toNat (0 : Int)) [])).toList == (Go.strOfNums [(0 : Int), (0 : Int), (1 : Int), (1 : Int)]).toList then
              bif Decidable.decide ((0 : Int) ≤ (1 : Int) ∧ (1 : Int) < (↑y2_1.length : Int)) then
              both (both (k0 ((Go.strOfNums (y2_1.getD (Int.toNat (1 : Int)) [])).toList == (Go.strOfNums [(0 : Int), (1 : Int), (1 : Int), (0 : Int)]).toList))
                  (both (k0 ((Go.strOfNums (y2_1.getD (Int.toNat (1 : Int)) [])).toList == (Go.strOfNums [(0 : Int), (1 : Int), (1 : Int), (0 : Int)]).toList))
                    (k0 ((Go.strOfNums (y2_1.getD (Int.toNat (1 : Int)) [])).toList == (Go.strOfNums [(0 : Int), (1 : Int), (1 : Int), (0 : Int)]).toList))))
                (both (both (k0 ((Go.strOfNums (y2_1.getD (Int.toNat (1 : Int)) [])).toList == (Go.strOfNums [(0 : Int), (1 : Int), (1 : Int), (0 : Int)]).toList))
                    (k0 ((Go.strOfNums (y2_1.getD (Int.toNat (1 : Int)) [])).toList == (Go.strOfNums [(0 : Int), (1 : Int), (1 : Int), (0 : Int)]).toList)))
                  (k0 ((Go.strOfNums (y2_1.getD (Int.toNat (1 : Int)) [])).toList == (Go.strOfNums [(0 : Int), (1 : Int), (1 : Int), (0 : Int)]).toList)))
              else none
             else
              k0 Bool.false))
        else none
       else
        k0 Bool.false
      else
       k0 Bool.false))) (fun r => match r with | r0 => k (.c (.bool r0), [])) := by
  kernel_rfl
theorem F21_eq (fuel : Nat)  (k : Ev.Cont) : evalFn tab (G21 fuel) (J21 fuel) kp21 fuel Try.f21 [] [] k = F_law11_Sane fuel  (fun r => match r with | r0 => k (.c (.bool r0), [])) :=
  F21_eqg fuel (F_tone_Planes fuel)  k
theorem hG21 (fuel : Nat) : GOK Try.prog (G21 fuel) :=
  gok_cons ⟨ok70 fuel, enters_of Try.func70 (by kernel_rfl) rfl⟩ <|
  gok_nil
theorem fok21 (fuel : Nat) : FnOK Try.prog 21 (evalFn tab (G21 fuel) (J21 fuel) kp21 fuel Try.f21) :=
  fn_ok tab_ok (hG21 fuel) mixed Try.func21 (c := (Try.f21.body).getD .skip) rfl (fun q hq => by
    rw [(by kernel_rfl : obl (J21 fuel) ((Try.f21.body).getD .skip) = [])] at hq
    cases hq)
noncomputable def mt21 : List Ev.SV → List Ev.Ob → Bool := fun args objs => match args, objs with
  | [], [] => true
  | _, _ => false
noncomputable def spg21 (F : YF21) : Ev.Spec := fun args objs k => match args, objs with
  | [], [] => bif true then F  (fun r => match r with | r0 => k (.c (.bool r0), [])) else none
  | _, _ => none
noncomputable def spec21 (fuel : Nat) : Ev.Spec := spg21 (F_law11_Sane fuel)
theorem ok21 (fuel : Nat) : FnOK Try.prog 21 (spec21 fuel) := by
  intro args objs kk r h
  unfold spec21 spg21 at h
  split at h
  · skip
    obtain ⟨hb, h⟩ := cond_some' h
    simp only [Bool.and_eq_true, Nat.beq_eq, decide_eq_true_eq] at hb
    clear hb
    exact fok21 fuel _ _ kk r ((F21_eq fuel kk).trans h)
  · cases h
end Go.Proofs.Ytihfgpfofmjbaaa

set_option linter.unusedVariables false
set_option linter.unusedSimpArgs false
set_option maxRecDepth 100000
set_option maxHeartbeats 2000000
namespace Go.Proofs.Ytihfgpfofmjbaaa
open Go Ev
def kp26 (i : Nat) : Option (List Nat) := Ev.look i []
noncomputable def Gg26 (f : Nat) : Option Ev.Spec := Ev.look f []
noncomputable def G26 (fuel : Nat) : Nat → Option Ev.Spec := Gg26
noncomputable def J26 (fuel : Nat) (i : Nat) : Option Ev.Blk := Ev.look i []
noncomputable def F_ref05_Same (fuel : Nat) (x0 : Int) (x1 : Int) (x2 : (List Int)) (x3 : Int) (x4 : Int) (x5 : (List Int)) (k0 : (Bool) → Option Ans) : Option Ans :=
  bif x0 == x3 then
   bif x1 == x4 then
    k0 ((Go.strOfNums x2).toList == (Go.strOfNums x5).toList)
   else
    k0 Bool.false
  else
   k0 Bool.false
abbrev YF26 : Type := (Int) → (Int) → ((List Int)) → (Int) → (Int) → ((List Int)) → ((Bool) → Option Ans) → Option Ans
theorem F26_eq (fuel : Nat) (x0 : Int) (x1 : Int) (x2 : (List Int)) (x3 : Int) (x4 : Int) (x5 : (List Int)) (k : Ev.Cont) : evalFn tab (G26 fuel) (J26 fuel) kp26 fuel Try.f26 [.agg [.int .i64 x0, .int .i64 x1, .sl (.int .u8) x2], .agg [.int .i64 x3, .int .i64 x4, .sl (.int .u8) x5]] [] k = F_ref05_Same fuel x0 x1 x2 x3 x4 x5 (fun r => match r with | r0 => k (.c (.bool r0), [])) := by
  kernel_rfl
theorem hG26 (fuel : Nat) : GOK Try.prog (G26 fuel) :=
  gok_nil
theorem fok26 (fuel : Nat) : FnOK Try.prog 26 (evalFn tab (G26 fuel) (J26 fuel) kp26 fuel Try.f26) :=
  fn_ok tab_ok (hG26 fuel) mixed Try.func26 (c := (Try.f26.body).getD .skip) rfl (fun q hq => by
    rw [(by kernel_rfl : obl (J26 fuel) ((Try.f26.body).getD .skip) = [])] at hq
    cases hq)
noncomputable def mt26 : List Ev.SV → List Ev.Ob → Bool := fun args objs => match args, objs with
  | [.agg [.int .i64 _, .int .i64 _, .sl (.int .u8) _], .agg [.int .i64 _, .int .i64 _, .sl (.int .u8) _]], [] => true
  | _, _ => false
noncomputable def spg26 (F : YF26) : Ev.Spec := fun args objs k => match args, objs with
  | [.agg [.int .i64 x0, .int .i64 x1, .sl (.int .u8) x2], .agg [.int .i64 x3, .int .i64 x4, .sl (.int .u8) x5]], [] => bif true then F x0 x1 x2 x3 x4 x5 (fun r => match r with | r0 => k (.c (.bool r0), [])) else none
  | _, _ => none
noncomputable def spec26 (fuel : Nat) : Ev.Spec := spg26 (F_ref05_Same fuel)
theorem ok26 (fuel : Nat) : FnOK Try.prog 26 (spec26 fuel) := by
  intro args objs kk r h
  unfold spec26 spg26 at h
  split at h
  · skip
    obtain ⟨hb, h⟩ := cond_some' h
    simp only [Bool.and_eq_true, Nat.beq_eq, decide_eq_true_eq] at hb
    clear hb
    exact fok26 fuel _ _ kk r ((F26_eq fuel _ _ _ _ _ _ kk).trans h)
  · cases h
end Go.Proofs.Ytihfgpfofmjbaaa

set_option linter.unusedVariables false
set_option linter.unusedSimpArgs false
set_option maxRecDepth 100000
set_option maxHeartbeats 2000000
namespace Go.Proofs.Ytihfgpfofmjbaaa
open Go Ev
def kp156 (i : Nat) : Option (List Nat) := Ev.look i []
noncomputable def Gg156 (f : Nat) : Option Ev.Spec := Ev.look f []
noncomputable def G156 (fuel : Nat) : Nat → Option Ev.Spec := Gg156
noncomputable def J156 (fuel : Nat) (i : Nat) : Option Ev.Blk := Ev.look i []
noncomputable def F_ref05_inside (fuel : Nat) (x0 : Int) (x1 : Int) (x2 : (List Int)) (x3 : Int) (x4 : Int) (k0 : (Bool) → Option Ans) : Option Ans :=
  bif Decidable.decide (x3 ≥ (0 : Int)) then
   bif Decidable.decide (x4 ≥ (0 : Int)) then
    bif Decidable.decide (x3 < x0) then
     k0 (Decidable.decide (x4 < x1))
    else
     k0 Bool.false
   else
    k0 Bool.false
  else
   k0 Bool.false
abbrev YF156 : Type := (Int) → (Int) → ((List Int)) → (Int) → (Int) → ((Bool) → Option Ans) → Option Ans
theorem F156_eq (fuel : Nat) (x0 : Int) (x1 : Int) (x2 : (List Int)) (x3 : Int) (x4 : Int) (k : Ev.Cont) : evalFn tab (G156 fuel) (J156 fuel) kp156 fuel Try.f156 [.agg [.int .i64 x0, .int .i64 x1, .sl (.int .u8) x2], .c (.int .i64 x3), .c (.int .i64 x4)] [] k = F_ref05_inside fuel x0 x1 x2 x3 x4 (fun r => match r with | r0 => k (.c (.bool r0), [])) := by
  kernel_rfl
theorem hG156 (fuel : Nat) : GOK Try.prog (G156 fuel) :=
  gok_nil
theorem fok156 (fuel : Nat) : FnOK Try.prog 156 (evalFn tab (G156 fuel) (J156 fuel) kp156 fuel Try.f156) :=
  fn_ok tab_ok (hG156 fuel) mixed Try.func156 (c := (Try.f156.body).getD .skip) rfl (fun q hq => by
    rw [(by kernel_rfl : obl (J156 fuel) ((Try.f156.body).getD .skip) = [])] at hq
    cases hq)
noncomputable def mt156 : List Ev.SV → List Ev.Ob → Bool := fun args objs => match args, objs with
  | [.agg [.int .i64 _, .int .i64 _, .sl (.int .u8) _], .c (.int .i64 _), .c (.int .i64 _)], [] => true
  | _, _ => false
noncomputable def spg156 (F : YF156) : Ev.Spec := fun args objs k => match args, objs with
  | [.agg [.int .i64 x0, .int .i64 x1, .sl (.int .u8) x2], .c (.int .i64 x3), .c (.int .i64 x4)], [] => bif true then F x0 x1 x2 x3 x4 (fun r => match r with | r0 => k (.c (.bool r0), [])) else none
  | _, _ => none
noncomputable def spec156 (fuel : Nat) : Ev.Spec := spg156 (F_ref05_inside fuel)
theorem ok156 (fuel : Nat) : FnOK Try.prog 156 (spec156 fuel) := by
  intro args objs kk r h
  unfold spec156 spg156 at h
  split at h
  · skip
    obtain ⟨hb, h⟩ := cond_some' h
    simp only [Bool.and_eq_true, Nat.beq_eq, decide_eq_true_eq] at hb
    clear hb
    exact fok156 fuel _ _ kk r ((F156_eq fuel _ _ _ _ _ kk).trans h)
  · cases h
end Go.Proofs.Ytihfgpfofmjbaaa

set_option linter.unusedVariables false
set_option linter.unusedSimpArgs false
set_option maxRecDepth 100000
set_option maxHeartbeats 2000000
namespace Go.Proofs.Ytihfgpfofmjbaaa
open Go Ev
def kp125 (i : Nat) : Option (List Nat) := Ev.look i []
noncomputable def Gg125 (f156 : YF156) (f : Nat) : Option Ev.Spec := Ev.look f [(156, spg156 f156)]
noncomputable def G125 (fuel : Nat) : Nat → Option Ev.Spec := Gg125 (F_ref05_inside fuel)
noncomputable def J125 (fuel : Nat) (i : Nat) : Option Ev.Blk := Ev.look i []
noncomputable def F_ref05_At (fuel : Nat) (x0 : Int) (x1 : Int) (x2 : (List Int)) (x3 : Int) (x4 : Int) (k0 : (Int) → Option Ans) : Option Ans :=
  (F_ref05_inside fuel (x0) (x1) (x2) (x3) (x4)
    (fun y2 =>
      bif !y2 then
       k0 ((0 : Int))
      else
       bif Decidable.decide ((0 : Int) ≤ Go.IntKind.i64.wrap (Go.IntKind.i64.wrap (x4 * x0) + x3) ∧ Go.IntKind.i64.wrap (Go.IntKind.i64.wrap (x4 * x0) + x3) < (↑x2.length : Int)) then
       k0 (Go.IntKind.i64.wrap (x2.getD (Go.IntKind.i64.wrap (Go.IntKind.i64.wrap (x4 * x0) + x3)).toNat (0 : Int)))
       else none))
abbrev YF125 : Type := (Int) → (Int) → ((List Int)) → (Int) → (Int) → ((Int) → Option Ans) → Option Ans
theorem F125_eqg (fuel : Nat) (f156 : YF156) (x0 : Int) (x1 : Int) (x2 : (List Int)) (x3 : Int) (x4 : Int) (k : Ev.Cont) : evalFn tab (Gg125 f156) (J125 fuel) kp125 fuel Try.f125 [.agg [.int .i64 x0, .int .i64 x1, .sl (.int .u8) x2], .c (.int .i64 x3), .c (.int .i64 x4)] [] k = (fun  (k0 : (Int) → Option Ans) =>
  (f156 (x0) (x1) (x2) (x3) (x4)
    (fun y2 =>
      bif !y2 then
       k0 ((0 : Int))
      else
       bif Decidable.decide ((0 : Int) ≤ Go.IntKind.i64.wrap (Go.IntKind.i64.wrap (x4 * x0) + x3) ∧ Go.IntKind.i64.wrap (Go.IntKind.i64.wrap (x4 * x0) + x3) < (↑x2.length : Int)) then
       k0 (Go.IntKind.i64.wrap (x2.getD (Go.IntKind.i64.wrap (Go.IntKind.i64.wrap (x4 * x0) + x3)).toNat (0 : Int)))
       else none))) (fun r => match r with | r0 => k (.c (.int .i64 r0), [])) := by
  kernel_rfl
theorem F125_eq (fuel : Nat) (x0 : Int) (x1 : Int) (x2 : (List Int)) (x3 : Int) (x4 : Int) (k : Ev.Cont) : evalFn tab (G125 fuel) (J125 fuel) kp125 fuel Try.f125 [.agg [.int .i64 x0, .int .i64 x1, .sl (.int .u8) x2], .c (.int .i64 x3), .c (.int .i64 x4)] [] k = F_ref05_At fuel x0 x1 x2 x3 x4 (fun r => match r with | r0 => k (.c (.int .i64 r0), [])) :=
  F125_eqg fuel (F_ref05_inside fuel) x0 x1 x2 x3 x4 k
theorem hG125 (fuel : Nat) : GOK Try.prog (G125 fuel) :=
  gok_cons ⟨ok156 fuel, enters_of Try.func156 (by kernel_rfl) rfl⟩ <|
  gok_nil
theorem fok125 (fuel : Nat) : FnOK Try.prog 125 (evalFn tab (G125 fuel) (J125 fuel) kp125 fuel Try.f125) :=
  fn_ok tab_ok (hG125 fuel) mixed Try.func125 (c := (Try.f125.body).getD .skip) rfl (fun q hq => by
    rw [(by kernel_rfl : obl (J125 fuel) ((Try.f125.body).getD .skip) = [])] at hq
    cases hq)
noncomputable def mt125 : List Ev.SV → List Ev.Ob → Bool := fun args objs => match args, objs with
  | [.agg [.int .i64 _, .int .i64 _, .sl (.int .u8) _], .c (.int .i64 _), .c (.int .i64 _)], [] => true
  | _, _ => false
noncomputable def spg125 (F : YF125) : Ev.Spec := fun args objs k => match args, objs with
  | [.agg [.int .i64 x0, .int .i64 x1, .sl (.int .u8) x2], .c (.int .i64 x3), .c (.int .i64 x4)], [] => bif true then F x0 x1 x2 x3 x4 (fun r => match r with | r0 => k (.c (.int .i64 r0), [])) else none
  | _, _ => none
noncomputable def spec125 (fuel : Nat) : Ev.Spec := spg125 (F_ref05_At fuel)
theorem ok125 (fuel : Nat) : FnOK Try.prog 125 (spec125 fuel) := by
  intro args objs kk r h
  unfold spec125 spg125 at h
  split at h
  · skip
    obtain ⟨hb, h⟩ := cond_some' h
    simp only [Bool.and_eq_true, Nat.beq_eq, decide_eq_true_eq] at hb
    clear hb
    exact fok125 fuel _ _ kk r ((F125_eq fuel _ _ _ _ _ kk).trans h)
  · cases h
end Go.Proofs.Ytihfgpfofmjbaaa

set_option linter.unusedVariables false
set_option linter.unusedSimpArgs false
set_option maxRecDepth 100000
set_option maxHeartbeats 2000000
namespace Go.Proofs.Ytihfgpfofmjbaaa
open Go Ev
def kp157 (i : Nat) : Option (List Nat) := Ev.look i []
noncomputable def Gg157 (f : Nat) : Option Ev.Spec := Ev.look f []
noncomputable def G157 (fuel : Nat) : Nat → Option Ev.Spec := Gg157
noncomputable def J157 (fuel : Nat) (i : Nat) : Option Ev.Blk := Ev.look i []
noncomputable def F_ref05_Mix (fuel : Nat) (x0 : Int) (x1 : Int) (x2 : Int) (k0 : (Int) → Option Ans) : Option Ans :=
  bif x0 == (0 : Int) then
   k0 x2
  else
   bif x0 == (1 : Int) then
    k0 (bif Decidable.decide (x2 > x1) then x2 else x1)
   else
    bif x0 == (2 : Int) then
     k0 (bif Decidable.decide (x2 < x1) then x2 else x1)
    else
     bif x0 == (3 : Int) then
      k0 ((Go.IntKind.i64.wrap (x1 + x2)).tmod (2 : Int))
     else
      k0 ((Go.IntKind.i64.wrap (Go.IntKind.i64.wrap (x1 + x2) + (1 : Int))).tmod (2 : Int))
abbrev YF157 : Type := (Int) → (Int) → (Int) → ((Int) → Option Ans) → Option Ans
theorem F157_eq (fuel : Nat) (x0 : Int) (x1 : Int) (x2 : Int) (k : Ev.Cont) : evalFn tab (G157 fuel) (J157 fuel) kp157 fuel Try.f157 [.c (.int .i64 x0), .c (.int .i64 x1), .c (.int .i64 x2)] [] k = F_ref05_Mix fuel x0 x1 x2 (fun r => match r with | r0 => k (.c (.int .i64 r0), [])) := by
  kernel_rfl
theorem hG157 (fuel : Nat) : GOK Try.prog (G157 fuel) :=
  gok_nil
theorem fok157 (fuel : Nat) : FnOK Try.prog 157 (evalFn tab (G157 fuel) (J157 fuel) kp157 fuel Try.f157) :=
  fn_ok tab_ok (hG157 fuel) mixed Try.func157 (c := (Try.f157.body).getD .skip) rfl (fun q hq => by
    rw [(by kernel_rfl : obl (J157 fuel) ((Try.f157.body).getD .skip) = [])] at hq
    cases hq)
noncomputable def mt157 : List Ev.SV → List Ev.Ob → Bool := fun args objs => match args, objs with
  | [.c (.int .i64 _), .c (.int .i64 _), .c (.int .i64 _)], [] => true
  | _, _ => false
noncomputable def spg157 (F : YF157) : Ev.Spec := fun args objs k => match args, objs with
  | [.c (.int .i64 x0), .c (.int .i64 x1), .c (.int .i64 x2)], [] => bif true then F x0 x1 x2 (fun r => match r with | r0 => k (.c (.int .i64 r0), [])) else none
  | _, _ => none
noncomputable def spec157 (fuel : Nat) : Ev.Spec := spg157 (F_ref05_Mix fuel)
theorem ok157 (fuel : Nat) : FnOK Try.prog 157 (spec157 fuel) := by
  intro args objs kk r h
  unfold spec157 spg157 at h
  split at h
  · skip
    obtain ⟨hb, h⟩ := cond_some' h
    simp only [Bool.and_eq_true, Nat.beq_eq, decide_eq_true_eq] at hb
    clear hb
    exact fok157 fuel _ _ kk r ((F157_eq fuel _ _ _ kk).trans h)
  · cases h
end Go.Proofs.Ytihfgpfofmjbaaa

set_option linter.unusedVariables false
set_option linter.unusedSimpArgs false
set_option maxRecDepth 100000
set_option maxHeartbeats 2000000
namespace Go.Proofs.Ytihfgpfofmjbaaa
open Go Ev
def kp127_a2e (i : Nat) : Option (List Nat) := Ev.look i []
noncomputable def Gg127_a2e (f : Nat) : Option Ev.Spec := Ev.look f []
noncomputable def G127_a2e (fuel : Nat) : Nat → Option Ev.Spec := Gg127_a2e
noncomputable def J127_a2e (fuel : Nat) (i : Nat) : Option Ev.Blk := Ev.look i []
noncomputable def F_ref05_Put_a2e (fuel : Nat) (x0 : Int) (x1 : Int) (x2 : Int) (x3 : Int) (x4 : Int) (x5 : (List Int)) (k0 : ((List Int)) → Option Ans) : Option Ans :=
  bif Decidable.decide ((0 : Int) ≤ Go.IntKind.i64.wrap (Go.IntKind.i64.wrap (x3 * x0) + x2) ∧ Go.IntKind.i64.wrap (Go.IntKind.i64.wrap (x3 * x0) + x2) < (↑x5.length : Int)) then
  k0 (x5.set (Go.IntKind.i64.wrap (Go.IntKind.i64.wrap (x3 * x0) + x2)).toNat (Go.IntKind.u8.wrap x4))
  else none
abbrev YF127_a2e : Type := (Int) → (Int) → (Int) → (Int) → (Int) → ((List Int)) → (((List Int)) → Option Ans) → Option Ans
theorem F127_a2e_eq (fuel : Nat) (x0 : Int) (x1 : Int) (x2 : Int) (x3 : Int) (x4 : Int) (x5 : (List Int)) (k : Ev.Cont) : evalFn tab (G127_a2e fuel) (J127_a2e fuel) kp127_a2e fuel Try.f127 [.agg [.int .i64 x0, .int .i64 x1, .own 0], .c (.int .i64 x2), .c (.int .i64 x3), .c (.int .i64 x4)] [.vec 5 (.int .u8) x5 false] k = F_ref05_Put_a2e fuel x0 x1 x2 x3 x4 x5 (fun r => match r with | r0 => k (.tup [], [.vec 5 (.int .u8) r0 false])) := by
  kernel_rfl
theorem hG127_a2e (fuel : Nat) : GOK Try.prog (G127_a2e fuel) :=
  gok_nil
theorem fok127_a2e (fuel : Nat) : FnOK Try.prog 127 (evalFn tab (G127_a2e fuel) (J127_a2e fuel) kp127_a2e fuel Try.f127) :=
  fn_ok tab_ok (hG127_a2e fuel) mixed Try.func127 (c := (Try.f127.body).getD .skip) rfl (fun q hq => by
    rw [(by kernel_rfl : obl (J127_a2e fuel) ((Try.f127.body).getD .skip) = [])] at hq
    cases hq)
noncomputable def mt127_a2e : List Ev.SV → List Ev.Ob → Bool := fun args objs => match args, objs with
  | [.agg [.int .i64 _, .int .i64 _, .own q0], .c (.int .i64 _), .c (.int .i64 _), .c (.int .i64 _)], [.vec q1 (.int .u8) _ false] => Nat.beq q0 0 && Nat.beq q1 5
  | _, _ => false
noncomputable def spg127_a2e (F : YF127_a2e) : Ev.Spec := fun args objs k => match args, objs with
  | [.agg [.int .i64 x0, .int .i64 x1, .own q0], .c (.int .i64 x2), .c (.int .i64 x3), .c (.int .i64 x4)], [.vec q1 (.int .u8) x5 false] => bif Nat.beq q0 0 && Nat.beq q1 5 then F x0 x1 x2 x3 x4 x5 (fun r => match r with | r0 => k (.tup [], [.vec 5 (.int .u8) r0 false])) else none
  | _, _ => none
noncomputable def spec127_a2e (fuel : Nat) : Ev.Spec := spg127_a2e (F_ref05_Put_a2e fuel)
theorem ok127_a2e (fuel : Nat) : FnOK Try.prog 127 (spec127_a2e fuel) := by
  intro args objs kk r h
  unfold spec127_a2e spg127_a2e at h
  split at h
  · skip
    obtain ⟨hb, h⟩ := cond_some' h
    simp only [Bool.and_eq_true, Nat.beq_eq, decide_eq_true_eq] at hb
    obtain ⟨rfl, rfl⟩ := hb
    exact fok127_a2e fuel _ _ kk r ((F127_a2e_eq fuel _ _ _ _ _ _ kk).trans h)
  · cases h
end Go.Proofs.Ytihfgpfofmjbaaa

set_option linter.unusedVariables false
set_option linter.unusedSimpArgs false
set_option maxRecDepth 100000
set_option maxHeartbeats 2000000
namespace Go.Proofs.Ytihfgpfofmjbaaa
open Go Ev
def kp83_65b (i : Nat) : Option (List Nat) := Ev.look i [(2, [2, 3, 4, 5, 6, 10]), (5, [2, 3, 4, 5, 6, 10, 11]), (100000, []), (100002, [2, 3, 4, 5, 6, 10]), (200008, [5, 6]), (400000, []), (400002, [])]
noncomputable def Gg83_65b (f125 : YF125) (f127_a2e : YF127_a2e) (f156 : YF156) (f157 : YF157) (f : Nat) : Option Ev.Spec := Ev.look f [(125, spg125 f125), (1000127, spg127_a2e f127_a2e), (156, spg156 f156), (157, spg157 f157)]
noncomputable def G83_65b (fuel : Nat) : Nat → Option Ev.Spec := Gg83_65b (F_ref05_At fuel) (F_ref05_Put_a2e fuel) (F_ref05_inside fuel) (F_ref05_Mix fuel)
noncomputable def S_ref05_Lay_65b_2 (fuel : Nat) (v : Int × Int × Int × Int × Int × (List Int) × Int × Int × Int × Int × (List Int)) (c : (Int × Int × Int × Int × Int × (List Int) × Int × Int × Int × Int × (List Int)) → Option Ans) (B : (Int × Int × Int × Int × (List Int) × Int × Int × Int × Int × (List Int) → Option Ans)) : Option Ans := match v, B with
  | (x0, x1, x2, x3, x4, x5, x6, x7, x8, x9, x10), b =>
   bif Decidable.decide (x4 < x8) then
      (F_ref05_inside fuel (x6) (x7) (x5) (Go.IntKind.i64.wrap (x0 + x4)) (Go.IntKind.i64.wrap (x1 + x3))
        (fun y3 =>
          bif y3 then
           (F_ref05_At fuel (x6) (x7) (x5) (Go.IntKind.i64.wrap (x0 + x4)) (Go.IntKind.i64.wrap (x1 + x3))
             (fun y8 =>
               (F_ref05_At fuel (x8) (x9) (x10) (x4) (x3)
                 (fun y12 =>
                   (F_ref05_Mix fuel (x2) (y8) (y12)
                     (fun y16 =>
                       (F_ref05_Put_a2e fuel (x6) (x7) (Go.IntKind.i64.wrap (x0 + x4)) (Go.IntKind.i64.wrap (x1 + x3)) (y16) (x5)
                         (fun y20 =>
                           c (x0, x1, x2, x3, Go.IntKind.i64.wrap (x4 + (1 : Int)), y20, x6, x7, x8, x9, x10)))))))))
          else
           c (x0, x1, x2, x3, Go.IntKind.i64.wrap (x4 + (1 : Int)), x5, x6, x7, x8, x9, x10)))
     else
      b (x0, x1, x2, x3, x5, x6, x7, x8, x9, x10)
noncomputable def L_ref05_Lay_65b_2 (fuel : Nat) (v : Int × Int × Int × Int × Int × (List Int) × Int × Int × Int × Int × (List Int)) (b : (Int × Int × Int × Int × (List Int) × Int × Int × Int × Int × (List Int) → Option Ans)) : Option Ans := iter (S_ref05_Lay_65b_2 fuel) fuel v b
noncomputable def J83_65b_2 (fuel : Nat) (i : Nat) : Option Ev.Blk := Ev.look i []
noncomputable def T83_65b_2 (v : Int × Int × Int × Int × Int × (List Int) × Int × Int × Int × Int × (List Int)) : Ev.St := match v with | (x0, x1, x2, x3, x4, x5, x6, x7, x8, x9, x10) => ⟨[(2, .c (.int .i64 x0)), (3, .c (.int .i64 x1)), (4, .c (.int .i64 x2)), (5, .c (.ptr 1 0)), (6, .c (.ptr 2 0)), (10, .c (.int .i64 x3)), (11, .c (.int .i64 x4))], [(0, .vec 5 (.int .u8) x5 false), (1, .cells 39 [.int .i64 x6, .int .i64 x7, .own 0]), (2, .cells 39 [.int .i64 x8, .int .i64 x9, .sl (.int .u8) x10])], 3, 1⟩
noncomputable def E83_65b_2 (K : Ev.Ex → Ev.St → Option Ans) : (Int × Int × Int × Int × (List Int) × Int × Int × Int × Int × (List Int) → Option Ans) := (fun v => match v with | (x0, x1, x2, x3, x4, x5, x6, x7, x8, x9) => K .normal ⟨[(2, .c (.int .i64 x0)), (3, .c (.int .i64 x1)), (4, .c (.int .i64 x2)), (5, .c (.ptr 1 0)), (6, .c (.ptr 2 0)), (10, .c (.int .i64 x3))], [(0, .vec 5 (.int .u8) x4 false), (1, .cells 39 [.int .i64 x5, .int .i64 x6, .own 0]), (2, .cells 39 [.int .i64 x7, .int .i64 x8, .sl (.int .u8) x9])], 3, 1⟩)
theorem S83_65b_2_okg (fuel : Nat) (f125 : YF125) (f127_a2e : YF127_a2e) (f156 : YF156) (f157 : YF157) (R : Ev.St → Option Ans) (K : Ev.Ex → Ev.St → Option Ans) (x0 : Int) (x1 : Int) (x2 : Int) (x3 : Int) (x4 : Int) (x5 : (List Int)) (x6 : Int) (x7 : Int) (x8 : Int) (x9 : Int) (x10 : (List Int)) : evalCode tab (Gg83_65b f125 f127_a2e f156 f157) (J83_65b_2 fuel) kp83_65b fuel (bodyOf 2 Try.f83) (T83_65b_2 (x0, x1, x2, x3, x4, x5, x6, x7, x8, x9, x10)) (lc kp83_65b 5 2 R K) = (fun (c : (Int × Int × Int × Int × Int × (List Int) × Int × Int × Int × Int × (List Int)) → Option Ans) (B : (Int × Int × Int × Int × (List Int) × Int × Int × Int × Int × (List Int) → Option Ans)) => match B with
  | b =>
   bif Decidable.decide (x4 < x8) then
      (f156 (x6) (x7) (x5) (Go.IntKind.i64.wrap (x0 + x4)) (Go.IntKind.i64.wrap (x1 + x3))
        (fun y3 =>
          bif y3 then
           (f125 (x6) (x7) (x5) (Go.IntKind.i64.wrap (x0 + x4)) (Go.IntKind.i64.wrap (x1 + x3))
             (fun y8 =>
               (f125 (x8) (x9) (x10) (x4) (x3)
                 (fun y12 =>
                   (f157 (x2) (y8) (y12)
                     (fun y16 =>
                       (f127_a2e (x6) (x7) (Go.IntKind.i64.wrap (x0 + x4)) (Go.IntKind.i64.wrap (x1 + x3)) (y16) (x5)
                         (fun y20 =>
                           c (x0, x1, x2, x3, Go.IntKind.i64.wrap (x4 + (1 : Int)), y20, x6, x7, x8, x9, x10)))))))))
          else
           c (x0, x1, x2, x3, Go.IntKind.i64.wrap (x4 + (1 : Int)), x5, x6, x7, x8, x9, x10)))
     else
      b (x0, x1, x2, x3, x5, x6, x7, x8, x9, x10)) (fun v => R (T83_65b_2 v)) (E83_65b_2 K) := by
  kernel_rfl
theorem S83_65b_2_ok (fuel : Nat) (R : Ev.St → Option Ans) (K : Ev.Ex → Ev.St → Option Ans) (x0 : Int) (x1 : Int) (x2 : Int) (x3 : Int) (x4 : Int) (x5 : (List Int)) (x6 : Int) (x7 : Int) (x8 : Int) (x9 : Int) (x10 : (List Int)) : evalCode tab (G83_65b fuel) (J83_65b_2 fuel) kp83_65b fuel (bodyOf 2 Try.f83) (T83_65b_2 (x0, x1, x2, x3, x4, x5, x6, x7, x8, x9, x10)) (lc kp83_65b 5 2 R K) = S_ref05_Lay_65b_2 fuel (x0, x1, x2, x3, x4, x5, x6, x7, x8, x9, x10) (fun v => R (T83_65b_2 v)) (E83_65b_2 K) :=
  S83_65b_2_okg fuel (F_ref05_At fuel) (F_ref05_Put_a2e fuel) (F_ref05_inside fuel) (F_ref05_Mix fuel) R K x0 x1 x2 x3 x4 x5 x6 x7 x8 x9 x10
noncomputable def B83_65b_2 (fuel : Nat) : Ev.Blk := fun st K => match canonO (kp83_65b 5) st with
  | some s => (match s with
    | ⟨[(q0, .c (.int .i64 x0)), (q1, .c (.int .i64 x1)), (q2, .c (.int .i64 x2)), (q3, .c (.ptr q4 q5)), (q6, .c (.ptr q7 q8)), (q9, .c (.int .i64 x3)), (q10, .c (.int .i64 x4))], [(q11, .vec q12 (.int .u8) x5 false), (q13, .cells q14 [.int .i64 x6, .int .i64 x7, .own q15]), (q16, .cells q17 [.int .i64 x8, .int .i64 x9, .sl (.int .u8) x10])], q18, q19⟩ => bif Nat.beq q0 2 && Nat.beq q1 3 && Nat.beq q2 4 && Nat.beq q3 5 && Nat.beq q4 1 && Nat.beq q5 0 && Nat.beq q6 6 && Nat.beq q7 2 && Nat.beq q8 0 && Nat.beq q9 10 && Nat.beq q10 11 && Nat.beq q11 0 && Nat.beq q12 5 && Nat.beq q13 1 && Nat.beq q14 39 && Nat.beq q15 0 && Nat.beq q16 2 && Nat.beq q17 39 && Nat.beq q18 3 && Nat.beq q19 1 then iter (S_ref05_Lay_65b_2 fuel) fuel (x0, x1, x2, x3, x4, x5, x6, x7, x8, x9, x10) (E83_65b_2 K) else none
    | _ => none)
  | none => none
theorem B83_65b_2_ok (fuel : Nat) (st : Ev.St) (K : Ev.Ex → Ev.St → Option Ans) (r : Ans) (h : B83_65b_2 fuel st K = some r) : evalCode tab (G83_65b fuel) (J83_65b_2 fuel) kp83_65b fuel (.block 2 (.loop (bodyOf 2 Try.f83))) st K = some r := by
  unfold B83_65b_2 at h
  split at h
  · rename_i s hs
    split at h
    · skip
      obtain ⟨hb, h⟩ := cond_some' h
      simp only [Bool.and_eq_true, Nat.beq_eq, decide_eq_true_eq] at hb
      obtain ⟨⟨⟨⟨⟨⟨⟨⟨⟨⟨⟨⟨⟨⟨⟨⟨⟨⟨⟨rfl, rfl⟩, rfl⟩, rfl⟩, rfl⟩, rfl⟩, rfl⟩, rfl⟩, rfl⟩, rfl⟩, rfl⟩, rfl⟩, rfl⟩, rfl⟩, rfl⟩, rfl⟩, rfl⟩, rfl⟩, rfl⟩, rfl⟩ := hb
      exact blk_loop (S := T83_65b_2) (ks := E83_65b_2) (step := S_ref05_Lay_65b_2 fuel) (v := (_, _, _, _, _, _, _, _, _, _, _)) (by kernel_rfl) (by kernel_rfl) (fun R K v => by obtain ⟨x0, x1, x2, x3, x4, x5, x6, x7, x8, x9, x10⟩ := v; exact S83_65b_2_ok fuel R K x0 x1 x2 x3 x4 x5 x6 x7 x8 x9 x10) hs h
    · cases h
  · cases h
noncomputable def S_ref05_Lay_65b_0 (fuel : Nat) (v : Int × Int × Int × Int × (List Int) × Int × Int × Int × Int × (List Int)) (c : (Int × Int × Int × Int × (List Int) × Int × Int × Int × Int × (List Int)) → Option Ans) (B : ((List Int) → Option Ans)) : Option Ans := match v, B with
  | (x0, x1, x2, x3, x4, x5, x6, x7, x8, x9), b =>
   bif Decidable.decide (x3 < x8) then
      (L_ref05_Lay_65b_2 fuel (x0, x1, x2, x3, (0 : Int), x4, x5, x6, x7, x8, x9)
        (fun (b2_0, b2_1, b2_2, b2_3, b2_4, b2_5, b2_6, b2_7, b2_8, b2_9) =>
          c (b2_0, b2_1, b2_2, Go.IntKind.i64.wrap (b2_3 + (1 : Int)), b2_4, b2_5, b2_6, b2_7, b2_8, b2_9)))
     else
      b x4
noncomputable def L_ref05_Lay_65b_0 (fuel : Nat) (v : Int × Int × Int × Int × (List Int) × Int × Int × Int × Int × (List Int)) (b : ((List Int) → Option Ans)) : Option Ans := iter (S_ref05_Lay_65b_0 fuel) fuel v b
noncomputable def J83_65b_0 (fuel : Nat) (i : Nat) : Option Ev.Blk := Ev.look i [(100002, B83_65b_2 fuel)]
noncomputable def T83_65b_0 (v : Int × Int × Int × Int × (List Int) × Int × Int × Int × Int × (List Int)) : Ev.St := match v with | (x0, x1, x2, x3, x4, x5, x6, x7, x8, x9) => ⟨[(2, .c (.int .i64 x0)), (3, .c (.int .i64 x1)), (4, .c (.int .i64 x2)), (5, .c (.ptr 1 0)), (6, .c (.ptr 2 0)), (10, .c (.int .i64 x3))], [(0, .vec 5 (.int .u8) x4 false), (1, .cells 39 [.int .i64 x5, .int .i64 x6, .own 0]), (2, .cells 39 [.int .i64 x7, .int .i64 x8, .sl (.int .u8) x9])], 3, 1⟩
noncomputable def E83_65b_0 (K : Ev.Ex → Ev.St → Option Ans) : ((List Int) → Option Ans) := (fun v => match v with | x0 => K .normal ⟨[], [(0, .vec 5 (.int .u8) x0 false)], 1, 1⟩)
theorem S83_65b_0_okg (fuel : Nat) (f125 : YF125) (f127_a2e : YF127_a2e) (f156 : YF156) (f157 : YF157) (R : Ev.St → Option Ans) (K : Ev.Ex → Ev.St → Option Ans) (x0 : Int) (x1 : Int) (x2 : Int) (x3 : Int) (x4 : (List Int)) (x5 : Int) (x6 : Int) (x7 : Int) (x8 : Int) (x9 : (List Int)) : evalCode tab (Gg83_65b f125 f127_a2e f156 f157) (J83_65b_0 fuel) kp83_65b fuel (bodyOf 0 Try.f83) (T83_65b_0 (x0, x1, x2, x3, x4, x5, x6, x7, x8, x9)) (lc kp83_65b 2 0 R K) = (fun (c : (Int × Int × Int × Int × (List Int) × Int × Int × Int × Int × (List Int)) → Option Ans) (B : ((List Int) → Option Ans)) => match B with
  | b =>
   bif Decidable.decide (x3 < x8) then
      (L_ref05_Lay_65b_2 fuel (x0, x1, x2, x3, (0 : Int), x4, x5, x6, x7, x8, x9)
        (fun (b2_0, b2_1, b2_2, b2_3, b2_4, b2_5, b2_6, b2_7, b2_8, b2_9) =>
          c (b2_0, b2_1, b2_2, Go.IntKind.i64.wrap (b2_3 + (1 : Int)), b2_4, b2_5, b2_6, b2_7, b2_8, b2_9)))
     else
      b x4) (fun v => R (T83_65b_0 v)) (E83_65b_0 K) := by
  kernel_rfl
theorem S83_65b_0_ok (fuel : Nat) (R : Ev.St → Option Ans) (K : Ev.Ex → Ev.St → Option Ans) (x0 : Int) (x1 : Int) (x2 : Int) (x3 : Int) (x4 : (List Int)) (x5 : Int) (x6 : Int) (x7 : Int) (x8 : Int) (x9 : (List Int)) : evalCode tab (G83_65b fuel) (J83_65b_0 fuel) kp83_65b fuel (bodyOf 0 Try.f83) (T83_65b_0 (x0, x1, x2, x3, x4, x5, x6, x7, x8, x9)) (lc kp83_65b 2 0 R K) = S_ref05_Lay_65b_0 fuel (x0, x1, x2, x3, x4, x5, x6, x7, x8, x9) (fun v => R (T83_65b_0 v)) (E83_65b_0 K) :=
  S83_65b_0_okg fuel (F_ref05_At fuel) (F_ref05_Put_a2e fuel) (F_ref05_inside fuel) (F_ref05_Mix fuel) R K x0 x1 x2 x3 x4 x5 x6 x7 x8 x9
noncomputable def B83_65b_0 (fuel : Nat) : Ev.Blk := fun st K => match canonO (kp83_65b 2) st with
  | some s => (match s with
    | ⟨[(q0, .c (.int .i64 x0)), (q1, .c (.int .i64 x1)), (q2, .c (.int .i64 x2)), (q3, .c (.ptr q4 q5)), (q6, .c (.ptr q7 q8)), (q9, .c (.int .i64 x3))], [(q10, .vec q11 (.int .u8) x4 false), (q12, .cells q13 [.int .i64 x5, .int .i64 x6, .own q14]), (q15, .cells q16 [.int .i64 x7, .int .i64 x8, .sl (.int .u8) x9])], q17, q18⟩ => bif Nat.beq q0 2 && Nat.beq q1 3 && Nat.beq q2 4 && Nat.beq q3 5 && Nat.beq q4 1 && Nat.beq q5 0 && Nat.beq q6 6 && Nat.beq q7 2 && Nat.beq q8 0 && Nat.beq q9 10 && Nat.beq q10 0 && Nat.beq q11 5 && Nat.beq q12 1 && Nat.beq q13 39 && Nat.beq q14 0 && Nat.beq q15 2 && Nat.beq q16 39 && Nat.beq q17 3 && Nat.beq q18 1 then iter (S_ref05_Lay_65b_0 fuel) fuel (x0, x1, x2, x3, x4, x5, x6, x7, x8, x9) (E83_65b_0 K) else none
    | _ => none)
  | none => none
theorem B83_65b_0_ok (fuel : Nat) (st : Ev.St) (K : Ev.Ex → Ev.St → Option Ans) (r : Ans) (h : B83_65b_0 fuel st K = some r) : evalCode tab (G83_65b fuel) (J83_65b_0 fuel) kp83_65b fuel (.block 0 (.loop (bodyOf 0 Try.f83))) st K = some r := by
  unfold B83_65b_0 at h
  split at h
  · rename_i s hs
    split at h
    · skip
      obtain ⟨hb, h⟩ := cond_some' h
      simp only [Bool.and_eq_true, Nat.beq_eq, decide_eq_true_eq] at hb
      obtain ⟨⟨⟨⟨⟨⟨⟨⟨⟨⟨⟨⟨⟨⟨⟨⟨⟨⟨rfl, rfl⟩, rfl⟩, rfl⟩, rfl⟩, rfl⟩, rfl⟩, rfl⟩, rfl⟩, rfl⟩, rfl⟩, rfl⟩, rfl⟩, rfl⟩, rfl⟩, rfl⟩, rfl⟩, rfl⟩, rfl⟩ := hb
      exact blk_loop (S := T83_65b_0) (ks := E83_65b_0) (step := S_ref05_Lay_65b_0 fuel) (v := (_, _, _, _, _, _, _, _, _, _)) (by kernel_rfl) (by kernel_rfl) (fun R K v => by obtain ⟨x0, x1, x2, x3, x4, x5, x6, x7, x8, x9⟩ := v; exact S83_65b_0_ok fuel R K x0 x1 x2 x3 x4 x5 x6 x7 x8 x9) hs h
    · cases h
  · cases h
noncomputable def J83_65b (fuel : Nat) (i : Nat) : Option Ev.Blk := Ev.look i [(100002, B83_65b_2 fuel), (100000, B83_65b_0 fuel)]
noncomputable def F_ref05_Lay_65b (fuel : Nat) (x0 : Int) (x1 : Int) (x2 : Int) (x3 : Int) (x4 : (List Int)) (x5 : Int) (x6 : Int) (x7 : Int) (x8 : (List Int)) (k0 : ((List Int)) → Option Ans) : Option Ans :=
  (L_ref05_Lay_65b_0 fuel (x5, x6, x7, (0 : Int), x8, x0, x1, x2, x3, x4)
    (fun b0_0 =>
      k0 b0_0))
abbrev YF83_65b : Type := (Int) → (Int) → (Int) → (Int) → ((List Int)) → (Int) → (Int) → (Int) → ((List Int)) → (((List Int)) → Option Ans) → Option Ans
theorem F83_65b_eqg (fuel : Nat) (f125 : YF125) (f127_a2e : YF127_a2e) (f156 : YF156) (f157 : YF157) (x0 : Int) (x1 : Int) (x2 : Int) (x3 : Int) (x4 : (List Int)) (x5 : Int) (x6 : Int) (x7 : Int) (x8 : (List Int)) (k : Ev.Cont) : evalFn tab (Gg83_65b f125 f127_a2e f156 f157) (J83_65b fuel) kp83_65b fuel Try.f83 [.agg [.int .i64 x0, .int .i64 x1, .own 0], .agg [.int .i64 x2, .int .i64 x3, .sl (.int .u8) x4], .c (.int .i64 x5), .c (.int .i64 x6), .c (.int .i64 x7)] [.vec 5 (.int .u8) x8 false] k = (fun  (k0 : ((List Int)) → Option Ans) =>
  (L_ref05_Lay_65b_0 fuel (x5, x6, x7, (0 : Int), x8, x0, x1, x2, x3, x4)
    (fun b0_0 =>
      k0 b0_0))) (fun r => match r with | r0 => k (.tup [], [.vec 5 (.int .u8) r0 false])) := by
  kernel_rfl
theorem F83_65b_eq (fuel : Nat) (x0 : Int) (x1 : Int) (x2 : Int) (x3 : Int) (x4 : (List Int)) (x5 : Int) (x6 : Int) (x7 : Int) (x8 : (List Int)) (k : Ev.Cont) : evalFn tab (G83_65b fuel) (J83_65b fuel) kp83_65b fuel Try.f83 [.agg [.int .i64 x0, .int .i64 x1, .own 0], .agg [.int .i64 x2, .int .i64 x3, .sl (.int .u8) x4], .c (.int .i64 x5), .c (.int .i64 x6), .c (.int .i64 x7)] [.vec 5 (.int .u8) x8 false] k = F_ref05_Lay_65b fuel x0 x1 x2 x3 x4 x5 x6 x7 x8 (fun r => match r with | r0 => k (.tup [], [.vec 5 (.int .u8) r0 false])) :=
  F83_65b_eqg fuel (F_ref05_At fuel) (F_ref05_Put_a2e fuel) (F_ref05_inside fuel) (F_ref05_Mix fuel) x0 x1 x2 x3 x4 x5 x6 x7 x8 k
theorem hG83_65b (fuel : Nat) : GOK Try.prog (G83_65b fuel) :=
  gok_cons ⟨ok125 fuel, enters_of Try.func125 (by kernel_rfl) rfl⟩ <|
  gok_cons ⟨ok127_a2e fuel, enters_of Try.func127 (by kernel_rfl) rfl⟩ <|
  gok_cons ⟨ok156 fuel, enters_of Try.func156 (by kernel_rfl) rfl⟩ <|
  gok_cons ⟨ok157 fuel, enters_of Try.func157 (by kernel_rfl) rfl⟩ <|
  gok_nil
theorem B83_65b_2_blk (fuel : Nat) : BlkOK Try.prog Try.f83.ntmps (.block 2 (.loop (bodyOf 2 Try.f83))) (B83_65b_2 fuel) :=
  blk_of (blk_of_code tab_ok (hG83_65b fuel) mixed (J := J83_65b_2 fuel) (kp := kp83_65b) (fuel := fuel) (by kernel_rfl) (fun q hq => by
    rw [(by kernel_rfl : obl (J83_65b_2 fuel) (.block 2 (.loop (bodyOf 2 Try.f83))) = [])] at hq
    cases hq)) (B83_65b_2_ok fuel)
theorem B83_65b_0_blk (fuel : Nat) : BlkOK Try.prog Try.f83.ntmps (.block 0 (.loop (bodyOf 0 Try.f83))) (B83_65b_0 fuel) :=
  blk_of (blk_of_code tab_ok (hG83_65b fuel) mixed (J := J83_65b_0 fuel) (kp := kp83_65b) (fuel := fuel) (by kernel_rfl) (fun q hq => by
    rw [(by kernel_rfl : obl (J83_65b_0 fuel) (.block 0 (.loop (bodyOf 0 Try.f83))) = [(.block 2 (.loop (bodyOf 2 Try.f83)), B83_65b_2 fuel)])] at hq
    simp only [List.mem_cons, List.not_mem_nil, or_false] at hq
    subst hq
    · exact B83_65b_2_blk fuel)) (B83_65b_0_ok fuel)
theorem fok83_65b (fuel : Nat) : FnOK Try.prog 83 (evalFn tab (G83_65b fuel) (J83_65b fuel) kp83_65b fuel Try.f83) :=
  fn_ok tab_ok (hG83_65b fuel) mixed Try.func83 (c := (Try.f83.body).getD .skip) rfl (fun q hq => by
    rw [(by kernel_rfl : obl (J83_65b fuel) ((Try.f83.body).getD .skip) = [(.block 0 (.loop (bodyOf 0 Try.f83)), B83_65b_0 fuel)])] at hq
    simp only [List.mem_cons, List.not_mem_nil, or_false] at hq
    subst hq
    · exact B83_65b_0_blk fuel)
noncomputable def mt83_65b : List Ev.SV → List Ev.Ob → Bool := fun args objs => match args, objs with
  | [.agg [.int .i64 _, .int .i64 _, .own q0], .agg [.int .i64 _, .int .i64 _, .sl (.int .u8) _], .c (.int .i64 _), .c (.int .i64 _), .c (.int .i64 _)], [.vec q1 (.int .u8) _ false] => Nat.beq q0 0 && Nat.beq q1 5
  | _, _ => false
noncomputable def spg83_65b (F : YF83_65b) : Ev.Spec := fun args objs k => match args, objs with
  | [.agg [.int .i64 x0, .int .i64 x1, .own q0], .agg [.int .i64 x2, .int .i64 x3, .sl (.int .u8) x4], .c (.int .i64 x5), .c (.int .i64 x6), .c (.int .i64 x7)], [.vec q1 (.int .u8) x8 false] => bif Nat.beq q0 0 && Nat.beq q1 5 then F x0 x1 x2 x3 x4 x5 x6 x7 x8 (fun r => match r with | r0 => k (.tup [], [.vec 5 (.int .u8) r0 false])) else none
  | _, _ => none
noncomputable def spec83_65b (fuel : Nat) : Ev.Spec := spg83_65b (F_ref05_Lay_65b fuel)
theorem ok83_65b (fuel : Nat) : FnOK Try.prog 83 (spec83_65b fuel) := by
  intro args objs kk r h
  unfold spec83_65b spg83_65b at h
  split at h
  · skip
    obtain ⟨hb, h⟩ := cond_some' h
    simp only [Bool.and_eq_true, Nat.beq_eq, decide_eq_true_eq] at hb
    obtain ⟨rfl, rfl⟩ := hb
    exact fok83_65b fuel _ _ kk r ((F83_65b_eq fuel _ _ _ _ _ _ _ _ _ kk).trans h)
  · cases h
end Go.Proofs.Ytihfgpfofmjbaaa

set_option linter.unusedVariables false
set_option linter.unusedSimpArgs false
set_option maxRecDepth 100000
set_option maxHeartbeats 2000000
namespace Go.Proofs.Ytihfgpfofmjbaaa
open Go Ev
def kp112 (i : Nat) : Option (List Nat) := Ev.look i []
noncomputable def Gg112 (f : Nat) : Option Ev.Spec := Ev.look f []
noncomputable def G112 (fuel : Nat) : Nat → Option Ev.Spec := Gg112
noncomputable def J112 (fuel : Nat) (i : Nat) : Option Ev.Blk := Ev.look i []
noncomputable def F_ref05_Sides (fuel : Nat) (x0 : Int) (x1 : Int) (k0 : (Bool) → Option Ans) : Option Ans :=
  bif Decidable.decide (x0 ≥ (0 : Int)) then
   bif Decidable.decide (x1 ≥ (0 : Int)) then
    bif Decidable.decide (x0 ≤ (200 : Int)) then
     bif Decidable.decide (x1 ≤ (200 : Int)) then
      k0 (Decidable.decide (Go.IntKind.i64.wrap (x0 * x1) ≤ (8192 : Int)))
     else
      k0 Bool.false
    else
     k0 Bool.false
   else
    k0 Bool.false
  else
   k0 Bool.false
abbrev YF112 : Type := (Int) → (Int) → ((Bool) → Option Ans) → Option Ans
theorem F112_eq (fuel : Nat) (x0 : Int) (x1 : Int) (k : Ev.Cont) : evalFn tab (G112 fuel) (J112 fuel) kp112 fuel Try.f112 [.c (.int .i64 x0), .c (.int .i64 x1)] [] k = F_ref05_Sides fuel x0 x1 (fun r => match r with | r0 => k (.c (.bool r0), [])) := by
  kernel_rfl
theorem hG112 (fuel : Nat) : GOK Try.prog (G112 fuel) :=
  gok_nil
theorem fok112 (fuel : Nat) : FnOK Try.prog 112 (evalFn tab (G112 fuel) (J112 fuel) kp112 fuel Try.f112) :=
  fn_ok tab_ok (hG112 fuel) mixed Try.func112 (c := (Try.f112.body).getD .skip) rfl (fun q hq => by
    rw [(by kernel_rfl : obl (J112 fuel) ((Try.f112.body).getD .skip) = [])] at hq
    cases hq)
noncomputable def mt112 : List Ev.SV → List Ev.Ob → Bool := fun args objs => match args, objs with
  | [.c (.int .i64 _), .c (.int .i64 _)], [] => true
  | _, _ => false
noncomputable def spg112 (F : YF112) : Ev.Spec := fun args objs k => match args, objs with
  | [.c (.int .i64 x0), .c (.int .i64 x1)], [] => bif true then F x0 x1 (fun r => match r with | r0 => k (.c (.bool r0), [])) else none
  | _, _ => none
noncomputable def spec112 (fuel : Nat) : Ev.Spec := spg112 (F_ref05_Sides fuel)
theorem ok112 (fuel : Nat) : FnOK Try.prog 112 (spec112 fuel) := by
  intro args objs kk r h
  unfold spec112 spg112 at h
  split at h
  · skip
    obtain ⟨hb, h⟩ := cond_some' h
    simp only [Bool.and_eq_true, Nat.beq_eq, decide_eq_true_eq] at hb
    clear hb
    exact fok112 fuel _ _ kk r ((F112_eq fuel _ _ kk).trans h)
  · cases h
end Go.Proofs.Ytihfgpfofmjbaaa

set_option linter.unusedVariables false
set_option linter.unusedSimpArgs false
set_option maxRecDepth 100000
set_option maxHeartbeats 2000000
namespace Go.Proofs.Ytihfgpfofmjbaaa
open Go Ev
def kp154 (i : Nat) : Option (List Nat) := Ev.look i [(3, [0, 1, 2, 6, 7, 8]), (100000, [6, 7]), (400000, [6])]
noncomputable def Gg154 (f : Nat) : Option Ev.Spec := Ev.look f []
noncomputable def G154 (fuel : Nat) : Nat → Option Ev.Spec := Gg154
noncomputable def S_ref05_make2_0 (fuel : Nat) (v : Int × Int × Int × Int × Int × Int × Int × Int × (List Int) × (List Int)) (c : (Int × Int × Int × Int × Int × Int × Int × Int × (List Int) × (List Int)) → Option Ans) (B : (Int × Int × Int × Int × (List Int) × (List Int) → Option Ans)) : Option Ans := match v, B with
  | (x0, x1, x2, x3, x4, x5, x6, x7, x8, x9), b =>
   bif Decidable.decide (x3 < Go.IntKind.i64.wrap (x0 * x1)) then
      bif Decidable.decide ((x9.length + [Go.IntKind.u8.wrap x2].length) * (1 : Nat) ≤ (140737488355328 : Nat) ∧ x9.length + [Go.IntKind.u8.wrap x2].length ≤ (140737488355328 : Nat)) then
      c (x0, x1, x2, Go.IntKind.i64.wrap (x3 + (1 : Int)), x4, x5, x6, x7, x8, x9 ++ [Go.IntKind.u8.wrap x2])
      else none
     else
      b (x4, x5, x6, x7, x8, x9)
noncomputable def L_ref05_make2_0 (fuel : Nat) (v : Int × Int × Int × Int × Int × Int × Int × Int × (List Int) × (List Int)) (b : (Int × Int × Int × Int × (List Int) × (List Int) → Option Ans)) : Option Ans := iter (S_ref05_make2_0 fuel) fuel v b
noncomputable def J154_0 (fuel : Nat) (i : Nat) : Option Ev.Blk := Ev.look i []
noncomputable def T154_0 (v : Int × Int × Int × Int × Int × Int × Int × Int × (List Int) × (List Int)) : Ev.St := match v with | (x0, x1, x2, x3, x4, x5, x6, x7, x8, x9) => ⟨[(0, .c (.int .i64 x0)), (1, .c (.int .i64 x1)), (2, .c (.int .i64 x2)), (6, .c (.ptr 0 0)), (7, .c (.ptr 1 0)), (8, .c (.int .i64 x3))], [(0, .cells 39 [.int .i64 x4, .int .i64 x5, .own 2]), (1, .cells 39 [.int .i64 x6, .int .i64 x7, .own 3]), (2, .vec 5 (.int .u8) x8 true), (3, .vec 5 (.int .u8) x9 true)], 4, 0⟩
noncomputable def E154_0 (K : Ev.Ex → Ev.St → Option Ans) : (Int × Int × Int × Int × (List Int) × (List Int) → Option Ans) := (fun v => match v with | (x0, x1, x2, x3, x4, x5) => K .normal ⟨[(6, .c (.ptr 0 0)), (7, .c (.ptr 1 0))], [(0, .cells 39 [.int .i64 x0, .int .i64 x1, .own 2]), (1, .cells 39 [.int .i64 x2, .int .i64 x3, .own 3]), (2, .vec 5 (.int .u8) x4 true), (3, .vec 5 (.int .u8) x5 true)], 4, 0⟩)
theorem S154_0_ok (fuel : Nat) (R : Ev.St → Option Ans) (K : Ev.Ex → Ev.St → Option Ans) (x0 : Int) (x1 : Int) (x2 : Int) (x3 : Int) (x4 : Int) (x5 : Int) (x6 : Int) (x7 : Int) (x8 : (List Int)) (x9 : (List Int)) : evalCode tab (G154 fuel) (J154_0 fuel) kp154 fuel (bodyOf 0 Try.f154) (T154_0 (x0, x1, x2, x3, x4, x5, x6, x7, x8, x9)) (lc kp154 3 0 R K) = S_ref05_make2_0 fuel (x0, x1, x2, x3, x4, x5, x6, x7, x8, x9) (fun v => R (T154_0 v)) (E154_0 K) := by
  kernel_rfl
noncomputable def B154_0 (fuel : Nat) : Ev.Blk := fun st K => match canonO (kp154 3) st with
  | some s => (match s with
    | ⟨[(q0, .c (.int .i64 x0)), (q1, .c (.int .i64 x1)), (q2, .c (.int .i64 x2)), (q3, .c (.ptr q4 q5)), (q6, .c (.ptr q7 q8)), (q9, .c (.int .i64 x3))], [(q10, .cells q11 [.int .i64 x4, .int .i64 x5, .own q12]), (q13, .cells q14 [.int .i64 x6, .int .i64 x7, .own q15]), (q16, .vec q17 (.int .u8) x8 true), (q18, .vec q19 (.int .u8) x9 true)], q20, q21⟩ => bif Nat.beq q0 0 && Nat.beq q1 1 && Nat.beq q2 2 && Nat.beq q3 6 && Nat.beq q4 0 && Nat.beq q5 0 && Nat.beq q6 7 && Nat.beq q7 1 && Nat.beq q8 0 && Nat.beq q9 8 && Nat.beq q10 0 && Nat.beq q11 39 && Nat.beq q12 2 && Nat.beq q13 1 && Nat.beq q14 39 && Nat.beq q15 3 && Nat.beq q16 2 && Nat.beq q17 5 && Nat.beq q18 3 && Nat.beq q19 5 && Nat.beq q20 4 && Nat.beq q21 0 then iter (S_ref05_make2_0 fuel) fuel (x0, x1, x2, x3, x4, x5, x6, x7, x8, x9) (E154_0 K) else none
    | _ => none)
  | none => none
theorem B154_0_ok (fuel : Nat) (st : Ev.St) (K : Ev.Ex → Ev.St → Option Ans) (r : Ans) (h : B154_0 fuel st K = some r) : evalCode tab (G154 fuel) (J154_0 fuel) kp154 fuel (.block 0 (.loop (bodyOf 0 Try.f154))) st K = some r := by
  unfold B154_0 at h
  split at h
  · rename_i s hs
    split at h
    · skip
      obtain ⟨hb, h⟩ := cond_some' h
      simp only [Bool.and_eq_true, Nat.beq_eq, decide_eq_true_eq] at hb
      obtain ⟨⟨⟨⟨⟨⟨⟨⟨⟨⟨⟨⟨⟨⟨⟨⟨⟨⟨⟨⟨⟨rfl, rfl⟩, rfl⟩, rfl⟩, rfl⟩, rfl⟩, rfl⟩, rfl⟩, rfl⟩, rfl⟩, rfl⟩, rfl⟩, rfl⟩, rfl⟩, rfl⟩, rfl⟩, rfl⟩, rfl⟩, rfl⟩, rfl⟩, rfl⟩, rfl⟩ := hb
      exact blk_loop (S := T154_0) (ks := E154_0) (step := S_ref05_make2_0 fuel) (v := (_, _, _, _, _, _, _, _, _, _)) (by kernel_rfl) (by kernel_rfl) (fun R K v => by obtain ⟨x0, x1, x2, x3, x4, x5, x6, x7, x8, x9⟩ := v; exact S154_0_ok fuel R K x0 x1 x2 x3 x4 x5 x6 x7 x8 x9) hs h
    · cases h
  · cases h
noncomputable def J154 (fuel : Nat) (i : Nat) : Option Ev.Blk := Ev.look i [(100000, B154_0 fuel)]
noncomputable def F_ref05_make2 (fuel : Nat) (x0 : Int) (x1 : Int) (x2 : Int) (k0 : (Int × Int × (List Int)) → Option Ans) : Option Ans :=
  (L_ref05_make2_0 fuel (x0, x1, x2, (0 : Int), (0 : Int), (0 : Int), x0, x1, [], [])
    (fun (b0_0, b0_1, b0_2, b0_3, b0_4, b0_5) =>
      k0 (b0_2, b0_3, b0_5)))
abbrev YF154 : Type := (Int) → (Int) → (Int) → ((Int × Int × (List Int)) → Option Ans) → Option Ans
theorem F154_eq (fuel : Nat) (x0 : Int) (x1 : Int) (x2 : Int) (k : Ev.Cont) : evalFn tab (G154 fuel) (J154 fuel) kp154 fuel Try.f154 [.c (.int .i64 x0), .c (.int .i64 x1), .c (.int .i64 x2)] [] k = F_ref05_make2 fuel x0 x1 x2 (fun r => match r with | (r0, r1, r2) => k (.agg [.int .i64 r0, .int .i64 r1, .own 0], [.vec 5 (.int .u8) r2 true])) := by
  kernel_rfl
theorem hG154 (fuel : Nat) : GOK Try.prog (G154 fuel) :=
  gok_nil
theorem B154_0_blk (fuel : Nat) : BlkOK Try.prog Try.f154.ntmps (.block 0 (.loop (bodyOf 0 Try.f154))) (B154_0 fuel) :=
  blk_of (blk_of_code tab_ok (hG154 fuel) mixed (J := J154_0 fuel) (kp := kp154) (fuel := fuel) (by kernel_rfl) (fun q hq => by
    rw [(by kernel_rfl : obl (J154_0 fuel) (.block 0 (.loop (bodyOf 0 Try.f154))) = [])] at hq
    cases hq)) (B154_0_ok fuel)
theorem fok154 (fuel : Nat) : FnOK Try.prog 154 (evalFn tab (G154 fuel) (J154 fuel) kp154 fuel Try.f154) :=
  fn_ok tab_ok (hG154 fuel) mixed Try.func154 (c := (Try.f154.body).getD .skip) rfl (fun q hq => by
    rw [(by kernel_rfl : obl (J154 fuel) ((Try.f154.body).getD .skip) = [(.block 0 (.loop (bodyOf 0 Try.f154)), B154_0 fuel)])] at hq
    simp only [List.mem_cons, List.not_mem_nil, or_false] at hq
    subst hq
    · exact B154_0_blk fuel)
noncomputable def mt154 : List Ev.SV → List Ev.Ob → Bool := fun args objs => match args, objs with
  | [.c (.int .i64 _), .c (.int .i64 _), .c (.int .i64 _)], [] => true
  | _, _ => false
noncomputable def spg154 (F : YF154) : Ev.Spec := fun args objs k => match args, objs with
  | [.c (.int .i64 x0), .c (.int .i64 x1), .c (.int .i64 x2)], [] => bif true then F x0 x1 x2 (fun r => match r with | (r0, r1, r2) => k (.agg [.int .i64 r0, .int .i64 r1, .own 0], [.vec 5 (.int .u8) r2 true])) else none
  | _, _ => none
noncomputable def spec154 (fuel : Nat) : Ev.Spec := spg154 (F_ref05_make2 fuel)
theorem ok154 (fuel : Nat) : FnOK Try.prog 154 (spec154 fuel) := by
  intro args objs kk r h
  unfold spec154 spg154 at h
  split at h
  · skip
    obtain ⟨hb, h⟩ := cond_some' h
    simp only [Bool.and_eq_true, Nat.beq_eq, decide_eq_true_eq] at hb
    clear hb
    exact fok154 fuel _ _ kk r ((F154_eq fuel _ _ _ kk).trans h)
  · cases h
end Go.Proofs.Ytihfgpfofmjbaaa

set_option linter.unusedVariables false
set_option linter.unusedSimpArgs false
set_option maxRecDepth 100000
set_option maxHeartbeats 2000000
namespace Go.Proofs.Ytihfgpfofmjbaaa
open Go Ev
def kp81 (i : Nat) : Option (List Nat) := Ev.look i []
noncomputable def Gg81 (f112 : YF112) (f154 : YF154) (f : Nat) : Option Ev.Spec := Ev.look f [(112, spg112 f112), (154, spg154 f154)]
noncomputable def G81 (fuel : Nat) : Nat → Option Ev.Spec := Gg81 (F_ref05_Sides fuel) (F_ref05_make2 fuel)
noncomputable def J81 (fuel : Nat) (i : Nat) : Option Ev.Blk := Ev.look i []
noncomputable def F_ref05_New (fuel : Nat) (x0 : Int) (x1 : Int) (x2 : Int) (k0 : (Int × Int × Int × (List Int)) → Option Ans) : Option Ans :=
  bif Decidable.decide (x0 < (0 : Int)) then
   k0 ((0 : Int), (0 : Int), (2 : Int), [])
  else
   bif Decidable.decide (x1 < (0 : Int)) then
    k0 ((0 : Int), (0 : Int), (2 : Int), [])
   else
    bif Decidable.decide (x2 < (0 : Int)) then
     k0 ((0 : Int), (0 : Int), (2 : Int), [])
    else
     bif Decidable.decide (x2 > (1 : Int)) then
      k0 ((0 : Int), (0 : Int), (2 : Int), [])
     else
      (F_ref05_Sides fuel (x0) (x1)
        (fun y6 =>
          bif !y6 then
           k0 ((0 : Int), (0 : Int), (4 : Int), [])
          else
           (F_ref05_make2 fuel (x0) (x1) (x2)
             (fun (y11_0, y11_1, y11_2) =>
               k0 (y11_0, y11_1, (0 : Int), y11_2)))))
abbrev YF81 : Type := (Int) → (Int) → (Int) → ((Int × Int × Int × (List Int)) → Option Ans) → Option Ans
theorem F81_eqg (fuel : Nat) (f112 : YF112) (f154 : YF154) (x0 : Int) (x1 : Int) (x2 : Int) (k : Ev.Cont) : evalFn tab (Gg81 f112 f154) (J81 fuel) kp81 fuel Try.f81 [.c (.int .i64 x0), .c (.int .i64 x1), .c (.int .i64 x2)] [] k = (fun  (k0 : (Int × Int × Int × (List Int)) → Option Ans) =>
  bif Decidable.decide (x0 < (0 : Int)) then
   k0 ((0 : Int), (0 : Int), (2 : Int), [])
  else
   bif Decidable.decide (x1 < (0 : Int)) then
    k0 ((0 : Int), (0 : Int), (2 : Int), [])
   else
    bif Decidable.decide (x2 < (0 : Int)) then
     k0 ((0 : Int), (0 : Int), (2 : Int), [])
    else
     bif Decidable.decide (x2 > (1 : Int)) then
      k0 ((0 : Int), (0 : Int), (2 : Int), [])
     else
      (f112 (x0) (x1)
        (fun y6 =>
          bif !y6 then
           k0 ((0 : Int), (0 : Int), (4 : Int), [])
          else
           (f154 (x0) (x1) (x2)
             (fun (y11_0, y11_1, y11_2) =>
               k0 (y11_0, y11_1, (0 : Int), y11_2)))))) (fun r => match r with | (r0, r1, r2, r3) => k (.tup [(true, [.int .i64 r0, .int .i64 r1, .own 0]), (false, [.int .i64 r2])], [.vec 5 (.int .u8) r3 true])) := by
  kernel_rfl
theorem F81_eq (fuel : Nat) (x0 : Int) (x1 : Int) (x2 : Int) (k : Ev.Cont) : evalFn tab (G81 fuel) (J81 fuel) kp81 fuel Try.f81 [.c (.int .i64 x0), .c (.int .i64 x1), .c (.int .i64 x2)] [] k = F_ref05_New fuel x0 x1 x2 (fun r => match r with | (r0, r1, r2, r3) => k (.tup [(true, [.int .i64 r0, .int .i64 r1, .own 0]), (false, [.int .i64 r2])], [.vec 5 (.int .u8) r3 true])) :=
  F81_eqg fuel (F_ref05_Sides fuel) (F_ref05_make2 fuel) x0 x1 x2 k
theorem hG81 (fuel : Nat) : GOK Try.prog (G81 fuel) :=
  gok_cons ⟨ok112 fuel, enters_of Try.func112 (by kernel_rfl) rfl⟩ <|
  gok_cons ⟨ok154 fuel, enters_of Try.func154 (by kernel_rfl) rfl⟩ <|
  gok_nil
theorem fok81 (fuel : Nat) : FnOK Try.prog 81 (evalFn tab (G81 fuel) (J81 fuel) kp81 fuel Try.f81) :=
  fn_ok tab_ok (hG81 fuel) mixed Try.func81 (c := (Try.f81.body).getD .skip) rfl (fun q hq => by
    rw [(by kernel_rfl : obl (J81 fuel) ((Try.f81.body).getD .skip) = [])] at hq
    cases hq)
noncomputable def mt81 : List Ev.SV → List Ev.Ob → Bool := fun args objs => match args, objs with
  | [.c (.int .i64 _), .c (.int .i64 _), .c (.int .i64 _)], [] => true
  | _, _ => false
noncomputable def spg81 (F : YF81) : Ev.Spec := fun args objs k => match args, objs with
  | [.c (.int .i64 x0), .c (.int .i64 x1), .c (.int .i64 x2)], [] => bif true then F x0 x1 x2 (fun r => match r with | (r0, r1, r2, r3) => k (.tup [(true, [.int .i64 r0, .int .i64 r1, .own 0]), (false, [.int .i64 r2])], [.vec 5 (.int .u8) r3 true])) else none
  | _, _ => none
noncomputable def spec81 (fuel : Nat) : Ev.Spec := spg81 (F_ref05_New fuel)
theorem ok81 (fuel : Nat) : FnOK Try.prog 81 (spec81 fuel) := by
  intro args objs kk r h
  unfold spec81 spg81 at h
  split at h
  · skip
    obtain ⟨hb, h⟩ := cond_some' h
    simp only [Bool.and_eq_true, Nat.beq_eq, decide_eq_true_eq] at hb
    clear hb
    exact fok81 fuel _ _ kk r ((F81_eq fuel _ _ _ kk).trans h)
  · cases h
end Go.Proofs.Ytihfgpfofmjbaaa

set_option linter.unusedVariables false
set_option linter.unusedSimpArgs false
set_option maxRecDepth 100000
set_option maxHeartbeats 2000000
namespace Go.Proofs.Ytihfgpfofmjbaaa
open Go Ev
def kp155 (i : Nat) : Option (List Nat) := Ev.look i []
noncomputable def Gg155 (f : Nat) : Option Ev.Spec := Ev.look f []
noncomputable def G155 (fuel : Nat) : Nat → Option Ev.Spec := Gg155
noncomputable def J155 (fuel : Nat) (i : Nat) : Option Ev.Blk := Ev.look i []
noncomputable def F_ref11_down (fuel : Nat) (x0 : Int) (k0 : (Int) → Option Ans) : Option Ans :=
  k0 (Ev.ishr Go.IntKind.i64 x0 (8 : Int))
abbrev YF155 : Type := (Int) → ((Int) → Option Ans) → Option Ans
theorem F155_eq (fuel : Nat) (x0 : Int) (k : Ev.Cont) : evalFn tab (G155 fuel) (J155 fuel) kp155 fuel Try.f155 [.c (.int .i64 x0)] [] k = F_ref11_down fuel x0 (fun r => match r with | r0 => k (.c (.int .i64 r0), [])) := by
  kernel_rfl
theorem hG155 (fuel : Nat) : GOK Try.prog (G155 fuel) :=
  gok_nil
theorem fok155 (fuel : Nat) : FnOK Try.prog 155 (evalFn tab (G155 fuel) (J155 fuel) kp155 fuel Try.f155) :=
  fn_ok tab_ok (hG155 fuel) mixed Try.func155 (c := (Try.f155.body).getD .skip) rfl (fun q hq => by
    rw [(by kernel_rfl : obl (J155 fuel) ((Try.f155.body).getD .skip) = [])] at hq
    cases hq)
noncomputable def mt155 : List Ev.SV → List Ev.Ob → Bool := fun args objs => match args, objs with
  | [.c (.int .i64 _)], [] => true
  | _, _ => false
noncomputable def spg155 (F : YF155) : Ev.Spec := fun args objs k => match args, objs with
  | [.c (.int .i64 x0)], [] => bif true then F x0 (fun r => match r with | r0 => k (.c (.int .i64 r0), [])) else none
  | _, _ => none
noncomputable def spec155 (fuel : Nat) : Ev.Spec := spg155 (F_ref11_down fuel)
theorem ok155 (fuel : Nat) : FnOK Try.prog 155 (spec155 fuel) := by
  intro args objs kk r h
  unfold spec155 spg155 at h
  split at h
  · skip
    obtain ⟨hb, h⟩ := cond_some' h
    simp only [Bool.and_eq_true, Nat.beq_eq, decide_eq_true_eq] at hb
    clear hb
    exact fok155 fuel _ _ kk r ((F155_eq fuel _ kk).trans h)
  · cases h
end Go.Proofs.Ytihfgpfofmjbaaa

set_option linter.unusedVariables false
set_option linter.unusedSimpArgs false
set_option maxRecDepth 100000
set_option maxHeartbeats 2000000
namespace Go.Proofs.Ytihfgpfofmjbaaa
open Go Ev
def kp82 (i : Nat) : Option (List Nat) := Ev.look i [(200001, [3])]
noncomputable def Gg82 (f155 : YF155) (f : Nat) : Option Ev.Spec := Ev.look f [(155, spg155 f155)]
noncomputable def G82 (fuel : Nat) : Nat → Option Ev.Spec := Gg82 (F_ref11_down fuel)
noncomputable def J82 (fuel : Nat) (i : Nat) : Option Ev.Blk := Ev.look i []
noncomputable def F_ref11_cell (fuel : Nat) (x0 : Int) (x1 : Int) (x2 : Int) (x3 : Int) (x4 : Int) (x5 : Int) (x6 : Int) (x7 : Int) (x8 : Bool) (x9 : Int) (x10 : Int) (x11 : Int) (k0 : (Int × Int) → Option Ans) : Option Ans :=
  (F_ref11_down fuel (Go.IntKind.i64.wrap (Go.IntKind.i64.wrap (x2 + Go.IntKind.i64.wrap (x10 * x5)) + Go.IntKind.i64.wrap (x11 * x4)))
    (fun y2 =>
      (F_ref11_down fuel (Go.IntKind.i64.wrap (Go.IntKind.i64.wrap (x3 + Go.IntKind.i64.wrap (x10 * x4)) - Go.IntKind.i64.wrap (x11 * x5)))
        (fun y6 =>
          k0 (y2, y6)))))
abbrev YF82 : Type := (Int) → (Int) → (Int) → (Int) → (Int) → (Int) → (Int) → (Int) → (Bool) → (Int) → (Int) → (Int) → ((Int × Int) → Option Ans) → Option Ans
theorem F82_eqg (fuel : Nat) (f155 : YF155) (x0 : Int) (x1 : Int) (x2 : Int) (x3 : Int) (x4 : Int) (x5 : Int) (x6 : Int) (x7 : Int) (x8 : Bool) (x9 : Int) (x10 : Int) (x11 : Int) (k : Ev.Cont) : evalFn tab (Gg82 f155) (J82 fuel) kp82 fuel Try.f82 [.agg [.int .i64 x0, .int .i64 x1, .int .i64 x2, .int .i64 x3, .int .i64 x4, .int .i64 x5, .int .i64 x6, .int .i64 x7, .bool x8, .int .i64 x9], .c (.int .i64 x10), .c (.int .i64 x11)] [] k = (fun  (k0 : (Int × Int) → Option Ans) =>
  (f155 (Go.IntKind.i64.wrap (Go.IntKind.i64.wrap (x2 + Go.IntKind.i64.wrap (x10 * x5)) + Go.IntKind.i64.wrap (x11 * x4)))
    (fun y2 =>
      (f155 (Go.IntKind.i64.wrap (Go.IntKind.i64.wrap (x3 + Go.IntKind.i64.wrap (x10 * x4)) - Go.IntKind.i64.wrap (x11 * x5)))
        (fun y6 =>
          k0 (y2, y6)))))) (fun r => match r with | (r0, r1) => k (.tup [(false, [.int .i64 r0]), (false, [.int .i64 r1])], [])) := by
  kernel_rfl
theorem F82_eq (fuel : Nat) (x0 : Int) (x1 : Int) (x2 : Int) (x3 : Int) (x4 : Int) (x5 : Int) (x6 : Int) (x7 : Int) (x8 : Bool) (x9 : Int) (x10 : Int) (x11 : Int) (k : Ev.Cont) : evalFn tab (G82 fuel) (J82 fuel) kp82 fuel Try.f82 [.agg [.int .i64 x0, .int .i64 x1, .int .i64 x2, .int .i64 x3, .int .i64 x4, .int .i64 x5, .int .i64 x6, .int .i64 x7, .bool x8, .int .i64 x9], .c (.int .i64 x10), .c (.int .i64 x11)] [] k = F_ref11_cell fuel x0 x1 x2 x3 x4 x5 x6 x7 x8 x9 x10 x11 (fun r => match r with | (r0, r1) => k (.tup [(false, [.int .i64 r0]), (false, [.int .i64 r1])], [])) :=
  F82_eqg fuel (F_ref11_down fuel) x0 x1 x2 x3 x4 x5 x6 x7 x8 x9 x10 x11 k
theorem hG82 (fuel : Nat) : GOK Try.prog (G82 fuel) :=
  gok_cons ⟨ok155 fuel, enters_of Try.func155 (by kernel_rfl) rfl⟩ <|
  gok_nil
theorem fok82 (fuel : Nat) : FnOK Try.prog 82 (evalFn tab (G82 fuel) (J82 fuel) kp82 fuel Try.f82) :=
  fn_ok tab_ok (hG82 fuel) mixed Try.func82 (c := (Try.f82.body).getD .skip) rfl (fun q hq => by
    rw [(by kernel_rfl : obl (J82 fuel) ((Try.f82.body).getD .skip) = [])] at hq
    cases hq)
noncomputable def mt82 : List Ev.SV → List Ev.Ob → Bool := fun args objs => match args, objs with
  | [.agg [.int .i64 _, .int .i64 _, .int .i64 _, .int .i64 _, .int .i64 _, .int .i64 _, .int .i64 _, .int .i64 _, .bool _, .int .i64 _], .c (.int .i64 _), .c (.int .i64 _)], [] => true
  | _, _ => false
noncomputable def spg82 (F : YF82) : Ev.Spec := fun args objs k => match args, objs with
  | [.agg [.int .i64 x0, .int .i64 x1, .int .i64 x2, .int .i64 x3, .int .i64 x4, .int .i64 x5, .int .i64 x6, .int .i64 x7, .bool x8, .int .i64 x9], .c (.int .i64 x10), .c (.int .i64 x11)], [] => bif true then F x0 x1 x2 x3 x4 x5 x6 x7 x8 x9 x10 x11 (fun r => match r with | (r0, r1) => k (.tup [(false, [.int .i64 r0]), (false, [.int .i64 r1])], [])) else none
  | _, _ => none
noncomputable def spec82 (fuel : Nat) : Ev.Spec := spg82 (F_ref11_cell fuel)
theorem ok82 (fuel : Nat) : FnOK Try.prog 82 (spec82 fuel) := by
  intro args objs kk r h
  unfold spec82 spg82 at h
  split at h
  · skip
    obtain ⟨hb, h⟩ := cond_some' h
    simp only [Bool.and_eq_true, Nat.beq_eq, decide_eq_true_eq] at hb
    clear hb
    exact fok82 fuel _ _ kk r ((F82_eq fuel _ _ _ _ _ _ _ _ _ _ _ _ kk).trans h)
  · cases h
end Go.Proofs.Ytihfgpfofmjbaaa

set_option linter.unusedVariables false
set_option linter.unusedSimpArgs false
set_option maxRecDepth 100000
set_option maxHeartbeats 2000000
namespace Go.Proofs.Ytihfgpfofmjbaaa
open Go Ev
def kp197 (i : Nat) : Option (List Nat) := Ev.look i []
noncomputable def Gg197 (f : Nat) : Option Ev.Spec := Ev.look f []
noncomputable def G197 (fuel : Nat) : Nat → Option Ev.Spec := Gg197
noncomputable def J197 (fuel : Nat) (i : Nat) : Option Ev.Blk := Ev.look i []
noncomputable def F_ref11_isPlace (fuel : Nat) (x0 : Int) (k0 : (Bool) → Option Ans) : Option Ans :=
  bif Decidable.decide (x0 ≥ (-1048576 : Int)) then
   k0 (Decidable.decide (x0 ≤ (1048576 : Int)))
  else
   k0 Bool.false
abbrev YF197 : Type := (Int) → ((Bool) → Option Ans) → Option Ans
theorem F197_eq (fuel : Nat) (x0 : Int) (k : Ev.Cont) : evalFn tab (G197 fuel) (J197 fuel) kp197 fuel Try.f197 [.c (.int .i64 x0)] [] k = F_ref11_isPlace fuel x0 (fun r => match r with | r0 => k (.c (.bool r0), [])) := by
  kernel_rfl
theorem hG197 (fuel : Nat) : GOK Try.prog (G197 fuel) :=
  gok_nil
theorem fok197 (fuel : Nat) : FnOK Try.prog 197 (evalFn tab (G197 fuel) (J197 fuel) kp197 fuel Try.f197) :=
  fn_ok tab_ok (hG197 fuel) mixed Try.func197 (c := (Try.f197.body).getD .skip) rfl (fun q hq => by
    rw [(by kernel_rfl : obl (J197 fuel) ((Try.f197.body).getD .skip) = [])] at hq
    cases hq)
noncomputable def mt197 : List Ev.SV → List Ev.Ob → Bool := fun args objs => match args, objs with
  | [.c (.int .i64 _)], [] => true
  | _, _ => false
noncomputable def spg197 (F : YF197) : Ev.Spec := fun args objs k => match args, objs with
  | [.c (.int .i64 x0)], [] => bif true then F x0 (fun r => match r with | r0 => k (.c (.bool r0), [])) else none
  | _, _ => none
noncomputable def spec197 (fuel : Nat) : Ev.Spec := spg197 (F_ref11_isPlace fuel)
theorem ok197 (fuel : Nat) : FnOK Try.prog 197 (spec197 fuel) := by
  intro args objs kk r h
  unfold spec197 spg197 at h
  split at h
  · skip
    obtain ⟨hb, h⟩ := cond_some' h
    simp only [Bool.and_eq_true, Nat.beq_eq, decide_eq_true_eq] at hb
    clear hb
    exact fok197 fuel _ _ kk r ((F197_eq fuel _ kk).trans h)
  · cases h
end Go.Proofs.Ytihfgpfofmjbaaa

set_option linter.unusedVariables false
set_option linter.unusedSimpArgs false
set_option maxRecDepth 100000
set_option maxHeartbeats 2000000
namespace Go.Proofs.Ytihfgpfofmjbaaa
open Go Ev
def kp146 (i : Nat) : Option (List Nat) := Ev.look i []
noncomputable def Gg146 (f197 : YF197) (f : Nat) : Option Ev.Spec := Ev.look f [(197, spg197 f197)]
noncomputable def G146 (fuel : Nat) : Nat → Option Ev.Spec := Gg146 (F_ref11_isPlace fuel)
noncomputable def J146 (fuel : Nat) (i : Nat) : Option Ev.Blk := Ev.look i []
noncomputable def F_ref11_Valid (fuel : Nat) (x0 : Int) (x1 : Int) (x2 : Int) (x3 : Int) (x4 : Int) (x5 : Int) (x6 : Int) (x7 : Int) (x8 : Bool) (x9 : Int) (k0 : (Bool) → Option Ans) : Option Ans :=
  bif Decidable.decide (x0 < (0 : Int)) then
   k0 Bool.false
  else
   bif Decidable.decide (x1 < (0 : Int)) then
    k0 Bool.false
   else
    bif Decidable.decide (x0 > (64 : Int)) then
     k0 Bool.false
    else
     bif Decidable.decide (x1 > (64 : Int)) then
      k0 Bool.false
     else
      bif Decidable.decide (Go.IntKind.i64.wrap (x0 * x1) > (8192 : Int)) then
       k0 Bool.false
      else
       (F_ref11_isPlace fuel (x2)
         (fun y7 =>
           bif !y7 then
            k0 Bool.false
           else
            (F_ref11_isPlace fuel (x3)
              (fun y12 =>
                bif !y12 then
                 k0 Bool.false
                else
                 (F_ref11_isPlace fuel (x4)
                   (fun y17 =>
                     bif !y17 then
                      k0 Bool.false
                     else
                      (F_ref11_isPlace fuel (x5)
                        (fun y22 =>
                          bif !y22 then
                           k0 Bool.false
                          else
                           bif Decidable.decide (x6 ≥ (0 : Int)) then
                            bif Decidable.decide (x6 ≤ (3 : Int)) then
                             bif Decidable.decide (x7 ≥ (0 : Int)) then
                              bif Decidable.decide (x7 ≤ (1 : Int)) then
                               bif Decidable.decide (x9 ≥ (0 : Int)) then
                                k0 (Decidable.decide (x9 ≤ (4 : Int)))
                               else
                                k0 Bool.false
                              else
                               k0 Bool.false
                             else
                              k0 Bool.false
                            else
                             k0 Bool.false
                           else
                            k0 Bool.false))))))))
abbrev YF146 : Type := (Int) → (Int) → (Int) → (Int) → (Int) → (Int) → (Int) → (Int) → (Bool) → (Int) → ((Bool) → Option Ans) → Option Ans
theorem F146_eqg (fuel : Nat) (f197 : YF197) (x0 : Int) (x1 : Int) (x2 : Int) (x3 : Int) (x4 : Int) (x5 : Int) (x6 : Int) (x7 : Int) (x8 : Bool) (x9 : Int) (k : Ev.Cont) : evalFn tab (Gg146 f197) (J146 fuel) kp146 fuel Try.f146 [.agg [.int .i64 x0, .int .i64 x1, .int .i64 x2, .int .i64 x3, .int .i64 x4, .int .i64 x5, .int .i64 x6, .int .i64 x7, .bool x8, .int .i64 x9]] [] k = (fun  (k0 : (Bool) → Option Ans) =>
  bif Decidable.decide (x0 < (0 : Int)) then
   k0 Bool.false
  else
   bif Decidable.decide (x1 < (0 : Int)) then
    k0 Bool.false
   else
    bif Decidable.decide (x0 > (64 : Int)) then
     k0 Bool.false
    else
     bif Decidable.decide (x1 > (64 : Int)) then
      k0 Bool.false
     else
      bif Decidable.decide (Go.IntKind.i64.wrap (x0 * x1) > (8192 : Int)) then
       k0 Bool.false
      else
       (f197 (x2)
         (fun y7 =>
           bif !y7 then
            k0 Bool.false
           else
            (f197 (x3)
              (fun y12 =>
                bif !y12 then
                 k0 Bool.false
                else
                 (f197 (x4)
                   (fun y17 =>
                     bif !y17 then
                      k0 Bool.false
                     else
                      (f197 (x5)
                        (fun y22 =>
                          bif !y22 then
                           k0 Bool.false
                          else
                           bif Decidable.decide (x6 ≥ (0 : Int)) then
                            bif Decidable.decide (x6 ≤ (3 : Int)) then
                             bif Decidable.decide (x7 ≥ (0 : Int)) then
                              bif Decidable.decide (x7 ≤ (1 : Int)) then
                               bif Decidable.decide (x9 ≥ (0 : Int)) then
                                k0 (Decidable.decide (x9 ≤ (4 : Int)))
                               else
                                k0 Bool.false
                              else
                               k0 Bool.false
                             else
                              k0 Bool.false
                            else
                             k0 Bool.false
                           else
                            k0 Bool.false))))))))) (fun r => match r with | r0 => k (.c (.bool r0), [])) := by
  kernel_rfl
theorem F146_eq (fuel : Nat) (x0 : Int) (x1 : Int) (x2 : Int) (x3 : Int) (x4 : Int) (x5 : Int) (x6 : Int) (x7 : Int) (x8 : Bool) (x9 : Int) (k : Ev.Cont) : evalFn tab (G146 fuel) (J146 fuel) kp146 fuel Try.f146 [.agg [.int .i64 x0, .int .i64 x1, .int .i64 x2, .int .i64 x3, .int .i64 x4, .int .i64 x5, .int .i64 x6, .int .i64 x7, .bool x8, .int .i64 x9]] [] k = F_ref11_Valid fuel x0 x1 x2 x3 x4 x5 x6 x7 x8 x9 (fun r => match r with | r0 => k (.c (.bool r0), [])) :=
  F146_eqg fuel (F_ref11_isPlace fuel) x0 x1 x2 x3 x4 x5 x6 x7 x8 x9 k
theorem hG146 (fuel : Nat) : GOK Try.prog (G146 fuel) :=
  gok_cons ⟨ok197 fuel, enters_of Try.func197 (by kernel_rfl) rfl⟩ <|
  gok_nil
theorem fok146 (fuel : Nat) : FnOK Try.prog 146 (evalFn tab (G146 fuel) (J146 fuel) kp146 fuel Try.f146) :=
  fn_ok tab_ok (hG146 fuel) mixed Try.func146 (c := (Try.f146.body).getD .skip) rfl (fun q hq => by
    rw [(by kernel_rfl : obl (J146 fuel) ((Try.f146.body).getD .skip) = [])] at hq
    cases hq)
noncomputable def mt146 : List Ev.SV → List Ev.Ob → Bool := fun args objs => match args, objs with
  | [.agg [.int .i64 _, .int .i64 _, .int .i64 _, .int .i64 _, .int .i64 _, .int .i64 _, .int .i64 _, .int .i64 _, .bool _, .int .i64 _]], [] => true
  | _, _ => false
noncomputable def spg146 (F : YF146) : Ev.Spec := fun args objs k => match args, objs with
  | [.agg [.int .i64 x0, .int .i64 x1, .int .i64 x2, .int .i64 x3, .int .i64 x4, .int .i64 x5, .int .i64 x6, .int .i64 x7, .bool x8, .int .i64 x9]], [] => bif true then F x0 x1 x2 x3 x4 x5 x6 x7 x8 x9 (fun r => match r with | r0 => k (.c (.bool r0), [])) else none
  | _, _ => none
noncomputable def spec146 (fuel : Nat) : Ev.Spec := spg146 (F_ref11_Valid fuel)
theorem ok146 (fuel : Nat) : FnOK Try.prog 146 (spec146 fuel) := by
  intro args objs kk r h
  unfold spec146 spg146 at h
  split at h
  · skip
    obtain ⟨hb, h⟩ := cond_some' h
    simp only [Bool.and_eq_true, Nat.beq_eq, decide_eq_true_eq] at hb
    clear hb
    exact fok146 fuel _ _ kk r ((F146_eq fuel _ _ _ _ _ _ _ _ _ _ kk).trans h)
  · cases h
end Go.Proofs.Ytihfgpfofmjbaaa

set_option linter.unusedVariables false
set_option linter.unusedSimpArgs false
set_option maxRecDepth 100000
set_option maxHeartbeats 2000000
namespace Go.Proofs.Ytihfgpfofmjbaaa
open Go Ev
def kp86 (i : Nat) : Option (List Nat) := Ev.look i [(4, [1, 3]), (100000, []), (400000, [2])]
noncomputable def Gg86 (f112 : YF112) (f : Nat) : Option Ev.Spec := Ev.look f [(112, spg112 f112)]
noncomputable def G86 (fuel : Nat) : Nat → Option Ev.Spec := Gg86 (F_ref05_Sides fuel)
noncomputable def S_ref05_Valid_0 (fuel : Nat) (v : Int × Int × Int × (List Int)) (c : (Int × Int × Int × (List Int)) → Option Ans) (B : (Bool → Option Ans) × (Unit → Option Ans)) : Option Ans := match v, B with
  | (x0, x1, x2, x3), (ret, b) =>
   bif Decidable.decide (x0 < (↑x3.length : Int)) then
      bif Decidable.decide ((0 : Int) ≤ x0 ∧ x0 < (↑x3.length : Int)) then
      bif Decidable.decide (x3.getD x0.toNat (0 : Int) > (1 : Int)) then
        ret Bool.false
       else
        c (Go.IntKind.i64.wrap (x0 + (1 : Int)), x1, x2, x3)
      else none
     else
      b ()
noncomputable def L_ref05_Valid_0 (fuel : Nat) (v : Int × Int × Int × (List Int)) (ret : (Bool → Option Ans)) (b : (Unit → Option Ans)) : Option Ans := iter (S_ref05_Valid_0 fuel) fuel v (ret, b)
noncomputable def J86_0 (fuel : Nat) (i : Nat) : Option Ev.Blk := Ev.look i []
noncomputable def T86_0 (v : Int × Int × Int × (List Int)) : Ev.St := match v with | (x0, x1, x2, x3) => ⟨[(1, .c (.ptr 0 0)), (3, .c (.int .i64 x0))], [(0, .cells 39 [.int .i64 x1, .int .i64 x2, .sl (.int .u8) x3])], 1, 0⟩
noncomputable def E86_0 (K : Ev.Ex → Ev.St → Option Ans) : (Bool → Option Ans) × (Unit → Option Ans) := ((fun v => match v with | x0 => K .ret ⟨[(2, .c (.bool x0))], [], 0, 0⟩), (fun v => match v with | () => K .normal ⟨[], [], 0, 0⟩))
theorem S86_0_okg (fuel : Nat) (f112 : YF112) (R : Ev.St → Option Ans) (K : Ev.Ex → Ev.St → Option Ans) (x0 : Int) (x1 : Int) (x2 : Int) (x3 : (List Int)) : evalCode tab (Gg86 f112) (J86_0 fuel) kp86 fuel (bodyOf 0 Try.f86) (T86_0 (x0, x1, x2, x3)) (lc kp86 4 0 R K) = (fun (c : (Int × Int × Int × (List Int)) → Option Ans) (B : (Bool → Option Ans) × (Unit → Option Ans)) => match B with
  | (ret, b) =>
   bif Decidable.decide (x0 < (↑x3.length : Int)) then
      bif Decidable.decide ((0 : Int) ≤ x0 ∧ x0 < (↑x3.length : Int)) then
      bif Decidable.decide (x3.getD x0.toNat (0 : Int) > (1 : Int)) then
        ret Bool.false
       else
        c (Go.IntKind.i64.wrap (x0 + (1 : Int)), x1, x2, x3)
      else none
     else
      b ()) (fun v => R (T86_0 v)) (E86_0 K) := by
  kernel_rfl
theorem S86_0_ok (fuel : Nat) (R : Ev.St → Option Ans) (K : Ev.Ex → Ev.St → Option Ans) (x0 : Int) (x1 : Int) (x2 : Int) (x3 : (List Int)) : evalCode tab (G86 fuel) (J86_0 fuel) kp86 fuel (bodyOf 0 Try.f86) (T86_0 (x0, x1, x2, x3)) (lc kp86 4 0 R K) = S_ref05_Valid_0 fuel (x0, x1, x2, x3) (fun v => R (T86_0 v)) (E86_0 K) :=
  S86_0_okg fuel (F_ref05_Sides fuel) R K x0 x1 x2 x3
noncomputable def B86_0 (fuel : Nat) : Ev.Blk := fun st K => match canonO (kp86 4) st with
  | some s => (match s with
    | ⟨[(q0, .c (.ptr q1 q2)), (q3, .c (.int .i64 x0))], [(q4, .cells q5 [.int .i64 x1, .int .i64 x2, .sl (.int .u8) x3])], q6, q7⟩ => bif Nat.beq q0 1 && Nat.beq q1 0 && Nat.beq q2 0 && Nat.beq q3 3 && Nat.beq q4 0 && Nat.beq q5 39 && Nat.beq q6 1 && Nat.beq q7 0 then iter (S_ref05_Valid_0 fuel) fuel (x0, x1, x2, x3) (E86_0 K) else none
    | _ => none)
  | none => none
theorem B86_0_ok (fuel : Nat) (st : Ev.St) (K : Ev.Ex → Ev.St → Option Ans) (r : Ans) (h : B86_0 fuel st K = some r) : evalCode tab (G86 fuel) (J86_0 fuel) kp86 fuel (.block 0 (.loop (bodyOf 0 Try.f86))) st K = some r := by
  unfold B86_0 at h
  split at h
  · rename_i s hs
    split at h
    · skip
      obtain ⟨hb, h⟩ := cond_some' h
      simp only [Bool.and_eq_true, Nat.beq_eq, decide_eq_true_eq] at hb
      obtain ⟨⟨⟨⟨⟨⟨⟨rfl, rfl⟩, rfl⟩, rfl⟩, rfl⟩, rfl⟩, rfl⟩, rfl⟩ := hb
      exact blk_loop (S := T86_0) (ks := E86_0) (step := S_ref05_Valid_0 fuel) (v := (_, _, _, _)) (by kernel_rfl) (by kernel_rfl) (fun R K v => by obtain ⟨x0, x1, x2, x3⟩ := v; exact S86_0_ok fuel R K x0 x1 x2 x3) hs h
    · cases h
  · cases h
noncomputable def J86 (fuel : Nat) (i : Nat) : Option Ev.Blk := Ev.look i [(100000, B86_0 fuel)]
noncomputable def F_ref05_Valid (fuel : Nat) (x0 : Int) (x1 : Int) (x2 : (List Int)) (k0 : (Bool) → Option Ans) : Option Ans :=
  (F_ref05_Sides fuel (x0) (x1)
    (fun y2 =>
      bif !y2 then
       k0 Bool.false
      else
       bif (↑x2.length : Int) != Go.IntKind.i64.wrap (x0 * x1) then
        k0 Bool.false
       else
        (L_ref05_Valid_0 fuel ((0 : Int), x0, x1, x2)
          (fun ret0_0 =>
            k0 ret0_0)
          (fun () =>
            k0 Bool.true))))
abbrev YF86 : Type := (Int) → (Int) → ((List Int)) → ((Bool) → Option Ans) → Option Ans
theorem F86_eqg (fuel : Nat) (f112 : YF112) (x0 : Int) (x1 : Int) (x2 : (List Int)) (k : Ev.Cont) : evalFn tab (Gg86 f112) (J86 fuel) kp86 fuel Try.f86 [.agg [.int .i64 x0, .int .i64 x1, .sl (.int .u8) x2]] [] k = (fun  (k0 : (Bool) → Option Ans) =>
  (f112 (x0) (x1)
    (fun y2 =>
      bif !y2 then
       k0 Bool.false
      else
       bif (↑x2.length : Int) != Go.IntKind.i64.wrap (x0 * x1) then
        k0 Bool.false
       else
        (L_ref05_Valid_0 fuel ((0 : Int), x0, x1, x2)
          (fun ret0_0 =>
            k0 ret0_0)
          (fun () =>
            k0 Bool.true))))) (fun r => match r with | r0 => k (.c (.bool r0), [])) := by
  kernel_rfl
theorem F86_eq (fuel : Nat) (x0 : Int) (x1 : Int) (x2 : (List Int)) (k : Ev.Cont) : evalFn tab (G86 fuel) (J86 fuel) kp86 fuel Try.f86 [.agg [.int .i64 x0, .int .i64 x1, .sl (.int .u8) x2]] [] k = F_ref05_Valid fuel x0 x1 x2 (fun r => match r with | r0 => k (.c (.bool r0), [])) :=
  F86_eqg fuel (F_ref05_Sides fuel) x0 x1 x2 k
theorem hG86 (fuel : Nat) : GOK Try.prog (G86 fuel) :=
  gok_cons ⟨ok112 fuel, enters_of Try.func112 (by kernel_rfl) rfl⟩ <|
  gok_nil
theorem B86_0_blk (fuel : Nat) : BlkOK Try.prog Try.f86.ntmps (.block 0 (.loop (bodyOf 0 Try.f86))) (B86_0 fuel) :=
  blk_of (blk_of_code tab_ok (hG86 fuel) mixed (J := J86_0 fuel) (kp := kp86) (fuel := fuel) (by kernel_rfl) (fun q hq => by
    rw [(by kernel_rfl : obl (J86_0 fuel) (.block 0 (.loop (bodyOf 0 Try.f86))) = [])] at hq
    cases hq)) (B86_0_ok fuel)
theorem fok86 (fuel : Nat) : FnOK Try.prog 86 (evalFn tab (G86 fuel) (J86 fuel) kp86 fuel Try.f86) :=
  fn_ok tab_ok (hG86 fuel) mixed Try.func86 (c := (Try.f86.body).getD .skip) rfl (fun q hq => by
    rw [(by kernel_rfl : obl (J86 fuel) ((Try.f86.body).getD .skip) = [(.block 0 (.loop (bodyOf 0 Try.f86)), B86_0 fuel)])] at hq
    simp only [List.mem_cons, List.not_mem_nil, or_false] at hq
    subst hq
    · exact B86_0_blk fuel)
noncomputable def mt86 : List Ev.SV → List Ev.Ob → Bool := fun args objs => match args, objs with
  | [.agg [.int .i64 _, .int .i64 _, .sl (.int .u8) _]], [] => true
  | _, _ => false
noncomputable def spg86 (F : YF86) : Ev.Spec := fun args objs k => match args, objs with
  | [.agg [.int .i64 x0, .int .i64 x1, .sl (.int .u8) x2]], [] => bif true then F x0 x1 x2 (fun r => match r with | r0 => k (.c (.bool r0), [])) else none
  | _, _ => none
noncomputable def spec86 (fuel : Nat) : Ev.Spec := spg86 (F_ref05_Valid fuel)
theorem ok86 (fuel : Nat) : FnOK Try.prog 86 (spec86 fuel) := by
  intro args objs kk r h
  unfold spec86 spg86 at h
  split at h
  · skip
    obtain ⟨hb, h⟩ := cond_some' h
    simp only [Bool.and_eq_true, Nat.beq_eq, decide_eq_true_eq] at hb
    clear hb
    exact fok86 fuel _ _ kk r ((F86_eq fuel _ _ _ kk).trans h)
  · cases h
end Go.Proofs.Ytihfgpfofmjbaaa

set_option linter.unusedVariables false
set_option linter.unusedSimpArgs false
set_option maxRecDepth 100000
set_option maxHeartbeats 2000000
namespace Go.Proofs.Ytihfgpfofmjbaaa
open Go Ev
def kp147 (i : Nat) : Option (List Nat) := Ev.look i [(2, [0, 3]), (100000, []), (200004, [0]), (400000, [2])]
noncomputable def Gg147 (f86 : YF86) (f : Nat) : Option Ev.Spec := Ev.look f [(86, spg86 f86)]
noncomputable def G147 (fuel : Nat) : Nat → Option Ev.Spec := Gg147 (F_ref05_Valid fuel)
noncomputable def S_ref11_bitmaps_0 (fuel : Nat) (v : (List (Int × (Int × (List Int)))) × Int) (c : ((List (Int × (Int × (List Int)))) × Int) → Option Ans) (B : (Int → Option Ans) × (Unit → Option Ans)) : Option Ans := match v, B with
  | (x0, x1), (ret, b) =>
   bif Decidable.decide (x1 < (↑x0.length : Int)) then
      bif Decidable.decide ((0 : Int) ≤ x1 ∧ x1 < (↑x0.length : Int)) then
      (F_ref05_Valid fuel ((x0.getD x1.toNat ((0 : Int), (0 : Int), [])).fst) ((x0.getD x1.toNat ((0 : Int), (0 : Int), [])).snd.fst) ((x0.getD x1.toNat ((0 : Int), (0 : Int), [])).snd.snd)
         (fun y4 =>
           bif !y4 then
            ret ((30 : Int))
           else
            bif Decidable.decide ((0 : Int) ≤ x1 ∧ x1 < (↑x0.length : Int)) then
            bif Decidable.decide ((0 : Int) ≤ (0 : Int) ∧ (0 : Int) < (↑x0.length : Int)) then
             bif (x0.getD x1.toNat ((0 : Int), (0 : Int), [])).fst != (x0.getD (Int.toNat (0 : Int)) ((0 : Int), (0 : Int), [])).fst then
               ret ((30 : Int))
              else
               bif Decidable.decide ((0 : Int) ≤ x1 ∧ x1 < (↑x0.length : Int)) then
               bif Decidable.decide ((0 : Int) ≤ (0 : Int) ∧ (0 : Int) < (↑x0.length : Int)) then
                bif (x0.getD x1.toNat ((0 : Int), (0 : Int), [])).snd.fst != (x0.getD (Int.toNat (0 : Int)) ((0 : Int), (0 : Int), [])).snd.fst then
                  ret ((30 : Int))
                 else
                  c (x0, Go.IntKind.i64.wrap (x1 + (1 : Int)))
                else none
               else none
             else none
            else none))
      else none
     else
      b ()
noncomputable def L_ref11_bitmaps_0 (fuel : Nat) (v : (List (Int × (Int × (List Int)))) × Int) (ret : (Int → Option Ans)) (b : (Unit → Option Ans)) : Option Ans := iter (S_ref11_bitmaps_0 fuel) fuel v (ret, b)
noncomputable def J147_0 (fuel : Nat) (i : Nat) : Option Ev.Blk := Ev.look i []
noncomputable def T147_0 (v : (List (Int × (Int × (List Int)))) × Int) : Ev.St := match v with | (x0, x1) => ⟨[(0, .c (.sl (.pair (.int .i64) (.pair (.int .i64) (.sl (.int .u8)))) x0)), (3, .c (.int .i64 x1))], [], 0, 0⟩
noncomputable def E147_0 (K : Ev.Ex → Ev.St → Option Ans) : (Int → Option Ans) × (Unit → Option Ans) := ((fun v => match v with | x0 => K .ret ⟨[(2, .c (.int .i64 x0))], [], 0, 0⟩), (fun v => match v with | () => K .normal ⟨[], [], 0, 0⟩))
theorem S147_0_okg (fuel : Nat) (f86 : YF86) (R : Ev.St → Option Ans) (K : Ev.Ex → Ev.St → Option Ans) (x0 : (List (Int × (Int × (List Int))))) (x1 : Int) : evalCode tab (Gg147 f86) (J147_0 fuel) kp147 fuel (bodyOf 0 Try.f147) (T147_0 (x0, x1)) (lc kp147 2 0 R K) = (fun (c : ((List (Int × (Int × (List Int)))) × Int) → Option Ans) (B : (Int → Option Ans) × (Unit → Option Ans)) => match B with
  | (ret, b) =>
   bif Decidable.decide (x1 < (↑x0.length : Int)) then
      bif Decidable.decide ((0 : Int) ≤ x1 ∧ x1 < (↑x0.length : Int)) then
      (f86 ((x0.getD x1.toNat ((0 : Int), (0 : Int), [])).fst) ((x0.getD x1.toNat ((0 : Int), (0 : Int), [])).snd.fst) ((x0.getD x1.toNat ((0 : Int), (0 : Int), [])).snd.snd)
         (fun y4 =>
           bif !y4 then
            ret ((30 : Int))
           else
            bif Decidable.decide ((0 : Int) ≤ x1 ∧ x1 < (↑x0.length : Int)) then
            bif Decidable.decide ((0 : Int) ≤ (0 : Int) ∧ (0 : Int) < (↑x0.length : Int)) then
             bif (x0.getD x1.toNat ((0 : Int), (0 : Int), [])).fst != (x0.getD (Int.toNat (0 : Int)) ((0 : Int), (0 : Int), [])).fst then
               ret ((30 : Int))
              else
               bif Decidable.decide ((0 : Int) ≤ x1 ∧ x1 < (↑x0.length : Int)) then
               bif Decidable.decide ((0 : Int) ≤ (0 : Int) ∧ (0 : Int) < (↑x0.length : Int)) then
                bif (x0.getD x1.toNat ((0 : Int), (0 : Int), [])).snd.fst != (x0.getD (Int.toNat (0 : Int)) ((0 : Int), (0 : Int), [])).snd.fst then
                  ret ((30 : Int))
                 else
                  c (x0, Go.IntKind.i64.wrap (x1 + (1 : Int)))
                else none
               else none
             else none
            else none))
      else none
     else
      b ()) (fun v => R (T147_0 v)) (E147_0 K) := by
  kernel_rfl
theorem S147_0_ok (fuel : Nat) (R : Ev.St → Option Ans) (K : Ev.Ex → Ev.St → Option Ans) (x0 : (List (Int × (Int × (List Int))))) (x1 : Int) : evalCode tab (G147 fuel) (J147_0 fuel) kp147 fuel (bodyOf 0 Try.f147) (T147_0 (x0, x1)) (lc kp147 2 0 R K) = S_ref11_bitmaps_0 fuel (x0, x1) (fun v => R (T147_0 v)) (E147_0 K) :=
  S147_0_okg fuel (F_ref05_Valid fuel) R K x0 x1
noncomputable def B147_0 (fuel : Nat) : Ev.Blk := fun st K => match canonO (kp147 2) st with
  | some s => (match s with
    | ⟨[(q0, .c (.sl (.pair (.int .i64) (.pair (.int .i64) (.sl (.int .u8)))) x0)), (q1, .c (.int .i64 x1))], [], q2, q3⟩ => bif Nat.beq q0 0 && Nat.beq q1 3 && Nat.beq q2 0 && Nat.beq q3 0 then iter (S_ref11_bitmaps_0 fuel) fuel (x0, x1) (E147_0 K) else none
    | _ => none)
  | none => none
theorem B147_0_ok (fuel : Nat) (st : Ev.St) (K : Ev.Ex → Ev.St → Option Ans) (r : Ans) (h : B147_0 fuel st K = some r) : evalCode tab (G147 fuel) (J147_0 fuel) kp147 fuel (.block 0 (.loop (bodyOf 0 Try.f147))) st K = some r := by
  unfold B147_0 at h
  split at h
  · rename_i s hs
    split at h
    · skip
      obtain ⟨hb, h⟩ := cond_some' h
      simp only [Bool.and_eq_true, Nat.beq_eq, decide_eq_true_eq] at hb
      obtain ⟨⟨⟨rfl, rfl⟩, rfl⟩, rfl⟩ := hb
      exact blk_loop (S := T147_0) (ks := E147_0) (step := S_ref11_bitmaps_0 fuel) (v := (_, _)) (by kernel_rfl) (by kernel_rfl) (fun R K v => by obtain ⟨x0, x1⟩ := v; exact S147_0_ok fuel R K x0 x1) hs h
    · cases h
  · cases h
noncomputable def J147 (fuel : Nat) (i : Nat) : Option Ev.Blk := Ev.look i [(100000, B147_0 fuel)]
noncomputable def F_ref11_bitmaps (fuel : Nat) (x0 : (List (Int × Int × (List Int)))) (k0 : (Int) → Option Ans) : Option Ans :=
  (L_ref11_bitmaps_0 fuel (x0, (0 : Int))
    (fun ret0_0 =>
      k0 ret0_0)
    (fun () =>
      k0 ((0 : Int))))
abbrev YF147 : Type := ((List (Int × Int × (List Int)))) → ((Int) → Option Ans) → Option Ans
theorem F147_eqg (fuel : Nat) (f86 : YF86) (x0 : (List (Int × Int × (List Int)))) (k : Ev.Cont) : evalFn tab (Gg147 f86) (J147 fuel) kp147 fuel Try.f147 [.c (.sl (.pair (.int .i64) (.pair (.int .i64) (.sl (.int .u8)))) x0)] [] k = (fun  (k0 : (Int) → Option Ans) =>
  (L_ref11_bitmaps_0 fuel (x0, (0 : Int))
    (fun ret0_0 =>
      k0 ret0_0)
    (fun () =>
      k0 ((0 : Int))))) (fun r => match r with | r0 => k (.c (.int .i64 r0), [])) := by
  kernel_rfl
theorem F147_eq (fuel : Nat) (x0 : (List (Int × Int × (List Int)))) (k : Ev.Cont) : evalFn tab (G147 fuel) (J147 fuel) kp147 fuel Try.f147 [.c (.sl (.pair (.int .i64) (.pair (.int .i64) (.sl (.int .u8)))) x0)] [] k = F_ref11_bitmaps fuel x0 (fun r => match r with | r0 => k (.c (.int .i64 r0), [])) :=
  F147_eqg fuel (F_ref05_Valid fuel) x0 k
theorem hG147 (fuel : Nat) : GOK Try.prog (G147 fuel) :=
  gok_cons ⟨ok86 fuel, enters_of Try.func86 (by kernel_rfl) rfl⟩ <|
  gok_nil
theorem B147_0_blk (fuel : Nat) : BlkOK Try.prog Try.f147.ntmps (.block 0 (.loop (bodyOf 0 Try.f147))) (B147_0 fuel) :=
  blk_of (blk_of_code tab_ok (hG147 fuel) mixed (J := J147_0 fuel) (kp := kp147) (fuel := fuel) (by kernel_rfl) (fun q hq => by
    rw [(by kernel_rfl : obl (J147_0 fuel) (.block 0 (.loop (bodyOf 0 Try.f147))) = [])] at hq
    cases hq)) (B147_0_ok fuel)
theorem fok147 (fuel : Nat) : FnOK Try.prog 147 (evalFn tab (G147 fuel) (J147 fuel) kp147 fuel Try.f147) :=
  fn_ok tab_ok (hG147 fuel) mixed Try.func147 (c := (Try.f147.body).getD .skip) rfl (fun q hq => by
    rw [(by kernel_rfl : obl (J147 fuel) ((Try.f147.body).getD .skip) = [(.block 0 (.loop (bodyOf 0 Try.f147)), B147_0 fuel)])] at hq
    simp only [List.mem_cons, List.not_mem_nil, or_false] at hq
    subst hq
    · exact B147_0_blk fuel)
noncomputable def mt147 : List Ev.SV → List Ev.Ob → Bool := fun args objs => match args, objs with
  | [.c (.sl (.pair (.int .i64) (.pair (.int .i64) (.sl (.int .u8)))) _)], [] => true
  | _, _ => false
noncomputable def spg147 (F : YF147) : Ev.Spec := fun args objs k => match args, objs with
  | [.c (.sl (.pair (.int .i64) (.pair (.int .i64) (.sl (.int .u8)))) x0)], [] => bif true then F x0 (fun r => match r with | r0 => k (.c (.int .i64 r0), [])) else none
  | _, _ => none
noncomputable def spec147 (fuel : Nat) : Ev.Spec := spg147 (F_ref11_bitmaps fuel)
theorem ok147 (fuel : Nat) : FnOK Try.prog 147 (spec147 fuel) := by
  intro args objs kk r h
  unfold spec147 spg147 at h
  split at h
  · skip
    obtain ⟨hb, h⟩ := cond_some' h
    simp only [Bool.and_eq_true, Nat.beq_eq, decide_eq_true_eq] at hb
    clear hb
    exact fok147 fuel _ _ kk r ((F147_eq fuel _ kk).trans h)
  · cases h
end Go.Proofs.Ytihfgpfofmjbaaa

set_option linter.unusedVariables false
set_option linter.unusedSimpArgs false
set_option maxRecDepth 100000
set_option maxHeartbeats 2000000
namespace Go.Proofs.Ytihfgpfofmjbaaa
open Go Ev
def kp110 (i : Nat) : Option (List Nat) := Ev.look i []
noncomputable def Gg110 (f112 : YF112) (f : Nat) : Option Ev.Spec := Ev.look f [(112, spg112 f112)]
noncomputable def G110 (fuel : Nat) : Nat → Option Ev.Spec := Gg110 (F_ref05_Sides fuel)
noncomputable def J110 (fuel : Nat) (i : Nat) : Option Ev.Blk := Ev.look i []
noncomputable def F_ref11_isSides (fuel : Nat) (x0 : Int) (x1 : Int) (x2 : Int) (k0 : (Bool) → Option Ans) : Option Ans :=
  bif Decidable.decide (x0 ≥ (1 : Int)) then
   bif Decidable.decide (x0 ≤ (64 : Int)) then
    bif Decidable.decide (x1 ≥ (1 : Int)) then
     bif Decidable.decide (x2 ≥ (1 : Int)) then
      bif Decidable.decide (x1 ≤ (16 : Int)) then
       bif Decidable.decide (x2 ≤ (16 : Int)) then
        (F_ref05_Sides fuel (Go.IntKind.i64.wrap (x0 * x1)) (x2)
          (fun y8 =>
            k0 y8))
       else
        k0 Bool.false
      else
       k0 Bool.false
     else
      k0 Bool.false
    else
     k0 Bool.false
   else
    k0 Bool.false
  else
   k0 Bool.false
abbrev YF110 : Type := (Int) → (Int) → (Int) → ((Bool) → Option Ans) → Option Ans
theorem F110_eqg (fuel : Nat) (f112 : YF112) (x0 : Int) (x1 : Int) (x2 : Int) (k : Ev.Cont) : evalFn tab (Gg110 f112) (J110 fuel) kp110 fuel Try.f110 [.c (.int .i64 x0), .c (.int .i64 x1), .c (.int .i64 x2)] [] k = (fun  (k0 : (Bool) → Option Ans) =>
  bif Decidable.decide (x0 ≥ (1 : Int)) then
   bif Decidable.decide (x0 ≤ (64 : Int)) then
    bif Decidable.decide (x1 ≥ (1 : Int)) then
     bif Decidable.decide (x2 ≥ (1 : Int)) then
      bif Decidable.decide (x1 ≤ (16 : Int)) then
       bif Decidable.decide (x2 ≤ (16 : Int)) then
        (f112 (Go.IntKind.i64.wrap (x0 * x1)) (x2)
          (fun y8 =>
            k0 y8))
       else
        k0 Bool.false
      else
       k0 Bool.false
     else
      k0 Bool.false
    else
     k0 Bool.false
   else
    k0 Bool.false
  else
   k0 Bool.false) (fun r => match r with | r0 => k (.c (.bool r0), [])) := by
  kernel_rfl
theorem F110_eq (fuel : Nat) (x0 : Int) (x1 : Int) (x2 : Int) (k : Ev.Cont) : evalFn tab (G110 fuel) (J110 fuel) kp110 fuel Try.f110 [.c (.int .i64 x0), .c (.int .i64 x1), .c (.int .i64 x2)] [] k = F_ref11_isSides fuel x0 x1 x2 (fun r => match r with | r0 => k (.c (.bool r0), [])) :=
  F110_eqg fuel (F_ref05_Sides fuel) x0 x1 x2 k
theorem hG110 (fuel : Nat) : GOK Try.prog (G110 fuel) :=
  gok_cons ⟨ok112 fuel, enters_of Try.func112 (by kernel_rfl) rfl⟩ <|
  gok_nil
theorem fok110 (fuel : Nat) : FnOK Try.prog 110 (evalFn tab (G110 fuel) (J110 fuel) kp110 fuel Try.f110) :=
  fn_ok tab_ok (hG110 fuel) mixed Try.func110 (c := (Try.f110.body).getD .skip) rfl (fun q hq => by
    rw [(by kernel_rfl : obl (J110 fuel) ((Try.f110.body).getD .skip) = [])] at hq
    cases hq)
noncomputable def mt110 : List Ev.SV → List Ev.Ob → Bool := fun args objs => match args, objs with
  | [.c (.int .i64 _), .c (.int .i64 _), .c (.int .i64 _)], [] => true
  | _, _ => false
noncomputable def spg110 (F : YF110) : Ev.Spec := fun args objs k => match args, objs with
  | [.c (.int .i64 x0), .c (.int .i64 x1), .c (.int .i64 x2)], [] => bif true then F x0 x1 x2 (fun r => match r with | r0 => k (.c (.bool r0), [])) else none
  | _, _ => none
noncomputable def spec110 (fuel : Nat) : Ev.Spec := spg110 (F_ref11_isSides fuel)
theorem ok110 (fuel : Nat) : FnOK Try.prog 110 (spec110 fuel) := by
  intro args objs kk r h
  unfold spec110 spg110 at h
  split at h
  · skip
    obtain ⟨hb, h⟩ := cond_some' h
    simp only [Bool.and_eq_true, Nat.beq_eq, decide_eq_true_eq] at hb
    clear hb
    exact fok110 fuel _ _ kk r ((F110_eq fuel _ _ _ kk).trans h)
  · cases h
end Go.Proofs.Ytihfgpfofmjbaaa

set_option linter.unusedVariables false
set_option linter.unusedSimpArgs false
set_option maxRecDepth 100000
set_option maxHeartbeats 2000000
namespace Go.Proofs.Ytihfgpfofmjbaaa
open Go Ev
def kp148 (i : Nat) : Option (List Nat) := Ev.look i []
noncomputable def Gg148 (f110 : YF110) (f : Nat) : Option Ev.Spec := Ev.look f [(110, spg110 f110)]
noncomputable def G148 (fuel : Nat) : Nat → Option Ev.Spec := Gg148 (F_ref11_isSides fuel)
noncomputable def J148 (fuel : Nat) (i : Nat) : Option Ev.Blk := Ev.look i []
noncomputable def F_ref11_patterns (fuel : Nat) (x0 : (List (Int × Int × (List Int)))) (k0 : (Int) → Option Ans) : Option Ans :=
  bif (↑x0.length : Int) == (0 : Int) then
   k0 ((2 : Int))
  else
   bif Decidable.decide ((0 : Int) ≤ (0 : Int) ∧ (0 : Int) < (↑x0.length : Int)) then
   bif Decidable.decide ((0 : Int) ≤ (0 : Int) ∧ (0 : Int) < (↑x0.length : Int)) then
    (F_ref11_isSides fuel ((↑x0.length : Int)) ((x0.getD (Int.toNat (0 : Int)) ((0 : Int), (0 : Int), [])).fst) ((x0.getD (Int.toNat (0 : Int)) ((0 : Int), (0 : Int), [])).snd.fst)
       (fun y5 =>
         bif !y5 then
          k0 ((2 : Int))
         else
          k0 ((0 : Int))))
    else none
   else none
abbrev YF148 : Type := ((List (Int × Int × (List Int)))) → ((Int) → Option Ans) → Option Ans
theorem F148_eqg (fuel : Nat) (f110 : YF110) (x0 : (List (Int × Int × (List Int)))) (k : Ev.Cont) : evalFn tab (Gg148 f110) (J148 fuel) kp148 fuel Try.f148 [.c (.sl (.pair (.int .i64) (.pair (.int .i64) (.sl (.int .u8)))) x0)] [] k = (fun  (k0 : (Int) → Option Ans) =>
  bif (↑x0.length : Int) == (0 : Int) then
   k0 ((2 : Int))
  else
   bif Decidable.decide ((0 : Int) ≤ (0 : Int) ∧ (0 : Int) < (↑x0.length : Int)) then
   bif Decidable.decide ((0 : Int) ≤ (0 : Int) ∧ (0 : Int) < (↑x0.length : Int)) then
    (f110 ((↑x0.length : Int)) ((x0.getD (Int.toNat (0 : Int)) ((0 : Int), (0 : Int), [])).fst) ((x0.getD (Int.toNat (0 : Int)) ((0 : Int), (0 : Int), [])).snd.fst)
       (fun y5 =>
         bif !y5 then
          k0 ((2 : Int))
         else
          k0 ((0 : Int))))
    else none
   else none) (fun r => match r with | r0 => k (.c (.int .i64 r0), [])) := by
  kernel_rfl
theorem F148_eq (fuel : Nat) (x0 : (List (Int × Int × (List Int)))) (k : Ev.Cont) : evalFn tab (G148 fuel) (J148 fuel) kp148 fuel Try.f148 [.c (.sl (.pair (.int .i64) (.pair (.int .i64) (.sl (.int .u8)))) x0)] [] k = F_ref11_patterns fuel x0 (fun r => match r with | r0 => k (.c (.int .i64 r0), [])) :=
  F148_eqg fuel (F_ref11_isSides fuel) x0 k
theorem hG148 (fuel : Nat) : GOK Try.prog (G148 fuel) :=
  gok_cons ⟨ok110 fuel, enters_of Try.func110 (by kernel_rfl) rfl⟩ <|
  gok_nil
theorem fok148 (fuel : Nat) : FnOK Try.prog 148 (evalFn tab (G148 fuel) (J148 fuel) kp148 fuel Try.f148) :=
  fn_ok tab_ok (hG148 fuel) mixed Try.func148 (c := (Try.f148.body).getD .skip) rfl (fun q hq => by
    rw [(by kernel_rfl : obl (J148 fuel) ((Try.f148.body).getD .skip) = [])] at hq
    cases hq)
noncomputable def mt148 : List Ev.SV → List Ev.Ob → Bool := fun args objs => match args, objs with
  | [.c (.sl (.pair (.int .i64) (.pair (.int .i64) (.sl (.int .u8)))) _)], [] => true
  | _, _ => false
noncomputable def spg148 (F : YF148) : Ev.Spec := fun args objs k => match args, objs with
  | [.c (.sl (.pair (.int .i64) (.pair (.int .i64) (.sl (.int .u8)))) x0)], [] => bif true then F x0 (fun r => match r with | r0 => k (.c (.int .i64 r0), [])) else none
  | _, _ => none
noncomputable def spec148 (fuel : Nat) : Ev.Spec := spg148 (F_ref11_patterns fuel)
theorem ok148 (fuel : Nat) : FnOK Try.prog 148 (spec148 fuel) := by
  intro args objs kk r h
  unfold spec148 spg148 at h
  split at h
  · skip
    obtain ⟨hb, h⟩ := cond_some' h
    simp only [Bool.and_eq_true, Nat.beq_eq, decide_eq_true_eq] at hb
    clear hb
    exact fok148 fuel _ _ kk r ((F148_eq fuel _ kk).trans h)
  · cases h
end Go.Proofs.Ytihfgpfofmjbaaa

set_option linter.unusedVariables false
set_option linter.unusedSimpArgs false
set_option maxRecDepth 100000
set_option maxHeartbeats 2000000
namespace Go.Proofs.Ytihfgpfofmjbaaa
open Go Ev
def kp73 (i : Nat) : Option (List Nat) := Ev.look i []
noncomputable def Gg73 (f112 : YF112) (f146 : YF146) (f147 : YF147) (f148 : YF148) (f : Nat) : Option Ev.Spec := Ev.look f [(112, spg112 f112), (146, spg146 f146), (147, spg147 f147), (148, spg148 f148)]
noncomputable def G73 (fuel : Nat) : Nat → Option Ev.Spec := Gg73 (F_ref05_Sides fuel) (F_ref11_Valid fuel) (F_ref11_bitmaps fuel) (F_ref11_patterns fuel)
noncomputable def J73 (fuel : Nat) (i : Nat) : Option Ev.Blk := Ev.look i []
noncomputable def F_ref11_asked (fuel : Nat) (x0 : Int) (x1 : Int) (x2 : Int) (x3 : Int) (x4 : Int) (x5 : Int) (x6 : Int) (x7 : Int) (x8 : Bool) (x9 : Int) (x10 : (List (Int × Int × (List Int)))) (x11 : Int) (x12 : Int) (k0 : (Int) → Option Ans) : Option Ans :=
  (F_ref11_Valid fuel (x0) (x1) (x2) (x3) (x4) (x5) (x6) (x7) (x8) (x9)
    (fun y2 =>
      bif !y2 then
       k0 ((2 : Int))
      else
       (F_ref11_bitmaps fuel (x10)
         (fun y7 =>
           bif y7 != (0 : Int) then
            k0 ((30 : Int))
           else
            (F_ref05_Sides fuel (x11) (x12)
              (fun y12 =>
                bif !y12 then
                 k0 ((30 : Int))
                else
                 (F_ref11_patterns fuel (x10)
                   (fun y17 =>
                     k0 y17))))))))
abbrev YF73 : Type := (Int) → (Int) → (Int) → (Int) → (Int) → (Int) → (Int) → (Int) → (Bool) → (Int) → ((List (Int × Int × (List Int)))) → (Int) → (Int) → ((Int) → Option Ans) → Option Ans
theorem F73_eqg (fuel : Nat) (f112 : YF112) (f146 : YF146) (f147 : YF147) (f148 : YF148) (x0 : Int) (x1 : Int) (x2 : Int) (x3 : Int) (x4 : Int) (x5 : Int) (x6 : Int) (x7 : Int) (x8 : Bool) (x9 : Int) (x10 : (List (Int × Int × (List Int)))) (x11 : Int) (x12 : Int) (k : Ev.Cont) : evalFn tab (Gg73 f112 f146 f147 f148) (J73 fuel) kp73 fuel Try.f73 [.agg [.int .i64 x0, .int .i64 x1, .int .i64 x2, .int .i64 x3, .int .i64 x4, .int .i64 x5, .int .i64 x6, .int .i64 x7, .bool x8, .int .i64 x9], .c (.sl (.pair (.int .i64) (.pair (.int .i64) (.sl (.int .u8)))) x10), .c (.int .i64 x11), .c (.int .i64 x12)] [] k = (fun  (k0 : (Int) → Option Ans) =>
  (f146 (x0) (x1) (x2) (x3) (x4) (x5) (x6) (x7) (x8) (x9)
    (fun y2 =>
      bif !y2 then
       k0 ((2 : Int))
      else
       (f147 (x10)
         (fun y7 =>
           bif y7 != (0 : Int) then
            k0 ((30 : Int))
           else
            (f112 (x11) (x12)
              (fun y12 =>
                bif !y12 then
                 k0 ((30 : Int))
                else
                 (f148 (x10)
                   (fun y17 =>
                     k0 y17))))))))) (fun r => match r with | r0 => k (.c (.int .i64 r0), [])) := by
  kernel_rfl
theorem F73_eq (fuel : Nat) (x0 : Int) (x1 : Int) (x2 : Int) (x3 : Int) (x4 : Int) (x5 : Int) (x6 : Int) (x7 : Int) (x8 : Bool) (x9 : Int) (x10 : (List (Int × Int × (List Int)))) (x11 : Int) (x12 : Int) (k : Ev.Cont) : evalFn tab (G73 fuel) (J73 fuel) kp73 fuel Try.f73 [.agg [.int .i64 x0, .int .i64 x1, .int .i64 x2, .int .i64 x3, .int .i64 x4, .int .i64 x5, .int .i64 x6, .int .i64 x7, .bool x8, .int .i64 x9], .c (.sl (.pair (.int .i64) (.pair (.int .i64) (.sl (.int .u8)))) x10), .c (.int .i64 x11), .c (.int .i64 x12)] [] k = F_ref11_asked fuel x0 x1 x2 x3 x4 x5 x6 x7 x8 x9 x10 x11 x12 (fun r => match r with | r0 => k (.c (.int .i64 r0), [])) :=
  F73_eqg fuel (F_ref05_Sides fuel) (F_ref11_Valid fuel) (F_ref11_bitmaps fuel) (F_ref11_patterns fuel) x0 x1 x2 x3 x4 x5 x6 x7 x8 x9 x10 x11 x12 k
theorem hG73 (fuel : Nat) : GOK Try.prog (G73 fuel) :=
  gok_cons ⟨ok112 fuel, enters_of Try.func112 (by kernel_rfl) rfl⟩ <|
  gok_cons ⟨ok146 fuel, enters_of Try.func146 (by kernel_rfl) rfl⟩ <|
  gok_cons ⟨ok147 fuel, enters_of Try.func147 (by kernel_rfl) rfl⟩ <|
  gok_cons ⟨ok148 fuel, enters_of Try.func148 (by kernel_rfl) rfl⟩ <|
  gok_nil
theorem fok73 (fuel : Nat) : FnOK Try.prog 73 (evalFn tab (G73 fuel) (J73 fuel) kp73 fuel Try.f73) :=
  fn_ok tab_ok (hG73 fuel) mixed Try.func73 (c := (Try.f73.body).getD .skip) rfl (fun q hq => by
    rw [(by kernel_rfl : obl (J73 fuel) ((Try.f73.body).getD .skip) = [])] at hq
    cases hq)
noncomputable def mt73 : List Ev.SV → List Ev.Ob → Bool := fun args objs => match args, objs with
  | [.agg [.int .i64 _, .int .i64 _, .int .i64 _, .int .i64 _, .int .i64 _, .int .i64 _, .int .i64 _, .int .i64 _, .bool _, .int .i64 _], .c (.sl (.pair (.int .i64) (.pair (.int .i64) (.sl (.int .u8)))) _), .c (.int .i64 _), .c (.int .i64 _)], [] => true
  | _, _ => false
noncomputable def spg73 (F : YF73) : Ev.Spec := fun args objs k => match args, objs with
  | [.agg [.int .i64 x0, .int .i64 x1, .int .i64 x2, .int .i64 x3, .int .i64 x4, .int .i64 x5, .int .i64 x6, .int .i64 x7, .bool x8, .int .i64 x9], .c (.sl (.pair (.int .i64) (.pair (.int .i64) (.sl (.int .u8)))) x10), .c (.int .i64 x11), .c (.int .i64 x12)], [] => bif true then F x0 x1 x2 x3 x4 x5 x6 x7 x8 x9 x10 x11 x12 (fun r => match r with | r0 => k (.c (.int .i64 r0), [])) else none
  | _, _ => none
noncomputable def spec73 (fuel : Nat) : Ev.Spec := spg73 (F_ref11_asked fuel)
theorem ok73 (fuel : Nat) : FnOK Try.prog 73 (spec73 fuel) := by
  intro args objs kk r h
  unfold spec73 spg73 at h
  split at h
  · skip
    obtain ⟨hb, h⟩ := cond_some' h
    simp only [Bool.and_eq_true, Nat.beq_eq, decide_eq_true_eq] at hb
    clear hb
    exact fok73 fuel _ _ kk r ((F73_eq fuel _ _ _ _ _ _ _ _ _ _ _ _ _ kk).trans h)
  · cases h
end Go.Proofs.Ytihfgpfofmjbaaa

set_option linter.unusedVariables false
set_option linter.unusedSimpArgs false
set_option maxRecDepth 100000
set_option maxHeartbeats 2000000
namespace Go.Proofs.Ytihfgpfofmjbaaa
open Go Ev
def kp74 (i : Nat) : Option (List Nat) := Ev.look i [(3, [1, 2, 3, 4, 8, 9, 11]), (6, [1, 2, 3, 4, 8, 9, 11, 12]), (100000, [8, 9]), (100002, [1, 2, 3, 4, 8, 9, 11]), (400000, [8]), (400002, [8])]
noncomputable def Gg74 (f81 : YF81) (f82 : YF82) (f127_a2e : YF127_a2e) (f : Nat) : Option Ev.Spec := Ev.look f [(81, spg81 f81), (82, spg82 f82), (1000127, spg127_a2e f127_a2e)]
noncomputable def G74 (fuel : Nat) : Nat → Option Ev.Spec := Gg74 (F_ref05_New fuel) (F_ref11_cell fuel) (F_ref05_Put_a2e fuel)
noncomputable def S_ref11_skipped_2 (fuel : Nat) (v : (List (Int × (Int × (List Int)))) × Int × Int × Int × Int × Int × Int × Int × Int × Int × Int × Int × Int × Bool × Int × Int × Int × Int × Int × (List Int) × (List Int)) (c : ((List (Int × (Int × (List Int)))) × Int × Int × Int × Int × Int × Int × Int × Int × Int × Int × Int × Int × Bool × Int × Int × Int × Int × Int × (List Int) × (List Int)) → Option Ans) (B : ((List (Int × (Int × (List Int)))) × Int × Int × Int × Int × Int × Int × Int × Int × Int × Int × Int × Bool × Int × Int × Int × Int × Int × (List Int) × (List Int) → Option Ans)) : Option Ans := match v, B with
  | (x0, x1, x2, x3, x4, x5, x6, x7, x8, x9, x10, x11, x12, x13, x14, x15, x16, x17, x18, x19, x20), b =>
   bif Decidable.decide (x4 < x5) then
      (F_ref11_cell fuel (x5) (x6) (x7) (x8) (x9) (x10) (x11) (x12) (x13) (x14) (x3) (x4)
        (fun (y3_0, y3_1) =>
          bif x13 then
           bif Decidable.decide ((0 : Int) ≤ (0 : Int) ∧ (0 : Int) < (↑x0.length : Int)) then
           bif Decidable.decide (Go.IntKind.i64.wrap (y3_0 + (x0.getD (Int.toNat (0 : Int)) ((0 : Int), (0 : Int), [])).fst) ≤ (0 : Int)) then
             (F_ref05_Put_a2e fuel (x17) (x18) (x4) (x3) ((1 : Int)) (x20)
               (fun y10 =>
                 c (x0, x1, x2, x3, Go.IntKind.i64.wrap (x4 + (1 : Int)), x5, x6, x7, x8, x9, x10, x11, x12, x13, x14, x15, x16, x17, x18, x19, y10)))
            else
             bif Decidable.decide ((0 : Int) ≤ (0 : Int) ∧ (0 : Int) < (↑x0.length : Int)) then
             bif Decidable.decide (Go.IntKind.i64.wrap (y3_1 + (x0.getD (Int.toNat (0 : Int)) ((0 : Int), (0 : Int), [])).snd.fst) ≤ (0 : Int)) then
               (F_ref05_Put_a2e fuel (x17) (x18) (x4) (x3) ((1 : Int)) (x20)
                 (fun y12 =>
                   c (x0, x1, x2, x3, Go.IntKind.i64.wrap (x4 + (1 : Int)), x5, x6, x7, x8, x9, x10, x11, x12, x13, x14, x15, x16, x17, x18, x19, y12)))
              else
               bif Decidable.decide (y3_0 ≥ x1) then
                (F_ref05_Put_a2e fuel (x17) (x18) (x4) (x3) ((1 : Int)) (x20)
                  (fun y13 =>
                    c (x0, x1, x2, x3, Go.IntKind.i64.wrap (x4 + (1 : Int)), x5, x6, x7, x8, x9, x10, x11, x12, x13, x14, x15, x16, x17, x18, x19, y13)))
               else
                bif Decidable.decide (y3_1 ≥ x2) then
                 (F_ref05_Put_a2e fuel (x17) (x18) (x4) (x3) ((1 : Int)) (x20)
                   (fun y14 =>
                     c (x0, x1, x2, x3, Go.IntKind.i64.wrap (x4 + (1 : Int)), x5, x6, x7, x8, x9, x10, x11, x12, x13, x14, x15, x16, x17, x18, x19, y14)))
                else
                 c (x0, x1, x2, x3, Go.IntKind.i64.wrap (x4 + (1 : Int)), x5, x6, x7, x8, x9, x10, x11, x12, x13, x14, x15, x16, x17, x18, x19, x20)
             else none
           else none
          else
           c (x0, x1, x2, x3, Go.IntKind.i64.wrap (x4 + (1 : Int)), x5, x6, x7, x8, x9, x10, x11, x12, x13, x14, x15, x16, x17, x18, x19, x20)))
     else
      b (x0, x1, x2, x3, x5, x6, x7, x8, x9, x10, x11, x12, x13, x14, x15, x16, x17, x18, x19, x20)
noncomputable def L_ref11_skipped_2 (fuel : Nat) (v : (List (Int × (Int × (List Int)))) × Int × Int × Int × Int × Int × Int × Int × Int × Int × Int × Int × Int × Bool × Int × Int × Int × Int × Int × (List Int) × (List Int)) (b : ((List (Int × (Int × (List Int)))) × Int × Int × Int × Int × Int × Int × Int × Int × Int × Int × Int × Bool × Int × Int × Int × Int × Int × (List Int) × (List Int) → Option Ans)) : Option Ans := iter (S_ref11_skipped_2 fuel) fuel v b
noncomputable def J74_2 (fuel : Nat) (i : Nat) : Option Ev.Blk := Ev.look i []
noncomputable def T74_2 (v : (List (Int × (Int × (List Int)))) × Int × Int × Int × Int × Int × Int × Int × Int × Int × Int × Int × Int × Bool × Int × Int × Int × Int × Int × (List Int) × (List Int)) : Ev.St := match v with | (x0, x1, x2, x3, x4, x5, x6, x7, x8, x9, x10, x11, x12, x13, x14, x15, x16, x17, x18, x19, x20) => ⟨[(1, .c (.sl (.pair (.int .i64) (.pair (.int .i64) (.sl (.int .u8)))) x0)), (2, .c (.int .i64 x1)), (3, .c (.int .i64 x2)), (4, .c (.ptr 0 0)), (8, .c (.ptr 1 0)), (9, .c (.ptr 2 0)), (11, .c (.int .i64 x3)), (12, .c (.int .i64 x4))], [(0, .cells 32 [.int .i64 x5, .int .i64 x6, .int .i64 x7, .int .i64 x8, .int .i64 x9, .int .i64 x10, .int .i64 x11, .int .i64 x12, .bool x13, .int .i64 x14]), (1, .cells 39 [.int .i64 x15, .int .i64 x16, .own 3]), (2, .cells 39 [.int .i64 x17, .int .i64 x18, .own 4]), (3, .vec 5 (.int .u8) x19 true), (4, .vec 5 (.int .u8) x20 true)], 5, 0⟩
noncomputable def E74_2 (K : Ev.Ex → Ev.St → Option Ans) : ((List (Int × (Int × (List Int)))) × Int × Int × Int × Int × Int × Int × Int × Int × Int × Int × Int × Bool × Int × Int × Int × Int × Int × (List Int) × (List Int) → Option Ans) := (fun v => match v with | (x0, x1, x2, x3, x4, x5, x6, x7, x8, x9, x10, x11, x12, x13, x14, x15, x16, x17, x18, x19) => K .normal ⟨[(1, .c (.sl (.pair (.int .i64) (.pair (.int .i64) (.sl (.int .u8)))) x0)), (2, .c (.int .i64 x1)), (3, .c (.int .i64 x2)), (4, .c (.ptr 0 0)), (8, .c (.ptr 1 0)), (9, .c (.ptr 2 0)), (11, .c (.int .i64 x3))], [(0, .cells 32 [.int .i64 x4, .int .i64 x5, .int .i64 x6, .int .i64 x7, .int .i64 x8, .int .i64 x9, .int .i64 x10, .int .i64 x11, .bool x12, .int .i64 x13]), (1, .cells 39 [.int .i64 x14, .int .i64 x15, .own 3]), (2, .cells 39 [.int .i64 x16, .int .i64 x17, .own 4]), (3, .vec 5 (.int .u8) x18 true), (4, .vec 5 (.int .u8) x19 true)], 5, 0⟩)
theorem S74_2_okg (fuel : Nat) (f81 : YF81) (f82 : YF82) (f127_a2e : YF127_a2e) (R : Ev.St → Option Ans) (K : Ev.Ex → Ev.St → Option Ans) (x0 : (List (Int × (Int × (List Int))))) (x1 : Int) (x2 : Int) (x3 : Int) (x4 : Int) (x5 : Int) (x6 : Int) (x7 : Int) (x8 : Int) (x9 : Int) (x10 : Int) (x11 : Int) (x12 : Int) (x13 : Bool) (x14 : Int) (x15 : Int) (x16 : Int) (x17 : Int) (x18 : Int) (x19 : (List Int)) (x20 : (List Int)) : evalCode tab (Gg74 f81 f82 f127_a2e) (J74_2 fuel) kp74 fuel (bodyOf 2 Try.f74) (T74_2 (x0, x1, x2, x3, x4, x5, x6, x7, x8, x9, x10, x11, x12, x13, x14, x15, x16, x17, x18, x19, x20)) (lc kp74 6 2 R K) = (fun (c : ((List (Int × (Int × (List Int)))) × Int × Int × Int × Int × Int × Int × Int × Int × Int × Int × Int × Int × Bool × Int × Int × Int × Int × Int × (List Int) × (List Int)) → Option Ans) (B : ((List (Int × (Int × (List Int)))) × Int × Int × Int × Int × Int × Int × Int × Int × Int × Int × Int × Bool × Int × Int × Int × Int × Int × (List Int) × (List Int) → Option Ans)) => match B with
  | b =>
   bif Decidable.decide (x4 < x5) then
      (f82 (x5) (x6) (x7) (x8) (x9) (x10) (x11) (x12) (x13) (x14) (x3) (x4)
        (fun (y3_0, y3_1) =>
          bif x13 then
           bif Decidable.decide ((0 : Int) ≤ (0 : Int) ∧ (0 : Int) < (↑x0.length : Int)) then
           bif Decidable.decide (Go.IntKind.i64.wrap (y3_0 + (x0.getD (Int.toNat (0 : Int)) ((0 : Int), (0 : Int), [])).fst) ≤ (0 : Int)) then
             (f127_a2e (x17) (x18) (x4) (x3) ((1 : Int)) (x20)
               (fun y10 =>
                 c (x0, x1, x2, x3, Go.IntKind.i64.wrap (x4 + (1 : Int)), x5, x6, x7, x8, x9, x10, x11, x12, x13, x14, x15, x16, x17, x18, x19, y10)))
            else
             bif Decidable.decide ((0 : Int) ≤ (0 : Int) ∧ (0 : Int) < (↑x0.length : Int)) then
             bif Decidable.decide (Go.IntKind.i64.wrap (y3_1 + (x0.getD (Int.toNat (0 : Int)) ((0 : Int), (0 : Int), [])).snd.fst) ≤ (0 : Int)) then
               (f127_a2e (x17) (x18) (x4) (x3) ((1 : Int)) (x20)
                 (fun y12 =>
                   c (x0, x1, x2, x3, Go.IntKind.i64.wrap (x4 + (1 : Int)), x5, x6, x7, x8, x9, x10, x11, x12, x13, x14, x15, x16, x17, x18, x19, y12)))
              else
               bif Decidable.decide (y3_0 ≥ x1) then
                (f127_a2e (x17) (x18) (x4) (x3) ((1 : Int)) (x20)
                  (fun y13 =>
                    c (x0, x1, x2, x3, Go.IntKind.i64.wrap (x4 + (1 : Int)), x5, x6, x7, x8, x9, x10, x11, x12, x13, x14, x15, x16, x17, x18, x19, y13)))
               else
                bif Decidable.decide (y3_1 ≥ x2) then
                 (f127_a2e (x17) (x18) (x4) (x3) ((1 : Int)) (x20)
                   (fun y14 =>
                     c (x0, x1, x2, x3, Go.IntKind.i64.wrap (x4 + (1 : Int)), x5, x6, x7, x8, x9, x10, x11, x12, x13, x14, x15, x16, x17, x18, x19, y14)))
                else
                 c (x0, x1, x2, x3, Go.IntKind.i64.wrap (x4 + (1 : Int)), x5, x6, x7, x8, x9, x10, x11, x12, x13, x14, x15, x16, x17, x18, x19, x20)
             else none
           else none
          else
           c (x0, x1, x2, x3, Go.IntKind.i64.wrap (x4 + (1 : Int)), x5, x6, x7, x8, x9, x10, x11, x12, x13, x14, x15, x16, x17, x18, x19, x20)))
     else
      b (x0, x1, x2, x3, x5, x6, x7, x8, x9, x10, x11, x12, x13, x14, x15, x16, x17, x18, x19, x20)) (fun v => R (T74_2 v)) (E74_2 K) := by
  kernel_rfl
theorem S74_2_ok (fuel : Nat) (R : Ev.St → Option Ans) (K : Ev.Ex → Ev.St → Option Ans) (x0 : (List (Int × (Int × (List Int))))) (x1 : Int) (x2 : Int) (x3 : Int) (x4 : Int) (x5 : Int) (x6 : Int) (x7 : Int) (x8 : Int) (x9 : Int) (x10 : Int) (x11 : Int) (x12 : Int) (x13 : Bool) (x14 : Int) (x15 : Int) (x16 : Int) (x17 : Int) (x18 : Int) (x19 : (List Int)) (x20 : (List Int)) : evalCode tab (G74 fuel) (J74_2 fuel) kp74 fuel (bodyOf 2 Try.f74) (T74_2 (x0, x1, x2, x3, x4, x5, x6, x7, x8, x9, x10, x11, x12, x13, x14, x15, x16, x17, x18, x19, x20)) (lc kp74 6 2 R K) = S_ref11_skipped_2 fuel (x0, x1, x2, x3, x4, x5, x6, x7, x8, x9, x10, x11, x12, x13, x14, x15, x16, x17, x18, x19, x20) (fun v => R (T74_2 v)) (E74_2 K) :=
  S74_2_okg fuel (F_ref05_New fuel) (F_ref11_cell fuel) (F_ref05_Put_a2e fuel) R K x0 x1 x2 x3 x4 x5 x6 x7 x8 x9 x10 x11 x12 x13 x14 x15 x16 x17 x18 x19 x20
noncomputable def B74_2 (fuel : Nat) : Ev.Blk := fun st K => match canonO (kp74 6) st with
  | some s => (match s with
    | ⟨[(q0, .c (.sl (.pair (.int .i64) (.pair (.int .i64) (.sl (.int .u8)))) x0)), (q1, .c (.int .i64 x1)), (q2, .c (.int .i64 x2)), (q3, .c (.ptr q4 q5)), (q6, .c (.ptr q7 q8)), (q9, .c (.ptr q10 q11)), (q12, .c (.int .i64 x3)), (q13, .c (.int .i64 x4))], [(q14, .cells q15 [.int .i64 x5, .int .i64 x6, .int .i64 x7, .int .i64 x8, .int .i64 x9, .int .i64 x10, .int .i64 x11, .int .i64 x12, .bool x13, .int .i64 x14]), (q16, .cells q17 [.int .i64 x15, .int .i64 x16, .own q18]), (q19, .cells q20 [.int .i64 x17, .int .i64 x18, .own q21]), (q22, .vec q23 (.int .u8) x19 true), (q24, .vec q25 (.int .u8) x20 true)], q26, q27⟩ => bif Nat.beq q0 1 && Nat.beq q1 2 && Nat.beq q2 3 && Nat.beq q3 4 && Nat.beq q4 0 && Nat.beq q5 0 && Nat.beq q6 8 && Nat.beq q7 1 && Nat.beq q8 0 && Nat.beq q9 9 && Nat.beq q10 2 && Nat.beq q11 0 && Nat.beq q12 11 && Nat.beq q13 12 && Nat.beq q14 0 && Nat.beq q15 32 && Nat.beq q16 1 && Nat.beq q17 39 && Nat.beq q18 3 && Nat.beq q19 2 && Nat.beq q20 39 && Nat.beq q21 4 && Nat.beq q22 3 && Nat.beq q23 5 && Nat.beq q24 4 && Nat.beq q25 5 && Nat.beq q26 5 && Nat.beq q27 0 then iter (S_ref11_skipped_2 fuel) fuel (x0, x1, x2, x3, x4, x5, x6, x7, x8, x9, x10, x11, x12, x13, x14, x15, x16, x17, x18, x19, x20) (E74_2 K) else none
    | _ => none)
  | none => none
theorem B74_2_ok (fuel : Nat) (st : Ev.St) (K : Ev.Ex → Ev.St → Option Ans) (r : Ans) (h : B74_2 fuel st K = some r) : evalCode tab (G74 fuel) (J74_2 fuel) kp74 fuel (.block 2 (.loop (bodyOf 2 Try.f74))) st K = some r := by
  unfold B74_2 at h
  split at h
  · rename_i s hs
    split at h
    · skip
      obtain ⟨hb, h⟩ := cond_some' h
      simp only [Bool.and_eq_true, Nat.beq_eq, decide_eq_true_eq] at hb
      obtain ⟨⟨⟨⟨⟨⟨⟨⟨⟨⟨⟨⟨⟨⟨⟨⟨⟨⟨⟨⟨⟨⟨⟨⟨⟨⟨⟨rfl, rfl⟩, rfl⟩, rfl⟩, rfl⟩, rfl⟩, rfl⟩, rfl⟩, rfl⟩, rfl⟩, rfl⟩, rfl⟩, rfl⟩, rfl⟩, rfl⟩, rfl⟩, rfl⟩, rfl⟩, rfl⟩, rfl⟩, rfl⟩, rfl⟩, rfl⟩, rfl⟩, rfl⟩, rfl⟩, rfl⟩, rfl⟩ := hb
      exact blk_loop (S := T74_2) (ks := E74_2) (step := S_ref11_skipped_2 fuel) (v := (_, _, _, _, _, _, _, _, _, _, _, _, _, _, _, _, _, _, _, _, _)) (by kernel_rfl) (by kernel_rfl) (fun R K v => by obtain ⟨x0, x1, x2, x3, x4, x5, x6, x7, x8, x9, x10, x11, x12, x13, x14, x15, x16, x17, x18, x19, x20⟩ := v; exact S74_2_ok fuel R K x0 x1 x2 x3 x4 x5 x6 x7 x8 x9 x10 x11 x12 x13 x14 x15 x16 x17 x18 x19 x20) hs h
    · cases h
  · cases h
noncomputable def S_ref11_skipped_0 (fuel : Nat) (v : (List (Int × (Int × (List Int)))) × Int × Int × Int × Int × Int × Int × Int × Int × Int × Int × Int × Bool × Int × Int × Int × Int × Int × (List Int) × (List Int)) (c : ((List (Int × (Int × (List Int)))) × Int × Int × Int × Int × Int × Int × Int × Int × Int × Int × Int × Bool × Int × Int × Int × Int × Int × (List Int) × (List Int)) → Option Ans) (B : (Int × Int × Int × Int × (List Int) × (List Int) → Option Ans)) : Option Ans := match v, B with
  | (x0, x1, x2, x3, x4, x5, x6, x7, x8, x9, x10, x11, x12, x13, x14, x15, x16, x17, x18, x19), b =>
   bif Decidable.decide (x3 < x5) then
      (L_ref11_skipped_2 fuel (x0, x1, x2, x3, (0 : Int), x4, x5, x6, x7, x8, x9, x10, x11, x12, x13, x14, x15, x16, x17, x18, x19)
        (fun (b2_0, b2_1, b2_2, b2_3, b2_4, b2_5, b2_6, b2_7, b2_8, b2_9, b2_10, b2_11, b2_12, b2_13, b2_14, b2_15, b2_16, b2_17, b2_18, b2_19) =>
          c (b2_0, b2_1, b2_2, Go.IntKind.i64.wrap (b2_3 + (1 : Int)), b2_4, b2_5, b2_6, b2_7, b2_8, b2_9, b2_10, b2_11, b2_12, b2_13, b2_14, b2_15, b2_16, b2_17, b2_18, b2_19)))
     else
      b (x14, x15, x16, x17, x18, x19)
noncomputable def L_ref11_skipped_0 (fuel : Nat) (v : (List (Int × (Int × (List Int)))) × Int × Int × Int × Int × Int × Int × Int × Int × Int × Int × Int × Bool × Int × Int × Int × Int × Int × (List Int) × (List Int)) (b : (Int × Int × Int × Int × (List Int) × (List Int) → Option Ans)) : Option Ans := iter (S_ref11_skipped_0 fuel) fuel v b
noncomputable def J74_0 (fuel : Nat) (i : Nat) : Option Ev.Blk := Ev.look i [(100002, B74_2 fuel)]
noncomputable def T74_0 (v : (List (Int × (Int × (List Int)))) × Int × Int × Int × Int × Int × Int × Int × Int × Int × Int × Int × Bool × Int × Int × Int × Int × Int × (List Int) × (List Int)) : Ev.St := match v with | (x0, x1, x2, x3, x4, x5, x6, x7, x8, x9, x10, x11, x12, x13, x14, x15, x16, x17, x18, x19) => ⟨[(1, .c (.sl (.pair (.int .i64) (.pair (.int .i64) (.sl (.int .u8)))) x0)), (2, .c (.int .i64 x1)), (3, .c (.int .i64 x2)), (4, .c (.ptr 0 0)), (8, .c (.ptr 1 0)), (9, .c (.ptr 2 0)), (11, .c (.int .i64 x3))], [(0, .cells 32 [.int .i64 x4, .int .i64 x5, .int .i64 x6, .int .i64 x7, .int .i64 x8, .int .i64 x9, .int .i64 x10, .int .i64 x11, .bool x12, .int .i64 x13]), (1, .cells 39 [.int .i64 x14, .int .i64 x15, .own 3]), (2, .cells 39 [.int .i64 x16, .int .i64 x17, .own 4]), (3, .vec 5 (.int .u8) x18 true), (4, .vec 5 (.int .u8) x19 true)], 5, 0⟩
noncomputable def E74_0 (K : Ev.Ex → Ev.St → Option Ans) : (Int × Int × Int × Int × (List Int) × (List Int) → Option Ans) := (fun v => match v with | (x0, x1, x2, x3, x4, x5) => K .normal ⟨[(8, .c (.ptr 0 0)), (9, .c (.ptr 1 0))], [(0, .cells 39 [.int .i64 x0, .int .i64 x1, .own 2]), (1, .cells 39 [.int .i64 x2, .int .i64 x3, .own 3]), (2, .vec 5 (.int .u8) x4 true), (3, .vec 5 (.int .u8) x5 true)], 4, 0⟩)
theorem S74_0_okg (fuel : Nat) (f81 : YF81) (f82 : YF82) (f127_a2e : YF127_a2e) (R : Ev.St → Option Ans) (K : Ev.Ex → Ev.St → Option Ans) (x0 : (List (Int × (Int × (List Int))))) (x1 : Int) (x2 : Int) (x3 : Int) (x4 : Int) (x5 : Int) (x6 : Int) (x7 : Int) (x8 : Int) (x9 : Int) (x10 : Int) (x11 : Int) (x12 : Bool) (x13 : Int) (x14 : Int) (x15 : Int) (x16 : Int) (x17 : Int) (x18 : (List Int)) (x19 : (List Int)) : evalCode tab (Gg74 f81 f82 f127_a2e) (J74_0 fuel) kp74 fuel (bodyOf 0 Try.f74) (T74_0 (x0, x1, x2, x3, x4, x5, x6, x7, x8, x9, x10, x11, x12, x13, x14, x15, x16, x17, x18, x19)) (lc kp74 3 0 R K) = (fun (c : ((List (Int × (Int × (List Int)))) × Int × Int × Int × Int × Int × Int × Int × Int × Int × Int × Int × Bool × Int × Int × Int × Int × Int × (List Int) × (List Int)) → Option Ans) (B : (Int × Int × Int × Int × (List Int) × (List Int) → Option Ans)) => match B with
  | b =>
   bif Decidable.decide (x3 < x5) then
      (L_ref11_skipped_2 fuel (x0, x1, x2, x3, (0 : Int), x4, x5, x6, x7, x8, x9, x10, x11, x12, x13, x14, x15, x16, x17, x18, x19)
        (fun (b2_0, b2_1, b2_2, b2_3, b2_4, b2_5, b2_6, b2_7, b2_8, b2_9, b2_10, b2_11, b2_12, b2_13, b2_14, b2_15, b2_16, b2_17, b2_18, b2_19) =>
          c (b2_0, b2_1, b2_2, Go.IntKind.i64.wrap (b2_3 + (1 : Int)), b2_4, b2_5, b2_6, b2_7, b2_8, b2_9, b2_10, b2_11, b2_12, b2_13, b2_14, b2_15, b2_16, b2_17, b2_18, b2_19)))
     else
      b (x14, x15, x16, x17, x18, x19)) (fun v => R (T74_0 v)) (E74_0 K) := by
  kernel_rfl
theorem S74_0_ok (fuel : Nat) (R : Ev.St → Option Ans) (K : Ev.Ex → Ev.St → Option Ans) (x0 : (List (Int × (Int × (List Int))))) (x1 : Int) (x2 : Int) (x3 : Int) (x4 : Int) (x5 : Int) (x6 : Int) (x7 : Int) (x8 : Int) (x9 : Int) (x10 : Int) (x11 : Int) (x12 : Bool) (x13 : Int) (x14 : Int) (x15 : Int) (x16 : Int) (x17 : Int) (x18 : (List Int)) (x19 : (List Int)) : evalCode tab (G74 fuel) (J74_0 fuel) kp74 fuel (bodyOf 0 Try.f74) (T74_0 (x0, x1, x2, x3, x4, x5, x6, x7, x8, x9, x10, x11, x12, x13, x14, x15, x16, x17, x18, x19)) (lc kp74 3 0 R K) = S_ref11_skipped_0 fuel (x0, x1, x2, x3, x4, x5, x6, x7, x8, x9, x10, x11, x12, x13, x14, x15, x16, x17, x18, x19) (fun v => R (T74_0 v)) (E74_0 K) :=
  S74_0_okg fuel (F_ref05_New fuel) (F_ref11_cell fuel) (F_ref05_Put_a2e fuel) R K x0 x1 x2 x3 x4 x5 x6 x7 x8 x9 x10 x11 x12 x13 x14 x15 x16 x17 x18 x19
noncomputable def B74_0 (fuel : Nat) : Ev.Blk := fun st K => match canonO (kp74 3) st with
  | some s => (match s with
    | ⟨[(q0, .c (.sl (.pair (.int .i64) (.pair (.int .i64) (.sl (.int .u8)))) x0)), (q1, .c (.int .i64 x1)), (q2, .c (.int .i64 x2)), (q3, .c (.ptr q4 q5)), (q6, .c (.ptr q7 q8)), (q9, .c (.ptr q10 q11)), (q12, .c (.int .i64 x3))], [(q13, .cells q14 [.int .i64 x4, .int .i64 x5, .int .i64 x6, .int .i64 x7, .int .i64 x8, .int .i64 x9, .int .i64 x10, .int .i64 x11, .bool x12, .int .i64 x13]), (q15, .cells q16 [.int .i64 x14, .int .i64 x15, .own q17]), (q18, .cells q19 [.int .i64 x16, .int .i64 x17, .own q20]), (q21, .vec q22 (.int .u8) x18 true), (q23, .vec q24 (.int .u8) x19 true)], q25, q26⟩ => bif Nat.beq q0 1 && Nat.beq q1 2 && Nat.beq q2 3 && Nat.beq q3 4 && Nat.beq q4 0 && Nat.beq q5 0 && Nat.beq q6 8 && Nat.beq q7 1 && Nat.beq q8 0 && Nat.beq q9 9 && Nat.beq q10 2 && Nat.beq q11 0 && Nat.beq q12 11 && Nat.beq q13 0 && Nat.beq q14 32 && Nat.beq q15 1 && Nat.beq q16 39 && Nat.beq q17 3 && Nat.beq q18 2 && Nat.beq q19 39 && Nat.beq q20 4 && Nat.beq q21 3 && Nat.beq q22 5 && Nat.beq q23 4 && Nat.beq q24 5 && Nat.beq q25 5 && Nat.beq q26 0 then iter (S_ref11_skipped_0 fuel) fuel (x0, x1, x2, x3, x4, x5, x6, x7, x8, x9, x10, x11, x12, x13, x14, x15, x16, x17, x18, x19) (E74_0 K) else none
    | _ => none)
  | none => none
theorem B74_0_ok (fuel : Nat) (st : Ev.St) (K : Ev.Ex → Ev.St → Option Ans) (r : Ans) (h : B74_0 fuel st K = some r) : evalCode tab (G74 fuel) (J74_0 fuel) kp74 fuel (.block 0 (.loop (bodyOf 0 Try.f74))) st K = some r := by
  unfold B74_0 at h
  split at h
  · rename_i s hs
    split at h
    · skip
      obtain ⟨hb, h⟩ := cond_some' h
      simp only [Bool.and_eq_true, Nat.beq_eq, decide_eq_true_eq] at hb
      obtain ⟨⟨⟨⟨⟨⟨⟨⟨⟨⟨⟨⟨⟨⟨⟨⟨⟨⟨⟨⟨⟨⟨⟨⟨⟨⟨rfl, rfl⟩, rfl⟩, rfl⟩, rfl⟩, rfl⟩, rfl⟩, rfl⟩, rfl⟩, rfl⟩, rfl⟩, rfl⟩, rfl⟩, rfl⟩, rfl⟩, rfl⟩, rfl⟩, rfl⟩, rfl⟩, rfl⟩, rfl⟩, rfl⟩, rfl⟩, rfl⟩, rfl⟩, rfl⟩, rfl⟩ := hb
      exact blk_loop (S := T74_0) (ks := E74_0) (step := S_ref11_skipped_0 fuel) (v := (_, _, _, _, _, _, _, _, _, _, _, _, _, _, _, _, _, _, _, _)) (by kernel_rfl) (by kernel_rfl) (fun R K v => by obtain ⟨x0, x1, x2, x3, x4, x5, x6, x7, x8, x9, x10, x11, x12, x13, x14, x15, x16, x17, x18, x19⟩ := v; exact S74_0_ok fuel R K x0 x1 x2 x3 x4 x5 x6 x7 x8 x9 x10 x11 x12 x13 x14 x15 x16 x17 x18 x19) hs h
    · cases h
  · cases h
noncomputable def J74 (fuel : Nat) (i : Nat) : Option Ev.Blk := Ev.look i [(100002, B74_2 fuel), (100000, B74_0 fuel)]
noncomputable def F_ref11_skipped (fuel : Nat) (x0 : Int) (x1 : Int) (x2 : Int) (x3 : Int) (x4 : Int) (x5 : Int) (x6 : Int) (x7 : Int) (x8 : Bool) (x9 : Int) (x10 : (List (Int × Int × (List Int)))) (x11 : Int) (x12 : Int) (k0 : (Int × Int × (List Int)) → Option Ans) : Option Ans :=
  (F_ref05_New fuel (x0) (x1) ((0 : Int))
    (fun (y2_0, y2_1, y2_2, y2_3) =>
      (L_ref11_skipped_0 fuel (x10, x11, x12, (0 : Int), x0, x1, x2, x3, x4, x5, x6, x7, x8, x9, (0 : Int), (0 : Int), y2_0, y2_1, [], y2_3)
        (fun (b0_0, b0_1, b0_2, b0_3, b0_4, b0_5) =>
          k0 (b0_2, b0_3, b0_5)))))
abbrev YF74 : Type := (Int) → (Int) → (Int) → (Int) → (Int) → (Int) → (Int) → (Int) → (Bool) → (Int) → ((List (Int × Int × (List Int)))) → (Int) → (Int) → ((Int × Int × (List Int)) → Option Ans) → Option Ans
theorem F74_eqg (fuel : Nat) (f81 : YF81) (f82 : YF82) (f127_a2e : YF127_a2e) (x0 : Int) (x1 : Int) (x2 : Int) (x3 : Int) (x4 : Int) (x5 : Int) (x6 : Int) (x7 : Int) (x8 : Bool) (x9 : Int) (x10 : (List (Int × Int × (List Int)))) (x11 : Int) (x12 : Int) (k : Ev.Cont) : evalFn tab (Gg74 f81 f82 f127_a2e) (J74 fuel) kp74 fuel Try.f74 [.agg [.int .i64 x0, .int .i64 x1, .int .i64 x2, .int .i64 x3, .int .i64 x4, .int .i64 x5, .int .i64 x6, .int .i64 x7, .bool x8, .int .i64 x9], .c (.sl (.pair (.int .i64) (.pair (.int .i64) (.sl (.int .u8)))) x10), .c (.int .i64 x11), .c (.int .i64 x12)] [] k = (fun  (k0 : (Int × Int × (List Int)) → Option Ans) =>
  (f81 (x0) (x1) ((0 : Int))
    (fun (y2_0, y2_1, y2_2, y2_3) =>
      (L_ref11_skipped_0 fuel (x10, x11, x12, (0 : Int), x0, x1, x2, x3, x4, x5, x6, x7, x8, x9, (0 : Int), (0 : Int), y2_0, y2_1, [], y2_3)
        (fun (b0_0, b0_1, b0_2, b0_3, b0_4, b0_5) =>
          k0 (b0_2, b0_3, b0_5)))))) (fun r => match r with | (r0, r1, r2) => k (.agg [.int .i64 r0, .int .i64 r1, .own 0], [.vec 5 (.int .u8) r2 true])) := by
  kernel_rfl
theorem F74_eq (fuel : Nat) (x0 : Int) (x1 : Int) (x2 : Int) (x3 : Int) (x4 : Int) (x5 : Int) (x6 : Int) (x7 : Int) (x8 : Bool) (x9 : Int) (x10 : (List (Int × Int × (List Int)))) (x11 : Int) (x12 : Int) (k : Ev.Cont) : evalFn tab (G74 fuel) (J74 fuel) kp74 fuel Try.f74 [.agg [.int .i64 x0, .int .i64 x1, .int .i64 x2, .int .i64 x3, .int .i64 x4, .int .i64 x5, .int .i64 x6, .int .i64 x7, .bool x8, .int .i64 x9], .c (.sl (.pair (.int .i64) (.pair (.int .i64) (.sl (.int .u8)))) x10), .c (.int .i64 x11), .c (.int .i64 x12)] [] k = F_ref11_skipped fuel x0 x1 x2 x3 x4 x5 x6 x7 x8 x9 x10 x11 x12 (fun r => match r with | (r0, r1, r2) => k (.agg [.int .i64 r0, .int .i64 r1, .own 0], [.vec 5 (.int .u8) r2 true])) :=
  F74_eqg fuel (F_ref05_New fuel) (F_ref11_cell fuel) (F_ref05_Put_a2e fuel) x0 x1 x2 x3 x4 x5 x6 x7 x8 x9 x10 x11 x12 k
theorem hG74 (fuel : Nat) : GOK Try.prog (G74 fuel) :=
  gok_cons ⟨ok81 fuel, enters_of Try.func81 (by kernel_rfl) rfl⟩ <|
  gok_cons ⟨ok82 fuel, enters_of Try.func82 (by kernel_rfl) rfl⟩ <|
  gok_cons ⟨ok127_a2e fuel, enters_of Try.func127 (by kernel_rfl) rfl⟩ <|
  gok_nil
theorem B74_2_blk (fuel : Nat) : BlkOK Try.prog Try.f74.ntmps (.block 2 (.loop (bodyOf 2 Try.f74))) (B74_2 fuel) :=
  blk_of (blk_of_code tab_ok (hG74 fuel) mixed (J := J74_2 fuel) (kp := kp74) (fuel := fuel) (by kernel_rfl) (fun q hq => by
    rw [(by kernel_rfl : obl (J74_2 fuel) (.block 2 (.loop (bodyOf 2 Try.f74))) = [])] at hq
    cases hq)) (B74_2_ok fuel)
theorem B74_0_blk (fuel : Nat) : BlkOK Try.prog Try.f74.ntmps (.block 0 (.loop (bodyOf 0 Try.f74))) (B74_0 fuel) :=
  blk_of (blk_of_code tab_ok (hG74 fuel) mixed (J := J74_0 fuel) (kp := kp74) (fuel := fuel) (by kernel_rfl) (fun q hq => by
    rw [(by kernel_rfl : obl (J74_0 fuel) (.block 0 (.loop (bodyOf 0 Try.f74))) = [(.block 2 (.loop (bodyOf 2 Try.f74)), B74_2 fuel)])] at hq
    simp only [List.mem_cons, List.not_mem_nil, or_false] at hq
    subst hq
    · exact B74_2_blk fuel)) (B74_0_ok fuel)
theorem fok74 (fuel : Nat) : FnOK Try.prog 74 (evalFn tab (G74 fuel) (J74 fuel) kp74 fuel Try.f74) :=
  fn_ok tab_ok (hG74 fuel) mixed Try.func74 (c := (Try.f74.body).getD .skip) rfl (fun q hq => by
    rw [(by kernel_rfl : obl (J74 fuel) ((Try.f74.body).getD .skip) = [(.block 0 (.loop (bodyOf 0 Try.f74)), B74_0 fuel)])] at hq
    simp only [List.mem_cons, List.not_mem_nil, or_false] at hq
    subst hq
    · exact B74_0_blk fuel)
noncomputable def mt74 : List Ev.SV → List Ev.Ob → Bool := fun args objs => match args, objs with
  | [.agg [.int .i64 _, .int .i64 _, .int .i64 _, .int .i64 _, .int .i64 _, .int .i64 _, .int .i64 _, .int .i64 _, .bool _, .int .i64 _], .c (.sl (.pair (.int .i64) (.pair (.int .i64) (.sl (.int .u8)))) _), .c (.int .i64 _), .c (.int .i64 _)], [] => true
  | _, _ => false
noncomputable def spg74 (F : YF74) : Ev.Spec := fun args objs k => match args, objs with
  | [.agg [.int .i64 x0, .int .i64 x1, .int .i64 x2, .int .i64 x3, .int .i64 x4, .int .i64 x5, .int .i64 x6, .int .i64 x7, .bool x8, .int .i64 x9], .c (.sl (.pair (.int .i64) (.pair (.int .i64) (.sl (.int .u8)))) x10), .c (.int .i64 x11), .c (.int .i64 x12)], [] => bif true then F x0 x1 x2 x3 x4 x5 x6 x7 x8 x9 x10 x11 x12 (fun r => match r with | (r0, r1, r2) => k (.agg [.int .i64 r0, .int .i64 r1, .own 0], [.vec 5 (.int .u8) r2 true])) else none
  | _, _ => none
noncomputable def spec74 (fuel : Nat) : Ev.Spec := spg74 (F_ref11_skipped fuel)
theorem ok74 (fuel : Nat) : FnOK Try.prog 74 (spec74 fuel) := by
  intro args objs kk r h
  unfold spec74 spg74 at h
  split at h
  · skip
    obtain ⟨hb, h⟩ := cond_some' h
    simp only [Bool.and_eq_true, Nat.beq_eq, decide_eq_true_eq] at hb
    clear hb
    exact fok74 fuel _ _ kk r ((F74_eq fuel _ _ _ _ _ _ _ _ _ _ _ _ _ kk).trans h)
  · cases h
end Go.Proofs.Ytihfgpfofmjbaaa

set_option linter.unusedVariables false
set_option linter.unusedSimpArgs false
set_option maxRecDepth 100000
set_option maxHeartbeats 2000000
namespace Go.Proofs.Ytihfgpfofmjbaaa
open Go Ev
def kp80 (i : Nat) : Option (List Nat) := Ev.look i [(8, [1, 4, 12, 13]), (100000, []), (400000, [10])]
noncomputable def Gg80 (f73 : YF73) (f74 : YF74) (f : Nat) : Option Ev.Spec := Ev.look f [(73, spg73 f73), (74, spg74 f74)]
noncomputable def G80 (fuel : Nat) : Nat → Option Ev.Spec := Gg80 (F_ref11_asked fuel) (F_ref11_skipped fuel)
noncomputable def S_ref11_given_0 (fuel : Nat) (v : (List (Int × (Int × (List Int)))) × (List Int) × Int × Int × Int × (List Int)) (c : ((List (Int × (Int × (List Int)))) × (List Int) × Int × Int × Int × (List Int)) → Option Ans) (B : (Int → Option Ans) × (Unit → Option Ans)) : Option Ans := match v, B with
  | (x0, x1, x2, x3, x4, x5), (ret, b) =>
   bif Decidable.decide (x2 < (↑x1.length : Int)) then
      bif Decidable.decide ((0 : Int) ≤ x2 ∧ x2 < (↑x1.length : Int)) then
      bif Decidable.decide (x1.getD x2.toNat (0 : Int) < (0 : Int)) then
        ret ((2 : Int))
       else
        bif Decidable.decide ((0 : Int) ≤ x2 ∧ x2 < (↑x1.length : Int)) then
        bif Decidable.decide (x1.getD x2.toNat (0 : Int) ≥ (↑x0.length : Int)) then
          ret ((2 : Int))
         else
          bif Decidable.decide ((0 : Int) ≤ x2 ∧ x2 < (↑x5.length : Int)) then
          bif x5.getD x2.toNat (0 : Int) == (1 : Int) then
            bif Decidable.decide ((0 : Int) ≤ x2 ∧ x2 < (↑x1.length : Int)) then
            bif x1.getD x2.toNat (0 : Int) != (0 : Int) then
              ret ((2 : Int))
             else
              c (x0, x1, Go.IntKind.i64.wrap (x2 + (1 : Int)), x3, x4, x5)
            else none
           else
            c (x0, x1, Go.IntKind.i64.wrap (x2 + (1 : Int)), x3, x4, x5)
          else none
        else none
      else none
     else
      b ()
noncomputable def L_ref11_given_0 (fuel : Nat) (v : (List (Int × (Int × (List Int)))) × (List Int) × Int × Int × Int × (List Int)) (ret : (Int → Option Ans)) (b : (Unit → Option Ans)) : Option Ans := iter (S_ref11_given_0 fuel) fuel v (ret, b)
noncomputable def J80_0 (fuel : Nat) (i : Nat) : Option Ev.Blk := Ev.look i []
noncomputable def T80_0 (v : (List (Int × (Int × (List Int)))) × (List Int) × Int × Int × Int × (List Int)) : Ev.St := match v with | (x0, x1, x2, x3, x4, x5) => ⟨[(1, .c (.sl (.pair (.int .i64) (.pair (.int .i64) (.sl (.int .u8)))) x0)), (4, .c (.sl (.int .i64) x1)), (12, .c (.ptr 0 0)), (13, .c (.int .i64 x2))], [(0, .cells 39 [.int .i64 x3, .int .i64 x4, .own 1]), (1, .vec 5 (.int .u8) x5 true)], 2, 0⟩
noncomputable def E80_0 (K : Ev.Ex → Ev.St → Option Ans) : (Int → Option Ans) × (Unit → Option Ans) := ((fun v => match v with | x0 => K .ret ⟨[(10, .c (.int .i64 x0))], [], 0, 0⟩), (fun v => match v with | () => K .normal ⟨[], [], 0, 0⟩))
theorem S80_0_okg (fuel : Nat) (f73 : YF73) (f74 : YF74) (R : Ev.St → Option Ans) (K : Ev.Ex → Ev.St → Option Ans) (x0 : (List (Int × (Int × (List Int))))) (x1 : (List Int)) (x2 : Int) (x3 : Int) (x4 : Int) (x5 : (List Int)) : evalCode tab (Gg80 f73 f74) (J80_0 fuel) kp80 fuel (bodyOf 0 Try.f80) (T80_0 (x0, x1, x2, x3, x4, x5)) (lc kp80 8 0 R K) = (fun (c : ((List (Int × (Int × (List Int)))) × (List Int) × Int × Int × Int × (List Int)) → Option Ans) (B : (Int → Option Ans) × (Unit → Option Ans)) => match B with
  | (ret, b) =>
   bif Decidable.decide (x2 < (↑x1.length : Int)) then
      bif Decidable.decide ((0 : Int) ≤ x2 ∧ x2 < (↑x1.length : Int)) then
      bif Decidable.decide (x1.getD x2.toNat (0 : Int) < (0 : Int)) then
        ret ((2 : Int))
       else
        bif Decidable.decide ((0 : Int) ≤ x2 ∧ x2 < (↑x1.length : Int)) then
        bif Decidable.decide (x1.getD x2.toNat (0 : Int) ≥ (↑x0.length : Int)) then
          ret ((2 : Int))
         else
          bif Decidable.decide ((0 : Int) ≤ x2 ∧ x2 < (↑x5.length : Int)) then
          bif x5.getD x2.toNat (0 : Int) == (1 : Int) then
            bif Decidable.decide ((0 : Int) ≤ x2 ∧ x2 < (↑x1.length : Int)) then
            bif x1.getD x2.toNat (0 : Int) != (0 : Int) then
              ret ((2 : Int))
             else
              c (x0, x1, Go.IntKind.i64.wrap (x2 + (1 : Int)), x3, x4, x5)
            else none
           else
            c (x0, x1, Go.IntKind.i64.wrap (x2 + (1 : Int)), x3, x4, x5)
          else none
        else none
      else none
     else
      b ()) (fun v => R (T80_0 v)) (E80_0 K) := by
  kernel_rfl
theorem S80_0_ok (fuel : Nat) (R : Ev.St → Option Ans) (K : Ev.Ex → Ev.St → Option Ans) (x0 : (List (Int × (Int × (List Int))))) (x1 : (List Int)) (x2 : Int) (x3 : Int) (x4 : Int) (x5 : (List Int)) : evalCode tab (G80 fuel) (J80_0 fuel) kp80 fuel (bodyOf 0 Try.f80) (T80_0 (x0, x1, x2, x3, x4, x5)) (lc kp80 8 0 R K) = S_ref11_given_0 fuel (x0, x1, x2, x3, x4, x5) (fun v => R (T80_0 v)) (E80_0 K) :=
  S80_0_okg fuel (F_ref11_asked fuel) (F_ref11_skipped fuel) R K x0 x1 x2 x3 x4 x5
noncomputable def B80_0 (fuel : Nat) : Ev.Blk := fun st K => match canonO (kp80 8) st with
  | some s => (match s with
    | ⟨[(q0, .c (.sl (.pair (.int .i64) (.pair (.int .i64) (.sl (.int .u8)))) x0)), (q1, .c (.sl (.int .i64) x1)), (q2, .c (.ptr q3 q4)), (q5, .c (.int .i64 x2))], [(q6, .cells q7 [.int .i64 x3, .int .i64 x4, .own q8]), (q9, .vec q10 (.int .u8) x5 true)], q11, q12⟩ => bif Nat.beq q0 1 && Nat.beq q1 4 && Nat.beq q2 12 && Nat.beq q3 0 && Nat.beq q4 0 && Nat.beq q5 13 && Nat.beq q6 0 && Nat.beq q7 39 && Nat.beq q8 1 && Nat.beq q9 1 && Nat.beq q10 5 && Nat.beq q11 2 && Nat.beq q12 0 then iter (S_ref11_given_0 fuel) fuel (x0, x1, x2, x3, x4, x5) (E80_0 K) else none
    | _ => none)
  | none => none
theorem B80_0_ok (fuel : Nat) (st : Ev.St) (K : Ev.Ex → Ev.St → Option Ans) (r : Ans) (h : B80_0 fuel st K = some r) : evalCode tab (G80 fuel) (J80_0 fuel) kp80 fuel (.block 0 (.loop (bodyOf 0 Try.f80))) st K = some r := by
  unfold B80_0 at h
  split at h
  · rename_i s hs
    split at h
    · skip
      obtain ⟨hb, h⟩ := cond_some' h
      simp only [Bool.and_eq_true, Nat.beq_eq, decide_eq_true_eq] at hb
      obtain ⟨⟨⟨⟨⟨⟨⟨⟨⟨⟨⟨⟨rfl, rfl⟩, rfl⟩, rfl⟩, rfl⟩, rfl⟩, rfl⟩, rfl⟩, rfl⟩, rfl⟩, rfl⟩, rfl⟩, rfl⟩ := hb
      exact blk_loop (S := T80_0) (ks := E80_0) (step := S_ref11_given_0 fuel) (v := (_, _, _, _, _, _)) (by kernel_rfl) (by kernel_rfl) (fun R K v => by obtain ⟨x0, x1, x2, x3, x4, x5⟩ := v; exact S80_0_ok fuel R K x0 x1 x2 x3 x4 x5) hs h
    · cases h
  · cases h
noncomputable def J80 (fuel : Nat) (i : Nat) : Option Ev.Blk := Ev.look i [(100000, B80_0 fuel)]
noncomputable def F_ref11_given (fuel : Nat) (x0 : Int) (x1 : Int) (x2 : Int) (x3 : Int) (x4 : Int) (x5 : Int) (x6 : Int) (x7 : Int) (x8 : Bool) (x9 : Int) (x10 : (List (Int × Int × (List Int)))) (x11 : Int) (x12 : Int) (x13 : (List Int)) (k0 : (Int) → Option Ans) : Option Ans :=
  (F_ref11_asked fuel (x0) (x1) (x2) (x3) (x4) (x5) (x6) (x7) (x8) (x9) (x10) (x11) (x12)
    (fun y2 =>
      bif y2 != (0 : Int) then
       k0 y2
      else
       bif (↑x13.length : Int) != Go.IntKind.i64.wrap (x0 * x1) then
        k0 ((2 : Int))
       else
        (F_ref11_skipped fuel (x0) (x1) (x2) (x3) (x4) (x5) (x6) (x7) (x8) (x9) (x10) (x11) (x12)
          (fun (y8_0, y8_1, y8_2) =>
            (L_ref11_given_0 fuel (x10, x13, (0 : Int), y8_0, y8_1, y8_2)
              (fun ret0_0 =>
                k0 ret0_0)
              (fun () =>
                k0 ((0 : Int))))))))
abbrev YF80 : Type := (Int) → (Int) → (Int) → (Int) → (Int) → (Int) → (Int) → (Int) → (Bool) → (Int) → ((List (Int × Int × (List Int)))) → (Int) → (Int) → ((List Int)) → ((Int) → Option Ans) → Option Ans
theorem F80_eqg (fuel : Nat) (f73 : YF73) (f74 : YF74) (x0 : Int) (x1 : Int) (x2 : Int) (x3 : Int) (x4 : Int) (x5 : Int) (x6 : Int) (x7 : Int) (x8 : Bool) (x9 : Int) (x10 : (List (Int × Int × (List Int)))) (x11 : Int) (x12 : Int) (x13 : (List Int)) (k : Ev.Cont) : evalFn tab (Gg80 f73 f74) (J80 fuel) kp80 fuel Try.f80 [.agg [.int .i64 x0, .int .i64 x1, .int .i64 x2, .int .i64 x3, .int .i64 x4, .int .i64 x5, .int .i64 x6, .int .i64 x7, .bool x8, .int .i64 x9], .c (.sl (.pair (.int .i64) (.pair (.int .i64) (.sl (.int .u8)))) x10), .c (.int .i64 x11), .c (.int .i64 x12), .c (.sl (.int .i64) x13)] [] k = (fun  (k0 : (Int) → Option Ans) =>
  (f73 (x0) (x1) (x2) (x3) (x4) (x5) (x6) (x7) (x8) (x9) (x10) (x11) (x12)
    (fun y2 =>
      bif y2 != (0 : Int) then
       k0 y2
      else
       bif (↑x13.length : Int) != Go.IntKind.i64.wrap (x0 * x1) then
        k0 ((2 : Int))
       else
        (f74 (x0) (x1) (x2) (x3) (x4) (x5) (x6) (x7) (x8) (x9) (x10) (x11) (x12)
          (fun (y8_0, y8_1, y8_2) =>
            (L_ref11_given_0 fuel (x10, x13, (0 : Int), y8_0, y8_1, y8_2)
              (fun ret0_0 =>
                k0 ret0_0)
              (fun () =>
                k0 ((0 : Int))))))))) (fun r => match r with | r0 => k (.c (.int .i64 r0), [])) := by
  kernel_rfl
theorem F80_eq (fuel : Nat) (x0 : Int) (x1 : Int) (x2 : Int) (x3 : Int) (x4 : Int) (x5 : Int) (x6 : Int) (x7 : Int) (x8 : Bool) (x9 : Int) (x10 : (List (Int × Int × (List Int)))) (x11 : Int) (x12 : Int) (x13 : (List Int)) (k : Ev.Cont) : evalFn tab (G80 fuel) (J80 fuel) kp80 fuel Try.f80 [.agg [.int .i64 x0, .int .i64 x1, .int .i64 x2, .int .i64 x3, .int .i64 x4, .int .i64 x5, .int .i64 x6, .int .i64 x7, .bool x8, .int .i64 x9], .c (.sl (.pair (.int .i64) (.pair (.int .i64) (.sl (.int .u8)))) x10), .c (.int .i64 x11), .c (.int .i64 x12), .c (.sl (.int .i64) x13)] [] k = F_ref11_given fuel x0 x1 x2 x3 x4 x5 x6 x7 x8 x9 x10 x11 x12 x13 (fun r => match r with | r0 => k (.c (.int .i64 r0), [])) :=
  F80_eqg fuel (F_ref11_asked fuel) (F_ref11_skipped fuel) x0 x1 x2 x3 x4 x5 x6 x7 x8 x9 x10 x11 x12 x13 k
theorem hG80 (fuel : Nat) : GOK Try.prog (G80 fuel) :=
  gok_cons ⟨ok73 fuel, enters_of Try.func73 (by kernel_rfl) rfl⟩ <|
  gok_cons ⟨ok74 fuel, enters_of Try.func74 (by kernel_rfl) rfl⟩ <|
  gok_nil
theorem B80_0_blk (fuel : Nat) : BlkOK Try.prog Try.f80.ntmps (.block 0 (.loop (bodyOf 0 Try.f80))) (B80_0 fuel) :=
  blk_of (blk_of_code tab_ok (hG80 fuel) mixed (J := J80_0 fuel) (kp := kp80) (fuel := fuel) (by kernel_rfl) (fun q hq => by
    rw [(by kernel_rfl : obl (J80_0 fuel) (.block 0 (.loop (bodyOf 0 Try.f80))) = [])] at hq
    cases hq)) (B80_0_ok fuel)
theorem fok80 (fuel : Nat) : FnOK Try.prog 80 (evalFn tab (G80 fuel) (J80 fuel) kp80 fuel Try.f80) :=
  fn_ok tab_ok (hG80 fuel) mixed Try.func80 (c := (Try.f80.body).getD .skip) rfl (fun q hq => by
    rw [(by kernel_rfl : obl (J80 fuel) ((Try.f80.body).getD .skip) = [(.block 0 (.loop (bodyOf 0 Try.f80)), B80_0 fuel)])] at hq
    simp only [List.mem_cons, List.not_mem_nil, or_false] at hq
    subst hq
    · exact B80_0_blk fuel)
noncomputable def mt80 : List Ev.SV → List Ev.Ob → Bool := fun args objs => match args, objs with
  | [.agg [.int .i64 _, .int .i64 _, .int .i64 _, .int .i64 _, .int .i64 _, .int .i64 _, .int .i64 _, .int .i64 _, .bool _, .int .i64 _], .c (.sl (.pair (.int .i64) (.pair (.int .i64) (.sl (.int .u8)))) _), .c (.int .i64 _), .c (.int .i64 _), .c (.sl (.int .i64) _)], [] => true
  | _, _ => false
noncomputable def spg80 (F : YF80) : Ev.Spec := fun args objs k => match args, objs with
  | [.agg [.int .i64 x0, .int .i64 x1, .int .i64 x2, .int .i64 x3, .int .i64 x4, .int .i64 x5, .int .i64 x6, .int .i64 x7, .bool x8, .int .i64 x9], .c (.sl (.pair (.int .i64) (.pair (.int .i64) (.sl (.int .u8)))) x10), .c (.int .i64 x11), .c (.int .i64 x12), .c (.sl (.int .i64) x13)], [] => bif true then F x0 x1 x2 x3 x4 x5 x6 x7 x8 x9 x10 x11 x12 x13 (fun r => match r with | r0 => k (.c (.int .i64 r0), [])) else none
  | _, _ => none
noncomputable def spec80 (fuel : Nat) : Ev.Spec := spg80 (F_ref11_given fuel)
theorem ok80 (fuel : Nat) : FnOK Try.prog 80 (spec80 fuel) := by
  intro args objs kk r h
  unfold spec80 spg80 at h
  split at h
  · skip
    obtain ⟨hb, h⟩ := cond_some' h
    simp only [Bool.and_eq_true, Nat.beq_eq, decide_eq_true_eq] at hb
    clear hb
    exact fok80 fuel _ _ kk r ((F80_eq fuel _ _ _ _ _ _ _ _ _ _ _ _ _ _ kk).trans h)
  · cases h
end Go.Proofs.Ytihfgpfofmjbaaa

set_option linter.unusedVariables false
set_option linter.unusedSimpArgs false
set_option maxRecDepth 100000
set_option maxHeartbeats 2000000
namespace Go.Proofs.Ytihfgpfofmjbaaa
open Go Ev
def kp25 (i : Nat) : Option (List Nat) := Ev.look i [(7, [1, 4, 5, 10, 13, 15, 16]), (100000, [10, 13]), (200010, [5]), (200011, [1, 4, 5, 13]), (400000, [10, 11])]
noncomputable def Gg25 (f74 : YF74) (f80 : YF80) (f81 : YF81) (f82 : YF82) (f83_65b : YF83_65b) (f : Nat) : Option Ev.Spec := Ev.look f [(74, spg74 f74), (80, spg80 f80), (81, spg81 f81), (82, spg82 f82), (1000083, spg83_65b f83_65b)]
noncomputable def G25 (fuel : Nat) : Nat → Option Ev.Spec := Gg25 (F_ref11_skipped fuel) (F_ref11_given fuel) (F_ref05_New fuel) (F_ref11_cell fuel) (F_ref05_Lay_65b fuel)
noncomputable def S_ref11_Render_0 (fuel : Nat) (v : (List (Int × (Int × (List Int)))) × (List Int) × Int × Int × Int × Int × Int × Int × Int × Int × Int × Bool × Int × Int × Int × Int × Int × Int × Int × (List Int) × (List Int) × (List Int)) (c : ((List (Int × (Int × (List Int)))) × (List Int) × Int × Int × Int × Int × Int × Int × Int × Int × Int × Bool × Int × Int × Int × Int × Int × Int × Int × (List Int) × (List Int) × (List Int)) → Option Ans) (B : (Int × Int × Int × Int × (List Int) × (List Int) → Option Ans)) : Option Ans := match v, B with
  | (x0, x1, x2, x3, x4, x5, x6, x7, x8, x9, x10, x11, x12, x13, x14, x15, x16, x17, x18, x19, x20, x21), b =>
   bif Decidable.decide (x2 < (↑x1.length : Int)) then
      bif Decidable.decide ((0 : Int) ≤ x2 ∧ x2 < (↑x21.length : Int)) then
      bif x21.getD x2.toNat (0 : Int) == (0 : Int) then
        bif Decidable.decide (x3 = (0 : Int)) then
         none
        else
         bif Decidable.decide (x3 = (0 : Int)) then
          none
         else
          (F_ref11_cell fuel (x3) (x4) (x5) (x6) (x7) (x8) (x9) (x10) (x11) (x12) (Go.IntKind.i64.wrap (x2.tdiv x3)) (x2.tmod x3)
            (fun (y7_0, y7_1) =>
              bif Decidable.decide ((0 : Int) ≤ x2 ∧ x2 < (↑x1.length : Int)) then
              bif Decidable.decide ((0 : Int) ≤ x1.getD x2.toNat (0 : Int) ∧ x1.getD x2.toNat (0 : Int) < (↑x0.length : Int)) then
               (F_ref05_Lay_65b fuel (x15) (x16) ((x0.getD (Int.toNat (x1.getD x2.toNat (0 : Int))) ((0 : Int), (0 : Int), [])).fst) ((x0.getD (Int.toNat (x1.getD x2.toNat (0 : Int))) ((0 : Int), (0 : Int), [])).snd.fst) ((x0.getD (Int.toNat (x1.getD x2.toNat (0 : Int))) ((0 : Int), (0 : Int), [])).snd.snd) (y7_0) (y7_1) (x12) (x20)
                  (fun y13 =>
                    c (x0, x1, Go.IntKind.i64.wrap (x2 + (1 : Int)), x3, x4, x5, x6, x7, x8, x9, x10, x11, x12, x13, x14, x15, x16, x17, x18, x19, y13, x21)))
               else none
              else none))
       else
        c (x0, x1, Go.IntKind.i64.wrap (x2 + (1 : Int)), x3, x4, x5, x6, x7, x8, x9, x10, x11, x12, x13, x14, x15, x16, x17, x18, x19, x20, x21)
      else none
     else
      b (x13, x14, x15, x16, x19, x20)
noncomputable def L_ref11_Render_0 (fuel : Nat) (v : (List (Int × (Int × (List Int)))) × (List Int) × Int × Int × Int × Int × Int × Int × Int × Int × Int × Bool × Int × Int × Int × Int × Int × Int × Int × (List Int) × (List Int) × (List Int)) (b : (Int × Int × Int × Int × (List Int) × (List Int) → Option Ans)) : Option Ans := iter (S_ref11_Render_0 fuel) fuel v b
noncomputable def J25_0 (fuel : Nat) (i : Nat) : Option Ev.Blk := Ev.look i []
noncomputable def T25_0 (v : (List (Int × (Int × (List Int)))) × (List Int) × Int × Int × Int × Int × Int × Int × Int × Int × Int × Bool × Int × Int × Int × Int × Int × Int × Int × (List Int) × (List Int) × (List Int)) : Ev.St := match v with | (x0, x1, x2, x3, x4, x5, x6, x7, x8, x9, x10, x11, x12, x13, x14, x15, x16, x17, x18, x19, x20, x21) => ⟨[(1, .c (.sl (.pair (.int .i64) (.pair (.int .i64) (.sl (.int .u8)))) x0)), (4, .c (.sl (.int .i64) x1)), (5, .c (.ptr 0 0)), (10, .c (.ptr 1 0)), (13, .c (.ptr 2 0)), (15, .c (.ptr 3 0)), (16, .c (.int .i64 x2))], [(0, .cells 32 [.int .i64 x3, .int .i64 x4, .int .i64 x5, .int .i64 x6, .int .i64 x7, .int .i64 x8, .int .i64 x9, .int .i64 x10, .bool x11, .int .i64 x12]), (1, .cells 39 [.int .i64 x13, .int .i64 x14, .own 4]), (2, .cells 39 [.int .i64 x15, .int .i64 x16, .own 5]), (3, .cells 39 [.int .i64 x17, .int .i64 x18, .own 6]), (4, .vec 5 (.int .u8) x19 true), (5, .vec 5 (.int .u8) x20 true), (6, .vec 5 (.int .u8) x21 true)], 7, 0⟩
noncomputable def E25_0 (K : Ev.Ex → Ev.St → Option Ans) : (Int × Int × Int × Int × (List Int) × (List Int) → Option Ans) := (fun v => match v with | (x0, x1, x2, x3, x4, x5) => K .normal ⟨[(10, .c (.ptr 0 0)), (13, .c (.ptr 1 0))], [(0, .cells 39 [.int .i64 x0, .int .i64 x1, .own 2]), (1, .cells 39 [.int .i64 x2, .int .i64 x3, .own 3]), (2, .vec 5 (.int .u8) x4 true), (3, .vec 5 (.int .u8) x5 true)], 4, 0⟩)
theorem S25_0_okg (fuel : Nat) (f74 : YF74) (f80 : YF80) (f81 : YF81) (f82 : YF82) (f83_65b : YF83_65b) (R : Ev.St → Option Ans) (K : Ev.Ex → Ev.St → Option Ans) (x0 : (List (Int × (Int × (List Int))))) (x1 : (List Int)) (x2 : Int) (x3 : Int) (x4 : Int) (x5 : Int) (x6 : Int) (x7 : Int) (x8 : Int) (x9 : Int) (x10 : Int) (x11 : Bool) (x12 : Int) (x13 : Int) (x14 : Int) (x15 : Int) (x16 : Int) (x17 : Int) (x18 : Int) (x19 : (List Int)) (x20 : (List Int)) (x21 : (List Int)) : evalCode tab (Gg25 f74 f80 f81 f82 f83_65b) (J25_0 fuel) kp25 fuel (bodyOf 0 Try.f25) (T25_0 (x0, x1, x2, x3, x4, x5, x6, x7, x8, x9, x10, x11, x12, x13, x14, x15, x16, x17, x18, x19, x20, x21)) (lc kp25 7 0 R K) = (fun (c : ((List (Int × (Int × (List Int)))) × (List Int) × Int × Int × Int × Int × Int × Int × Int × Int × Int × Bool × Int × Int × Int × Int × Int × Int × Int × (List Int) × (List Int) × (List Int)) → Option Ans) (B : (Int × Int × Int × Int × (List Int) × (List Int) → Option Ans)) => match B with
  | b =>
   bif Decidable.decide (x2 < (↑x1.length : Int)) then
      bif Decidable.decide ((0 : Int) ≤ x2 ∧ x2 < (↑x21.length : Int)) then
      bif x21.getD x2.toNat (0 : Int) == (0 : Int) then
        bif Decidable.decide (x3 = (0 : Int)) then
         none
        else
         bif Decidable.decide (x3 = (0 : Int)) then
          none
         else
          (f82 (x3) (x4) (x5) (x6) (x7) (x8) (x9) (x10) (x11) (x12) (Go.IntKind.i64.wrap (x2.tdiv x3)) (x2.tmod x3)
            (fun (y7_0, y7_1) =>
              bif Decidable.decide ((0 : Int) ≤ x2 ∧ x2 < (↑x1.length : Int)) then
              bif Decidable.decide ((0 : Int) ≤ x1.getD x2.toNat (0 : Int) ∧ x1.getD x2.toNat (0 : Int) < (↑x0.length : Int)) then
               (f83_65b (x15) (x16) ((x0.getD (Int.toNat (x1.getD x2.toNat (0 : Int))) ((0 : Int), (0 : Int), [])).fst) ((x0.getD (Int.toNat (x1.getD x2.toNat (0 : Int))) ((0 : Int), (0 : Int), [])).snd.fst) ((x0.getD (Int.toNat (x1.getD x2.toNat (0 : Int))) ((0 : Int), (0 : Int), [])).snd.snd) (y7_0) (y7_1) (x12) (x20)
                  (fun y13 =>
                    c (x0, x1, Go.IntKind.i64.wrap (x2 + (1 : Int)), x3, x4, x5, x6, x7, x8, x9, x10, x11, x12, x13, x14, x15, x16, x17, x18, x19, y13, x21)))
               else none
              else none))
       else
        c (x0, x1, Go.IntKind.i64.wrap (x2 + (1 : Int)), x3, x4, x5, x6, x7, x8, x9, x10, x11, x12, x13, x14, x15, x16, x17, x18, x19, x20, x21)
      else none
     else
      b (x13, x14, x15, x16, x19, x20)) (fun v => R (T25_0 v)) (E25_0 K) := by
  kernel_rfl
theorem S25_0_ok (fuel : Nat) (R : Ev.St → Option Ans) (K : Ev.Ex → Ev.St → Option Ans) (x0 : (List (Int × (Int × (List Int))))) (x1 : (List Int)) (x2 : Int) (x3 : Int) (x4 : Int) (x5 : Int) (x6 : Int) (x7 : Int) (x8 : Int) (x9 : Int) (x10 : Int) (x11 : Bool) (x12 : Int) (x13 : Int) (x14 : Int) (x15 : Int) (x16 : Int) (x17 : Int) (x18 : Int) (x19 : (List Int)) (x20 : (List Int)) (x21 : (List Int)) : evalCode tab (G25 fuel) (J25_0 fuel) kp25 fuel (bodyOf 0 Try.f25) (T25_0 (x0, x1, x2, x3, x4, x5, x6, x7, x8, x9, x10, x11, x12, x13, x14, x15, x16, x17, x18, x19, x20, x21)) (lc kp25 7 0 R K) = S_ref11_Render_0 fuel (x0, x1, x2, x3, x4, x5, x6, x7, x8, x9, x10, x11, x12, x13, x14, x15, x16, x17, x18, x19, x20, x21) (fun v => R (T25_0 v)) (E25_0 K) :=
  S25_0_okg fuel (F_ref11_skipped fuel) (F_ref11_given fuel) (F_ref05_New fuel) (F_ref11_cell fuel) (F_ref05_Lay_65b fuel) R K x0 x1 x2 x3 x4 x5 x6 x7 x8 x9 x10 x11 x12 x13 x14 x15 x16 x17 x18 x19 x20 x21
noncomputable def B25_0 (fuel : Nat) : Ev.Blk := fun st K => match canonO (kp25 7) st with
  | some s => (match s with
    | ⟨[(q0, .c (.sl (.pair (.int .i64) (.pair (.int .i64) (.sl (.int .u8)))) x0)), (q1, .c (.sl (.int .i64) x1)), (q2, .c (.ptr q3 q4)), (q5, .c (.ptr q6 q7)), (q8, .c (.ptr q9 q10)), (q11, .c (.ptr q12 q13)), (q14, .c (.int .i64 x2))], [(q15, .cells q16 [.int .i64 x3, .int .i64 x4, .int .i64 x5, .int .i64 x6, .int .i64 x7, .int .i64 x8, .int .i64 x9, .int .i64 x10, .bool x11, .int .i64 x12]), (q17, .cells q18 [.int .i64 x13, .int .i64 x14, .own q19]), (q20, .cells q21 [.int .i64 x15, .int .i64 x16, .own q22]), (q23, .cells q24 [.int .i64 x17, .int .i64 x18, .own q25]), (q26, .vec q27 (.int .u8) x19 true), (q28, .vec q29 (.int .u8) x20 true), (q30, .vec q31 (.int .u8) x21 true)], q32, q33⟩ => bif Nat.beq q0 1 && Nat.beq q1 4 && Nat.beq q2 5 && Nat.beq q3 0 && Nat.beq q4 0 && Nat.beq q5 10 && Nat.beq q6 1 && Nat.beq q7 0 && Nat.beq q8 13 && Nat.beq q9 2 && Nat.beq q10 0 && Nat.beq q11 15 && Nat.beq q12 3 && Nat.beq q13 0 && Nat.beq q14 16 && Nat.beq q15 0 && Nat.beq q16 32 && Nat.beq q17 1 && Nat.beq q18 39 && Nat.beq q19 4 && Nat.beq q20 2 && Nat.beq q21 39 && Nat.beq q22 5 && Nat.beq q23 3 && Nat.beq q24 39 && Nat.beq q25 6 && Nat.beq q26 4 && Nat.beq q27 5 && Nat.beq q28 5 && Nat.beq q29 5 && Nat.beq q30 6 && Nat.beq q31 5 && Nat.beq q32 7 && Nat.beq q33 0 then iter (S_ref11_Render_0 fuel) fuel (x0, x1, x2, x3, x4, x5, x6, x7, x8, x9, x10, x11, x12, x13, x14, x15, x16, x17, x18, x19, x20, x21) (E25_0 K) else none
    | _ => none)
  | none => none
theorem B25_0_ok (fuel : Nat) (st : Ev.St) (K : Ev.Ex → Ev.St → Option Ans) (r : Ans) (h : B25_0 fuel st K = some r) : evalCode tab (G25 fuel) (J25_0 fuel) kp25 fuel (.block 0 (.loop (bodyOf 0 Try.f25))) st K = some r := by
  unfold B25_0 at h
  split at h
  · rename_i s hs
    split at h
    · skip
      obtain ⟨hb, h⟩ := cond_some' h
      simp only [Bool.and_eq_true, Nat.beq_eq, decide_eq_true_eq] at hb
      obtain ⟨⟨⟨⟨⟨⟨⟨⟨⟨⟨⟨⟨⟨⟨⟨⟨⟨⟨⟨⟨⟨⟨⟨⟨⟨⟨⟨⟨⟨⟨⟨⟨⟨rfl, rfl⟩, rfl⟩, rfl⟩, rfl⟩, rfl⟩, rfl⟩, rfl⟩, rfl⟩, rfl⟩, rfl⟩, rfl⟩, rfl⟩, rfl⟩, rfl⟩, rfl⟩, rfl⟩, rfl⟩, rfl⟩, rfl⟩, rfl⟩, rfl⟩, rfl⟩, rfl⟩, rfl⟩, rfl⟩, rfl⟩, rfl⟩, rfl⟩, rfl⟩, rfl⟩, rfl⟩, rfl⟩, rfl⟩ := hb
      exact blk_loop (S := T25_0) (ks := E25_0) (step := S_ref11_Render_0 fuel) (v := (_, _, _, _, _, _, _, _, _, _, _, _, _, _, _, _, _, _, _, _, _, _)) (by kernel_rfl) (by kernel_rfl) (fun R K v => by obtain ⟨x0, x1, x2, x3, x4, x5, x6, x7, x8, x9, x10, x11, x12, x13, x14, x15, x16, x17, x18, x19, x20, x21⟩ := v; exact S25_0_ok fuel R K x0 x1 x2 x3 x4 x5 x6 x7 x8 x9 x10 x11 x12 x13 x14 x15 x16 x17 x18 x19 x20 x21) hs h
    · cases h
  · cases h
noncomputable def J25 (fuel : Nat) (i : Nat) : Option Ev.Blk := Ev.look i [(100000, B25_0 fuel)]
noncomputable def F_ref11_Render (fuel : Nat) (x0 : Int) (x1 : Int) (x2 : Int) (x3 : Int) (x4 : Int) (x5 : Int) (x6 : Int) (x7 : Int) (x8 : Bool) (x9 : Int) (x10 : (List (Int × Int × (List Int)))) (x11 : Int) (x12 : Int) (x13 : (List Int)) (k0 : (Int × Int × Int × (List Int)) → Option Ans) : Option Ans :=
  (F_ref11_given fuel (x0) (x1) (x2) (x3) (x4) (x5) (x6) (x7) (x8) (x9) (x10) (x11) (x12) (x13)
    (fun y2 =>
      bif y2 != (0 : Int) then
       k0 ((0 : Int), (0 : Int), y2, [])
      else
       (F_ref05_New fuel (x11) (x12) ((0 : Int))
         (fun (y7_0, y7_1, y7_2, y7_3) =>
           (F_ref11_skipped fuel (x0) (x1) (x2) (x3) (x4) (x5) (x6) (x7) (x8) (x9) (x10) (x11) (x12)
             (fun (y11_0, y11_1, y11_2) =>
               (L_ref11_Render_0 fuel (x10, x13, (0 : Int), x0, x1, x2, x3, x4, x5, x6, x7, x8, x9, (0 : Int), (0 : Int), y7_0, y7_1, y11_0, y11_1, [], y7_3, y11_2)
                 (fun (b0_0, b0_1, b0_2, b0_3, b0_4, b0_5) =>
                   k0 (b0_2, b0_3, (0 : Int), b0_5)))))))))
abbrev YF25 : Type := (Int) → (Int) → (Int) → (Int) → (Int) → (Int) → (Int) → (Int) → (Bool) → (Int) → ((List (Int × Int × (List Int)))) → (Int) → (Int) → ((List Int)) → ((Int × Int × Int × (List Int)) → Option Ans) → Option Ans
theorem F25_eqg (fuel : Nat) (f74 : YF74) (f80 : YF80) (f81 : YF81) (f82 : YF82) (f83_65b : YF83_65b) (x0 : Int) (x1 : Int) (x2 : Int) (x3 : Int) (x4 : Int) (x5 : Int) (x6 : Int) (x7 : Int) (x8 : Bool) (x9 : Int) (x10 : (List (Int × Int × (List Int)))) (x11 : Int) (x12 : Int) (x13 : (List Int)) (k : Ev.Cont) : evalFn tab (Gg25 f74 f80 f81 f82 f83_65b) (J25 fuel) kp25 fuel Try.f25 [.agg [.int .i64 x0, .int .i64 x1, .int .i64 x2, .int .i64 x3, .int .i64 x4, .int .i64 x5, .int .i64 x6, .int .i64 x7, .bool x8, .int .i64 x9], .c (.sl (.pair (.int .i64) (.pair (.int .i64) (.sl (.int .u8)))) x10), .c (.int .i64 x11), .c (.int .i64 x12), .c (.sl (.int .i64) x13)] [] k = (fun  (k0 : (Int × Int × Int × (List Int)) → Option Ans) =>
  (f80 (x0) (x1) (x2) (x3) (x4) (x5) (x6) (x7) (x8) (x9) (x10) (x11) (x12) (x13)
    (fun y2 =>
      bif y2 != (0 : Int) then
       k0 ((0 : Int), (0 : Int), y2, [])
      else
       (f81 (x11) (x12) ((0 : Int))
         (fun (y7_0, y7_1, y7_2, y7_3) =>
           (f74 (x0) (x1) (x2) (x3) (x4) (x5) (x6) (x7) (x8) (x9) (x10) (x11) (x12)
             (fun (y11_0, y11_1, y11_2) =>
               (L_ref11_Render_0 fuel (x10, x13, (0 : Int), x0, x1, x2, x3, x4, x5, x6, x7, x8, x9, (0 : Int), (0 : Int), y7_0, y7_1, y11_0, y11_1, [], y7_3, y11_2)
                 (fun (b0_0, b0_1, b0_2, b0_3, b0_4, b0_5) =>
                   k0 (b0_2, b0_3, (0 : Int), b0_5)))))))))) (fun r => match r with | (r0, r1, r2, r3) => k (.tup [(true, [.int .i64 r0, .int .i64 r1, .own 0]), (false, [.int .i64 r2])], [.vec 5 (.int .u8) r3 true])) := by
  kernel_rfl
theorem F25_eq (fuel : Nat) (x0 : Int) (x1 : Int) (x2 : Int) (x3 : Int) (x4 : Int) (x5 : Int) (x6 : Int) (x7 : Int) (x8 : Bool) (x9 : Int) (x10 : (List (Int × Int × (List Int)))) (x11 : Int) (x12 : Int) (x13 : (List Int)) (k : Ev.Cont) : evalFn tab (G25 fuel) (J25 fuel) kp25 fuel Try.f25 [.agg [.int .i64 x0, .int .i64 x1, .int .i64 x2, .int .i64 x3, .int .i64 x4, .int .i64 x5, .int .i64 x6, .int .i64 x7, .bool x8, .int .i64 x9], .c (.sl (.pair (.int .i64) (.pair (.int .i64) (.sl (.int .u8)))) x10), .c (.int .i64 x11), .c (.int .i64 x12), .c (.sl (.int .i64) x13)] [] k = F_ref11_Render fuel x0 x1 x2 x3 x4 x5 x6 x7 x8 x9 x10 x11 x12 x13 (fun r => match r with | (r0, r1, r2, r3) => k (.tup [(true, [.int .i64 r0, .int .i64 r1, .own 0]), (false, [.int .i64 r2])], [.vec 5 (.int .u8) r3 true])) :=
  F25_eqg fuel (F_ref11_skipped fuel) (F_ref11_given fuel) (F_ref05_New fuel) (F_ref11_cell fuel) (F_ref05_Lay_65b fuel) x0 x1 x2 x3 x4 x5 x6 x7 x8 x9 x10 x11 x12 x13 k
theorem hG25 (fuel : Nat) : GOK Try.prog (G25 fuel) :=
  gok_cons ⟨ok74 fuel, enters_of Try.func74 (by kernel_rfl) rfl⟩ <|
  gok_cons ⟨ok80 fuel, enters_of Try.func80 (by kernel_rfl) rfl⟩ <|
  gok_cons ⟨ok81 fuel, enters_of Try.func81 (by kernel_rfl) rfl⟩ <|
  gok_cons ⟨ok82 fuel, enters_of Try.func82 (by kernel_rfl) rfl⟩ <|
  gok_cons ⟨ok83_65b fuel, enters_of Try.func83 (by kernel_rfl) rfl⟩ <|
  gok_nil
theorem B25_0_blk (fuel : Nat) : BlkOK Try.prog Try.f25.ntmps (.block 0 (.loop (bodyOf 0 Try.f25))) (B25_0 fuel) :=
  blk_of (blk_of_code tab_ok (hG25 fuel) mixed (J := J25_0 fuel) (kp := kp25) (fuel := fuel) (by kernel_rfl) (fun q hq => by
    rw [(by kernel_rfl : obl (J25_0 fuel) (.block 0 (.loop (bodyOf 0 Try.f25))) = [])] at hq
    cases hq)) (B25_0_ok fuel)
theorem fok25 (fuel : Nat) : FnOK Try.prog 25 (evalFn tab (G25 fuel) (J25 fuel) kp25 fuel Try.f25) :=
  fn_ok tab_ok (hG25 fuel) mixed Try.func25 (c := (Try.f25.body).getD .skip) rfl (fun q hq => by
    rw [(by kernel_rfl : obl (J25 fuel) ((Try.f25.body).getD .skip) = [(.block 0 (.loop (bodyOf 0 Try.f25)), B25_0 fuel)])] at hq
    simp only [List.mem_cons, List.not_mem_nil, or_false] at hq
    subst hq
    · exact B25_0_blk fuel)
noncomputable def mt25 : List Ev.SV → List Ev.Ob → Bool := fun args objs => match args, objs with
  | [.agg [.int .i64 _, .int .i64 _, .int .i64 _, .int .i64 _, .int .i64 _, .int .i64 _, .int .i64 _, .int .i64 _, .bool _, .int .i64 _], .c (.sl (.pair (.int .i64) (.pair (.int .i64) (.sl (.int .u8)))) _), .c (.int .i64 _), .c (.int .i64 _), .c (.sl (.int .i64) _)], [] => true
  | _, _ => false
noncomputable def spg25 (F : YF25) : Ev.Spec := fun args objs k => match args, objs with
  | [.agg [.int .i64 x0, .int .i64 x1, .int .i64 x2, .int .i64 x3, .int .i64 x4, .int .i64 x5, .int .i64 x6, .int .i64 x7, .bool x8, .int .i64 x9], .c (.sl (.pair (.int .i64) (.pair (.int .i64) (.sl (.int .u8)))) x10), .c (.int .i64 x11), .c (.int .i64 x12), .c (.sl (.int .i64) x13)], [] => bif true then F x0 x1 x2 x3 x4 x5 x6 x7 x8 x9 x10 x11 x12 x13 (fun r => match r with | (r0, r1, r2, r3) => k (.tup [(true, [.int .i64 r0, .int .i64 r1, .own 0]), (false, [.int .i64 r2])], [.vec 5 (.int .u8) r3 true])) else none
  | _, _ => none
noncomputable def spec25 (fuel : Nat) : Ev.Spec := spg25 (F_ref11_Render fuel)
theorem ok25 (fuel : Nat) : FnOK Try.prog 25 (spec25 fuel) := by
  intro args objs kk r h
  unfold spec25 spg25 at h
  split at h
  · skip
    obtain ⟨hb, h⟩ := cond_some' h
    simp only [Bool.and_eq_true, Nat.beq_eq, decide_eq_true_eq] at hb
    clear hb
    exact fok25 fuel _ _ kk r ((F25_eq fuel _ _ _ _ _ _ _ _ _ _ _ _ _ _ kk).trans h)
  · cases h
end Go.Proofs.Ytihfgpfofmjbaaa

set_option linter.unusedVariables false
set_option linter.unusedSimpArgs false
set_option maxRecDepth 100000
set_option maxHeartbeats 2000000
namespace Go.Proofs.Ytihfgpfofmjbaaa
open Go Ev
def kp23 (i : Nat) : Option (List Nat) := Ev.look i []
noncomputable def Gg23 (f73 : YF73) (f74 : YF74) (f : Nat) : Option Ev.Spec := Ev.look f [(73, spg73 f73), (74, spg74 f74)]
noncomputable def G23 (fuel : Nat) : Nat → Option Ev.Spec := Gg23 (F_ref11_asked fuel) (F_ref11_skipped fuel)
noncomputable def J23 (fuel : Nat) (i : Nat) : Option Ev.Blk := Ev.look i []
noncomputable def F_ref11_Skipped (fuel : Nat) (x0 : Int) (x1 : Int) (x2 : Int) (x3 : Int) (x4 : Int) (x5 : Int) (x6 : Int) (x7 : Int) (x8 : Bool) (x9 : Int) (x10 : (List (Int × Int × (List Int)))) (x11 : Int) (x12 : Int) (k0 : (Int × Int × Int × (List Int)) → Option Ans) : Option Ans :=
  (F_ref11_asked fuel (x0) (x1) (x2) (x3) (x4) (x5) (x6) (x7) (x8) (x9) (x10) (x11) (x12)
    (fun y2 =>
      bif y2 != (0 : Int) then
       k0 ((0 : Int), (0 : Int), y2, [])
      else
       (F_ref11_skipped fuel (x0) (x1) (x2) (x3) (x4) (x5) (x6) (x7) (x8) (x9) (x10) (x11) (x12)
         (fun (y7_0, y7_1, y7_2) =>
           k0 (y7_0, y7_1, (0 : Int), y7_2)))))
abbrev YF23 : Type := (Int) → (Int) → (Int) → (Int) → (Int) → (Int) → (Int) → (Int) → (Bool) → (Int) → ((List (Int × Int × (List Int)))) → (Int) → (Int) → ((Int × Int × Int × (List Int)) → Option Ans) → Option Ans
theorem F23_eqg (fuel : Nat) (f73 : YF73) (f74 : YF74) (x0 : Int) (x1 : Int) (x2 : Int) (x3 : Int) (x4 : Int) (x5 : Int) (x6 : Int) (x7 : Int) (x8 : Bool) (x9 : Int) (x10 : (List (Int × Int × (List Int)))) (x11 : Int) (x12 : Int) (k : Ev.Cont) : evalFn tab (Gg23 f73 f74) (J23 fuel) kp23 fuel Try.f23 [.agg [.int .i64 x0, .int .i64 x1, .int .i64 x2, .int .i64 x3, .int .i64 x4, .int .i64 x5, .int .i64 x6, .int .i64 x7, .bool x8, .int .i64 x9], .c (.sl (.pair (.int .i64) (.pair (.int .i64) (.sl (.int .u8)))) x10), .c (.int .i64 x11), .c (.int .i64 x12)] [] k = (fun  (k0 : (Int × Int × Int × (List Int)) → Option Ans) =>
  (f73 (x0) (x1) (x2) (x3) (x4) (x5) (x6) (x7) (x8) (x9) (x10) (x11) (x12)
    (fun y2 =>
      bif y2 != (0 : Int) then
       k0 ((0 : Int), (0 : Int), y2, [])
      else
       (f74 (x0) (x1) (x2) (x3) (x4) (x5) (x6) (x7) (x8) (x9) (x10) (x11) (x12)
         (fun (y7_0, y7_1, y7_2) =>
           k0 (y7_0, y7_1, (0 : Int), y7_2)))))) (fun r => match r with | (r0, r1, r2, r3) => k (.tup [(true, [.int .i64 r0, .int .i64 r1, .own 0]), (false, [.int .i64 r2])], [.vec 5 (.int .u8) r3 true])) := by
  kernel_rfl
theorem F23_eq (fuel : Nat) (x0 : Int) (x1 : Int) (x2 : Int) (x3 : Int) (x4 : Int) (x5 : Int) (x6 : Int) (x7 : Int) (x8 : Bool) (x9 : Int) (x10 : (List (Int × Int × (List Int)))) (x11 : Int) (x12 : Int) (k : Ev.Cont) : evalFn tab (G23 fuel) (J23 fuel) kp23 fuel Try.f23 [.agg [.int .i64 x0, .int .i64 x1, .int .i64 x2, .int .i64 x3, .int .i64 x4, .int .i64 x5, .int .i64 x6, .int .i64 x7, .bool x8, .int .i64 x9], .c (.sl (.pair (.int .i64) (.pair (.int .i64) (.sl (.int .u8)))) x10), .c (.int .i64 x11), .c (.int .i64 x12)] [] k = F_ref11_Skipped fuel x0 x1 x2 x3 x4 x5 x6 x7 x8 x9 x10 x11 x12 (fun r => match r with | (r0, r1, r2, r3) => k (.tup [(true, [.int .i64 r0, .int .i64 r1, .own 0]), (false, [.int .i64 r2])], [.vec 5 (.int .u8) r3 true])) :=
  F23_eqg fuel (F_ref11_asked fuel) (F_ref11_skipped fuel) x0 x1 x2 x3 x4 x5 x6 x7 x8 x9 x10 x11 x12 k
theorem hG23 (fuel : Nat) : GOK Try.prog (G23 fuel) :=
  gok_cons ⟨ok73 fuel, enters_of Try.func73 (by kernel_rfl) rfl⟩ <|
  gok_cons ⟨ok74 fuel, enters_of Try.func74 (by kernel_rfl) rfl⟩ <|
  gok_nil
theorem fok23 (fuel : Nat) : FnOK Try.prog 23 (evalFn tab (G23 fuel) (J23 fuel) kp23 fuel Try.f23) :=
  fn_ok tab_ok (hG23 fuel) mixed Try.func23 (c := (Try.f23.body).getD .skip) rfl (fun q hq => by
    rw [(by kernel_rfl : obl (J23 fuel) ((Try.f23.body).getD .skip) = [])] at hq
    cases hq)
noncomputable def mt23 : List Ev.SV → List Ev.Ob → Bool := fun args objs => match args, objs with
  | [.agg [.int .i64 _, .int .i64 _, .int .i64 _, .int .i64 _, .int .i64 _, .int .i64 _, .int .i64 _, .int .i64 _, .bool _, .int .i64 _], .c (.sl (.pair (.int .i64) (.pair (.int .i64) (.sl (.int .u8)))) _), .c (.int .i64 _), .c (.int .i64 _)], [] => true
  | _, _ => false
noncomputable def spg23 (F : YF23) : Ev.Spec := fun args objs k => match args, objs with
  | [.agg [.int .i64 x0, .int .i64 x1, .int .i64 x2, .int .i64 x3, .int .i64 x4, .int .i64 x5, .int .i64 x6, .int .i64 x7, .bool x8, .int .i64 x9], .c (.sl (.pair (.int .i64) (.pair (.int .i64) (.sl (.int .u8)))) x10), .c (.int .i64 x11), .c (.int .i64 x12)], [] => bif true then F x0 x1 x2 x3 x4 x5 x6 x7 x8 x9 x10 x11 x12 (fun r => match r with | (r0, r1, r2, r3) => k (.tup [(true, [.int .i64 r0, .int .i64 r1, .own 0]), (false, [.int .i64 r2])], [.vec 5 (.int .u8) r3 true])) else none
  | _, _ => none
noncomputable def spec23 (fuel : Nat) : Ev.Spec := spg23 (F_ref11_Skipped fuel)
theorem ok23 (fuel : Nat) : FnOK Try.prog 23 (spec23 fuel) := by
  intro args objs kk r h
  unfold spec23 spg23 at h
  split at h
  · skip
    obtain ⟨hb, h⟩ := cond_some' h
    simp only [Bool.and_eq_true, Nat.beq_eq, decide_eq_true_eq] at hb
    clear hb
    exact fok23 fuel _ _ kk r ((F23_eq fuel _ _ _ _ _ _ _ _ _ _ _ _ _ kk).trans h)
  · cases h
end Go.Proofs.Ytihfgpfofmjbaaa

set_option linter.unusedVariables false
set_option linter.unusedSimpArgs false
set_option maxRecDepth 100000
set_option maxHeartbeats 2000000
namespace Go.Proofs.Ytihfgpfofmjbaaa
open Go Ev
def kp159 (i : Nat) : Option (List Nat) := Ev.look i []
noncomputable def Gg159 (f : Nat) : Option Ev.Spec := Ev.look f []
noncomputable def G159 (fuel : Nat) : Nat → Option Ev.Spec := Gg159
noncomputable def J159 (fuel : Nat) (i : Nat) : Option Ev.Blk := Ev.look i []
noncomputable def F_bitmap_fits (fuel : Nat) (x0 : Int) (x1 : Int) (k0 : (Bool) → Option Ans) : Option Ans :=
  bif Decidable.decide (x0 ≥ (0 : Int)) then
   bif Decidable.decide (x1 ≥ (0 : Int)) then
    bif Decidable.decide (x0 ≤ (200 : Int)) then
     bif Decidable.decide (x1 ≤ (200 : Int)) then
      k0 (Decidable.decide (Go.IntKind.i64.wrap (x0 * x1) ≤ (8192 : Int)))
     else
      k0 Bool.false
    else
     k0 Bool.false
   else
    k0 Bool.false
  else
   k0 Bool.false
abbrev YF159 : Type := (Int) → (Int) → ((Bool) → Option Ans) → Option Ans
theorem F159_eq (fuel : Nat) (x0 : Int) (x1 : Int) (k : Ev.Cont) : evalFn tab (G159 fuel) (J159 fuel) kp159 fuel Try.f159 [.c (.int .i64 x0), .c (.int .i64 x1)] [] k = F_bitmap_fits fuel x0 x1 (fun r => match r with | r0 => k (.c (.bool r0), [])) := by
  kernel_rfl
theorem hG159 (fuel : Nat) : GOK Try.prog (G159 fuel) :=
  gok_nil
theorem fok159 (fuel : Nat) : FnOK Try.prog 159 (evalFn tab (G159 fuel) (J159 fuel) kp159 fuel Try.f159) :=
  fn_ok tab_ok (hG159 fuel) mixed Try.func159 (c := (Try.f159.body).getD .skip) rfl (fun q hq => by
    rw [(by kernel_rfl : obl (J159 fuel) ((Try.f159.body).getD .skip) = [])] at hq
    cases hq)
noncomputable def mt159 : List Ev.SV → List Ev.Ob → Bool := fun args objs => match args, objs with
  | [.c (.int .i64 _), .c (.int .i64 _)], [] => true
  | _, _ => false
noncomputable def spg159 (F : YF159) : Ev.Spec := fun args objs k => match args, objs with
  | [.c (.int .i64 x0), .c (.int .i64 x1)], [] => bif true then F x0 x1 (fun r => match r with | r0 => k (.c (.bool r0), [])) else none
  | _, _ => none
noncomputable def spec159 (fuel : Nat) : Ev.Spec := spg159 (F_bitmap_fits fuel)
theorem ok159 (fuel : Nat) : FnOK Try.prog 159 (spec159 fuel) := by
  intro args objs kk r h
  unfold spec159 spg159 at h
  split at h
  · skip
    obtain ⟨hb, h⟩ := cond_some' h
    simp only [Bool.and_eq_true, Nat.beq_eq, decide_eq_true_eq] at hb
    clear hb
    exact fok159 fuel _ _ kk r ((F159_eq fuel _ _ kk).trans h)
  · cases h
end Go.Proofs.Ytihfgpfofmjbaaa

set_option linter.unusedVariables false
set_option linter.unusedSimpArgs false
set_option maxRecDepth 100000
set_option maxHeartbeats 2000000
namespace Go.Proofs.Ytihfgpfofmjbaaa
open Go Ev
def kp89 (i : Nat) : Option (List Nat) := Ev.look i [(4, [23, 24, 25]), (100000, []), (400000, [2])]
noncomputable def Gg89 (f159 : YF159) (f : Nat) : Option Ev.Spec := Ev.look f [(159, spg159 f159)]
noncomputable def G89 (fuel : Nat) : Nat → Option Ev.Spec := Gg89 (F_bitmap_fits fuel)
noncomputable def S_bitmap_Valid_0 (fuel : Nat) (v : (List Int) × Int × Int) (c : ((List Int) × Int × Int) → Option Ans) (B : (Bool → Option Ans) × (Unit → Option Ans)) : Option Ans := match v, B with
  | (x0, x1, x2), (ret, b) =>
   bif Decidable.decide (x2 < x1) then
      bif Decidable.decide ((0 : Int) ≤ x2 ∧ x2 < (↑x0.length : Int)) then
      bif Decidable.decide (x0.getD x2.toNat (0 : Int) > (1 : Int)) then
        ret Bool.false
       else
        c (x0, x1, Go.IntKind.i64.wrap (x2 + (1 : Int)))
      else none
     else
      b ()
noncomputable def L_bitmap_Valid_0 (fuel : Nat) (v : (List Int) × Int × Int) (ret : (Bool → Option Ans)) (b : (Unit → Option Ans)) : Option Ans := iter (S_bitmap_Valid_0 fuel) fuel v (ret, b)
noncomputable def J89_0 (fuel : Nat) (i : Nat) : Option Ev.Blk := Ev.look i []
noncomputable def T89_0 (v : (List Int) × Int × Int) : Ev.St := match v with | (x0, x1, x2) => ⟨[(23, .c (.sl (.int .u8) x0)), (24, .c (.int .i64 x1)), (25, .c (.int .i64 x2))], [], 0, 0⟩
noncomputable def E89_0 (K : Ev.Ex → Ev.St → Option Ans) : (Bool → Option Ans) × (Unit → Option Ans) := ((fun v => match v with | x0 => K .ret ⟨[(2, .c (.bool x0))], [], 0, 0⟩), (fun v => match v with | () => K .normal ⟨[], [], 0, 0⟩))
theorem S89_0_okg (fuel : Nat) (f159 : YF159) (R : Ev.St → Option Ans) (K : Ev.Ex → Ev.St → Option Ans) (x0 : (List Int)) (x1 : Int) (x2 : Int) : evalCode tab (Gg89 f159) (J89_0 fuel) kp89 fuel (bodyOf 0 Try.f89) (T89_0 (x0, x1, x2)) (lc kp89 4 0 R K) = (fun (c : ((List Int) × Int × Int) → Option Ans) (B : (Bool → Option Ans) × (Unit → Option Ans)) => match B with
  | (ret, b) =>
   bif Decidable.decide (x2 < x1) then
      bif Decidable.decide ((0 : Int) ≤ x2 ∧ x2 < (↑x0.length : Int)) then
      bif Decidable.decide (x0.getD x2.toNat (0 : Int) > (1 : Int)) then
        ret Bool.false
       else
        c (x0, x1, Go.IntKind.i64.wrap (x2 + (1 : Int)))
      else none
     else
      b ()) (fun v => R (T89_0 v)) (E89_0 K) := by
  kernel_rfl
theorem S89_0_ok (fuel : Nat) (R : Ev.St → Option Ans) (K : Ev.Ex → Ev.St → Option Ans) (x0 : (List Int)) (x1 : Int) (x2 : Int) : evalCode tab (G89 fuel) (J89_0 fuel) kp89 fuel (bodyOf 0 Try.f89) (T89_0 (x0, x1, x2)) (lc kp89 4 0 R K) = S_bitmap_Valid_0 fuel (x0, x1, x2) (fun v => R (T89_0 v)) (E89_0 K) :=
  S89_0_okg fuel (F_bitmap_fits fuel) R K x0 x1 x2
noncomputable def B89_0 (fuel : Nat) : Ev.Blk := fun st K => match canonO (kp89 4) st with
  | some s => (match s with
    | ⟨[(q0, .c (.sl (.int .u8) x0)), (q1, .c (.int .i64 x1)), (q2, .c (.int .i64 x2))], [], q3, q4⟩ => bif Nat.beq q0 23 && Nat.beq q1 24 && Nat.beq q2 25 && Nat.beq q3 0 && Nat.beq q4 0 then iter (S_bitmap_Valid_0 fuel) fuel (x0, x1, x2) (E89_0 K) else none
    | _ => none)
  | none => none
theorem B89_0_ok (fuel : Nat) (st : Ev.St) (K : Ev.Ex → Ev.St → Option Ans) (r : Ans) (h : B89_0 fuel st K = some r) : evalCode tab (G89 fuel) (J89_0 fuel) kp89 fuel (.block 0 (.loop (bodyOf 0 Try.f89))) st K = some r := by
  unfold B89_0 at h
  split at h
  · rename_i s hs
    split at h
    · skip
      obtain ⟨hb, h⟩ := cond_some' h
      simp only [Bool.and_eq_true, Nat.beq_eq, decide_eq_true_eq] at hb
      obtain ⟨⟨⟨⟨rfl, rfl⟩, rfl⟩, rfl⟩, rfl⟩ := hb
      exact blk_loop (S := T89_0) (ks := E89_0) (step := S_bitmap_Valid_0 fuel) (v := (_, _, _)) (by kernel_rfl) (by kernel_rfl) (fun R K v => by obtain ⟨x0, x1, x2⟩ := v; exact S89_0_ok fuel R K x0 x1 x2) hs h
    · cases h
  · cases h
noncomputable def J89 (fuel : Nat) (i : Nat) : Option Ev.Blk := Ev.look i [(100000, B89_0 fuel)]
noncomputable def F_bitmap_Valid (fuel : Nat) (x0 : Int) (x1 : Int) (x2 : (List Int)) (k0 : (Bool) → Option Ans) : Option Ans :=
  (F_bitmap_fits fuel (x0) (x1)
    (fun y2 =>
      bif !y2 then
       k0 Bool.false
      else
       bif (↑x2.length : Int) != Go.IntKind.i64.wrap (x0 * x1) then
        k0 Bool.false
       else
        (L_bitmap_Valid_0 fuel (x2, (↑x2.length : Int), (0 : Int))
          (fun ret0_0 =>
            k0 ret0_0)
          (fun () =>
            k0 Bool.true))))
abbrev YF89 : Type := (Int) → (Int) → ((List Int)) → ((Bool) → Option Ans) → Option Ans
theorem F89_eqg (fuel : Nat) (f159 : YF159) (x0 : Int) (x1 : Int) (x2 : (List Int)) (k : Ev.Cont) : evalFn tab (Gg89 f159) (J89 fuel) kp89 fuel Try.f89 [.agg [.int .i64 x0, .int .i64 x1, .sl (.int .u8) x2]] [] k = (fun  (k0 : (Bool) → Option Ans) =>
  (f159 (x0) (x1)
    (fun y2 =>
      bif !y2 then
       k0 Bool.false
      else
       bif (↑x2.length : Int) != Go.IntKind.i64.wrap (x0 * x1) then
        k0 Bool.false
       else
        (L_bitmap_Valid_0 fuel (x2, (↑x2.length : Int), (0 : Int))
          (fun ret0_0 =>
            k0 ret0_0)
          (fun () =>
            k0 Bool.true))))) (fun r => match r with | r0 => k (.c (.bool r0), [])) := by
  kernel_rfl
theorem F89_eq (fuel : Nat) (x0 : Int) (x1 : Int) (x2 : (List Int)) (k : Ev.Cont) : evalFn tab (G89 fuel) (J89 fuel) kp89 fuel Try.f89 [.agg [.int .i64 x0, .int .i64 x1, .sl (.int .u8) x2]] [] k = F_bitmap_Valid fuel x0 x1 x2 (fun r => match r with | r0 => k (.c (.bool r0), [])) :=
  F89_eqg fuel (F_bitmap_fits fuel) x0 x1 x2 k
theorem hG89 (fuel : Nat) : GOK Try.prog (G89 fuel) :=
  gok_cons ⟨ok159 fuel, enters_of Try.func159 (by kernel_rfl) rfl⟩ <|
  gok_nil
theorem B89_0_blk (fuel : Nat) : BlkOK Try.prog Try.f89.ntmps (.block 0 (.loop (bodyOf 0 Try.f89))) (B89_0 fuel) :=
  blk_of (blk_of_code tab_ok (hG89 fuel) mixed (J := J89_0 fuel) (kp := kp89) (fuel := fuel) (by kernel_rfl) (fun q hq => by
    rw [(by kernel_rfl : obl (J89_0 fuel) (.block 0 (.loop (bodyOf 0 Try.f89))) = [])] at hq
    cases hq)) (B89_0_ok fuel)
theorem fok89 (fuel : Nat) : FnOK Try.prog 89 (evalFn tab (G89 fuel) (J89 fuel) kp89 fuel Try.f89) :=
  fn_ok tab_ok (hG89 fuel) mixed Try.func89 (c := (Try.f89.body).getD .skip) rfl (fun q hq => by
    rw [(by kernel_rfl : obl (J89 fuel) ((Try.f89.body).getD .skip) = [(.block 0 (.loop (bodyOf 0 Try.f89)), B89_0 fuel)])] at hq
    simp only [List.mem_cons, List.not_mem_nil, or_false] at hq
    subst hq
    · exact B89_0_blk fuel)
noncomputable def mt89 : List Ev.SV → List Ev.Ob → Bool := fun args objs => match args, objs with
  | [.agg [.int .i64 _, .int .i64 _, .sl (.int .u8) _]], [] => true
  | _, _ => false
noncomputable def spg89 (F : YF89) : Ev.Spec := fun args objs k => match args, objs with
  | [.agg [.int .i64 x0, .int .i64 x1, .sl (.int .u8) x2]], [] => bif true then F x0 x1 x2 (fun r => match r with | r0 => k (.c (.bool r0), [])) else none
  | _, _ => none
noncomputable def spec89 (fuel : Nat) : Ev.Spec := spg89 (F_bitmap_Valid fuel)
theorem ok89 (fuel : Nat) : FnOK Try.prog 89 (spec89 fuel) := by
  intro args objs kk r h
  unfold spec89 spg89 at h
  split at h
  · skip
    obtain ⟨hb, h⟩ := cond_some' h
    simp only [Bool.and_eq_true, Nat.beq_eq, decide_eq_true_eq] at hb
    clear hb
    exact fok89 fuel _ _ kk r ((F89_eq fuel _ _ _ kk).trans h)
  · cases h
end Go.Proofs.Ytihfgpfofmjbaaa

set_option linter.unusedVariables false
set_option linter.unusedSimpArgs false
set_option maxRecDepth 100000
set_option maxHeartbeats 2000000
namespace Go.Proofs.Ytihfgpfofmjbaaa
open Go Ev
def kp153 (i : Nat) : Option (List Nat) := Ev.look i []
noncomputable def Gg153 (f : Nat) : Option Ev.Spec := Ev.look f []
noncomputable def G153 (fuel : Nat) : Nat → Option Ev.Spec := Gg153
noncomputable def J153 (fuel : Nat) (i : Nat) : Option Ev.Blk := Ev.look i []
noncomputable def F_bitmap_at (fuel : Nat) (x0 : Int) (x1 : Int) (x2 : (List Int)) (x3 : Int) (x4 : Int) (k0 : (Int) → Option Ans) : Option Ans :=
  bif Decidable.decide (x3 < (0 : Int)) then
   k0 ((0 : Int))
  else
   bif Decidable.decide (x4 < (0 : Int)) then
    k0 ((0 : Int))
   else
    bif Decidable.decide (x3 ≥ x0) then
     k0 ((0 : Int))
    else
     bif Decidable.decide (x4 ≥ x1) then
      k0 ((0 : Int))
     else
      bif Decidable.decide ((0 : Int) ≤ Go.IntKind.i64.wrap (Go.IntKind.i64.wrap (x4 * x0) + x3) ∧ Go.IntKind.i64.wrap (Go.IntKind.i64.wrap (x4 * x0) + x3) < (↑x2.length : Int)) then
      k0 (x2.getD (Go.IntKind.i64.wrap (Go.IntKind.i64.wrap (x4 * x0) + x3)).toNat (0 : Int))
      else none
abbrev YF153 : Type := (Int) → (Int) → ((List Int)) → (Int) → (Int) → ((Int) → Option Ans) → Option Ans
theorem F153_eq (fuel : Nat) (x0 : Int) (x1 : Int) (x2 : (List Int)) (x3 : Int) (x4 : Int) (k : Ev.Cont) : evalFn tab (G153 fuel) (J153 fuel) kp153 fuel Try.f153 [.agg [.int .i64 x0, .int .i64 x1, .sl (.int .u8) x2], .c (.int .i64 x3), .c (.int .i64 x4)] [] k = F_bitmap_at fuel x0 x1 x2 x3 x4 (fun r => match r with | r0 => k (.c (.int .u8 r0), [])) := by
  kernel_rfl
theorem hG153 (fuel : Nat) : GOK Try.prog (G153 fuel) :=
  gok_nil
theorem fok153 (fuel : Nat) : FnOK Try.prog 153 (evalFn tab (G153 fuel) (J153 fuel) kp153 fuel Try.f153) :=
  fn_ok tab_ok (hG153 fuel) mixed Try.func153 (c := (Try.f153.body).getD .skip) rfl (fun q hq => by
    rw [(by kernel_rfl : obl (J153 fuel) ((Try.f153.body).getD .skip) = [])] at hq
    cases hq)
noncomputable def mt153 : List Ev.SV → List Ev.Ob → Bool := fun args objs => match args, objs with
  | [.agg [.int .i64 _, .int .i64 _, .sl (.int .u8) _], .c (.int .i64 _), .c (.int .i64 _)], [] => true
  | _, _ => false
noncomputable def spg153 (F : YF153) : Ev.Spec := fun args objs k => match args, objs with
  | [.agg [.int .i64 x0, .int .i64 x1, .sl (.int .u8) x2], .c (.int .i64 x3), .c (.int .i64 x4)], [] => bif true then F x0 x1 x2 x3 x4 (fun r => match r with | r0 => k (.c (.int .u8 r0), [])) else none
  | _, _ => none
noncomputable def spec153 (fuel : Nat) : Ev.Spec := spg153 (F_bitmap_at fuel)
theorem ok153 (fuel : Nat) : FnOK Try.prog 153 (spec153 fuel) := by
  intro args objs kk r h
  unfold spec153 spg153 at h
  split at h
  · skip
    obtain ⟨hb, h⟩ := cond_some' h
    simp only [Bool.and_eq_true, Nat.beq_eq, decide_eq_true_eq] at hb
    clear hb
    exact fok153 fuel _ _ kk r ((F153_eq fuel _ _ _ _ _ kk).trans h)
  · cases h
end Go.Proofs.Ytihfgpfofmjbaaa

