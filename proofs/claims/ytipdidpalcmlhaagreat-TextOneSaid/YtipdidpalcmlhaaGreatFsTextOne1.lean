/- What the functions that TextOne reaches do: their typed texts, each with the proof that the machine does it. No condition. -/
import Derived.Test.YtipdidpalcmlhaaGreatEvX
set_option linter.unusedVariables false
set_option linter.unusedSimpArgs false
set_option linter.unusedSectionVars false
set_option linter.unusedVariables false
set_option linter.unusedSimpArgs false
set_option maxRecDepth 100000
set_option maxHeartbeats 2000000
namespace Go.Proofs.YtipdidpalcmlhaaGreat
open Go Ev
def kp48 (i : Nat) : Option (List Nat) := Ev.look i []
noncomputable def Gg48 (f : Nat) : Option Ev.Spec := Ev.look f []
noncomputable def G48 (fuel : Nat) : Nat → Option Ev.Spec := Gg48
noncomputable def J48 (fuel : Nat) (i : Nat) : Option Ev.Blk := Ev.look i []
noncomputable def F_coder_New (fuel : Nat) (x0 : Int) (x1 : Int) (k0 : (Int × Int × (List Int)) → Option Ans) : Option Ans :=
  bif x0 != (0 : Int) then
   bif x0 != (1 : Int) then
    k0 ((0 : Int), (2 : Int), [])
   else
    bif Decidable.decide (x1 < (0 : Int)) then
     k0 ((0 : Int), (2 : Int), [])
    else
     bif Decidable.decide (x1 > (8192 : Int)) then
      k0 ((0 : Int), (2 : Int), [])
     else
      bif Decidable.decide ((0 : Int) ≤ x1 ∧ x1 = x1 ∧ (↑(8 : Nat) : Int) * x1 ≤ (281474976710656 : Int) ∧ x1 ≤ (281474976710656 : Int)) then
      k0 (x0, (0 : Int), List.replicate x1.toNat (0 : Int))
      else none
  else
   bif Decidable.decide (x1 < (0 : Int)) then
    k0 ((0 : Int), (2 : Int), [])
   else
    bif Decidable.decide (x1 > (8192 : Int)) then
     k0 ((0 : Int), (2 : Int), [])
    else
     bif Decidable.decide ((0 : Int) ≤ x1 ∧ x1 = x1 ∧ (↑(8 : Nat) : Int) * x1 ≤ (281474976710656 : Int) ∧ x1 ≤ (281474976710656 : Int)) then
     k0 (x0, (0 : Int), List.replicate x1.toNat (0 : Int))
     else none
abbrev YF48 : Type := (Int) → (Int) → ((Int × Int × (List Int)) → Option Ans) → Option Ans
theorem F48_eq (fuel : Nat) (x0 : Int) (x1 : Int) (k : Ev.Cont) : evalFn tab (G48 fuel) (J48 fuel) kp48 fuel Tryz.f48 [.c (.int .i64 x0), .c (.int .i64 x1)] [] k = F_coder_New fuel x0 x1 (fun r => match r with | (r0, r1, r2) => k (.tup [(true, [.int .i64 r0, .own 0]), (false, [.int .i64 r1])], [.vec 3 (.int .i64) r2 true])) := by
  kernel_rfl
theorem hG48 (fuel : Nat) : GOK Tryz.prog (G48 fuel) :=
  gok_nil
theorem fok48 (fuel : Nat) : FnOK Tryz.prog 48 (evalFn tab (G48 fuel) (J48 fuel) kp48 fuel Tryz.f48) :=
  fn_ok tab_ok (hG48 fuel) mixed Tryz.func48 (c := (Tryz.f48.body).getD .skip) rfl (fun q hq => by
    rw [(by kernel_rfl : obl (J48 fuel) ((Tryz.f48.body).getD .skip) = [])] at hq
    cases hq)
noncomputable def mt48 : List Ev.SV → List Ev.Ob → Bool := fun args objs => match args, objs with
  | [.c (.int .i64 _), .c (.int .i64 _)], [] => true
  | _, _ => false
noncomputable def spg48 (F : YF48) : Ev.Spec := fun args objs k => match args, objs with
  | [.c (.int .i64 x0), .c (.int .i64 x1)], [] => bif true then F x0 x1 (fun r => match r with | (r0, r1, r2) => k (.tup [(true, [.int .i64 r0, .own 0]), (false, [.int .i64 r1])], [.vec 3 (.int .i64) r2 true])) else none
  | _, _ => none
noncomputable def spec48 (fuel : Nat) : Ev.Spec := spg48 (F_coder_New fuel)
theorem ok48 (fuel : Nat) : FnOK Tryz.prog 48 (spec48 fuel) := by
  intro args objs kk r h
  unfold spec48 spg48 at h
  split at h
  · skip
    obtain ⟨hb, h⟩ := cond_some' h
    simp only [Bool.and_eq_true, Nat.beq_eq, decide_eq_true_eq] at hb
    clear hb
    exact fok48 fuel _ _ kk r ((F48_eq fuel _ _ kk).trans h)
  · cases h
end Go.Proofs.YtipdidpalcmlhaaGreat

set_option linter.unusedVariables false
set_option linter.unusedSimpArgs false
set_option maxRecDepth 100000
set_option maxHeartbeats 2000000
namespace Go.Proofs.YtipdidpalcmlhaaGreat
open Go Ev
def kp118 (i : Nat) : Option (List Nat) := Ev.look i [(7, [3, 24, 25, 26]), (100000, []), (400000, [2])]
noncomputable def Gg118 (f : Nat) : Option Ev.Spec := Ev.look f []
noncomputable def G118 (fuel : Nat) : Nat → Option Ev.Spec := Gg118
noncomputable def S_coder_Valid_0 (fuel : Nat) (v : Int × (List Int) × Int × Int) (c : (Int × (List Int) × Int × Int) → Option Ans) (B : (Bool → Option Ans) × (Unit → Option Ans)) : Option Ans := match v, B with
  | (x0, x1, x2, x3), (ret, b) =>
   bif Decidable.decide (x3 < x2) then
      bif Decidable.decide ((0 : Int) ≤ x3 ∧ x3 < (↑x1.length : Int)) then
      bif Decidable.decide (x1.getD x3.toNat (0 : Int) < (0 : Int)) then
        ret Bool.false
       else
        bif Decidable.decide (x1.getD x3.toNat (0 : Int) ≥ x0) then
         ret Bool.false
        else
         c (x0, x1, x2, Go.IntKind.i64.wrap (x3 + (1 : Int)))
      else none
     else
      b ()
noncomputable def L_coder_Valid_0 (fuel : Nat) (v : Int × (List Int) × Int × Int) (ret : (Bool → Option Ans)) (b : (Unit → Option Ans)) : Option Ans := iter (S_coder_Valid_0 fuel) fuel v (ret, b)
noncomputable def J118_0 (fuel : Nat) (i : Nat) : Option Ev.Blk := Ev.look i []
noncomputable def T118_0 (v : Int × (List Int) × Int × Int) : Ev.St := match v with | (x0, x1, x2, x3) => ⟨[(3, .c (.int .i64 x0)), (24, .c (.sl (.int .i64) x1)), (25, .c (.int .i64 x2)), (26, .c (.int .i64 x3))], [], 0, 0⟩
noncomputable def E118_0 (K : Ev.Ex → Ev.St → Option Ans) : (Bool → Option Ans) × (Unit → Option Ans) := ((fun v => match v with | x0 => K .ret ⟨[(2, .c (.bool x0))], [], 0, 0⟩), (fun v => match v with | () => K .normal ⟨[], [], 0, 0⟩))
theorem S118_0_ok (fuel : Nat) (R : Ev.St → Option Ans) (K : Ev.Ex → Ev.St → Option Ans) (x0 : Int) (x1 : (List Int)) (x2 : Int) (x3 : Int) : evalCode tab (G118 fuel) (J118_0 fuel) kp118 fuel (bodyOf 0 Tryz.f118) (T118_0 (x0, x1, x2, x3)) (lc kp118 7 0 R K) = S_coder_Valid_0 fuel (x0, x1, x2, x3) (fun v => R (T118_0 v)) (E118_0 K) := by
  kernel_rfl
noncomputable def B118_0 (fuel : Nat) : Ev.Blk := fun st K => match canonO (kp118 7) st with
  | some s => (match s with
    | ⟨[(q0, .c (.int .i64 x0)), (q1, .c (.sl (.int .i64) x1)), (q2, .c (.int .i64 x2)), (q3, .c (.int .i64 x3))], [], q4, q5⟩ => bif Nat.beq q0 3 && Nat.beq q1 24 && Nat.beq q2 25 && Nat.beq q3 26 && Nat.beq q4 0 && Nat.beq q5 0 then iter (S_coder_Valid_0 fuel) fuel (x0, x1, x2, x3) (E118_0 K) else none
    | _ => none)
  | none => none
theorem B118_0_ok (fuel : Nat) (st : Ev.St) (K : Ev.Ex → Ev.St → Option Ans) (r : Ans) (h : B118_0 fuel st K = some r) : evalCode tab (G118 fuel) (J118_0 fuel) kp118 fuel (.block 0 (.loop (bodyOf 0 Tryz.f118))) st K = some r := by
  unfold B118_0 at h
  split at h
  · rename_i s hs
    split at h
    · skip
      obtain ⟨hb, h⟩ := cond_some' h
      simp only [Bool.and_eq_true, Nat.beq_eq, decide_eq_true_eq] at hb
      obtain ⟨⟨⟨⟨⟨rfl, rfl⟩, rfl⟩, rfl⟩, rfl⟩, rfl⟩ := hb
      exact blk_loop (S := T118_0) (ks := E118_0) (step := S_coder_Valid_0 fuel) (v := (_, _, _, _)) (by kernel_rfl) (by kernel_rfl) (fun R K v => by obtain ⟨x0, x1, x2, x3⟩ := v; exact S118_0_ok fuel R K x0 x1 x2 x3) hs h
    · cases h
  · cases h
noncomputable def J118 (fuel : Nat) (i : Nat) : Option Ev.Blk := Ev.look i [(100000, B118_0 fuel)]
noncomputable def F_coder_Valid (fuel : Nat) (x0 : Int) (x1 : (List Int)) (k0 : (Bool) → Option Ans) : Option Ans :=
  bif x0 != (0 : Int) then
   bif x0 != (1 : Int) then
    k0 Bool.false
   else
    bif Decidable.decide ((↑x1.length : Int) > (8192 : Int)) then
     k0 Bool.false
    else
     bif x0 == (1 : Int) then
      (L_coder_Valid_0 fuel ((65536 : Int), x1, (↑x1.length : Int), (0 : Int))
        (fun ret0_0 =>
          k0 ret0_0)
        (fun () =>
          k0 Bool.true))
     else
      (L_coder_Valid_0 fuel ((64 : Int), x1, (↑x1.length : Int), (0 : Int))
        (fun ret0_0 =>
          k0 ret0_0)
        (fun () =>
          k0 Bool.true))
  else
   bif Decidable.decide ((↑x1.length : Int) > (8192 : Int)) then
    k0 Bool.false
   else
    bif x0 == (1 : Int) then
     (L_coder_Valid_0 fuel ((65536 : Int), x1, (↑x1.length : Int), (0 : Int))
       (fun ret0_0 =>
         k0 ret0_0)
       (fun () =>
         k0 Bool.true))
    else
     (L_coder_Valid_0 fuel ((64 : Int), x1, (↑x1.length : Int), (0 : Int))
       (fun ret0_0 =>
         k0 ret0_0)
       (fun () =>
         k0 Bool.true))
abbrev YF118 : Type := (Int) → ((List Int)) → ((Bool) → Option Ans) → Option Ans
theorem F118_eq (fuel : Nat) (x0 : Int) (x1 : (List Int)) (k : Ev.Cont) : evalFn tab (G118 fuel) (J118 fuel) kp118 fuel Tryz.f118 [.agg [.int .i64 x0, .sl (.int .i64) x1]] [] k = F_coder_Valid fuel x0 x1 (fun r => match r with | r0 => k (.c (.bool r0), [])) := by
  kernel_rfl
theorem hG118 (fuel : Nat) : GOK Tryz.prog (G118 fuel) :=
  gok_nil
theorem B118_0_blk (fuel : Nat) : BlkOK Tryz.prog Tryz.f118.ntmps (.block 0 (.loop (bodyOf 0 Tryz.f118))) (B118_0 fuel) :=
  blk_of (blk_of_code tab_ok (hG118 fuel) mixed (J := J118_0 fuel) (kp := kp118) (fuel := fuel) (by kernel_rfl) (fun q hq => by
    rw [(by kernel_rfl : obl (J118_0 fuel) (.block 0 (.loop (bodyOf 0 Tryz.f118))) = [])] at hq
    cases hq)) (B118_0_ok fuel)
theorem fok118 (fuel : Nat) : FnOK Tryz.prog 118 (evalFn tab (G118 fuel) (J118 fuel) kp118 fuel Tryz.f118) :=
  fn_ok tab_ok (hG118 fuel) mixed Tryz.func118 (c := (Tryz.f118.body).getD .skip) rfl (fun q hq => by
    rw [(by kernel_rfl : obl (J118 fuel) ((Tryz.f118.body).getD .skip) = [(.block 0 (.loop (bodyOf 0 Tryz.f118)), B118_0 fuel)])] at hq
    simp only [List.mem_cons, List.not_mem_nil, or_false] at hq
    subst hq
    · exact B118_0_blk fuel)
noncomputable def mt118 : List Ev.SV → List Ev.Ob → Bool := fun args objs => match args, objs with
  | [.agg [.int .i64 _, .sl (.int .i64) _]], [] => true
  | _, _ => false
noncomputable def spg118 (F : YF118) : Ev.Spec := fun args objs k => match args, objs with
  | [.agg [.int .i64 x0, .sl (.int .i64) x1]], [] => bif true then F x0 x1 (fun r => match r with | r0 => k (.c (.bool r0), [])) else none
  | _, _ => none
noncomputable def spec118 (fuel : Nat) : Ev.Spec := spg118 (F_coder_Valid fuel)
theorem ok118 (fuel : Nat) : FnOK Tryz.prog 118 (spec118 fuel) := by
  intro args objs kk r h
  unfold spec118 spg118 at h
  split at h
  · skip
    obtain ⟨hb, h⟩ := cond_some' h
    simp only [Bool.and_eq_true, Nat.beq_eq, decide_eq_true_eq] at hb
    clear hb
    exact fok118 fuel _ _ kk r ((F118_eq fuel _ _ kk).trans h)
  · cases h
end Go.Proofs.YtipdidpalcmlhaaGreat

set_option linter.unusedVariables false
set_option linter.unusedSimpArgs false
set_option maxRecDepth 100000
set_option maxHeartbeats 2000000
namespace Go.Proofs.YtipdidpalcmlhaaGreat
open Go Ev
def kp205 (i : Nat) : Option (List Nat) := Ev.look i [(4, [0, 1, 2, 4]), (100000, [0, 1]), (400000, [0])]
noncomputable def Gg205 (f : Nat) : Option Ev.Spec := Ev.look f []
noncomputable def G205 (fuel : Nat) : Nat → Option Ev.Spec := Gg205
noncomputable def J205 (fuel : Nat) (i : Nat) : Option Ev.Blk := Ev.look i []
noncomputable def F_coder_chances (fuel : Nat)  (k0 : (Unit) → Option Ans) : Option Ans :=
  k0 ()
abbrev YF205 : Type := ((Unit) → Option Ans) → Option Ans
theorem F205_eq (fuel : Nat)  (k : Ev.Cont) : evalFn tab (G205 fuel) (J205 fuel) kp205 100 Tryz.f205 [] [] k = F_coder_chances fuel  (fun r => match r with | () => k (.agg (.int .i64 2048 :: .int .i64 1792 :: .int .i64 1568 :: .int .i64 1372 :: .int .i64 1201 :: .int .i64 1051 :: .int .i64 920 :: .int .i64 805 :: .int .i64 705 :: .int .i64 617 :: .int .i64 540 :: .int .i64 473 :: .int .i64 414 :: .int .i64 363 :: .int .i64 318 :: .int .i64 279 :: .int .i64 245 :: .int .i64 215 :: .int .i64 189 :: .int .i64 166 :: .int .i64 146 :: .int .i64 128 :: .int .i64 112 :: .int .i64 98 :: .int .i64 86 :: .int .i64 76 :: .int .i64 67 :: .int .i64 59 :: .int .i64 52 :: .int .i64 46 :: .int .i64 41 :: .int .i64 36 :: []), [])) := by
  kernel_rfl
theorem hG205 (fuel : Nat) : GOK Tryz.prog (G205 fuel) :=
  gok_nil
theorem fok205 (fuel : Nat) : FnOK Tryz.prog 205 (evalFn tab (G205 fuel) (J205 fuel) kp205 100 Tryz.f205) :=
  fn_ok tab_ok (hG205 fuel) mixed Tryz.func205 (c := (Tryz.f205.body).getD .skip) rfl (fun q hq => by
    rw [(by kernel_rfl : obl (J205 fuel) ((Tryz.f205.body).getD .skip) = [])] at hq
    cases hq)
noncomputable def mt205 : List Ev.SV → List Ev.Ob → Bool := fun args objs => match args, objs with
  | [], [] => true
  | _, _ => false
noncomputable def spg205 (F : YF205) : Ev.Spec := fun args objs k => match args, objs with
  | [], [] => bif true then F  (fun r => match r with | () => k (.agg (.int .i64 2048 :: .int .i64 1792 :: .int .i64 1568 :: .int .i64 1372 :: .int .i64 1201 :: .int .i64 1051 :: .int .i64 920 :: .int .i64 805 :: .int .i64 705 :: .int .i64 617 :: .int .i64 540 :: .int .i64 473 :: .int .i64 414 :: .int .i64 363 :: .int .i64 318 :: .int .i64 279 :: .int .i64 245 :: .int .i64 215 :: .int .i64 189 :: .int .i64 166 :: .int .i64 146 :: .int .i64 128 :: .int .i64 112 :: .int .i64 98 :: .int .i64 86 :: .int .i64 76 :: .int .i64 67 :: .int .i64 59 :: .int .i64 52 :: .int .i64 46 :: .int .i64 41 :: .int .i64 36 :: []), [])) else none
  | _, _ => none
noncomputable def spec205 (fuel : Nat) : Ev.Spec := spg205 (F_coder_chances fuel)
theorem ok205 (fuel : Nat) : FnOK Tryz.prog 205 (spec205 fuel) := by
  intro args objs kk r h
  unfold spec205 spg205 at h
  split at h
  · skip
    obtain ⟨hb, h⟩ := cond_some' h
    simp only [Bool.and_eq_true, Nat.beq_eq, decide_eq_true_eq] at hb
    clear hb
    exact fok205 fuel _ _ kk r ((F205_eq fuel kk).trans h)
  · cases h
end Go.Proofs.YtipdidpalcmlhaaGreat

set_option linter.unusedVariables false
set_option linter.unusedSimpArgs false
set_option maxRecDepth 100000
set_option maxHeartbeats 2000000
namespace Go.Proofs.YtipdidpalcmlhaaGreat
open Go Ev
def kp204 (i : Nat) : Option (List Nat) := Ev.look i [(200001, [1])]
noncomputable def Gg204 (f : Nat) : Option Ev.Spec := Ev.look f []
noncomputable def G204 (fuel : Nat) : Nat → Option Ev.Spec := Gg204
noncomputable def J204 (fuel : Nat) (i : Nat) : Option Ev.Blk := Ev.look i []
noncomputable def F_coder_clone (fuel : Nat) (x0 : Int) (x1 : (List Int)) (k0 : (Int × (List Int)) → Option Ans) : Option Ans :=
  bif Decidable.decide (((0 : Nat) + x1.length) * (8 : Nat) ≤ (140737488355328 : Nat) ∧ (0 : Nat) + x1.length ≤ (140737488355328 : Nat)) then
  k0 (x0, [] ++ x1)
  else none
abbrev YF204 : Type := (Int) → ((List Int)) → ((Int × (List Int)) → Option Ans) → Option Ans
theorem F204_eq (fuel : Nat) (x0 : Int) (x1 : (List Int)) (k : Ev.Cont) : evalFn tab (G204 fuel) (J204 fuel) kp204 fuel Tryz.f204 [.agg [.int .i64 x0, .sl (.int .i64) x1]] [] k = F_coder_clone fuel x0 x1 (fun r => match r with | (r0, r1) => k (.agg [.int .i64 r0, .own 0], [.vec 3 (.int .i64) r1 true])) := by
  kernel_rfl
theorem hG204 (fuel : Nat) : GOK Tryz.prog (G204 fuel) :=
  gok_nil
theorem fok204 (fuel : Nat) : FnOK Tryz.prog 204 (evalFn tab (G204 fuel) (J204 fuel) kp204 fuel Tryz.f204) :=
  fn_ok tab_ok (hG204 fuel) mixed Tryz.func204 (c := (Tryz.f204.body).getD .skip) rfl (fun q hq => by
    rw [(by kernel_rfl : obl (J204 fuel) ((Tryz.f204.body).getD .skip) = [])] at hq
    cases hq)
noncomputable def mt204 : List Ev.SV → List Ev.Ob → Bool := fun args objs => match args, objs with
  | [.agg [.int .i64 _, .sl (.int .i64) _]], [] => true
  | _, _ => false
noncomputable def spg204 (F : YF204) : Ev.Spec := fun args objs k => match args, objs with
  | [.agg [.int .i64 x0, .sl (.int .i64) x1]], [] => bif true then F x0 x1 (fun r => match r with | (r0, r1) => k (.agg [.int .i64 r0, .own 0], [.vec 3 (.int .i64) r1 true])) else none
  | _, _ => none
noncomputable def spec204 (fuel : Nat) : Ev.Spec := spg204 (F_coder_clone fuel)
theorem ok204 (fuel : Nat) : FnOK Tryz.prog 204 (spec204 fuel) := by
  intro args objs kk r h
  unfold spec204 spg204 at h
  split at h
  · skip
    obtain ⟨hb, h⟩ := cond_some' h
    simp only [Bool.and_eq_true, Nat.beq_eq, decide_eq_true_eq] at hb
    clear hb
    exact fok204 fuel _ _ kk r ((F204_eq fuel _ _ kk).trans h)
  · cases h
end Go.Proofs.YtipdidpalcmlhaaGreat

set_option linter.unusedVariables false
set_option linter.unusedSimpArgs false
set_option maxRecDepth 100000
set_option maxHeartbeats 2000000
namespace Go.Proofs.YtipdidpalcmlhaaGreat
open Go Ev
def kp119 (i : Nat) : Option (List Nat) := Ev.look i []
noncomputable def Gg119 (f204 : YF204) (f205 : YF205) (f : Nat) : Option Ev.Spec := Ev.look f [(204, spg204 f204), (205, spg205 f205)]
noncomputable def G119 (fuel : Nat) : Nat → Option Ev.Spec := Gg119 (F_coder_clone fuel) (F_coder_chances fuel)
noncomputable def J119 (fuel : Nat) (i : Nat) : Option Ev.Blk := Ev.look i []
noncomputable def F_coder_begin (fuel : Nat) (x0 : Int) (x1 : (List Int)) (k0 : (Int × Int × Int × (List Int)) → Option Ans) : Option Ans :=
  (F_coder_clone fuel (x0) (x1)
    (fun (y2_0, y2_1) =>
      (F_coder_chances fuel
        (fun y6 =>
          k0 (y2_0, (0 : Int), (4294967295 : Int), y2_1)))))
abbrev YF119 : Type := (Int) → ((List Int)) → ((Int × Int × Int × (List Int)) → Option Ans) → Option Ans
theorem F119_eqg (fuel : Nat) (f204 : YF204) (f205 : YF205) (x0 : Int) (x1 : (List Int)) (k : Ev.Cont) : evalFn tab (Gg119 f204 f205) (J119 fuel) kp119 fuel Tryz.f119 [.agg [.int .i64 x0, .sl (.int .i64) x1]] [] k = (fun  (k0 : (Int × Int × Int × (List Int)) → Option Ans) =>
  (f204 (x0) (x1)
    (fun (y2_0, y2_1) =>
      (f205
        (fun y6 =>
          k0 (y2_0, (0 : Int), (4294967295 : Int), y2_1)))))) (fun r => match r with | (r0, r1, r2, r3) => k (.agg (.int .i64 r0 :: .own 0 :: .int .i64 2048 :: .int .i64 1792 :: .int .i64 1568 :: .int .i64 1372 :: .int .i64 1201 :: .int .i64 1051 :: .int .i64 920 :: .int .i64 805 :: .int .i64 705 :: .int .i64 617 :: .int .i64 540 :: .int .i64 473 :: .int .i64 414 :: .int .i64 363 :: .int .i64 318 :: .int .i64 279 :: .int .i64 245 :: .int .i64 215 :: .int .i64 189 :: .int .i64 166 :: .int .i64 146 :: .int .i64 128 :: .int .i64 112 :: .int .i64 98 :: .int .i64 86 :: .int .i64 76 :: .int .i64 67 :: .int .i64 59 :: .int .i64 52 :: .int .i64 46 :: .int .i64 41 :: .int .i64 36 :: .int .u64 r1 :: .int .u64 r2 :: []), [.vec 3 (.int .i64) r3 true])) := by
  kernel_rfl
theorem F119_eq (fuel : Nat) (x0 : Int) (x1 : (List Int)) (k : Ev.Cont) : evalFn tab (G119 fuel) (J119 fuel) kp119 fuel Tryz.f119 [.agg [.int .i64 x0, .sl (.int .i64) x1]] [] k = F_coder_begin fuel x0 x1 (fun r => match r with | (r0, r1, r2, r3) => k (.agg (.int .i64 r0 :: .own 0 :: .int .i64 2048 :: .int .i64 1792 :: .int .i64 1568 :: .int .i64 1372 :: .int .i64 1201 :: .int .i64 1051 :: .int .i64 920 :: .int .i64 805 :: .int .i64 705 :: .int .i64 617 :: .int .i64 540 :: .int .i64 473 :: .int .i64 414 :: .int .i64 363 :: .int .i64 318 :: .int .i64 279 :: .int .i64 245 :: .int .i64 215 :: .int .i64 189 :: .int .i64 166 :: .int .i64 146 :: .int .i64 128 :: .int .i64 112 :: .int .i64 98 :: .int .i64 86 :: .int .i64 76 :: .int .i64 67 :: .int .i64 59 :: .int .i64 52 :: .int .i64 46 :: .int .i64 41 :: .int .i64 36 :: .int .u64 r1 :: .int .u64 r2 :: []), [.vec 3 (.int .i64) r3 true])) :=
  F119_eqg fuel (F_coder_clone fuel) (F_coder_chances fuel) x0 x1 k
theorem hG119 (fuel : Nat) : GOK Tryz.prog (G119 fuel) :=
  gok_cons ⟨ok204 fuel, enters_of Tryz.func204 (by kernel_rfl) rfl⟩ <|
  gok_cons ⟨ok205 fuel, enters_of Tryz.func205 (by kernel_rfl) rfl⟩ <|
  gok_nil
theorem fok119 (fuel : Nat) : FnOK Tryz.prog 119 (evalFn tab (G119 fuel) (J119 fuel) kp119 fuel Tryz.f119) :=
  fn_ok tab_ok (hG119 fuel) mixed Tryz.func119 (c := (Tryz.f119.body).getD .skip) rfl (fun q hq => by
    rw [(by kernel_rfl : obl (J119 fuel) ((Tryz.f119.body).getD .skip) = [])] at hq
    cases hq)
noncomputable def mt119 : List Ev.SV → List Ev.Ob → Bool := fun args objs => match args, objs with
  | [.agg [.int .i64 _, .sl (.int .i64) _]], [] => true
  | _, _ => false
noncomputable def spg119 (F : YF119) : Ev.Spec := fun args objs k => match args, objs with
  | [.agg [.int .i64 x0, .sl (.int .i64) x1]], [] => bif true then F x0 x1 (fun r => match r with | (r0, r1, r2, r3) => k (.agg (.int .i64 r0 :: .own 0 :: .int .i64 2048 :: .int .i64 1792 :: .int .i64 1568 :: .int .i64 1372 :: .int .i64 1201 :: .int .i64 1051 :: .int .i64 920 :: .int .i64 805 :: .int .i64 705 :: .int .i64 617 :: .int .i64 540 :: .int .i64 473 :: .int .i64 414 :: .int .i64 363 :: .int .i64 318 :: .int .i64 279 :: .int .i64 245 :: .int .i64 215 :: .int .i64 189 :: .int .i64 166 :: .int .i64 146 :: .int .i64 128 :: .int .i64 112 :: .int .i64 98 :: .int .i64 86 :: .int .i64 76 :: .int .i64 67 :: .int .i64 59 :: .int .i64 52 :: .int .i64 46 :: .int .i64 41 :: .int .i64 36 :: .int .u64 r1 :: .int .u64 r2 :: []), [.vec 3 (.int .i64) r3 true])) else none
  | _, _ => none
noncomputable def spec119 (fuel : Nat) : Ev.Spec := spg119 (F_coder_begin fuel)
theorem ok119 (fuel : Nat) : FnOK Tryz.prog 119 (spec119 fuel) := by
  intro args objs kk r h
  unfold spec119 spg119 at h
  split at h
  · skip
    obtain ⟨hb, h⟩ := cond_some' h
    simp only [Bool.and_eq_true, Nat.beq_eq, decide_eq_true_eq] at hb
    clear hb
    exact fok119 fuel _ _ kk r ((F119_eq fuel _ _ kk).trans h)
  · cases h
end Go.Proofs.YtipdidpalcmlhaaGreat

set_option linter.unusedVariables false
set_option linter.unusedSimpArgs false
set_option maxRecDepth 100000
set_option maxHeartbeats 2000000
namespace Go.Proofs.YtipdidpalcmlhaaGreat
open Go Ev
def kp49 (i : Nat) : Option (List Nat) := Ev.look i [(600000, [])]
noncomputable def Gg49 (f118 : YF118) (f119 : YF119) (f : Nat) : Option Ev.Spec := Ev.look f [(118, spg118 f118), (119, spg119 f119)]
noncomputable def G49 (fuel : Nat) : Nat → Option Ev.Spec := Gg49 (F_coder_Valid fuel) (F_coder_begin fuel)
noncomputable def J49 (fuel : Nat) (i : Nat) : Option Ev.Blk := Ev.look i []
noncomputable def F_coder_NewEncoder (fuel : Nat) (x0 : Int) (x1 : (List Int)) (k0 : (Int) → Option Ans) (k1 : (Int × Int × Int × Int × Bool × (List Int) × (List Int)) → Option Ans) : Option Ans :=
  (F_coder_Valid fuel (x0) (x1)
    (fun y2 =>
      bif !y2 then
       k0 ((10 : Int))
      else
       (F_coder_begin fuel (x0) (x1)
         (fun (y7_0, y7_1, y7_2, y7_3) =>
           k1 ((0 : Int), y7_0, y7_1, y7_2, Bool.true, y7_3, [])))))
abbrev YF49 : Type := (Int) → ((List Int)) → ((Int) → Option Ans) → ((Int × Int × Int × Int × Bool × (List Int) × (List Int)) → Option Ans) → Option Ans
theorem F49_eqg (fuel : Nat) (f118 : YF118) (f119 : YF119) (x0 : Int) (x1 : (List Int)) (k : Ev.Cont) : evalFn tab (Gg49 f118 f119) (J49 fuel) kp49 fuel Tryz.f49 [.agg [.int .i64 x0, .sl (.int .i64) x1]] [] k = (fun  (k0 : (Int) → Option Ans) (k1 : (Int × Int × Int × Int × Bool × (List Int) × (List Int)) → Option Ans) =>
  (f118 (x0) (x1)
    (fun y2 =>
      bif !y2 then
       k0 ((10 : Int))
      else
       (f119 (x0) (x1)
         (fun (y7_0, y7_1, y7_2, y7_3) =>
           k1 ((0 : Int), y7_0, y7_1, y7_2, Bool.true, y7_3, [])))))) (fun r => match r with | r0 => k (.tup [(false, [.nilptr]), (false, [.int .i64 r0])], [])) (fun r => match r with | (r0, r1, r2, r3, r4, r5, r6) => k (.tup [(false, [.ptr 0 0]), (false, [.int .i64 r0])], [.cells 173 (.int .i64 r1 :: .own 1 :: .int .i64 2048 :: .int .i64 1792 :: .int .i64 1568 :: .int .i64 1372 :: .int .i64 1201 :: .int .i64 1051 :: .int .i64 920 :: .int .i64 805 :: .int .i64 705 :: .int .i64 617 :: .int .i64 540 :: .int .i64 473 :: .int .i64 414 :: .int .i64 363 :: .int .i64 318 :: .int .i64 279 :: .int .i64 245 :: .int .i64 215 :: .int .i64 189 :: .int .i64 166 :: .int .i64 146 :: .int .i64 128 :: .int .i64 112 :: .int .i64 98 :: .int .i64 86 :: .int .i64 76 :: .int .i64 67 :: .int .i64 59 :: .int .i64 52 :: .int .i64 46 :: .int .i64 41 :: .int .i64 36 :: .int .u64 r2 :: .int .u64 r3 :: .own 2 :: .bool r4 :: []), .vec 3 (.int .i64) r5 true, .vec 5 (.int .u8) r6 true])) := by
  kernel_rfl
theorem F49_eq (fuel : Nat) (x0 : Int) (x1 : (List Int)) (k : Ev.Cont) : evalFn tab (G49 fuel) (J49 fuel) kp49 fuel Tryz.f49 [.agg [.int .i64 x0, .sl (.int .i64) x1]] [] k = F_coder_NewEncoder fuel x0 x1 (fun r => match r with | r0 => k (.tup [(false, [.nilptr]), (false, [.int .i64 r0])], [])) (fun r => match r with | (r0, r1, r2, r3, r4, r5, r6) => k (.tup [(false, [.ptr 0 0]), (false, [.int .i64 r0])], [.cells 173 (.int .i64 r1 :: .own 1 :: .int .i64 2048 :: .int .i64 1792 :: .int .i64 1568 :: .int .i64 1372 :: .int .i64 1201 :: .int .i64 1051 :: .int .i64 920 :: .int .i64 805 :: .int .i64 705 :: .int .i64 617 :: .int .i64 540 :: .int .i64 473 :: .int .i64 414 :: .int .i64 363 :: .int .i64 318 :: .int .i64 279 :: .int .i64 245 :: .int .i64 215 :: .int .i64 189 :: .int .i64 166 :: .int .i64 146 :: .int .i64 128 :: .int .i64 112 :: .int .i64 98 :: .int .i64 86 :: .int .i64 76 :: .int .i64 67 :: .int .i64 59 :: .int .i64 52 :: .int .i64 46 :: .int .i64 41 :: .int .i64 36 :: .int .u64 r2 :: .int .u64 r3 :: .own 2 :: .bool r4 :: []), .vec 3 (.int .i64) r5 true, .vec 5 (.int .u8) r6 true])) :=
  F49_eqg fuel (F_coder_Valid fuel) (F_coder_begin fuel) x0 x1 k
theorem hG49 (fuel : Nat) : GOK Tryz.prog (G49 fuel) :=
  gok_cons ⟨ok118 fuel, enters_of Tryz.func118 (by kernel_rfl) rfl⟩ <|
  gok_cons ⟨ok119 fuel, enters_of Tryz.func119 (by kernel_rfl) rfl⟩ <|
  gok_nil
theorem fok49 (fuel : Nat) : FnOK Tryz.prog 49 (evalFn tab (G49 fuel) (J49 fuel) kp49 fuel Tryz.f49) :=
  fn_ok tab_ok (hG49 fuel) mixed Tryz.func49 (c := (Tryz.f49.body).getD .skip) rfl (fun q hq => by
    rw [(by kernel_rfl : obl (J49 fuel) ((Tryz.f49.body).getD .skip) = [])] at hq
    cases hq)
noncomputable def mt49 : List Ev.SV → List Ev.Ob → Bool := fun args objs => match args, objs with
  | [.agg [.int .i64 _, .sl (.int .i64) _]], [] => true
  | _, _ => false
noncomputable def spg49 (F : YF49) : Ev.Spec := fun args objs k => match args, objs with
  | [.agg [.int .i64 x0, .sl (.int .i64) x1]], [] => bif true then F x0 x1 (fun r => match r with | r0 => k (.tup [(false, [.nilptr]), (false, [.int .i64 r0])], [])) (fun r => match r with | (r0, r1, r2, r3, r4, r5, r6) => k (.tup [(false, [.ptr 0 0]), (false, [.int .i64 r0])], [.cells 173 (.int .i64 r1 :: .own 1 :: .int .i64 2048 :: .int .i64 1792 :: .int .i64 1568 :: .int .i64 1372 :: .int .i64 1201 :: .int .i64 1051 :: .int .i64 920 :: .int .i64 805 :: .int .i64 705 :: .int .i64 617 :: .int .i64 540 :: .int .i64 473 :: .int .i64 414 :: .int .i64 363 :: .int .i64 318 :: .int .i64 279 :: .int .i64 245 :: .int .i64 215 :: .int .i64 189 :: .int .i64 166 :: .int .i64 146 :: .int .i64 128 :: .int .i64 112 :: .int .i64 98 :: .int .i64 86 :: .int .i64 76 :: .int .i64 67 :: .int .i64 59 :: .int .i64 52 :: .int .i64 46 :: .int .i64 41 :: .int .i64 36 :: .int .u64 r2 :: .int .u64 r3 :: .own 2 :: .bool r4 :: []), .vec 3 (.int .i64) r5 true, .vec 5 (.int .u8) r6 true])) else none
  | _, _ => none
noncomputable def spec49 (fuel : Nat) : Ev.Spec := spg49 (F_coder_NewEncoder fuel)
theorem ok49 (fuel : Nat) : FnOK Tryz.prog 49 (spec49 fuel) := by
  intro args objs kk r h
  unfold spec49 spg49 at h
  split at h
  · skip
    obtain ⟨hb, h⟩ := cond_some' h
    simp only [Bool.and_eq_true, Nat.beq_eq, decide_eq_true_eq] at hb
    clear hb
    exact fok49 fuel _ _ kk r ((F49_eq fuel _ _ kk).trans h)
  · cases h
end Go.Proofs.YtipdidpalcmlhaaGreat

set_option linter.unusedVariables false
set_option linter.unusedSimpArgs false
set_option maxRecDepth 100000
set_option maxHeartbeats 2000000
namespace Go.Proofs.YtipdidpalcmlhaaGreat
open Go Ev
def kp128_a20 (i : Nat) : Option (List Nat) := Ev.look i []
noncomputable def Gg128_a20 (f : Nat) : Option Ev.Spec := Ev.look f []
noncomputable def G128_a20 (fuel : Nat) : Nat → Option Ev.Spec := Gg128_a20
noncomputable def J128_a20 (fuel : Nat) (i : Nat) : Option Ev.Blk := Ev.look i []
noncomputable def F_coder_Encoder_none_a20 (fuel : Nat) (x0 : Int) (x1 : Int) (x2 : Int) (x3 : Bool) (x4 : (List Int)) (x5 : (List Int)) (k0 : (Bool × Int × Int × Int × Bool × (List Int) × (List Int)) → Option Ans) : Option Ans :=
  k0 (!x3, x0, x1, x2, x3, x4, x5)
abbrev YF128_a20 : Type := (Int) → (Int) → (Int) → (Bool) → ((List Int)) → ((List Int)) → ((Bool × Int × Int × Int × Bool × (List Int) × (List Int)) → Option Ans) → Option Ans
theorem F128_a20_eq (fuel : Nat) (x0 : Int) (x1 : Int) (x2 : Int) (x3 : Bool) (x4 : (List Int)) (x5 : (List Int)) (k : Ev.Cont) : evalFn tab (G128_a20 fuel) (J128_a20 fuel) kp128_a20 fuel Tryz.f128 [.c (.ptr 0 0)] [.cells 173 (.int .i64 x0 :: .own 1 :: .int .i64 2048 :: .int .i64 1792 :: .int .i64 1568 :: .int .i64 1372 :: .int .i64 1201 :: .int .i64 1051 :: .int .i64 920 :: .int .i64 805 :: .int .i64 705 :: .int .i64 617 :: .int .i64 540 :: .int .i64 473 :: .int .i64 414 :: .int .i64 363 :: .int .i64 318 :: .int .i64 279 :: .int .i64 245 :: .int .i64 215 :: .int .i64 189 :: .int .i64 166 :: .int .i64 146 :: .int .i64 128 :: .int .i64 112 :: .int .i64 98 :: .int .i64 86 :: .int .i64 76 :: .int .i64 67 :: .int .i64 59 :: .int .i64 52 :: .int .i64 46 :: .int .i64 41 :: .int .i64 36 :: .int .u64 x1 :: .int .u64 x2 :: .own 2 :: .bool x3 :: []), .vec 3 (.int .i64) x4 false, .vec 5 (.int .u8) x5 false] k = F_coder_Encoder_none_a20 fuel x0 x1 x2 x3 x4 x5 (fun r => match r with | (r0, r1, r2, r3, r4, r5, r6) => k (.c (.bool r0), [.cells 173 (.int .i64 r1 :: .own 1 :: .int .i64 2048 :: .int .i64 1792 :: .int .i64 1568 :: .int .i64 1372 :: .int .i64 1201 :: .int .i64 1051 :: .int .i64 920 :: .int .i64 805 :: .int .i64 705 :: .int .i64 617 :: .int .i64 540 :: .int .i64 473 :: .int .i64 414 :: .int .i64 363 :: .int .i64 318 :: .int .i64 279 :: .int .i64 245 :: .int .i64 215 :: .int .i64 189 :: .int .i64 166 :: .int .i64 146 :: .int .i64 128 :: .int .i64 112 :: .int .i64 98 :: .int .i64 86 :: .int .i64 76 :: .int .i64 67 :: .int .i64 59 :: .int .i64 52 :: .int .i64 46 :: .int .i64 41 :: .int .i64 36 :: .int .u64 r2 :: .int .u64 r3 :: .own 2 :: .bool r4 :: []), .vec 3 (.int .i64) r5 false, .vec 5 (.int .u8) r6 false])) := by
  kernel_rfl
theorem hG128_a20 (fuel : Nat) : GOK Tryz.prog (G128_a20 fuel) :=
  gok_nil
theorem fok128_a20 (fuel : Nat) : FnOK Tryz.prog 128 (evalFn tab (G128_a20 fuel) (J128_a20 fuel) kp128_a20 fuel Tryz.f128) :=
  fn_ok tab_ok (hG128_a20 fuel) mixed Tryz.func128 (c := (Tryz.f128.body).getD .skip) rfl (fun q hq => by
    rw [(by kernel_rfl : obl (J128_a20 fuel) ((Tryz.f128.body).getD .skip) = [])] at hq
    cases hq)
noncomputable def mt128_a20 : List Ev.SV → List Ev.Ob → Bool := fun args objs => match args, objs with
  | [.c (.ptr q0 q1)], [.cells q2 cs0, .vec q3 (.int .i64) _ false, .vec q4 (.int .u8) _ false] => (match splitRun 2 [(.i64, 2048), (.i64, 1792), (.i64, 1568), (.i64, 1372), (.i64, 1201), (.i64, 1051), (.i64, 920), (.i64, 805), (.i64, 705), (.i64, 617), (.i64, 540), (.i64, 473), (.i64, 414), (.i64, 363), (.i64, 318), (.i64, 279), (.i64, 245), (.i64, 215), (.i64, 189), (.i64, 166), (.i64, 146), (.i64, 128), (.i64, 112), (.i64, 98), (.i64, 86), (.i64, 76), (.i64, 67), (.i64, 59), (.i64, 52), (.i64, 46), (.i64, 41), (.i64, 36)] cs0 with | some ([.int .i64 _, .own q5], [.int .u64 _, .int .u64 _, .own q6, .bool _]) => Nat.beq q0 0 && Nat.beq q1 0 && Nat.beq q2 173 && Nat.beq q3 3 && Nat.beq q4 5 && Nat.beq q5 1 && Nat.beq q6 2 | _ => false)
  | _, _ => false
noncomputable def spg128_a20 (F : YF128_a20) : Ev.Spec := fun args objs k => match args, objs with
  | [.c (.ptr q0 q1)], [.cells q2 cs0, .vec q3 (.int .i64) x4 false, .vec q4 (.int .u8) x5 false] => (match splitRun 2 [(.i64, 2048), (.i64, 1792), (.i64, 1568), (.i64, 1372), (.i64, 1201), (.i64, 1051), (.i64, 920), (.i64, 805), (.i64, 705), (.i64, 617), (.i64, 540), (.i64, 473), (.i64, 414), (.i64, 363), (.i64, 318), (.i64, 279), (.i64, 245), (.i64, 215), (.i64, 189), (.i64, 166), (.i64, 146), (.i64, 128), (.i64, 112), (.i64, 98), (.i64, 86), (.i64, 76), (.i64, 67), (.i64, 59), (.i64, 52), (.i64, 46), (.i64, 41), (.i64, 36)] cs0 with | some ([.int .i64 x0, .own q5], [.int .u64 x1, .int .u64 x2, .own q6, .bool x3]) => bif Nat.beq q0 0 && Nat.beq q1 0 && Nat.beq q2 173 && Nat.beq q3 3 && Nat.beq q4 5 && Nat.beq q5 1 && Nat.beq q6 2 then F x0 x1 x2 x3 x4 x5 (fun r => match r with | (r0, r1, r2, r3, r4, r5, r6) => k (.c (.bool r0), [.cells 173 (.int .i64 r1 :: .own 1 :: .int .i64 2048 :: .int .i64 1792 :: .int .i64 1568 :: .int .i64 1372 :: .int .i64 1201 :: .int .i64 1051 :: .int .i64 920 :: .int .i64 805 :: .int .i64 705 :: .int .i64 617 :: .int .i64 540 :: .int .i64 473 :: .int .i64 414 :: .int .i64 363 :: .int .i64 318 :: .int .i64 279 :: .int .i64 245 :: .int .i64 215 :: .int .i64 189 :: .int .i64 166 :: .int .i64 146 :: .int .i64 128 :: .int .i64 112 :: .int .i64 98 :: .int .i64 86 :: .int .i64 76 :: .int .i64 67 :: .int .i64 59 :: .int .i64 52 :: .int .i64 46 :: .int .i64 41 :: .int .i64 36 :: .int .u64 r2 :: .int .u64 r3 :: .own 2 :: .bool r4 :: []), .vec 3 (.int .i64) r5 false, .vec 5 (.int .u8) r6 false])) else none | _ => none)
  | _, _ => none
noncomputable def spec128_a20 (fuel : Nat) : Ev.Spec := spg128_a20 (F_coder_Encoder_none_a20 fuel)
theorem ok128_a20 (fuel : Nat) : FnOK Tryz.prog 128 (spec128_a20 fuel) := by
  intro args objs kk r h
  unfold spec128_a20 spg128_a20 at h
  split at h
  · skip
    split at h
    rotate_left 1
    · cases h
    rename_i hsp
    have esp := splitRun_eq hsp
    subst esp
    obtain ⟨hb, h⟩ := cond_some' h
    simp only [Bool.and_eq_true, Nat.beq_eq, decide_eq_true_eq] at hb
    obtain ⟨⟨⟨⟨⟨⟨rfl, rfl⟩, rfl⟩, rfl⟩, rfl⟩, rfl⟩, rfl⟩ := hb
    exact fok128_a20 fuel _ _ kk r ((F128_a20_eq fuel _ _ _ _ _ _ kk).trans h)
  · cases h
end Go.Proofs.YtipdidpalcmlhaaGreat

set_option linter.unusedVariables false
set_option linter.unusedSimpArgs false
set_option maxRecDepth 100000
set_option maxHeartbeats 2000000
namespace Go.Proofs.YtipdidpalcmlhaaGreat
open Go Ev
def kp52_a20 (i : Nat) : Option (List Nat) := Ev.look i [(5, [0, 3, 15]), (10, [0, 3, 37, 38]), (100000, [3]), (100002, [3]), (200008, [0]), (400000, [2]), (400002, [2])]
noncomputable def Gg52_a20 (f128_a20 : YF128_a20) (f : Nat) : Option Ev.Spec := Ev.look f [(128, spg128_a20 f128_a20)]
noncomputable def G52_a20 (fuel : Nat) : Nat → Option Ev.Spec := Gg52_a20 (F_coder_Encoder_none_a20 fuel)
noncomputable def S_coder_Encoder_End_a20_2 (fuel : Nat) (v : Int × Int × Int × Int × Int × Bool × (List Int) × (List Int) × (List Int)) (c : (Int × Int × Int × Int × Int × Bool × (List Int) × (List Int) × (List Int)) → Option Ans) (B : (Int × Int × Int × Bool × (List Int) × (List Int) × (List Int) → Option Ans)) : Option Ans := match v, B with
  | (x0, x1, x2, x3, x4, x5, x6, x7, x8), b =>
   bif Decidable.decide (x1 < x0) then
      bif Decidable.decide (Go.IntKind.i64.wrap ((24 : Int) - Go.IntKind.i64.wrap ((8 : Int) * x1)) < (0 : Int)) then
       none
      else
       bif Decidable.decide ((x8.length + [Go.IntKind.u8.wrap (Ev.ishr Go.IntKind.u64 x4 (Go.IntKind.i64.wrap ((24 : Int) - Go.IntKind.i64.wrap ((8 : Int) * x1))))].length) * (1 : Nat) ≤ (140737488355328 : Nat) ∧ x8.length + [Go.IntKind.u8.wrap (Ev.ishr Go.IntKind.u64 x4 (Go.IntKind.i64.wrap ((24 : Int) - Go.IntKind.i64.wrap ((8 : Int) * x1))))].length ≤ (140737488355328 : Nat)) then
       c (x0, Go.IntKind.i64.wrap (x1 + (1 : Int)), x2, x3, x4, x5, x6, x7, x8 ++ [Go.IntKind.u8.wrap (Ev.ishr Go.IntKind.u64 x4 (Go.IntKind.i64.wrap ((24 : Int) - Go.IntKind.i64.wrap ((8 : Int) * x1))))])
       else none
     else
      b (x2, x3, x4, x5, x6, x7, x8)
noncomputable def L_coder_Encoder_End_a20_2 (fuel : Nat) (v : Int × Int × Int × Int × Int × Bool × (List Int) × (List Int) × (List Int)) (b : (Int × Int × Int × Bool × (List Int) × (List Int) × (List Int) → Option Ans)) : Option Ans := iter (S_coder_Encoder_End_a20_2 fuel) fuel v b
noncomputable def J52_a20_2 (fuel : Nat) (i : Nat) : Option Ev.Blk := Ev.look i []
noncomputable def T52_a20_2 (v : Int × Int × Int × Int × Int × Bool × (List Int) × (List Int) × (List Int)) : Ev.St := match v with | (x0, x1, x2, x3, x4, x5, x6, x7, x8) => ⟨[(0, .c (.ptr 0 0)), (3, .c (.own 3)), (37, .c (.int .i64 x0)), (38, .c (.int .i64 x1))], [(0, .cells 173 (.int .i64 x2 :: .own 1 :: .int .i64 2048 :: .int .i64 1792 :: .int .i64 1568 :: .int .i64 1372 :: .int .i64 1201 :: .int .i64 1051 :: .int .i64 920 :: .int .i64 805 :: .int .i64 705 :: .int .i64 617 :: .int .i64 540 :: .int .i64 473 :: .int .i64 414 :: .int .i64 363 :: .int .i64 318 :: .int .i64 279 :: .int .i64 245 :: .int .i64 215 :: .int .i64 189 :: .int .i64 166 :: .int .i64 146 :: .int .i64 128 :: .int .i64 112 :: .int .i64 98 :: .int .i64 86 :: .int .i64 76 :: .int .i64 67 :: .int .i64 59 :: .int .i64 52 :: .int .i64 46 :: .int .i64 41 :: .int .i64 36 :: .int .u64 x3 :: .int .u64 x4 :: .own 2 :: .bool x5 :: [])), (1, .vec 3 (.int .i64) x6 false), (2, .vec 5 (.int .u8) x7 false), (3, .vec 5 (.int .u8) x8 true)], 4, 3⟩
noncomputable def E52_a20_2 (K : Ev.Ex → Ev.St → Option Ans) : (Int × Int × Int × Bool × (List Int) × (List Int) × (List Int) → Option Ans) := (fun v => match v with | (x0, x1, x2, x3, x4, x5, x6) => K .normal ⟨[(3, .c (.own 3))], [(0, .cells 173 (.int .i64 x0 :: .own 1 :: .int .i64 2048 :: .int .i64 1792 :: .int .i64 1568 :: .int .i64 1372 :: .int .i64 1201 :: .int .i64 1051 :: .int .i64 920 :: .int .i64 805 :: .int .i64 705 :: .int .i64 617 :: .int .i64 540 :: .int .i64 473 :: .int .i64 414 :: .int .i64 363 :: .int .i64 318 :: .int .i64 279 :: .int .i64 245 :: .int .i64 215 :: .int .i64 189 :: .int .i64 166 :: .int .i64 146 :: .int .i64 128 :: .int .i64 112 :: .int .i64 98 :: .int .i64 86 :: .int .i64 76 :: .int .i64 67 :: .int .i64 59 :: .int .i64 52 :: .int .i64 46 :: .int .i64 41 :: .int .i64 36 :: .int .u64 x1 :: .int .u64 x2 :: .own 2 :: .bool x3 :: [])), (1, .vec 3 (.int .i64) x4 false), (2, .vec 5 (.int .u8) x5 false), (3, .vec 5 (.int .u8) x6 true)], 4, 3⟩)
theorem S52_a20_2_okg (fuel : Nat) (f128_a20 : YF128_a20) (R : Ev.St → Option Ans) (K : Ev.Ex → Ev.St → Option Ans) (x0 : Int) (x1 : Int) (x2 : Int) (x3 : Int) (x4 : Int) (x5 : Bool) (x6 : (List Int)) (x7 : (List Int)) (x8 : (List Int)) : evalCode tab (Gg52_a20 f128_a20) (J52_a20_2 fuel) kp52_a20 fuel (bodyOf 2 Tryz.f52) (T52_a20_2 (x0, x1, x2, x3, x4, x5, x6, x7, x8)) (lc kp52_a20 10 2 R K) = (fun (c : (Int × Int × Int × Int × Int × Bool × (List Int) × (List Int) × (List Int)) → Option Ans) (B : (Int × Int × Int × Bool × (List Int) × (List Int) × (List Int) → Option Ans)) => match B with
  | b =>
   bif Decidable.decide (x1 < x0) then
      bif Decidable.decide (Go.IntKind.i64.wrap ((24 : Int) - Go.IntKind.i64.wrap ((8 : Int) * x1)) < (0 : Int)) then
       none
      else
       bif Decidable.decide ((x8.length + [Go.IntKind.u8.wrap (Ev.ishr Go.IntKind.u64 x4 (Go.IntKind.i64.wrap ((24 : Int) - Go.IntKind.i64.wrap ((8 : Int) * x1))))].length) * (1 : Nat) ≤ (140737488355328 : Nat) ∧ x8.length + [Go.IntKind.u8.wrap (Ev.ishr Go.IntKind.u64 x4 (Go.IntKind.i64.wrap ((24 : Int) - Go.IntKind.i64.wrap ((8 : Int) * x1))))].length ≤ (140737488355328 : Nat)) then
       c (x0, Go.IntKind.i64.wrap (x1 + (1 : Int)), x2, x3, x4, x5, x6, x7, x8 ++ [Go.IntKind.u8.wrap (Ev.ishr Go.IntKind.u64 x4 (Go.IntKind.i64.wrap ((24 : Int) - Go.IntKind.i64.wrap ((8 : Int) * x1))))])
       else none
     else
      b (x2, x3, x4, x5, x6, x7, x8)) (fun v => R (T52_a20_2 v)) (E52_a20_2 K) := by
  kernel_rfl
theorem S52_a20_2_ok (fuel : Nat) (R : Ev.St → Option Ans) (K : Ev.Ex → Ev.St → Option Ans) (x0 : Int) (x1 : Int) (x2 : Int) (x3 : Int) (x4 : Int) (x5 : Bool) (x6 : (List Int)) (x7 : (List Int)) (x8 : (List Int)) : evalCode tab (G52_a20 fuel) (J52_a20_2 fuel) kp52_a20 fuel (bodyOf 2 Tryz.f52) (T52_a20_2 (x0, x1, x2, x3, x4, x5, x6, x7, x8)) (lc kp52_a20 10 2 R K) = S_coder_Encoder_End_a20_2 fuel (x0, x1, x2, x3, x4, x5, x6, x7, x8) (fun v => R (T52_a20_2 v)) (E52_a20_2 K) :=
  S52_a20_2_okg fuel (F_coder_Encoder_none_a20 fuel) R K x0 x1 x2 x3 x4 x5 x6 x7 x8
noncomputable def B52_a20_2 (fuel : Nat) : Ev.Blk := fun st K => match canonO (kp52_a20 10) st with
  | some s => (match s with
    | ⟨[(q0, .c (.ptr q1 q2)), (q3, .c (.own q4)), (q5, .c (.int .i64 x0)), (q6, .c (.int .i64 x1))], [(q7, .cells q8 cs0), (q9, .vec q10 (.int .i64) x6 false), (q11, .vec q12 (.int .u8) x7 false), (q13, .vec q14 (.int .u8) x8 true)], q15, q16⟩ => (match splitRun 2 [(.i64, 2048), (.i64, 1792), (.i64, 1568), (.i64, 1372), (.i64, 1201), (.i64, 1051), (.i64, 920), (.i64, 805), (.i64, 705), (.i64, 617), (.i64, 540), (.i64, 473), (.i64, 414), (.i64, 363), (.i64, 318), (.i64, 279), (.i64, 245), (.i64, 215), (.i64, 189), (.i64, 166), (.i64, 146), (.i64, 128), (.i64, 112), (.i64, 98), (.i64, 86), (.i64, 76), (.i64, 67), (.i64, 59), (.i64, 52), (.i64, 46), (.i64, 41), (.i64, 36)] cs0 with | some ([.int .i64 x2, .own q17], [.int .u64 x3, .int .u64 x4, .own q18, .bool x5]) => bif Nat.beq q0 0 && Nat.beq q1 0 && Nat.beq q2 0 && Nat.beq q3 3 && Nat.beq q4 3 && Nat.beq q5 37 && Nat.beq q6 38 && Nat.beq q7 0 && Nat.beq q8 173 && Nat.beq q9 1 && Nat.beq q10 3 && Nat.beq q11 2 && Nat.beq q12 5 && Nat.beq q13 3 && Nat.beq q14 5 && Nat.beq q15 4 && Nat.beq q16 3 && Nat.beq q17 1 && Nat.beq q18 2 then iter (S_coder_Encoder_End_a20_2 fuel) fuel (x0, x1, x2, x3, x4, x5, x6, x7, x8) (E52_a20_2 K) else none | _ => none)
    | _ => none)
  | none => none
theorem B52_a20_2_ok (fuel : Nat) (st : Ev.St) (K : Ev.Ex → Ev.St → Option Ans) (r : Ans) (h : B52_a20_2 fuel st K = some r) : evalCode tab (G52_a20 fuel) (J52_a20_2 fuel) kp52_a20 fuel (.block 2 (.loop (bodyOf 2 Tryz.f52))) st K = some r := by
  unfold B52_a20_2 at h
  split at h
  · rename_i s hs
    split at h
    · skip
      split at h
      rotate_left 1
      · cases h
      rename_i hsp
      have esp := splitRun_eq hsp
      subst esp
      obtain ⟨hb, h⟩ := cond_some' h
      simp only [Bool.and_eq_true, Nat.beq_eq, decide_eq_true_eq] at hb
      obtain ⟨⟨⟨⟨⟨⟨⟨⟨⟨⟨⟨⟨⟨⟨⟨⟨⟨⟨rfl, rfl⟩, rfl⟩, rfl⟩, rfl⟩, rfl⟩, rfl⟩, rfl⟩, rfl⟩, rfl⟩, rfl⟩, rfl⟩, rfl⟩, rfl⟩, rfl⟩, rfl⟩, rfl⟩, rfl⟩, rfl⟩ := hb
      exact blk_loop (S := T52_a20_2) (ks := E52_a20_2) (step := S_coder_Encoder_End_a20_2 fuel) (v := (_, _, _, _, _, _, _, _, _)) (by kernel_rfl) (by kernel_rfl) (fun R K v => by obtain ⟨x0, x1, x2, x3, x4, x5, x6, x7, x8⟩ := v; exact S52_a20_2_ok fuel R K x0 x1 x2 x3 x4 x5 x6 x7 x8) hs h
    · cases h
  · cases h
noncomputable def S_coder_Encoder_End_a20_0 (fuel : Nat) (v : Int × Int × Int × Int × Bool × (List Int) × (List Int) × (List Int)) (c : (Int × Int × Int × Int × Bool × (List Int) × (List Int) × (List Int)) → Option Ans) (B : (Int × Int × Int × Bool × (List Int) × (List Int) × (List Int) → Option Ans) × (Int × Int × Int × Bool × (List Int) × (List Int) × (List Int) → Option Ans)) : Option Ans := match v, B with
  | (x0, x1, x2, x3, x4, x5, x6, x7), (ret, b) =>
   bif Decidable.decide (x0 < (5 : Int)) then
      bif Decidable.decide (Go.IntKind.u64.wrap (Go.IntKind.i64.wrap ((32 : Int) - Go.IntKind.i64.wrap ((8 : Int) * x0))) < (0 : Int)) then
       none
      else
       bif Decidable.decide (Go.IntKind.u64.wrap (Go.IntKind.i64.wrap ((32 : Int) - Go.IntKind.i64.wrap ((8 : Int) * x0))) < (0 : Int)) then
        none
       else
        bif Decidable.decide (Ev.ishl Go.IntKind.u64 (Ev.ishr Go.IntKind.u64 x3 (Go.IntKind.u64.wrap (Go.IntKind.i64.wrap ((32 : Int) - Go.IntKind.i64.wrap ((8 : Int) * x0))))) (Go.IntKind.u64.wrap (Go.IntKind.i64.wrap ((32 : Int) - Go.IntKind.i64.wrap ((8 : Int) * x0)))) ≥ x2) then
         (L_coder_Encoder_End_a20_2 fuel (x0, (0 : Int), x1, x2, x3, x4, x5, x6, x7)
           (fun (b2_0, b2_1, b2_2, b2_3, b2_4, b2_5, b2_6) =>
             ret (b2_0, b2_1, b2_2, b2_3, b2_4, b2_5, b2_6)))
        else
         c (Go.IntKind.i64.wrap (x0 + (1 : Int)), x1, x2, x3, x4, x5, x6, x7)
     else
      b (x1, x2, x3, x4, x5, x6, x7)
noncomputable def L_coder_Encoder_End_a20_0 (fuel : Nat) (v : Int × Int × Int × Int × Bool × (List Int) × (List Int) × (List Int)) (ret : (Int × Int × Int × Bool × (List Int) × (List Int) × (List Int) → Option Ans)) (b : (Int × Int × Int × Bool × (List Int) × (List Int) × (List Int) → Option Ans)) : Option Ans := iter (S_coder_Encoder_End_a20_0 fuel) fuel v (ret, b)
noncomputable def J52_a20_0 (fuel : Nat) (i : Nat) : Option Ev.Blk := Ev.look i [(100002, B52_a20_2 fuel)]
noncomputable def T52_a20_0 (v : Int × Int × Int × Int × Bool × (List Int) × (List Int) × (List Int)) : Ev.St := match v with | (x0, x1, x2, x3, x4, x5, x6, x7) => ⟨[(0, .c (.ptr 0 0)), (3, .c (.own 3)), (15, .c (.int .i64 x0))], [(0, .cells 173 (.int .i64 x1 :: .own 1 :: .int .i64 2048 :: .int .i64 1792 :: .int .i64 1568 :: .int .i64 1372 :: .int .i64 1201 :: .int .i64 1051 :: .int .i64 920 :: .int .i64 805 :: .int .i64 705 :: .int .i64 617 :: .int .i64 540 :: .int .i64 473 :: .int .i64 414 :: .int .i64 363 :: .int .i64 318 :: .int .i64 279 :: .int .i64 245 :: .int .i64 215 :: .int .i64 189 :: .int .i64 166 :: .int .i64 146 :: .int .i64 128 :: .int .i64 112 :: .int .i64 98 :: .int .i64 86 :: .int .i64 76 :: .int .i64 67 :: .int .i64 59 :: .int .i64 52 :: .int .i64 46 :: .int .i64 41 :: .int .i64 36 :: .int .u64 x2 :: .int .u64 x3 :: .own 2 :: .bool x4 :: [])), (1, .vec 3 (.int .i64) x5 false), (2, .vec 5 (.int .u8) x6 false), (3, .vec 5 (.int .u8) x7 true)], 4, 3⟩
noncomputable def E52_a20_0 (K : Ev.Ex → Ev.St → Option Ans) : (Int × Int × Int × Bool × (List Int) × (List Int) × (List Int) → Option Ans) × (Int × Int × Int × Bool × (List Int) × (List Int) × (List Int) → Option Ans) := ((fun v => match v with | (x0, x1, x2, x3, x4, x5, x6) => K .ret ⟨[(2, .c (.own 3))], [(0, .cells 173 (.int .i64 x0 :: .own 1 :: .int .i64 2048 :: .int .i64 1792 :: .int .i64 1568 :: .int .i64 1372 :: .int .i64 1201 :: .int .i64 1051 :: .int .i64 920 :: .int .i64 805 :: .int .i64 705 :: .int .i64 617 :: .int .i64 540 :: .int .i64 473 :: .int .i64 414 :: .int .i64 363 :: .int .i64 318 :: .int .i64 279 :: .int .i64 245 :: .int .i64 215 :: .int .i64 189 :: .int .i64 166 :: .int .i64 146 :: .int .i64 128 :: .int .i64 112 :: .int .i64 98 :: .int .i64 86 :: .int .i64 76 :: .int .i64 67 :: .int .i64 59 :: .int .i64 52 :: .int .i64 46 :: .int .i64 41 :: .int .i64 36 :: .int .u64 x1 :: .int .u64 x2 :: .own 2 :: .bool x3 :: [])), (1, .vec 3 (.int .i64) x4 false), (2, .vec 5 (.int .u8) x5 false), (3, .vec 5 (.int .u8) x6 true)], 4, 3⟩), (fun v => match v with | (x0, x1, x2, x3, x4, x5, x6) => K .normal ⟨[(3, .c (.own 3))], [(0, .cells 173 (.int .i64 x0 :: .own 1 :: .int .i64 2048 :: .int .i64 1792 :: .int .i64 1568 :: .int .i64 1372 :: .int .i64 1201 :: .int .i64 1051 :: .int .i64 920 :: .int .i64 805 :: .int .i64 705 :: .int .i64 617 :: .int .i64 540 :: .int .i64 473 :: .int .i64 414 :: .int .i64 363 :: .int .i64 318 :: .int .i64 279 :: .int .i64 245 :: .int .i64 215 :: .int .i64 189 :: .int .i64 166 :: .int .i64 146 :: .int .i64 128 :: .int .i64 112 :: .int .i64 98 :: .int .i64 86 :: .int .i64 76 :: .int .i64 67 :: .int .i64 59 :: .int .i64 52 :: .int .i64 46 :: .int .i64 41 :: .int .i64 36 :: .int .u64 x1 :: .int .u64 x2 :: .own 2 :: .bool x3 :: [])), (1, .vec 3 (.int .i64) x4 false), (2, .vec 5 (.int .u8) x5 false), (3, .vec 5 (.int .u8) x6 true)], 4, 3⟩))
theorem S52_a20_0_okg (fuel : Nat) (f128_a20 : YF128_a20) (R : Ev.St → Option Ans) (K : Ev.Ex → Ev.St → Option Ans) (x0 : Int) (x1 : Int) (x2 : Int) (x3 : Int) (x4 : Bool) (x5 : (List Int)) (x6 : (List Int)) (x7 : (List Int)) : evalCode tab (Gg52_a20 f128_a20) (J52_a20_0 fuel) kp52_a20 fuel (bodyOf 0 Tryz.f52) (T52_a20_0 (x0, x1, x2, x3, x4, x5, x6, x7)) (lc kp52_a20 5 0 R K) = (fun (c : (Int × Int × Int × Int × Bool × (List Int) × (List Int) × (List Int)) → Option Ans) (B : (Int × Int × Int × Bool × (List Int) × (List Int) × (List Int) → Option Ans) × (Int × Int × Int × Bool × (List Int) × (List Int) × (List Int) → Option Ans)) => match B with
  | (ret, b) =>
   bif Decidable.decide (x0 < (5 : Int)) then
      bif Decidable.decide (Go.IntKind.u64.wrap (Go.IntKind.i64.wrap ((32 : Int) - Go.IntKind.i64.wrap ((8 : Int) * x0))) < (0 : Int)) then
       none
      else
       bif Decidable.decide (Go.IntKind.u64.wrap (Go.IntKind.i64.wrap ((32 : Int) - Go.IntKind.i64.wrap ((8 : Int) * x0))) < (0 : Int)) then
        none
       else
        bif Decidable.decide (Ev.ishl Go.IntKind.u64 (Ev.ishr Go.IntKind.u64 x3 (Go.IntKind.u64.wrap (Go.IntKind.i64.wrap ((32 : Int) - Go.IntKind.i64.wrap ((8 : Int) * x0))))) (Go.IntKind.u64.wrap (Go.IntKind.i64.wrap ((32 : Int) - Go.IntKind.i64.wrap ((8 : Int) * x0)))) ≥ x2) then
         (L_coder_Encoder_End_a20_2 fuel (x0, (0 : Int), x1, x2, x3, x4, x5, x6, x7)
           (fun (b2_0, b2_1, b2_2, b2_3, b2_4, b2_5, b2_6) =>
             ret (b2_0, b2_1, b2_2, b2_3, b2_4, b2_5, b2_6)))
        else
         c (Go.IntKind.i64.wrap (x0 + (1 : Int)), x1, x2, x3, x4, x5, x6, x7)
     else
      b (x1, x2, x3, x4, x5, x6, x7)) (fun v => R (T52_a20_0 v)) (E52_a20_0 K) := by
  kernel_rfl
theorem S52_a20_0_ok (fuel : Nat) (R : Ev.St → Option Ans) (K : Ev.Ex → Ev.St → Option Ans) (x0 : Int) (x1 : Int) (x2 : Int) (x3 : Int) (x4 : Bool) (x5 : (List Int)) (x6 : (List Int)) (x7 : (List Int)) : evalCode tab (G52_a20 fuel) (J52_a20_0 fuel) kp52_a20 fuel (bodyOf 0 Tryz.f52) (T52_a20_0 (x0, x1, x2, x3, x4, x5, x6, x7)) (lc kp52_a20 5 0 R K) = S_coder_Encoder_End_a20_0 fuel (x0, x1, x2, x3, x4, x5, x6, x7) (fun v => R (T52_a20_0 v)) (E52_a20_0 K) :=
  S52_a20_0_okg fuel (F_coder_Encoder_none_a20 fuel) R K x0 x1 x2 x3 x4 x5 x6 x7
noncomputable def B52_a20_0 (fuel : Nat) : Ev.Blk := fun st K => match canonO (kp52_a20 5) st with
  | some s => (match s with
    | ⟨[(q0, .c (.ptr q1 q2)), (q3, .c (.own q4)), (q5, .c (.int .i64 x0))], [(q6, .cells q7 cs0), (q8, .vec q9 (.int .i64) x5 false), (q10, .vec q11 (.int .u8) x6 false), (q12, .vec q13 (.int .u8) x7 true)], q14, q15⟩ => (match splitRun 2 [(.i64, 2048), (.i64, 1792), (.i64, 1568), (.i64, 1372), (.i64, 1201), (.i64, 1051), (.i64, 920), (.i64, 805), (.i64, 705), (.i64, 617), (.i64, 540), (.i64, 473), (.i64, 414), (.i64, 363), (.i64, 318), (.i64, 279), (.i64, 245), (.i64, 215), (.i64, 189), (.i64, 166), (.i64, 146), (.i64, 128), (.i64, 112), (.i64, 98), (.i64, 86), (.i64, 76), (.i64, 67), (.i64, 59), (.i64, 52), (.i64, 46), (.i64, 41), (.i64, 36)] cs0 with | some ([.int .i64 x1, .own q16], [.int .u64 x2, .int .u64 x3, .own q17, .bool x4]) => bif Nat.beq q0 0 && Nat.beq q1 0 && Nat.beq q2 0 && Nat.beq q3 3 && Nat.beq q4 3 && Nat.beq q5 15 && Nat.beq q6 0 && Nat.beq q7 173 && Nat.beq q8 1 && Nat.beq q9 3 && Nat.beq q10 2 && Nat.beq q11 5 && Nat.beq q12 3 && Nat.beq q13 5 && Nat.beq q14 4 && Nat.beq q15 3 && Nat.beq q16 1 && Nat.beq q17 2 then iter (S_coder_Encoder_End_a20_0 fuel) fuel (x0, x1, x2, x3, x4, x5, x6, x7) (E52_a20_0 K) else none | _ => none)
    | _ => none)
  | none => none
theorem B52_a20_0_ok (fuel : Nat) (st : Ev.St) (K : Ev.Ex → Ev.St → Option Ans) (r : Ans) (h : B52_a20_0 fuel st K = some r) : evalCode tab (G52_a20 fuel) (J52_a20_0 fuel) kp52_a20 fuel (.block 0 (.loop (bodyOf 0 Tryz.f52))) st K = some r := by
  unfold B52_a20_0 at h
  split at h
  · rename_i s hs
    split at h
    · skip
      split at h
      rotate_left 1
      · cases h
      rename_i hsp
      have esp := splitRun_eq hsp
      subst esp
      obtain ⟨hb, h⟩ := cond_some' h
      simp only [Bool.and_eq_true, Nat.beq_eq, decide_eq_true_eq] at hb
      obtain ⟨⟨⟨⟨⟨⟨⟨⟨⟨⟨⟨⟨⟨⟨⟨⟨⟨rfl, rfl⟩, rfl⟩, rfl⟩, rfl⟩, rfl⟩, rfl⟩, rfl⟩, rfl⟩, rfl⟩, rfl⟩, rfl⟩, rfl⟩, rfl⟩, rfl⟩, rfl⟩, rfl⟩, rfl⟩ := hb
      exact blk_loop (S := T52_a20_0) (ks := E52_a20_0) (step := S_coder_Encoder_End_a20_0 fuel) (v := (_, _, _, _, _, _, _, _)) (by kernel_rfl) (by kernel_rfl) (fun R K v => by obtain ⟨x0, x1, x2, x3, x4, x5, x6, x7⟩ := v; exact S52_a20_0_ok fuel R K x0 x1 x2 x3 x4 x5 x6 x7) hs h
    · cases h
  · cases h
noncomputable def J52_a20 (fuel : Nat) (i : Nat) : Option Ev.Blk := Ev.look i [(100002, B52_a20_2 fuel), (100000, B52_a20_0 fuel)]
noncomputable def F_coder_Encoder_End_a20 (fuel : Nat) (x0 : Int) (x1 : Int) (x2 : Int) (x3 : Bool) (x4 : (List Int)) (x5 : (List Int)) (k0 : (Int × Int × Int × Bool × (List Int) × (List Int) × (List Int)) → Option Ans) : Option Ans :=
  (F_coder_Encoder_none_a20 fuel (x0) (x1) (x2) (x3) (x4) (x5)
    (fun (y2_0, y2_1, y2_2, y2_3, y2_4, y2_5, y2_6) =>
      bif y2_0 then
       k0 (y2_1, y2_2, y2_3, y2_4, y2_5, y2_6, [])
      else
       bif Decidable.decide (((0 : Nat) + y2_6.length) * (1 : Nat) ≤ (140737488355328 : Nat) ∧ (0 : Nat) + y2_6.length ≤ (140737488355328 : Nat)) then
       (L_coder_Encoder_End_a20_0 fuel ((0 : Int), y2_1, y2_2, y2_3, y2_4, y2_5, y2_6, [] ++ y2_6)
          (fun (ret0_0, ret0_1, ret0_2, ret0_3, ret0_4, ret0_5, ret0_6) =>
            k0 (ret0_0, ret0_1, ret0_2, ret0_3, ret0_4, ret0_5, ret0_6))
          (fun (b0_0, b0_1, b0_2, b0_3, b0_4, b0_5, b0_6) =>
            k0 (b0_0, b0_1, b0_2, b0_3, b0_4, b0_5, b0_6)))
       else none))
abbrev YF52_a20 : Type := (Int) → (Int) → (Int) → (Bool) → ((List Int)) → ((List Int)) → ((Int × Int × Int × Bool × (List Int) × (List Int) × (List Int)) → Option Ans) → Option Ans
theorem F52_a20_eqg (fuel : Nat) (f128_a20 : YF128_a20) (x0 : Int) (x1 : Int) (x2 : Int) (x3 : Bool) (x4 : (List Int)) (x5 : (List Int)) (k : Ev.Cont) : evalFn tab (Gg52_a20 f128_a20) (J52_a20 fuel) kp52_a20 fuel Tryz.f52 [.c (.ptr 0 0)] [.cells 173 (.int .i64 x0 :: .own 1 :: .int .i64 2048 :: .int .i64 1792 :: .int .i64 1568 :: .int .i64 1372 :: .int .i64 1201 :: .int .i64 1051 :: .int .i64 920 :: .int .i64 805 :: .int .i64 705 :: .int .i64 617 :: .int .i64 540 :: .int .i64 473 :: .int .i64 414 :: .int .i64 363 :: .int .i64 318 :: .int .i64 279 :: .int .i64 245 :: .int .i64 215 :: .int .i64 189 :: .int .i64 166 :: .int .i64 146 :: .int .i64 128 :: .int .i64 112 :: .int .i64 98 :: .int .i64 86 :: .int .i64 76 :: .int .i64 67 :: .int .i64 59 :: .int .i64 52 :: .int .i64 46 :: .int .i64 41 :: .int .i64 36 :: .int .u64 x1 :: .int .u64 x2 :: .own 2 :: .bool x3 :: []), .vec 3 (.int .i64) x4 false, .vec 5 (.int .u8) x5 false] k = (fun  (k0 : (Int × Int × Int × Bool × (List Int) × (List Int) × (List Int)) → Option Ans) =>
  (f128_a20 (x0) (x1) (x2) (x3) (x4) (x5)
    (fun (y2_0, y2_1, y2_2, y2_3, y2_4, y2_5, y2_6) =>
      bif y2_0 then
       k0 (y2_1, y2_2, y2_3, y2_4, y2_5, y2_6, [])
      else
       bif Decidable.decide (((0 : Nat) + y2_6.length) * (1 : Nat) ≤ (140737488355328 : Nat) ∧ (0 : Nat) + y2_6.length ≤ (140737488355328 : Nat)) then
       (L_coder_Encoder_End_a20_0 fuel ((0 : Int), y2_1, y2_2, y2_3, y2_4, y2_5, y2_6, [] ++ y2_6)
          (fun (ret0_0, ret0_1, ret0_2, ret0_3, ret0_4, ret0_5, ret0_6) =>
            k0 (ret0_0, ret0_1, ret0_2, ret0_3, ret0_4, ret0_5, ret0_6))
          (fun (b0_0, b0_1, b0_2, b0_3, b0_4, b0_5, b0_6) =>
            k0 (b0_0, b0_1, b0_2, b0_3, b0_4, b0_5, b0_6)))
       else none))) (fun r => match r with | (r0, r1, r2, r3, r4, r5, r6) => k (.c (.own 3), [.cells 173 (.int .i64 r0 :: .own 1 :: .int .i64 2048 :: .int .i64 1792 :: .int .i64 1568 :: .int .i64 1372 :: .int .i64 1201 :: .int .i64 1051 :: .int .i64 920 :: .int .i64 805 :: .int .i64 705 :: .int .i64 617 :: .int .i64 540 :: .int .i64 473 :: .int .i64 414 :: .int .i64 363 :: .int .i64 318 :: .int .i64 279 :: .int .i64 245 :: .int .i64 215 :: .int .i64 189 :: .int .i64 166 :: .int .i64 146 :: .int .i64 128 :: .int .i64 112 :: .int .i64 98 :: .int .i64 86 :: .int .i64 76 :: .int .i64 67 :: .int .i64 59 :: .int .i64 52 :: .int .i64 46 :: .int .i64 41 :: .int .i64 36 :: .int .u64 r1 :: .int .u64 r2 :: .own 2 :: .bool r3 :: []), .vec 3 (.int .i64) r4 false, .vec 5 (.int .u8) r5 false, .vec 5 (.int .u8) r6 true])) := by
  kernel_rfl
theorem F52_a20_eq (fuel : Nat) (x0 : Int) (x1 : Int) (x2 : Int) (x3 : Bool) (x4 : (List Int)) (x5 : (List Int)) (k : Ev.Cont) : evalFn tab (G52_a20 fuel) (J52_a20 fuel) kp52_a20 fuel Tryz.f52 [.c (.ptr 0 0)] [.cells 173 (.int .i64 x0 :: .own 1 :: .int .i64 2048 :: .int .i64 1792 :: .int .i64 1568 :: .int .i64 1372 :: .int .i64 1201 :: .int .i64 1051 :: .int .i64 920 :: .int .i64 805 :: .int .i64 705 :: .int .i64 617 :: .int .i64 540 :: .int .i64 473 :: .int .i64 414 :: .int .i64 363 :: .int .i64 318 :: .int .i64 279 :: .int .i64 245 :: .int .i64 215 :: .int .i64 189 :: .int .i64 166 :: .int .i64 146 :: .int .i64 128 :: .int .i64 112 :: .int .i64 98 :: .int .i64 86 :: .int .i64 76 :: .int .i64 67 :: .int .i64 59 :: .int .i64 52 :: .int .i64 46 :: .int .i64 41 :: .int .i64 36 :: .int .u64 x1 :: .int .u64 x2 :: .own 2 :: .bool x3 :: []), .vec 3 (.int .i64) x4 false, .vec 5 (.int .u8) x5 false] k = F_coder_Encoder_End_a20 fuel x0 x1 x2 x3 x4 x5 (fun r => match r with | (r0, r1, r2, r3, r4, r5, r6) => k (.c (.own 3), [.cells 173 (.int .i64 r0 :: .own 1 :: .int .i64 2048 :: .int .i64 1792 :: .int .i64 1568 :: .int .i64 1372 :: .int .i64 1201 :: .int .i64 1051 :: .int .i64 920 :: .int .i64 805 :: .int .i64 705 :: .int .i64 617 :: .int .i64 540 :: .int .i64 473 :: .int .i64 414 :: .int .i64 363 :: .int .i64 318 :: .int .i64 279 :: .int .i64 245 :: .int .i64 215 :: .int .i64 189 :: .int .i64 166 :: .int .i64 146 :: .int .i64 128 :: .int .i64 112 :: .int .i64 98 :: .int .i64 86 :: .int .i64 76 :: .int .i64 67 :: .int .i64 59 :: .int .i64 52 :: .int .i64 46 :: .int .i64 41 :: .int .i64 36 :: .int .u64 r1 :: .int .u64 r2 :: .own 2 :: .bool r3 :: []), .vec 3 (.int .i64) r4 false, .vec 5 (.int .u8) r5 false, .vec 5 (.int .u8) r6 true])) :=
  F52_a20_eqg fuel (F_coder_Encoder_none_a20 fuel) x0 x1 x2 x3 x4 x5 k
theorem hG52_a20 (fuel : Nat) : GOK Tryz.prog (G52_a20 fuel) :=
  gok_cons ⟨ok128_a20 fuel, enters_of Tryz.func128 (by kernel_rfl) rfl⟩ <|
  gok_nil
theorem B52_a20_2_blk (fuel : Nat) : BlkOK Tryz.prog Tryz.f52.ntmps (.block 2 (.loop (bodyOf 2 Tryz.f52))) (B52_a20_2 fuel) :=
  blk_of (blk_of_code tab_ok (hG52_a20 fuel) mixed (J := J52_a20_2 fuel) (kp := kp52_a20) (fuel := fuel) (by kernel_rfl) (fun q hq => by
    rw [(by kernel_rfl : obl (J52_a20_2 fuel) (.block 2 (.loop (bodyOf 2 Tryz.f52))) = [])] at hq
    cases hq)) (B52_a20_2_ok fuel)
theorem B52_a20_0_blk (fuel : Nat) : BlkOK Tryz.prog Tryz.f52.ntmps (.block 0 (.loop (bodyOf 0 Tryz.f52))) (B52_a20_0 fuel) :=
  blk_of (blk_of_code tab_ok (hG52_a20 fuel) mixed (J := J52_a20_0 fuel) (kp := kp52_a20) (fuel := fuel) (by kernel_rfl) (fun q hq => by
    rw [(by kernel_rfl : obl (J52_a20_0 fuel) (.block 0 (.loop (bodyOf 0 Tryz.f52))) = [(.block 2 (.loop (bodyOf 2 Tryz.f52)), B52_a20_2 fuel)])] at hq
    simp only [List.mem_cons, List.not_mem_nil, or_false] at hq
    subst hq
    · exact B52_a20_2_blk fuel)) (B52_a20_0_ok fuel)
theorem fok52_a20 (fuel : Nat) : FnOK Tryz.prog 52 (evalFn tab (G52_a20 fuel) (J52_a20 fuel) kp52_a20 fuel Tryz.f52) :=
  fn_ok tab_ok (hG52_a20 fuel) mixed Tryz.func52 (c := (Tryz.f52.body).getD .skip) rfl (fun q hq => by
    rw [(by kernel_rfl : obl (J52_a20 fuel) ((Tryz.f52.body).getD .skip) = [(.block 0 (.loop (bodyOf 0 Tryz.f52)), B52_a20_0 fuel)])] at hq
    simp only [List.mem_cons, List.not_mem_nil, or_false] at hq
    subst hq
    · exact B52_a20_0_blk fuel)
noncomputable def mt52_a20 : List Ev.SV → List Ev.Ob → Bool := fun args objs => match args, objs with
  | [.c (.ptr q0 q1)], [.cells q2 cs0, .vec q3 (.int .i64) _ false, .vec q4 (.int .u8) _ false] => (match splitRun 2 [(.i64, 2048), (.i64, 1792), (.i64, 1568), (.i64, 1372), (.i64, 1201), (.i64, 1051), (.i64, 920), (.i64, 805), (.i64, 705), (.i64, 617), (.i64, 540), (.i64, 473), (.i64, 414), (.i64, 363), (.i64, 318), (.i64, 279), (.i64, 245), (.i64, 215), (.i64, 189), (.i64, 166), (.i64, 146), (.i64, 128), (.i64, 112), (.i64, 98), (.i64, 86), (.i64, 76), (.i64, 67), (.i64, 59), (.i64, 52), (.i64, 46), (.i64, 41), (.i64, 36)] cs0 with | some ([.int .i64 _, .own q5], [.int .u64 _, .int .u64 _, .own q6, .bool _]) => Nat.beq q0 0 && Nat.beq q1 0 && Nat.beq q2 173 && Nat.beq q3 3 && Nat.beq q4 5 && Nat.beq q5 1 && Nat.beq q6 2 | _ => false)
  | _, _ => false
noncomputable def spg52_a20 (F : YF52_a20) : Ev.Spec := fun args objs k => match args, objs with
  | [.c (.ptr q0 q1)], [.cells q2 cs0, .vec q3 (.int .i64) x4 false, .vec q4 (.int .u8) x5 false] => (match splitRun 2 [(.i64, 2048), (.i64, 1792), (.i64, 1568), (.i64, 1372), (.i64, 1201), (.i64, 1051), (.i64, 920), (.i64, 805), (.i64, 705), (.i64, 617), (.i64, 540), (.i64, 473), (.i64, 414), (.i64, 363), (.i64, 318), (.i64, 279), (.i64, 245), (.i64, 215), (.i64, 189), (.i64, 166), (.i64, 146), (.i64, 128), (.i64, 112), (.i64, 98), (.i64, 86), (.i64, 76), (.i64, 67), (.i64, 59), (.i64, 52), (.i64, 46), (.i64, 41), (.i64, 36)] cs0 with | some ([.int .i64 x0, .own q5], [.int .u64 x1, .int .u64 x2, .own q6, .bool x3]) => bif Nat.beq q0 0 && Nat.beq q1 0 && Nat.beq q2 173 && Nat.beq q3 3 && Nat.beq q4 5 && Nat.beq q5 1 && Nat.beq q6 2 then F x0 x1 x2 x3 x4 x5 (fun r => match r with | (r0, r1, r2, r3, r4, r5, r6) => k (.c (.own 3), [.cells 173 (.int .i64 r0 :: .own 1 :: .int .i64 2048 :: .int .i64 1792 :: .int .i64 1568 :: .int .i64 1372 :: .int .i64 1201 :: .int .i64 1051 :: .int .i64 920 :: .int .i64 805 :: .int .i64 705 :: .int .i64 617 :: .int .i64 540 :: .int .i64 473 :: .int .i64 414 :: .int .i64 363 :: .int .i64 318 :: .int .i64 279 :: .int .i64 245 :: .int .i64 215 :: .int .i64 189 :: .int .i64 166 :: .int .i64 146 :: .int .i64 128 :: .int .i64 112 :: .int .i64 98 :: .int .i64 86 :: .int .i64 76 :: .int .i64 67 :: .int .i64 59 :: .int .i64 52 :: .int .i64 46 :: .int .i64 41 :: .int .i64 36 :: .int .u64 r1 :: .int .u64 r2 :: .own 2 :: .bool r3 :: []), .vec 3 (.int .i64) r4 false, .vec 5 (.int .u8) r5 false, .vec 5 (.int .u8) r6 true])) else none | _ => none)
  | _, _ => none
noncomputable def spec52_a20 (fuel : Nat) : Ev.Spec := spg52_a20 (F_coder_Encoder_End_a20 fuel)
theorem ok52_a20 (fuel : Nat) : FnOK Tryz.prog 52 (spec52_a20 fuel) := by
  intro args objs kk r h
  unfold spec52_a20 spg52_a20 at h
  split at h
  · skip
    split at h
    rotate_left 1
    · cases h
    rename_i hsp
    have esp := splitRun_eq hsp
    subst esp
    obtain ⟨hb, h⟩ := cond_some' h
    simp only [Bool.and_eq_true, Nat.beq_eq, decide_eq_true_eq] at hb
    obtain ⟨⟨⟨⟨⟨⟨rfl, rfl⟩, rfl⟩, rfl⟩, rfl⟩, rfl⟩, rfl⟩ := hb
    exact fok52_a20 fuel _ _ kk r ((F52_a20_eq fuel _ _ _ _ _ _ kk).trans h)
  · cases h
end Go.Proofs.YtipdidpalcmlhaaGreat

set_option linter.unusedVariables false
set_option linter.unusedSimpArgs false
set_option maxRecDepth 100000
set_option maxHeartbeats 2000000
namespace Go.Proofs.YtipdidpalcmlhaaGreat
open Go Ev
def kp145_40a (i : Nat) : Option (List Nat) := Ev.look i [(200001, [0]), (200002, [0])]
noncomputable def Gg145_40a (f : Nat) : Option Ev.Spec := Ev.look f []
noncomputable def G145_40a (fuel : Nat) : Nat → Option Ev.Spec := Gg145_40a
noncomputable def J145_40a (fuel : Nat) (i : Nat) : Option Ev.Blk := Ev.look i []
noncomputable def F_coder_Decoder_shift_40a (fuel : Nat) (x0 : Int) (x1 : Int) (x2 : Int) (x3 : Int) (x4 : Int) (x5 : Int) (x6 : Bool) (x7 : Bool) (x8 : (List Int)) (x9 : (List Int)) (k0 : (Int × Int × Int × Int × Int × Int × Bool × Bool × (List Int) × (List Int)) → Option Ans) : Option Ans :=
  bif Decidable.decide (x3 < (↑x9.length : Int)) then
   bif Decidable.decide ((0 : Int) ≤ x3 ∧ x3 < (↑x9.length : Int)) then
   k0 (x0, x1, x2, Go.IntKind.i64.wrap (x3 + (1 : Int)), Ev.ior Go.IntKind.u64 (Ev.iand Go.IntKind.u64 (Ev.ishl Go.IntKind.u64 x4 (8 : Int)) (4294967295 : Int)) (Go.IntKind.u64.wrap (x9.getD x3.toNat (0 : Int))), x5, x6, x7, x8, x9)
   else none
  else
   k0 (x0, x1, x2, Go.IntKind.i64.wrap (x3 + (1 : Int)), Ev.ior Go.IntKind.u64 (Ev.iand Go.IntKind.u64 (Ev.ishl Go.IntKind.u64 x4 (8 : Int)) (4294967295 : Int)) (Go.IntKind.u64.wrap (0 : Int)), Go.IntKind.i64.wrap (x5 + (1 : Int)), x6, x7, x8, x9)
abbrev YF145_40a : Type := (Int) → (Int) → (Int) → (Int) → (Int) → (Int) → (Bool) → (Bool) → ((List Int)) → ((List Int)) → ((Int × Int × Int × Int × Int × Int × Bool × Bool × (List Int) × (List Int)) → Option Ans) → Option Ans
theorem F145_40a_eq (fuel : Nat) (x0 : Int) (x1 : Int) (x2 : Int) (x3 : Int) (x4 : Int) (x5 : Int) (x6 : Bool) (x7 : Bool) (x8 : (List Int)) (x9 : (List Int)) (k : Ev.Cont) : evalFn tab (G145_40a fuel) (J145_40a fuel) kp145_40a fuel Tryz.f145 [.c (.ptr 0 0)] [.cells 194 (.int .i64 x0 :: .own 1 :: .int .i64 2048 :: .int .i64 1792 :: .int .i64 1568 :: .int .i64 1372 :: .int .i64 1201 :: .int .i64 1051 :: .int .i64 920 :: .int .i64 805 :: .int .i64 705 :: .int .i64 617 :: .int .i64 540 :: .int .i64 473 :: .int .i64 414 :: .int .i64 363 :: .int .i64 318 :: .int .i64 279 :: .int .i64 245 :: .int .i64 215 :: .int .i64 189 :: .int .i64 166 :: .int .i64 146 :: .int .i64 128 :: .int .i64 112 :: .int .i64 98 :: .int .i64 86 :: .int .i64 76 :: .int .i64 67 :: .int .i64 59 :: .int .i64 52 :: .int .i64 46 :: .int .i64 41 :: .int .i64 36 :: .int .u64 x1 :: .int .u64 x2 :: .own 2 :: .int .i64 x3 :: .int .u64 x4 :: .int .i64 x5 :: .bool x6 :: .bool x7 :: []), .vec 3 (.int .i64) x8 false, .vec 5 (.int .u8) x9 false] k = F_coder_Decoder_shift_40a fuel x0 x1 x2 x3 x4 x5 x6 x7 x8 x9 (fun r => match r with | (r0, r1, r2, r3, r4, r5, r6, r7, r8, r9) => k (.tup [], [.cells 194 (.int .i64 r0 :: .own 1 :: .int .i64 2048 :: .int .i64 1792 :: .int .i64 1568 :: .int .i64 1372 :: .int .i64 1201 :: .int .i64 1051 :: .int .i64 920 :: .int .i64 805 :: .int .i64 705 :: .int .i64 617 :: .int .i64 540 :: .int .i64 473 :: .int .i64 414 :: .int .i64 363 :: .int .i64 318 :: .int .i64 279 :: .int .i64 245 :: .int .i64 215 :: .int .i64 189 :: .int .i64 166 :: .int .i64 146 :: .int .i64 128 :: .int .i64 112 :: .int .i64 98 :: .int .i64 86 :: .int .i64 76 :: .int .i64 67 :: .int .i64 59 :: .int .i64 52 :: .int .i64 46 :: .int .i64 41 :: .int .i64 36 :: .int .u64 r1 :: .int .u64 r2 :: .own 2 :: .int .i64 r3 :: .int .u64 r4 :: .int .i64 r5 :: .bool r6 :: .bool r7 :: []), .vec 3 (.int .i64) r8 false, .vec 5 (.int .u8) r9 false])) := by
  kernel_rfl
theorem hG145_40a (fuel : Nat) : GOK Tryz.prog (G145_40a fuel) :=
  gok_nil
theorem fok145_40a (fuel : Nat) : FnOK Tryz.prog 145 (evalFn tab (G145_40a fuel) (J145_40a fuel) kp145_40a fuel Tryz.f145) :=
  fn_ok tab_ok (hG145_40a fuel) mixed Tryz.func145 (c := (Tryz.f145.body).getD .skip) rfl (fun q hq => by
    rw [(by kernel_rfl : obl (J145_40a fuel) ((Tryz.f145.body).getD .skip) = [])] at hq
    cases hq)
noncomputable def mt145_40a : List Ev.SV → List Ev.Ob → Bool := fun args objs => match args, objs with
  | [.c (.ptr q0 q1)], [.cells q2 cs0, .vec q3 (.int .i64) _ false, .vec q4 (.int .u8) _ false] => (match splitRun 2 [(.i64, 2048), (.i64, 1792), (.i64, 1568), (.i64, 1372), (.i64, 1201), (.i64, 1051), (.i64, 920), (.i64, 805), (.i64, 705), (.i64, 617), (.i64, 540), (.i64, 473), (.i64, 414), (.i64, 363), (.i64, 318), (.i64, 279), (.i64, 245), (.i64, 215), (.i64, 189), (.i64, 166), (.i64, 146), (.i64, 128), (.i64, 112), (.i64, 98), (.i64, 86), (.i64, 76), (.i64, 67), (.i64, 59), (.i64, 52), (.i64, 46), (.i64, 41), (.i64, 36)] cs0 with | some ([.int .i64 _, .own q5], [.int .u64 _, .int .u64 _, .own q6, .int .i64 _, .int .u64 _, .int .i64 _, .bool _, .bool _]) => Nat.beq q0 0 && Nat.beq q1 0 && Nat.beq q2 194 && Nat.beq q3 3 && Nat.beq q4 5 && Nat.beq q5 1 && Nat.beq q6 2 | _ => false)
  | _, _ => false
noncomputable def spg145_40a (F : YF145_40a) : Ev.Spec := fun args objs k => match args, objs with
  | [.c (.ptr q0 q1)], [.cells q2 cs0, .vec q3 (.int .i64) x8 false, .vec q4 (.int .u8) x9 false] => (match splitRun 2 [(.i64, 2048), (.i64, 1792), (.i64, 1568), (.i64, 1372), (.i64, 1201), (.i64, 1051), (.i64, 920), (.i64, 805), (.i64, 705), (.i64, 617), (.i64, 540), (.i64, 473), (.i64, 414), (.i64, 363), (.i64, 318), (.i64, 279), (.i64, 245), (.i64, 215), (.i64, 189), (.i64, 166), (.i64, 146), (.i64, 128), (.i64, 112), (.i64, 98), (.i64, 86), (.i64, 76), (.i64, 67), (.i64, 59), (.i64, 52), (.i64, 46), (.i64, 41), (.i64, 36)] cs0 with | some ([.int .i64 x0, .own q5], [.int .u64 x1, .int .u64 x2, .own q6, .int .i64 x3, .int .u64 x4, .int .i64 x5, .bool x6, .bool x7]) => bif Nat.beq q0 0 && Nat.beq q1 0 && Nat.beq q2 194 && Nat.beq q3 3 && Nat.beq q4 5 && Nat.beq q5 1 && Nat.beq q6 2 then F x0 x1 x2 x3 x4 x5 x6 x7 x8 x9 (fun r => match r with | (r0, r1, r2, r3, r4, r5, r6, r7, r8, r9) => k (.tup [], [.cells 194 (.int .i64 r0 :: .own 1 :: .int .i64 2048 :: .int .i64 1792 :: .int .i64 1568 :: .int .i64 1372 :: .int .i64 1201 :: .int .i64 1051 :: .int .i64 920 :: .int .i64 805 :: .int .i64 705 :: .int .i64 617 :: .int .i64 540 :: .int .i64 473 :: .int .i64 414 :: .int .i64 363 :: .int .i64 318 :: .int .i64 279 :: .int .i64 245 :: .int .i64 215 :: .int .i64 189 :: .int .i64 166 :: .int .i64 146 :: .int .i64 128 :: .int .i64 112 :: .int .i64 98 :: .int .i64 86 :: .int .i64 76 :: .int .i64 67 :: .int .i64 59 :: .int .i64 52 :: .int .i64 46 :: .int .i64 41 :: .int .i64 36 :: .int .u64 r1 :: .int .u64 r2 :: .own 2 :: .int .i64 r3 :: .int .u64 r4 :: .int .i64 r5 :: .bool r6 :: .bool r7 :: []), .vec 3 (.int .i64) r8 false, .vec 5 (.int .u8) r9 false])) else none | _ => none)
  | _, _ => none
noncomputable def spec145_40a (fuel : Nat) : Ev.Spec := spg145_40a (F_coder_Decoder_shift_40a fuel)
theorem ok145_40a (fuel : Nat) : FnOK Tryz.prog 145 (spec145_40a fuel) := by
  intro args objs kk r h
  unfold spec145_40a spg145_40a at h
  split at h
  · skip
    split at h
    rotate_left 1
    · cases h
    rename_i hsp
    have esp := splitRun_eq hsp
    subst esp
    obtain ⟨hb, h⟩ := cond_some' h
    simp only [Bool.and_eq_true, Nat.beq_eq, decide_eq_true_eq] at hb
    obtain ⟨⟨⟨⟨⟨⟨rfl, rfl⟩, rfl⟩, rfl⟩, rfl⟩, rfl⟩, rfl⟩ := hb
    exact fok145_40a fuel _ _ kk r ((F145_40a_eq fuel _ _ _ _ _ _ _ _ _ _ kk).trans h)
  · cases h
end Go.Proofs.YtipdidpalcmlhaaGreat

set_option linter.unusedVariables false
set_option linter.unusedSimpArgs false
set_option maxRecDepth 100000
set_option maxHeartbeats 2000000
namespace Go.Proofs.YtipdidpalcmlhaaGreat
open Go Ev
def kp65 (i : Nat) : Option (List Nat) := Ev.look i [(5, [6, 17]), (100000, [6]), (400000, [4, 5]), (600000, [])]
noncomputable def Gg65 (f118 : YF118) (f119 : YF119) (f145_40a : YF145_40a) (f : Nat) : Option Ev.Spec := Ev.look f [(118, spg118 f118), (119, spg119 f119), (145, spg145_40a f145_40a)]
noncomputable def G65 (fuel : Nat) : Nat → Option Ev.Spec := Gg65 (F_coder_Valid fuel) (F_coder_begin fuel) (F_coder_Decoder_shift_40a fuel)
noncomputable def S_coder_NewDecoder_0 (fuel : Nat) (v : Int × Int × Int × Int × Int × Int × Int × Bool × Bool × (List Int) × (List Int)) (c : (Int × Int × Int × Int × Int × Int × Int × Bool × Bool × (List Int) × (List Int)) → Option Ans) (B : (Int × Int × Int × Int × Int × Int × Bool × Bool × (List Int) × (List Int) → Option Ans)) : Option Ans := match v, B with
  | (x0, x1, x2, x3, x4, x5, x6, x7, x8, x9, x10), b =>
   bif Decidable.decide (x0 < (4 : Int)) then
      (F_coder_Decoder_shift_40a fuel (x1) (x2) (x3) (x4) (x5) (x6) (x7) (x8) (x9) (x10)
        (fun (y3_0, y3_1, y3_2, y3_3, y3_4, y3_5, y3_6, y3_7, y3_8, y3_9) =>
          c (Go.IntKind.i64.wrap (x0 + (1 : Int)), y3_0, y3_1, y3_2, y3_3, y3_4, y3_5, y3_6, y3_7, y3_8, y3_9)))
     else
      b (x1, x2, x3, x4, x5, x6, x7, x8, x9, x10)
noncomputable def L_coder_NewDecoder_0 (fuel : Nat) (v : Int × Int × Int × Int × Int × Int × Int × Bool × Bool × (List Int) × (List Int)) (b : (Int × Int × Int × Int × Int × Int × Bool × Bool × (List Int) × (List Int) → Option Ans)) : Option Ans := iter (S_coder_NewDecoder_0 fuel) fuel v b
noncomputable def J65_0 (fuel : Nat) (i : Nat) : Option Ev.Blk := Ev.look i []
noncomputable def T65_0 (v : Int × Int × Int × Int × Int × Int × Int × Bool × Bool × (List Int) × (List Int)) : Ev.St := match v with | (x0, x1, x2, x3, x4, x5, x6, x7, x8, x9, x10) => ⟨[(6, .c (.ptr 0 0)), (17, .c (.int .i64 x0))], [(0, .cells 194 (.int .i64 x1 :: .own 1 :: .int .i64 2048 :: .int .i64 1792 :: .int .i64 1568 :: .int .i64 1372 :: .int .i64 1201 :: .int .i64 1051 :: .int .i64 920 :: .int .i64 805 :: .int .i64 705 :: .int .i64 617 :: .int .i64 540 :: .int .i64 473 :: .int .i64 414 :: .int .i64 363 :: .int .i64 318 :: .int .i64 279 :: .int .i64 245 :: .int .i64 215 :: .int .i64 189 :: .int .i64 166 :: .int .i64 146 :: .int .i64 128 :: .int .i64 112 :: .int .i64 98 :: .int .i64 86 :: .int .i64 76 :: .int .i64 67 :: .int .i64 59 :: .int .i64 52 :: .int .i64 46 :: .int .i64 41 :: .int .i64 36 :: .int .u64 x2 :: .int .u64 x3 :: .own 2 :: .int .i64 x4 :: .int .u64 x5 :: .int .i64 x6 :: .bool x7 :: .bool x8 :: [])), (1, .vec 3 (.int .i64) x9 true), (2, .vec 5 (.int .u8) x10 true)], 3, 0⟩
noncomputable def E65_0 (K : Ev.Ex → Ev.St → Option Ans) : (Int × Int × Int × Int × Int × Int × Bool × Bool × (List Int) × (List Int) → Option Ans) := (fun v => match v with | (x0, x1, x2, x3, x4, x5, x6, x7, x8, x9) => K .normal ⟨[(6, .c (.ptr 0 0))], [(0, .cells 194 (.int .i64 x0 :: .own 1 :: .int .i64 2048 :: .int .i64 1792 :: .int .i64 1568 :: .int .i64 1372 :: .int .i64 1201 :: .int .i64 1051 :: .int .i64 920 :: .int .i64 805 :: .int .i64 705 :: .int .i64 617 :: .int .i64 540 :: .int .i64 473 :: .int .i64 414 :: .int .i64 363 :: .int .i64 318 :: .int .i64 279 :: .int .i64 245 :: .int .i64 215 :: .int .i64 189 :: .int .i64 166 :: .int .i64 146 :: .int .i64 128 :: .int .i64 112 :: .int .i64 98 :: .int .i64 86 :: .int .i64 76 :: .int .i64 67 :: .int .i64 59 :: .int .i64 52 :: .int .i64 46 :: .int .i64 41 :: .int .i64 36 :: .int .u64 x1 :: .int .u64 x2 :: .own 2 :: .int .i64 x3 :: .int .u64 x4 :: .int .i64 x5 :: .bool x6 :: .bool x7 :: [])), (1, .vec 3 (.int .i64) x8 true), (2, .vec 5 (.int .u8) x9 true)], 3, 0⟩)
theorem S65_0_okg (fuel : Nat) (f118 : YF118) (f119 : YF119) (f145_40a : YF145_40a) (R : Ev.St → Option Ans) (K : Ev.Ex → Ev.St → Option Ans) (x0 : Int) (x1 : Int) (x2 : Int) (x3 : Int) (x4 : Int) (x5 : Int) (x6 : Int) (x7 : Bool) (x8 : Bool) (x9 : (List Int)) (x10 : (List Int)) : evalCode tab (Gg65 f118 f119 f145_40a) (J65_0 fuel) kp65 fuel (bodyOf 0 Tryz.f65) (T65_0 (x0, x1, x2, x3, x4, x5, x6, x7, x8, x9, x10)) (lc kp65 5 0 R K) = (fun (c : (Int × Int × Int × Int × Int × Int × Int × Bool × Bool × (List Int) × (List Int)) → Option Ans) (B : (Int × Int × Int × Int × Int × Int × Bool × Bool × (List Int) × (List Int) → Option Ans)) => match B with
  | b =>
   bif Decidable.decide (x0 < (4 : Int)) then
      (f145_40a (x1) (x2) (x3) (x4) (x5) (x6) (x7) (x8) (x9) (x10)
        (fun (y3_0, y3_1, y3_2, y3_3, y3_4, y3_5, y3_6, y3_7, y3_8, y3_9) =>
          c (Go.IntKind.i64.wrap (x0 + (1 : Int)), y3_0, y3_1, y3_2, y3_3, y3_4, y3_5, y3_6, y3_7, y3_8, y3_9)))
     else
      b (x1, x2, x3, x4, x5, x6, x7, x8, x9, x10)) (fun v => R (T65_0 v)) (E65_0 K) := by
  kernel_rfl
theorem S65_0_ok (fuel : Nat) (R : Ev.St → Option Ans) (K : Ev.Ex → Ev.St → Option Ans) (x0 : Int) (x1 : Int) (x2 : Int) (x3 : Int) (x4 : Int) (x5 : Int) (x6 : Int) (x7 : Bool) (x8 : Bool) (x9 : (List Int)) (x10 : (List Int)) : evalCode tab (G65 fuel) (J65_0 fuel) kp65 fuel (bodyOf 0 Tryz.f65) (T65_0 (x0, x1, x2, x3, x4, x5, x6, x7, x8, x9, x10)) (lc kp65 5 0 R K) = S_coder_NewDecoder_0 fuel (x0, x1, x2, x3, x4, x5, x6, x7, x8, x9, x10) (fun v => R (T65_0 v)) (E65_0 K) :=
  S65_0_okg fuel (F_coder_Valid fuel) (F_coder_begin fuel) (F_coder_Decoder_shift_40a fuel) R K x0 x1 x2 x3 x4 x5 x6 x7 x8 x9 x10
noncomputable def B65_0 (fuel : Nat) : Ev.Blk := fun st K => match canonO (kp65 5) st with
  | some s => (match s with
    | ⟨[(q0, .c (.ptr q1 q2)), (q3, .c (.int .i64 x0))], [(q4, .cells q5 cs0), (q6, .vec q7 (.int .i64) x9 true), (q8, .vec q9 (.int .u8) x10 true)], q10, q11⟩ => (match splitRun 2 [(.i64, 2048), (.i64, 1792), (.i64, 1568), (.i64, 1372), (.i64, 1201), (.i64, 1051), (.i64, 920), (.i64, 805), (.i64, 705), (.i64, 617), (.i64, 540), (.i64, 473), (.i64, 414), (.i64, 363), (.i64, 318), (.i64, 279), (.i64, 245), (.i64, 215), (.i64, 189), (.i64, 166), (.i64, 146), (.i64, 128), (.i64, 112), (.i64, 98), (.i64, 86), (.i64, 76), (.i64, 67), (.i64, 59), (.i64, 52), (.i64, 46), (.i64, 41), (.i64, 36)] cs0 with | some ([.int .i64 x1, .own q12], [.int .u64 x2, .int .u64 x3, .own q13, .int .i64 x4, .int .u64 x5, .int .i64 x6, .bool x7, .bool x8]) => bif Nat.beq q0 6 && Nat.beq q1 0 && Nat.beq q2 0 && Nat.beq q3 17 && Nat.beq q4 0 && Nat.beq q5 194 && Nat.beq q6 1 && Nat.beq q7 3 && Nat.beq q8 2 && Nat.beq q9 5 && Nat.beq q10 3 && Nat.beq q11 0 && Nat.beq q12 1 && Nat.beq q13 2 then iter (S_coder_NewDecoder_0 fuel) fuel (x0, x1, x2, x3, x4, x5, x6, x7, x8, x9, x10) (E65_0 K) else none | _ => none)
    | _ => none)
  | none => none
theorem B65_0_ok (fuel : Nat) (st : Ev.St) (K : Ev.Ex → Ev.St → Option Ans) (r : Ans) (h : B65_0 fuel st K = some r) : evalCode tab (G65 fuel) (J65_0 fuel) kp65 fuel (.block 0 (.loop (bodyOf 0 Tryz.f65))) st K = some r := by
  unfold B65_0 at h
  split at h
  · rename_i s hs
    split at h
    · skip
      split at h
      rotate_left 1
      · cases h
      rename_i hsp
      have esp := splitRun_eq hsp
      subst esp
      obtain ⟨hb, h⟩ := cond_some' h
      simp only [Bool.and_eq_true, Nat.beq_eq, decide_eq_true_eq] at hb
      obtain ⟨⟨⟨⟨⟨⟨⟨⟨⟨⟨⟨⟨⟨rfl, rfl⟩, rfl⟩, rfl⟩, rfl⟩, rfl⟩, rfl⟩, rfl⟩, rfl⟩, rfl⟩, rfl⟩, rfl⟩, rfl⟩, rfl⟩ := hb
      exact blk_loop (S := T65_0) (ks := E65_0) (step := S_coder_NewDecoder_0 fuel) (v := (_, _, _, _, _, _, _, _, _, _, _)) (by kernel_rfl) (by kernel_rfl) (fun R K v => by obtain ⟨x0, x1, x2, x3, x4, x5, x6, x7, x8, x9, x10⟩ := v; exact S65_0_ok fuel R K x0 x1 x2 x3 x4 x5 x6 x7 x8 x9 x10) hs h
    · cases h
  · cases h
noncomputable def J65 (fuel : Nat) (i : Nat) : Option Ev.Blk := Ev.look i [(100000, B65_0 fuel)]
noncomputable def F_coder_NewDecoder (fuel : Nat) (x0 : Int) (x1 : (List Int)) (x2 : (List Int)) (k0 : (Int) → Option Ans) (k1 : (Int × Int × Int × Int × Int × Int × Int × Bool × Bool × (List Int) × (List Int)) → Option Ans) : Option Ans :=
  (F_coder_Valid fuel (x0) (x1)
    (fun y2 =>
      bif !y2 then
       k0 ((10 : Int))
      else
       (F_coder_begin fuel (x0) (x1)
         (fun (y7_0, y7_1, y7_2, y7_3) =>
           bif Decidable.decide (((0 : Nat) + x2.length) * (1 : Nat) ≤ (140737488355328 : Nat) ∧ (0 : Nat) + x2.length ≤ (140737488355328 : Nat)) then
           (L_coder_NewDecoder_0 fuel ((0 : Int), y7_0, y7_1, y7_2, (0 : Int), (0 : Int), (0 : Int), Bool.false, Bool.true, y7_3, [] ++ x2)
              (fun (b0_0, b0_1, b0_2, b0_3, b0_4, b0_5, b0_6, b0_7, b0_8, b0_9) =>
                k1 ((0 : Int), b0_0, b0_1, b0_2, b0_3, b0_4, b0_5, b0_6, b0_7, b0_8, b0_9)))
           else none))))
abbrev YF65 : Type := (Int) → ((List Int)) → ((List Int)) → ((Int) → Option Ans) → ((Int × Int × Int × Int × Int × Int × Int × Bool × Bool × (List Int) × (List Int)) → Option Ans) → Option Ans
theorem F65_eqg (fuel : Nat) (f118 : YF118) (f119 : YF119) (f145_40a : YF145_40a) (x0 : Int) (x1 : (List Int)) (x2 : (List Int)) (k : Ev.Cont) : evalFn tab (Gg65 f118 f119 f145_40a) (J65 fuel) kp65 fuel Tryz.f65 [.agg [.int .i64 x0, .sl (.int .i64) x1], .c (.sl (.int .u8) x2)] [] k = (fun  (k0 : (Int) → Option Ans) (k1 : (Int × Int × Int × Int × Int × Int × Int × Bool × Bool × (List Int) × (List Int)) → Option Ans) =>
  (f118 (x0) (x1)
    (fun y2 =>
      bif !y2 then
       k0 ((10 : Int))
      else
       (f119 (x0) (x1)
         (fun (y7_0, y7_1, y7_2, y7_3) =>
           bif Decidable.decide (((0 : Nat) + x2.length) * (1 : Nat) ≤ (140737488355328 : Nat) ∧ (0 : Nat) + x2.length ≤ (140737488355328 : Nat)) then
           (L_coder_NewDecoder_0 fuel ((0 : Int), y7_0, y7_1, y7_2, (0 : Int), (0 : Int), (0 : Int), Bool.false, Bool.true, y7_3, [] ++ x2)
              (fun (b0_0, b0_1, b0_2, b0_3, b0_4, b0_5, b0_6, b0_7, b0_8, b0_9) =>
                k1 ((0 : Int), b0_0, b0_1, b0_2, b0_3, b0_4, b0_5, b0_6, b0_7, b0_8, b0_9)))
           else none))))) (fun r => match r with | r0 => k (.tup [(false, [.nilptr]), (false, [.int .i64 r0])], [])) (fun r => match r with | (r0, r1, r2, r3, r4, r5, r6, r7, r8, r9, r10) => k (.tup [(false, [.ptr 0 0]), (false, [.int .i64 r0])], [.cells 194 (.int .i64 r1 :: .own 1 :: .int .i64 2048 :: .int .i64 1792 :: .int .i64 1568 :: .int .i64 1372 :: .int .i64 1201 :: .int .i64 1051 :: .int .i64 920 :: .int .i64 805 :: .int .i64 705 :: .int .i64 617 :: .int .i64 540 :: .int .i64 473 :: .int .i64 414 :: .int .i64 363 :: .int .i64 318 :: .int .i64 279 :: .int .i64 245 :: .int .i64 215 :: .int .i64 189 :: .int .i64 166 :: .int .i64 146 :: .int .i64 128 :: .int .i64 112 :: .int .i64 98 :: .int .i64 86 :: .int .i64 76 :: .int .i64 67 :: .int .i64 59 :: .int .i64 52 :: .int .i64 46 :: .int .i64 41 :: .int .i64 36 :: .int .u64 r2 :: .int .u64 r3 :: .own 2 :: .int .i64 r4 :: .int .u64 r5 :: .int .i64 r6 :: .bool r7 :: .bool r8 :: []), .vec 3 (.int .i64) r9 true, .vec 5 (.int .u8) r10 true])) := by
  kernel_rfl
theorem F65_eq (fuel : Nat) (x0 : Int) (x1 : (List Int)) (x2 : (List Int)) (k : Ev.Cont) : evalFn tab (G65 fuel) (J65 fuel) kp65 fuel Tryz.f65 [.agg [.int .i64 x0, .sl (.int .i64) x1], .c (.sl (.int .u8) x2)] [] k = F_coder_NewDecoder fuel x0 x1 x2 (fun r => match r with | r0 => k (.tup [(false, [.nilptr]), (false, [.int .i64 r0])], [])) (fun r => match r with | (r0, r1, r2, r3, r4, r5, r6, r7, r8, r9, r10) => k (.tup [(false, [.ptr 0 0]), (false, [.int .i64 r0])], [.cells 194 (.int .i64 r1 :: .own 1 :: .int .i64 2048 :: .int .i64 1792 :: .int .i64 1568 :: .int .i64 1372 :: .int .i64 1201 :: .int .i64 1051 :: .int .i64 920 :: .int .i64 805 :: .int .i64 705 :: .int .i64 617 :: .int .i64 540 :: .int .i64 473 :: .int .i64 414 :: .int .i64 363 :: .int .i64 318 :: .int .i64 279 :: .int .i64 245 :: .int .i64 215 :: .int .i64 189 :: .int .i64 166 :: .int .i64 146 :: .int .i64 128 :: .int .i64 112 :: .int .i64 98 :: .int .i64 86 :: .int .i64 76 :: .int .i64 67 :: .int .i64 59 :: .int .i64 52 :: .int .i64 46 :: .int .i64 41 :: .int .i64 36 :: .int .u64 r2 :: .int .u64 r3 :: .own 2 :: .int .i64 r4 :: .int .u64 r5 :: .int .i64 r6 :: .bool r7 :: .bool r8 :: []), .vec 3 (.int .i64) r9 true, .vec 5 (.int .u8) r10 true])) :=
  F65_eqg fuel (F_coder_Valid fuel) (F_coder_begin fuel) (F_coder_Decoder_shift_40a fuel) x0 x1 x2 k
theorem hG65 (fuel : Nat) : GOK Tryz.prog (G65 fuel) :=
  gok_cons ⟨ok118 fuel, enters_of Tryz.func118 (by kernel_rfl) rfl⟩ <|
  gok_cons ⟨ok119 fuel, enters_of Tryz.func119 (by kernel_rfl) rfl⟩ <|
  gok_cons ⟨ok145_40a fuel, enters_of Tryz.func145 (by kernel_rfl) rfl⟩ <|
  gok_nil
theorem B65_0_blk (fuel : Nat) : BlkOK Tryz.prog Tryz.f65.ntmps (.block 0 (.loop (bodyOf 0 Tryz.f65))) (B65_0 fuel) :=
  blk_of (blk_of_code tab_ok (hG65 fuel) mixed (J := J65_0 fuel) (kp := kp65) (fuel := fuel) (by kernel_rfl) (fun q hq => by
    rw [(by kernel_rfl : obl (J65_0 fuel) (.block 0 (.loop (bodyOf 0 Tryz.f65))) = [])] at hq
    cases hq)) (B65_0_ok fuel)
theorem fok65 (fuel : Nat) : FnOK Tryz.prog 65 (evalFn tab (G65 fuel) (J65 fuel) kp65 fuel Tryz.f65) :=
  fn_ok tab_ok (hG65 fuel) mixed Tryz.func65 (c := (Tryz.f65.body).getD .skip) rfl (fun q hq => by
    rw [(by kernel_rfl : obl (J65 fuel) ((Tryz.f65.body).getD .skip) = [(.block 0 (.loop (bodyOf 0 Tryz.f65)), B65_0 fuel)])] at hq
    simp only [List.mem_cons, List.not_mem_nil, or_false] at hq
    subst hq
    · exact B65_0_blk fuel)
noncomputable def mt65 : List Ev.SV → List Ev.Ob → Bool := fun args objs => match args, objs with
  | [.agg [.int .i64 _, .sl (.int .i64) _], .c (.sl (.int .u8) _)], [] => true
  | _, _ => false
noncomputable def spg65 (F : YF65) : Ev.Spec := fun args objs k => match args, objs with
  | [.agg [.int .i64 x0, .sl (.int .i64) x1], .c (.sl (.int .u8) x2)], [] => bif true then F x0 x1 x2 (fun r => match r with | r0 => k (.tup [(false, [.nilptr]), (false, [.int .i64 r0])], [])) (fun r => match r with | (r0, r1, r2, r3, r4, r5, r6, r7, r8, r9, r10) => k (.tup [(false, [.ptr 0 0]), (false, [.int .i64 r0])], [.cells 194 (.int .i64 r1 :: .own 1 :: .int .i64 2048 :: .int .i64 1792 :: .int .i64 1568 :: .int .i64 1372 :: .int .i64 1201 :: .int .i64 1051 :: .int .i64 920 :: .int .i64 805 :: .int .i64 705 :: .int .i64 617 :: .int .i64 540 :: .int .i64 473 :: .int .i64 414 :: .int .i64 363 :: .int .i64 318 :: .int .i64 279 :: .int .i64 245 :: .int .i64 215 :: .int .i64 189 :: .int .i64 166 :: .int .i64 146 :: .int .i64 128 :: .int .i64 112 :: .int .i64 98 :: .int .i64 86 :: .int .i64 76 :: .int .i64 67 :: .int .i64 59 :: .int .i64 52 :: .int .i64 46 :: .int .i64 41 :: .int .i64 36 :: .int .u64 r2 :: .int .u64 r3 :: .own 2 :: .int .i64 r4 :: .int .u64 r5 :: .int .i64 r6 :: .bool r7 :: .bool r8 :: []), .vec 3 (.int .i64) r9 true, .vec 5 (.int .u8) r10 true])) else none
  | _, _ => none
noncomputable def spec65 (fuel : Nat) : Ev.Spec := spg65 (F_coder_NewDecoder fuel)
theorem ok65 (fuel : Nat) : FnOK Tryz.prog 65 (spec65 fuel) := by
  intro args objs kk r h
  unfold spec65 spg65 at h
  split at h
  · skip
    obtain ⟨hb, h⟩ := cond_some' h
    simp only [Bool.and_eq_true, Nat.beq_eq, decide_eq_true_eq] at hb
    clear hb
    exact fok65 fuel _ _ kk r ((F65_eq fuel _ _ _ kk).trans h)
  · cases h
end Go.Proofs.YtipdidpalcmlhaaGreat

set_option linter.unusedVariables false
set_option linter.unusedSimpArgs false
set_option maxRecDepth 100000
set_option maxHeartbeats 2000000
namespace Go.Proofs.YtipdidpalcmlhaaGreat
open Go Ev
def kp207 (i : Nat) : Option (List Nat) := Ev.look i []
noncomputable def Gg207 (f : Nat) : Option Ev.Spec := Ev.look f []
noncomputable def G207 (fuel : Nat) : Nat → Option Ev.Spec := Gg207
noncomputable def J207 (fuel : Nat) (i : Nat) : Option Ev.Blk := Ev.look i []
noncomputable def F_math_bits_Len64 (fuel : Nat) (x0 : Int) (k0 : (Int) → Option Ans) : Option Ans :=
  bif Decidable.decide (x0 ≥ (4294967296 : Int)) then
   bif Decidable.decide (Ev.ishr Go.IntKind.u64 x0 (32 : Int) ≥ (65536 : Int)) then
    bif Decidable.decide (Ev.ishr Go.IntKind.u64 (Ev.ishr Go.IntKind.u64 x0 (32 : Int)) (16 : Int) ≥ (256 : Int)) then
     bif Decidable.decide ((0 : Int) ≤ Go.IntKind.u8.wrap (Ev.ishr Go.IntKind.u64 (Ev.ishr Go.IntKind.u64 (Ev.ishr Go.IntKind.u64 x0 (32 : Int)) (16 : Int)) (8 : Int)) ∧ Go.IntKind.u8.wrap (Ev.ishr Go.IntKind.u64 (Ev.ishr Go.IntKind.u64 (Ev.ishr Go.IntKind.u64 x0 (32 : Int)) (16 : Int)) (8 : Int)) < (↑(ByteArray.mk (([(0 : UInt8), (1 : UInt8), (2 : UInt8), (2 : UInt8), (3 : UInt8), (3 : UInt8), (3 : UInt8), (3 : UInt8), (4 : UInt8), (4 : UInt8), (4 : UInt8), (4 : UInt8), (4 : UInt8), (4 : UInt8), (4 : UInt8), (4 : UInt8), (5 : UInt8), (5 : UInt8), (5 : UInt8), (5 : UInt8), (5 : UInt8), (5 : UInt8), (5 : UInt8), (5 : UInt8), (5 : UInt8), (5 : UInt8), (5 : UInt8), (5 : UInt8), (5 : UInt8), (5 : UInt8), (5 : UInt8), (5 : UInt8), (6 : UInt8), (6 : UInt8), (6 : UInt8), (6 : UInt8), (6 : UInt8), (6 : UInt8), (6 : UInt8), (6 : UInt8), (6 : UInt8), (6 : UInt8), (6 : UInt8), (6 : UInt8), (6 : UInt8), (6 : UInt8), (6 : UInt8), (6 : UInt8), (6 : UInt8), (6 : UInt8), (6 : UInt8), (6 : UInt8), (6 : UInt8), (6 : UInt8), (6 : UInt8), (6 : UInt8), (6 : UInt8), (6 : UInt8), (6 : UInt8), (6 : UInt8), (6 : UInt8), (6 : UInt8), (6 : UInt8), (6 : UInt8)].append [(7 : UInt8), (7 : UInt8), (7 : UInt8), (7 : UInt8), (7 : UInt8), (7 : UInt8), (7 : UInt8), (7 : UInt8), (7 : UInt8), (7 : UInt8), (7 : UInt8), (7 : UInt8), (7 : UInt8), (7 : UInt8), (7 : UInt8), (7 : UInt8), (7 : UInt8), (7 : UInt8), (7 : UInt8), (7 : UInt8), (7 : UInt8), (7 : UInt8), (7 : UInt8), (7 : UInt8), (7 : UInt8), (7 : UInt8), (7 : UInt8), (7 : UInt8), (7 : UInt8), (7 : UInt8), (7 : UInt8), (7 : UInt8), (7 : UInt8), (7 : UInt8), (7 : UInt8), (7 : UInt8), (7 : UInt8), (7 : UInt8), (7 : UInt8), (7 : UInt8), (7 : UInt8), (7 : UInt8), (7 : UInt8), (7 : UInt8), (7 : UInt8), (7 : UInt8), (7 : UInt8), (7 : UInt8), (7 : UInt8), (7 : UInt8), (7 : UInt8), (7 : UInt8), (7 : UInt8), (7 : UInt8), (7 : UInt8), (7 : UInt8), (7 : UInt8), (7 : UInt8), (7 : UInt8), (7 : UInt8), (7 : UInt8), (7 : UInt8), (7 : UInt8), (7 : UInt8)]).append ([(8 : UInt8), (8 : UInt8), (8 : UInt8), (8 : UInt8), (8 : UInt8), (8 : UInt8), (8 : UInt8), (8 : UInt8), (8 : UInt8), (8 : UInt8), (8 : UInt8), (8 : UInt8), (8 : UInt8), (8 : UInt8), (8 : UInt8), (8 : UInt8), (8 : UInt8), (8 : UInt8), (8 : UInt8), (8 : UInt8), (8 : UInt8), (8 : UInt8), (8 : UInt8), (8 : UInt8), (8 : UInt8), (8 : UInt8), (8 : UInt8), (8 : UInt8), (8 : UInt8), (8 : UInt8), (8 : UInt8), (8 : UInt8), (8 : UInt8), (8 : UInt8), (8 : UInt8), (8 : UInt8), (8 : UInt8), (8 : UInt8), (8 : UInt8), (8 : UInt8), (8 : UInt8), (8 : UInt8), (8 : UInt8), (8 : UInt8), (8 : UInt8), (8 : UInt8), (8 : UInt8), (8 : UInt8), (8 : UInt8), (8 : UInt8), (8 : UInt8), (8 : UInt8), (8 : UInt8), (8 : UInt8), (8 : UInt8), (8 : UInt8), (8 : UInt8), (8 : UInt8), (8 : UInt8), (8 : UInt8), (8 : UInt8), (8 : UInt8), (8 : UInt8), (8 : UInt8)].append [(8 : UInt8), (8 : UInt8), (8 : UInt8), (8 : UInt8), (8 : UInt8), (8 : UInt8), (8 : UInt8), (8 : UInt8), (8 : UInt8), (8 : UInt8), (8 : UInt8), (8 : UInt8), (8 : UInt8), (8 : UInt8), (8 : UInt8), (8 : UInt8), (8 : UInt8), (8 : UInt8), (8 : UInt8), (8 : UInt8), (8 : UInt8), (8 : UInt8), (8 : UInt8), (8 : UInt8), (8 : UInt8), (8 : UInt8), (8 : UInt8), (8 : UInt8), (8 : UInt8), (8 : UInt8), (8 : UInt8), (8 : UInt8), (8 : UInt8), (8 : UInt8), (8 : UInt8), (8 : UInt8), (8 : UInt8), (8 : UInt8), (8 : UInt8), (8 : UInt8), (8 : UInt8), (8 : UInt8), (8 : UInt8), (8 : UInt8), (8 : UInt8), (8 : UInt8), (8 : UInt8), (8 : UInt8), (8 : UInt8), (8 : UInt8), (8 : UInt8), (8 : UInt8), (8 : UInt8), (8 : UInt8), (8 : UInt8), (8 : UInt8), (8 : UInt8), (8 : UInt8), (8 : UInt8), (8 : UInt8), (8 : UInt8), (8 : UInt8), (8 : UInt8), (8 : UInt8)])).toArray).size : Int)) then
     k0 (Go.IntKind.i64.wrap (Go.IntKind.i64.wrap (Go.IntKind.i64.wrap ((32 : Int) + (16 : Int)) + (8 : Int)) + Go.IntKind.i64.wrap (↑((ByteArray.mk (([(0 : UInt8), (1 : UInt8), (2 : UInt8), (2 : UInt8), (3 : UInt8), (3 : UInt8), (3 : UInt8), (3 : UInt8), (4 : UInt8), (4 : UInt8), (4 : UInt8), (4 : UInt8), (4 : UInt8), (4 : UInt8), (4 : UInt8), (4 : UInt8), (5 : UInt8), (5 : UInt8), (5 : UInt8), (5 : UInt8), (5 : UInt8), (5 : UInt8), (5 : UInt8), (5 : UInt8), (5 : UInt8), (5 : UInt8), (5 : UInt8), (5 : UInt8), (5 : UInt8), (5 : UInt8), (5 : UInt8), (5 : UInt8), (6 : UInt8), (6 : UInt8), (6 : UInt8), (6 : UInt8), (6 : UInt8), (6 : UInt8), (6 : UInt8), (6 : UInt8), (6 : UInt8), (6 : UInt8), (6 : UInt8), (6 : UInt8), (6 : UInt8), (6 : UInt8), (6 : UInt8), (6 : UInt8), (6 : UInt8), (6 : UInt8), (6 : UInt8), (6 : UInt8), (6 : UInt8), (6 : UInt8), (6 : UInt8), (6 : UInt8), (6 : UInt8), (6 : UInt8), (6 : UInt8), (6 : UInt8), (6 : UInt8), (6 : UInt8), (6 : UInt8), (6 : UInt8)].append [(7 : UInt8), (7 : UInt8), (7 : UInt8), (7 : UInt8), (7 : UInt8), (7 : UInt8), (7 : UInt8), (7 : UInt8), (7 : UInt8), (7 : UInt8), (7 : UInt8), (7 : UInt8), (7 : UInt8), (7 : UInt8), (7 : UInt8), (7 : UInt8), (7 : UInt8), (7 : UInt8), (7 : UInt8), (7 : UInt8), (7 : UInt8), (7 : UInt8), (7 : UInt8), (7 : UInt8), (7 : UInt8), (7 : UInt8), (7 : UInt8), (7 : UInt8), (7 : UInt8), (7 : UInt8), (7 : UInt8), (7 : UInt8), (7 : UInt8), (7 : UInt8), (7 : UInt8), (7 : UInt8), (7 : UInt8), (7 : UInt8), (7 : UInt8), (7 : UInt8), (7 : UInt8), (7 : UInt8), (7 : UInt8), (7 : UInt8), (7 : UInt8), (7 : UInt8), (7 : UInt8), (7 : UInt8), (7 : UInt8), (7 : UInt8), (7 : UInt8), (7 : UInt8), (7 : UInt8), (7 : UInt8), (7 : UInt8), (7 : UInt8), (7 : UInt8), (7 : UInt8), (7 : UInt8), (7 : UInt8), (7 : UInt8), (7 : UInt8), (7 : UInt8), (7 : UInt8)]).append ([(8 : UInt8), (8 : UInt8), (8 : UInt8), (8 : UInt8), (8 : UInt8), (8 : UInt8), (8 : UInt8), (8 : UInt8), (8 : UInt8), (8 : UInt8), (8 : UInt8), (8 : UInt8), (8 : UInt8), (8 : UInt8), (8 : UInt8), (8 : UInt8), (8 : UInt8), (8 : UInt8), (8 : UInt8), (8 : UInt8), (8 : UInt8), (8 : UInt8), (8 : UInt8), (8 : UInt8), (8 : UInt8), (8 : UInt8), (8 : UInt8), (8 : UInt8), (8 : UInt8), (8 : UInt8), (8 : UInt8), (8 : UInt8), (8 : UInt8), (8 : UInt8), (8 : UInt8), (8 : UInt8), (8 : UInt8), (8 : UInt8), (8 : UInt8), (8 : UInt8), (8 : UInt8), (8 : UInt8), (8 : UInt8), (8 : UInt8), (8 : UInt8), (8 : UInt8), (8 : UInt8), (8 : UInt8), (8 : UInt8), (8 : UInt8), (8 : UInt8), (8 : UInt8), (8 : UInt8), (8 : UInt8), (8 : UInt8), (8 : UInt8), (8 : UInt8), (8 : UInt8), (8 : UInt8), (8 : UInt8), (8 : UInt8), (8 : UInt8), (8 : UInt8), (8 : UInt8)].append [(8 : UInt8), (8 : UInt8), (8 : UInt8), (8 : UInt8), (8 : UInt8), (8 : UInt8), (8 : UInt8), (8 : UInt8), (8 : UInt8), (8 : UInt8), (8 : UInt8), (8 : UInt8), (8 : UInt8), (8 : UInt8), (8 : UInt8), (8 : UInt8), (8 : UInt8), (8 : UInt8), (8 : UInt8), (8 : UInt8), (8 : UInt8), (8 : UInt8), (8 : UInt8), (8 : UInt8), (8 : UInt8), (8 : UInt8), (8 : UInt8), (8 : UInt8), (8 : UInt8), (8 : UInt8), (8 : UInt8), (8 : UInt8), (8 : UInt8), (8 : UInt8), (8 : UInt8), (8 : UInt8), (8 : UInt8), (8 : UInt8), (8 : UInt8), (8 : UInt8), (8 : UInt8), (8 : UInt8), (8 : UInt8), (8 : UInt8), (8 : UInt8), (8 : UInt8), (8 : UInt8), (8 : UInt8), (8 : UInt8), (8 : UInt8), (8 : UInt8), (8 : UInt8), (8 : UInt8), (8 : UInt8), (8 : UInt8), (8 : UInt8), (8 : UInt8), (8 : UInt8), (8 : UInt8), (8 : UInt8), (8 : UInt8), (8 : UInt8), (8 : UInt8), (8 : UInt8)])).toArray).data.toList.getD (Go.IntKind.u8.wrap (Ev.ishr Go.IntKind.u64 (Ev.ishr Go.IntKind.u64 (Ev.ishr Go.IntKind.u64 x0 (32 : Int)) (16 : Int)) (8 : Int))).toNat (0 : UInt8)).toNat : Int)))
     else none
    else
     bif Decidable.decide ((0 : Int) ≤ Go.IntKind.u8.wrap (Ev.ishr Go.IntKind.u64 (Ev.ishr Go.IntKind.u64 x0 (32 : Int)) (16 : Int)) ∧ Go.IntKind.u8.wrap (Ev.ishr Go.IntKind.u64 (Ev.ishr Go.IntKind.u64 x0 (32 : Int)) (16 : Int)) < (↑(ByteArray.mk (([(0 : UInt8), (1 : UInt8), (2 : UInt8), (2 : UInt8), (3 : UInt8), (3 : UInt8), (3 : UInt8), (3 : UInt8), (4 : UInt8), (4 : UInt8), (4 : UInt8), (4 : UInt8), (4 : UInt8), (4 : UInt8), (4 : UInt8), (4 : UInt8), (5 : UInt8), (5 : UInt8), (5 : UInt8), (5 : UInt8), (5 : UInt8), (5 : UInt8), (5 : UInt8), (5 : UInt8), (5 : UInt8), (5 : UInt8), (5 : UInt8), (5 : UInt8), (5 : UInt8), (5 : UInt8), (5 : UInt8), (5 : UInt8), (6 : UInt8), (6 : UInt8), (6 : UInt8), (6 : UInt8), (6 : UInt8), (6 : UInt8), (6 : UInt8), (6 : UInt8), (6 : UInt8), (6 : UInt8), (6 : UInt8), (6 : UInt8), (6 : UInt8), (6 : UInt8), (6 : UInt8), (6 : UInt8), (6 : UInt8), (6 : UInt8), (6 : UInt8), (6 : UInt8), (6 : UInt8), (6 : UInt8), (6 : UInt8), (6 : UInt8), (6 : UInt8), (6 : UInt8), (6 : UInt8), (6 : UInt8), (6 : UInt8), (6 : UInt8), (6 : UInt8), (6 : UInt8)].append [(7 : UInt8), (7 : UInt8), (7 : UInt8), (7 : UInt8), (7 : UInt8), (7 : UInt8), (7 : UInt8), (7 : UInt8), (7 : UInt8), (7 : UInt8), (7 : UInt8), (7 : UInt8), (7 : UInt8), (7 : UInt8), (7 : UInt8), (7 : UInt8), (7 : UInt8), (7 : UInt8), (7 : UInt8), (7 : UInt8), (7 : UInt8), (7 : UInt8), (7 : UInt8), (7 : UInt8), (7 : UInt8), (7 : UInt8), (7 : UInt8), (7 : UInt8), (7 : UInt8), (7 : UInt8), (7 : UInt8), (7 : UInt8), (7 : UInt8), (7 : UInt8), (7 : UInt8), (7 : UInt8), (7 : UInt8), (7 : UInt8), (7 : UInt8), (7 : UInt8), (7 : UInt8), (7 : UInt8), (7 : UInt8), (7 : UInt8), (7 : UInt8), (7 : UInt8), (7 : UInt8), (7 : UInt8), (7 : UInt8), (7 : UInt8), (7 : UInt8), (7 : UInt8), (7 : UInt8), (7 : UInt8), (7 : UInt8), (7 : UInt8), (7 : UInt8), (7 : UInt8), (7 : UInt8), (7 : UInt8), (7 : UInt8), (7 : UInt8), (7 : UInt8), (7 : UInt8)]).append ([(8 : UInt8), (8 : UInt8), (8 : UInt8), (8 : UInt8), (8 : UInt8), (8 : UInt8), (8 : UInt8), (8 : UInt8), (8 : UInt8), (8 : UInt8), (8 : UInt8), (8 : UInt8), (8 : UInt8), (8 : UInt8), (8 : UInt8), (8 : UInt8), (8 : UInt8), (8 : UInt8), (8 : UInt8), (8 : UInt8), (8 : UInt8), (8 : UInt8), (8 : UInt8), (8 : UInt8), (8 : UInt8), (8 : UInt8), (8 : UInt8), (8 : UInt8), (8 : UInt8), (8 : UInt8), (8 : UInt8), (8 : UInt8), (8 : UInt8), (8 : UInt8), (8 : UInt8), (8 : UInt8), (8 : UInt8), (8 : UInt8), (8 : UInt8), (8 : UInt8), (8 : UInt8), (8 : UInt8), (8 : UInt8), (8 : UInt8), (8 : UInt8), (8 : UInt8), (8 : UInt8), (8 : UInt8), (8 : UInt8), (8 : UInt8), (8 : UInt8), (8 : UInt8), (8 : UInt8), (8 : UInt8), (8 : UInt8), (8 : UInt8), (8 : UInt8), (8 : UInt8), (8 : UInt8), (8 : UInt8), (8 : UInt8), (8 : UInt8), (8 : UInt8), (8 : UInt8)].append [(8 : UInt8), (8 : UInt8), (8 : UInt8), (8 : UInt8), (8 : UInt8), (8 : UInt8), (8 : UInt8), (8 : UInt8), (8 : UInt8), (8 : UInt8), (8 : UInt8), (8 : UInt8), (8 : UInt8), (8 : UInt8), (8 : UInt8), (8 : UInt8), (8 : UInt8), (8 : UInt8), (8 : UInt8), (8 : UInt8), (8 : UInt8), (8 : UInt8), (8 : UInt8), (8 : UInt8), (8 : UInt8), (8 : UInt8), (8 : UInt8), (8 : UInt8), (8 : UInt8), (8 : UInt8), (8 : UInt8), (8 : UInt8), (8 : UInt8), (8 : UInt8), (8 : UInt8), (8 : UInt8), (8 : UInt8), (8 : UInt8), (8 : UInt8), (8 : UInt8), (8 : UInt8), (8 : UInt8), (8 : UInt8), (8 : UInt8), (8 : UInt8), (8 : UInt8), (8 : UInt8), (8 : UInt8), (8 : UInt8), (8 : UInt8), (8 : UInt8), (8 : UInt8), (8 : UInt8), (8 : UInt8), (8 : UInt8), (8 : UInt8), (8 : UInt8), (8 : UInt8), (8 : UInt8), (8 : UInt8), (8 : UInt8), (8 : UInt8), (8 : UInt8), (8 : UInt8)])).toArray).size : Int)) then
     k0 (Go.IntKind.i64.wrap (Go.IntKind.i64.wrap ((32 : Int) + (16 : Int)) + Go.IntKind.i64.wrap (↑((ByteArray.mk (([(0 : UInt8), (1 : UInt8), (2 : UInt8), (2 : UInt8), (3 : UInt8), (3 : UInt8), (3 : UInt8), (3 : UInt8), (4 : UInt8), (4 : UInt8), (4 : UInt8), (4 : UInt8), (4 : UInt8), (4 : UInt8), (4 : UInt8), (4 : UInt8), (5 : UInt8), (5 : UInt8), (5 : UInt8), (5 : UInt8), (5 : UInt8), (5 : UInt8), (5 : UInt8), (5 : UInt8), (5 : UInt8), (5 : UInt8), (5 : UInt8), (5 : UInt8), (5 : UInt8), (5 : UInt8), (5 : UInt8), (5 : UInt8), (6 : UInt8), (6 : UInt8), (6 : UInt8), (6 : UInt8), (6 : UInt8), (6 : UInt8), (6 : UInt8), (6 : UInt8), (6 : UInt8), (6 : UInt8), (6 : UInt8), (6 : UInt8), (6 : UInt8), (6 : UInt8), (6 : UInt8), (6 : UInt8), (6 : UInt8), (6 : UInt8), (6 : UInt8), (6 : UInt8), (6 : UInt8), (6 : UInt8), (6 : UInt8), (6 : UInt8), (6 : UInt8), (6 : UInt8), (6 : UInt8), (6 : UInt8), (6 : UInt8), (6 : UInt8), (6 : UInt8), (6 : UInt8)].append [(7 : UInt8), (7 : UInt8), (7 : UInt8), (7 : UInt8), (7 : UInt8), (7 : UInt8), (7 : UInt8), (7 : UInt8), (7 : UInt8), (7 : UInt8), (7 : UInt8), (7 : UInt8), (7 : UInt8), (7 : UInt8), (7 : UInt8), (7 : UInt8), (7 : UInt8), (7 : UInt8), (7 : UInt8), (7 : UInt8), (7 : UInt8), (7 : UInt8), (7 : UInt8), (7 : UInt8), (7 : UInt8), (7 : UInt8), (7 : UInt8), (7 : UInt8), (7 : UInt8), (7 : UInt8), (7 : UInt8), (7 : UInt8), (7 : UInt8), (7 : UInt8), (7 : UInt8), (7 : UInt8), (7 : UInt8), (7 : UInt8), (7 : UInt8), (7 : UInt8), (7 : UInt8), (7 : UInt8), (7 : UInt8), (7 : UInt8), (7 : UInt8), (7 : UInt8), (7 : UInt8), (7 : UInt8), (7 : UInt8), (7 : UInt8), (7 : UInt8), (7 : UInt8), (7 : UInt8), (7 : UInt8), (7 : UInt8), (7 : UInt8), (7 : UInt8), (7 : UInt8), (7 : UInt8), (7 : UInt8), (7 : UInt8), (7 : UInt8), (7 : UInt8), (7 : UInt8)]).append ([(8 : UInt8), (8 : UInt8), (8 : UInt8), (8 : UInt8), (8 : UInt8), (8 : UInt8), (8 : UInt8), (8 : UInt8), (8 : UInt8), (8 : UInt8), (8 : UInt8), (8 : UInt8), (8 : UInt8), (8 : UInt8), (8 : UInt8), (8 : UInt8), (8 : UInt8), (8 : UInt8), (8 : UInt8), (8 : UInt8), (8 : UInt8), (8 : UInt8), (8 : UInt8), (8 : UInt8), (8 : UInt8), (8 : UInt8), (8 : UInt8), (8 : UInt8), (8 : UInt8), (8 : UInt8), (8 : UInt8), (8 : UInt8), (8 : UInt8), (8 : UInt8), (8 : UInt8), (8 : UInt8), (8 : UInt8), (8 : UInt8), (8 : UInt8), (8 : UInt8), (8 : UInt8), (8 : UInt8), (8 : UInt8), (8 : UInt8), (8 : UInt8), (8 : UInt8), (8 : UInt8), (8 : UInt8), (8 : UInt8), (8 : UInt8), (8 : UInt8), (8 : UInt8), (8 : UInt8), (8 : UInt8), (8 : UInt8), (8 : UInt8), (8 : UInt8), (8 : UInt8), (8 : UInt8), (8 : UInt8), (8 : UInt8), (8 : UInt8), (8 : UInt8), (8 : UInt8)].append [(8 : UInt8), (8 : UInt8), (8 : UInt8), (8 : UInt8), (8 : UInt8), (8 : UInt8), (8 : UInt8), (8 : UInt8), (8 : UInt8), (8 : UInt8), (8 : UInt8), (8 : UInt8), (8 : UInt8), (8 : UInt8), (8 : UInt8), (8 : UInt8), (8 : UInt8), (8 : UInt8), (8 : UInt8), (8 : UInt8), (8 : UInt8), (8 : UInt8), (8 : UInt8), (8 : UInt8), (8 : UInt8), (8 : UInt8), (8 : UInt8), (8 : UInt8), (8 : UInt8), (8 : UInt8), (8 : UInt8), (8 : UInt8), (8 : UInt8), (8 : UInt8), (8 : UInt8), (8 : UInt8), (8 : UInt8), (8 : UInt8), (8 : UInt8), (8 : UInt8), (8 : UInt8), (8 : UInt8), (8 : UInt8), (8 : UInt8), (8 : UInt8), (8 : UInt8), (8 : UInt8), (8 : UInt8), (8 : UInt8), (8 : UInt8), (8 : UInt8), (8 : UInt8), (8 : UInt8), (8 : UInt8), (8 : UInt8), (8 : UInt8), (8 : UInt8), (8 : UInt8), (8 : UInt8), (8 : UInt8), (8 : UInt8), (8 : UInt8), (8 : UInt8), (8 : UInt8)])).toArray).data.toList.getD (Go.IntKind.u8.wrap (Ev.ishr Go.IntKind.u64 (Ev.ishr Go.IntKind.u64 x0 (32 : Int)) (16 : Int))).toNat (0 : UInt8)).toNat : Int)))
     else none
   else
    bif Decidable.decide (Ev.ishr Go.IntKind.u64 x0 (32 : Int) ≥ (256 : Int)) then
     bif Decidable.decide ((0 : Int) ≤ Go.IntKind.u8.wrap (Ev.ishr Go.IntKind.u64 (Ev.ishr Go.IntKind.u64 x0 (32 : Int)) (8 : Int)) ∧ Go.IntKind.u8.wrap (Ev.ishr Go.IntKind.u64 (Ev.ishr Go.IntKind.u64 x0 (32 : Int)) (8 : Int)) < (↑(ByteArray.mk (([(0 : UInt8), (1 : UInt8), (2 : UInt8), (2 : UInt8), (3 : UInt8), (3 : UInt8), (3 : UInt8), (3 : UInt8), (4 : UInt8), (4 : UInt8), (4 : UInt8), (4 : UInt8), (4 : UInt8), (4 : UInt8), (4 : UInt8), (4 : UInt8), (5 : UInt8), (5 : UInt8), (5 : UInt8), (5 : UInt8), (5 : UInt8), (5 : UInt8), (5 : UInt8), (5 : UInt8), (5 : UInt8), (5 : UInt8), (5 : UInt8), (5 : UInt8), (5 : UInt8), (5 : UInt8), (5 : UInt8), (5 : UInt8), (6 : UInt8), (6 : UInt8), (6 : UInt8), (6 : UInt8), (6 : UInt8), (6 : UInt8), (6 : UInt8), (6 : UInt8), (6 : UInt8), (6 : UInt8), (6 : UInt8), (6 : UInt8), (6 : UInt8), (6 : UInt8), (6 : UInt8), (6 : UInt8), (6 : UInt8), (6 : UInt8), (6 : UInt8), (6 : UInt8), (6 : UInt8), (6 : UInt8), (6 : UInt8), (6 : UInt8), (6 : UInt8), (6 : UInt8), (6 : UInt8), (6 : UInt8), (6 : UInt8), (6 : UInt8), (6 : UInt8), (6 : UInt8)].append [(7 : UInt8), (7 : UInt8), (7 : UInt8), (7 : UInt8), (7 : UInt8), (7 : UInt8), (7 : UInt8), (7 : UInt8), (7 : UInt8), (7 : UInt8), (7 : UInt8), (7 : UInt8), (7 : UInt8), (7 : UInt8), (7 : UInt8), (7 : UInt8), (7 : UInt8), (7 : UInt8), (7 : UInt8), (7 : UInt8), (7 : UInt8), (7 : UInt8), (7 : UInt8), (7 : UInt8), (7 : UInt8), (7 : UInt8), (7 : UInt8), (7 : UInt8), (7 : UInt8), (7 : UInt8), (7 : UInt8), (7 : UInt8), (7 : UInt8), (7 : UInt8), (7 : UInt8), (7 : UInt8), (7 : UInt8), (7 : UInt8), (7 : UInt8), (7 : UInt8), (7 : UInt8), (7 : UInt8), (7 : UInt8), (7 : UInt8), (7 : UInt8), (7 : UInt8), (7 : UInt8), (7 : UInt8), (7 : UInt8), (7 : UInt8), (7 : UInt8), (7 : UInt8), (7 : UInt8), (7 : UInt8), (7 : UInt8), (7 : UInt8), (7 : UInt8), (7 : UInt8), (7 : UInt8), (7 : UInt8), (7 : UInt8), (7 : UInt8), (7 : UInt8), (7 : UInt8)]).append ([(8 : UInt8), (8 : UInt8), (8 : UInt8), (8 : UInt8), (8 : UInt8), (8 : UInt8), (8 : UInt8), (8 : UInt8), (8 : UInt8), (8 : UInt8), (8 : UInt8), (8 : UInt8), (8 : UInt8), (8 : UInt8), (8 : UInt8), (8 : UInt8), (8 : UInt8), (8 : UInt8), (8 : UInt8), (8 : UInt8), (8 : UInt8), (8 : UInt8), (8 : UInt8), (8 : UInt8), (8 : UInt8), (8 : UInt8), (8 : UInt8), (8 : UInt8), (8 : UInt8), (8 : UInt8), (8 : UInt8), (8 : UInt8), (8 : UInt8), (8 : UInt8), (8 : UInt8), (8 : UInt8), (8 : UInt8), (8 : UInt8), (8 : UInt8), (8 : UInt8), (8 : UInt8), (8 : UInt8), (8 : UInt8), (8 : UInt8), (8 : UInt8), (8 : UInt8), (8 : UInt8), (8 : UInt8), (8 : UInt8), (8 : UInt8), (8 : UInt8), (8 : UInt8), (8 : UInt8), (8 : UInt8), (8 : UInt8), (8 : UInt8), (8 : UInt8), (8 : UInt8), (8 : UInt8), (8 : UInt8), (8 : UInt8), (8 : UInt8), (8 : UInt8), (8 : UInt8)].append [(8 : UInt8), (8 : UInt8), (8 : UInt8), (8 : UInt8), (8 : UInt8), (8 : UInt8), (8 : UInt8), (8 : UInt8), (8 : UInt8), (8 : UInt8), (8 : UInt8), (8 : UInt8), (8 : UInt8), (8 : UInt8), (8 : UInt8), (8 : UInt8), (8 : UInt8), (8 : UInt8), (8 : UInt8), (8 : UInt8), (8 : UInt8), (8 : UInt8), (8 : UInt8), (8 : UInt8), (8 : UInt8), (8 : UInt8), (8 : UInt8), (8 : UInt8), (8 : UInt8), (8 : UInt8), (8 : UInt8), (8 : UInt8), (8 : UInt8), (8 : UInt8), (8 : UInt8), (8 : UInt8), (8 : UInt8), (8 : UInt8), (8 : UInt8), (8 : UInt8), (8 : UInt8), (8 : UInt8), (8 : UInt8), (8 : UInt8), (8 : UInt8), (8 : UInt8), (8 : UInt8), (8 : UInt8), (8 : UInt8), (8 : UInt8), (8 : UInt8), (8 : UInt8), (8 : UInt8), (8 : UInt8), (8 : UInt8), (8 : UInt8), (8 : UInt8), (8 : UInt8), (8 : UInt8), (8 : UInt8), (8 : UInt8), (8 : UInt8), (8 : UInt8), (8 : UInt8)])).toArray).size : Int)) then
     k0 (Go.IntKind.i64.wrap (Go.IntKind.i64.wrap ((32 : Int) + (8 : Int)) + Go.IntKind.i64.wrap (↑((ByteArray.mk (([(0 : UInt8), (1 : UInt8), (2 : UInt8), (2 : UInt8), (3 : UInt8), (3 : UInt8), (3 : UInt8), (3 : UInt8), (4 : UInt8), (4 : UInt8), (4 : UInt8), (4 : UInt8), (4 : UInt8), (4 : UInt8), (4 : UInt8), (4 : UInt8), (5 : UInt8), (5 : UInt8), (5 : UInt8), (5 : UInt8), (5 : UInt8), (5 : UInt8), (5 : UInt8), (5 : UInt8), (5 : UInt8), (5 : UInt8), (5 : UInt8), (5 : UInt8), (5 : UInt8), (5 : UInt8), (5 : UInt8), (5 : UInt8), (6 : UInt8), (6 : UInt8), (6 : UInt8), (6 : UInt8), (6 : UInt8), (6 : UInt8), (6 : UInt8), (6 : UInt8), (6 : UInt8), (6 : UInt8), (6 : UInt8), (6 : UInt8), (6 : UInt8), (6 : UInt8), (6 : UInt8), (6 : UInt8), (6 : UInt8), (6 : UInt8), (6 : UInt8), (6 : UInt8), (6 : UInt8), (6 : UInt8), (6 : UInt8), (6 : UInt8), (6 : UInt8), (6 : UInt8), (6 : UInt8), (6 : UInt8), (6 : UInt8), (6 : UInt8), (6 : UInt8), (6 : UInt8)].append [(7 : UInt8), (7 : UInt8), (7 : UInt8), (7 : UInt8), (7 : UInt8), (7 : UInt8), (7 : UInt8), (7 : UInt8), (7 : UInt8), (7 : UInt8), (7 : UInt8), (7 : UInt8), (7 : UInt8), (7 : UInt8), (7 : UInt8), (7 : UInt8), (7 : UInt8), (7 : UInt8), (7 : UInt8), (7 : UInt8), (7 : UInt8), (7 : UInt8), (7 : UInt8), (7 : UInt8), (7 : UInt8), (7 : UInt8), (7 : UInt8), (7 : UInt8), (7 : UInt8), (7 : UInt8), (7 : UInt8), (7 : UInt8), (7 : UInt8), (7 : UInt8), (7 : UInt8), (7 : UInt8), (7 : UInt8), (7 : UInt8), (7 : UInt8), (7 : UInt8), (7 : UInt8), (7 : UInt8), (7 : UInt8), (7 : UInt8), (7 : UInt8), (7 : UInt8), (7 : UInt8), (7 : UInt8), (7 : UInt8), (7 : UInt8), (7 : UInt8), (7 : UInt8), (7 : UInt8), (7 : UInt8), (7 : UInt8), (7 : UInt8), (7 : UInt8), (7 : UInt8), (7 : UInt8), (7 : UInt8), (7 : UInt8), (7 : UInt8), (7 : UInt8), (7 : UInt8)]).append ([(8 : UInt8), (8 : UInt8), (8 : UInt8), (8 : UInt8), (8 : UInt8), (8 : UInt8), (8 : UInt8), (8 : UInt8), (8 : UInt8), (8 : UInt8), (8 : UInt8), (8 : UInt8), (8 : UInt8), (8 : UInt8), (8 : UInt8), (8 : UInt8), (8 : UInt8), (8 : UInt8), (8 : UInt8), (8 : UInt8), (8 : UInt8), (8 : UInt8), (8 : UInt8), (8 : UInt8), (8 : UInt8), (8 : UInt8), (8 : UInt8), (8 : UInt8), (8 : UInt8), (8 : UInt8), (8 : UInt8), (8 : UInt8), (8 : UInt8), (8 : UInt8), (8 : UInt8), (8 : UInt8), (8 : UInt8), (8 : UInt8), (8 : UInt8), (8 : UInt8), (8 : UInt8), (8 : UInt8), (8 : UInt8), (8 : UInt8), (8 : UInt8), (8 : UInt8), (8 : UInt8), (8 : UInt8), (8 : UInt8), (8 : UInt8), (8 : UInt8), (8 : UInt8), (8 : UInt8), (8 : UInt8), (8 : UInt8), (8 : UInt8), (8 : UInt8), (8 : UInt8), (8 : UInt8), (8 : UInt8), (8 : UInt8), (8 : UInt8), (8 : UInt8), (8 : UInt8)].append [(8 : UInt8), (8 : UInt8), (8 : UInt8), (8 : UInt8), (8 : UInt8), (8 : UInt8), (8 : UInt8), (8 : UInt8), (8 : UInt8), (8 : UInt8), (8 : UInt8), (8 : UInt8), (8 : UInt8), (8 : UInt8), (8 : UInt8), (8 : UInt8), (8 : UInt8), (8 : UInt8), (8 : UInt8), (8 : UInt8), (8 : UInt8), (8 : UInt8), (8 : UInt8), (8 : UInt8), (8 : UInt8), (8 : UInt8), (8 : UInt8), (8 : UInt8), (8 : UInt8), (8 : UInt8), (8 : UInt8), (8 : UInt8), (8 : UInt8), (8 : UInt8), (8 : UInt8), (8 : UInt8), (8 : UInt8), (8 : UInt8), (8 : UInt8), (8 : UInt8), (8 : UInt8), (8 : UInt8), (8 : UInt8), (8 : UInt8), (8 : UInt8), (8 : UInt8), (8 : UInt8), (8 : UInt8), (8 : UInt8), (8 : UInt8), (8 : UInt8), (8 : UInt8), (8 : UInt8), (8 : UInt8), (8 : UInt8), (8 : UInt8), (8 : UInt8), (8 : UInt8), (8 : UInt8), (8 : UInt8), (8 : UInt8), (8 : UInt8), (8 : UInt8), (8 : UInt8)])).toArray).data.toList.getD (Go.IntKind.u8.wrap (Ev.ishr Go.IntKind.u64 (Ev.ishr Go.IntKind.u64 x0 (32 : Int)) (8 : Int))).toNat (0 : UInt8)).toNat : Int)))
     else none
    else
     bif Decidable.decide ((0 : Int) ≤ Go.IntKind.u8.wrap (Ev.ishr Go.IntKind.u64 x0 (32 : Int)) ∧ Go.IntKind.u8.wrap (Ev.ishr Go.IntKind.u64 x0 (32 : Int)) < (↑(ByteArray.mk (([(0 : UInt8), (1 : UInt8), (2 : UInt8), (2 : UInt8), (3 : UInt8), (3 : UInt8), (3 : UInt8), (3 : UInt8), (4 : UInt8), (4 : UInt8), (4 : UInt8), (4 : UInt8), (4 : UInt8), (4 : UInt8), (4 : UInt8), (4 : UInt8), (5 : UInt8), (5 : UInt8), (5 : UInt8), (5 : UInt8), (5 : UInt8), (5 : UInt8), (5 : UInt8), (5 : UInt8), (5 : UInt8), (5 : UInt8), (5 : UInt8), (5 : UInt8), (5 : UInt8), (5 : UInt8), (5 : UInt8), (5 : UInt8), (6 : UInt8), (6 : UInt8), (6 : UInt8), (6 : UInt8), (6 : UInt8), (6 : UInt8), (6 : UInt8), (6 : UInt8), (6 : UInt8), (6 : UInt8), (6 : UInt8), (6 : UInt8), (6 : UInt8), (6 : UInt8), (6 : UInt8), (6 : UInt8), (6 : UInt8), (6 : UInt8), (6 : UInt8), (6 : UInt8), (6 : UInt8), (6 : UInt8), (6 : UInt8), (6 : UInt8), (6 : UInt8), (6 : UInt8), (6 : UInt8), (6 : UInt8), (6 : UInt8), (6 : UInt8), (6 : UInt8), (6 : UInt8)].append [(7 : UInt8), (7 : UInt8), (7 : UInt8), (7 : UInt8), (7 : UInt8), (7 : UInt8), (7 : UInt8), (7 : UInt8), (7 : UInt8), (7 : UInt8), (7 : UInt8), (7 : UInt8), (7 : UInt8), (7 : UInt8), (7 : UInt8), (7 : UInt8), (7 : UInt8), (7 : UInt8), (7 : UInt8), (7 : UInt8), (7 : UInt8), (7 : UInt8), (7 : UInt8), (7 : UInt8), (7 : UInt8), (7 : UInt8), (7 : UInt8), (7 : UInt8), (7 : UInt8), (7 : UInt8), (7 : UInt8), (7 : UInt8), (7 : UInt8), (7 : UInt8), (7 : UInt8), (7 : UInt8), (7 : UInt8), (7 : UInt8), (7 : UInt8), (7 : UInt8), (7 : UInt8), (7 : UInt8), (7 : UInt8), (7 : UInt8), (7 : UInt8), (7 : UInt8), (7 : UInt8), (7 : UInt8), (7 : UInt8), (7 : UInt8), (7 : UInt8), (7 : UInt8), (7 : UInt8), (7 : UInt8), (7 : UInt8), (7 : UInt8), (7 : UInt8), (7 : UInt8), (7 : UInt8), (7 : UInt8), (7 : UInt8), (7 : UInt8), (7 : UInt8), (7 : UInt8)]).append ([(8 : UInt8), (8 : UInt8), (8 : UInt8), (8 : UInt8), (8 : UInt8), (8 : UInt8), (8 : UInt8), (8 : UInt8), (8 : UInt8), (8 : UInt8), (8 : UInt8), (8 : UInt8), (8 : UInt8), (8 : UInt8), (8 : UInt8), (8 : UInt8), (8 : UInt8), (8 : UInt8), (8 : UInt8), (8 : UInt8), (8 : UInt8), (8 : UInt8), (8 : UInt8), (8 : UInt8), (8 : UInt8), (8 : UInt8), (8 : UInt8), (8 : UInt8), (8 : UInt8), (8 : UInt8), (8 : UInt8), (8 : UInt8), (8 : UInt8), (8 : UInt8), (8 : UInt8), (8 : UInt8), (8 : UInt8), (8 : UInt8), (8 : UInt8), (8 : UInt8), (8 : UInt8), (8 : UInt8), (8 : UInt8), (8 : UInt8), (8 : UInt8), (8 : UInt8), (8 : UInt8), (8 : UInt8), (8 : UInt8), (8 : UInt8), (8 : UInt8), (8 : UInt8), (8 : UInt8), (8 : UInt8), (8 : UInt8), (8 : UInt8), (8 : UInt8), (8 : UInt8), (8 : UInt8), (8 : UInt8), (8 : UInt8), (8 : UInt8), (8 : UInt8), (8 : UInt8)].append [(8 : UInt8), (8 : UInt8), (8 : UInt8), (8 : UInt8), (8 : UInt8), (8 : UInt8), (8 : UInt8), (8 : UInt8), (8 : UInt8), (8 : UInt8), (8 : UInt8), (8 : UInt8), (8 : UInt8), (8 : UInt8), (8 : UInt8), (8 : UInt8), (8 : UInt8), (8 : UInt8), (8 : UInt8), (8 : UInt8), (8 : UInt8), (8 : UInt8), (8 : UInt8), (8 : UInt8), (8 : UInt8), (8 : UInt8), (8 : UInt8), (8 : UInt8), (8 : UInt8), (8 : UInt8), (8 : UInt8), (8 : UInt8), (8 : UInt8), (8 : UInt8), (8 : UInt8), (8 : UInt8), (8 : UInt8), (8 : UInt8), (8 : UInt8), (8 : UInt8), (8 : UInt8), (8 : UInt8), (8 : UInt8), (8 : UInt8), (8 : UInt8), (8 : UInt8), (8 : UInt8), (8 : UInt8), (8 : UInt8), (8 : UInt8), (8 : UInt8), (8 : UInt8), (8 : UInt8), (8 : UInt8), (8 : UInt8), (8 : UInt8), (8 : UInt8), (8 : UInt8), (8 : UInt8), (8 : UInt8), (8 : UInt8), (8 : UInt8), (8 : UInt8), (8 : UInt8)])).toArray).size : Int)) then
     k0 (Go.IntKind.i64.wrap ((32 : Int) + Go.IntKind.i64.wrap (↑((ByteArray.mk (([(0 : UInt8), (1 : UInt8), (2 : UInt8), (2 : UInt8), (3 : UInt8), (3 : UInt8), (3 : UInt8), (3 : UInt8), (4 : UInt8), (4 : UInt8), (4 : UInt8), (4 : UInt8), (4 : UInt8), (4 : UInt8), (4 : UInt8), (4 : UInt8), (5 : UInt8), (5 : UInt8), (5 : UInt8), (5 : UInt8), (5 : UInt8), (5 : UInt8), (5 : UInt8), (5 : UInt8), (5 : UInt8), (5 : UInt8), (5 : UInt8), (5 : UInt8), (5 : UInt8), (5 : UInt8), (5 : UInt8), (5 : UInt8), (6 : UInt8), (6 : UInt8), (6 : UInt8), (6 : UInt8), (6 : UInt8), (6 : UInt8), (6 : UInt8), (6 : UInt8), (6 : UInt8), (6 : UInt8), (6 : UInt8), (6 : UInt8), (6 : UInt8), (6 : UInt8), (6 : UInt8), (6 : UInt8), (6 : UInt8), (6 : UInt8), (6 : UInt8), (6 : UInt8), (6 : UInt8), (6 : UInt8), (6 : UInt8), (6 : UInt8), (6 : UInt8), (6 : UInt8), (6 : UInt8), (6 : UInt8), (6 : UInt8), (6 : UInt8), (6 : UInt8), (6 : UInt8)].append [(7 : UInt8), (7 : UInt8), (7 : UInt8), (7 : UInt8), (7 : UInt8), (7 : UInt8), (7 : UInt8), (7 : UInt8), (7 : UInt8), (7 : UInt8), (7 : UInt8), (7 : UInt8), (7 : UInt8), (7 : UInt8), (7 : UInt8), (7 : UInt8), (7 : UInt8), (7 : UInt8), (7 : UInt8), (7 : UInt8), (7 : UInt8), (7 : UInt8), (7 : UInt8), (7 : UInt8), (7 : UInt8), (7 : UInt8), (7 : UInt8), (7 : UInt8), (7 : UInt8), (7 : UInt8), (7 : UInt8), (7 : UInt8), (7 : UInt8), (7 : UInt8), (7 : UInt8), (7 : UInt8), (7 : UInt8), (7 : UInt8), (7 : UInt8), (7 : UInt8), (7 : UInt8), (7 : UInt8), (7 : UInt8), (7 : UInt8), (7 : UInt8), (7 : UInt8), (7 : UInt8), (7 : UInt8), (7 : UInt8), (7 : UInt8), (7 : UInt8), (7 : UInt8), (7 : UInt8), (7 : UInt8), (7 : UInt8), (7 : UInt8), (7 : UInt8), (7 : UInt8), (7 : UInt8), (7 : UInt8), (7 : UInt8), (7 : UInt8), (7 : UInt8), (7 : UInt8)]).append ([(8 : UInt8), (8 : UInt8), (8 : UInt8), (8 : UInt8), (8 : UInt8), (8 : UInt8), (8 : UInt8), (8 : UInt8), (8 : UInt8), (8 : UInt8), (8 : UInt8), (8 : UInt8), (8 : UInt8), (8 : UInt8), (8 : UInt8), (8 : UInt8), (8 : UInt8), (8 : UInt8), (8 : UInt8), (8 : UInt8), (8 : UInt8), (8 : UInt8), (8 : UInt8), (8 : UInt8), (8 : UInt8), (8 : UInt8), (8 : UInt8), (8 : UInt8), (8 : UInt8), (8 : UInt8), (8 : UInt8), (8 : UInt8), (8 : UInt8), (8 : UInt8), (8 : UInt8), (8 : UInt8), (8 : UInt8), (8 : UInt8), (8 : UInt8), (8 : UInt8), (8 : UInt8), (8 : UInt8), (8 : UInt8), (8 : UInt8), (8 : UInt8), (8 : UInt8), (8 : UInt8), (8 : UInt8), (8 : UInt8), (8 : UInt8), (8 : UInt8), (8 : UInt8), (8 : UInt8), (8 : UInt8), (8 : UInt8), (8 : UInt8), (8 : UInt8), (8 : UInt8), (8 : UInt8), (8 : UInt8), (8 : UInt8), (8 : UInt8), (8 : UInt8), (8 : UInt8)].append [(8 : UInt8), (8 : UInt8), (8 : UInt8), (8 : UInt8), (8 : UInt8), (8 : UInt8), (8 : UInt8), (8 : UInt8), (8 : UInt8), (8 : UInt8), (8 : UInt8), (8 : UInt8), (8 : UInt8), (8 : UInt8), (8 : UInt8), (8 : UInt8), (8 : UInt8), (8 : UInt8), (8 : UInt8), (8 : UInt8), (8 : UInt8), (8 : UInt8), (8 : UInt8), (8 : UInt8), (8 : UInt8), (8 : UInt8), (8 : UInt8), (8 : UInt8), (8 : UInt8), (8 : UInt8), (8 : UInt8), (8 : UInt8), (8 : UInt8), (8 : UInt8), (8 : UInt8), (8 : UInt8), (8 : UInt8), (8 : UInt8), (8 : UInt8), (8 : UInt8), (8 : UInt8), (8 : UInt8), (8 : UInt8), (8 : UInt8), (8 : UInt8), (8 : UInt8), (8 : UInt8), (8 : UInt8), (8 : UInt8), (8 : UInt8), (8 : UInt8), (8 : UInt8), (8 : UInt8), (8 : UInt8), (8 : UInt8), (8 : UInt8), (8 : UInt8), (8 : UInt8), (8 : UInt8), (8 : UInt8), (8 : UInt8), (8 : UInt8), (8 : UInt8), (8 : UInt8)])).toArray).data.toList.getD (Go.IntKind.u8.wrap (Ev.ishr Go.IntKind.u64 x0 (32 : Int))).toNat (0 : UInt8)).toNat : Int)))
     else none
  else
   bif Decidable.decide (x0 ≥ (65536 : Int)) then
    bif Decidable.decide (Ev.ishr Go.IntKind.u64 x0 (16 : Int) ≥ (256 : Int)) then
     bif Decidable.decide ((0 : Int) ≤ Go.IntKind.u8.wrap (Ev.ishr Go.IntKind.u64 (Ev.ishr Go.IntKind.u64 x0 (16 : Int)) (8 : Int)) ∧ Go.IntKind.u8.wrap (Ev.ishr Go.IntKind.u64 (Ev.ishr Go.IntKind.u64 x0 (16 : Int)) (8 : Int)) < (↑(ByteArray.mk (([(0 : UInt8), (1 : UInt8), (2 : UInt8), (2 : UInt8), (3 : UInt8), (3 : UInt8), (3 : UInt8), (3 : UInt8), (4 : UInt8), (4 : UInt8), (4 : UInt8), (4 : UInt8), (4 : UInt8), (4 : UInt8), (4 : UInt8), (4 : UInt8), (5 : UInt8), (5 : UInt8), (5 : UInt8), (5 : UInt8), (5 : UInt8), (5 : UInt8), (5 : UInt8), (5 : UInt8), (5 : UInt8), (5 : UInt8), (5 : UInt8), (5 : UInt8), (5 : UInt8), (5 : UInt8), (5 : UInt8), (5 : UInt8), (6 : UInt8), (6 : UInt8), (6 : UInt8), (6 : UInt8), (6 : UInt8), (6 : UInt8), (6 : UInt8), (6 : UInt8), (6 : UInt8), (6 : UInt8), (6 : UInt8), (6 : UInt8), (6 : UInt8), (6 : UInt8), (6 : UInt8), (6 : UInt8), (6 : UInt8), (6 : UInt8), (6 : UInt8), (6 : UInt8), (6 : UInt8), (6 : UInt8), (6 : UInt8), (6 : UInt8), (6 : UInt8), (6 : UInt8), (6 : UInt8), (6 : UInt8), (6 : UInt8), (6 : UInt8), (6 : UInt8), (6 : UInt8)].append [(7 : UInt8), (7 : UInt8), (7 : UInt8), (7 : UInt8), (7 : UInt8), (7 : UInt8), (7 : UInt8), (7 : UInt8), (7 : UInt8), (7 : UInt8), (7 : UInt8), (7 : UInt8), (7 : UInt8), (7 : UInt8), (7 : UInt8), (7 : UInt8), (7 : UInt8), (7 : UInt8), (7 : UInt8), (7 : UInt8), (7 : UInt8), (7 : UInt8), (7 : UInt8), (7 : UInt8), (7 : UInt8), (7 : UInt8), (7 : UInt8), (7 : UInt8), (7 : UInt8), (7 : UInt8), (7 : UInt8), (7 : UInt8), (7 : UInt8), (7 : UInt8), (7 : UInt8), (7 : UInt8), (7 : UInt8), (7 : UInt8), (7 : UInt8), (7 : UInt8), (7 : UInt8), (7 : UInt8), (7 : UInt8), (7 : UInt8), (7 : UInt8), (7 : UInt8), (7 : UInt8), (7 : UInt8), (7 : UInt8), (7 : UInt8), (7 : UInt8), (7 : UInt8), (7 : UInt8), (7 : UInt8), (7 : UInt8), (7 : UInt8), (7 : UInt8), (7 : UInt8), (7 : UInt8), (7 : UInt8), (7 : UInt8), (7 : UInt8), (7 : UInt8), (7 : UInt8)]).append ([(8 : UInt8), (8 : UInt8), (8 : UInt8), (8 : UInt8), (8 : UInt8), (8 : UInt8), (8 : UInt8), (8 : UInt8), (8 : UInt8), (8 : UInt8), (8 : UInt8), (8 : UInt8), (8 : UInt8), (8 : UInt8), (8 : UInt8), (8 : UInt8), (8 : UInt8), (8 : UInt8), (8 : UInt8), (8 : UInt8), (8 : UInt8), (8 : UInt8), (8 : UInt8), (8 : UInt8), (8 : UInt8), (8 : UInt8), (8 : UInt8), (8 : UInt8), (8 : UInt8), (8 : UInt8), (8 : UInt8), (8 : UInt8), (8 : UInt8), (8 : UInt8), (8 : UInt8), (8 : UInt8), (8 : UInt8), (8 : UInt8), (8 : UInt8), (8 : UInt8), (8 : UInt8), (8 : UInt8), (8 : UInt8), (8 : UInt8), (8 : UInt8), (8 : UInt8), (8 : UInt8), (8 : UInt8), (8 : UInt8), (8 : UInt8), (8 : UInt8), (8 : UInt8), (8 : UInt8), (8 : UInt8), (8 : UInt8), (8 : UInt8), (8 : UInt8), (8 : UInt8), (8 : UInt8), (8 : UInt8), (8 : UInt8), (8 : UInt8), (8 : UInt8), (8 : UInt8)].append [(8 : UInt8), (8 : UInt8), (8 : UInt8), (8 : UInt8), (8 : UInt8), (8 : UInt8), (8 : UInt8), (8 : UInt8), (8 : UInt8), (8 : UInt8), (8 : UInt8), (8 : UInt8), (8 : UInt8), (8 : UInt8), (8 : UInt8), (8 : UInt8), (8 : UInt8), (8 : UInt8), (8 : UInt8), (8 : UInt8), (8 : UInt8), (8 : UInt8), (8 : UInt8), (8 : UInt8), (8 : UInt8), (8 : UInt8), (8 : UInt8), (8 : UInt8), (8 : UInt8), (8 : UInt8), (8 : UInt8), (8 : UInt8), (8 : UInt8), (8 : UInt8), (8 : UInt8), (8 : UInt8), (8 : UInt8), (8 : UInt8), (8 : UInt8), (8 : UInt8), (8 : UInt8), (8 : UInt8), (8 : UInt8), (8 : UInt8), (8 : UInt8), (8 : UInt8), (8 : UInt8), (8 : UInt8), (8 : UInt8), (8 : UInt8), (8 : UInt8), (8 : UInt8), (8 : UInt8), (8 : UInt8), (8 : UInt8), (8 : UInt8), (8 : UInt8), (8 : UInt8), (8 : UInt8), (8 : UInt8), (8 : UInt8), (8 : UInt8), (8 : UInt8), (8 : UInt8)])).toArray).size : Int)) then
     k0 (Go.IntKind.i64.wrap (Go.IntKind.i64.wrap (Go.IntKind.i64.wrap ((0 : Int) + (16 : Int)) + (8 : Int)) + Go.IntKind.i64.wrap (↑((ByteArray.mk (([(0 : UInt8), (1 : UInt8), (2 : UInt8), (2 : UInt8), (3 : UInt8), (3 : UInt8), (3 : UInt8), (3 : UInt8), (4 : UInt8), (4 : UInt8), (4 : UInt8), (4 : UInt8), (4 : UInt8), (4 : UInt8), (4 : UInt8), (4 : UInt8), (5 : UInt8), (5 : UInt8), (5 : UInt8), (5 : UInt8), (5 : UInt8), (5 : UInt8), (5 : UInt8), (5 : UInt8), (5 : UInt8), (5 : UInt8), (5 : UInt8), (5 : UInt8), (5 : UInt8), (5 : UInt8), (5 : UInt8), (5 : UInt8), (6 : UInt8), (6 : UInt8), (6 : UInt8), (6 : UInt8), (6 : UInt8), (6 : UInt8), (6 : UInt8), (6 : UInt8), (6 : UInt8), (6 : UInt8), (6 : UInt8), (6 : UInt8), (6 : UInt8), (6 : UInt8), (6 : UInt8), (6 : UInt8), (6 : UInt8), (6 : UInt8), (6 : UInt8), (6 : UInt8), (6 : UInt8), (6 : UInt8), (6 : UInt8), (6 : UInt8), (6 : UInt8), (6 : UInt8), (6 : UInt8), (6 : UInt8), (6 : UInt8), (6 : UInt8), (6 : UInt8), (6 : UInt8)].append [(7 : UInt8), (7 : UInt8), (7 : UInt8), (7 : UInt8), (7 : UInt8), (7 : UInt8), (7 : UInt8), (7 : UInt8), (7 : UInt8), (7 : UInt8), (7 : UInt8), (7 : UInt8), (7 : UInt8), (7 : UInt8), (7 : UInt8), (7 : UInt8), (7 : UInt8), (7 : UInt8), (7 : UInt8), (7 : UInt8), (7 : UInt8), (7 : UInt8), (7 : UInt8), (7 : UInt8), (7 : UInt8), (7 : UInt8), (7 : UInt8), (7 : UInt8), (7 : UInt8), (7 : UInt8), (7 : UInt8), (7 : UInt8), (7 : UInt8), (7 : UInt8), (7 : UInt8), (7 : UInt8), (7 : UInt8), (7 : UInt8), (7 : UInt8), (7 : UInt8), (7 : UInt8), (7 : UInt8), (7 : UInt8), (7 : UInt8), (7 : UInt8), (7 : UInt8), (7 : UInt8), (7 : UInt8), (7 : UInt8), (7 : UInt8), (7 : UInt8), (7 : UInt8), (7 : UInt8), (7 : UInt8), (7 : UInt8), (7 : UInt8), (7 : UInt8), (7 : UInt8), (7 : UInt8), (7 : UInt8), (7 : UInt8), (7 : UInt8), (7 : UInt8), (7 : UInt8)]).append ([(8 : UInt8), (8 : UInt8), (8 : UInt8), (8 : UInt8), (8 : UInt8), (8 : UInt8), (8 : UInt8), (8 : UInt8), (8 : UInt8), (8 : UInt8), (8 : UInt8), (8 : UInt8), (8 : UInt8), (8 : UInt8), (8 : UInt8), (8 : UInt8), (8 : UInt8), (8 : UInt8), (8 : UInt8), (8 : UInt8), (8 : UInt8), (8 : UInt8), (8 : UInt8), (8 : UInt8), (8 : UInt8), (8 : UInt8), (8 : UInt8), (8 : UInt8), (8 : UInt8), (8 : UInt8), (8 : UInt8), (8 : UInt8), (8 : UInt8), (8 : UInt8), (8 : UInt8), (8 : UInt8), (8 : UInt8), (8 : UInt8), (8 : UInt8), (8 : UInt8), (8 : UInt8), (8 : UInt8), (8 : UInt8), (8 : UInt8), (8 : UInt8), (8 : UInt8), (8 : UInt8), (8 : UInt8), (8 : UInt8), (8 : UInt8), (8 : UInt8), (8 : UInt8), (8 : UInt8), (8 : UInt8), (8 : UInt8), (8 : UInt8), (8 : UInt8), (8 : UInt8), (8 : UInt8), (8 : UInt8), (8 : UInt8), (8 : UInt8), (8 : UInt8), (8 : UInt8)].append [(8 : UInt8), (8 : UInt8), (8 : UInt8), (8 : UInt8), (8 : UInt8), (8 : UInt8), (8 : UInt8), (8 : UInt8), (8 : UInt8), (8 : UInt8), (8 : UInt8), (8 : UInt8), (8 : UInt8), (8 : UInt8), (8 : UInt8), (8 : UInt8), (8 : UInt8), (8 : UInt8), (8 : UInt8), (8 : UInt8), (8 : UInt8), (8 : UInt8), (8 : UInt8), (8 : UInt8), (8 : UInt8), (8 : UInt8), (8 : UInt8), (8 : UInt8), (8 : UInt8), (8 : UInt8), (8 : UInt8), (8 : UInt8), (8 : UInt8), (8 : UInt8), (8 : UInt8), (8 : UInt8), (8 : UInt8), (8 : UInt8), (8 : UInt8), (8 : UInt8), (8 : UInt8), (8 : UInt8), (8 : UInt8), (8 : UInt8), (8 : UInt8), (8 : UInt8), (8 : UInt8), (8 : UInt8), (8 : UInt8), (8 : UInt8), (8 : UInt8), (8 : UInt8), (8 : UInt8), (8 : UInt8), (8 : UInt8), (8 : UInt8), (8 : UInt8), (8 : UInt8), (8 : UInt8), (8 : UInt8), (8 : UInt8), (8 : UInt8), (8 : UInt8), (8 : UInt8)])).toArray).data.toList.getD (Go.IntKind.u8.wrap (Ev.ishr Go.IntKind.u64 (Ev.ishr Go.IntKind.u64 x0 (16 : Int)) (8 : Int))).toNat (0 : UInt8)).toNat : Int)))
     else none
    else
     bif Decidable.decide ((0 : Int) ≤ Go.IntKind.u8.wrap (Ev.ishr Go.IntKind.u64 x0 (16 : Int)) ∧ Go.IntKind.u8.wrap (Ev.ishr Go.IntKind.u64 x0 (16 : Int)) < (↑(ByteArray.mk (([(0 : UInt8), (1 : UInt8), (2 : UInt8), (2 : UInt8), (3 : UInt8), (3 : UInt8), (3 : UInt8), (3 : UInt8), (4 : UInt8), (4 : UInt8), (4 : UInt8), (4 : UInt8), (4 : UInt8), (4 : UInt8), (4 : UInt8), (4 : UInt8), (5 : UInt8), (5 : UInt8), (5 : UInt8), (5 : UInt8), (5 : UInt8), (5 : UInt8), (5 : UInt8), (5 : UInt8), (5 : UInt8), (5 : UInt8), (5 : UInt8), (5 : UInt8), (5 : UInt8), (5 : UInt8), (5 : UInt8), (5 : UInt8), (6 : UInt8), (6 : UInt8), (6 : UInt8), (6 : UInt8), (6 : UInt8), (6 : UInt8), (6 : UInt8), (6 : UInt8), (6 : UInt8), (6 : UInt8), (6 : UInt8), (6 : UInt8), (6 : UInt8), (6 : UInt8), (6 : UInt8), (6 : UInt8), (6 : UInt8), (6 : UInt8), (6 : UInt8), (6 : UInt8), (6 : UInt8), (6 : UInt8), (6 : UInt8), (6 : UInt8), (6 : UInt8), (6 : UInt8), (6 : UInt8), (6 : UInt8), (6 : UInt8), (6 : UInt8), (6 : UInt8), (6 : UInt8)].append [(7 : UInt8), (7 : UInt8), (7 : UInt8), (7 : UInt8), (7 : UInt8), (7 : UInt8), (7 : UInt8), (7 : UInt8), (7 : UInt8), (7 : UInt8), (7 : UInt8), (7 : UInt8), (7 : UInt8), (7 : UInt8), (7 : UInt8), (7 : UInt8), (7 : UInt8), (7 : UInt8), (7 : UInt8), (7 : UInt8), (7 : UInt8), (7 : UInt8), (7 : UInt8), (7 : UInt8), (7 : UInt8), (7 : UInt8), (7 : UInt8), (7 : UInt8), (7 : UInt8), (7 : UInt8), (7 : UInt8), (7 : UInt8), (7 : UInt8), (7 : UInt8), (7 : UInt8), (7 : UInt8), (7 : UInt8), (7 : UInt8), (7 : UInt8), (7 : UInt8), (7 : UInt8), (7 : UInt8), (7 : UInt8), (7 : UInt8), (7 : UInt8), (7 : UInt8), (7 : UInt8), (7 : UInt8), (7 : UInt8), (7 : UInt8), (7 : UInt8), (7 : UInt8), (7 : UInt8), (7 : UInt8), (7 : UInt8), (7 : UInt8), (7 : UInt8), (7 : UInt8), (7 : UInt8), (7 : UInt8), (7 : UInt8), (7 : UInt8), (7 : UInt8), (7 : UInt8)]).append ([(8 : UInt8), (8 : UInt8), (8 : UInt8), (8 : UInt8), (8 : UInt8), (8 : UInt8), (8 : UInt8), (8 : UInt8), (8 : UInt8), (8 : UInt8), (8 : UInt8), (8 : UInt8), (8 : UInt8), (8 : UInt8), (8 : UInt8), (8 : UInt8), (8 : UInt8), (8 : UInt8), (8 : UInt8), (8 : UInt8), (8 : UInt8), (8 : UInt8), (8 : UInt8), (8 : UInt8), (8 : UInt8), (8 : UInt8), (8 : UInt8), (8 : UInt8), (8 : UInt8), (8 : UInt8), (8 : UInt8), (8 : UInt8), (8 : UInt8), (8 : UInt8), (8 : UInt8), (8 : UInt8), (8 : UInt8), (8 : UInt8), (8 : UInt8), (8 : UInt8), (8 : UInt8), (8 : UInt8), (8 : UInt8), (8 : UInt8), (8 : UInt8), (8 : UInt8), (8 : UInt8), (8 : UInt8), (8 : UInt8), (8 : UInt8), (8 : UInt8), (8 : UInt8), (8 : UInt8), (8 : UInt8), (8 : UInt8), (8 : UInt8), (8 : UInt8), (8 : UInt8), (8 : UInt8), (8 : UInt8), (8 : UInt8), (8 : UInt8), (8 : UInt8), (8 : UInt8)].append [(8 : UInt8), (8 : UInt8), (8 : UInt8), (8 : UInt8), (8 : UInt8), (8 : UInt8), (8 : UInt8), (8 : UInt8), (8 : UInt8), (8 : UInt8), (8 : UInt8), (8 : UInt8), (8 : UInt8), (8 : UInt8), (8 : UInt8), (8 : UInt8), (8 : UInt8), (8 : UInt8), (8 : UInt8), (8 : UInt8), (8 : UInt8), (8 : UInt8), (8 : UInt8), (8 : UInt8), (8 : UInt8), (8 : UInt8), (8 : UInt8), (8 : UInt8), (8 : UInt8), (8 : UInt8), (8 : UInt8), (8 : UInt8), (8 : UInt8), (8 : UInt8), (8 : UInt8), (8 : UInt8), (8 : UInt8), (8 : UInt8), (8 : UInt8), (8 : UInt8), (8 : UInt8), (8 : UInt8), (8 : UInt8), (8 : UInt8), (8 : UInt8), (8 : UInt8), (8 : UInt8), (8 : UInt8), (8 : UInt8), (8 : UInt8), (8 : UInt8), (8 : UInt8), (8 : UInt8), (8 : UInt8), (8 : UInt8), (8 : UInt8), (8 : UInt8), (8 : UInt8), (8 : UInt8), (8 : UInt8), (8 : UInt8), (8 : UInt8), (8 : UInt8), (8 : UInt8)])).toArray).size : Int)) then
     k0 (Go.IntKind.i64.wrap (Go.IntKind.i64.wrap ((0 : Int) + (16 : Int)) + Go.IntKind.i64.wrap (↑((ByteArray.mk (([(0 : UInt8), (1 : UInt8), (2 : UInt8), (2 : UInt8), (3 : UInt8), (3 : UInt8), (3 : UInt8), (3 : UInt8), (4 : UInt8), (4 : UInt8), (4 : UInt8), (4 : UInt8), (4 : UInt8), (4 : UInt8), (4 : UInt8), (4 : UInt8), (5 : UInt8), (5 : UInt8), (5 : UInt8), (5 : UInt8), (5 : UInt8), (5 : UInt8), (5 : UInt8), (5 : UInt8), (5 : UInt8), (5 : UInt8), (5 : UInt8), (5 : UInt8), (5 : UInt8), (5 : UInt8), (5 : UInt8), (5 : UInt8), (6 : UInt8), (6 : UInt8), (6 : UInt8), (6 : UInt8), (6 : UInt8), (6 : UInt8), (6 : UInt8), (6 : UInt8), (6 : UInt8), (6 : UInt8), (6 : UInt8), (6 : UInt8), (6 : UInt8), (6 : UInt8), (6 : UInt8), (6 : UInt8), (6 : UInt8), (6 : UInt8), (6 : UInt8), (6 : UInt8), (6 : UInt8), (6 : UInt8), (6 : UInt8), (6 : UInt8), (6 : UInt8), (6 : UInt8), (6 : UInt8), (6 : UInt8), (6 : UInt8), (6 : UInt8), (6 : UInt8), (6 : UInt8)].append [(7 : UInt8), (7 : UInt8), (7 : UInt8), (7 : UInt8), (7 : UInt8), (7 : UInt8), (7 : UInt8), (7 : UInt8), (7 : UInt8), (7 : UInt8), (7 : UInt8), (7 : UInt8), (7 : UInt8), (7 : UInt8), (7 : UInt8), (7 : UInt8), (7 : UInt8), (7 : UInt8), (7 : UInt8), (7 : UInt8), (7 : UInt8), (7 : UInt8), (7 : UInt8), (7 : UInt8), (7 : UInt8), (7 : UInt8), (7 : UInt8), (7 : UInt8), (7 : UInt8), (7 : UInt8), (7 : UInt8), (7 : UInt8), (7 : UInt8), (7 : UInt8), (7 : UInt8), (7 : UInt8), (7 : UInt8), (7 : UInt8), (7 : UInt8), (7 : UInt8), (7 : UInt8), (7 : UInt8), (7 : UInt8), (7 : UInt8), (7 : UInt8), (7 : UInt8), (7 : UInt8), (7 : UInt8), (7 : UInt8), (7 : UInt8), (7 : UInt8), (7 : UInt8), (7 : UInt8), (7 : UInt8), (7 : UInt8), (7 : UInt8), (7 : UInt8), (7 : UInt8), (7 : UInt8), (7 : UInt8), (7 : UInt8), (7 : UInt8), (7 : UInt8), (7 : UInt8)]).append ([(8 : UInt8), (8 : UInt8), (8 : UInt8), (8 : UInt8), (8 : UInt8), (8 : UInt8), (8 : UInt8), (8 : UInt8), (8 : UInt8), (8 : UInt8), (8 : UInt8), (8 : UInt8), (8 : UInt8), (8 : UInt8), (8 : UInt8), (8 : UInt8), (8 : UInt8), (8 : UInt8), (8 : UInt8), (8 : UInt8), (8 : UInt8), (8 : UInt8), (8 : UInt8), (8 : UInt8), (8 : UInt8), (8 : UInt8), (8 : UInt8), (8 : UInt8), (8 : UInt8), (8 : UInt8), (8 : UInt8), (8 : UInt8), (8 : UInt8), (8 : UInt8), (8 : UInt8), (8 : UInt8), (8 : UInt8), (8 : UInt8), (8 : UInt8), (8 : UInt8), (8 : UInt8), (8 : UInt8), (8 : UInt8), (8 : UInt8), (8 : UInt8), (8 : UInt8), (8 : UInt8), (8 : UInt8), (8 : UInt8), (8 : UInt8), (8 : UInt8), (8 : UInt8), (8 : UInt8), (8 : UInt8), (8 : UInt8), (8 : UInt8), (8 : UInt8), (8 : UInt8), (8 : UInt8), (8 : UInt8), (8 : UInt8), (8 : UInt8), (8 : UInt8), (8 : UInt8)].append [(8 : UInt8), (8 : UInt8), (8 : UInt8), (8 : UInt8), (8 : UInt8), (8 : UInt8), (8 : UInt8), (8 : UInt8), (8 : UInt8), (8 : UInt8), (8 : UInt8), (8 : UInt8), (8 : UInt8), (8 : UInt8), (8 : UInt8), (8 : UInt8), (8 : UInt8), (8 : UInt8), (8 : UInt8), (8 : UInt8), (8 : UInt8), (8 : UInt8), (8 : UInt8), (8 : UInt8), (8 : UInt8), (8 : UInt8), (8 : UInt8), (8 : UInt8), (8 : UInt8), (8 : UInt8), (8 : UInt8), (8 : UInt8), (8 : UInt8), (8 : UInt8), (8 : UInt8), (8 : UInt8), (8 : UInt8), (8 : UInt8), (8 : UInt8), (8 : UInt8), (8 : UInt8), (8 : UInt8), (8 : UInt8), (8 : UInt8), (8 : UInt8), (8 : UInt8), (8 : UInt8), (8 : UInt8), (8 : UInt8), (8 : UInt8), (8 : UInt8), (8 : UInt8), (8 : UInt8), (8 : UInt8), (8 : UInt8), (8 : UInt8), (8 : UInt8), (8 : UInt8), (8 : UInt8), (8 : UInt8), (8 : UInt8), (8 : UInt8), (8 : UInt8), (8 : UInt8)])).toArray).data.toList.getD (Go.IntKind.u8.wrap (Ev.ishr Go.IntKind.u64 x0 (16 : Int))).toNat (0 : UInt8)).toNat : Int)))
     else none
   else
    bif Decidable.decide (x0 ≥ (256 : Int)) then
     bif Decidable.decide ((0 : Int) ≤ Go.IntKind.u8.wrap (Ev.ishr Go.IntKind.u64 x0 (8 : Int)) ∧ Go.IntKind.u8.wrap (Ev.ishr Go.IntKind.u64 x0 (8 : Int)) < (↑(ByteArray.mk (([(0 : UInt8), (1 : UInt8), (2 : UInt8), (2 : UInt8), (3 : UInt8), (3 : UInt8), (3 : UInt8), (3 : UInt8), (4 : UInt8), (4 : UInt8), (4 : UInt8), (4 : UInt8), (4 : UInt8), (4 : UInt8), (4 : UInt8), (4 : UInt8), (5 : UInt8), (5 : UInt8), (5 : UInt8), (5 : UInt8), (5 : UInt8), (5 : UInt8), (5 : UInt8), (5 : UInt8), (5 : UInt8), (5 : UInt8), (5 : UInt8), (5 : UInt8), (5 : UInt8), (5 : UInt8), (5 : UInt8), (5 : UInt8), (6 : UInt8), (6 : UInt8), (6 : UInt8), (6 : UInt8), (6 : UInt8), (6 : UInt8), (6 : UInt8), (6 : UInt8), (6 : UInt8), (6 : UInt8), (6 : UInt8), (6 : UInt8), (6 : UInt8), (6 : UInt8), (6 : UInt8), (6 : UInt8), (6 : UInt8), (6 : UInt8), (6 : UInt8), (6 : UInt8), (6 : UInt8), (6 : UInt8), (6 : UInt8), (6 : UInt8), (6 : UInt8), (6 : UInt8), (6 : UInt8), (6 : UInt8), (6 : UInt8), (6 : UInt8), (6 : UInt8), (6 : UInt8)].append [(7 : UInt8), (7 : UInt8), (7 : UInt8), (7 : UInt8), (7 : UInt8), (7 : UInt8), (7 : UInt8), (7 : UInt8), (7 : UInt8), (7 : UInt8), (7 : UInt8), (7 : UInt8), (7 : UInt8), (7 : UInt8), (7 : UInt8), (7 : UInt8), (7 : UInt8), (7 : UInt8), (7 : UInt8), (7 : UInt8), (7 : UInt8), (7 : UInt8), (7 : UInt8), (7 : UInt8), (7 : UInt8), (7 : UInt8), (7 : UInt8), (7 : UInt8), (7 : UInt8), (7 : UInt8), (7 : UInt8), (7 : UInt8), (7 : UInt8), (7 : UInt8), (7 : UInt8), (7 : UInt8), (7 : UInt8), (7 : UInt8), (7 : UInt8), (7 : UInt8), (7 : UInt8), (7 : UInt8), (7 : UInt8), (7 : UInt8), (7 : UInt8), (7 : UInt8), (7 : UInt8), (7 : UInt8), (7 : UInt8), (7 : UInt8), (7 : UInt8), (7 : UInt8), (7 : UInt8), (7 : UInt8), (7 : UInt8), (7 : UInt8), (7 : UInt8), (7 : UInt8), (7 : UInt8), (7 : UInt8), (7 : UInt8), (7 : UInt8), (7 : UInt8), (7 : UInt8)]).append ([(8 : UInt8), (8 : UInt8), (8 : UInt8), (8 : UInt8), (8 : UInt8), (8 : UInt8), (8 : UInt8), (8 : UInt8), (8 : UInt8), (8 : UInt8), (8 : UInt8), (8 : UInt8), (8 : UInt8), (8 : UInt8), (8 : UInt8), (8 : UInt8), (8 : UInt8), (8 : UInt8), (8 : UInt8), (8 : UInt8), (8 : UInt8), (8 : UInt8), (8 : UInt8), (8 : UInt8), (8 : UInt8), (8 : UInt8), (8 : UInt8), (8 : UInt8), (8 : UInt8), (8 : UInt8), (8 : UInt8), (8 : UInt8), (8 : UInt8), (8 : UInt8), (8 : UInt8), (8 : UInt8), (8 : UInt8), (8 : UInt8), (8 : UInt8), (8 : UInt8), (8 : UInt8), (8 : UInt8), (8 : UInt8), (8 : UInt8), (8 : UInt8), (8 : UInt8), (8 : UInt8), (8 : UInt8), (8 : UInt8), (8 : UInt8), (8 : UInt8), (8 : UInt8), (8 : UInt8), (8 : UInt8), (8 : UInt8), (8 : UInt8), (8 : UInt8), (8 : UInt8), (8 : UInt8), (8 : UInt8), (8 : UInt8), (8 : UInt8), (8 : UInt8), (8 : UInt8)].append [(8 : UInt8), (8 : UInt8), (8 : UInt8), (8 : UInt8), (8 : UInt8), (8 : UInt8), (8 : UInt8), (8 : UInt8), (8 : UInt8), (8 : UInt8), (8 : UInt8), (8 : UInt8), (8 : UInt8), (8 : UInt8), (8 : UInt8), (8 : UInt8), (8 : UInt8), (8 : UInt8), (8 : UInt8), (8 : UInt8), (8 : UInt8), (8 : UInt8), (8 : UInt8), (8 : UInt8), (8 : UInt8), (8 : UInt8), (8 : UInt8), (8 : UInt8), (8 : UInt8), (8 : UInt8), (8 : UInt8), (8 : UInt8), (8 : UInt8), (8 : UInt8), (8 : UInt8), (8 : UInt8), (8 : UInt8), (8 : UInt8), (8 : UInt8), (8 : UInt8), (8 : UInt8), (8 : UInt8), (8 : UInt8), (8 : UInt8), (8 : UInt8), (8 : UInt8), (8 : UInt8), (8 : UInt8), (8 : UInt8), (8 : UInt8), (8 : UInt8), (8 : UInt8), (8 : UInt8), (8 : UInt8), (8 : UInt8), (8 : UInt8), (8 : UInt8), (8 : UInt8), (8 : UInt8), (8 : UInt8), (8 : UInt8), (8 : UInt8), (8 : UInt8), (8 : UInt8)])).toArray).size : Int)) then
     k0 (Go.IntKind.i64.wrap (Go.IntKind.i64.wrap ((0 : Int) + (8 : Int)) + Go.IntKind.i64.wrap (↑((ByteArray.mk (([(0 : UInt8), (1 : UInt8), (2 : UInt8), (2 : UInt8), (3 : UInt8), (3 : UInt8), (3 : UInt8), (3 : UInt8), (4 : UInt8), (4 : UInt8), (4 : UInt8), (4 : UInt8), (4 : UInt8), (4 : UInt8), (4 : UInt8), (4 : UInt8), (5 : UInt8), (5 : UInt8), (5 : UInt8), (5 : UInt8), (5 : UInt8), (5 : UInt8), (5 : UInt8), (5 : UInt8), (5 : UInt8), (5 : UInt8), (5 : UInt8), (5 : UInt8), (5 : UInt8), (5 : UInt8), (5 : UInt8), (5 : UInt8), (6 : UInt8), (6 : UInt8), (6 : UInt8), (6 : UInt8), (6 : UInt8), (6 : UInt8), (6 : UInt8), (6 : UInt8), (6 : UInt8), (6 : UInt8), (6 : UInt8), (6 : UInt8), (6 : UInt8), (6 : UInt8), (6 : UInt8), (6 : UInt8), (6 : UInt8), (6 : UInt8), (6 : UInt8), (6 : UInt8), (6 : UInt8), (6 : UInt8), (6 : UInt8), (6 : UInt8), (6 : UInt8), (6 : UInt8), (6 : UInt8), (6 : UInt8), (6 : UInt8), (6 : UInt8), (6 : UInt8), (6 : UInt8)].append [(7 : UInt8), (7 : UInt8), (7 : UInt8), (7 : UInt8), (7 : UInt8), (7 : UInt8), (7 : UInt8), (7 : UInt8), (7 : UInt8), (7 : UInt8), (7 : UInt8), (7 : UInt8), (7 : UInt8), (7 : UInt8), (7 : UInt8), (7 : UInt8), (7 : UInt8), (7 : UInt8), (7 : UInt8), (7 : UInt8), (7 : UInt8), (7 : UInt8), (7 : UInt8), (7 : UInt8), (7 : UInt8), (7 : UInt8), (7 : UInt8), (7 : UInt8), (7 : UInt8), (7 : UInt8), (7 : UInt8), (7 : UInt8), (7 : UInt8), (7 : UInt8), (7 : UInt8), (7 : UInt8), (7 : UInt8), (7 : UInt8), (7 : UInt8), (7 : UInt8), (7 : UInt8), (7 : UInt8), (7 : UInt8), (7 : UInt8), (7 : UInt8), (7 : UInt8), (7 : UInt8), (7 : UInt8), (7 : UInt8), (7 : UInt8), (7 : UInt8), (7 : UInt8), (7 : UInt8), (7 : UInt8), (7 : UInt8), (7 : UInt8), (7 : UInt8), (7 : UInt8), (7 : UInt8), (7 : UInt8), (7 : UInt8), (7 : UInt8), (7 : UInt8), (7 : UInt8)]).append ([(8 : UInt8), (8 : UInt8), (8 : UInt8), (8 : UInt8), (8 : UInt8), (8 : UInt8), (8 : UInt8), (8 : UInt8), (8 : UInt8), (8 : UInt8), (8 : UInt8), (8 : UInt8), (8 : UInt8), (8 : UInt8), (8 : UInt8), (8 : UInt8), (8 : UInt8), (8 : UInt8), (8 : UInt8), (8 : UInt8), (8 : UInt8), (8 : UInt8), (8 : UInt8), (8 : UInt8), (8 : UInt8), (8 : UInt8), (8 : UInt8), (8 : UInt8), (8 : UInt8), (8 : UInt8), (8 : UInt8), (8 : UInt8), (8 : UInt8), (8 : UInt8), (8 : UInt8), (8 : UInt8), (8 : UInt8), (8 : UInt8), (8 : UInt8), (8 : UInt8), (8 : UInt8), (8 : UInt8), (8 : UInt8), (8 : UInt8), (8 : UInt8), (8 : UInt8), (8 : UInt8), (8 : UInt8), (8 : UInt8), (8 : UInt8), (8 : UInt8), (8 : UInt8), (8 : UInt8), (8 : UInt8), (8 : UInt8), (8 : UInt8), (8 : UInt8), (8 : UInt8), (8 : UInt8), (8 : UInt8), (8 : UInt8), (8 : UInt8), (8 : UInt8), (8 : UInt8)].append [(8 : UInt8), (8 : UInt8), (8 : UInt8), (8 : UInt8), (8 : UInt8), (8 : UInt8), (8 : UInt8), (8 : UInt8), (8 : UInt8), (8 : UInt8), (8 : UInt8), (8 : UInt8), (8 : UInt8), (8 : UInt8), (8 : UInt8), (8 : UInt8), (8 : UInt8), (8 : UInt8), (8 : UInt8), (8 : UInt8), (8 : UInt8), (8 : UInt8), (8 : UInt8), (8 : UInt8), (8 : UInt8), (8 : UInt8), (8 : UInt8), (8 : UInt8), (8 : UInt8), (8 : UInt8), (8 : UInt8), (8 : UInt8), (8 : UInt8), (8 : UInt8), (8 : UInt8), (8 : UInt8), (8 : UInt8), (8 : UInt8), (8 : UInt8), (8 : UInt8), (8 : UInt8), (8 : UInt8), (8 : UInt8), (8 : UInt8), (8 : UInt8), (8 : UInt8), (8 : UInt8), (8 : UInt8), (8 : UInt8), (8 : UInt8), (8 : UInt8), (8 : UInt8), (8 : UInt8), (8 : UInt8), (8 : UInt8), (8 : UInt8), (8 : UInt8), (8 : UInt8), (8 : UInt8), (8 : UInt8), (8 : UInt8), (8 : UInt8), (8 : UInt8), (8 : UInt8)])).toArray).data.toList.getD (Go.IntKind.u8.wrap (Ev.ishr Go.IntKind.u64 x0 (8 : Int))).toNat (0 : UInt8)).toNat : Int)))
     else none
    else
     bif Decidable.decide ((0 : Int) ≤ Go.IntKind.u8.wrap x0 ∧ Go.IntKind.u8.wrap x0 < (↑(ByteArray.mk (([(0 : UInt8), (1 : UInt8), (2 : UInt8), (2 : UInt8), (3 : UInt8), (3 : UInt8), (3 : UInt8), (3 : UInt8), (4 : UInt8), (4 : UInt8), (4 : UInt8), (4 : UInt8), (4 : UInt8), (4 : UInt8), (4 : UInt8), (4 : UInt8), (5 : UInt8), (5 : UInt8), (5 : UInt8), (5 : UInt8), (5 : UInt8), (5 : UInt8), (5 : UInt8), (5 : UInt8), (5 : UInt8), (5 : UInt8), (5 : UInt8), (5 : UInt8), (5 : UInt8), (5 : UInt8), (5 : UInt8), (5 : UInt8), (6 : UInt8), (6 : UInt8), (6 : UInt8), (6 : UInt8), (6 : UInt8), (6 : UInt8), (6 : UInt8), (6 : UInt8), (6 : UInt8), (6 : UInt8), (6 : UInt8), (6 : UInt8), (6 : UInt8), (6 : UInt8), (6 : UInt8), (6 : UInt8), (6 : UInt8), (6 : UInt8), (6 : UInt8), (6 : UInt8), (6 : UInt8), (6 : UInt8), (6 : UInt8), (6 : UInt8), (6 : UInt8), (6 : UInt8), (6 : UInt8), (6 : UInt8), (6 : UInt8), (6 : UInt8), (6 : UInt8), (6 : UInt8)].append [(7 : UInt8), (7 : UInt8), (7 : UInt8), (7 : UInt8), (7 : UInt8), (7 : UInt8), (7 : UInt8), (7 : UInt8), (7 : UInt8), (7 : UInt8), (7 : UInt8), (7 : UInt8), (7 : UInt8), (7 : UInt8), (7 : UInt8), (7 : UInt8), (7 : UInt8), (7 : UInt8), (7 : UInt8), (7 : UInt8), (7 : UInt8), (7 : UInt8), (7 : UInt8), (7 : UInt8), (7 : UInt8), (7 : UInt8), (7 : UInt8), (7 : UInt8), (7 : UInt8), (7 : UInt8), (7 : UInt8), (7 : UInt8), (7 : UInt8), (7 : UInt8), (7 : UInt8), (7 : UInt8), (7 : UInt8), (7 : UInt8), (7 : UInt8), (7 : UInt8), (7 : UInt8), (7 : UInt8), (7 : UInt8), (7 : UInt8), (7 : UInt8), (7 : UInt8), (7 : UInt8), (7 : UInt8), (7 : UInt8), (7 : UInt8), (7 : UInt8), (7 : UInt8), (7 : UInt8), (7 : UInt8), (7 : UInt8), (7 : UInt8), (7 : UInt8), (7 : UInt8), (7 : UInt8), (7 : UInt8), (7 : UInt8), (7 : UInt8), (7 : UInt8), (7 : UInt8)]).append ([(8 : UInt8), (8 : UInt8), (8 : UInt8), (8 : UInt8), (8 : UInt8), (8 : UInt8), (8 : UInt8), (8 : UInt8), (8 : UInt8), (8 : UInt8), (8 : UInt8), (8 : UInt8), (8 : UInt8), (8 : UInt8), (8 : UInt8), (8 : UInt8), (8 : UInt8), (8 : UInt8), (8 : UInt8), (8 : UInt8), (8 : UInt8), (8 : UInt8), (8 : UInt8), (8 : UInt8), (8 : UInt8), (8 : UInt8), (8 : UInt8), (8 : UInt8), (8 : UInt8), (8 : UInt8), (8 : UInt8), (8 : UInt8), (8 : UInt8), (8 : UInt8), (8 : UInt8), (8 : UInt8), (8 : UInt8), (8 : UInt8), (8 : UInt8), (8 : UInt8), (8 : UInt8), (8 : UInt8), (8 : UInt8), (8 : UInt8), (8 : UInt8), (8 : UInt8), (8 : UInt8), (8 : UInt8), (8 : UInt8), (8 : UInt8), (8 : UInt8), (8 : UInt8), (8 : UInt8), (8 : UInt8), (8 : UInt8), (8 : UInt8), (8 : UInt8), (8 : UInt8), (8 : UInt8), (8 : UInt8), (8 : UInt8), (8 : UInt8), (8 : UInt8), (8 : UInt8)].append [(8 : UInt8), (8 : UInt8), (8 : UInt8), (8 : UInt8), (8 : UInt8), (8 : UInt8), (8 : UInt8), (8 : UInt8), (8 : UInt8), (8 : UInt8), (8 : UInt8), (8 : UInt8), (8 : UInt8), (8 : UInt8), (8 : UInt8), (8 : UInt8), (8 : UInt8), (8 : UInt8), (8 : UInt8), (8 : UInt8), (8 : UInt8), (8 : UInt8), (8 : UInt8), (8 : UInt8), (8 : UInt8), (8 : UInt8), (8 : UInt8), (8 : UInt8), (8 : UInt8), (8 : UInt8), (8 : UInt8), (8 : UInt8), (8 : UInt8), (8 : UInt8), (8 : UInt8), (8 : UInt8), (8 : UInt8), (8 : UInt8), (8 : UInt8), (8 : UInt8), (8 : UInt8), (8 : UInt8), (8 : UInt8), (8 : UInt8), (8 : UInt8), (8 : UInt8), (8 : UInt8), (8 : UInt8), (8 : UInt8), (8 : UInt8), (8 : UInt8), (8 : UInt8), (8 : UInt8), (8 : UInt8), (8 : UInt8), (8 : UInt8), (8 : UInt8), (8 : UInt8), (8 : UInt8), (8 : UInt8), (8 : UInt8), (8 : UInt8), (8 : UInt8), (8 : UInt8)])).toArray).size : Int)) then
     k0 (Go.IntKind.i64.wrap ((0 : Int) + Go.IntKind.i64.wrap (↑((ByteArray.mk (([(0 : UInt8), (1 : UInt8), (2 : UInt8), (2 : UInt8), (3 : UInt8), (3 : UInt8), (3 : UInt8), (3 : UInt8), (4 : UInt8), (4 : UInt8), (4 : UInt8), (4 : UInt8), (4 : UInt8), (4 : UInt8), (4 : UInt8), (4 : UInt8), (5 : UInt8), (5 : UInt8), (5 : UInt8), (5 : UInt8), (5 : UInt8), (5 : UInt8), (5 : UInt8), (5 : UInt8), (5 : UInt8), (5 : UInt8), (5 : UInt8), (5 : UInt8), (5 : UInt8), (5 : UInt8), (5 : UInt8), (5 : UInt8), (6 : UInt8), (6 : UInt8), (6 : UInt8), (6 : UInt8), (6 : UInt8), (6 : UInt8), (6 : UInt8), (6 : UInt8), (6 : UInt8), (6 : UInt8), (6 : UInt8), (6 : UInt8), (6 : UInt8), (6 : UInt8), (6 : UInt8), (6 : UInt8), (6 : UInt8), (6 : UInt8), (6 : UInt8), (6 : UInt8), (6 : UInt8), (6 : UInt8), (6 : UInt8), (6 : UInt8), (6 : UInt8), (6 : UInt8), (6 : UInt8), (6 : UInt8), (6 : UInt8), (6 : UInt8), (6 : UInt8), (6 : UInt8)].append [(7 : UInt8), (7 : UInt8), (7 : UInt8), (7 : UInt8), (7 : UInt8), (7 : UInt8), (7 : UInt8), (7 : UInt8), (7 : UInt8), (7 : UInt8), (7 : UInt8), (7 : UInt8), (7 : UInt8), (7 : UInt8), (7 : UInt8), (7 : UInt8), (7 : UInt8), (7 : UInt8), (7 : UInt8), (7 : UInt8), (7 : UInt8), (7 : UInt8), (7 : UInt8), (7 : UInt8), (7 : UInt8), (7 : UInt8), (7 : UInt8), (7 : UInt8), (7 : UInt8), (7 : UInt8), (7 : UInt8), (7 : UInt8), (7 : UInt8), (7 : UInt8), (7 : UInt8), (7 : UInt8), (7 : UInt8), (7 : UInt8), (7 : UInt8), (7 : UInt8), (7 : UInt8), (7 : UInt8), (7 : UInt8), (7 : UInt8), (7 : UInt8), (7 : UInt8), (7 : UInt8), (7 : UInt8), (7 : UInt8), (7 : UInt8), (7 : UInt8), (7 : UInt8), (7 : UInt8), (7 : UInt8), (7 : UInt8), (7 : UInt8), (7 : UInt8), (7 : UInt8), (7 : UInt8), (7 : UInt8), (7 : UInt8), (7 : UInt8), (7 : UInt8), (7 : UInt8)]).append ([(8 : UInt8), (8 : UInt8), (8 : UInt8), (8 : UInt8), (8 : UInt8), (8 : UInt8), (8 : UInt8), (8 : UInt8), (8 : UInt8), (8 : UInt8), (8 : UInt8), (8 : UInt8), (8 : UInt8), (8 : UInt8), (8 : UInt8), (8 : UInt8), (8 : UInt8), (8 : UInt8), (8 : UInt8), (8 : UInt8), (8 : UInt8), (8 : UInt8), (8 : UInt8), (8 : UInt8), (8 : UInt8), (8 : UInt8), (8 : UInt8), (8 : UInt8), (8 : UInt8), (8 : UInt8), (8 : UInt8), (8 : UInt8), (8 : UInt8), (8 : UInt8), (8 : UInt8), (8 : UInt8), (8 : UInt8), (8 : UInt8), (8 : UInt8), (8 : UInt8), (8 : UInt8), (8 : UInt8), (8 : UInt8), (8 : UInt8), (8 : UInt8), (8 : UInt8), (8 : UInt8), (8 : UInt8), (8 : UInt8), (8 : UInt8), (8 : UInt8), (8 : UInt8), (8 : UInt8), (8 : UInt8), (8 : UInt8), (8 : UInt8), (8 : UInt8), (8 : UInt8), (8 : UInt8), (8 : UInt8), (8 : UInt8), (8 : UInt8), (8 : UInt8), (8 : UInt8)].append [(8 : UInt8), (8 : UInt8), (8 : UInt8), (8 : UInt8), (8 : UInt8), (8 : UInt8), (8 : UInt8), (8 : UInt8), (8 : UInt8), (8 : UInt8), (8 : UInt8), (8 : UInt8), (8 : UInt8), (8 : UInt8), (8 : UInt8), (8 : UInt8), (8 : UInt8), (8 : UInt8), (8 : UInt8), (8 : UInt8), (8 : UInt8), (8 : UInt8), (8 : UInt8), (8 : UInt8), (8 : UInt8), (8 : UInt8), (8 : UInt8), (8 : UInt8), (8 : UInt8), (8 : UInt8), (8 : UInt8), (8 : UInt8), (8 : UInt8), (8 : UInt8), (8 : UInt8), (8 : UInt8), (8 : UInt8), (8 : UInt8), (8 : UInt8), (8 : UInt8), (8 : UInt8), (8 : UInt8), (8 : UInt8), (8 : UInt8), (8 : UInt8), (8 : UInt8), (8 : UInt8), (8 : UInt8), (8 : UInt8), (8 : UInt8), (8 : UInt8), (8 : UInt8), (8 : UInt8), (8 : UInt8), (8 : UInt8), (8 : UInt8), (8 : UInt8), (8 : UInt8), (8 : UInt8), (8 : UInt8), (8 : UInt8), (8 : UInt8), (8 : UInt8), (8 : UInt8)])).toArray).data.toList.getD (Go.IntKind.u8.wrap x0).toNat (0 : UInt8)).toNat : Int)))
     else none
abbrev YF207 : Type := (Int) → ((Int) → Option Ans) → Option Ans
theorem F207_eq (fuel : Nat) (x0 : Int) (k : Ev.Cont) : evalFn tab (G207 fuel) (J207 fuel) kp207 fuel Tryz.f207 [.c (.int .u64 x0)] [] k = F_math_bits_Len64 fuel x0 (fun r => match r with | r0 => k (.c (.int .i64 r0), [])) := by
  kernel_rfl
theorem hG207 (fuel : Nat) : GOK Tryz.prog (G207 fuel) :=
  gok_nil
theorem fok207 (fuel : Nat) : FnOK Tryz.prog 207 (evalFn tab (G207 fuel) (J207 fuel) kp207 fuel Tryz.f207) :=
  fn_ok tab_ok (hG207 fuel) mixed Tryz.func207 (c := (Tryz.f207.body).getD .skip) rfl (fun q hq => by
    rw [(by kernel_rfl : obl (J207 fuel) ((Tryz.f207.body).getD .skip) = [])] at hq
    cases hq)
noncomputable def mt207 : List Ev.SV → List Ev.Ob → Bool := fun args objs => match args, objs with
  | [.c (.int .u64 _)], [] => true
  | _, _ => false
noncomputable def spg207 (F : YF207) : Ev.Spec := fun args objs k => match args, objs with
  | [.c (.int .u64 x0)], [] => bif true then F x0 (fun r => match r with | r0 => k (.c (.int .i64 r0), [])) else none
  | _, _ => none
noncomputable def spec207 (fuel : Nat) : Ev.Spec := spg207 (F_math_bits_Len64 fuel)
theorem ok207 (fuel : Nat) : FnOK Tryz.prog 207 (spec207 fuel) := by
  intro args objs kk r h
  unfold spec207 spg207 at h
  split at h
  · skip
    obtain ⟨hb, h⟩ := cond_some' h
    simp only [Bool.and_eq_true, Nat.beq_eq, decide_eq_true_eq] at hb
    clear hb
    exact fok207 fuel _ _ kk r ((F207_eq fuel _ kk).trans h)
  · cases h
end Go.Proofs.YtipdidpalcmlhaaGreat

set_option linter.unusedVariables false
set_option linter.unusedSimpArgs false
set_option maxRecDepth 100000
set_option maxHeartbeats 2000000
namespace Go.Proofs.YtipdidpalcmlhaaGreat
open Go Ev
def kp120 (i : Nat) : Option (List Nat) := Ev.look i []
noncomputable def Gg120 (f207 : YF207) (f : Nat) : Option Ev.Spec := Ev.look f [(207, spg207 f207)]
noncomputable def G120 (fuel : Nat) : Nat → Option Ev.Spec := Gg120 (F_math_bits_Len64 fuel)
noncomputable def J120 (fuel : Nat) (i : Nat) : Option Ev.Blk := Ev.look i []
noncomputable def F_math_bits_Len (fuel : Nat) (x0 : Int) (k0 : (Int) → Option Ans) : Option Ans :=
  (F_math_bits_Len64 fuel (x0)
    (fun y2 =>
      k0 y2))
abbrev YF120 : Type := (Int) → ((Int) → Option Ans) → Option Ans
theorem F120_eqg (fuel : Nat) (f207 : YF207) (x0 : Int) (k : Ev.Cont) : evalFn tab (Gg120 f207) (J120 fuel) kp120 fuel Tryz.f120 [.c (.int .u64 x0)] [] k = (fun  (k0 : (Int) → Option Ans) =>
  (f207 (x0)
    (fun y2 =>
      k0 y2))) (fun r => match r with | r0 => k (.c (.int .i64 r0), [])) := by
  kernel_rfl
theorem F120_eq (fuel : Nat) (x0 : Int) (k : Ev.Cont) : evalFn tab (G120 fuel) (J120 fuel) kp120 fuel Tryz.f120 [.c (.int .u64 x0)] [] k = F_math_bits_Len fuel x0 (fun r => match r with | r0 => k (.c (.int .i64 r0), [])) :=
  F120_eqg fuel (F_math_bits_Len64 fuel) x0 k
theorem hG120 (fuel : Nat) : GOK Tryz.prog (G120 fuel) :=
  gok_cons ⟨ok207 fuel, enters_of Tryz.func207 (by kernel_rfl) rfl⟩ <|
  gok_nil
theorem fok120 (fuel : Nat) : FnOK Tryz.prog 120 (evalFn tab (G120 fuel) (J120 fuel) kp120 fuel Tryz.f120) :=
  fn_ok tab_ok (hG120 fuel) mixed Tryz.func120 (c := (Tryz.f120.body).getD .skip) rfl (fun q hq => by
    rw [(by kernel_rfl : obl (J120 fuel) ((Tryz.f120.body).getD .skip) = [])] at hq
    cases hq)
noncomputable def mt120 : List Ev.SV → List Ev.Ob → Bool := fun args objs => match args, objs with
  | [.c (.int .u64 _)], [] => true
  | _, _ => false
noncomputable def spg120 (F : YF120) : Ev.Spec := fun args objs k => match args, objs with
  | [.c (.int .u64 x0)], [] => bif true then F x0 (fun r => match r with | r0 => k (.c (.int .i64 r0), [])) else none
  | _, _ => none
noncomputable def spec120 (fuel : Nat) : Ev.Spec := spg120 (F_math_bits_Len fuel)
theorem ok120 (fuel : Nat) : FnOK Tryz.prog 120 (spec120 fuel) := by
  intro args objs kk r h
  unfold spec120 spg120 at h
  split at h
  · skip
    obtain ⟨hb, h⟩ := cond_some' h
    simp only [Bool.and_eq_true, Nat.beq_eq, decide_eq_true_eq] at hb
    clear hb
    exact fok120 fuel _ _ kk r ((F120_eq fuel _ kk).trans h)
  · cases h
end Go.Proofs.YtipdidpalcmlhaaGreat

set_option linter.unusedVariables false
set_option linter.unusedSimpArgs false
set_option maxRecDepth 100000
set_option maxHeartbeats 2000000
namespace Go.Proofs.YtipdidpalcmlhaaGreat
open Go Ev
def kp50 (i : Nat) : Option (List Nat) := Ev.look i []
noncomputable def Gg50 (f120 : YF120) (f : Nat) : Option Ev.Spec := Ev.look f [(120, spg120 f120)]
noncomputable def G50 (fuel : Nat) : Nat → Option Ev.Spec := Gg50 (F_math_bits_Len fuel)
noncomputable def J50 (fuel : Nat) (i : Nat) : Option Ev.Blk := Ev.look i []
noncomputable def F_number_Width (fuel : Nat) (x0 : Int) (k0 : (Int) → Option Ans) : Option Ans :=
  bif Decidable.decide (x0 < (1 : Int)) then
   k0 ((0 : Int))
  else
   (F_math_bits_Len fuel (Go.IntKind.u64.wrap (Go.IntKind.i64.wrap (x0 - (1 : Int))))
     (fun y3 =>
       k0 y3))
abbrev YF50 : Type := (Int) → ((Int) → Option Ans) → Option Ans
theorem F50_eqg (fuel : Nat) (f120 : YF120) (x0 : Int) (k : Ev.Cont) : evalFn tab (Gg50 f120) (J50 fuel) kp50 fuel Tryz.f50 [.c (.int .i64 x0)] [] k = (fun  (k0 : (Int) → Option Ans) =>
  bif Decidable.decide (x0 < (1 : Int)) then
   k0 ((0 : Int))
  else
   (f120 (Go.IntKind.u64.wrap (Go.IntKind.i64.wrap (x0 - (1 : Int))))
     (fun y3 =>
       k0 y3))) (fun r => match r with | r0 => k (.c (.int .i64 r0), [])) := by
  kernel_rfl
theorem F50_eq (fuel : Nat) (x0 : Int) (k : Ev.Cont) : evalFn tab (G50 fuel) (J50 fuel) kp50 fuel Tryz.f50 [.c (.int .i64 x0)] [] k = F_number_Width fuel x0 (fun r => match r with | r0 => k (.c (.int .i64 r0), [])) :=
  F50_eqg fuel (F_math_bits_Len fuel) x0 k
theorem hG50 (fuel : Nat) : GOK Tryz.prog (G50 fuel) :=
  gok_cons ⟨ok120 fuel, enters_of Tryz.func120 (by kernel_rfl) rfl⟩ <|
  gok_nil
theorem fok50 (fuel : Nat) : FnOK Tryz.prog 50 (evalFn tab (G50 fuel) (J50 fuel) kp50 fuel Tryz.f50) :=
  fn_ok tab_ok (hG50 fuel) mixed Tryz.func50 (c := (Tryz.f50.body).getD .skip) rfl (fun q hq => by
    rw [(by kernel_rfl : obl (J50 fuel) ((Tryz.f50.body).getD .skip) = [])] at hq
    cases hq)
noncomputable def mt50 : List Ev.SV → List Ev.Ob → Bool := fun args objs => match args, objs with
  | [.c (.int .i64 _)], [] => true
  | _, _ => false
noncomputable def spg50 (F : YF50) : Ev.Spec := fun args objs k => match args, objs with
  | [.c (.int .i64 x0)], [] => bif true then F x0 (fun r => match r with | r0 => k (.c (.int .i64 r0), [])) else none
  | _, _ => none
noncomputable def spec50 (fuel : Nat) : Ev.Spec := spg50 (F_number_Width fuel)
theorem ok50 (fuel : Nat) : FnOK Tryz.prog 50 (spec50 fuel) := by
  intro args objs kk r h
  unfold spec50 spg50 at h
  split at h
  · skip
    obtain ⟨hb, h⟩ := cond_some' h
    simp only [Bool.and_eq_true, Nat.beq_eq, decide_eq_true_eq] at hb
    clear hb
    exact fok50 fuel _ _ kk r ((F50_eq fuel _ kk).trans h)
  · cases h
end Go.Proofs.YtipdidpalcmlhaaGreat

set_option linter.unusedVariables false
set_option linter.unusedSimpArgs false
set_option maxRecDepth 100000
set_option maxHeartbeats 2000000
namespace Go.Proofs.YtipdidpalcmlhaaGreat
open Go Ev
def kp249 (i : Nat) : Option (List Nat) := Ev.look i []
noncomputable def Gg249 (f : Nat) : Option Ev.Spec := Ev.look f []
noncomputable def G249 (fuel : Nat) : Nat → Option Ev.Spec := Gg249
noncomputable def J249 (fuel : Nat) (i : Nat) : Option Ev.Blk := Ev.look i []
noncomputable def F_refine_fresh (fuel : Nat) (x0 : Int) (k0 : ((List (Int × Int))) → Option Ans) : Option Ans :=
  bif x0 == (0 : Int) then
   k0 ([((-1 : Int), (-1 : Int)), ((0 : Int), (-1 : Int)), ((1 : Int), (-1 : Int)), ((-1 : Int), (0 : Int))])
  else
   k0 ([((0 : Int), (-1 : Int)), ((-1 : Int), (0 : Int))])
abbrev YF249 : Type := (Int) → (((List (Int × Int))) → Option Ans) → Option Ans
theorem F249_eq (fuel : Nat) (x0 : Int) (k : Ev.Cont) : evalFn tab (G249 fuel) (J249 fuel) kp249 fuel Tryz.f249 [.c (.int .i64 x0)] [] k = F_refine_fresh fuel x0 (fun r => match r with | r0 => k (.c (.own 0), [.vec 76 (.pair (.int .i64) (.int .i64)) r0 true])) := by
  kernel_rfl
theorem hG249 (fuel : Nat) : GOK Tryz.prog (G249 fuel) :=
  gok_nil
theorem fok249 (fuel : Nat) : FnOK Tryz.prog 249 (evalFn tab (G249 fuel) (J249 fuel) kp249 fuel Tryz.f249) :=
  fn_ok tab_ok (hG249 fuel) mixed Tryz.func249 (c := (Tryz.f249.body).getD .skip) rfl (fun q hq => by
    rw [(by kernel_rfl : obl (J249 fuel) ((Tryz.f249.body).getD .skip) = [])] at hq
    cases hq)
noncomputable def mt249 : List Ev.SV → List Ev.Ob → Bool := fun args objs => match args, objs with
  | [.c (.int .i64 _)], [] => true
  | _, _ => false
noncomputable def spg249 (F : YF249) : Ev.Spec := fun args objs k => match args, objs with
  | [.c (.int .i64 x0)], [] => bif true then F x0 (fun r => match r with | r0 => k (.c (.own 0), [.vec 76 (.pair (.int .i64) (.int .i64)) r0 true])) else none
  | _, _ => none
noncomputable def spec249 (fuel : Nat) : Ev.Spec := spg249 (F_refine_fresh fuel)
theorem ok249 (fuel : Nat) : FnOK Tryz.prog 249 (spec249 fuel) := by
  intro args objs kk r h
  unfold spec249 spg249 at h
  split at h
  · skip
    obtain ⟨hb, h⟩ := cond_some' h
    simp only [Bool.and_eq_true, Nat.beq_eq, decide_eq_true_eq] at hb
    clear hb
    exact fok249 fuel _ _ kk r ((F249_eq fuel _ kk).trans h)
  · cases h
end Go.Proofs.YtipdidpalcmlhaaGreat

set_option linter.unusedVariables false
set_option linter.unusedSimpArgs false
set_option maxRecDepth 100000
set_option maxHeartbeats 2000000
namespace Go.Proofs.YtipdidpalcmlhaaGreat
open Go Ev
def kp228 (i : Nat) : Option (List Nat) := Ev.look i []
noncomputable def Gg228 (f249 : YF249) (f : Nat) : Option Ev.Spec := Ev.look f [(249, spg249 f249)]
noncomputable def G228 (fuel : Nat) : Nat → Option Ev.Spec := Gg228 (F_refine_fresh fuel)
noncomputable def J228 (fuel : Nat) (i : Nat) : Option Ev.Blk := Ev.look i []
noncomputable def F_refine_contexts (fuel : Nat) (x0 : Int) (k0 : (Int) → Option Ans) : Option Ans :=
  (F_refine_fresh fuel (x0)
    (fun y2 =>
      k0 (Ev.ishl Go.IntKind.i64 (32 : Int) (↑y2.length : Int))))
abbrev YF228 : Type := (Int) → ((Int) → Option Ans) → Option Ans
theorem F228_eqg (fuel : Nat) (f249 : YF249) (x0 : Int) (k : Ev.Cont) : evalFn tab (Gg228 f249) (J228 fuel) kp228 fuel Tryz.f228 [.c (.int .i64 x0)] [] k = (fun  (k0 : (Int) → Option Ans) =>
  (f249 (x0)
    (fun y2 =>
      k0 (Ev.ishl Go.IntKind.i64 (32 : Int) (↑y2.length : Int))))) (fun r => match r with | r0 => k (.c (.int .i64 r0), [])) := by
  kernel_rfl
theorem F228_eq (fuel : Nat) (x0 : Int) (k : Ev.Cont) : evalFn tab (G228 fuel) (J228 fuel) kp228 fuel Tryz.f228 [.c (.int .i64 x0)] [] k = F_refine_contexts fuel x0 (fun r => match r with | r0 => k (.c (.int .i64 r0), [])) :=
  F228_eqg fuel (F_refine_fresh fuel) x0 k
theorem hG228 (fuel : Nat) : GOK Tryz.prog (G228 fuel) :=
  gok_cons ⟨ok249 fuel, enters_of Tryz.func249 (by kernel_rfl) rfl⟩ <|
  gok_nil
theorem fok228 (fuel : Nat) : FnOK Tryz.prog 228 (evalFn tab (G228 fuel) (J228 fuel) kp228 fuel Tryz.f228) :=
  fn_ok tab_ok (hG228 fuel) mixed Tryz.func228 (c := (Tryz.f228.body).getD .skip) rfl (fun q hq => by
    rw [(by kernel_rfl : obl (J228 fuel) ((Tryz.f228.body).getD .skip) = [])] at hq
    cases hq)
noncomputable def mt228 : List Ev.SV → List Ev.Ob → Bool := fun args objs => match args, objs with
  | [.c (.int .i64 _)], [] => true
  | _, _ => false
noncomputable def spg228 (F : YF228) : Ev.Spec := fun args objs k => match args, objs with
  | [.c (.int .i64 x0)], [] => bif true then F x0 (fun r => match r with | r0 => k (.c (.int .i64 r0), [])) else none
  | _, _ => none
noncomputable def spec228 (fuel : Nat) : Ev.Spec := spg228 (F_refine_contexts fuel)
theorem ok228 (fuel : Nat) : FnOK Tryz.prog 228 (spec228 fuel) := by
  intro args objs kk r h
  unfold spec228 spg228 at h
  split at h
  · skip
    obtain ⟨hb, h⟩ := cond_some' h
    simp only [Bool.and_eq_true, Nat.beq_eq, decide_eq_true_eq] at hb
    clear hb
    exact fok228 fuel _ _ kk r ((F228_eq fuel _ kk).trans h)
  · cases h
end Go.Proofs.YtipdidpalcmlhaaGreat

set_option linter.unusedVariables false
set_option linter.unusedSimpArgs false
set_option maxRecDepth 100000
set_option maxHeartbeats 2000000
namespace Go.Proofs.YtipdidpalcmlhaaGreat
open Go Ev
def kp165 (i : Nat) : Option (List Nat) := Ev.look i []
noncomputable def Gg165 (f228 : YF228) (f : Nat) : Option Ev.Spec := Ev.look f [(228, spg228 f228)]
noncomputable def G165 (fuel : Nat) : Nat → Option Ev.Spec := Gg165 (F_refine_contexts fuel)
noncomputable def J165 (fuel : Nat) (i : Nat) : Option Ev.Blk := Ev.look i []
noncomputable def F_refine_Size (fuel : Nat) (x0 : Int) (k0 : (Int × Int) → Option Ans) : Option Ans :=
  bif x0 != (0 : Int) then
   bif x0 != (1 : Int) then
    k0 ((0 : Int), (2 : Int))
   else
    (F_refine_contexts fuel (x0)
      (fun y4 =>
        k0 (Go.IntKind.i64.wrap (y4 + (1 : Int)), (0 : Int))))
  else
   (F_refine_contexts fuel (x0)
     (fun y3 =>
       k0 (Go.IntKind.i64.wrap (y3 + (1 : Int)), (0 : Int))))
abbrev YF165 : Type := (Int) → ((Int × Int) → Option Ans) → Option Ans
theorem F165_eqg (fuel : Nat) (f228 : YF228) (x0 : Int) (k : Ev.Cont) : evalFn tab (Gg165 f228) (J165 fuel) kp165 fuel Tryz.f165 [.c (.int .i64 x0)] [] k = (fun  (k0 : (Int × Int) → Option Ans) =>
  bif x0 != (0 : Int) then
   bif x0 != (1 : Int) then
    k0 ((0 : Int), (2 : Int))
   else
    (f228 (x0)
      (fun y4 =>
        k0 (Go.IntKind.i64.wrap (y4 + (1 : Int)), (0 : Int))))
  else
   (f228 (x0)
     (fun y3 =>
       k0 (Go.IntKind.i64.wrap (y3 + (1 : Int)), (0 : Int))))) (fun r => match r with | (r0, r1) => k (.tup [(false, [.int .i64 r0]), (false, [.int .i64 r1])], [])) := by
  kernel_rfl
theorem F165_eq (fuel : Nat) (x0 : Int) (k : Ev.Cont) : evalFn tab (G165 fuel) (J165 fuel) kp165 fuel Tryz.f165 [.c (.int .i64 x0)] [] k = F_refine_Size fuel x0 (fun r => match r with | (r0, r1) => k (.tup [(false, [.int .i64 r0]), (false, [.int .i64 r1])], [])) :=
  F165_eqg fuel (F_refine_contexts fuel) x0 k
theorem hG165 (fuel : Nat) : GOK Tryz.prog (G165 fuel) :=
  gok_cons ⟨ok228 fuel, enters_of Tryz.func228 (by kernel_rfl) rfl⟩ <|
  gok_nil
theorem fok165 (fuel : Nat) : FnOK Tryz.prog 165 (evalFn tab (G165 fuel) (J165 fuel) kp165 fuel Tryz.f165) :=
  fn_ok tab_ok (hG165 fuel) mixed Tryz.func165 (c := (Tryz.f165.body).getD .skip) rfl (fun q hq => by
    rw [(by kernel_rfl : obl (J165 fuel) ((Tryz.f165.body).getD .skip) = [])] at hq
    cases hq)
noncomputable def mt165 : List Ev.SV → List Ev.Ob → Bool := fun args objs => match args, objs with
  | [.c (.int .i64 _)], [] => true
  | _, _ => false
noncomputable def spg165 (F : YF165) : Ev.Spec := fun args objs k => match args, objs with
  | [.c (.int .i64 x0)], [] => bif true then F x0 (fun r => match r with | (r0, r1) => k (.tup [(false, [.int .i64 r0]), (false, [.int .i64 r1])], [])) else none
  | _, _ => none
noncomputable def spec165 (fuel : Nat) : Ev.Spec := spg165 (F_refine_Size fuel)
theorem ok165 (fuel : Nat) : FnOK Tryz.prog 165 (spec165 fuel) := by
  intro args objs kk r h
  unfold spec165 spg165 at h
  split at h
  · skip
    obtain ⟨hb, h⟩ := cond_some' h
    simp only [Bool.and_eq_true, Nat.beq_eq, decide_eq_true_eq] at hb
    clear hb
    exact fok165 fuel _ _ kk r ((F165_eq fuel _ kk).trans h)
  · cases h
end Go.Proofs.YtipdidpalcmlhaaGreat

set_option linter.unusedVariables false
set_option linter.unusedSimpArgs false
set_option maxRecDepth 100000
set_option maxHeartbeats 2000000
namespace Go.Proofs.YtipdidpalcmlhaaGreat
open Go Ev
def kp78 (i : Nat) : Option (List Nat) := Ev.look i [(200001, [2])]
noncomputable def Gg78 (f50 : YF50) (f165 : YF165) (f : Nat) : Option Ev.Spec := Ev.look f [(50, spg50 f50), (165, spg165 f165)]
noncomputable def G78 (fuel : Nat) : Nat → Option Ev.Spec := Gg78 (F_number_Width fuel) (F_refine_Size fuel)
noncomputable def J78 (fuel : Nat) (i : Nat) : Option Ev.Blk := Ev.look i []
noncomputable def F_text_lay (fuel : Nat) (x0 : Int) (x1 : Int) (x2 : Bool) (x3 : Int) (x4 : Int) (x5 : Int) (x6 : Bool) (x7 : Int) (x8 : Int) (k0 : (Int × Int × Bool × Int × Int × Int × Bool × Int × Int × Int × Int) → Option Ans) : Option Ans :=
  both ((F_number_Width fuel (x8)
      (fun y4 =>
        both (bif Decidable.decide (y4 < (0 : Int)) then
           none
          else
           bif x6 then
            (F_refine_Size fuel (x7)
              (fun (y12_0, y12_1) =>
                k0 (x0, x1, x2, x3, x4, x5, x6, x7, y4, Go.IntKind.i64.wrap (Go.IntKind.i64.wrap ((385 : Int) + Ev.ishl Go.IntKind.i64 (1 : Int) y4) - (1 : Int)), Go.IntKind.i64.wrap (Go.IntKind.i64.wrap (Go.IntKind.i64.wrap ((385 : Int) + Ev.ishl Go.IntKind.i64 (1 : Int) y4) - (1 : Int)) + y12_0))))
           else
            k0 (x0, x1, x2, x3, x4, x5, x6, x7, y4, Go.IntKind.i64.wrap (Go.IntKind.i64.wrap ((385 : Int) + Ev.ishl Go.IntKind.i64 (1 : Int) y4) - (1 : Int)), Go.IntKind.i64.wrap (Go.IntKind.i64.wrap ((385 : Int) + Ev.ishl Go.IntKind.i64 (1 : Int) y4) - (1 : Int))))
         (bif Decidable.decide (y4 < (0 : Int)) then
           none
          else
           bif x6 then
            (F_refine_Size fuel (x7)
              (fun (y12_0, y12_1) =>
                k0 (x0, x1, x2, x3, x4, x5, x6, x7, y4, Go.IntKind.i64.wrap (Go.IntKind.i64.wrap ((385 : Int) + Ev.ishl Go.IntKind.i64 (1 : Int) y4) - (1 : Int)), Go.IntKind.i64.wrap (Go.IntKind.i64.wrap (Go.IntKind.i64.wrap ((385 : Int) + Ev.ishl Go.IntKind.i64 (1 : Int) y4) - (1 : Int)) + y12_0))))
           else
            k0 (x0, x1, x2, x3, x4, x5, x6, x7, y4, Go.IntKind.i64.wrap (Go.IntKind.i64.wrap ((385 : Int) + Ev.ishl Go.IntKind.i64 (1 : Int) y4) - (1 : Int)), Go.IntKind.i64.wrap (Go.IntKind.i64.wrap ((385 : Int) + Ev.ishl Go.IntKind.i64 (1 : Int) y4) - (1 : Int)))))))
   ((F_number_Width fuel (x8)
      (fun y4 =>
        bif Decidable.decide (y4 < (0 : Int)) then
         none
        else
         bif x6 then
          (F_refine_Size fuel (x7)
            (fun (y10_0, y10_1) =>
              k0 (x0, x1, x2, x3, x4, x5, x6, x7, y4, Go.IntKind.i64.wrap (Go.IntKind.i64.wrap ((385 : Int) + Ev.ishl Go.IntKind.i64 (1 : Int) y4) - (1 : Int)), Go.IntKind.i64.wrap (Go.IntKind.i64.wrap (Go.IntKind.i64.wrap ((385 : Int) + Ev.ishl Go.IntKind.i64 (1 : Int) y4) - (1 : Int)) + y10_0))))
         else
          k0 (x0, x1, x2, x3, x4, x5, x6, x7, y4, Go.IntKind.i64.wrap (Go.IntKind.i64.wrap ((385 : Int) + Ev.ishl Go.IntKind.i64 (1 : Int) y4) - (1 : Int)), Go.IntKind.i64.wrap (Go.IntKind.i64.wrap ((385 : Int) + Ev.ishl Go.IntKind.i64 (1 : Int) y4) - (1 : Int))))))
abbrev YF78 : Type := (Int) → (Int) → (Bool) → (Int) → (Int) → (Int) → (Bool) → (Int) → (Int) → ((Int × Int × Bool × Int × Int × Int × Bool × Int × Int × Int × Int) → Option Ans) → Option Ans
theorem F78_eqg (fuel : Nat) (f50 : YF50) (f165 : YF165) (x0 : Int) (x1 : Int) (x2 : Bool) (x3 : Int) (x4 : Int) (x5 : Int) (x6 : Bool) (x7 : Int) (x8 : Int) (k : Ev.Cont) : evalFn tab (Gg78 f50 f165) (J78 fuel) kp78 fuel Tryz.f78 [.agg [.int .i64 x0, .int .i64 x1, .bool x2, .int .i64 x3, .int .i64 x4, .int .i64 x5, .bool x6, .int .i64 x7], .c (.int .i64 x8)] [] k = (fun  (k0 : (Int × Int × Bool × Int × Int × Int × Bool × Int × Int × Int × Int) → Option Ans) =>
  both ((f50 (x8)
      (fun y4 =>
        both (bif Decidable.decide (y4 < (0 : Int)) then
           none
          else
           bif x6 then
            (f165 (x7)
              (fun (y12_0, y12_1) =>
                k0 (x0, x1, x2, x3, x4, x5, x6, x7, y4, Go.IntKind.i64.wrap (Go.IntKind.i64.wrap ((385 : Int) + Ev.ishl Go.IntKind.i64 (1 : Int) y4) - (1 : Int)), Go.IntKind.i64.wrap (Go.IntKind.i64.wrap (Go.IntKind.i64.wrap ((385 : Int) + Ev.ishl Go.IntKind.i64 (1 : Int) y4) - (1 : Int)) + y12_0))))
           else
            k0 (x0, x1, x2, x3, x4, x5, x6, x7, y4, Go.IntKind.i64.wrap (Go.IntKind.i64.wrap ((385 : Int) + Ev.ishl Go.IntKind.i64 (1 : Int) y4) - (1 : Int)), Go.IntKind.i64.wrap (Go.IntKind.i64.wrap ((385 : Int) + Ev.ishl Go.IntKind.i64 (1 : Int) y4) - (1 : Int))))
         (bif Decidable.decide (y4 < (0 : Int)) then
           none
          else
           bif x6 then
            (f165 (x7)
              (fun (y12_0, y12_1) =>
                k0 (x0, x1, x2, x3, x4, x5, x6, x7, y4, Go.IntKind.i64.wrap (Go.IntKind.i64.wrap ((385 : Int) + Ev.ishl Go.IntKind.i64 (1 : Int) y4) - (1 : Int)), Go.IntKind.i64.wrap (Go.IntKind.i64.wrap (Go.IntKind.i64.wrap ((385 : Int) + Ev.ishl Go.IntKind.i64 (1 : Int) y4) - (1 : Int)) + y12_0))))
           else
            k0 (x0, x1, x2, x3, x4, x5, x6, x7, y4, Go.IntKind.i64.wrap (Go.IntKind.i64.wrap ((385 : Int) + Ev.ishl Go.IntKind.i64 (1 : Int) y4) - (1 : Int)), Go.IntKind.i64.wrap (Go.IntKind.i64.wrap ((385 : Int) + Ev.ishl Go.IntKind.i64 (1 : Int) y4) - (1 : Int)))))))
   ((f50 (x8)
      (fun y4 =>
        bif Decidable.decide (y4 < (0 : Int)) then
         none
        else
         bif x6 then
          (f165 (x7)
            (fun (y10_0, y10_1) =>
              k0 (x0, x1, x2, x3, x4, x5, x6, x7, y4, Go.IntKind.i64.wrap (Go.IntKind.i64.wrap ((385 : Int) + Ev.ishl Go.IntKind.i64 (1 : Int) y4) - (1 : Int)), Go.IntKind.i64.wrap (Go.IntKind.i64.wrap (Go.IntKind.i64.wrap ((385 : Int) + Ev.ishl Go.IntKind.i64 (1 : Int) y4) - (1 : Int)) + y10_0))))
         else
          k0 (x0, x1, x2, x3, x4, x5, x6, x7, y4, Go.IntKind.i64.wrap (Go.IntKind.i64.wrap ((385 : Int) + Ev.ishl Go.IntKind.i64 (1 : Int) y4) - (1 : Int)), Go.IntKind.i64.wrap (Go.IntKind.i64.wrap ((385 : Int) + Ev.ishl Go.IntKind.i64 (1 : Int) y4) - (1 : Int))))))) (fun r => match r with | (r0, r1, r2, r3, r4, r5, r6, r7, r8, r9, r10) => k (.agg [.int .i64 r0, .int .i64 r1, .bool r2, .int .i64 r3, .int .i64 r4, .int .i64 r5, .bool r6, .int .i64 r7, .int .i64 r8, .int .i64 r9, .int .i64 r10], [])) := by
  kernel_rfl
theorem F78_eq (fuel : Nat) (x0 : Int) (x1 : Int) (x2 : Bool) (x3 : Int) (x4 : Int) (x5 : Int) (x6 : Bool) (x7 : Int) (x8 : Int) (k : Ev.Cont) : evalFn tab (G78 fuel) (J78 fuel) kp78 fuel Tryz.f78 [.agg [.int .i64 x0, .int .i64 x1, .bool x2, .int .i64 x3, .int .i64 x4, .int .i64 x5, .bool x6, .int .i64 x7], .c (.int .i64 x8)] [] k = F_text_lay fuel x0 x1 x2 x3 x4 x5 x6 x7 x8 (fun r => match r with | (r0, r1, r2, r3, r4, r5, r6, r7, r8, r9, r10) => k (.agg [.int .i64 r0, .int .i64 r1, .bool r2, .int .i64 r3, .int .i64 r4, .int .i64 r5, .bool r6, .int .i64 r7, .int .i64 r8, .int .i64 r9, .int .i64 r10], [])) :=
  F78_eqg fuel (F_number_Width fuel) (F_refine_Size fuel) x0 x1 x2 x3 x4 x5 x6 x7 x8 k
theorem hG78 (fuel : Nat) : GOK Tryz.prog (G78 fuel) :=
  gok_cons ⟨ok50 fuel, enters_of Tryz.func50 (by kernel_rfl) rfl⟩ <|
  gok_cons ⟨ok165 fuel, enters_of Tryz.func165 (by kernel_rfl) rfl⟩ <|
  gok_nil
theorem fok78 (fuel : Nat) : FnOK Tryz.prog 78 (evalFn tab (G78 fuel) (J78 fuel) kp78 fuel Tryz.f78) :=
  fn_ok tab_ok (hG78 fuel) mixed Tryz.func78 (c := (Tryz.f78.body).getD .skip) rfl (fun q hq => by
    rw [(by kernel_rfl : obl (J78 fuel) ((Tryz.f78.body).getD .skip) = [])] at hq
    cases hq)
noncomputable def mt78 : List Ev.SV → List Ev.Ob → Bool := fun args objs => match args, objs with
  | [.agg [.int .i64 _, .int .i64 _, .bool _, .int .i64 _, .int .i64 _, .int .i64 _, .bool _, .int .i64 _], .c (.int .i64 _)], [] => true
  | _, _ => false
noncomputable def spg78 (F : YF78) : Ev.Spec := fun args objs k => match args, objs with
  | [.agg [.int .i64 x0, .int .i64 x1, .bool x2, .int .i64 x3, .int .i64 x4, .int .i64 x5, .bool x6, .int .i64 x7], .c (.int .i64 x8)], [] => bif true then F x0 x1 x2 x3 x4 x5 x6 x7 x8 (fun r => match r with | (r0, r1, r2, r3, r4, r5, r6, r7, r8, r9, r10) => k (.agg [.int .i64 r0, .int .i64 r1, .bool r2, .int .i64 r3, .int .i64 r4, .int .i64 r5, .bool r6, .int .i64 r7, .int .i64 r8, .int .i64 r9, .int .i64 r10], [])) else none
  | _, _ => none
noncomputable def spec78 (fuel : Nat) : Ev.Spec := spg78 (F_text_lay fuel)
theorem ok78 (fuel : Nat) : FnOK Tryz.prog 78 (spec78 fuel) := by
  intro args objs kk r h
  unfold spec78 spg78 at h
  split at h
  · skip
    obtain ⟨hb, h⟩ := cond_some' h
    simp only [Bool.and_eq_true, Nat.beq_eq, decide_eq_true_eq] at hb
    clear hb
    exact fok78 fuel _ _ kk r ((F78_eq fuel _ _ _ _ _ _ _ _ _ kk).trans h)
  · cases h
end Go.Proofs.YtipdidpalcmlhaaGreat

set_option linter.unusedVariables false
set_option linter.unusedSimpArgs false
set_option maxRecDepth 100000
set_option maxHeartbeats 2000000
namespace Go.Proofs.YtipdidpalcmlhaaGreat
open Go Ev
def kp126_a20 (i : Nat) : Option (List Nat) := Ev.look i []
noncomputable def Gg126_a20 (f128_a20 : YF128_a20) (f204 : YF204) (f : Nat) : Option Ev.Spec := Ev.look f [(128, spg128_a20 f128_a20), (204, spg204 f204)]
noncomputable def G126_a20 (fuel : Nat) : Nat → Option Ev.Spec := Gg126_a20 (F_coder_Encoder_none_a20 fuel) (F_coder_clone fuel)
noncomputable def J126_a20 (fuel : Nat) (i : Nat) : Option Ev.Blk := Ev.look i []
noncomputable def F_coder_Encoder_Model_a20 (fuel : Nat) (x0 : Int) (x1 : Int) (x2 : Int) (x3 : Bool) (x4 : (List Int)) (x5 : (List Int)) (k0 : (Int × Int × Int × Int × Bool × (List Int) × (List Int) × (List Int)) → Option Ans) : Option Ans :=
  (F_coder_Encoder_none_a20 fuel (x0) (x1) (x2) (x3) (x4) (x5)
    (fun (y2_0, y2_1, y2_2, y2_3, y2_4, y2_5, y2_6) =>
      bif y2_0 then
       k0 ((0 : Int), y2_1, y2_2, y2_3, y2_4, y2_5, y2_6, [])
      else
       (F_coder_clone fuel (y2_1) (y2_5)
         (fun (y7_0, y7_1) =>
           k0 (y7_0, y2_1, y2_2, y2_3, y2_4, y2_5, y2_6, y7_1)))))
abbrev YF126_a20 : Type := (Int) → (Int) → (Int) → (Bool) → ((List Int)) → ((List Int)) → ((Int × Int × Int × Int × Bool × (List Int) × (List Int) × (List Int)) → Option Ans) → Option Ans
theorem F126_a20_eqg (fuel : Nat) (f128_a20 : YF128_a20) (f204 : YF204) (x0 : Int) (x1 : Int) (x2 : Int) (x3 : Bool) (x4 : (List Int)) (x5 : (List Int)) (k : Ev.Cont) : evalFn tab (Gg126_a20 f128_a20 f204) (J126_a20 fuel) kp126_a20 fuel Tryz.f126 [.c (.ptr 0 0)] [.cells 173 (.int .i64 x0 :: .own 1 :: .int .i64 2048 :: .int .i64 1792 :: .int .i64 1568 :: .int .i64 1372 :: .int .i64 1201 :: .int .i64 1051 :: .int .i64 920 :: .int .i64 805 :: .int .i64 705 :: .int .i64 617 :: .int .i64 540 :: .int .i64 473 :: .int .i64 414 :: .int .i64 363 :: .int .i64 318 :: .int .i64 279 :: .int .i64 245 :: .int .i64 215 :: .int .i64 189 :: .int .i64 166 :: .int .i64 146 :: .int .i64 128 :: .int .i64 112 :: .int .i64 98 :: .int .i64 86 :: .int .i64 76 :: .int .i64 67 :: .int .i64 59 :: .int .i64 52 :: .int .i64 46 :: .int .i64 41 :: .int .i64 36 :: .int .u64 x1 :: .int .u64 x2 :: .own 2 :: .bool x3 :: []), .vec 3 (.int .i64) x4 false, .vec 5 (.int .u8) x5 false] k = (fun  (k0 : (Int × Int × Int × Int × Bool × (List Int) × (List Int) × (List Int)) → Option Ans) =>
  (f128_a20 (x0) (x1) (x2) (x3) (x4) (x5)
    (fun (y2_0, y2_1, y2_2, y2_3, y2_4, y2_5, y2_6) =>
      bif y2_0 then
       k0 ((0 : Int), y2_1, y2_2, y2_3, y2_4, y2_5, y2_6, [])
      else
       (f204 (y2_1) (y2_5)
         (fun (y7_0, y7_1) =>
           k0 (y7_0, y2_1, y2_2, y2_3, y2_4, y2_5, y2_6, y7_1)))))) (fun r => match r with | (r0, r1, r2, r3, r4, r5, r6, r7) => k (.agg [.int .i64 r0, .own 3], [.cells 173 (.int .i64 r1 :: .own 1 :: .int .i64 2048 :: .int .i64 1792 :: .int .i64 1568 :: .int .i64 1372 :: .int .i64 1201 :: .int .i64 1051 :: .int .i64 920 :: .int .i64 805 :: .int .i64 705 :: .int .i64 617 :: .int .i64 540 :: .int .i64 473 :: .int .i64 414 :: .int .i64 363 :: .int .i64 318 :: .int .i64 279 :: .int .i64 245 :: .int .i64 215 :: .int .i64 189 :: .int .i64 166 :: .int .i64 146 :: .int .i64 128 :: .int .i64 112 :: .int .i64 98 :: .int .i64 86 :: .int .i64 76 :: .int .i64 67 :: .int .i64 59 :: .int .i64 52 :: .int .i64 46 :: .int .i64 41 :: .int .i64 36 :: .int .u64 r2 :: .int .u64 r3 :: .own 2 :: .bool r4 :: []), .vec 3 (.int .i64) r5 false, .vec 5 (.int .u8) r6 false, .vec 3 (.int .i64) r7 true])) := by
  kernel_rfl
theorem F126_a20_eq (fuel : Nat) (x0 : Int) (x1 : Int) (x2 : Int) (x3 : Bool) (x4 : (List Int)) (x5 : (List Int)) (k : Ev.Cont) : evalFn tab (G126_a20 fuel) (J126_a20 fuel) kp126_a20 fuel Tryz.f126 [.c (.ptr 0 0)] [.cells 173 (.int .i64 x0 :: .own 1 :: .int .i64 2048 :: .int .i64 1792 :: .int .i64 1568 :: .int .i64 1372 :: .int .i64 1201 :: .int .i64 1051 :: .int .i64 920 :: .int .i64 805 :: .int .i64 705 :: .int .i64 617 :: .int .i64 540 :: .int .i64 473 :: .int .i64 414 :: .int .i64 363 :: .int .i64 318 :: .int .i64 279 :: .int .i64 245 :: .int .i64 215 :: .int .i64 189 :: .int .i64 166 :: .int .i64 146 :: .int .i64 128 :: .int .i64 112 :: .int .i64 98 :: .int .i64 86 :: .int .i64 76 :: .int .i64 67 :: .int .i64 59 :: .int .i64 52 :: .int .i64 46 :: .int .i64 41 :: .int .i64 36 :: .int .u64 x1 :: .int .u64 x2 :: .own 2 :: .bool x3 :: []), .vec 3 (.int .i64) x4 false, .vec 5 (.int .u8) x5 false] k = F_coder_Encoder_Model_a20 fuel x0 x1 x2 x3 x4 x5 (fun r => match r with | (r0, r1, r2, r3, r4, r5, r6, r7) => k (.agg [.int .i64 r0, .own 3], [.cells 173 (.int .i64 r1 :: .own 1 :: .int .i64 2048 :: .int .i64 1792 :: .int .i64 1568 :: .int .i64 1372 :: .int .i64 1201 :: .int .i64 1051 :: .int .i64 920 :: .int .i64 805 :: .int .i64 705 :: .int .i64 617 :: .int .i64 540 :: .int .i64 473 :: .int .i64 414 :: .int .i64 363 :: .int .i64 318 :: .int .i64 279 :: .int .i64 245 :: .int .i64 215 :: .int .i64 189 :: .int .i64 166 :: .int .i64 146 :: .int .i64 128 :: .int .i64 112 :: .int .i64 98 :: .int .i64 86 :: .int .i64 76 :: .int .i64 67 :: .int .i64 59 :: .int .i64 52 :: .int .i64 46 :: .int .i64 41 :: .int .i64 36 :: .int .u64 r2 :: .int .u64 r3 :: .own 2 :: .bool r4 :: []), .vec 3 (.int .i64) r5 false, .vec 5 (.int .u8) r6 false, .vec 3 (.int .i64) r7 true])) :=
  F126_a20_eqg fuel (F_coder_Encoder_none_a20 fuel) (F_coder_clone fuel) x0 x1 x2 x3 x4 x5 k
theorem hG126_a20 (fuel : Nat) : GOK Tryz.prog (G126_a20 fuel) :=
  gok_cons ⟨ok128_a20 fuel, enters_of Tryz.func128 (by kernel_rfl) rfl⟩ <|
  gok_cons ⟨ok204 fuel, enters_of Tryz.func204 (by kernel_rfl) rfl⟩ <|
  gok_nil
theorem fok126_a20 (fuel : Nat) : FnOK Tryz.prog 126 (evalFn tab (G126_a20 fuel) (J126_a20 fuel) kp126_a20 fuel Tryz.f126) :=
  fn_ok tab_ok (hG126_a20 fuel) mixed Tryz.func126 (c := (Tryz.f126.body).getD .skip) rfl (fun q hq => by
    rw [(by kernel_rfl : obl (J126_a20 fuel) ((Tryz.f126.body).getD .skip) = [])] at hq
    cases hq)
noncomputable def mt126_a20 : List Ev.SV → List Ev.Ob → Bool := fun args objs => match args, objs with
  | [.c (.ptr q0 q1)], [.cells q2 cs0, .vec q3 (.int .i64) _ false, .vec q4 (.int .u8) _ false] => (match splitRun 2 [(.i64, 2048), (.i64, 1792), (.i64, 1568), (.i64, 1372), (.i64, 1201), (.i64, 1051), (.i64, 920), (.i64, 805), (.i64, 705), (.i64, 617), (.i64, 540), (.i64, 473), (.i64, 414), (.i64, 363), (.i64, 318), (.i64, 279), (.i64, 245), (.i64, 215), (.i64, 189), (.i64, 166), (.i64, 146), (.i64, 128), (.i64, 112), (.i64, 98), (.i64, 86), (.i64, 76), (.i64, 67), (.i64, 59), (.i64, 52), (.i64, 46), (.i64, 41), (.i64, 36)] cs0 with | some ([.int .i64 _, .own q5], [.int .u64 _, .int .u64 _, .own q6, .bool _]) => Nat.beq q0 0 && Nat.beq q1 0 && Nat.beq q2 173 && Nat.beq q3 3 && Nat.beq q4 5 && Nat.beq q5 1 && Nat.beq q6 2 | _ => false)
  | _, _ => false
noncomputable def spg126_a20 (F : YF126_a20) : Ev.Spec := fun args objs k => match args, objs with
  | [.c (.ptr q0 q1)], [.cells q2 cs0, .vec q3 (.int .i64) x4 false, .vec q4 (.int .u8) x5 false] => (match splitRun 2 [(.i64, 2048), (.i64, 1792), (.i64, 1568), (.i64, 1372), (.i64, 1201), (.i64, 1051), (.i64, 920), (.i64, 805), (.i64, 705), (.i64, 617), (.i64, 540), (.i64, 473), (.i64, 414), (.i64, 363), (.i64, 318), (.i64, 279), (.i64, 245), (.i64, 215), (.i64, 189), (.i64, 166), (.i64, 146), (.i64, 128), (.i64, 112), (.i64, 98), (.i64, 86), (.i64, 76), (.i64, 67), (.i64, 59), (.i64, 52), (.i64, 46), (.i64, 41), (.i64, 36)] cs0 with | some ([.int .i64 x0, .own q5], [.int .u64 x1, .int .u64 x2, .own q6, .bool x3]) => bif Nat.beq q0 0 && Nat.beq q1 0 && Nat.beq q2 173 && Nat.beq q3 3 && Nat.beq q4 5 && Nat.beq q5 1 && Nat.beq q6 2 then F x0 x1 x2 x3 x4 x5 (fun r => match r with | (r0, r1, r2, r3, r4, r5, r6, r7) => k (.agg [.int .i64 r0, .own 3], [.cells 173 (.int .i64 r1 :: .own 1 :: .int .i64 2048 :: .int .i64 1792 :: .int .i64 1568 :: .int .i64 1372 :: .int .i64 1201 :: .int .i64 1051 :: .int .i64 920 :: .int .i64 805 :: .int .i64 705 :: .int .i64 617 :: .int .i64 540 :: .int .i64 473 :: .int .i64 414 :: .int .i64 363 :: .int .i64 318 :: .int .i64 279 :: .int .i64 245 :: .int .i64 215 :: .int .i64 189 :: .int .i64 166 :: .int .i64 146 :: .int .i64 128 :: .int .i64 112 :: .int .i64 98 :: .int .i64 86 :: .int .i64 76 :: .int .i64 67 :: .int .i64 59 :: .int .i64 52 :: .int .i64 46 :: .int .i64 41 :: .int .i64 36 :: .int .u64 r2 :: .int .u64 r3 :: .own 2 :: .bool r4 :: []), .vec 3 (.int .i64) r5 false, .vec 5 (.int .u8) r6 false, .vec 3 (.int .i64) r7 true])) else none | _ => none)
  | _, _ => none
noncomputable def spec126_a20 (fuel : Nat) : Ev.Spec := spg126_a20 (F_coder_Encoder_Model_a20 fuel)
theorem ok126_a20 (fuel : Nat) : FnOK Tryz.prog 126 (spec126_a20 fuel) := by
  intro args objs kk r h
  unfold spec126_a20 spg126_a20 at h
  split at h
  · skip
    split at h
    rotate_left 1
    · cases h
    rename_i hsp
    have esp := splitRun_eq hsp
    subst esp
    obtain ⟨hb, h⟩ := cond_some' h
    simp only [Bool.and_eq_true, Nat.beq_eq, decide_eq_true_eq] at hb
    obtain ⟨⟨⟨⟨⟨⟨rfl, rfl⟩, rfl⟩, rfl⟩, rfl⟩, rfl⟩, rfl⟩ := hb
    exact fok126_a20 fuel _ _ kk r ((F126_a20_eq fuel _ _ _ _ _ _ kk).trans h)
  · cases h
end Go.Proofs.YtipdidpalcmlhaaGreat

set_option linter.unusedVariables false
set_option linter.unusedSimpArgs false
set_option maxRecDepth 100000
set_option maxHeartbeats 2000000
namespace Go.Proofs.YtipdidpalcmlhaaGreat
open Go Ev
def kp211_a20 (i : Nat) : Option (List Nat) := Ev.look i []
noncomputable def Gg211_a20 (f : Nat) : Option Ev.Spec := Ev.look f []
noncomputable def G211_a20 (fuel : Nat) : Nat → Option Ev.Spec := Gg211_a20
noncomputable def J211_a20 (fuel : Nat) (i : Nat) : Option Ev.Blk := Ev.look i []
noncomputable def F_coder_interval_lose_a20 (fuel : Nat) (x0 : Int) (x1 : Int) (x2 : Int) (x3 : Bool) (x4 : (List Int)) (x5 : (List Int)) (k0 : (Int × Int × Int × Int × Bool × (List Int) × (List Int)) → Option Ans) : Option Ans :=
  k0 (Go.IntKind.u8.wrap (Ev.ishr Go.IntKind.u64 x1 (24 : Int)), x0, Ev.iand Go.IntKind.u64 (Ev.ishl Go.IntKind.u64 x1 (8 : Int)) (4294967295 : Int), Ev.ior Go.IntKind.u64 (Ev.iand Go.IntKind.u64 (Ev.ishl Go.IntKind.u64 x2 (8 : Int)) (4294967295 : Int)) (255 : Int), x3, x4, x5)
abbrev YF211_a20 : Type := (Int) → (Int) → (Int) → (Bool) → ((List Int)) → ((List Int)) → ((Int × Int × Int × Int × Bool × (List Int) × (List Int)) → Option Ans) → Option Ans
theorem F211_a20_eq (fuel : Nat) (x0 : Int) (x1 : Int) (x2 : Int) (x3 : Bool) (x4 : (List Int)) (x5 : (List Int)) (k : Ev.Cont) : evalFn tab (G211_a20 fuel) (J211_a20 fuel) kp211_a20 fuel Tryz.f211 [.c (.ptr 0 0)] [.cells 173 (.int .i64 x0 :: .own 1 :: .int .i64 2048 :: .int .i64 1792 :: .int .i64 1568 :: .int .i64 1372 :: .int .i64 1201 :: .int .i64 1051 :: .int .i64 920 :: .int .i64 805 :: .int .i64 705 :: .int .i64 617 :: .int .i64 540 :: .int .i64 473 :: .int .i64 414 :: .int .i64 363 :: .int .i64 318 :: .int .i64 279 :: .int .i64 245 :: .int .i64 215 :: .int .i64 189 :: .int .i64 166 :: .int .i64 146 :: .int .i64 128 :: .int .i64 112 :: .int .i64 98 :: .int .i64 86 :: .int .i64 76 :: .int .i64 67 :: .int .i64 59 :: .int .i64 52 :: .int .i64 46 :: .int .i64 41 :: .int .i64 36 :: .int .u64 x1 :: .int .u64 x2 :: .own 2 :: .bool x3 :: []), .vec 3 (.int .i64) x4 false, .vec 5 (.int .u8) x5 false] k = F_coder_interval_lose_a20 fuel x0 x1 x2 x3 x4 x5 (fun r => match r with | (r0, r1, r2, r3, r4, r5, r6) => k (.c (.int .u8 r0), [.cells 173 (.int .i64 r1 :: .own 1 :: .int .i64 2048 :: .int .i64 1792 :: .int .i64 1568 :: .int .i64 1372 :: .int .i64 1201 :: .int .i64 1051 :: .int .i64 920 :: .int .i64 805 :: .int .i64 705 :: .int .i64 617 :: .int .i64 540 :: .int .i64 473 :: .int .i64 414 :: .int .i64 363 :: .int .i64 318 :: .int .i64 279 :: .int .i64 245 :: .int .i64 215 :: .int .i64 189 :: .int .i64 166 :: .int .i64 146 :: .int .i64 128 :: .int .i64 112 :: .int .i64 98 :: .int .i64 86 :: .int .i64 76 :: .int .i64 67 :: .int .i64 59 :: .int .i64 52 :: .int .i64 46 :: .int .i64 41 :: .int .i64 36 :: .int .u64 r2 :: .int .u64 r3 :: .own 2 :: .bool r4 :: []), .vec 3 (.int .i64) r5 false, .vec 5 (.int .u8) r6 false])) := by
  kernel_rfl
theorem hG211_a20 (fuel : Nat) : GOK Tryz.prog (G211_a20 fuel) :=
  gok_nil
theorem fok211_a20 (fuel : Nat) : FnOK Tryz.prog 211 (evalFn tab (G211_a20 fuel) (J211_a20 fuel) kp211_a20 fuel Tryz.f211) :=
  fn_ok tab_ok (hG211_a20 fuel) mixed Tryz.func211 (c := (Tryz.f211.body).getD .skip) rfl (fun q hq => by
    rw [(by kernel_rfl : obl (J211_a20 fuel) ((Tryz.f211.body).getD .skip) = [])] at hq
    cases hq)
noncomputable def mt211_a20 : List Ev.SV → List Ev.Ob → Bool := fun args objs => match args, objs with
  | [.c (.ptr q0 q1)], [.cells q2 cs0, .vec q3 (.int .i64) _ false, .vec q4 (.int .u8) _ false] => (match splitRun 2 [(.i64, 2048), (.i64, 1792), (.i64, 1568), (.i64, 1372), (.i64, 1201), (.i64, 1051), (.i64, 920), (.i64, 805), (.i64, 705), (.i64, 617), (.i64, 540), (.i64, 473), (.i64, 414), (.i64, 363), (.i64, 318), (.i64, 279), (.i64, 245), (.i64, 215), (.i64, 189), (.i64, 166), (.i64, 146), (.i64, 128), (.i64, 112), (.i64, 98), (.i64, 86), (.i64, 76), (.i64, 67), (.i64, 59), (.i64, 52), (.i64, 46), (.i64, 41), (.i64, 36)] cs0 with | some ([.int .i64 _, .own q5], [.int .u64 _, .int .u64 _, .own q6, .bool _]) => Nat.beq q0 0 && Nat.beq q1 0 && Nat.beq q2 173 && Nat.beq q3 3 && Nat.beq q4 5 && Nat.beq q5 1 && Nat.beq q6 2 | _ => false)
  | _, _ => false
noncomputable def spg211_a20 (F : YF211_a20) : Ev.Spec := fun args objs k => match args, objs with
  | [.c (.ptr q0 q1)], [.cells q2 cs0, .vec q3 (.int .i64) x4 false, .vec q4 (.int .u8) x5 false] => (match splitRun 2 [(.i64, 2048), (.i64, 1792), (.i64, 1568), (.i64, 1372), (.i64, 1201), (.i64, 1051), (.i64, 920), (.i64, 805), (.i64, 705), (.i64, 617), (.i64, 540), (.i64, 473), (.i64, 414), (.i64, 363), (.i64, 318), (.i64, 279), (.i64, 245), (.i64, 215), (.i64, 189), (.i64, 166), (.i64, 146), (.i64, 128), (.i64, 112), (.i64, 98), (.i64, 86), (.i64, 76), (.i64, 67), (.i64, 59), (.i64, 52), (.i64, 46), (.i64, 41), (.i64, 36)] cs0 with | some ([.int .i64 x0, .own q5], [.int .u64 x1, .int .u64 x2, .own q6, .bool x3]) => bif Nat.beq q0 0 && Nat.beq q1 0 && Nat.beq q2 173 && Nat.beq q3 3 && Nat.beq q4 5 && Nat.beq q5 1 && Nat.beq q6 2 then F x0 x1 x2 x3 x4 x5 (fun r => match r with | (r0, r1, r2, r3, r4, r5, r6) => k (.c (.int .u8 r0), [.cells 173 (.int .i64 r1 :: .own 1 :: .int .i64 2048 :: .int .i64 1792 :: .int .i64 1568 :: .int .i64 1372 :: .int .i64 1201 :: .int .i64 1051 :: .int .i64 920 :: .int .i64 805 :: .int .i64 705 :: .int .i64 617 :: .int .i64 540 :: .int .i64 473 :: .int .i64 414 :: .int .i64 363 :: .int .i64 318 :: .int .i64 279 :: .int .i64 245 :: .int .i64 215 :: .int .i64 189 :: .int .i64 166 :: .int .i64 146 :: .int .i64 128 :: .int .i64 112 :: .int .i64 98 :: .int .i64 86 :: .int .i64 76 :: .int .i64 67 :: .int .i64 59 :: .int .i64 52 :: .int .i64 46 :: .int .i64 41 :: .int .i64 36 :: .int .u64 r2 :: .int .u64 r3 :: .own 2 :: .bool r4 :: []), .vec 3 (.int .i64) r5 false, .vec 5 (.int .u8) r6 false])) else none | _ => none)
  | _, _ => none
noncomputable def spec211_a20 (fuel : Nat) : Ev.Spec := spg211_a20 (F_coder_interval_lose_a20 fuel)
theorem ok211_a20 (fuel : Nat) : FnOK Tryz.prog 211 (spec211_a20 fuel) := by
  intro args objs kk r h
  unfold spec211_a20 spg211_a20 at h
  split at h
  · skip
    split at h
    rotate_left 1
    · cases h
    rename_i hsp
    have esp := splitRun_eq hsp
    subst esp
    obtain ⟨hb, h⟩ := cond_some' h
    simp only [Bool.and_eq_true, Nat.beq_eq, decide_eq_true_eq] at hb
    obtain ⟨⟨⟨⟨⟨⟨rfl, rfl⟩, rfl⟩, rfl⟩, rfl⟩, rfl⟩, rfl⟩ := hb
    exact fok211_a20 fuel _ _ kk r ((F211_a20_eq fuel _ _ _ _ _ _ kk).trans h)
  · cases h
end Go.Proofs.YtipdidpalcmlhaaGreat

set_option linter.unusedVariables false
set_option linter.unusedSimpArgs false
set_option maxRecDepth 100000
set_option maxHeartbeats 2000000
namespace Go.Proofs.YtipdidpalcmlhaaGreat
open Go Ev
def kp247_bb9 (i : Nat) : Option (List Nat) := Ev.look i []
noncomputable def Gg247_bb9 (f : Nat) : Option Ev.Spec := Ev.look f []
noncomputable def G247_bb9 (fuel : Nat) : Nat → Option Ev.Spec := Gg247_bb9
noncomputable def J247_bb9 (fuel : Nat) (i : Nat) : Option Ev.Blk := Ev.look i []
noncomputable def F_coder_table_chance_bb9 (fuel : Nat) (x0 : Int) (x1 : Int) (k0 : (Int) → Option Ans) : Option Ans :=
  bif x0 == (1 : Int) then
   bif Decidable.decide (Go.IntKind.i64.wrap (Go.IntKind.i64.wrap (Go.IntKind.i64.wrap ((2 : Int) * Go.IntKind.i64.wrap (x1.tdiv (256 : Int))) + Go.IntKind.i64.wrap ((2 : Int) * x1.tmod (256 : Int))) + (2 : Int)) = (0 : Int)) then
    none
   else
    k0 (bif Decidable.decide ((4095 : Int) < bif Decidable.decide ((1 : Int) > Go.IntKind.i64.wrap ((Go.IntKind.i64.wrap (Go.IntKind.i64.wrap (Go.IntKind.i64.wrap ((2 : Int) * x1.tmod (256 : Int)) + (1 : Int)) * (4096 : Int))).tdiv (Go.IntKind.i64.wrap (Go.IntKind.i64.wrap (Go.IntKind.i64.wrap ((2 : Int) * Go.IntKind.i64.wrap (x1.tdiv (256 : Int))) + Go.IntKind.i64.wrap ((2 : Int) * x1.tmod (256 : Int))) + (2 : Int))))) then (1 : Int) else Go.IntKind.i64.wrap ((Go.IntKind.i64.wrap (Go.IntKind.i64.wrap (Go.IntKind.i64.wrap ((2 : Int) * x1.tmod (256 : Int)) + (1 : Int)) * (4096 : Int))).tdiv (Go.IntKind.i64.wrap (Go.IntKind.i64.wrap (Go.IntKind.i64.wrap ((2 : Int) * Go.IntKind.i64.wrap (x1.tdiv (256 : Int))) + Go.IntKind.i64.wrap ((2 : Int) * x1.tmod (256 : Int))) + (2 : Int))))) then (4095 : Int) else bif Decidable.decide ((1 : Int) > Go.IntKind.i64.wrap ((Go.IntKind.i64.wrap (Go.IntKind.i64.wrap (Go.IntKind.i64.wrap ((2 : Int) * x1.tmod (256 : Int)) + (1 : Int)) * (4096 : Int))).tdiv (Go.IntKind.i64.wrap (Go.IntKind.i64.wrap (Go.IntKind.i64.wrap ((2 : Int) * Go.IntKind.i64.wrap (x1.tdiv (256 : Int))) + Go.IntKind.i64.wrap ((2 : Int) * x1.tmod (256 : Int))) + (2 : Int))))) then (1 : Int) else Go.IntKind.i64.wrap ((Go.IntKind.i64.wrap (Go.IntKind.i64.wrap (Go.IntKind.i64.wrap ((2 : Int) * x1.tmod (256 : Int)) + (1 : Int)) * (4096 : Int))).tdiv (Go.IntKind.i64.wrap (Go.IntKind.i64.wrap (Go.IntKind.i64.wrap ((2 : Int) * Go.IntKind.i64.wrap (x1.tdiv (256 : Int))) + Go.IntKind.i64.wrap ((2 : Int) * x1.tmod (256 : Int))) + (2 : Int)))))
  else
   bif Decidable.decide (x1 ≥ (32 : Int)) then
    bif Decidable.decide ((0 : Int) ≤ Go.IntKind.i64.wrap (x1 - (32 : Int)) ∧ Go.IntKind.i64.wrap (x1 - (32 : Int)) < (↑(32 : Nat) : Int)) then
    bif Decidable.decide (Go.IntKind.i64.wrap (x1 - (32 : Int)) = (↑(0 : Nat) : Int)) then
      k0 (Go.IntKind.i64.wrap ((4096 : Int) - (2048 : Int)))
     else
      bif Decidable.decide (Go.IntKind.i64.wrap (x1 - (32 : Int)) = (↑(1 : Nat) : Int)) then
       k0 (Go.IntKind.i64.wrap ((4096 : Int) - (1792 : Int)))
      else
       bif Decidable.decide (Go.IntKind.i64.wrap (x1 - (32 : Int)) = (↑(2 : Nat) : Int)) then
        k0 (Go.IntKind.i64.wrap ((4096 : Int) - (1568 : Int)))
       else
        bif Decidable.decide (Go.IntKind.i64.wrap (x1 - (32 : Int)) = (↑(3 : Nat) : Int)) then
         k0 (Go.IntKind.i64.wrap ((4096 : Int) - (1372 : Int)))
        else
         bif Decidable.decide (Go.IntKind.i64.wrap (x1 - (32 : Int)) = (↑(4 : Nat) : Int)) then
          k0 (Go.IntKind.i64.wrap ((4096 : Int) - (1201 : Int)))
         else
          bif Decidable.decide (Go.IntKind.i64.wrap (x1 - (32 : Int)) = (↑(5 : Nat) : Int)) then
           k0 (Go.IntKind.i64.wrap ((4096 : Int) - (1051 : Int)))
          else
           bif Decidable.decide (Go.IntKind.i64.wrap (x1 - (32 : Int)) = (↑(6 : Nat) : Int)) then
            k0 (Go.IntKind.i64.wrap ((4096 : Int) - (920 : Int)))
           else
            bif Decidable.decide (Go.IntKind.i64.wrap (x1 - (32 : Int)) = (↑(7 : Nat) : Int)) then
             k0 (Go.IntKind.i64.wrap ((4096 : Int) - (805 : Int)))
            else
             bif Decidable.decide (Go.IntKind.i64.wrap (x1 - (32 : Int)) = (↑(8 : Nat) : Int)) then
              k0 (Go.IntKind.i64.wrap ((4096 : Int) - (705 : Int)))
             else
              bif Decidable.decide (Go.IntKind.i64.wrap (x1 - (32 : Int)) = (↑(9 : Nat) : Int)) then
               k0 (Go.IntKind.i64.wrap ((4096 : Int) - (617 : Int)))
              else
               bif Decidable.decide (Go.IntKind.i64.wrap (x1 - (32 : Int)) = (↑(10 : Nat) : Int)) then
                k0 (Go.IntKind.i64.wrap ((4096 : Int) - (540 : Int)))
               else
                bif Decidable.decide (Go.IntKind.i64.wrap (x1 - (32 : Int)) = (↑(11 : Nat) : Int)) then
                 k0 (Go.IntKind.i64.wrap ((4096 : Int) - (473 : Int)))
                else
                 bif Decidable.decide (Go.IntKind.i64.wrap (x1 - (32 : Int)) = (↑(12 : Nat) : Int)) then
                  k0 (Go.IntKind.i64.wrap ((4096 : Int) - (414 : Int)))
                 else
                  bif Decidable.decide (Go.IntKind.i64.wrap (x1 - (32 : Int)) = (↑(13 : Nat) : Int)) then
                   k0 (Go.IntKind.i64.wrap ((4096 : Int) - (363 : Int)))
                  else
                   bif Decidable.decide (Go.IntKind.i64.wrap (x1 - (32 : Int)) = (↑(14 : Nat) : Int)) then
                    k0 (Go.IntKind.i64.wrap ((4096 : Int) - (318 : Int)))
                   else
                    bif Decidable.decide (Go.IntKind.i64.wrap (x1 - (32 : Int)) = (↑(15 : Nat) : Int)) then
                     k0 (Go.IntKind.i64.wrap ((4096 : Int) - (279 : Int)))
                    else
                     bif Decidable.decide (Go.IntKind.i64.wrap (x1 - (32 : Int)) = (↑(16 : Nat) : Int)) then
                      k0 (Go.IntKind.i64.wrap ((4096 : Int) - (245 : Int)))
                     else
                      bif Decidable.decide (Go.IntKind.i64.wrap (x1 - (32 : Int)) = (↑(17 : Nat) : Int)) then
                       k0 (Go.IntKind.i64.wrap ((4096 : Int) - (215 : Int)))
                      else
                       bif Decidable.decide (Go.IntKind.i64.wrap (x1 - (32 : Int)) = (↑(18 : Nat) : Int)) then
                        k0 (Go.IntKind.i64.wrap ((4096 : Int) - (189 : Int)))
                       else
                        bif Decidable.decide (Go.IntKind.i64.wrap (x1 - (32 : Int)) = (↑(19 : Nat) : Int)) then
                         k0 (Go.IntKind.i64.wrap ((4096 : Int) - (166 : Int)))
                        else
                         bif Decidable.decide (Go.IntKind.i64.wrap (x1 - (32 : Int)) = (↑(20 : Nat) : Int)) then
                          k0 (Go.IntKind.i64.wrap ((4096 : Int) - (146 : Int)))
                         else
                          bif Decidable.decide (Go.IntKind.i64.wrap (x1 - (32 : Int)) = (↑(21 : Nat) : Int)) then
                           k0 (Go.IntKind.i64.wrap ((4096 : Int) - (128 : Int)))
                          else
                           bif Decidable.decide (Go.IntKind.i64.wrap (x1 - (32 : Int)) = (↑(22 : Nat) : Int)) then
                            k0 (Go.IntKind.i64.wrap ((4096 : Int) - (112 : Int)))
                           else
                            bif Decidable.decide (Go.IntKind.i64.wrap (x1 - (32 : Int)) = (↑(23 : Nat) : Int)) then
                             k0 (Go.IntKind.i64.wrap ((4096 : Int) - (98 : Int)))
                            else
                             bif Decidable.decide (Go.IntKind.i64.wrap (x1 - (32 : Int)) = (↑(24 : Nat) : Int)) then
                              k0 (Go.IntKind.i64.wrap ((4096 : Int) - (86 : Int)))
                             else
                              bif Decidable.decide (Go.IntKind.i64.wrap (x1 - (32 : Int)) = (↑(25 : Nat) : Int)) then
                               k0 (Go.IntKind.i64.wrap ((4096 : Int) - (76 : Int)))
                              else
                               bif Decidable.decide (Go.IntKind.i64.wrap (x1 - (32 : Int)) = (↑(26 : Nat) : Int)) then
                                k0 (Go.IntKind.i64.wrap ((4096 : Int) - (67 : Int)))
                               else
                                bif Decidable.decide (Go.IntKind.i64.wrap (x1 - (32 : Int)) = (↑(27 : Nat) : Int)) then
                                 k0 (Go.IntKind.i64.wrap ((4096 : Int) - (59 : Int)))
                                else
                                 bif Decidable.decide (Go.IntKind.i64.wrap (x1 - (32 : Int)) = (↑(28 : Nat) : Int)) then
                                  k0 (Go.IntKind.i64.wrap ((4096 : Int) - (52 : Int)))
                                 else
                                  bif Decidable.decide (Go.IntKind.i64.wrap (x1 - (32 : Int)) = (↑(29 : Nat) : Int)) then
                                   k0 (Go.IntKind.i64.wrap ((4096 : Int) - (46 : Int)))
                                  else
                                   bif Decidable.decide (Go.IntKind.i64.wrap (x1 - (32 : Int)) = (↑(30 : Nat) : Int)) then
                                    k0 (Go.IntKind.i64.wrap ((4096 : Int) - (41 : Int)))
                                   else
                                    bif Decidable.decide (Go.IntKind.i64.wrap (x1 - (32 : Int)) = (↑(31 : Nat) : Int)) then
                                    k0 (Go.IntKind.i64.wrap ((4096 : Int) - (36 : Int)))
                                    else none
    else none
   else
    bif Decidable.decide ((0 : Int) ≤ x1 ∧ x1 < (↑(32 : Nat) : Int)) then
    bif Decidable.decide (x1 = (↑(0 : Nat) : Int)) then
      k0 ((2048 : Int))
     else
      bif Decidable.decide (x1 = (↑(1 : Nat) : Int)) then
       k0 ((1792 : Int))
      else
       bif Decidable.decide (x1 = (↑(2 : Nat) : Int)) then
        k0 ((1568 : Int))
       else
        bif Decidable.decide (x1 = (↑(3 : Nat) : Int)) then
         k0 ((1372 : Int))
        else
         bif Decidable.decide (x1 = (↑(4 : Nat) : Int)) then
          k0 ((1201 : Int))
         else
          bif Decidable.decide (x1 = (↑(5 : Nat) : Int)) then
           k0 ((1051 : Int))
          else
           bif Decidable.decide (x1 = (↑(6 : Nat) : Int)) then
            k0 ((920 : Int))
           else
            bif Decidable.decide (x1 = (↑(7 : Nat) : Int)) then
             k0 ((805 : Int))
            else
             bif Decidable.decide (x1 = (↑(8 : Nat) : Int)) then
              k0 ((705 : Int))
             else
              bif Decidable.decide (x1 = (↑(9 : Nat) : Int)) then
               k0 ((617 : Int))
              else
               bif Decidable.decide (x1 = (↑(10 : Nat) : Int)) then
                k0 ((540 : Int))
               else
                bif Decidable.decide (x1 = (↑(11 : Nat) : Int)) then
                 k0 ((473 : Int))
                else
                 bif Decidable.decide (x1 = (↑(12 : Nat) : Int)) then
                  k0 ((414 : Int))
                 else
                  bif Decidable.decide (x1 = (↑(13 : Nat) : Int)) then
                   k0 ((363 : Int))
                  else
                   bif Decidable.decide (x1 = (↑(14 : Nat) : Int)) then
                    k0 ((318 : Int))
                   else
                    bif Decidable.decide (x1 = (↑(15 : Nat) : Int)) then
                     k0 ((279 : Int))
                    else
                     bif Decidable.decide (x1 = (↑(16 : Nat) : Int)) then
                      k0 ((245 : Int))
                     else
                      bif Decidable.decide (x1 = (↑(17 : Nat) : Int)) then
                       k0 ((215 : Int))
                      else
                       bif Decidable.decide (x1 = (↑(18 : Nat) : Int)) then
                        k0 ((189 : Int))
                       else
                        bif Decidable.decide (x1 = (↑(19 : Nat) : Int)) then
                         k0 ((166 : Int))
                        else
                         bif Decidable.decide (x1 = (↑(20 : Nat) : Int)) then
                          k0 ((146 : Int))
                         else
                          bif Decidable.decide (x1 = (↑(21 : Nat) : Int)) then
                           k0 ((128 : Int))
                          else
                           bif Decidable.decide (x1 = (↑(22 : Nat) : Int)) then
                            k0 ((112 : Int))
                           else
                            bif Decidable.decide (x1 = (↑(23 : Nat) : Int)) then
                             k0 ((98 : Int))
                            else
                             bif Decidable.decide (x1 = (↑(24 : Nat) : Int)) then
                              k0 ((86 : Int))
                             else
                              bif Decidable.decide (x1 = (↑(25 : Nat) : Int)) then
                               k0 ((76 : Int))
                              else
                               bif Decidable.decide (x1 = (↑(26 : Nat) : Int)) then
                                k0 ((67 : Int))
                               else
                                bif Decidable.decide (x1 = (↑(27 : Nat) : Int)) then
                                 k0 ((59 : Int))
                                else
                                 bif Decidable.decide (x1 = (↑(28 : Nat) : Int)) then
                                  k0 ((52 : Int))
                                 else
                                  bif Decidable.decide (x1 = (↑(29 : Nat) : Int)) then
                                   k0 ((46 : Int))
                                  else
                                   bif Decidable.decide (x1 = (↑(30 : Nat) : Int)) then
                                    k0 ((41 : Int))
                                   else
                                    bif Decidable.decide (x1 = (↑(31 : Nat) : Int)) then
                                    k0 ((36 : Int))
                                    else none
    else none
abbrev YF247_bb9 : Type := (Int) → (Int) → ((Int) → Option Ans) → Option Ans
theorem F247_bb9_eq (fuel : Nat) (x0 : Int) (x1 : Int) (k : Ev.Cont) : evalFn tab (G247_bb9 fuel) (J247_bb9 fuel) kp247_bb9 fuel Tryz.f247 [.agg (.int .i64 2048 :: .int .i64 1792 :: .int .i64 1568 :: .int .i64 1372 :: .int .i64 1201 :: .int .i64 1051 :: .int .i64 920 :: .int .i64 805 :: .int .i64 705 :: .int .i64 617 :: .int .i64 540 :: .int .i64 473 :: .int .i64 414 :: .int .i64 363 :: .int .i64 318 :: .int .i64 279 :: .int .i64 245 :: .int .i64 215 :: .int .i64 189 :: .int .i64 166 :: .int .i64 146 :: .int .i64 128 :: .int .i64 112 :: .int .i64 98 :: .int .i64 86 :: .int .i64 76 :: .int .i64 67 :: .int .i64 59 :: .int .i64 52 :: .int .i64 46 :: .int .i64 41 :: .int .i64 36 :: []), .c (.int .i64 x0), .c (.int .i64 x1)] [] k = F_coder_table_chance_bb9 fuel x0 x1 (fun r => match r with | r0 => k (.c (.int .i64 r0), [])) := by
  kernel_rfl
theorem hG247_bb9 (fuel : Nat) : GOK Tryz.prog (G247_bb9 fuel) :=
  gok_nil
theorem fok247_bb9 (fuel : Nat) : FnOK Tryz.prog 247 (evalFn tab (G247_bb9 fuel) (J247_bb9 fuel) kp247_bb9 fuel Tryz.f247) :=
  fn_ok tab_ok (hG247_bb9 fuel) mixed Tryz.func247 (c := (Tryz.f247.body).getD .skip) rfl (fun q hq => by
    rw [(by kernel_rfl : obl (J247_bb9 fuel) ((Tryz.f247.body).getD .skip) = [])] at hq
    cases hq)
noncomputable def mt247_bb9 : List Ev.SV → List Ev.Ob → Bool := fun args objs => match args, objs with
  | [.agg cs0, .c (.int .i64 _), .c (.int .i64 _)], [] => (match splitRun 0 [(.i64, 2048), (.i64, 1792), (.i64, 1568), (.i64, 1372), (.i64, 1201), (.i64, 1051), (.i64, 920), (.i64, 805), (.i64, 705), (.i64, 617), (.i64, 540), (.i64, 473), (.i64, 414), (.i64, 363), (.i64, 318), (.i64, 279), (.i64, 245), (.i64, 215), (.i64, 189), (.i64, 166), (.i64, 146), (.i64, 128), (.i64, 112), (.i64, 98), (.i64, 86), (.i64, 76), (.i64, 67), (.i64, 59), (.i64, 52), (.i64, 46), (.i64, 41), (.i64, 36)] cs0 with | some ([], []) => true | _ => false)
  | _, _ => false
noncomputable def spg247_bb9 (F : YF247_bb9) : Ev.Spec := fun args objs k => match args, objs with
  | [.agg cs0, .c (.int .i64 x0), .c (.int .i64 x1)], [] => (match splitRun 0 [(.i64, 2048), (.i64, 1792), (.i64, 1568), (.i64, 1372), (.i64, 1201), (.i64, 1051), (.i64, 920), (.i64, 805), (.i64, 705), (.i64, 617), (.i64, 540), (.i64, 473), (.i64, 414), (.i64, 363), (.i64, 318), (.i64, 279), (.i64, 245), (.i64, 215), (.i64, 189), (.i64, 166), (.i64, 146), (.i64, 128), (.i64, 112), (.i64, 98), (.i64, 86), (.i64, 76), (.i64, 67), (.i64, 59), (.i64, 52), (.i64, 46), (.i64, 41), (.i64, 36)] cs0 with | some ([], []) => bif true then F x0 x1 (fun r => match r with | r0 => k (.c (.int .i64 r0), [])) else none | _ => none)
  | _, _ => none
noncomputable def spec247_bb9 (fuel : Nat) : Ev.Spec := spg247_bb9 (F_coder_table_chance_bb9 fuel)
theorem ok247_bb9 (fuel : Nat) : FnOK Tryz.prog 247 (spec247_bb9 fuel) := by
  intro args objs kk r h
  unfold spec247_bb9 spg247_bb9 at h
  split at h
  · skip
    split at h
    rotate_left 1
    · cases h
    rename_i hsp
    have esp := splitRun_eq hsp
    subst esp
    obtain ⟨hb, h⟩ := cond_some' h
    simp only [Bool.and_eq_true, Nat.beq_eq, decide_eq_true_eq] at hb
    clear hb
    exact fok247_bb9 fuel _ _ kk r ((F247_bb9_eq fuel _ _ kk).trans h)
  · cases h
end Go.Proofs.YtipdidpalcmlhaaGreat

set_option linter.unusedVariables false
set_option linter.unusedSimpArgs false
set_option maxRecDepth 100000
set_option maxHeartbeats 2000000
namespace Go.Proofs.YtipdidpalcmlhaaGreat
open Go Ev
def kp209_402 (i : Nat) : Option (List Nat) := Ev.look i [(200001, [0])]
noncomputable def Gg209_402 (f247_bb9 : YF247_bb9) (f : Nat) : Option Ev.Spec := Ev.look f [(247, spg247_bb9 f247_bb9)]
noncomputable def G209_402 (fuel : Nat) : Nat → Option Ev.Spec := Gg209_402 (F_coder_table_chance_bb9 fuel)
noncomputable def J209_402 (fuel : Nat) (i : Nat) : Option Ev.Blk := Ev.look i []
noncomputable def F_coder_interval_mid_402 (fuel : Nat) (x0 : Int) (x1 : Int) (x2 : Int) (x3 : Int) (x4 : Bool) (x5 : (List Int)) (x6 : (List Int)) (k0 : (Int × Int × Int × Int × Bool × (List Int) × (List Int)) → Option Ans) : Option Ans :=
  bif Decidable.decide ((0 : Int) ≤ x0 ∧ x0 < (↑x5.length : Int)) then
  (F_coder_table_chance_bb9 fuel (x1) (x5.getD x0.toNat (0 : Int))
     (fun y3 =>
       k0 (Go.IntKind.u64.wrap (Go.IntKind.u64.wrap (x2 + Go.IntKind.u64.wrap (Go.IntKind.u64.wrap ((Go.IntKind.u64.wrap (x3 - x2)).tdiv (4096 : Int)) * Go.IntKind.u64.wrap y3)) + Go.IntKind.u64.wrap ((Go.IntKind.u64.wrap ((Go.IntKind.u64.wrap (x3 - x2)).tmod (4096 : Int) * Go.IntKind.u64.wrap y3)).tdiv (4096 : Int))), x1, x2, x3, x4, x5, x6)))
  else none
abbrev YF209_402 : Type := (Int) → (Int) → (Int) → (Int) → (Bool) → ((List Int)) → ((List Int)) → ((Int × Int × Int × Int × Bool × (List Int) × (List Int)) → Option Ans) → Option Ans
theorem F209_402_eqg (fuel : Nat) (f247_bb9 : YF247_bb9) (x0 : Int) (x1 : Int) (x2 : Int) (x3 : Int) (x4 : Bool) (x5 : (List Int)) (x6 : (List Int)) (k : Ev.Cont) : evalFn tab (Gg209_402 f247_bb9) (J209_402 fuel) kp209_402 fuel Tryz.f209 [.c (.ptr 0 0), .c (.int .i64 x0)] [.cells 173 (.int .i64 x1 :: .own 1 :: .int .i64 2048 :: .int .i64 1792 :: .int .i64 1568 :: .int .i64 1372 :: .int .i64 1201 :: .int .i64 1051 :: .int .i64 920 :: .int .i64 805 :: .int .i64 705 :: .int .i64 617 :: .int .i64 540 :: .int .i64 473 :: .int .i64 414 :: .int .i64 363 :: .int .i64 318 :: .int .i64 279 :: .int .i64 245 :: .int .i64 215 :: .int .i64 189 :: .int .i64 166 :: .int .i64 146 :: .int .i64 128 :: .int .i64 112 :: .int .i64 98 :: .int .i64 86 :: .int .i64 76 :: .int .i64 67 :: .int .i64 59 :: .int .i64 52 :: .int .i64 46 :: .int .i64 41 :: .int .i64 36 :: .int .u64 x2 :: .int .u64 x3 :: .own 2 :: .bool x4 :: []), .vec 3 (.int .i64) x5 false, .vec 5 (.int .u8) x6 false] k = (fun  (k0 : (Int × Int × Int × Int × Bool × (List Int) × (List Int)) → Option Ans) =>
  bif Decidable.decide ((0 : Int) ≤ x0 ∧ x0 < (↑x5.length : Int)) then
  (f247_bb9 (x1) (x5.getD x0.toNat (0 : Int))
     (fun y3 =>
       k0 (Go.IntKind.u64.wrap (Go.IntKind.u64.wrap (x2 + Go.IntKind.u64.wrap (Go.IntKind.u64.wrap ((Go.IntKind.u64.wrap (x3 - x2)).tdiv (4096 : Int)) * Go.IntKind.u64.wrap y3)) + Go.IntKind.u64.wrap ((Go.IntKind.u64.wrap ((Go.IntKind.u64.wrap (x3 - x2)).tmod (4096 : Int) * Go.IntKind.u64.wrap y3)).tdiv (4096 : Int))), x1, x2, x3, x4, x5, x6)))
  else none) (fun r => match r with | (r0, r1, r2, r3, r4, r5, r6) => k (.c (.int .u64 r0), [.cells 173 (.int .i64 r1 :: .own 1 :: .int .i64 2048 :: .int .i64 1792 :: .int .i64 1568 :: .int .i64 1372 :: .int .i64 1201 :: .int .i64 1051 :: .int .i64 920 :: .int .i64 805 :: .int .i64 705 :: .int .i64 617 :: .int .i64 540 :: .int .i64 473 :: .int .i64 414 :: .int .i64 363 :: .int .i64 318 :: .int .i64 279 :: .int .i64 245 :: .int .i64 215 :: .int .i64 189 :: .int .i64 166 :: .int .i64 146 :: .int .i64 128 :: .int .i64 112 :: .int .i64 98 :: .int .i64 86 :: .int .i64 76 :: .int .i64 67 :: .int .i64 59 :: .int .i64 52 :: .int .i64 46 :: .int .i64 41 :: .int .i64 36 :: .int .u64 r2 :: .int .u64 r3 :: .own 2 :: .bool r4 :: []), .vec 3 (.int .i64) r5 false, .vec 5 (.int .u8) r6 false])) := by
  kernel_rfl
theorem F209_402_eq (fuel : Nat) (x0 : Int) (x1 : Int) (x2 : Int) (x3 : Int) (x4 : Bool) (x5 : (List Int)) (x6 : (List Int)) (k : Ev.Cont) : evalFn tab (G209_402 fuel) (J209_402 fuel) kp209_402 fuel Tryz.f209 [.c (.ptr 0 0), .c (.int .i64 x0)] [.cells 173 (.int .i64 x1 :: .own 1 :: .int .i64 2048 :: .int .i64 1792 :: .int .i64 1568 :: .int .i64 1372 :: .int .i64 1201 :: .int .i64 1051 :: .int .i64 920 :: .int .i64 805 :: .int .i64 705 :: .int .i64 617 :: .int .i64 540 :: .int .i64 473 :: .int .i64 414 :: .int .i64 363 :: .int .i64 318 :: .int .i64 279 :: .int .i64 245 :: .int .i64 215 :: .int .i64 189 :: .int .i64 166 :: .int .i64 146 :: .int .i64 128 :: .int .i64 112 :: .int .i64 98 :: .int .i64 86 :: .int .i64 76 :: .int .i64 67 :: .int .i64 59 :: .int .i64 52 :: .int .i64 46 :: .int .i64 41 :: .int .i64 36 :: .int .u64 x2 :: .int .u64 x3 :: .own 2 :: .bool x4 :: []), .vec 3 (.int .i64) x5 false, .vec 5 (.int .u8) x6 false] k = F_coder_interval_mid_402 fuel x0 x1 x2 x3 x4 x5 x6 (fun r => match r with | (r0, r1, r2, r3, r4, r5, r6) => k (.c (.int .u64 r0), [.cells 173 (.int .i64 r1 :: .own 1 :: .int .i64 2048 :: .int .i64 1792 :: .int .i64 1568 :: .int .i64 1372 :: .int .i64 1201 :: .int .i64 1051 :: .int .i64 920 :: .int .i64 805 :: .int .i64 705 :: .int .i64 617 :: .int .i64 540 :: .int .i64 473 :: .int .i64 414 :: .int .i64 363 :: .int .i64 318 :: .int .i64 279 :: .int .i64 245 :: .int .i64 215 :: .int .i64 189 :: .int .i64 166 :: .int .i64 146 :: .int .i64 128 :: .int .i64 112 :: .int .i64 98 :: .int .i64 86 :: .int .i64 76 :: .int .i64 67 :: .int .i64 59 :: .int .i64 52 :: .int .i64 46 :: .int .i64 41 :: .int .i64 36 :: .int .u64 r2 :: .int .u64 r3 :: .own 2 :: .bool r4 :: []), .vec 3 (.int .i64) r5 false, .vec 5 (.int .u8) r6 false])) :=
  F209_402_eqg fuel (F_coder_table_chance_bb9 fuel) x0 x1 x2 x3 x4 x5 x6 k
theorem hG209_402 (fuel : Nat) : GOK Tryz.prog (G209_402 fuel) :=
  gok_cons ⟨ok247_bb9 fuel, enters_of Tryz.func247 (by kernel_rfl) rfl⟩ <|
  gok_nil
theorem fok209_402 (fuel : Nat) : FnOK Tryz.prog 209 (evalFn tab (G209_402 fuel) (J209_402 fuel) kp209_402 fuel Tryz.f209) :=
  fn_ok tab_ok (hG209_402 fuel) mixed Tryz.func209 (c := (Tryz.f209.body).getD .skip) rfl (fun q hq => by
    rw [(by kernel_rfl : obl (J209_402 fuel) ((Tryz.f209.body).getD .skip) = [])] at hq
    cases hq)
noncomputable def mt209_402 : List Ev.SV → List Ev.Ob → Bool := fun args objs => match args, objs with
  | [.c (.ptr q0 q1), .c (.int .i64 _)], [.cells q2 cs0, .vec q3 (.int .i64) _ false, .vec q4 (.int .u8) _ false] => (match splitRun 2 [(.i64, 2048), (.i64, 1792), (.i64, 1568), (.i64, 1372), (.i64, 1201), (.i64, 1051), (.i64, 920), (.i64, 805), (.i64, 705), (.i64, 617), (.i64, 540), (.i64, 473), (.i64, 414), (.i64, 363), (.i64, 318), (.i64, 279), (.i64, 245), (.i64, 215), (.i64, 189), (.i64, 166), (.i64, 146), (.i64, 128), (.i64, 112), (.i64, 98), (.i64, 86), (.i64, 76), (.i64, 67), (.i64, 59), (.i64, 52), (.i64, 46), (.i64, 41), (.i64, 36)] cs0 with | some ([.int .i64 _, .own q5], [.int .u64 _, .int .u64 _, .own q6, .bool _]) => Nat.beq q0 0 && Nat.beq q1 0 && Nat.beq q2 173 && Nat.beq q3 3 && Nat.beq q4 5 && Nat.beq q5 1 && Nat.beq q6 2 | _ => false)
  | _, _ => false
noncomputable def spg209_402 (F : YF209_402) : Ev.Spec := fun args objs k => match args, objs with
  | [.c (.ptr q0 q1), .c (.int .i64 x0)], [.cells q2 cs0, .vec q3 (.int .i64) x5 false, .vec q4 (.int .u8) x6 false] => (match splitRun 2 [(.i64, 2048), (.i64, 1792), (.i64, 1568), (.i64, 1372), (.i64, 1201), (.i64, 1051), (.i64, 920), (.i64, 805), (.i64, 705), (.i64, 617), (.i64, 540), (.i64, 473), (.i64, 414), (.i64, 363), (.i64, 318), (.i64, 279), (.i64, 245), (.i64, 215), (.i64, 189), (.i64, 166), (.i64, 146), (.i64, 128), (.i64, 112), (.i64, 98), (.i64, 86), (.i64, 76), (.i64, 67), (.i64, 59), (.i64, 52), (.i64, 46), (.i64, 41), (.i64, 36)] cs0 with | some ([.int .i64 x1, .own q5], [.int .u64 x2, .int .u64 x3, .own q6, .bool x4]) => bif Nat.beq q0 0 && Nat.beq q1 0 && Nat.beq q2 173 && Nat.beq q3 3 && Nat.beq q4 5 && Nat.beq q5 1 && Nat.beq q6 2 then F x0 x1 x2 x3 x4 x5 x6 (fun r => match r with | (r0, r1, r2, r3, r4, r5, r6) => k (.c (.int .u64 r0), [.cells 173 (.int .i64 r1 :: .own 1 :: .int .i64 2048 :: .int .i64 1792 :: .int .i64 1568 :: .int .i64 1372 :: .int .i64 1201 :: .int .i64 1051 :: .int .i64 920 :: .int .i64 805 :: .int .i64 705 :: .int .i64 617 :: .int .i64 540 :: .int .i64 473 :: .int .i64 414 :: .int .i64 363 :: .int .i64 318 :: .int .i64 279 :: .int .i64 245 :: .int .i64 215 :: .int .i64 189 :: .int .i64 166 :: .int .i64 146 :: .int .i64 128 :: .int .i64 112 :: .int .i64 98 :: .int .i64 86 :: .int .i64 76 :: .int .i64 67 :: .int .i64 59 :: .int .i64 52 :: .int .i64 46 :: .int .i64 41 :: .int .i64 36 :: .int .u64 r2 :: .int .u64 r3 :: .own 2 :: .bool r4 :: []), .vec 3 (.int .i64) r5 false, .vec 5 (.int .u8) r6 false])) else none | _ => none)
  | _, _ => none
noncomputable def spec209_402 (fuel : Nat) : Ev.Spec := spg209_402 (F_coder_interval_mid_402 fuel)
theorem ok209_402 (fuel : Nat) : FnOK Tryz.prog 209 (spec209_402 fuel) := by
  intro args objs kk r h
  unfold spec209_402 spg209_402 at h
  split at h
  · skip
    split at h
    rotate_left 1
    · cases h
    rename_i hsp
    have esp := splitRun_eq hsp
    subst esp
    obtain ⟨hb, h⟩ := cond_some' h
    simp only [Bool.and_eq_true, Nat.beq_eq, decide_eq_true_eq] at hb
    obtain ⟨⟨⟨⟨⟨⟨rfl, rfl⟩, rfl⟩, rfl⟩, rfl⟩, rfl⟩, rfl⟩ := hb
    exact fok209_402 fuel _ _ kk r ((F209_402_eq fuel _ _ _ _ _ _ _ kk).trans h)
  · cases h
end Go.Proofs.YtipdidpalcmlhaaGreat

set_option linter.unusedVariables false
set_option linter.unusedSimpArgs false
set_option maxRecDepth 100000
set_option maxHeartbeats 2000000
namespace Go.Proofs.YtipdidpalcmlhaaGreat
open Go Ev
def kp210_a20 (i : Nat) : Option (List Nat) := Ev.look i [(200001, [0])]
noncomputable def Gg210_a20 (f : Nat) : Option Ev.Spec := Ev.look f []
noncomputable def G210_a20 (fuel : Nat) : Nat → Option Ev.Spec := Gg210_a20
noncomputable def J210_a20 (fuel : Nat) (i : Nat) : Option Ev.Blk := Ev.look i []
noncomputable def F_coder_interval_same_a20 (fuel : Nat) (x0 : Int) (x1 : Int) (x2 : Int) (x3 : Bool) (x4 : (List Int)) (x5 : (List Int)) (k0 : (Bool × Int × Int × Int × Bool × (List Int) × (List Int)) → Option Ans) : Option Ans :=
  k0 (Ev.ishr Go.IntKind.u64 x1 (24 : Int) == Ev.ishr Go.IntKind.u64 x2 (24 : Int), x0, x1, x2, x3, x4, x5)
abbrev YF210_a20 : Type := (Int) → (Int) → (Int) → (Bool) → ((List Int)) → ((List Int)) → ((Bool × Int × Int × Int × Bool × (List Int) × (List Int)) → Option Ans) → Option Ans
theorem F210_a20_eq (fuel : Nat) (x0 : Int) (x1 : Int) (x2 : Int) (x3 : Bool) (x4 : (List Int)) (x5 : (List Int)) (k : Ev.Cont) : evalFn tab (G210_a20 fuel) (J210_a20 fuel) kp210_a20 fuel Tryz.f210 [.c (.ptr 0 0)] [.cells 173 (.int .i64 x0 :: .own 1 :: .int .i64 2048 :: .int .i64 1792 :: .int .i64 1568 :: .int .i64 1372 :: .int .i64 1201 :: .int .i64 1051 :: .int .i64 920 :: .int .i64 805 :: .int .i64 705 :: .int .i64 617 :: .int .i64 540 :: .int .i64 473 :: .int .i64 414 :: .int .i64 363 :: .int .i64 318 :: .int .i64 279 :: .int .i64 245 :: .int .i64 215 :: .int .i64 189 :: .int .i64 166 :: .int .i64 146 :: .int .i64 128 :: .int .i64 112 :: .int .i64 98 :: .int .i64 86 :: .int .i64 76 :: .int .i64 67 :: .int .i64 59 :: .int .i64 52 :: .int .i64 46 :: .int .i64 41 :: .int .i64 36 :: .int .u64 x1 :: .int .u64 x2 :: .own 2 :: .bool x3 :: []), .vec 3 (.int .i64) x4 false, .vec 5 (.int .u8) x5 false] k = F_coder_interval_same_a20 fuel x0 x1 x2 x3 x4 x5 (fun r => match r with | (r0, r1, r2, r3, r4, r5, r6) => k (.c (.bool r0), [.cells 173 (.int .i64 r1 :: .own 1 :: .int .i64 2048 :: .int .i64 1792 :: .int .i64 1568 :: .int .i64 1372 :: .int .i64 1201 :: .int .i64 1051 :: .int .i64 920 :: .int .i64 805 :: .int .i64 705 :: .int .i64 617 :: .int .i64 540 :: .int .i64 473 :: .int .i64 414 :: .int .i64 363 :: .int .i64 318 :: .int .i64 279 :: .int .i64 245 :: .int .i64 215 :: .int .i64 189 :: .int .i64 166 :: .int .i64 146 :: .int .i64 128 :: .int .i64 112 :: .int .i64 98 :: .int .i64 86 :: .int .i64 76 :: .int .i64 67 :: .int .i64 59 :: .int .i64 52 :: .int .i64 46 :: .int .i64 41 :: .int .i64 36 :: .int .u64 r2 :: .int .u64 r3 :: .own 2 :: .bool r4 :: []), .vec 3 (.int .i64) r5 false, .vec 5 (.int .u8) r6 false])) := by
  kernel_rfl
theorem hG210_a20 (fuel : Nat) : GOK Tryz.prog (G210_a20 fuel) :=
  gok_nil
theorem fok210_a20 (fuel : Nat) : FnOK Tryz.prog 210 (evalFn tab (G210_a20 fuel) (J210_a20 fuel) kp210_a20 fuel Tryz.f210) :=
  fn_ok tab_ok (hG210_a20 fuel) mixed Tryz.func210 (c := (Tryz.f210.body).getD .skip) rfl (fun q hq => by
    rw [(by kernel_rfl : obl (J210_a20 fuel) ((Tryz.f210.body).getD .skip) = [])] at hq
    cases hq)
noncomputable def mt210_a20 : List Ev.SV → List Ev.Ob → Bool := fun args objs => match args, objs with
  | [.c (.ptr q0 q1)], [.cells q2 cs0, .vec q3 (.int .i64) _ false, .vec q4 (.int .u8) _ false] => (match splitRun 2 [(.i64, 2048), (.i64, 1792), (.i64, 1568), (.i64, 1372), (.i64, 1201), (.i64, 1051), (.i64, 920), (.i64, 805), (.i64, 705), (.i64, 617), (.i64, 540), (.i64, 473), (.i64, 414), (.i64, 363), (.i64, 318), (.i64, 279), (.i64, 245), (.i64, 215), (.i64, 189), (.i64, 166), (.i64, 146), (.i64, 128), (.i64, 112), (.i64, 98), (.i64, 86), (.i64, 76), (.i64, 67), (.i64, 59), (.i64, 52), (.i64, 46), (.i64, 41), (.i64, 36)] cs0 with | some ([.int .i64 _, .own q5], [.int .u64 _, .int .u64 _, .own q6, .bool _]) => Nat.beq q0 0 && Nat.beq q1 0 && Nat.beq q2 173 && Nat.beq q3 3 && Nat.beq q4 5 && Nat.beq q5 1 && Nat.beq q6 2 | _ => false)
  | _, _ => false
noncomputable def spg210_a20 (F : YF210_a20) : Ev.Spec := fun args objs k => match args, objs with
  | [.c (.ptr q0 q1)], [.cells q2 cs0, .vec q3 (.int .i64) x4 false, .vec q4 (.int .u8) x5 false] => (match splitRun 2 [(.i64, 2048), (.i64, 1792), (.i64, 1568), (.i64, 1372), (.i64, 1201), (.i64, 1051), (.i64, 920), (.i64, 805), (.i64, 705), (.i64, 617), (.i64, 540), (.i64, 473), (.i64, 414), (.i64, 363), (.i64, 318), (.i64, 279), (.i64, 245), (.i64, 215), (.i64, 189), (.i64, 166), (.i64, 146), (.i64, 128), (.i64, 112), (.i64, 98), (.i64, 86), (.i64, 76), (.i64, 67), (.i64, 59), (.i64, 52), (.i64, 46), (.i64, 41), (.i64, 36)] cs0 with | some ([.int .i64 x0, .own q5], [.int .u64 x1, .int .u64 x2, .own q6, .bool x3]) => bif Nat.beq q0 0 && Nat.beq q1 0 && Nat.beq q2 173 && Nat.beq q3 3 && Nat.beq q4 5 && Nat.beq q5 1 && Nat.beq q6 2 then F x0 x1 x2 x3 x4 x5 (fun r => match r with | (r0, r1, r2, r3, r4, r5, r6) => k (.c (.bool r0), [.cells 173 (.int .i64 r1 :: .own 1 :: .int .i64 2048 :: .int .i64 1792 :: .int .i64 1568 :: .int .i64 1372 :: .int .i64 1201 :: .int .i64 1051 :: .int .i64 920 :: .int .i64 805 :: .int .i64 705 :: .int .i64 617 :: .int .i64 540 :: .int .i64 473 :: .int .i64 414 :: .int .i64 363 :: .int .i64 318 :: .int .i64 279 :: .int .i64 245 :: .int .i64 215 :: .int .i64 189 :: .int .i64 166 :: .int .i64 146 :: .int .i64 128 :: .int .i64 112 :: .int .i64 98 :: .int .i64 86 :: .int .i64 76 :: .int .i64 67 :: .int .i64 59 :: .int .i64 52 :: .int .i64 46 :: .int .i64 41 :: .int .i64 36 :: .int .u64 r2 :: .int .u64 r3 :: .own 2 :: .bool r4 :: []), .vec 3 (.int .i64) r5 false, .vec 5 (.int .u8) r6 false])) else none | _ => none)
  | _, _ => none
noncomputable def spec210_a20 (fuel : Nat) : Ev.Spec := spg210_a20 (F_coder_interval_same_a20 fuel)
theorem ok210_a20 (fuel : Nat) : FnOK Tryz.prog 210 (spec210_a20 fuel) := by
  intro args objs kk r h
  unfold spec210_a20 spg210_a20 at h
  split at h
  · skip
    split at h
    rotate_left 1
    · cases h
    rename_i hsp
    have esp := splitRun_eq hsp
    subst esp
    obtain ⟨hb, h⟩ := cond_some' h
    simp only [Bool.and_eq_true, Nat.beq_eq, decide_eq_true_eq] at hb
    obtain ⟨⟨⟨⟨⟨⟨rfl, rfl⟩, rfl⟩, rfl⟩, rfl⟩, rfl⟩, rfl⟩ := hb
    exact fok210_a20 fuel _ _ kk r ((F210_a20_eq fuel _ _ _ _ _ _ kk).trans h)
  · cases h
end Go.Proofs.YtipdidpalcmlhaaGreat

set_option linter.unusedVariables false
set_option linter.unusedSimpArgs false
set_option maxRecDepth 100000
set_option maxHeartbeats 2000000
namespace Go.Proofs.YtipdidpalcmlhaaGreat
open Go Ev
def kp246 (i : Nat) : Option (List Nat) := Ev.look i []
noncomputable def Gg246 (f : Nat) : Option Ev.Spec := Ev.look f []
noncomputable def G246 (fuel : Nat) : Nat → Option Ev.Spec := Gg246
noncomputable def J246 (fuel : Nat) (i : Nat) : Option Ev.Blk := Ev.look i []
noncomputable def F_coder_next (fuel : Nat) (x0 : Int) (x1 : Int) (x2 : Int) (k0 : (Int) → Option Ans) : Option Ans :=
  bif x0 == (1 : Int) then
   bif Decidable.decide ((0 : Int) ≤ x2 ∧ x2 < (↑(2 : Nat) : Int)) then
   bif Decidable.decide (x2 = (↑(0 : Nat) : Int)) then
     bif Go.IntKind.i64.wrap (x1.tdiv (256 : Int)) == (255 : Int) then
      bif Decidable.decide ((0 : Int) ≤ x2 ∧ x2 < (↑(2 : Nat) : Int)) then
      bif Decidable.decide (x2 = (↑(0 : Nat) : Int)) then
        bif Decidable.decide ((0 : Int) ≤ x2 ∧ x2 < (↑(2 : Nat) : Int)) then
        bif Decidable.decide (x2 = (↑(0 : Nat) : Int)) then
          k0 (Go.IntKind.i64.wrap (Go.IntKind.i64.wrap ((256 : Int) * Go.IntKind.i64.wrap (Go.IntKind.i64.wrap ((Go.IntKind.i64.wrap (x1.tdiv (256 : Int))).tdiv (2 : Int)) + (1 : Int))) + Go.IntKind.i64.wrap ((x1.tmod (256 : Int)).tdiv (2 : Int))))
         else
          bif Decidable.decide (x2 = (↑(1 : Nat) : Int)) then
          k0 (Go.IntKind.i64.wrap (Go.IntKind.i64.wrap ((256 : Int) * Go.IntKind.i64.wrap ((Go.IntKind.i64.wrap (x1.tdiv (256 : Int))).tdiv (2 : Int))) + Go.IntKind.i64.wrap (Go.IntKind.i64.wrap ((Go.IntKind.i64.wrap (x1.tdiv (256 : Int))).tdiv (2 : Int)) + (1 : Int))))
          else none
        else none
       else
        bif Decidable.decide (x2 = (↑(1 : Nat) : Int)) then
        bif Decidable.decide ((0 : Int) ≤ x2 ∧ x2 < (↑(2 : Nat) : Int)) then
         bif Decidable.decide (x2 = (↑(0 : Nat) : Int)) then
           k0 (Go.IntKind.i64.wrap (Go.IntKind.i64.wrap ((256 : Int) * Go.IntKind.i64.wrap (Go.IntKind.i64.wrap ((x1.tmod (256 : Int)).tdiv (2 : Int)) + (1 : Int))) + Go.IntKind.i64.wrap ((x1.tmod (256 : Int)).tdiv (2 : Int))))
          else
           bif Decidable.decide (x2 = (↑(1 : Nat) : Int)) then
           k0 (Go.IntKind.i64.wrap (Go.IntKind.i64.wrap ((256 : Int) * Go.IntKind.i64.wrap ((Go.IntKind.i64.wrap (x1.tdiv (256 : Int))).tdiv (2 : Int))) + Go.IntKind.i64.wrap (Go.IntKind.i64.wrap ((x1.tmod (256 : Int)).tdiv (2 : Int)) + (1 : Int))))
           else none
         else none
        else none
      else none
     else
      bif Decidable.decide ((0 : Int) ≤ x2 ∧ x2 < (↑(2 : Nat) : Int)) then
      bif Decidable.decide (x2 = (↑(0 : Nat) : Int)) then
        bif Decidable.decide ((0 : Int) ≤ x2 ∧ x2 < (↑(2 : Nat) : Int)) then
        bif Decidable.decide (x2 = (↑(0 : Nat) : Int)) then
          k0 (Go.IntKind.i64.wrap (Go.IntKind.i64.wrap ((256 : Int) * Go.IntKind.i64.wrap (Go.IntKind.i64.wrap (x1.tdiv (256 : Int)) + (1 : Int))) + x1.tmod (256 : Int)))
         else
          bif Decidable.decide (x2 = (↑(1 : Nat) : Int)) then
          k0 (Go.IntKind.i64.wrap (Go.IntKind.i64.wrap ((256 : Int) * Go.IntKind.i64.wrap (x1.tdiv (256 : Int))) + Go.IntKind.i64.wrap (Go.IntKind.i64.wrap (x1.tdiv (256 : Int)) + (1 : Int))))
          else none
        else none
       else
        bif Decidable.decide (x2 = (↑(1 : Nat) : Int)) then
        bif Decidable.decide ((0 : Int) ≤ x2 ∧ x2 < (↑(2 : Nat) : Int)) then
         bif Decidable.decide (x2 = (↑(0 : Nat) : Int)) then
           k0 (Go.IntKind.i64.wrap (Go.IntKind.i64.wrap ((256 : Int) * Go.IntKind.i64.wrap (x1.tmod (256 : Int) + (1 : Int))) + x1.tmod (256 : Int)))
          else
           bif Decidable.decide (x2 = (↑(1 : Nat) : Int)) then
           k0 (Go.IntKind.i64.wrap (Go.IntKind.i64.wrap ((256 : Int) * Go.IntKind.i64.wrap (x1.tdiv (256 : Int))) + Go.IntKind.i64.wrap (x1.tmod (256 : Int) + (1 : Int))))
           else none
         else none
        else none
      else none
    else
     bif Decidable.decide (x2 = (↑(1 : Nat) : Int)) then
     bif x1.tmod (256 : Int) == (255 : Int) then
       bif Decidable.decide ((0 : Int) ≤ x2 ∧ x2 < (↑(2 : Nat) : Int)) then
       bif Decidable.decide (x2 = (↑(0 : Nat) : Int)) then
         bif Decidable.decide ((0 : Int) ≤ x2 ∧ x2 < (↑(2 : Nat) : Int)) then
         bif Decidable.decide (x2 = (↑(0 : Nat) : Int)) then
           k0 (Go.IntKind.i64.wrap (Go.IntKind.i64.wrap ((256 : Int) * Go.IntKind.i64.wrap (Go.IntKind.i64.wrap ((Go.IntKind.i64.wrap (x1.tdiv (256 : Int))).tdiv (2 : Int)) + (1 : Int))) + Go.IntKind.i64.wrap ((x1.tmod (256 : Int)).tdiv (2 : Int))))
          else
           bif Decidable.decide (x2 = (↑(1 : Nat) : Int)) then
           k0 (Go.IntKind.i64.wrap (Go.IntKind.i64.wrap ((256 : Int) * Go.IntKind.i64.wrap ((Go.IntKind.i64.wrap (x1.tdiv (256 : Int))).tdiv (2 : Int))) + Go.IntKind.i64.wrap (Go.IntKind.i64.wrap ((Go.IntKind.i64.wrap (x1.tdiv (256 : Int))).tdiv (2 : Int)) + (1 : Int))))
           else none
         else none
        else
         bif Decidable.decide (x2 = (↑(1 : Nat) : Int)) then
         bif Decidable.decide ((0 : Int) ≤ x2 ∧ x2 < (↑(2 : Nat) : Int)) then
          bif Decidable.decide (x2 = (↑(0 : Nat) : Int)) then
            k0 (Go.IntKind.i64.wrap (Go.IntKind.i64.wrap ((256 : Int) * Go.IntKind.i64.wrap (Go.IntKind.i64.wrap ((x1.tmod (256 : Int)).tdiv (2 : Int)) + (1 : Int))) + Go.IntKind.i64.wrap ((x1.tmod (256 : Int)).tdiv (2 : Int))))
           else
            bif Decidable.decide (x2 = (↑(1 : Nat) : Int)) then
            k0 (Go.IntKind.i64.wrap (Go.IntKind.i64.wrap ((256 : Int) * Go.IntKind.i64.wrap ((Go.IntKind.i64.wrap (x1.tdiv (256 : Int))).tdiv (2 : Int))) + Go.IntKind.i64.wrap (Go.IntKind.i64.wrap ((x1.tmod (256 : Int)).tdiv (2 : Int)) + (1 : Int))))
            else none
          else none
         else none
       else none
      else
       bif Decidable.decide ((0 : Int) ≤ x2 ∧ x2 < (↑(2 : Nat) : Int)) then
       bif Decidable.decide (x2 = (↑(0 : Nat) : Int)) then
         bif Decidable.decide ((0 : Int) ≤ x2 ∧ x2 < (↑(2 : Nat) : Int)) then
         bif Decidable.decide (x2 = (↑(0 : Nat) : Int)) then
           k0 (Go.IntKind.i64.wrap (Go.IntKind.i64.wrap ((256 : Int) * Go.IntKind.i64.wrap (Go.IntKind.i64.wrap (x1.tdiv (256 : Int)) + (1 : Int))) + x1.tmod (256 : Int)))
          else
           bif Decidable.decide (x2 = (↑(1 : Nat) : Int)) then
           k0 (Go.IntKind.i64.wrap (Go.IntKind.i64.wrap ((256 : Int) * Go.IntKind.i64.wrap (x1.tdiv (256 : Int))) + Go.IntKind.i64.wrap (Go.IntKind.i64.wrap (x1.tdiv (256 : Int)) + (1 : Int))))
           else none
         else none
        else
         bif Decidable.decide (x2 = (↑(1 : Nat) : Int)) then
         bif Decidable.decide ((0 : Int) ≤ x2 ∧ x2 < (↑(2 : Nat) : Int)) then
          bif Decidable.decide (x2 = (↑(0 : Nat) : Int)) then
            k0 (Go.IntKind.i64.wrap (Go.IntKind.i64.wrap ((256 : Int) * Go.IntKind.i64.wrap (x1.tmod (256 : Int) + (1 : Int))) + x1.tmod (256 : Int)))
           else
            bif Decidable.decide (x2 = (↑(1 : Nat) : Int)) then
            k0 (Go.IntKind.i64.wrap (Go.IntKind.i64.wrap ((256 : Int) * Go.IntKind.i64.wrap (x1.tdiv (256 : Int))) + Go.IntKind.i64.wrap (x1.tmod (256 : Int) + (1 : Int))))
            else none
          else none
         else none
       else none
     else none
   else none
  else
   bif x2 == Go.IntKind.i64.wrap (x1.tdiv (32 : Int)) then
    k0 (Go.IntKind.i64.wrap (Go.IntKind.i64.wrap ((32 : Int) * Go.IntKind.i64.wrap (x1.tdiv (32 : Int))) + bif Decidable.decide ((31 : Int) < Go.IntKind.i64.wrap (x1.tmod (32 : Int) + (1 : Int))) then (31 : Int) else Go.IntKind.i64.wrap (x1.tmod (32 : Int) + (1 : Int))))
   else
    bif x1.tmod (32 : Int) == (0 : Int) then
     k0 (Go.IntKind.i64.wrap (Go.IntKind.i64.wrap ((32 : Int) * x2) + x1.tmod (32 : Int)))
    else
     k0 (Go.IntKind.i64.wrap (Go.IntKind.i64.wrap ((32 : Int) * Go.IntKind.i64.wrap (x1.tdiv (32 : Int))) + Go.IntKind.i64.wrap (x1.tmod (32 : Int) - Go.IntKind.i64.wrap ((1 : Int) + Go.IntKind.i64.wrap ((x1.tmod (32 : Int)).tdiv (4 : Int))))))
abbrev YF246 : Type := (Int) → (Int) → (Int) → ((Int) → Option Ans) → Option Ans
theorem F246_eq (fuel : Nat) (x0 : Int) (x1 : Int) (x2 : Int) (k : Ev.Cont) : evalFn tab (G246 fuel) (J246 fuel) kp246 fuel Tryz.f246 [.c (.int .i64 x0), .c (.int .i64 x1), .c (.int .i64 x2)] [] k = F_coder_next fuel x0 x1 x2 (fun r => match r with | r0 => k (.c (.int .i64 r0), [])) := by
  kernel_rfl
theorem hG246 (fuel : Nat) : GOK Tryz.prog (G246 fuel) :=
  gok_nil
theorem fok246 (fuel : Nat) : FnOK Tryz.prog 246 (evalFn tab (G246 fuel) (J246 fuel) kp246 fuel Tryz.f246) :=
  fn_ok tab_ok (hG246 fuel) mixed Tryz.func246 (c := (Tryz.f246.body).getD .skip) rfl (fun q hq => by
    rw [(by kernel_rfl : obl (J246 fuel) ((Tryz.f246.body).getD .skip) = [])] at hq
    cases hq)
noncomputable def mt246 : List Ev.SV → List Ev.Ob → Bool := fun args objs => match args, objs with
  | [.c (.int .i64 _), .c (.int .i64 _), .c (.int .i64 _)], [] => true
  | _, _ => false
noncomputable def spg246 (F : YF246) : Ev.Spec := fun args objs k => match args, objs with
  | [.c (.int .i64 x0), .c (.int .i64 x1), .c (.int .i64 x2)], [] => bif true then F x0 x1 x2 (fun r => match r with | r0 => k (.c (.int .i64 r0), [])) else none
  | _, _ => none
noncomputable def spec246 (fuel : Nat) : Ev.Spec := spg246 (F_coder_next fuel)
theorem ok246 (fuel : Nat) : FnOK Tryz.prog 246 (spec246 fuel) := by
  intro args objs kk r h
  unfold spec246 spg246 at h
  split at h
  · skip
    obtain ⟨hb, h⟩ := cond_some' h
    simp only [Bool.and_eq_true, Nat.beq_eq, decide_eq_true_eq] at hb
    clear hb
    exact fok246 fuel _ _ kk r ((F246_eq fuel _ _ _ kk).trans h)
  · cases h
end Go.Proofs.YtipdidpalcmlhaaGreat

