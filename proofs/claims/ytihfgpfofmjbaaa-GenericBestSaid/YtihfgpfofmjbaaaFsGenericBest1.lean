/- What the functions that GenericBest reaches do: their typed texts, each with the proof that the machine does it. No condition. -/
import Derived.Test.YtihfgpfofmjbaaaEvX
set_option linter.unusedVariables false
set_option linter.unusedSimpArgs false
set_option linter.unusedVariables false
set_option linter.unusedSimpArgs false
set_option maxRecDepth 100000
set_option maxHeartbeats 2000000
namespace Go.Proofs.Ytihfgpfofmjbaaa
open Go Ev
def kp159 (i : Nat) : Option (List Nat) := Ev.look i []
noncomputable def Gg159 (f : Nat) : Option Ev.Spec := Ev.look f []
noncomputable def G159 (fuel : Nat) : Nat → Option Ev.Spec := Gg159
noncomputable def J159 (fuel : Nat) (i : Nat) : Option Ev.Blk := Ev.look i []
noncomputable def F_bitmap_fits (fuel : Nat) (x0 : Int) (x1 : Int) (k0 : (Bool) → Option Ans) : Option Ans :=
  bif Decidable.decide (x0 ≥ (0 : Int)) then
   bif Decidable.decide (x1 ≥ (0 : Int)) then
    bif Decidable.decide (x0 ≤ (200 : Int)) then
     bif Decidable.decide (x1 ≤ (200 : Int)) then
      k0 (Decidable.decide (Go.IntKind.i64.wrap (x0 * x1) ≤ (8192 : Int)))
     else
      k0 Bool.false
    else
     k0 Bool.false
   else
    k0 Bool.false
  else
   k0 Bool.false
abbrev YF159 : Type := (Int) → (Int) → ((Bool) → Option Ans) → Option Ans
theorem F159_eq (fuel : Nat) (x0 : Int) (x1 : Int) (k : Ev.Cont) : evalFn tab (G159 fuel) (J159 fuel) kp159 fuel Try.f159 [.c (.int .i64 x0), .c (.int .i64 x1)] [] k = F_bitmap_fits fuel x0 x1 (fun r => match r with | r0 => k (.c (.bool r0), [])) := by
  kernel_rfl
theorem hG159 (fuel : Nat) : GOK Try.prog (G159 fuel) :=
  gok_nil
theorem fok159 (fuel : Nat) : FnOK Try.prog 159 (evalFn tab (G159 fuel) (J159 fuel) kp159 fuel Try.f159) :=
  fn_ok tab_ok (hG159 fuel) mixed Try.func159 (c := (Try.f159.body).getD .skip) rfl (fun q hq => by
    rw [(by kernel_rfl : obl (J159 fuel) ((Try.f159.body).getD .skip) = [])] at hq
    cases hq)
noncomputable def mt159 : List Ev.SV → List Ev.Ob → Bool := fun args objs => match args, objs with
  | [.c (.int .i64 _), .c (.int .i64 _)], [] => true
  | _, _ => false
noncomputable def spg159 (F : YF159) : Ev.Spec := fun args objs k => match args, objs with
  | [.c (.int .i64 x0), .c (.int .i64 x1)], [] => bif true then F x0 x1 (fun r => match r with | r0 => k (.c (.bool r0), [])) else none
  | _, _ => none
noncomputable def spec159 (fuel : Nat) : Ev.Spec := spg159 (F_bitmap_fits fuel)
theorem ok159 (fuel : Nat) : FnOK Try.prog 159 (spec159 fuel) := by
  intro args objs kk r h
  unfold spec159 spg159 at h
  split at h
  · skip
    obtain ⟨hb, h⟩ := cond_some' h
    simp only [Bool.and_eq_true, Nat.beq_eq, decide_eq_true_eq] at hb
    clear hb
    exact fok159 fuel _ _ kk r ((F159_eq fuel _ _ kk).trans h)
  · cases h
end Go.Proofs.Ytihfgpfofmjbaaa

set_option linter.unusedVariables false
set_option linter.unusedSimpArgs false
set_option maxRecDepth 100000
set_option maxHeartbeats 2000000
namespace Go.Proofs.Ytihfgpfofmjbaaa
open Go Ev
def kp89 (i : Nat) : Option (List Nat) := Ev.look i [(4, [23, 24, 25]), (100000, []), (400000, [2])]
noncomputable def Gg89 (f159 : YF159) (f : Nat) : Option Ev.Spec := Ev.look f [(159, spg159 f159)]
noncomputable def G89 (fuel : Nat) : Nat → Option Ev.Spec := Gg89 (F_bitmap_fits fuel)
noncomputable def S_bitmap_Valid_0 (fuel : Nat) (v : (List Int) × Int × Int) (c : ((List Int) × Int × Int) → Option Ans) (B : (Bool → Option Ans) × (Unit → Option Ans)) : Option Ans := match v, B with
  | (x0, x1, x2), (ret, b) =>
   bif Decidable.decide (x2 < x1) then
      bif Decidable.decide ((0 : Int) ≤ x2 ∧ x2 < (↑x0.length : Int)) then
      bif Decidable.decide (x0.getD x2.toNat (0 : Int) > (1 : Int)) then
        ret Bool.false
       else
        c (x0, x1, Go.IntKind.i64.wrap (x2 + (1 : Int)))
      else none
     else
      b ()
noncomputable def L_bitmap_Valid_0 (fuel : Nat) (v : (List Int) × Int × Int) (ret : (Bool → Option Ans)) (b : (Unit → Option Ans)) : Option Ans := iter (S_bitmap_Valid_0 fuel) fuel v (ret, b)
noncomputable def J89_0 (fuel : Nat) (i : Nat) : Option Ev.Blk := Ev.look i []
noncomputable def T89_0 (v : (List Int) × Int × Int) : Ev.St := match v with | (x0, x1, x2) => ⟨[(23, .c (.sl (.int .u8) x0)), (24, .c (.int .i64 x1)), (25, .c (.int .i64 x2))], [], 0, 0⟩
noncomputable def E89_0 (K : Ev.Ex → Ev.St → Option Ans) : (Bool → Option Ans) × (Unit → Option Ans) := ((fun v => match v with | x0 => K .ret ⟨[(2, .c (.bool x0))], [], 0, 0⟩), (fun v => match v with | () => K .normal ⟨[], [], 0, 0⟩))
theorem S89_0_okg (fuel : Nat) (f159 : YF159) (R : Ev.St → Option Ans) (K : Ev.Ex → Ev.St → Option Ans) (x0 : (List Int)) (x1 : Int) (x2 : Int) : evalCode tab (Gg89 f159) (J89_0 fuel) kp89 fuel (bodyOf 0 Try.f89) (T89_0 (x0, x1, x2)) (lc kp89 4 0 R K) = (fun (c : ((List Int) × Int × Int) → Option Ans) (B : (Bool → Option Ans) × (Unit → Option Ans)) => match B with
  | (ret, b) =>
   bif Decidable.decide (x2 < x1) then
      bif Decidable.decide ((0 : Int) ≤ x2 ∧ x2 < (↑x0.length : Int)) then
      bif Decidable.decide (x0.getD x2.toNat (0 : Int) > (1 : Int)) then
        ret Bool.false
       else
        c (x0, x1, Go.IntKind.i64.wrap (x2 + (1 : Int)))
      else none
     else
      b ()) (fun v => R (T89_0 v)) (E89_0 K) := by
  kernel_rfl
theorem S89_0_ok (fuel : Nat) (R : Ev.St → Option Ans) (K : Ev.Ex → Ev.St → Option Ans) (x0 : (List Int)) (x1 : Int) (x2 : Int) : evalCode tab (G89 fuel) (J89_0 fuel) kp89 fuel (bodyOf 0 Try.f89) (T89_0 (x0, x1, x2)) (lc kp89 4 0 R K) = S_bitmap_Valid_0 fuel (x0, x1, x2) (fun v => R (T89_0 v)) (E89_0 K) :=
  S89_0_okg fuel (F_bitmap_fits fuel) R K x0 x1 x2
noncomputable def B89_0 (fuel : Nat) : Ev.Blk := fun st K => match canonO (kp89 4) st with
  | some s => (match s with
    | ⟨[(q0, .c (.sl (.int .u8) x0)), (q1, .c (.int .i64 x1)), (q2, .c (.int .i64 x2))], [], q3, q4⟩ => bif Nat.beq q0 23 && Nat.beq q1 24 && Nat.beq q2 25 && Nat.beq q3 0 && Nat.beq q4 0 then iter (S_bitmap_Valid_0 fuel) fuel (x0, x1, x2) (E89_0 K) else none
    | _ => none)
  | none => none
theorem B89_0_ok (fuel : Nat) (st : Ev.St) (K : Ev.Ex → Ev.St → Option Ans) (r : Ans) (h : B89_0 fuel st K = some r) : evalCode tab (G89 fuel) (J89_0 fuel) kp89 fuel (.block 0 (.loop (bodyOf 0 Try.f89))) st K = some r := by
  unfold B89_0 at h
  split at h
  · rename_i s hs
    split at h
    · skip
      obtain ⟨hb, h⟩ := cond_some' h
      simp only [Bool.and_eq_true, Nat.beq_eq, decide_eq_true_eq] at hb
      obtain ⟨⟨⟨⟨rfl, rfl⟩, rfl⟩, rfl⟩, rfl⟩ := hb
      exact blk_loop (S := T89_0) (ks := E89_0) (step := S_bitmap_Valid_0 fuel) (v := (_, _, _)) (by kernel_rfl) (by kernel_rfl) (fun R K v => by obtain ⟨x0, x1, x2⟩ := v; exact S89_0_ok fuel R K x0 x1 x2) hs h
    · cases h
  · cases h
noncomputable def J89 (fuel : Nat) (i : Nat) : Option Ev.Blk := Ev.look i [(100000, B89_0 fuel)]
noncomputable def F_bitmap_Valid (fuel : Nat) (x0 : Int) (x1 : Int) (x2 : (List Int)) (k0 : (Bool) → Option Ans) : Option Ans :=
  (F_bitmap_fits fuel (x0) (x1)
    (fun y2 =>
      bif !y2 then
       k0 Bool.false
      else
       bif (↑x2.length : Int) != Go.IntKind.i64.wrap (x0 * x1) then
        k0 Bool.false
       else
        (L_bitmap_Valid_0 fuel (x2, (↑x2.length : Int), (0 : Int))
          (fun ret0_0 =>
            k0 ret0_0)
          (fun () =>
            k0 Bool.true))))
abbrev YF89 : Type := (Int) → (Int) → ((List Int)) → ((Bool) → Option Ans) → Option Ans
theorem F89_eqg (fuel : Nat) (f159 : YF159) (x0 : Int) (x1 : Int) (x2 : (List Int)) (k : Ev.Cont) : evalFn tab (Gg89 f159) (J89 fuel) kp89 fuel Try.f89 [.agg [.int .i64 x0, .int .i64 x1, .sl (.int .u8) x2]] [] k = (fun  (k0 : (Bool) → Option Ans) =>
  (f159 (x0) (x1)
    (fun y2 =>
      bif !y2 then
       k0 Bool.false
      else
       bif (↑x2.length : Int) != Go.IntKind.i64.wrap (x0 * x1) then
        k0 Bool.false
       else
        (L_bitmap_Valid_0 fuel (x2, (↑x2.length : Int), (0 : Int))
          (fun ret0_0 =>
            k0 ret0_0)
          (fun () =>
            k0 Bool.true))))) (fun r => match r with | r0 => k (.c (.bool r0), [])) := by
  kernel_rfl
theorem F89_eq (fuel : Nat) (x0 : Int) (x1 : Int) (x2 : (List Int)) (k : Ev.Cont) : evalFn tab (G89 fuel) (J89 fuel) kp89 fuel Try.f89 [.agg [.int .i64 x0, .int .i64 x1, .sl (.int .u8) x2]] [] k = F_bitmap_Valid fuel x0 x1 x2 (fun r => match r with | r0 => k (.c (.bool r0), [])) :=
  F89_eqg fuel (F_bitmap_fits fuel) x0 x1 x2 k
theorem hG89 (fuel : Nat) : GOK Try.prog (G89 fuel) :=
  gok_cons ⟨ok159 fuel, enters_of Try.func159 (by kernel_rfl) rfl⟩ <|
  gok_nil
theorem B89_0_blk (fuel : Nat) : BlkOK Try.prog Try.f89.ntmps (.block 0 (.loop (bodyOf 0 Try.f89))) (B89_0 fuel) :=
  blk_of (blk_of_code tab_ok (hG89 fuel) mixed (J := J89_0 fuel) (kp := kp89) (fuel := fuel) (by kernel_rfl) (fun q hq => by
    rw [(by kernel_rfl : obl (J89_0 fuel) (.block 0 (.loop (bodyOf 0 Try.f89))) = [])] at hq
    cases hq)) (B89_0_ok fuel)
theorem fok89 (fuel : Nat) : FnOK Try.prog 89 (evalFn tab (G89 fuel) (J89 fuel) kp89 fuel Try.f89) :=
  fn_ok tab_ok (hG89 fuel) mixed Try.func89 (c := (Try.f89.body).getD .skip) rfl (fun q hq => by
    rw [(by kernel_rfl : obl (J89 fuel) ((Try.f89.body).getD .skip) = [(.block 0 (.loop (bodyOf 0 Try.f89)), B89_0 fuel)])] at hq
    simp only [List.mem_cons, List.not_mem_nil, or_false] at hq
    subst hq
    · exact B89_0_blk fuel)
noncomputable def mt89 : List Ev.SV → List Ev.Ob → Bool := fun args objs => match args, objs with
  | [.agg [.int .i64 _, .int .i64 _, .sl (.int .u8) _]], [] => true
  | _, _ => false
noncomputable def spg89 (F : YF89) : Ev.Spec := fun args objs k => match args, objs with
  | [.agg [.int .i64 x0, .int .i64 x1, .sl (.int .u8) x2]], [] => bif true then F x0 x1 x2 (fun r => match r with | r0 => k (.c (.bool r0), [])) else none
  | _, _ => none
noncomputable def spec89 (fuel : Nat) : Ev.Spec := spg89 (F_bitmap_Valid fuel)
theorem ok89 (fuel : Nat) : FnOK Try.prog 89 (spec89 fuel) := by
  intro args objs kk r h
  unfold spec89 spg89 at h
  split at h
  · skip
    obtain ⟨hb, h⟩ := cond_some' h
    simp only [Bool.and_eq_true, Nat.beq_eq, decide_eq_true_eq] at hb
    clear hb
    exact fok89 fuel _ _ kk r ((F89_eq fuel _ _ _ kk).trans h)
  · cases h
end Go.Proofs.Ytihfgpfofmjbaaa

set_option linter.unusedVariables false
set_option linter.unusedSimpArgs false
set_option maxRecDepth 100000
set_option maxHeartbeats 2000000
namespace Go.Proofs.Ytihfgpfofmjbaaa
open Go Ev
def kp164_975 (i : Nat) : Option (List Nat) := Ev.look i []
noncomputable def Gg164_975 (f : Nat) : Option Ev.Spec := Ev.look f []
noncomputable def G164_975 (fuel : Nat) : Nat → Option Ev.Spec := Gg164_975
noncomputable def J164_975 (fuel : Nat) (i : Nat) : Option Ev.Blk := Ev.look i []
noncomputable def F_coder_Encoder_none_975 (fuel : Nat)  (k0 : (Bool) → Option Ans) : Option Ans :=
  k0 Bool.true
abbrev YF164_975 : Type := ((Bool) → Option Ans) → Option Ans
theorem F164_975_eq (fuel : Nat)  (k : Ev.Cont) : evalFn tab (G164_975 fuel) (J164_975 fuel) kp164_975 fuel Try.f164 [.c (.nilptr)] [] k = F_coder_Encoder_none_975 fuel  (fun r => match r with | r0 => k (.c (.bool r0), [])) := by
  kernel_rfl
theorem hG164_975 (fuel : Nat) : GOK Try.prog (G164_975 fuel) :=
  gok_nil
theorem fok164_975 (fuel : Nat) : FnOK Try.prog 164 (evalFn tab (G164_975 fuel) (J164_975 fuel) kp164_975 fuel Try.f164) :=
  fn_ok tab_ok (hG164_975 fuel) mixed Try.func164 (c := (Try.f164.body).getD .skip) rfl (fun q hq => by
    rw [(by kernel_rfl : obl (J164_975 fuel) ((Try.f164.body).getD .skip) = [])] at hq
    cases hq)
noncomputable def mt164_975 : List Ev.SV → List Ev.Ob → Bool := fun args objs => match args, objs with
  | [.c (.nilptr)], [] => true
  | _, _ => false
noncomputable def spg164_975 (F : YF164_975) : Ev.Spec := fun args objs k => match args, objs with
  | [.c (.nilptr)], [] => bif true then F  (fun r => match r with | r0 => k (.c (.bool r0), [])) else none
  | _, _ => none
noncomputable def spec164_975 (fuel : Nat) : Ev.Spec := spg164_975 (F_coder_Encoder_none_975 fuel)
theorem ok164_975 (fuel : Nat) : FnOK Try.prog 164 (spec164_975 fuel) := by
  intro args objs kk r h
  unfold spec164_975 spg164_975 at h
  split at h
  · skip
    obtain ⟨hb, h⟩ := cond_some' h
    simp only [Bool.and_eq_true, Nat.beq_eq, decide_eq_true_eq] at hb
    clear hb
    exact fok164_975 fuel _ _ kk r ((F164_975_eq fuel kk).trans h)
  · cases h
end Go.Proofs.Ytihfgpfofmjbaaa

set_option linter.unusedVariables false
set_option linter.unusedSimpArgs false
set_option maxRecDepth 100000
set_option maxHeartbeats 2000000
namespace Go.Proofs.Ytihfgpfofmjbaaa
open Go Ev
def kp92_975 (i : Nat) : Option (List Nat) := Ev.look i [(5, [0, 3, 15]), (10, [0, 3, 37, 38]), (100000, [3]), (100002, [3]), (200008, [0]), (400000, [2]), (400002, [2])]
noncomputable def Gg92_975 (f164_975 : YF164_975) (f : Nat) : Option Ev.Spec := Ev.look f [(164, spg164_975 f164_975)]
noncomputable def G92_975 (fuel : Nat) : Nat → Option Ev.Spec := Gg92_975 (F_coder_Encoder_none_975 fuel)
noncomputable def J92_975 (fuel : Nat) (i : Nat) : Option Ev.Blk := Ev.look i []
noncomputable def F_coder_Encoder_End_975 (fuel : Nat)  (k0 : ((List Int)) → Option Ans) : Option Ans :=
  (F_coder_Encoder_none_975 fuel
    (fun y2 =>
      bif y2 then
      k0 []
      else none))
abbrev YF92_975 : Type := (((List Int)) → Option Ans) → Option Ans
theorem F92_975_eqg (fuel : Nat) (f164_975 : YF164_975)  (k : Ev.Cont) : evalFn tab (Gg92_975 f164_975) (J92_975 fuel) kp92_975 fuel Try.f92 [.c (.nilptr)] [] k = (fun  (k0 : ((List Int)) → Option Ans) =>
  (f164_975
    (fun y2 =>
      bif y2 then
      k0 []
      else none))) (fun r => match r with | r0 => k (.c (.own 0), [.vec 5 (.int .u8) r0 true])) := by
  kernel_rfl
theorem F92_975_eq (fuel : Nat)  (k : Ev.Cont) : evalFn tab (G92_975 fuel) (J92_975 fuel) kp92_975 fuel Try.f92 [.c (.nilptr)] [] k = F_coder_Encoder_End_975 fuel  (fun r => match r with | r0 => k (.c (.own 0), [.vec 5 (.int .u8) r0 true])) :=
  F92_975_eqg fuel (F_coder_Encoder_none_975 fuel)  k
theorem hG92_975 (fuel : Nat) : GOK Try.prog (G92_975 fuel) :=
  gok_cons ⟨ok164_975 fuel, enters_of Try.func164 (by kernel_rfl) rfl⟩ <|
  gok_nil
theorem fok92_975 (fuel : Nat) : FnOK Try.prog 92 (evalFn tab (G92_975 fuel) (J92_975 fuel) kp92_975 fuel Try.f92) :=
  fn_ok tab_ok (hG92_975 fuel) mixed Try.func92 (c := (Try.f92.body).getD .skip) rfl (fun q hq => by
    rw [(by kernel_rfl : obl (J92_975 fuel) ((Try.f92.body).getD .skip) = [])] at hq
    cases hq)
noncomputable def mt92_975 : List Ev.SV → List Ev.Ob → Bool := fun args objs => match args, objs with
  | [.c (.nilptr)], [] => true
  | _, _ => false
noncomputable def spg92_975 (F : YF92_975) : Ev.Spec := fun args objs k => match args, objs with
  | [.c (.nilptr)], [] => bif true then F  (fun r => match r with | r0 => k (.c (.own 0), [.vec 5 (.int .u8) r0 true])) else none
  | _, _ => none
noncomputable def spec92_975 (fuel : Nat) : Ev.Spec := spg92_975 (F_coder_Encoder_End_975 fuel)
theorem ok92_975 (fuel : Nat) : FnOK Try.prog 92 (spec92_975 fuel) := by
  intro args objs kk r h
  unfold spec92_975 spg92_975 at h
  split at h
  · skip
    obtain ⟨hb, h⟩ := cond_some' h
    simp only [Bool.and_eq_true, Nat.beq_eq, decide_eq_true_eq] at hb
    clear hb
    exact fok92_975 fuel _ _ kk r ((F92_975_eq fuel kk).trans h)
  · cases h
end Go.Proofs.Ytihfgpfofmjbaaa

set_option linter.unusedVariables false
set_option linter.unusedSimpArgs false
set_option maxRecDepth 100000
set_option maxHeartbeats 2000000
namespace Go.Proofs.Ytihfgpfofmjbaaa
open Go Ev
def kp164_a20 (i : Nat) : Option (List Nat) := Ev.look i []
noncomputable def Gg164_a20 (f : Nat) : Option Ev.Spec := Ev.look f []
noncomputable def G164_a20 (fuel : Nat) : Nat → Option Ev.Spec := Gg164_a20
noncomputable def J164_a20 (fuel : Nat) (i : Nat) : Option Ev.Blk := Ev.look i []
noncomputable def F_coder_Encoder_none_a20 (fuel : Nat) (x0 : Int) (x1 : Int) (x2 : Int) (x3 : Bool) (x4 : (List Int)) (x5 : (List Int)) (k0 : (Bool × Int × Int × Int × Bool × (List Int) × (List Int)) → Option Ans) : Option Ans :=
  k0 (!x3, x0, x1, x2, x3, x4, x5)
abbrev YF164_a20 : Type := (Int) → (Int) → (Int) → (Bool) → ((List Int)) → ((List Int)) → ((Bool × Int × Int × Int × Bool × (List Int) × (List Int)) → Option Ans) → Option Ans
theorem F164_a20_eq (fuel : Nat) (x0 : Int) (x1 : Int) (x2 : Int) (x3 : Bool) (x4 : (List Int)) (x5 : (List Int)) (k : Ev.Cont) : evalFn tab (G164_a20 fuel) (J164_a20 fuel) kp164_a20 fuel Try.f164 [.c (.ptr 0 0)] [.cells 172 (.int .i64 x0 :: .own 1 :: .int .i64 2048 :: .int .i64 1792 :: .int .i64 1568 :: .int .i64 1372 :: .int .i64 1201 :: .int .i64 1051 :: .int .i64 920 :: .int .i64 805 :: .int .i64 705 :: .int .i64 617 :: .int .i64 540 :: .int .i64 473 :: .int .i64 414 :: .int .i64 363 :: .int .i64 318 :: .int .i64 279 :: .int .i64 245 :: .int .i64 215 :: .int .i64 189 :: .int .i64 166 :: .int .i64 146 :: .int .i64 128 :: .int .i64 112 :: .int .i64 98 :: .int .i64 86 :: .int .i64 76 :: .int .i64 67 :: .int .i64 59 :: .int .i64 52 :: .int .i64 46 :: .int .i64 41 :: .int .i64 36 :: .int .u64 x1 :: .int .u64 x2 :: .own 2 :: .bool x3 :: []), .vec 3 (.int .i64) x4 false, .vec 5 (.int .u8) x5 false] k = F_coder_Encoder_none_a20 fuel x0 x1 x2 x3 x4 x5 (fun r => match r with | (r0, r1, r2, r3, r4, r5, r6) => k (.c (.bool r0), [.cells 172 (.int .i64 r1 :: .own 1 :: .int .i64 2048 :: .int .i64 1792 :: .int .i64 1568 :: .int .i64 1372 :: .int .i64 1201 :: .int .i64 1051 :: .int .i64 920 :: .int .i64 805 :: .int .i64 705 :: .int .i64 617 :: .int .i64 540 :: .int .i64 473 :: .int .i64 414 :: .int .i64 363 :: .int .i64 318 :: .int .i64 279 :: .int .i64 245 :: .int .i64 215 :: .int .i64 189 :: .int .i64 166 :: .int .i64 146 :: .int .i64 128 :: .int .i64 112 :: .int .i64 98 :: .int .i64 86 :: .int .i64 76 :: .int .i64 67 :: .int .i64 59 :: .int .i64 52 :: .int .i64 46 :: .int .i64 41 :: .int .i64 36 :: .int .u64 r2 :: .int .u64 r3 :: .own 2 :: .bool r4 :: []), .vec 3 (.int .i64) r5 false, .vec 5 (.int .u8) r6 false])) := by
  kernel_rfl
theorem hG164_a20 (fuel : Nat) : GOK Try.prog (G164_a20 fuel) :=
  gok_nil
theorem fok164_a20 (fuel : Nat) : FnOK Try.prog 164 (evalFn tab (G164_a20 fuel) (J164_a20 fuel) kp164_a20 fuel Try.f164) :=
  fn_ok tab_ok (hG164_a20 fuel) mixed Try.func164 (c := (Try.f164.body).getD .skip) rfl (fun q hq => by
    rw [(by kernel_rfl : obl (J164_a20 fuel) ((Try.f164.body).getD .skip) = [])] at hq
    cases hq)
noncomputable def mt164_a20 : List Ev.SV → List Ev.Ob → Bool := fun args objs => match args, objs with
  | [.c (.ptr q0 q1)], [.cells q2 cs0, .vec q3 (.int .i64) _ false, .vec q4 (.int .u8) _ false] => (match splitRun 2 [(.i64, 2048), (.i64, 1792), (.i64, 1568), (.i64, 1372), (.i64, 1201), (.i64, 1051), (.i64, 920), (.i64, 805), (.i64, 705), (.i64, 617), (.i64, 540), (.i64, 473), (.i64, 414), (.i64, 363), (.i64, 318), (.i64, 279), (.i64, 245), (.i64, 215), (.i64, 189), (.i64, 166), (.i64, 146), (.i64, 128), (.i64, 112), (.i64, 98), (.i64, 86), (.i64, 76), (.i64, 67), (.i64, 59), (.i64, 52), (.i64, 46), (.i64, 41), (.i64, 36)] cs0 with | some ([.int .i64 _, .own q5], [.int .u64 _, .int .u64 _, .own q6, .bool _]) => Nat.beq q0 0 && Nat.beq q1 0 && Nat.beq q2 172 && Nat.beq q3 3 && Nat.beq q4 5 && Nat.beq q5 1 && Nat.beq q6 2 | _ => false)
  | _, _ => false
noncomputable def spg164_a20 (F : YF164_a20) : Ev.Spec := fun args objs k => match args, objs with
  | [.c (.ptr q0 q1)], [.cells q2 cs0, .vec q3 (.int .i64) x4 false, .vec q4 (.int .u8) x5 false] => (match splitRun 2 [(.i64, 2048), (.i64, 1792), (.i64, 1568), (.i64, 1372), (.i64, 1201), (.i64, 1051), (.i64, 920), (.i64, 805), (.i64, 705), (.i64, 617), (.i64, 540), (.i64, 473), (.i64, 414), (.i64, 363), (.i64, 318), (.i64, 279), (.i64, 245), (.i64, 215), (.i64, 189), (.i64, 166), (.i64, 146), (.i64, 128), (.i64, 112), (.i64, 98), (.i64, 86), (.i64, 76), (.i64, 67), (.i64, 59), (.i64, 52), (.i64, 46), (.i64, 41), (.i64, 36)] cs0 with | some ([.int .i64 x0, .own q5], [.int .u64 x1, .int .u64 x2, .own q6, .bool x3]) => bif Nat.beq q0 0 && Nat.beq q1 0 && Nat.beq q2 172 && Nat.beq q3 3 && Nat.beq q4 5 && Nat.beq q5 1 && Nat.beq q6 2 then F x0 x1 x2 x3 x4 x5 (fun r => match r with | (r0, r1, r2, r3, r4, r5, r6) => k (.c (.bool r0), [.cells 172 (.int .i64 r1 :: .own 1 :: .int .i64 2048 :: .int .i64 1792 :: .int .i64 1568 :: .int .i64 1372 :: .int .i64 1201 :: .int .i64 1051 :: .int .i64 920 :: .int .i64 805 :: .int .i64 705 :: .int .i64 617 :: .int .i64 540 :: .int .i64 473 :: .int .i64 414 :: .int .i64 363 :: .int .i64 318 :: .int .i64 279 :: .int .i64 245 :: .int .i64 215 :: .int .i64 189 :: .int .i64 166 :: .int .i64 146 :: .int .i64 128 :: .int .i64 112 :: .int .i64 98 :: .int .i64 86 :: .int .i64 76 :: .int .i64 67 :: .int .i64 59 :: .int .i64 52 :: .int .i64 46 :: .int .i64 41 :: .int .i64 36 :: .int .u64 r2 :: .int .u64 r3 :: .own 2 :: .bool r4 :: []), .vec 3 (.int .i64) r5 false, .vec 5 (.int .u8) r6 false])) else none | _ => none)
  | _, _ => none
noncomputable def spec164_a20 (fuel : Nat) : Ev.Spec := spg164_a20 (F_coder_Encoder_none_a20 fuel)
theorem ok164_a20 (fuel : Nat) : FnOK Try.prog 164 (spec164_a20 fuel) := by
  intro args objs kk r h
  unfold spec164_a20 spg164_a20 at h
  split at h
  · skip
    split at h
    rotate_left 1
    · cases h
    rename_i hsp
    have esp := splitRun_eq hsp
    subst esp
    obtain ⟨hb, h⟩ := cond_some' h
    simp only [Bool.and_eq_true, Nat.beq_eq, decide_eq_true_eq] at hb
    obtain ⟨⟨⟨⟨⟨⟨rfl, rfl⟩, rfl⟩, rfl⟩, rfl⟩, rfl⟩, rfl⟩ := hb
    exact fok164_a20 fuel _ _ kk r ((F164_a20_eq fuel _ _ _ _ _ _ kk).trans h)
  · cases h
end Go.Proofs.Ytihfgpfofmjbaaa

set_option linter.unusedVariables false
set_option linter.unusedSimpArgs false
set_option maxRecDepth 100000
set_option maxHeartbeats 2000000
namespace Go.Proofs.Ytihfgpfofmjbaaa
open Go Ev
def kp92_a20 (i : Nat) : Option (List Nat) := Ev.look i [(5, [0, 3, 15]), (10, [0, 3, 37, 38]), (100000, [3]), (100002, [3]), (200008, [0]), (400000, [2]), (400002, [2])]
noncomputable def Gg92_a20 (f164_a20 : YF164_a20) (f : Nat) : Option Ev.Spec := Ev.look f [(164, spg164_a20 f164_a20)]
noncomputable def G92_a20 (fuel : Nat) : Nat → Option Ev.Spec := Gg92_a20 (F_coder_Encoder_none_a20 fuel)
noncomputable def S_coder_Encoder_End_a20_2 (fuel : Nat) (v : Int × Int × Int × Int × Int × Bool × (List Int) × (List Int) × (List Int)) (c : (Int × Int × Int × Int × Int × Bool × (List Int) × (List Int) × (List Int)) → Option Ans) (B : (Int × Int × Int × Bool × (List Int) × (List Int) × (List Int) → Option Ans)) : Option Ans := match v, B with
  | (x0, x1, x2, x3, x4, x5, x6, x7, x8), b =>
   bif Decidable.decide (x1 < x0) then
      bif Decidable.decide (Go.IntKind.i64.wrap ((24 : Int) - Go.IntKind.i64.wrap ((8 : Int) * x1)) < (0 : Int)) then
       none
      else
       bif Decidable.decide ((x8.length + [Go.IntKind.u8.wrap (Ev.ishr Go.IntKind.u64 x4 (Go.IntKind.i64.wrap ((24 : Int) - Go.IntKind.i64.wrap ((8 : Int) * x1))))].length) * (1 : Nat) ≤ (140737488355328 : Nat) ∧ x8.length + [Go.IntKind.u8.wrap (Ev.ishr Go.IntKind.u64 x4 (Go.IntKind.i64.wrap ((24 : Int) - Go.IntKind.i64.wrap ((8 : Int) * x1))))].length ≤ (140737488355328 : Nat)) then
       c (x0, Go.IntKind.i64.wrap (x1 + (1 : Int)), x2, x3, x4, x5, x6, x7, x8 ++ [Go.IntKind.u8.wrap (Ev.ishr Go.IntKind.u64 x4 (Go.IntKind.i64.wrap ((24 : Int) - Go.IntKind.i64.wrap ((8 : Int) * x1))))])
       else none
     else
      b (x2, x3, x4, x5, x6, x7, x8)
noncomputable def L_coder_Encoder_End_a20_2 (fuel : Nat) (v : Int × Int × Int × Int × Int × Bool × (List Int) × (List Int) × (List Int)) (b : (Int × Int × Int × Bool × (List Int) × (List Int) × (List Int) → Option Ans)) : Option Ans := iter (S_coder_Encoder_End_a20_2 fuel) fuel v b
noncomputable def J92_a20_2 (fuel : Nat) (i : Nat) : Option Ev.Blk := Ev.look i []
noncomputable def T92_a20_2 (v : Int × Int × Int × Int × Int × Bool × (List Int) × (List Int) × (List Int)) : Ev.St := match v with | (x0, x1, x2, x3, x4, x5, x6, x7, x8) => ⟨[(0, .c (.ptr 0 0)), (3, .c (.own 3)), (37, .c (.int .i64 x0)), (38, .c (.int .i64 x1))], [(0, .cells 172 (.int .i64 x2 :: .own 1 :: .int .i64 2048 :: .int .i64 1792 :: .int .i64 1568 :: .int .i64 1372 :: .int .i64 1201 :: .int .i64 1051 :: .int .i64 920 :: .int .i64 805 :: .int .i64 705 :: .int .i64 617 :: .int .i64 540 :: .int .i64 473 :: .int .i64 414 :: .int .i64 363 :: .int .i64 318 :: .int .i64 279 :: .int .i64 245 :: .int .i64 215 :: .int .i64 189 :: .int .i64 166 :: .int .i64 146 :: .int .i64 128 :: .int .i64 112 :: .int .i64 98 :: .int .i64 86 :: .int .i64 76 :: .int .i64 67 :: .int .i64 59 :: .int .i64 52 :: .int .i64 46 :: .int .i64 41 :: .int .i64 36 :: .int .u64 x3 :: .int .u64 x4 :: .own 2 :: .bool x5 :: [])), (1, .vec 3 (.int .i64) x6 false), (2, .vec 5 (.int .u8) x7 false), (3, .vec 5 (.int .u8) x8 true)], 4, 3⟩
noncomputable def E92_a20_2 (K : Ev.Ex → Ev.St → Option Ans) : (Int × Int × Int × Bool × (List Int) × (List Int) × (List Int) → Option Ans) := (fun v => match v with | (x0, x1, x2, x3, x4, x5, x6) => K .normal ⟨[(3, .c (.own 3))], [(0, .cells 172 (.int .i64 x0 :: .own 1 :: .int .i64 2048 :: .int .i64 1792 :: .int .i64 1568 :: .int .i64 1372 :: .int .i64 1201 :: .int .i64 1051 :: .int .i64 920 :: .int .i64 805 :: .int .i64 705 :: .int .i64 617 :: .int .i64 540 :: .int .i64 473 :: .int .i64 414 :: .int .i64 363 :: .int .i64 318 :: .int .i64 279 :: .int .i64 245 :: .int .i64 215 :: .int .i64 189 :: .int .i64 166 :: .int .i64 146 :: .int .i64 128 :: .int .i64 112 :: .int .i64 98 :: .int .i64 86 :: .int .i64 76 :: .int .i64 67 :: .int .i64 59 :: .int .i64 52 :: .int .i64 46 :: .int .i64 41 :: .int .i64 36 :: .int .u64 x1 :: .int .u64 x2 :: .own 2 :: .bool x3 :: [])), (1, .vec 3 (.int .i64) x4 false), (2, .vec 5 (.int .u8) x5 false), (3, .vec 5 (.int .u8) x6 true)], 4, 3⟩)
theorem S92_a20_2_okg (fuel : Nat) (f164_a20 : YF164_a20) (R : Ev.St → Option Ans) (K : Ev.Ex → Ev.St → Option Ans) (x0 : Int) (x1 : Int) (x2 : Int) (x3 : Int) (x4 : Int) (x5 : Bool) (x6 : (List Int)) (x7 : (List Int)) (x8 : (List Int)) : evalCode tab (Gg92_a20 f164_a20) (J92_a20_2 fuel) kp92_a20 fuel (bodyOf 2 Try.f92) (T92_a20_2 (x0, x1, x2, x3, x4, x5, x6, x7, x8)) (lc kp92_a20 10 2 R K) = (fun (c : (Int × Int × Int × Int × Int × Bool × (List Int) × (List Int) × (List Int)) → Option Ans) (B : (Int × Int × Int × Bool × (List Int) × (List Int) × (List Int) → Option Ans)) => match B with
  | b =>
   bif Decidable.decide (x1 < x0) then
      bif Decidable.decide (Go.IntKind.i64.wrap ((24 : Int) - Go.IntKind.i64.wrap ((8 : Int) * x1)) < (0 : Int)) then
       none
      else
       bif Decidable.decide ((x8.length + [Go.IntKind.u8.wrap (Ev.ishr Go.IntKind.u64 x4 (Go.IntKind.i64.wrap ((24 : Int) - Go.IntKind.i64.wrap ((8 : Int) * x1))))].length) * (1 : Nat) ≤ (140737488355328 : Nat) ∧ x8.length + [Go.IntKind.u8.wrap (Ev.ishr Go.IntKind.u64 x4 (Go.IntKind.i64.wrap ((24 : Int) - Go.IntKind.i64.wrap ((8 : Int) * x1))))].length ≤ (140737488355328 : Nat)) then
       c (x0, Go.IntKind.i64.wrap (x1 + (1 : Int)), x2, x3, x4, x5, x6, x7, x8 ++ [Go.IntKind.u8.wrap (Ev.ishr Go.IntKind.u64 x4 (Go.IntKind.i64.wrap ((24 : Int) - Go.IntKind.i64.wrap ((8 : Int) * x1))))])
       else none
     else
      b (x2, x3, x4, x5, x6, x7, x8)) (fun v => R (T92_a20_2 v)) (E92_a20_2 K) := by
  kernel_rfl
theorem S92_a20_2_ok (fuel : Nat) (R : Ev.St → Option Ans) (K : Ev.Ex → Ev.St → Option Ans) (x0 : Int) (x1 : Int) (x2 : Int) (x3 : Int) (x4 : Int) (x5 : Bool) (x6 : (List Int)) (x7 : (List Int)) (x8 : (List Int)) : evalCode tab (G92_a20 fuel) (J92_a20_2 fuel) kp92_a20 fuel (bodyOf 2 Try.f92) (T92_a20_2 (x0, x1, x2, x3, x4, x5, x6, x7, x8)) (lc kp92_a20 10 2 R K) = S_coder_Encoder_End_a20_2 fuel (x0, x1, x2, x3, x4, x5, x6, x7, x8) (fun v => R (T92_a20_2 v)) (E92_a20_2 K) :=
  S92_a20_2_okg fuel (F_coder_Encoder_none_a20 fuel) R K x0 x1 x2 x3 x4 x5 x6 x7 x8
noncomputable def B92_a20_2 (fuel : Nat) : Ev.Blk := fun st K => match canonO (kp92_a20 10) st with
  | some s => (match s with
    | ⟨[(q0, .c (.ptr q1 q2)), (q3, .c (.own q4)), (q5, .c (.int .i64 x0)), (q6, .c (.int .i64 x1))], [(q7, .cells q8 cs0), (q9, .vec q10 (.int .i64) x6 false), (q11, .vec q12 (.int .u8) x7 false), (q13, .vec q14 (.int .u8) x8 true)], q15, q16⟩ => (match splitRun 2 [(.i64, 2048), (.i64, 1792), (.i64, 1568), (.i64, 1372), (.i64, 1201), (.i64, 1051), (.i64, 920), (.i64, 805), (.i64, 705), (.i64, 617), (.i64, 540), (.i64, 473), (.i64, 414), (.i64, 363), (.i64, 318), (.i64, 279), (.i64, 245), (.i64, 215), (.i64, 189), (.i64, 166), (.i64, 146), (.i64, 128), (.i64, 112), (.i64, 98), (.i64, 86), (.i64, 76), (.i64, 67), (.i64, 59), (.i64, 52), (.i64, 46), (.i64, 41), (.i64, 36)] cs0 with | some ([.int .i64 x2, .own q17], [.int .u64 x3, .int .u64 x4, .own q18, .bool x5]) => bif Nat.beq q0 0 && Nat.beq q1 0 && Nat.beq q2 0 && Nat.beq q3 3 && Nat.beq q4 3 && Nat.beq q5 37 && Nat.beq q6 38 && Nat.beq q7 0 && Nat.beq q8 172 && Nat.beq q9 1 && Nat.beq q10 3 && Nat.beq q11 2 && Nat.beq q12 5 && Nat.beq q13 3 && Nat.beq q14 5 && Nat.beq q15 4 && Nat.beq q16 3 && Nat.beq q17 1 && Nat.beq q18 2 then iter (S_coder_Encoder_End_a20_2 fuel) fuel (x0, x1, x2, x3, x4, x5, x6, x7, x8) (E92_a20_2 K) else none | _ => none)
    | _ => none)
  | none => none
theorem B92_a20_2_ok (fuel : Nat) (st : Ev.St) (K : Ev.Ex → Ev.St → Option Ans) (r : Ans) (h : B92_a20_2 fuel st K = some r) : evalCode tab (G92_a20 fuel) (J92_a20_2 fuel) kp92_a20 fuel (.block 2 (.loop (bodyOf 2 Try.f92))) st K = some r := by
  unfold B92_a20_2 at h
  split at h
  · rename_i s hs
    split at h
    · skip
      split at h
      rotate_left 1
      · cases h
      rename_i hsp
      have esp := splitRun_eq hsp
      subst esp
      obtain ⟨hb, h⟩ := cond_some' h
      simp only [Bool.and_eq_true, Nat.beq_eq, decide_eq_true_eq] at hb
      obtain ⟨⟨⟨⟨⟨⟨⟨⟨⟨⟨⟨⟨⟨⟨⟨⟨⟨⟨rfl, rfl⟩, rfl⟩, rfl⟩, rfl⟩, rfl⟩, rfl⟩, rfl⟩, rfl⟩, rfl⟩, rfl⟩, rfl⟩, rfl⟩, rfl⟩, rfl⟩, rfl⟩, rfl⟩, rfl⟩, rfl⟩ := hb
      exact blk_loop (S := T92_a20_2) (ks := E92_a20_2) (step := S_coder_Encoder_End_a20_2 fuel) (v := (_, _, _, _, _, _, _, _, _)) (by kernel_rfl) (by kernel_rfl) (fun R K v => by obtain ⟨x0, x1, x2, x3, x4, x5, x6, x7, x8⟩ := v; exact S92_a20_2_ok fuel R K x0 x1 x2 x3 x4 x5 x6 x7 x8) hs h
    · cases h
  · cases h
noncomputable def S_coder_Encoder_End_a20_0 (fuel : Nat) (v : Int × Int × Int × Int × Bool × (List Int) × (List Int) × (List Int)) (c : (Int × Int × Int × Int × Bool × (List Int) × (List Int) × (List Int)) → Option Ans) (B : (Int × Int × Int × Bool × (List Int) × (List Int) × (List Int) → Option Ans) × (Int × Int × Int × Bool × (List Int) × (List Int) × (List Int) → Option Ans)) : Option Ans := match v, B with
  | (x0, x1, x2, x3, x4, x5, x6, x7), (ret, b) =>
   bif Decidable.decide (x0 < (5 : Int)) then
      bif Decidable.decide (Go.IntKind.u64.wrap (Go.IntKind.i64.wrap ((32 : Int) - Go.IntKind.i64.wrap ((8 : Int) * x0))) < (0 : Int)) then
       none
      else
       bif Decidable.decide (Go.IntKind.u64.wrap (Go.IntKind.i64.wrap ((32 : Int) - Go.IntKind.i64.wrap ((8 : Int) * x0))) < (0 : Int)) then
        none
       else
        bif Decidable.decide (Ev.ishl Go.IntKind.u64 (Ev.ishr Go.IntKind.u64 x3 (Go.IntKind.u64.wrap (Go.IntKind.i64.wrap ((32 : Int) - Go.IntKind.i64.wrap ((8 : Int) * x0))))) (Go.IntKind.u64.wrap (Go.IntKind.i64.wrap ((32 : Int) - Go.IntKind.i64.wrap ((8 : Int) * x0)))) ≥ x2) then
         (L_coder_Encoder_End_a20_2 fuel (x0, (0 : Int), x1, x2, x3, x4, x5, x6, x7)
           (fun (b2_0, b2_1, b2_2, b2_3, b2_4, b2_5, b2_6) =>
             ret (b2_0, b2_1, b2_2, b2_3, b2_4, b2_5, b2_6)))
        else
         c (Go.IntKind.i64.wrap (x0 + (1 : Int)), x1, x2, x3, x4, x5, x6, x7)
     else
      b (x1, x2, x3, x4, x5, x6, x7)
noncomputable def L_coder_Encoder_End_a20_0 (fuel : Nat) (v : Int × Int × Int × Int × Bool × (List Int) × (List Int) × (List Int)) (ret : (Int × Int × Int × Bool × (List Int) × (List Int) × (List Int) → Option Ans)) (b : (Int × Int × Int × Bool × (List Int) × (List Int) × (List Int) → Option Ans)) : Option Ans := iter (S_coder_Encoder_End_a20_0 fuel) fuel v (ret, b)
noncomputable def J92_a20_0 (fuel : Nat) (i : Nat) : Option Ev.Blk := Ev.look i [(100002, B92_a20_2 fuel)]
noncomputable def T92_a20_0 (v : Int × Int × Int × Int × Bool × (List Int) × (List Int) × (List Int)) : Ev.St := match v with | (x0, x1, x2, x3, x4, x5, x6, x7) => ⟨[(0, .c (.ptr 0 0)), (3, .c (.own 3)), (15, .c (.int .i64 x0))], [(0, .cells 172 (.int .i64 x1 :: .own 1 :: .int .i64 2048 :: .int .i64 1792 :: .int .i64 1568 :: .int .i64 1372 :: .int .i64 1201 :: .int .i64 1051 :: .int .i64 920 :: .int .i64 805 :: .int .i64 705 :: .int .i64 617 :: .int .i64 540 :: .int .i64 473 :: .int .i64 414 :: .int .i64 363 :: .int .i64 318 :: .int .i64 279 :: .int .i64 245 :: .int .i64 215 :: .int .i64 189 :: .int .i64 166 :: .int .i64 146 :: .int .i64 128 :: .int .i64 112 :: .int .i64 98 :: .int .i64 86 :: .int .i64 76 :: .int .i64 67 :: .int .i64 59 :: .int .i64 52 :: .int .i64 46 :: .int .i64 41 :: .int .i64 36 :: .int .u64 x2 :: .int .u64 x3 :: .own 2 :: .bool x4 :: [])), (1, .vec 3 (.int .i64) x5 false), (2, .vec 5 (.int .u8) x6 false), (3, .vec 5 (.int .u8) x7 true)], 4, 3⟩
noncomputable def E92_a20_0 (K : Ev.Ex → Ev.St → Option Ans) : (Int × Int × Int × Bool × (List Int) × (List Int) × (List Int) → Option Ans) × (Int × Int × Int × Bool × (List Int) × (List Int) × (List Int) → Option Ans) := ((fun v => match v with | (x0, x1, x2, x3, x4, x5, x6) => K .ret ⟨[(2, .c (.own 3))], [(0, .cells 172 (.int .i64 x0 :: .own 1 :: .int .i64 2048 :: .int .i64 1792 :: .int .i64 1568 :: .int .i64 1372 :: .int .i64 1201 :: .int .i64 1051 :: .int .i64 920 :: .int .i64 805 :: .int .i64 705 :: .int .i64 617 :: .int .i64 540 :: .int .i64 473 :: .int .i64 414 :: .int .i64 363 :: .int .i64 318 :: .int .i64 279 :: .int .i64 245 :: .int .i64 215 :: .int .i64 189 :: .int .i64 166 :: .int .i64 146 :: .int .i64 128 :: .int .i64 112 :: .int .i64 98 :: .int .i64 86 :: .int .i64 76 :: .int .i64 67 :: .int .i64 59 :: .int .i64 52 :: .int .i64 46 :: .int .i64 41 :: .int .i64 36 :: .int .u64 x1 :: .int .u64 x2 :: .own 2 :: .bool x3 :: [])), (1, .vec 3 (.int .i64) x4 false), (2, .vec 5 (.int .u8) x5 false), (3, .vec 5 (.int .u8) x6 true)], 4, 3⟩), (fun v => match v with | (x0, x1, x2, x3, x4, x5, x6) => K .normal ⟨[(3, .c (.own 3))], [(0, .cells 172 (.int .i64 x0 :: .own 1 :: .int .i64 2048 :: .int .i64 1792 :: .int .i64 1568 :: .int .i64 1372 :: .int .i64 1201 :: .int .i64 1051 :: .int .i64 920 :: .int .i64 805 :: .int .i64 705 :: .int .i64 617 :: .int .i64 540 :: .int .i64 473 :: .int .i64 414 :: .int .i64 363 :: .int .i64 318 :: .int .i64 279 :: .int .i64 245 :: .int .i64 215 :: .int .i64 189 :: .int .i64 166 :: .int .i64 146 :: .int .i64 128 :: .int .i64 112 :: .int .i64 98 :: .int .i64 86 :: .int .i64 76 :: .int .i64 67 :: .int .i64 59 :: .int .i64 52 :: .int .i64 46 :: .int .i64 41 :: .int .i64 36 :: .int .u64 x1 :: .int .u64 x2 :: .own 2 :: .bool x3 :: [])), (1, .vec 3 (.int .i64) x4 false), (2, .vec 5 (.int .u8) x5 false), (3, .vec 5 (.int .u8) x6 true)], 4, 3⟩))
theorem S92_a20_0_okg (fuel : Nat) (f164_a20 : YF164_a20) (R : Ev.St → Option Ans) (K : Ev.Ex → Ev.St → Option Ans) (x0 : Int) (x1 : Int) (x2 : Int) (x3 : Int) (x4 : Bool) (x5 : (List Int)) (x6 : (List Int)) (x7 : (List Int)) : evalCode tab (Gg92_a20 f164_a20) (J92_a20_0 fuel) kp92_a20 fuel (bodyOf 0 Try.f92) (T92_a20_0 (x0, x1, x2, x3, x4, x5, x6, x7)) (lc kp92_a20 5 0 R K) = (fun (c : (Int × Int × Int × Int × Bool × (List Int) × (List Int) × (List Int)) → Option Ans) (B : (Int × Int × Int × Bool × (List Int) × (List Int) × (List Int) → Option Ans) × (Int × Int × Int × Bool × (List Int) × (List Int) × (List Int) → Option Ans)) => match B with
  | (ret, b) =>
   bif Decidable.decide (x0 < (5 : Int)) then
      bif Decidable.decide (Go.IntKind.u64.wrap (Go.IntKind.i64.wrap ((32 : Int) - Go.IntKind.i64.wrap ((8 : Int) * x0))) < (0 : Int)) then
       none
      else
       bif Decidable.decide (Go.IntKind.u64.wrap (Go.IntKind.i64.wrap ((32 : Int) - Go.IntKind.i64.wrap ((8 : Int) * x0))) < (0 : Int)) then
        none
       else
        bif Decidable.decide (Ev.ishl Go.IntKind.u64 (Ev.ishr Go.IntKind.u64 x3 (Go.IntKind.u64.wrap (Go.IntKind.i64.wrap ((32 : Int) - Go.IntKind.i64.wrap ((8 : Int) * x0))))) (Go.IntKind.u64.wrap (Go.IntKind.i64.wrap ((32 : Int) - Go.IntKind.i64.wrap ((8 : Int) * x0)))) ≥ x2) then
         (L_coder_Encoder_End_a20_2 fuel (x0, (0 : Int), x1, x2, x3, x4, x5, x6, x7)
           (fun (b2_0, b2_1, b2_2, b2_3, b2_4, b2_5, b2_6) =>
             ret (b2_0, b2_1, b2_2, b2_3, b2_4, b2_5, b2_6)))
        else
         c (Go.IntKind.i64.wrap (x0 + (1 : Int)), x1, x2, x3, x4, x5, x6, x7)
     else
      b (x1, x2, x3, x4, x5, x6, x7)) (fun v => R (T92_a20_0 v)) (E92_a20_0 K) := by
  kernel_rfl
theorem S92_a20_0_ok (fuel : Nat) (R : Ev.St → Option Ans) (K : Ev.Ex → Ev.St → Option Ans) (x0 : Int) (x1 : Int) (x2 : Int) (x3 : Int) (x4 : Bool) (x5 : (List Int)) (x6 : (List Int)) (x7 : (List Int)) : evalCode tab (G92_a20 fuel) (J92_a20_0 fuel) kp92_a20 fuel (bodyOf 0 Try.f92) (T92_a20_0 (x0, x1, x2, x3, x4, x5, x6, x7)) (lc kp92_a20 5 0 R K) = S_coder_Encoder_End_a20_0 fuel (x0, x1, x2, x3, x4, x5, x6, x7) (fun v => R (T92_a20_0 v)) (E92_a20_0 K) :=
  S92_a20_0_okg fuel (F_coder_Encoder_none_a20 fuel) R K x0 x1 x2 x3 x4 x5 x6 x7
noncomputable def B92_a20_0 (fuel : Nat) : Ev.Blk := fun st K => match canonO (kp92_a20 5) st with
  | some s => (match s with
    | ⟨[(q0, .c (.ptr q1 q2)), (q3, .c (.own q4)), (q5, .c (.int .i64 x0))], [(q6, .cells q7 cs0), (q8, .vec q9 (.int .i64) x5 false), (q10, .vec q11 (.int .u8) x6 false), (q12, .vec q13 (.int .u8) x7 true)], q14, q15⟩ => (match splitRun 2 [(.i64, 2048), (.i64, 1792), (.i64, 1568), (.i64, 1372), (.i64, 1201), (.i64, 1051), (.i64, 920), (.i64, 805), (.i64, 705), (.i64, 617), (.i64, 540), (.i64, 473), (.i64, 414), (.i64, 363), (.i64, 318), (.i64, 279), (.i64, 245), (.i64, 215), (.i64, 189), (.i64, 166), (.i64, 146), (.i64, 128), (.i64, 112), (.i64, 98), (.i64, 86), (.i64, 76), (.i64, 67), (.i64, 59), (.i64, 52), (.i64, 46), (.i64, 41), (.i64, 36)] cs0 with | some ([.int .i64 x1, .own q16], [.int .u64 x2, .int .u64 x3, .own q17, .bool x4]) => bif Nat.beq q0 0 && Nat.beq q1 0 && Nat.beq q2 0 && Nat.beq q3 3 && Nat.beq q4 3 && Nat.beq q5 15 && Nat.beq q6 0 && Nat.beq q7 172 && Nat.beq q8 1 && Nat.beq q9 3 && Nat.beq q10 2 && Nat.beq q11 5 && Nat.beq q12 3 && Nat.beq q13 5 && Nat.beq q14 4 && Nat.beq q15 3 && Nat.beq q16 1 && Nat.beq q17 2 then iter (S_coder_Encoder_End_a20_0 fuel) fuel (x0, x1, x2, x3, x4, x5, x6, x7) (E92_a20_0 K) else none | _ => none)
    | _ => none)
  | none => none
theorem B92_a20_0_ok (fuel : Nat) (st : Ev.St) (K : Ev.Ex → Ev.St → Option Ans) (r : Ans) (h : B92_a20_0 fuel st K = some r) : evalCode tab (G92_a20 fuel) (J92_a20_0 fuel) kp92_a20 fuel (.block 0 (.loop (bodyOf 0 Try.f92))) st K = some r := by
  unfold B92_a20_0 at h
  split at h
  · rename_i s hs
    split at h
    · skip
      split at h
      rotate_left 1
      · cases h
      rename_i hsp
      have esp := splitRun_eq hsp
      subst esp
      obtain ⟨hb, h⟩ := cond_some' h
      simp only [Bool.and_eq_true, Nat.beq_eq, decide_eq_true_eq] at hb
      obtain ⟨⟨⟨⟨⟨⟨⟨⟨⟨⟨⟨⟨⟨⟨⟨⟨⟨rfl, rfl⟩, rfl⟩, rfl⟩, rfl⟩, rfl⟩, rfl⟩, rfl⟩, rfl⟩, rfl⟩, rfl⟩, rfl⟩, rfl⟩, rfl⟩, rfl⟩, rfl⟩, rfl⟩, rfl⟩ := hb
      exact blk_loop (S := T92_a20_0) (ks := E92_a20_0) (step := S_coder_Encoder_End_a20_0 fuel) (v := (_, _, _, _, _, _, _, _)) (by kernel_rfl) (by kernel_rfl) (fun R K v => by obtain ⟨x0, x1, x2, x3, x4, x5, x6, x7⟩ := v; exact S92_a20_0_ok fuel R K x0 x1 x2 x3 x4 x5 x6 x7) hs h
    · cases h
  · cases h
noncomputable def J92_a20 (fuel : Nat) (i : Nat) : Option Ev.Blk := Ev.look i [(100002, B92_a20_2 fuel), (100000, B92_a20_0 fuel)]
noncomputable def F_coder_Encoder_End_a20 (fuel : Nat) (x0 : Int) (x1 : Int) (x2 : Int) (x3 : Bool) (x4 : (List Int)) (x5 : (List Int)) (k0 : (Int × Int × Int × Bool × (List Int) × (List Int) × (List Int)) → Option Ans) : Option Ans :=
  (F_coder_Encoder_none_a20 fuel (x0) (x1) (x2) (x3) (x4) (x5)
    (fun (y2_0, y2_1, y2_2, y2_3, y2_4, y2_5, y2_6) =>
      bif y2_0 then
       k0 (y2_1, y2_2, y2_3, y2_4, y2_5, y2_6, [])
      else
       bif Decidable.decide (((0 : Nat) + y2_6.length) * (1 : Nat) ≤ (140737488355328 : Nat) ∧ (0 : Nat) + y2_6.length ≤ (140737488355328 : Nat)) then
       (L_coder_Encoder_End_a20_0 fuel ((0 : Int), y2_1, y2_2, y2_3, y2_4, y2_5, y2_6, [] ++ y2_6)
          (fun (ret0_0, ret0_1, ret0_2, ret0_3, ret0_4, ret0_5, ret0_6) =>
            k0 (ret0_0, ret0_1, ret0_2, ret0_3, ret0_4, ret0_5, ret0_6))
          (fun (b0_0, b0_1, b0_2, b0_3, b0_4, b0_5, b0_6) =>
            k0 (b0_0, b0_1, b0_2, b0_3, b0_4, b0_5, b0_6)))
       else none))
abbrev YF92_a20 : Type := (Int) → (Int) → (Int) → (Bool) → ((List Int)) → ((List Int)) → ((Int × Int × Int × Bool × (List Int) × (List Int) × (List Int)) → Option Ans) → Option Ans
theorem F92_a20_eqg (fuel : Nat) (f164_a20 : YF164_a20) (x0 : Int) (x1 : Int) (x2 : Int) (x3 : Bool) (x4 : (List Int)) (x5 : (List Int)) (k : Ev.Cont) : evalFn tab (Gg92_a20 f164_a20) (J92_a20 fuel) kp92_a20 fuel Try.f92 [.c (.ptr 0 0)] [.cells 172 (.int .i64 x0 :: .own 1 :: .int .i64 2048 :: .int .i64 1792 :: .int .i64 1568 :: .int .i64 1372 :: .int .i64 1201 :: .int .i64 1051 :: .int .i64 920 :: .int .i64 805 :: .int .i64 705 :: .int .i64 617 :: .int .i64 540 :: .int .i64 473 :: .int .i64 414 :: .int .i64 363 :: .int .i64 318 :: .int .i64 279 :: .int .i64 245 :: .int .i64 215 :: .int .i64 189 :: .int .i64 166 :: .int .i64 146 :: .int .i64 128 :: .int .i64 112 :: .int .i64 98 :: .int .i64 86 :: .int .i64 76 :: .int .i64 67 :: .int .i64 59 :: .int .i64 52 :: .int .i64 46 :: .int .i64 41 :: .int .i64 36 :: .int .u64 x1 :: .int .u64 x2 :: .own 2 :: .bool x3 :: []), .vec 3 (.int .i64) x4 false, .vec 5 (.int .u8) x5 false] k = (fun  (k0 : (Int × Int × Int × Bool × (List Int) × (List Int) × (List Int)) → Option Ans) =>
  (f164_a20 (x0) (x1) (x2) (x3) (x4) (x5)
    (fun (y2_0, y2_1, y2_2, y2_3, y2_4, y2_5, y2_6) =>
      bif y2_0 then
       k0 (y2_1, y2_2, y2_3, y2_4, y2_5, y2_6, [])
      else
       bif Decidable.decide (((0 : Nat) + y2_6.length) * (1 : Nat) ≤ (140737488355328 : Nat) ∧ (0 : Nat) + y2_6.length ≤ (140737488355328 : Nat)) then
       (L_coder_Encoder_End_a20_0 fuel ((0 : Int), y2_1, y2_2, y2_3, y2_4, y2_5, y2_6, [] ++ y2_6)
          (fun (ret0_0, ret0_1, ret0_2, ret0_3, ret0_4, ret0_5, ret0_6) =>
            k0 (ret0_0, ret0_1, ret0_2, ret0_3, ret0_4, ret0_5, ret0_6))
          (fun (b0_0, b0_1, b0_2, b0_3, b0_4, b0_5, b0_6) =>
            k0 (b0_0, b0_1, b0_2, b0_3, b0_4, b0_5, b0_6)))
       else none))) (fun r => match r with | (r0, r1, r2, r3, r4, r5, r6) => k (.c (.own 3), [.cells 172 (.int .i64 r0 :: .own 1 :: .int .i64 2048 :: .int .i64 1792 :: .int .i64 1568 :: .int .i64 1372 :: .int .i64 1201 :: .int .i64 1051 :: .int .i64 920 :: .int .i64 805 :: .int .i64 705 :: .int .i64 617 :: .int .i64 540 :: .int .i64 473 :: .int .i64 414 :: .int .i64 363 :: .int .i64 318 :: .int .i64 279 :: .int .i64 245 :: .int .i64 215 :: .int .i64 189 :: .int .i64 166 :: .int .i64 146 :: .int .i64 128 :: .int .i64 112 :: .int .i64 98 :: .int .i64 86 :: .int .i64 76 :: .int .i64 67 :: .int .i64 59 :: .int .i64 52 :: .int .i64 46 :: .int .i64 41 :: .int .i64 36 :: .int .u64 r1 :: .int .u64 r2 :: .own 2 :: .bool r3 :: []), .vec 3 (.int .i64) r4 false, .vec 5 (.int .u8) r5 false, .vec 5 (.int .u8) r6 true])) := by
  kernel_rfl
theorem F92_a20_eq (fuel : Nat) (x0 : Int) (x1 : Int) (x2 : Int) (x3 : Bool) (x4 : (List Int)) (x5 : (List Int)) (k : Ev.Cont) : evalFn tab (G92_a20 fuel) (J92_a20 fuel) kp92_a20 fuel Try.f92 [.c (.ptr 0 0)] [.cells 172 (.int .i64 x0 :: .own 1 :: .int .i64 2048 :: .int .i64 1792 :: .int .i64 1568 :: .int .i64 1372 :: .int .i64 1201 :: .int .i64 1051 :: .int .i64 920 :: .int .i64 805 :: .int .i64 705 :: .int .i64 617 :: .int .i64 540 :: .int .i64 473 :: .int .i64 414 :: .int .i64 363 :: .int .i64 318 :: .int .i64 279 :: .int .i64 245 :: .int .i64 215 :: .int .i64 189 :: .int .i64 166 :: .int .i64 146 :: .int .i64 128 :: .int .i64 112 :: .int .i64 98 :: .int .i64 86 :: .int .i64 76 :: .int .i64 67 :: .int .i64 59 :: .int .i64 52 :: .int .i64 46 :: .int .i64 41 :: .int .i64 36 :: .int .u64 x1 :: .int .u64 x2 :: .own 2 :: .bool x3 :: []), .vec 3 (.int .i64) x4 false, .vec 5 (.int .u8) x5 false] k = F_coder_Encoder_End_a20 fuel x0 x1 x2 x3 x4 x5 (fun r => match r with | (r0, r1, r2, r3, r4, r5, r6) => k (.c (.own 3), [.cells 172 (.int .i64 r0 :: .own 1 :: .int .i64 2048 :: .int .i64 1792 :: .int .i64 1568 :: .int .i64 1372 :: .int .i64 1201 :: .int .i64 1051 :: .int .i64 920 :: .int .i64 805 :: .int .i64 705 :: .int .i64 617 :: .int .i64 540 :: .int .i64 473 :: .int .i64 414 :: .int .i64 363 :: .int .i64 318 :: .int .i64 279 :: .int .i64 245 :: .int .i64 215 :: .int .i64 189 :: .int .i64 166 :: .int .i64 146 :: .int .i64 128 :: .int .i64 112 :: .int .i64 98 :: .int .i64 86 :: .int .i64 76 :: .int .i64 67 :: .int .i64 59 :: .int .i64 52 :: .int .i64 46 :: .int .i64 41 :: .int .i64 36 :: .int .u64 r1 :: .int .u64 r2 :: .own 2 :: .bool r3 :: []), .vec 3 (.int .i64) r4 false, .vec 5 (.int .u8) r5 false, .vec 5 (.int .u8) r6 true])) :=
  F92_a20_eqg fuel (F_coder_Encoder_none_a20 fuel) x0 x1 x2 x3 x4 x5 k
theorem hG92_a20 (fuel : Nat) : GOK Try.prog (G92_a20 fuel) :=
  gok_cons ⟨ok164_a20 fuel, enters_of Try.func164 (by kernel_rfl) rfl⟩ <|
  gok_nil
theorem B92_a20_2_blk (fuel : Nat) : BlkOK Try.prog Try.f92.ntmps (.block 2 (.loop (bodyOf 2 Try.f92))) (B92_a20_2 fuel) :=
  blk_of (blk_of_code tab_ok (hG92_a20 fuel) mixed (J := J92_a20_2 fuel) (kp := kp92_a20) (fuel := fuel) (by kernel_rfl) (fun q hq => by
    rw [(by kernel_rfl : obl (J92_a20_2 fuel) (.block 2 (.loop (bodyOf 2 Try.f92))) = [])] at hq
    cases hq)) (B92_a20_2_ok fuel)
theorem B92_a20_0_blk (fuel : Nat) : BlkOK Try.prog Try.f92.ntmps (.block 0 (.loop (bodyOf 0 Try.f92))) (B92_a20_0 fuel) :=
  blk_of (blk_of_code tab_ok (hG92_a20 fuel) mixed (J := J92_a20_0 fuel) (kp := kp92_a20) (fuel := fuel) (by kernel_rfl) (fun q hq => by
    rw [(by kernel_rfl : obl (J92_a20_0 fuel) (.block 0 (.loop (bodyOf 0 Try.f92))) = [(.block 2 (.loop (bodyOf 2 Try.f92)), B92_a20_2 fuel)])] at hq
    simp only [List.mem_cons, List.not_mem_nil, or_false] at hq
    subst hq
    · exact B92_a20_2_blk fuel)) (B92_a20_0_ok fuel)
theorem fok92_a20 (fuel : Nat) : FnOK Try.prog 92 (evalFn tab (G92_a20 fuel) (J92_a20 fuel) kp92_a20 fuel Try.f92) :=
  fn_ok tab_ok (hG92_a20 fuel) mixed Try.func92 (c := (Try.f92.body).getD .skip) rfl (fun q hq => by
    rw [(by kernel_rfl : obl (J92_a20 fuel) ((Try.f92.body).getD .skip) = [(.block 0 (.loop (bodyOf 0 Try.f92)), B92_a20_0 fuel)])] at hq
    simp only [List.mem_cons, List.not_mem_nil, or_false] at hq
    subst hq
    · exact B92_a20_0_blk fuel)
noncomputable def mt92_a20 : List Ev.SV → List Ev.Ob → Bool := fun args objs => match args, objs with
  | [.c (.ptr q0 q1)], [.cells q2 cs0, .vec q3 (.int .i64) _ false, .vec q4 (.int .u8) _ false] => (match splitRun 2 [(.i64, 2048), (.i64, 1792), (.i64, 1568), (.i64, 1372), (.i64, 1201), (.i64, 1051), (.i64, 920), (.i64, 805), (.i64, 705), (.i64, 617), (.i64, 540), (.i64, 473), (.i64, 414), (.i64, 363), (.i64, 318), (.i64, 279), (.i64, 245), (.i64, 215), (.i64, 189), (.i64, 166), (.i64, 146), (.i64, 128), (.i64, 112), (.i64, 98), (.i64, 86), (.i64, 76), (.i64, 67), (.i64, 59), (.i64, 52), (.i64, 46), (.i64, 41), (.i64, 36)] cs0 with | some ([.int .i64 _, .own q5], [.int .u64 _, .int .u64 _, .own q6, .bool _]) => Nat.beq q0 0 && Nat.beq q1 0 && Nat.beq q2 172 && Nat.beq q3 3 && Nat.beq q4 5 && Nat.beq q5 1 && Nat.beq q6 2 | _ => false)
  | _, _ => false
noncomputable def spg92_a20 (F : YF92_a20) : Ev.Spec := fun args objs k => match args, objs with
  | [.c (.ptr q0 q1)], [.cells q2 cs0, .vec q3 (.int .i64) x4 false, .vec q4 (.int .u8) x5 false] => (match splitRun 2 [(.i64, 2048), (.i64, 1792), (.i64, 1568), (.i64, 1372), (.i64, 1201), (.i64, 1051), (.i64, 920), (.i64, 805), (.i64, 705), (.i64, 617), (.i64, 540), (.i64, 473), (.i64, 414), (.i64, 363), (.i64, 318), (.i64, 279), (.i64, 245), (.i64, 215), (.i64, 189), (.i64, 166), (.i64, 146), (.i64, 128), (.i64, 112), (.i64, 98), (.i64, 86), (.i64, 76), (.i64, 67), (.i64, 59), (.i64, 52), (.i64, 46), (.i64, 41), (.i64, 36)] cs0 with | some ([.int .i64 x0, .own q5], [.int .u64 x1, .int .u64 x2, .own q6, .bool x3]) => bif Nat.beq q0 0 && Nat.beq q1 0 && Nat.beq q2 172 && Nat.beq q3 3 && Nat.beq q4 5 && Nat.beq q5 1 && Nat.beq q6 2 then F x0 x1 x2 x3 x4 x5 (fun r => match r with | (r0, r1, r2, r3, r4, r5, r6) => k (.c (.own 3), [.cells 172 (.int .i64 r0 :: .own 1 :: .int .i64 2048 :: .int .i64 1792 :: .int .i64 1568 :: .int .i64 1372 :: .int .i64 1201 :: .int .i64 1051 :: .int .i64 920 :: .int .i64 805 :: .int .i64 705 :: .int .i64 617 :: .int .i64 540 :: .int .i64 473 :: .int .i64 414 :: .int .i64 363 :: .int .i64 318 :: .int .i64 279 :: .int .i64 245 :: .int .i64 215 :: .int .i64 189 :: .int .i64 166 :: .int .i64 146 :: .int .i64 128 :: .int .i64 112 :: .int .i64 98 :: .int .i64 86 :: .int .i64 76 :: .int .i64 67 :: .int .i64 59 :: .int .i64 52 :: .int .i64 46 :: .int .i64 41 :: .int .i64 36 :: .int .u64 r1 :: .int .u64 r2 :: .own 2 :: .bool r3 :: []), .vec 3 (.int .i64) r4 false, .vec 5 (.int .u8) r5 false, .vec 5 (.int .u8) r6 true])) else none | _ => none)
  | _, _ => none
noncomputable def spec92_a20 (fuel : Nat) : Ev.Spec := spg92_a20 (F_coder_Encoder_End_a20 fuel)
theorem ok92_a20 (fuel : Nat) : FnOK Try.prog 92 (spec92_a20 fuel) := by
  intro args objs kk r h
  unfold spec92_a20 spg92_a20 at h
  split at h
  · skip
    split at h
    rotate_left 1
    · cases h
    rename_i hsp
    have esp := splitRun_eq hsp
    subst esp
    obtain ⟨hb, h⟩ := cond_some' h
    simp only [Bool.and_eq_true, Nat.beq_eq, decide_eq_true_eq] at hb
    obtain ⟨⟨⟨⟨⟨⟨rfl, rfl⟩, rfl⟩, rfl⟩, rfl⟩, rfl⟩, rfl⟩ := hb
    exact fok92_a20 fuel _ _ kk r ((F92_a20_eq fuel _ _ _ _ _ _ kk).trans h)
  · cases h
end Go.Proofs.Ytihfgpfofmjbaaa

set_option linter.unusedVariables false
set_option linter.unusedSimpArgs false
set_option maxRecDepth 100000
set_option maxHeartbeats 2000000
namespace Go.Proofs.Ytihfgpfofmjbaaa
open Go Ev
def kp41 (i : Nat) : Option (List Nat) := Ev.look i []
noncomputable def Gg41 (f : Nat) : Option Ev.Spec := Ev.look f []
noncomputable def G41 (fuel : Nat) : Nat → Option Ev.Spec := Gg41
noncomputable def J41 (fuel : Nat) (i : Nat) : Option Ev.Blk := Ev.look i []
noncomputable def F_coder_New (fuel : Nat) (x0 : Int) (x1 : Int) (k0 : (Int × Int × (List Int)) → Option Ans) : Option Ans :=
  bif x0 != (0 : Int) then
   bif x0 != (1 : Int) then
    k0 ((0 : Int), (2 : Int), [])
   else
    bif Decidable.decide (x1 < (0 : Int)) then
     k0 ((0 : Int), (2 : Int), [])
    else
     bif Decidable.decide (x1 > (8192 : Int)) then
      k0 ((0 : Int), (2 : Int), [])
     else
      bif Decidable.decide ((0 : Int) ≤ x1 ∧ x1 = x1 ∧ (↑(8 : Nat) : Int) * x1 ≤ (281474976710656 : Int) ∧ x1 ≤ (281474976710656 : Int)) then
      k0 (x0, (0 : Int), List.replicate x1.toNat (0 : Int))
      else none
  else
   bif Decidable.decide (x1 < (0 : Int)) then
    k0 ((0 : Int), (2 : Int), [])
   else
    bif Decidable.decide (x1 > (8192 : Int)) then
     k0 ((0 : Int), (2 : Int), [])
    else
     bif Decidable.decide ((0 : Int) ≤ x1 ∧ x1 = x1 ∧ (↑(8 : Nat) : Int) * x1 ≤ (281474976710656 : Int) ∧ x1 ≤ (281474976710656 : Int)) then
     k0 (x0, (0 : Int), List.replicate x1.toNat (0 : Int))
     else none
abbrev YF41 : Type := (Int) → (Int) → ((Int × Int × (List Int)) → Option Ans) → Option Ans
theorem F41_eq (fuel : Nat) (x0 : Int) (x1 : Int) (k : Ev.Cont) : evalFn tab (G41 fuel) (J41 fuel) kp41 fuel Try.f41 [.c (.int .i64 x0), .c (.int .i64 x1)] [] k = F_coder_New fuel x0 x1 (fun r => match r with | (r0, r1, r2) => k (.tup [(true, [.int .i64 r0, .own 0]), (false, [.int .i64 r1])], [.vec 3 (.int .i64) r2 true])) := by
  kernel_rfl
theorem hG41 (fuel : Nat) : GOK Try.prog (G41 fuel) :=
  gok_nil
theorem fok41 (fuel : Nat) : FnOK Try.prog 41 (evalFn tab (G41 fuel) (J41 fuel) kp41 fuel Try.f41) :=
  fn_ok tab_ok (hG41 fuel) mixed Try.func41 (c := (Try.f41.body).getD .skip) rfl (fun q hq => by
    rw [(by kernel_rfl : obl (J41 fuel) ((Try.f41.body).getD .skip) = [])] at hq
    cases hq)
noncomputable def mt41 : List Ev.SV → List Ev.Ob → Bool := fun args objs => match args, objs with
  | [.c (.int .i64 _), .c (.int .i64 _)], [] => true
  | _, _ => false
noncomputable def spg41 (F : YF41) : Ev.Spec := fun args objs k => match args, objs with
  | [.c (.int .i64 x0), .c (.int .i64 x1)], [] => bif true then F x0 x1 (fun r => match r with | (r0, r1, r2) => k (.tup [(true, [.int .i64 r0, .own 0]), (false, [.int .i64 r1])], [.vec 3 (.int .i64) r2 true])) else none
  | _, _ => none
noncomputable def spec41 (fuel : Nat) : Ev.Spec := spg41 (F_coder_New fuel)
theorem ok41 (fuel : Nat) : FnOK Try.prog 41 (spec41 fuel) := by
  intro args objs kk r h
  unfold spec41 spg41 at h
  split at h
  · skip
    obtain ⟨hb, h⟩ := cond_some' h
    simp only [Bool.and_eq_true, Nat.beq_eq, decide_eq_true_eq] at hb
    clear hb
    exact fok41 fuel _ _ kk r ((F41_eq fuel _ _ kk).trans h)
  · cases h
end Go.Proofs.Ytihfgpfofmjbaaa

set_option linter.unusedVariables false
set_option linter.unusedSimpArgs false
set_option maxRecDepth 100000
set_option maxHeartbeats 2000000
namespace Go.Proofs.Ytihfgpfofmjbaaa
open Go Ev
def kp113 (i : Nat) : Option (List Nat) := Ev.look i [(7, [3, 24, 25, 26]), (100000, []), (400000, [2])]
noncomputable def Gg113 (f : Nat) : Option Ev.Spec := Ev.look f []
noncomputable def G113 (fuel : Nat) : Nat → Option Ev.Spec := Gg113
noncomputable def S_coder_Valid_0 (fuel : Nat) (v : Int × (List Int) × Int × Int) (c : (Int × (List Int) × Int × Int) → Option Ans) (B : (Bool → Option Ans) × (Unit → Option Ans)) : Option Ans := match v, B with
  | (x0, x1, x2, x3), (ret, b) =>
   bif Decidable.decide (x3 < x2) then
      bif Decidable.decide ((0 : Int) ≤ x3 ∧ x3 < (↑x1.length : Int)) then
      bif Decidable.decide (x1.getD x3.toNat (0 : Int) < (0 : Int)) then
        ret Bool.false
       else
        bif Decidable.decide (x1.getD x3.toNat (0 : Int) ≥ x0) then
         ret Bool.false
        else
         c (x0, x1, x2, Go.IntKind.i64.wrap (x3 + (1 : Int)))
      else none
     else
      b ()
noncomputable def L_coder_Valid_0 (fuel : Nat) (v : Int × (List Int) × Int × Int) (ret : (Bool → Option Ans)) (b : (Unit → Option Ans)) : Option Ans := iter (S_coder_Valid_0 fuel) fuel v (ret, b)
noncomputable def J113_0 (fuel : Nat) (i : Nat) : Option Ev.Blk := Ev.look i []
noncomputable def T113_0 (v : Int × (List Int) × Int × Int) : Ev.St := match v with | (x0, x1, x2, x3) => ⟨[(3, .c (.int .i64 x0)), (24, .c (.sl (.int .i64) x1)), (25, .c (.int .i64 x2)), (26, .c (.int .i64 x3))], [], 0, 0⟩
noncomputable def E113_0 (K : Ev.Ex → Ev.St → Option Ans) : (Bool → Option Ans) × (Unit → Option Ans) := ((fun v => match v with | x0 => K .ret ⟨[(2, .c (.bool x0))], [], 0, 0⟩), (fun v => match v with | () => K .normal ⟨[], [], 0, 0⟩))
theorem S113_0_ok (fuel : Nat) (R : Ev.St → Option Ans) (K : Ev.Ex → Ev.St → Option Ans) (x0 : Int) (x1 : (List Int)) (x2 : Int) (x3 : Int) : evalCode tab (G113 fuel) (J113_0 fuel) kp113 fuel (bodyOf 0 Try.f113) (T113_0 (x0, x1, x2, x3)) (lc kp113 7 0 R K) = S_coder_Valid_0 fuel (x0, x1, x2, x3) (fun v => R (T113_0 v)) (E113_0 K) := by
  kernel_rfl
noncomputable def B113_0 (fuel : Nat) : Ev.Blk := fun st K => match canonO (kp113 7) st with
  | some s => (match s with
    | ⟨[(q0, .c (.int .i64 x0)), (q1, .c (.sl (.int .i64) x1)), (q2, .c (.int .i64 x2)), (q3, .c (.int .i64 x3))], [], q4, q5⟩ => bif Nat.beq q0 3 && Nat.beq q1 24 && Nat.beq q2 25 && Nat.beq q3 26 && Nat.beq q4 0 && Nat.beq q5 0 then iter (S_coder_Valid_0 fuel) fuel (x0, x1, x2, x3) (E113_0 K) else none
    | _ => none)
  | none => none
theorem B113_0_ok (fuel : Nat) (st : Ev.St) (K : Ev.Ex → Ev.St → Option Ans) (r : Ans) (h : B113_0 fuel st K = some r) : evalCode tab (G113 fuel) (J113_0 fuel) kp113 fuel (.block 0 (.loop (bodyOf 0 Try.f113))) st K = some r := by
  unfold B113_0 at h
  split at h
  · rename_i s hs
    split at h
    · skip
      obtain ⟨hb, h⟩ := cond_some' h
      simp only [Bool.and_eq_true, Nat.beq_eq, decide_eq_true_eq] at hb
      obtain ⟨⟨⟨⟨⟨rfl, rfl⟩, rfl⟩, rfl⟩, rfl⟩, rfl⟩ := hb
      exact blk_loop (S := T113_0) (ks := E113_0) (step := S_coder_Valid_0 fuel) (v := (_, _, _, _)) (by kernel_rfl) (by kernel_rfl) (fun R K v => by obtain ⟨x0, x1, x2, x3⟩ := v; exact S113_0_ok fuel R K x0 x1 x2 x3) hs h
    · cases h
  · cases h
noncomputable def J113 (fuel : Nat) (i : Nat) : Option Ev.Blk := Ev.look i [(100000, B113_0 fuel)]
noncomputable def F_coder_Valid (fuel : Nat) (x0 : Int) (x1 : (List Int)) (k0 : (Bool) → Option Ans) : Option Ans :=
  bif x0 != (0 : Int) then
   bif x0 != (1 : Int) then
    k0 Bool.false
   else
    bif Decidable.decide ((↑x1.length : Int) > (8192 : Int)) then
     k0 Bool.false
    else
     bif x0 == (1 : Int) then
      (L_coder_Valid_0 fuel ((65536 : Int), x1, (↑x1.length : Int), (0 : Int))
        (fun ret0_0 =>
          k0 ret0_0)
        (fun () =>
          k0 Bool.true))
     else
      (L_coder_Valid_0 fuel ((64 : Int), x1, (↑x1.length : Int), (0 : Int))
        (fun ret0_0 =>
          k0 ret0_0)
        (fun () =>
          k0 Bool.true))
  else
   bif Decidable.decide ((↑x1.length : Int) > (8192 : Int)) then
    k0 Bool.false
   else
    bif x0 == (1 : Int) then
     (L_coder_Valid_0 fuel ((65536 : Int), x1, (↑x1.length : Int), (0 : Int))
       (fun ret0_0 =>
         k0 ret0_0)
       (fun () =>
         k0 Bool.true))
    else
     (L_coder_Valid_0 fuel ((64 : Int), x1, (↑x1.length : Int), (0 : Int))
       (fun ret0_0 =>
         k0 ret0_0)
       (fun () =>
         k0 Bool.true))
abbrev YF113 : Type := (Int) → ((List Int)) → ((Bool) → Option Ans) → Option Ans
theorem F113_eq (fuel : Nat) (x0 : Int) (x1 : (List Int)) (k : Ev.Cont) : evalFn tab (G113 fuel) (J113 fuel) kp113 fuel Try.f113 [.agg [.int .i64 x0, .sl (.int .i64) x1]] [] k = F_coder_Valid fuel x0 x1 (fun r => match r with | r0 => k (.c (.bool r0), [])) := by
  kernel_rfl
theorem hG113 (fuel : Nat) : GOK Try.prog (G113 fuel) :=
  gok_nil
theorem B113_0_blk (fuel : Nat) : BlkOK Try.prog Try.f113.ntmps (.block 0 (.loop (bodyOf 0 Try.f113))) (B113_0 fuel) :=
  blk_of (blk_of_code tab_ok (hG113 fuel) mixed (J := J113_0 fuel) (kp := kp113) (fuel := fuel) (by kernel_rfl) (fun q hq => by
    rw [(by kernel_rfl : obl (J113_0 fuel) (.block 0 (.loop (bodyOf 0 Try.f113))) = [])] at hq
    cases hq)) (B113_0_ok fuel)
theorem fok113 (fuel : Nat) : FnOK Try.prog 113 (evalFn tab (G113 fuel) (J113 fuel) kp113 fuel Try.f113) :=
  fn_ok tab_ok (hG113 fuel) mixed Try.func113 (c := (Try.f113.body).getD .skip) rfl (fun q hq => by
    rw [(by kernel_rfl : obl (J113 fuel) ((Try.f113.body).getD .skip) = [(.block 0 (.loop (bodyOf 0 Try.f113)), B113_0 fuel)])] at hq
    simp only [List.mem_cons, List.not_mem_nil, or_false] at hq
    subst hq
    · exact B113_0_blk fuel)
noncomputable def mt113 : List Ev.SV → List Ev.Ob → Bool := fun args objs => match args, objs with
  | [.agg [.int .i64 _, .sl (.int .i64) _]], [] => true
  | _, _ => false
noncomputable def spg113 (F : YF113) : Ev.Spec := fun args objs k => match args, objs with
  | [.agg [.int .i64 x0, .sl (.int .i64) x1]], [] => bif true then F x0 x1 (fun r => match r with | r0 => k (.c (.bool r0), [])) else none
  | _, _ => none
noncomputable def spec113 (fuel : Nat) : Ev.Spec := spg113 (F_coder_Valid fuel)
theorem ok113 (fuel : Nat) : FnOK Try.prog 113 (spec113 fuel) := by
  intro args objs kk r h
  unfold spec113 spg113 at h
  split at h
  · skip
    obtain ⟨hb, h⟩ := cond_some' h
    simp only [Bool.and_eq_true, Nat.beq_eq, decide_eq_true_eq] at hb
    clear hb
    exact fok113 fuel _ _ kk r ((F113_eq fuel _ _ kk).trans h)
  · cases h
end Go.Proofs.Ytihfgpfofmjbaaa

set_option linter.unusedVariables false
set_option linter.unusedSimpArgs false
set_option maxRecDepth 100000
set_option maxHeartbeats 2000000
namespace Go.Proofs.Ytihfgpfofmjbaaa
open Go Ev
def kp178 (i : Nat) : Option (List Nat) := Ev.look i [(4, [0, 1, 2, 4]), (100000, [0, 1]), (400000, [0])]
noncomputable def Gg178 (f : Nat) : Option Ev.Spec := Ev.look f []
noncomputable def G178 (fuel : Nat) : Nat → Option Ev.Spec := Gg178
noncomputable def J178 (fuel : Nat) (i : Nat) : Option Ev.Blk := Ev.look i []
noncomputable def F_coder_chances (fuel : Nat)  (k0 : (Unit) → Option Ans) : Option Ans :=
  k0 ()
abbrev YF178 : Type := ((Unit) → Option Ans) → Option Ans
theorem F178_eq (fuel : Nat)  (k : Ev.Cont) : evalFn tab (G178 fuel) (J178 fuel) kp178 100 Try.f178 [] [] k = F_coder_chances fuel  (fun r => match r with | () => k (.agg (.int .i64 2048 :: .int .i64 1792 :: .int .i64 1568 :: .int .i64 1372 :: .int .i64 1201 :: .int .i64 1051 :: .int .i64 920 :: .int .i64 805 :: .int .i64 705 :: .int .i64 617 :: .int .i64 540 :: .int .i64 473 :: .int .i64 414 :: .int .i64 363 :: .int .i64 318 :: .int .i64 279 :: .int .i64 245 :: .int .i64 215 :: .int .i64 189 :: .int .i64 166 :: .int .i64 146 :: .int .i64 128 :: .int .i64 112 :: .int .i64 98 :: .int .i64 86 :: .int .i64 76 :: .int .i64 67 :: .int .i64 59 :: .int .i64 52 :: .int .i64 46 :: .int .i64 41 :: .int .i64 36 :: []), [])) := by
  kernel_rfl
theorem hG178 (fuel : Nat) : GOK Try.prog (G178 fuel) :=
  gok_nil
theorem fok178 (fuel : Nat) : FnOK Try.prog 178 (evalFn tab (G178 fuel) (J178 fuel) kp178 100 Try.f178) :=
  fn_ok tab_ok (hG178 fuel) mixed Try.func178 (c := (Try.f178.body).getD .skip) rfl (fun q hq => by
    rw [(by kernel_rfl : obl (J178 fuel) ((Try.f178.body).getD .skip) = [])] at hq
    cases hq)
noncomputable def mt178 : List Ev.SV → List Ev.Ob → Bool := fun args objs => match args, objs with
  | [], [] => true
  | _, _ => false
noncomputable def spg178 (F : YF178) : Ev.Spec := fun args objs k => match args, objs with
  | [], [] => bif true then F  (fun r => match r with | () => k (.agg (.int .i64 2048 :: .int .i64 1792 :: .int .i64 1568 :: .int .i64 1372 :: .int .i64 1201 :: .int .i64 1051 :: .int .i64 920 :: .int .i64 805 :: .int .i64 705 :: .int .i64 617 :: .int .i64 540 :: .int .i64 473 :: .int .i64 414 :: .int .i64 363 :: .int .i64 318 :: .int .i64 279 :: .int .i64 245 :: .int .i64 215 :: .int .i64 189 :: .int .i64 166 :: .int .i64 146 :: .int .i64 128 :: .int .i64 112 :: .int .i64 98 :: .int .i64 86 :: .int .i64 76 :: .int .i64 67 :: .int .i64 59 :: .int .i64 52 :: .int .i64 46 :: .int .i64 41 :: .int .i64 36 :: []), [])) else none
  | _, _ => none
noncomputable def spec178 (fuel : Nat) : Ev.Spec := spg178 (F_coder_chances fuel)
theorem ok178 (fuel : Nat) : FnOK Try.prog 178 (spec178 fuel) := by
  intro args objs kk r h
  unfold spec178 spg178 at h
  split at h
  · skip
    obtain ⟨hb, h⟩ := cond_some' h
    simp only [Bool.and_eq_true, Nat.beq_eq, decide_eq_true_eq] at hb
    clear hb
    exact fok178 fuel _ _ kk r ((F178_eq fuel kk).trans h)
  · cases h
end Go.Proofs.Ytihfgpfofmjbaaa

set_option linter.unusedVariables false
set_option linter.unusedSimpArgs false
set_option maxRecDepth 100000
set_option maxHeartbeats 2000000
namespace Go.Proofs.Ytihfgpfofmjbaaa
open Go Ev
def kp170 (i : Nat) : Option (List Nat) := Ev.look i [(200001, [1])]
noncomputable def Gg170 (f : Nat) : Option Ev.Spec := Ev.look f []
noncomputable def G170 (fuel : Nat) : Nat → Option Ev.Spec := Gg170
noncomputable def J170 (fuel : Nat) (i : Nat) : Option Ev.Blk := Ev.look i []
noncomputable def F_coder_clone (fuel : Nat) (x0 : Int) (x1 : (List Int)) (k0 : (Int × (List Int)) → Option Ans) : Option Ans :=
  bif Decidable.decide (((0 : Nat) + x1.length) * (8 : Nat) ≤ (140737488355328 : Nat) ∧ (0 : Nat) + x1.length ≤ (140737488355328 : Nat)) then
  k0 (x0, [] ++ x1)
  else none
abbrev YF170 : Type := (Int) → ((List Int)) → ((Int × (List Int)) → Option Ans) → Option Ans
theorem F170_eq (fuel : Nat) (x0 : Int) (x1 : (List Int)) (k : Ev.Cont) : evalFn tab (G170 fuel) (J170 fuel) kp170 fuel Try.f170 [.agg [.int .i64 x0, .sl (.int .i64) x1]] [] k = F_coder_clone fuel x0 x1 (fun r => match r with | (r0, r1) => k (.agg [.int .i64 r0, .own 0], [.vec 3 (.int .i64) r1 true])) := by
  kernel_rfl
theorem hG170 (fuel : Nat) : GOK Try.prog (G170 fuel) :=
  gok_nil
theorem fok170 (fuel : Nat) : FnOK Try.prog 170 (evalFn tab (G170 fuel) (J170 fuel) kp170 fuel Try.f170) :=
  fn_ok tab_ok (hG170 fuel) mixed Try.func170 (c := (Try.f170.body).getD .skip) rfl (fun q hq => by
    rw [(by kernel_rfl : obl (J170 fuel) ((Try.f170.body).getD .skip) = [])] at hq
    cases hq)
noncomputable def mt170 : List Ev.SV → List Ev.Ob → Bool := fun args objs => match args, objs with
  | [.agg [.int .i64 _, .sl (.int .i64) _]], [] => true
  | _, _ => false
noncomputable def spg170 (F : YF170) : Ev.Spec := fun args objs k => match args, objs with
  | [.agg [.int .i64 x0, .sl (.int .i64) x1]], [] => bif true then F x0 x1 (fun r => match r with | (r0, r1) => k (.agg [.int .i64 r0, .own 0], [.vec 3 (.int .i64) r1 true])) else none
  | _, _ => none
noncomputable def spec170 (fuel : Nat) : Ev.Spec := spg170 (F_coder_clone fuel)
theorem ok170 (fuel : Nat) : FnOK Try.prog 170 (spec170 fuel) := by
  intro args objs kk r h
  unfold spec170 spg170 at h
  split at h
  · skip
    obtain ⟨hb, h⟩ := cond_some' h
    simp only [Bool.and_eq_true, Nat.beq_eq, decide_eq_true_eq] at hb
    clear hb
    exact fok170 fuel _ _ kk r ((F170_eq fuel _ _ kk).trans h)
  · cases h
end Go.Proofs.Ytihfgpfofmjbaaa

set_option linter.unusedVariables false
set_option linter.unusedSimpArgs false
set_option maxRecDepth 100000
set_option maxHeartbeats 2000000
namespace Go.Proofs.Ytihfgpfofmjbaaa
open Go Ev
def kp114 (i : Nat) : Option (List Nat) := Ev.look i []
noncomputable def Gg114 (f170 : YF170) (f178 : YF178) (f : Nat) : Option Ev.Spec := Ev.look f [(170, spg170 f170), (178, spg178 f178)]
noncomputable def G114 (fuel : Nat) : Nat → Option Ev.Spec := Gg114 (F_coder_clone fuel) (F_coder_chances fuel)
noncomputable def J114 (fuel : Nat) (i : Nat) : Option Ev.Blk := Ev.look i []
noncomputable def F_coder_begin (fuel : Nat) (x0 : Int) (x1 : (List Int)) (k0 : (Int × Int × Int × (List Int)) → Option Ans) : Option Ans :=
  (F_coder_clone fuel (x0) (x1)
    (fun (y2_0, y2_1) =>
      (F_coder_chances fuel
        (fun y6 =>
          k0 (y2_0, (0 : Int), (4294967295 : Int), y2_1)))))
abbrev YF114 : Type := (Int) → ((List Int)) → ((Int × Int × Int × (List Int)) → Option Ans) → Option Ans
theorem F114_eqg (fuel : Nat) (f170 : YF170) (f178 : YF178) (x0 : Int) (x1 : (List Int)) (k : Ev.Cont) : evalFn tab (Gg114 f170 f178) (J114 fuel) kp114 fuel Try.f114 [.agg [.int .i64 x0, .sl (.int .i64) x1]] [] k = (fun  (k0 : (Int × Int × Int × (List Int)) → Option Ans) =>
  (f170 (x0) (x1)
    (fun (y2_0, y2_1) =>
      (f178
        (fun y6 =>
          k0 (y2_0, (0 : Int), (4294967295 : Int), y2_1)))))) (fun r => match r with | (r0, r1, r2, r3) => k (.agg (.int .i64 r0 :: .own 0 :: .int .i64 2048 :: .int .i64 1792 :: .int .i64 1568 :: .int .i64 1372 :: .int .i64 1201 :: .int .i64 1051 :: .int .i64 920 :: .int .i64 805 :: .int .i64 705 :: .int .i64 617 :: .int .i64 540 :: .int .i64 473 :: .int .i64 414 :: .int .i64 363 :: .int .i64 318 :: .int .i64 279 :: .int .i64 245 :: .int .i64 215 :: .int .i64 189 :: .int .i64 166 :: .int .i64 146 :: .int .i64 128 :: .int .i64 112 :: .int .i64 98 :: .int .i64 86 :: .int .i64 76 :: .int .i64 67 :: .int .i64 59 :: .int .i64 52 :: .int .i64 46 :: .int .i64 41 :: .int .i64 36 :: .int .u64 r1 :: .int .u64 r2 :: []), [.vec 3 (.int .i64) r3 true])) := by
  kernel_rfl
theorem F114_eq (fuel : Nat) (x0 : Int) (x1 : (List Int)) (k : Ev.Cont) : evalFn tab (G114 fuel) (J114 fuel) kp114 fuel Try.f114 [.agg [.int .i64 x0, .sl (.int .i64) x1]] [] k = F_coder_begin fuel x0 x1 (fun r => match r with | (r0, r1, r2, r3) => k (.agg (.int .i64 r0 :: .own 0 :: .int .i64 2048 :: .int .i64 1792 :: .int .i64 1568 :: .int .i64 1372 :: .int .i64 1201 :: .int .i64 1051 :: .int .i64 920 :: .int .i64 805 :: .int .i64 705 :: .int .i64 617 :: .int .i64 540 :: .int .i64 473 :: .int .i64 414 :: .int .i64 363 :: .int .i64 318 :: .int .i64 279 :: .int .i64 245 :: .int .i64 215 :: .int .i64 189 :: .int .i64 166 :: .int .i64 146 :: .int .i64 128 :: .int .i64 112 :: .int .i64 98 :: .int .i64 86 :: .int .i64 76 :: .int .i64 67 :: .int .i64 59 :: .int .i64 52 :: .int .i64 46 :: .int .i64 41 :: .int .i64 36 :: .int .u64 r1 :: .int .u64 r2 :: []), [.vec 3 (.int .i64) r3 true])) :=
  F114_eqg fuel (F_coder_clone fuel) (F_coder_chances fuel) x0 x1 k
theorem hG114 (fuel : Nat) : GOK Try.prog (G114 fuel) :=
  gok_cons ⟨ok170 fuel, enters_of Try.func170 (by kernel_rfl) rfl⟩ <|
  gok_cons ⟨ok178 fuel, enters_of Try.func178 (by kernel_rfl) rfl⟩ <|
  gok_nil
theorem fok114 (fuel : Nat) : FnOK Try.prog 114 (evalFn tab (G114 fuel) (J114 fuel) kp114 fuel Try.f114) :=
  fn_ok tab_ok (hG114 fuel) mixed Try.func114 (c := (Try.f114.body).getD .skip) rfl (fun q hq => by
    rw [(by kernel_rfl : obl (J114 fuel) ((Try.f114.body).getD .skip) = [])] at hq
    cases hq)
noncomputable def mt114 : List Ev.SV → List Ev.Ob → Bool := fun args objs => match args, objs with
  | [.agg [.int .i64 _, .sl (.int .i64) _]], [] => true
  | _, _ => false
noncomputable def spg114 (F : YF114) : Ev.Spec := fun args objs k => match args, objs with
  | [.agg [.int .i64 x0, .sl (.int .i64) x1]], [] => bif true then F x0 x1 (fun r => match r with | (r0, r1, r2, r3) => k (.agg (.int .i64 r0 :: .own 0 :: .int .i64 2048 :: .int .i64 1792 :: .int .i64 1568 :: .int .i64 1372 :: .int .i64 1201 :: .int .i64 1051 :: .int .i64 920 :: .int .i64 805 :: .int .i64 705 :: .int .i64 617 :: .int .i64 540 :: .int .i64 473 :: .int .i64 414 :: .int .i64 363 :: .int .i64 318 :: .int .i64 279 :: .int .i64 245 :: .int .i64 215 :: .int .i64 189 :: .int .i64 166 :: .int .i64 146 :: .int .i64 128 :: .int .i64 112 :: .int .i64 98 :: .int .i64 86 :: .int .i64 76 :: .int .i64 67 :: .int .i64 59 :: .int .i64 52 :: .int .i64 46 :: .int .i64 41 :: .int .i64 36 :: .int .u64 r1 :: .int .u64 r2 :: []), [.vec 3 (.int .i64) r3 true])) else none
  | _, _ => none
noncomputable def spec114 (fuel : Nat) : Ev.Spec := spg114 (F_coder_begin fuel)
theorem ok114 (fuel : Nat) : FnOK Try.prog 114 (spec114 fuel) := by
  intro args objs kk r h
  unfold spec114 spg114 at h
  split at h
  · skip
    obtain ⟨hb, h⟩ := cond_some' h
    simp only [Bool.and_eq_true, Nat.beq_eq, decide_eq_true_eq] at hb
    clear hb
    exact fok114 fuel _ _ kk r ((F114_eq fuel _ _ kk).trans h)
  · cases h
end Go.Proofs.Ytihfgpfofmjbaaa

set_option linter.unusedVariables false
set_option linter.unusedSimpArgs false
set_option maxRecDepth 100000
set_option maxHeartbeats 2000000
namespace Go.Proofs.Ytihfgpfofmjbaaa
open Go Ev
def kp46 (i : Nat) : Option (List Nat) := Ev.look i [(600000, [])]
noncomputable def Gg46 (f113 : YF113) (f114 : YF114) (f : Nat) : Option Ev.Spec := Ev.look f [(113, spg113 f113), (114, spg114 f114)]
noncomputable def G46 (fuel : Nat) : Nat → Option Ev.Spec := Gg46 (F_coder_Valid fuel) (F_coder_begin fuel)
noncomputable def J46 (fuel : Nat) (i : Nat) : Option Ev.Blk := Ev.look i []
noncomputable def F_coder_NewEncoder (fuel : Nat) (x0 : Int) (x1 : (List Int)) (k0 : (Int) → Option Ans) (k1 : (Int × Int × Int × Int × Bool × (List Int) × (List Int)) → Option Ans) : Option Ans :=
  (F_coder_Valid fuel (x0) (x1)
    (fun y2 =>
      bif !y2 then
       k0 ((10 : Int))
      else
       (F_coder_begin fuel (x0) (x1)
         (fun (y7_0, y7_1, y7_2, y7_3) =>
           k1 ((0 : Int), y7_0, y7_1, y7_2, Bool.true, y7_3, [])))))
abbrev YF46 : Type := (Int) → ((List Int)) → ((Int) → Option Ans) → ((Int × Int × Int × Int × Bool × (List Int) × (List Int)) → Option Ans) → Option Ans
theorem F46_eqg (fuel : Nat) (f113 : YF113) (f114 : YF114) (x0 : Int) (x1 : (List Int)) (k : Ev.Cont) : evalFn tab (Gg46 f113 f114) (J46 fuel) kp46 fuel Try.f46 [.agg [.int .i64 x0, .sl (.int .i64) x1]] [] k = (fun  (k0 : (Int) → Option Ans) (k1 : (Int × Int × Int × Int × Bool × (List Int) × (List Int)) → Option Ans) =>
  (f113 (x0) (x1)
    (fun y2 =>
      bif !y2 then
       k0 ((10 : Int))
      else
       (f114 (x0) (x1)
         (fun (y7_0, y7_1, y7_2, y7_3) =>
           k1 ((0 : Int), y7_0, y7_1, y7_2, Bool.true, y7_3, [])))))) (fun r => match r with | r0 => k (.tup [(false, [.nilptr]), (false, [.int .i64 r0])], [])) (fun r => match r with | (r0, r1, r2, r3, r4, r5, r6) => k (.tup [(false, [.ptr 0 0]), (false, [.int .i64 r0])], [.cells 172 (.int .i64 r1 :: .own 1 :: .int .i64 2048 :: .int .i64 1792 :: .int .i64 1568 :: .int .i64 1372 :: .int .i64 1201 :: .int .i64 1051 :: .int .i64 920 :: .int .i64 805 :: .int .i64 705 :: .int .i64 617 :: .int .i64 540 :: .int .i64 473 :: .int .i64 414 :: .int .i64 363 :: .int .i64 318 :: .int .i64 279 :: .int .i64 245 :: .int .i64 215 :: .int .i64 189 :: .int .i64 166 :: .int .i64 146 :: .int .i64 128 :: .int .i64 112 :: .int .i64 98 :: .int .i64 86 :: .int .i64 76 :: .int .i64 67 :: .int .i64 59 :: .int .i64 52 :: .int .i64 46 :: .int .i64 41 :: .int .i64 36 :: .int .u64 r2 :: .int .u64 r3 :: .own 2 :: .bool r4 :: []), .vec 3 (.int .i64) r5 true, .vec 5 (.int .u8) r6 true])) := by
  kernel_rfl
theorem F46_eq (fuel : Nat) (x0 : Int) (x1 : (List Int)) (k : Ev.Cont) : evalFn tab (G46 fuel) (J46 fuel) kp46 fuel Try.f46 [.agg [.int .i64 x0, .sl (.int .i64) x1]] [] k = F_coder_NewEncoder fuel x0 x1 (fun r => match r with | r0 => k (.tup [(false, [.nilptr]), (false, [.int .i64 r0])], [])) (fun r => match r with | (r0, r1, r2, r3, r4, r5, r6) => k (.tup [(false, [.ptr 0 0]), (false, [.int .i64 r0])], [.cells 172 (.int .i64 r1 :: .own 1 :: .int .i64 2048 :: .int .i64 1792 :: .int .i64 1568 :: .int .i64 1372 :: .int .i64 1201 :: .int .i64 1051 :: .int .i64 920 :: .int .i64 805 :: .int .i64 705 :: .int .i64 617 :: .int .i64 540 :: .int .i64 473 :: .int .i64 414 :: .int .i64 363 :: .int .i64 318 :: .int .i64 279 :: .int .i64 245 :: .int .i64 215 :: .int .i64 189 :: .int .i64 166 :: .int .i64 146 :: .int .i64 128 :: .int .i64 112 :: .int .i64 98 :: .int .i64 86 :: .int .i64 76 :: .int .i64 67 :: .int .i64 59 :: .int .i64 52 :: .int .i64 46 :: .int .i64 41 :: .int .i64 36 :: .int .u64 r2 :: .int .u64 r3 :: .own 2 :: .bool r4 :: []), .vec 3 (.int .i64) r5 true, .vec 5 (.int .u8) r6 true])) :=
  F46_eqg fuel (F_coder_Valid fuel) (F_coder_begin fuel) x0 x1 k
theorem hG46 (fuel : Nat) : GOK Try.prog (G46 fuel) :=
  gok_cons ⟨ok113 fuel, enters_of Try.func113 (by kernel_rfl) rfl⟩ <|
  gok_cons ⟨ok114 fuel, enters_of Try.func114 (by kernel_rfl) rfl⟩ <|
  gok_nil
theorem fok46 (fuel : Nat) : FnOK Try.prog 46 (evalFn tab (G46 fuel) (J46 fuel) kp46 fuel Try.f46) :=
  fn_ok tab_ok (hG46 fuel) mixed Try.func46 (c := (Try.f46.body).getD .skip) rfl (fun q hq => by
    rw [(by kernel_rfl : obl (J46 fuel) ((Try.f46.body).getD .skip) = [])] at hq
    cases hq)
noncomputable def mt46 : List Ev.SV → List Ev.Ob → Bool := fun args objs => match args, objs with
  | [.agg [.int .i64 _, .sl (.int .i64) _]], [] => true
  | _, _ => false
noncomputable def spg46 (F : YF46) : Ev.Spec := fun args objs k => match args, objs with
  | [.agg [.int .i64 x0, .sl (.int .i64) x1]], [] => bif true then F x0 x1 (fun r => match r with | r0 => k (.tup [(false, [.nilptr]), (false, [.int .i64 r0])], [])) (fun r => match r with | (r0, r1, r2, r3, r4, r5, r6) => k (.tup [(false, [.ptr 0 0]), (false, [.int .i64 r0])], [.cells 172 (.int .i64 r1 :: .own 1 :: .int .i64 2048 :: .int .i64 1792 :: .int .i64 1568 :: .int .i64 1372 :: .int .i64 1201 :: .int .i64 1051 :: .int .i64 920 :: .int .i64 805 :: .int .i64 705 :: .int .i64 617 :: .int .i64 540 :: .int .i64 473 :: .int .i64 414 :: .int .i64 363 :: .int .i64 318 :: .int .i64 279 :: .int .i64 245 :: .int .i64 215 :: .int .i64 189 :: .int .i64 166 :: .int .i64 146 :: .int .i64 128 :: .int .i64 112 :: .int .i64 98 :: .int .i64 86 :: .int .i64 76 :: .int .i64 67 :: .int .i64 59 :: .int .i64 52 :: .int .i64 46 :: .int .i64 41 :: .int .i64 36 :: .int .u64 r2 :: .int .u64 r3 :: .own 2 :: .bool r4 :: []), .vec 3 (.int .i64) r5 true, .vec 5 (.int .u8) r6 true])) else none
  | _, _ => none
noncomputable def spec46 (fuel : Nat) : Ev.Spec := spg46 (F_coder_NewEncoder fuel)
theorem ok46 (fuel : Nat) : FnOK Try.prog 46 (spec46 fuel) := by
  intro args objs kk r h
  unfold spec46 spg46 at h
  split at h
  · skip
    obtain ⟨hb, h⟩ := cond_some' h
    simp only [Bool.and_eq_true, Nat.beq_eq, decide_eq_true_eq] at hb
    clear hb
    exact fok46 fuel _ _ kk r ((F46_eq fuel _ _ kk).trans h)
  · cases h
end Go.Proofs.Ytihfgpfofmjbaaa

set_option linter.unusedVariables false
set_option linter.unusedSimpArgs false
set_option maxRecDepth 100000
set_option maxHeartbeats 2000000
namespace Go.Proofs.Ytihfgpfofmjbaaa
open Go Ev
def kp88 (i : Nat) : Option (List Nat) := Ev.look i [(200001, [1])]
noncomputable def Gg88 (f : Nat) : Option Ev.Spec := Ev.look f []
noncomputable def G88 (fuel : Nat) : Nat → Option Ev.Spec := Gg88
noncomputable def J88 (fuel : Nat) (i : Nat) : Option Ev.Blk := Ev.look i []
noncomputable def F_generic_Valid (fuel : Nat) (x0 : Int) (x1 : Int) (x2 : Int) (x3 : Bool) (x4 : Int) (k0 : (Bool) → Option Ans) : Option Ans :=
  bif Decidable.decide (x0 ≥ (0 : Int)) then
   bif Decidable.decide (x0 ≤ (3 : Int)) then
    bif x4 == (0 : Int) then
     bif Decidable.decide (x1 ≥ (-8 : Int)) then
      bif Decidable.decide (x1 ≤ (8 : Int)) then
       bif Decidable.decide (x2 ≥ (-8 : Int)) then
        bif Decidable.decide (x2 ≤ (0 : Int)) then
         bif Decidable.decide (x2 < (0 : Int)) then
          k0 Bool.true
         else
          k0 (Decidable.decide (x1 < (0 : Int)))
        else
         k0 Bool.false
       else
        k0 Bool.false
      else
       k0 Bool.false
     else
      k0 Bool.false
    else
     bif x4 == (1 : Int) then
      bif Decidable.decide (x1 ≥ (-8 : Int)) then
       bif Decidable.decide (x1 ≤ (8 : Int)) then
        bif Decidable.decide (x2 ≥ (-8 : Int)) then
         bif Decidable.decide (x2 ≤ (0 : Int)) then
          bif Decidable.decide (x2 < (0 : Int)) then
           k0 Bool.true
          else
           k0 (Decidable.decide (x1 < (0 : Int)))
         else
          k0 Bool.false
        else
         k0 Bool.false
       else
        k0 Bool.false
      else
       k0 Bool.false
     else
      k0 Bool.false
   else
    k0 Bool.false
  else
   k0 Bool.false
abbrev YF88 : Type := (Int) → (Int) → (Int) → (Bool) → (Int) → ((Bool) → Option Ans) → Option Ans
theorem F88_eq (fuel : Nat) (x0 : Int) (x1 : Int) (x2 : Int) (x3 : Bool) (x4 : Int) (k : Ev.Cont) : evalFn tab (G88 fuel) (J88 fuel) kp88 fuel Try.f88 [.agg [.int .i64 x0, .int .i64 x1, .int .i64 x2, .bool x3, .int .i64 x4]] [] k = F_generic_Valid fuel x0 x1 x2 x3 x4 (fun r => match r with | r0 => k (.c (.bool r0), [])) := by
  kernel_rfl
theorem hG88 (fuel : Nat) : GOK Try.prog (G88 fuel) :=
  gok_nil
theorem fok88 (fuel : Nat) : FnOK Try.prog 88 (evalFn tab (G88 fuel) (J88 fuel) kp88 fuel Try.f88) :=
  fn_ok tab_ok (hG88 fuel) mixed Try.func88 (c := (Try.f88.body).getD .skip) rfl (fun q hq => by
    rw [(by kernel_rfl : obl (J88 fuel) ((Try.f88.body).getD .skip) = [])] at hq
    cases hq)
noncomputable def mt88 : List Ev.SV → List Ev.Ob → Bool := fun args objs => match args, objs with
  | [.agg [.int .i64 _, .int .i64 _, .int .i64 _, .bool _, .int .i64 _]], [] => true
  | _, _ => false
noncomputable def spg88 (F : YF88) : Ev.Spec := fun args objs k => match args, objs with
  | [.agg [.int .i64 x0, .int .i64 x1, .int .i64 x2, .bool x3, .int .i64 x4]], [] => bif true then F x0 x1 x2 x3 x4 (fun r => match r with | r0 => k (.c (.bool r0), [])) else none
  | _, _ => none
noncomputable def spec88 (fuel : Nat) : Ev.Spec := spg88 (F_generic_Valid fuel)
theorem ok88 (fuel : Nat) : FnOK Try.prog 88 (spec88 fuel) := by
  intro args objs kk r h
  unfold spec88 spg88 at h
  split at h
  · skip
    obtain ⟨hb, h⟩ := cond_some' h
    simp only [Bool.and_eq_true, Nat.beq_eq, decide_eq_true_eq] at hb
    clear hb
    exact fok88 fuel _ _ kk r ((F88_eq fuel _ _ _ _ _ kk).trans h)
  · cases h
end Go.Proofs.Ytihfgpfofmjbaaa

set_option linter.unusedVariables false
set_option linter.unusedSimpArgs false
set_option maxRecDepth 100000
set_option maxHeartbeats 2000000
namespace Go.Proofs.Ytihfgpfofmjbaaa
open Go Ev
def kp160 (i : Nat) : Option (List Nat) := Ev.look i []
noncomputable def Gg160 (f : Nat) : Option Ev.Spec := Ev.look f []
noncomputable def G160 (fuel : Nat) : Nat → Option Ev.Spec := Gg160
noncomputable def J160 (fuel : Nat) (i : Nat) : Option Ev.Blk := Ev.look i []
noncomputable def F_generic_pixels (fuel : Nat) (x0 : Int) (k0 : ((List (Int × Int))) → Option Ans) : Option Ans :=
  bif x0 == (0 : Int) then
   k0 ([((-1 : Int), (-2 : Int)), ((0 : Int), (-2 : Int)), ((1 : Int), (-2 : Int)), ((-2 : Int), (-1 : Int)), ((-1 : Int), (-1 : Int)), ((0 : Int), (-1 : Int)), ((1 : Int), (-1 : Int)), ((2 : Int), (-1 : Int)), ((-2 : Int), (0 : Int)), ((-1 : Int), (0 : Int))])
  else
   bif x0 == (1 : Int) then
    k0 ([((-1 : Int), (-2 : Int)), ((0 : Int), (-2 : Int)), ((-1 : Int), (-1 : Int)), ((0 : Int), (-1 : Int)), ((1 : Int), (-1 : Int)), ((-2 : Int), (0 : Int)), ((-1 : Int), (0 : Int))])
   else
    bif x0 == (2 : Int) then
     k0 ([((-2 : Int), (-1 : Int)), ((-1 : Int), (-1 : Int)), ((0 : Int), (-1 : Int)), ((1 : Int), (-1 : Int)), ((2 : Int), (-1 : Int)), ((-2 : Int), (0 : Int)), ((-1 : Int), (0 : Int))])
    else
     k0 ([((-1 : Int), (-1 : Int)), ((0 : Int), (-1 : Int)), ((1 : Int), (-1 : Int)), ((-1 : Int), (0 : Int))])
abbrev YF160 : Type := (Int) → (((List (Int × Int))) → Option Ans) → Option Ans
theorem F160_eq (fuel : Nat) (x0 : Int) (k : Ev.Cont) : evalFn tab (G160 fuel) (J160 fuel) kp160 fuel Try.f160 [.c (.int .i64 x0)] [] k = F_generic_pixels fuel x0 (fun r => match r with | r0 => k (.c (.own 0), [.vec 44 (.pair (.int .i64) (.int .i64)) r0 true])) := by
  kernel_rfl
theorem hG160 (fuel : Nat) : GOK Try.prog (G160 fuel) :=
  gok_nil
theorem fok160 (fuel : Nat) : FnOK Try.prog 160 (evalFn tab (G160 fuel) (J160 fuel) kp160 fuel Try.f160) :=
  fn_ok tab_ok (hG160 fuel) mixed Try.func160 (c := (Try.f160.body).getD .skip) rfl (fun q hq => by
    rw [(by kernel_rfl : obl (J160 fuel) ((Try.f160.body).getD .skip) = [])] at hq
    cases hq)
noncomputable def mt160 : List Ev.SV → List Ev.Ob → Bool := fun args objs => match args, objs with
  | [.c (.int .i64 _)], [] => true
  | _, _ => false
noncomputable def spg160 (F : YF160) : Ev.Spec := fun args objs k => match args, objs with
  | [.c (.int .i64 x0)], [] => bif true then F x0 (fun r => match r with | r0 => k (.c (.own 0), [.vec 44 (.pair (.int .i64) (.int .i64)) r0 true])) else none
  | _, _ => none
noncomputable def spec160 (fuel : Nat) : Ev.Spec := spg160 (F_generic_pixels fuel)
theorem ok160 (fuel : Nat) : FnOK Try.prog 160 (spec160 fuel) := by
  intro args objs kk r h
  unfold spec160 spg160 at h
  split at h
  · skip
    obtain ⟨hb, h⟩ := cond_some' h
    simp only [Bool.and_eq_true, Nat.beq_eq, decide_eq_true_eq] at hb
    clear hb
    exact fok160 fuel _ _ kk r ((F160_eq fuel _ kk).trans h)
  · cases h
end Go.Proofs.Ytihfgpfofmjbaaa

set_option linter.unusedVariables false
set_option linter.unusedSimpArgs false
set_option maxRecDepth 100000
set_option maxHeartbeats 2000000
namespace Go.Proofs.Ytihfgpfofmjbaaa
open Go Ev
def kp90 (i : Nat) : Option (List Nat) := Ev.look i []
noncomputable def Gg90 (f160 : YF160) (f : Nat) : Option Ev.Spec := Ev.look f [(160, spg160 f160)]
noncomputable def G90 (fuel : Nat) : Nat → Option Ev.Spec := Gg90 (F_generic_pixels fuel)
noncomputable def J90 (fuel : Nat) (i : Nat) : Option Ev.Blk := Ev.look i []
noncomputable def F_generic_contexts (fuel : Nat) (x0 : Int) (x1 : Int) (x2 : Int) (x3 : Bool) (x4 : Int) (k0 : (Int) → Option Ans) : Option Ans :=
  (F_generic_pixels fuel (x0)
    (fun y2 =>
      k0 (Ev.ishl Go.IntKind.i64 (2 : Int) (↑y2.length : Int))))
abbrev YF90 : Type := (Int) → (Int) → (Int) → (Bool) → (Int) → ((Int) → Option Ans) → Option Ans
theorem F90_eqg (fuel : Nat) (f160 : YF160) (x0 : Int) (x1 : Int) (x2 : Int) (x3 : Bool) (x4 : Int) (k : Ev.Cont) : evalFn tab (Gg90 f160) (J90 fuel) kp90 fuel Try.f90 [.agg [.int .i64 x0, .int .i64 x1, .int .i64 x2, .bool x3, .int .i64 x4]] [] k = (fun  (k0 : (Int) → Option Ans) =>
  (f160 (x0)
    (fun y2 =>
      k0 (Ev.ishl Go.IntKind.i64 (2 : Int) (↑y2.length : Int))))) (fun r => match r with | r0 => k (.c (.int .i64 r0), [])) := by
  kernel_rfl
theorem F90_eq (fuel : Nat) (x0 : Int) (x1 : Int) (x2 : Int) (x3 : Bool) (x4 : Int) (k : Ev.Cont) : evalFn tab (G90 fuel) (J90 fuel) kp90 fuel Try.f90 [.agg [.int .i64 x0, .int .i64 x1, .int .i64 x2, .bool x3, .int .i64 x4]] [] k = F_generic_contexts fuel x0 x1 x2 x3 x4 (fun r => match r with | r0 => k (.c (.int .i64 r0), [])) :=
  F90_eqg fuel (F_generic_pixels fuel) x0 x1 x2 x3 x4 k
theorem hG90 (fuel : Nat) : GOK Try.prog (G90 fuel) :=
  gok_cons ⟨ok160 fuel, enters_of Try.func160 (by kernel_rfl) rfl⟩ <|
  gok_nil
theorem fok90 (fuel : Nat) : FnOK Try.prog 90 (evalFn tab (G90 fuel) (J90 fuel) kp90 fuel Try.f90) :=
  fn_ok tab_ok (hG90 fuel) mixed Try.func90 (c := (Try.f90.body).getD .skip) rfl (fun q hq => by
    rw [(by kernel_rfl : obl (J90 fuel) ((Try.f90.body).getD .skip) = [])] at hq
    cases hq)
noncomputable def mt90 : List Ev.SV → List Ev.Ob → Bool := fun args objs => match args, objs with
  | [.agg [.int .i64 _, .int .i64 _, .int .i64 _, .bool _, .int .i64 _]], [] => true
  | _, _ => false
noncomputable def spg90 (F : YF90) : Ev.Spec := fun args objs k => match args, objs with
  | [.agg [.int .i64 x0, .int .i64 x1, .int .i64 x2, .bool x3, .int .i64 x4]], [] => bif true then F x0 x1 x2 x3 x4 (fun r => match r with | r0 => k (.c (.int .i64 r0), [])) else none
  | _, _ => none
noncomputable def spec90 (fuel : Nat) : Ev.Spec := spg90 (F_generic_contexts fuel)
theorem ok90 (fuel : Nat) : FnOK Try.prog 90 (spec90 fuel) := by
  intro args objs kk r h
  unfold spec90 spg90 at h
  split at h
  · skip
    obtain ⟨hb, h⟩ := cond_some' h
    simp only [Bool.and_eq_true, Nat.beq_eq, decide_eq_true_eq] at hb
    clear hb
    exact fok90 fuel _ _ kk r ((F90_eq fuel _ _ _ _ _ kk).trans h)
  · cases h
end Go.Proofs.Ytihfgpfofmjbaaa

set_option linter.unusedVariables false
set_option linter.unusedSimpArgs false
set_option maxRecDepth 100000
set_option maxHeartbeats 2000000
namespace Go.Proofs.Ytihfgpfofmjbaaa
open Go Ev
def kp161 (i : Nat) : Option (List Nat) := Ev.look i []
noncomputable def Gg161 (f : Nat) : Option Ev.Spec := Ev.look f []
noncomputable def G161 (fuel : Nat) : Nat → Option Ev.Spec := Gg161
noncomputable def J161 (fuel : Nat) (i : Nat) : Option Ev.Blk := Ev.look i []
noncomputable def F_bytes_Equal (fuel : Nat) (x0 : (List Int)) (x1 : (List Int)) (k0 : (Bool) → Option Ans) : Option Ans :=
  k0 ((Go.strOfNums x0).toList == (Go.strOfNums x1).toList)
abbrev YF161 : Type := ((List Int)) → ((List Int)) → ((Bool) → Option Ans) → Option Ans
theorem F161_eq (fuel : Nat) (x0 : (List Int)) (x1 : (List Int)) (k : Ev.Cont) : evalFn tab (G161 fuel) (J161 fuel) kp161 fuel Try.f161 [.c (.sl (.int .u8) x0), .c (.sl (.int .u8) x1)] [] k = F_bytes_Equal fuel x0 x1 (fun r => match r with | r0 => k (.c (.bool r0), [])) := by
  kernel_rfl
theorem hG161 (fuel : Nat) : GOK Try.prog (G161 fuel) :=
  gok_nil
theorem fok161 (fuel : Nat) : FnOK Try.prog 161 (evalFn tab (G161 fuel) (J161 fuel) kp161 fuel Try.f161) :=
  fn_ok tab_ok (hG161 fuel) mixed Try.func161 (c := (Try.f161.body).getD .skip) rfl (fun q hq => by
    rw [(by kernel_rfl : obl (J161 fuel) ((Try.f161.body).getD .skip) = [])] at hq
    cases hq)
noncomputable def mt161 : List Ev.SV → List Ev.Ob → Bool := fun args objs => match args, objs with
  | [.c (.sl (.int .u8) _), .c (.sl (.int .u8) _)], [] => true
  | _, _ => false
noncomputable def spg161 (F : YF161) : Ev.Spec := fun args objs k => match args, objs with
  | [.c (.sl (.int .u8) x0), .c (.sl (.int .u8) x1)], [] => bif true then F x0 x1 (fun r => match r with | r0 => k (.c (.bool r0), [])) else none
  | _, _ => none
noncomputable def spec161 (fuel : Nat) : Ev.Spec := spg161 (F_bytes_Equal fuel)
theorem ok161 (fuel : Nat) : FnOK Try.prog 161 (spec161 fuel) := by
  intro args objs kk r h
  unfold spec161 spg161 at h
  split at h
  · skip
    obtain ⟨hb, h⟩ := cond_some' h
    simp only [Bool.and_eq_true, Nat.beq_eq, decide_eq_true_eq] at hb
    clear hb
    exact fok161 fuel _ _ kk r ((F161_eq fuel _ _ kk).trans h)
  · cases h
end Go.Proofs.Ytihfgpfofmjbaaa

set_option linter.unusedVariables false
set_option linter.unusedSimpArgs false
set_option maxRecDepth 100000
set_option maxHeartbeats 2000000
namespace Go.Proofs.Ytihfgpfofmjbaaa
open Go Ev
def kp169_a20 (i : Nat) : Option (List Nat) := Ev.look i []
noncomputable def Gg169_a20 (f : Nat) : Option Ev.Spec := Ev.look f []
noncomputable def G169_a20 (fuel : Nat) : Nat → Option Ev.Spec := Gg169_a20
noncomputable def J169_a20 (fuel : Nat) (i : Nat) : Option Ev.Blk := Ev.look i []
noncomputable def F_coder_interval_lose_a20 (fuel : Nat) (x0 : Int) (x1 : Int) (x2 : Int) (x3 : Bool) (x4 : (List Int)) (x5 : (List Int)) (k0 : (Int × Int × Int × Int × Bool × (List Int) × (List Int)) → Option Ans) : Option Ans :=
  k0 (Go.IntKind.u8.wrap (Ev.ishr Go.IntKind.u64 x1 (24 : Int)), x0, Ev.iand Go.IntKind.u64 (Ev.ishl Go.IntKind.u64 x1 (8 : Int)) (4294967295 : Int), Ev.ior Go.IntKind.u64 (Ev.iand Go.IntKind.u64 (Ev.ishl Go.IntKind.u64 x2 (8 : Int)) (4294967295 : Int)) (255 : Int), x3, x4, x5)
abbrev YF169_a20 : Type := (Int) → (Int) → (Int) → (Bool) → ((List Int)) → ((List Int)) → ((Int × Int × Int × Int × Bool × (List Int) × (List Int)) → Option Ans) → Option Ans
theorem F169_a20_eq (fuel : Nat) (x0 : Int) (x1 : Int) (x2 : Int) (x3 : Bool) (x4 : (List Int)) (x5 : (List Int)) (k : Ev.Cont) : evalFn tab (G169_a20 fuel) (J169_a20 fuel) kp169_a20 fuel Try.f169 [.c (.ptr 0 0)] [.cells 172 (.int .i64 x0 :: .own 1 :: .int .i64 2048 :: .int .i64 1792 :: .int .i64 1568 :: .int .i64 1372 :: .int .i64 1201 :: .int .i64 1051 :: .int .i64 920 :: .int .i64 805 :: .int .i64 705 :: .int .i64 617 :: .int .i64 540 :: .int .i64 473 :: .int .i64 414 :: .int .i64 363 :: .int .i64 318 :: .int .i64 279 :: .int .i64 245 :: .int .i64 215 :: .int .i64 189 :: .int .i64 166 :: .int .i64 146 :: .int .i64 128 :: .int .i64 112 :: .int .i64 98 :: .int .i64 86 :: .int .i64 76 :: .int .i64 67 :: .int .i64 59 :: .int .i64 52 :: .int .i64 46 :: .int .i64 41 :: .int .i64 36 :: .int .u64 x1 :: .int .u64 x2 :: .own 2 :: .bool x3 :: []), .vec 3 (.int .i64) x4 false, .vec 5 (.int .u8) x5 false] k = F_coder_interval_lose_a20 fuel x0 x1 x2 x3 x4 x5 (fun r => match r with | (r0, r1, r2, r3, r4, r5, r6) => k (.c (.int .u8 r0), [.cells 172 (.int .i64 r1 :: .own 1 :: .int .i64 2048 :: .int .i64 1792 :: .int .i64 1568 :: .int .i64 1372 :: .int .i64 1201 :: .int .i64 1051 :: .int .i64 920 :: .int .i64 805 :: .int .i64 705 :: .int .i64 617 :: .int .i64 540 :: .int .i64 473 :: .int .i64 414 :: .int .i64 363 :: .int .i64 318 :: .int .i64 279 :: .int .i64 245 :: .int .i64 215 :: .int .i64 189 :: .int .i64 166 :: .int .i64 146 :: .int .i64 128 :: .int .i64 112 :: .int .i64 98 :: .int .i64 86 :: .int .i64 76 :: .int .i64 67 :: .int .i64 59 :: .int .i64 52 :: .int .i64 46 :: .int .i64 41 :: .int .i64 36 :: .int .u64 r2 :: .int .u64 r3 :: .own 2 :: .bool r4 :: []), .vec 3 (.int .i64) r5 false, .vec 5 (.int .u8) r6 false])) := by
  kernel_rfl
theorem hG169_a20 (fuel : Nat) : GOK Try.prog (G169_a20 fuel) :=
  gok_nil
theorem fok169_a20 (fuel : Nat) : FnOK Try.prog 169 (evalFn tab (G169_a20 fuel) (J169_a20 fuel) kp169_a20 fuel Try.f169) :=
  fn_ok tab_ok (hG169_a20 fuel) mixed Try.func169 (c := (Try.f169.body).getD .skip) rfl (fun q hq => by
    rw [(by kernel_rfl : obl (J169_a20 fuel) ((Try.f169.body).getD .skip) = [])] at hq
    cases hq)
noncomputable def mt169_a20 : List Ev.SV → List Ev.Ob → Bool := fun args objs => match args, objs with
  | [.c (.ptr q0 q1)], [.cells q2 cs0, .vec q3 (.int .i64) _ false, .vec q4 (.int .u8) _ false] => (match splitRun 2 [(.i64, 2048), (.i64, 1792), (.i64, 1568), (.i64, 1372), (.i64, 1201), (.i64, 1051), (.i64, 920), (.i64, 805), (.i64, 705), (.i64, 617), (.i64, 540), (.i64, 473), (.i64, 414), (.i64, 363), (.i64, 318), (.i64, 279), (.i64, 245), (.i64, 215), (.i64, 189), (.i64, 166), (.i64, 146), (.i64, 128), (.i64, 112), (.i64, 98), (.i64, 86), (.i64, 76), (.i64, 67), (.i64, 59), (.i64, 52), (.i64, 46), (.i64, 41), (.i64, 36)] cs0 with | some ([.int .i64 _, .own q5], [.int .u64 _, .int .u64 _, .own q6, .bool _]) => Nat.beq q0 0 && Nat.beq q1 0 && Nat.beq q2 172 && Nat.beq q3 3 && Nat.beq q4 5 && Nat.beq q5 1 && Nat.beq q6 2 | _ => false)
  | _, _ => false
noncomputable def spg169_a20 (F : YF169_a20) : Ev.Spec := fun args objs k => match args, objs with
  | [.c (.ptr q0 q1)], [.cells q2 cs0, .vec q3 (.int .i64) x4 false, .vec q4 (.int .u8) x5 false] => (match splitRun 2 [(.i64, 2048), (.i64, 1792), (.i64, 1568), (.i64, 1372), (.i64, 1201), (.i64, 1051), (.i64, 920), (.i64, 805), (.i64, 705), (.i64, 617), (.i64, 540), (.i64, 473), (.i64, 414), (.i64, 363), (.i64, 318), (.i64, 279), (.i64, 245), (.i64, 215), (.i64, 189), (.i64, 166), (.i64, 146), (.i64, 128), (.i64, 112), (.i64, 98), (.i64, 86), (.i64, 76), (.i64, 67), (.i64, 59), (.i64, 52), (.i64, 46), (.i64, 41), (.i64, 36)] cs0 with | some ([.int .i64 x0, .own q5], [.int .u64 x1, .int .u64 x2, .own q6, .bool x3]) => bif Nat.beq q0 0 && Nat.beq q1 0 && Nat.beq q2 172 && Nat.beq q3 3 && Nat.beq q4 5 && Nat.beq q5 1 && Nat.beq q6 2 then F x0 x1 x2 x3 x4 x5 (fun r => match r with | (r0, r1, r2, r3, r4, r5, r6) => k (.c (.int .u8 r0), [.cells 172 (.int .i64 r1 :: .own 1 :: .int .i64 2048 :: .int .i64 1792 :: .int .i64 1568 :: .int .i64 1372 :: .int .i64 1201 :: .int .i64 1051 :: .int .i64 920 :: .int .i64 805 :: .int .i64 705 :: .int .i64 617 :: .int .i64 540 :: .int .i64 473 :: .int .i64 414 :: .int .i64 363 :: .int .i64 318 :: .int .i64 279 :: .int .i64 245 :: .int .i64 215 :: .int .i64 189 :: .int .i64 166 :: .int .i64 146 :: .int .i64 128 :: .int .i64 112 :: .int .i64 98 :: .int .i64 86 :: .int .i64 76 :: .int .i64 67 :: .int .i64 59 :: .int .i64 52 :: .int .i64 46 :: .int .i64 41 :: .int .i64 36 :: .int .u64 r2 :: .int .u64 r3 :: .own 2 :: .bool r4 :: []), .vec 3 (.int .i64) r5 false, .vec 5 (.int .u8) r6 false])) else none | _ => none)
  | _, _ => none
noncomputable def spec169_a20 (fuel : Nat) : Ev.Spec := spg169_a20 (F_coder_interval_lose_a20 fuel)
theorem ok169_a20 (fuel : Nat) : FnOK Try.prog 169 (spec169_a20 fuel) := by
  intro args objs kk r h
  unfold spec169_a20 spg169_a20 at h
  split at h
  · skip
    split at h
    rotate_left 1
    · cases h
    rename_i hsp
    have esp := splitRun_eq hsp
    subst esp
    obtain ⟨hb, h⟩ := cond_some' h
    simp only [Bool.and_eq_true, Nat.beq_eq, decide_eq_true_eq] at hb
    obtain ⟨⟨⟨⟨⟨⟨rfl, rfl⟩, rfl⟩, rfl⟩, rfl⟩, rfl⟩, rfl⟩ := hb
    exact fok169_a20 fuel _ _ kk r ((F169_a20_eq fuel _ _ _ _ _ _ kk).trans h)
  · cases h
end Go.Proofs.Ytihfgpfofmjbaaa

set_option linter.unusedVariables false
set_option linter.unusedSimpArgs false
set_option maxRecDepth 100000
set_option maxHeartbeats 2000000
namespace Go.Proofs.Ytihfgpfofmjbaaa
open Go Ev
def kp200_bb9 (i : Nat) : Option (List Nat) := Ev.look i []
noncomputable def Gg200_bb9 (f : Nat) : Option Ev.Spec := Ev.look f []
noncomputable def G200_bb9 (fuel : Nat) : Nat → Option Ev.Spec := Gg200_bb9
noncomputable def J200_bb9 (fuel : Nat) (i : Nat) : Option Ev.Blk := Ev.look i []
noncomputable def F_coder_table_chance_bb9 (fuel : Nat) (x0 : Int) (x1 : Int) (k0 : (Int) → Option Ans) : Option Ans :=
  bif x0 == (1 : Int) then
   bif Decidable.decide (Go.IntKind.i64.wrap (Go.IntKind.i64.wrap (Go.IntKind.i64.wrap ((2 : Int) * Go.IntKind.i64.wrap (x1.tdiv (256 : Int))) + Go.IntKind.i64.wrap ((2 : Int) * x1.tmod (256 : Int))) + (2 : Int)) = (0 : Int)) then
    none
   else
    k0 (bif Decidable.decide ((4095 : Int) < bif Decidable.decide ((1 : Int) > Go.IntKind.i64.wrap ((Go.IntKind.i64.wrap (Go.IntKind.i64.wrap (Go.IntKind.i64.wrap ((2 : Int) * x1.tmod (256 : Int)) + (1 : Int)) * (4096 : Int))).tdiv (Go.IntKind.i64.wrap (Go.IntKind.i64.wrap (Go.IntKind.i64.wrap ((2 : Int) * Go.IntKind.i64.wrap (x1.tdiv (256 : Int))) + Go.IntKind.i64.wrap ((2 : Int) * x1.tmod (256 : Int))) + (2 : Int))))) then (1 : Int) else Go.IntKind.i64.wrap ((Go.IntKind.i64.wrap (Go.IntKind.i64.wrap (Go.IntKind.i64.wrap ((2 : Int) * x1.tmod (256 : Int)) + (1 : Int)) * (4096 : Int))).tdiv (Go.IntKind.i64.wrap (Go.IntKind.i64.wrap (Go.IntKind.i64.wrap ((2 : Int) * Go.IntKind.i64.wrap (x1.tdiv (256 : Int))) + Go.IntKind.i64.wrap ((2 : Int) * x1.tmod (256 : Int))) + (2 : Int))))) then (4095 : Int) else bif Decidable.decide ((1 : Int) > Go.IntKind.i64.wrap ((Go.IntKind.i64.wrap (Go.IntKind.i64.wrap (Go.IntKind.i64.wrap ((2 : Int) * x1.tmod (256 : Int)) + (1 : Int)) * (4096 : Int))).tdiv (Go.IntKind.i64.wrap (Go.IntKind.i64.wrap (Go.IntKind.i64.wrap ((2 : Int) * Go.IntKind.i64.wrap (x1.tdiv (256 : Int))) + Go.IntKind.i64.wrap ((2 : Int) * x1.tmod (256 : Int))) + (2 : Int))))) then (1 : Int) else Go.IntKind.i64.wrap ((Go.IntKind.i64.wrap (Go.IntKind.i64.wrap (Go.IntKind.i64.wrap ((2 : Int) * x1.tmod (256 : Int)) + (1 : Int)) * (4096 : Int))).tdiv (Go.IntKind.i64.wrap (Go.IntKind.i64.wrap (Go.IntKind.i64.wrap ((2 : Int) * Go.IntKind.i64.wrap (x1.tdiv (256 : Int))) + Go.IntKind.i64.wrap ((2 : Int) * x1.tmod (256 : Int))) + (2 : Int)))))
  else
   bif Decidable.decide (x1 ≥ (32 : Int)) then
    bif Decidable.decide ((0 : Int) ≤ Go.IntKind.i64.wrap (x1 - (32 : Int)) ∧ Go.IntKind.i64.wrap (x1 - (32 : Int)) < (↑(32 : Nat) : Int)) then
    bif Decidable.decide (Go.IntKind.i64.wrap (x1 - (32 : Int)) = (↑(0 : Nat) : Int)) then
      k0 (Go.IntKind.i64.wrap ((4096 : Int) - (2048 : Int)))
     else
      bif Decidable.decide (Go.IntKind.i64.wrap (x1 - (32 : Int)) = (↑(1 : Nat) : Int)) then
       k0 (Go.IntKind.i64.wrap ((4096 : Int) - (1792 : Int)))
      else
       bif Decidable.decide (Go.IntKind.i64.wrap (x1 - (32 : Int)) = (↑(2 : Nat) : Int)) then
        k0 (Go.IntKind.i64.wrap ((4096 : Int) - (1568 : Int)))
       else
        bif Decidable.decide (Go.IntKind.i64.wrap (x1 - (32 : Int)) = (↑(3 : Nat) : Int)) then
         k0 (Go.IntKind.i64.wrap ((4096 : Int) - (1372 : Int)))
        else
         bif Decidable.decide (Go.IntKind.i64.wrap (x1 - (32 : Int)) = (↑(4 : Nat) : Int)) then
          k0 (Go.IntKind.i64.wrap ((4096 : Int) - (1201 : Int)))
         else
          bif Decidable.decide (Go.IntKind.i64.wrap (x1 - (32 : Int)) = (↑(5 : Nat) : Int)) then
           k0 (Go.IntKind.i64.wrap ((4096 : Int) - (1051 : Int)))
          else
           bif Decidable.decide (Go.IntKind.i64.wrap (x1 - (32 : Int)) = (↑(6 : Nat) : Int)) then
            k0 (Go.IntKind.i64.wrap ((4096 : Int) - (920 : Int)))
           else
            bif Decidable.decide (Go.IntKind.i64.wrap (x1 - (32 : Int)) = (↑(7 : Nat) : Int)) then
             k0 (Go.IntKind.i64.wrap ((4096 : Int) - (805 : Int)))
            else
             bif Decidable.decide (Go.IntKind.i64.wrap (x1 - (32 : Int)) = (↑(8 : Nat) : Int)) then
              k0 (Go.IntKind.i64.wrap ((4096 : Int) - (705 : Int)))
             else
              bif Decidable.decide (Go.IntKind.i64.wrap (x1 - (32 : Int)) = (↑(9 : Nat) : Int)) then
               k0 (Go.IntKind.i64.wrap ((4096 : Int) - (617 : Int)))
              else
               bif Decidable.decide (Go.IntKind.i64.wrap (x1 - (32 : Int)) = (↑(10 : Nat) : Int)) then
                k0 (Go.IntKind.i64.wrap ((4096 : Int) - (540 : Int)))
               else
                bif Decidable.decide (Go.IntKind.i64.wrap (x1 - (32 : Int)) = (↑(11 : Nat) : Int)) then
                 k0 (Go.IntKind.i64.wrap ((4096 : Int) - (473 : Int)))
                else
                 bif Decidable.decide (Go.IntKind.i64.wrap (x1 - (32 : Int)) = (↑(12 : Nat) : Int)) then
                  k0 (Go.IntKind.i64.wrap ((4096 : Int) - (414 : Int)))
                 else
                  bif Decidable.decide (Go.IntKind.i64.wrap (x1 - (32 : Int)) = (↑(13 : Nat) : Int)) then
                   k0 (Go.IntKind.i64.wrap ((4096 : Int) - (363 : Int)))
                  else
                   bif Decidable.decide (Go.IntKind.i64.wrap (x1 - (32 : Int)) = (↑(14 : Nat) : Int)) then
                    k0 (Go.IntKind.i64.wrap ((4096 : Int) - (318 : Int)))
                   else
                    bif Decidable.decide (Go.IntKind.i64.wrap (x1 - (32 : Int)) = (↑(15 : Nat) : Int)) then
                     k0 (Go.IntKind.i64.wrap ((4096 : Int) - (279 : Int)))
                    else
                     bif Decidable.decide (Go.IntKind.i64.wrap (x1 - (32 : Int)) = (↑(16 : Nat) : Int)) then
                      k0 (Go.IntKind.i64.wrap ((4096 : Int) - (245 : Int)))
                     else
                      bif Decidable.decide (Go.IntKind.i64.wrap (x1 - (32 : Int)) = (↑(17 : Nat) : Int)) then
                       k0 (Go.IntKind.i64.wrap ((4096 : Int) - (215 : Int)))
                      else
                       bif Decidable.decide (Go.IntKind.i64.wrap (x1 - (32 : Int)) = (↑(18 : Nat) : Int)) then
                        k0 (Go.IntKind.i64.wrap ((4096 : Int) - (189 : Int)))
                       else
                        bif Decidable.decide (Go.IntKind.i64.wrap (x1 - (32 : Int)) = (↑(19 : Nat) : Int)) then
                         k0 (Go.IntKind.i64.wrap ((4096 : Int) - (166 : Int)))
                        else
                         bif Decidable.decide (Go.IntKind.i64.wrap (x1 - (32 : Int)) = (↑(20 : Nat) : Int)) then
                          k0 (Go.IntKind.i64.wrap ((4096 : Int) - (146 : Int)))
                         else
                          bif Decidable.decide (Go.IntKind.i64.wrap (x1 - (32 : Int)) = (↑(21 : Nat) : Int)) then
                           k0 (Go.IntKind.i64.wrap ((4096 : Int) - (128 : Int)))
                          else
                           bif Decidable.decide (Go.IntKind.i64.wrap (x1 - (32 : Int)) = (↑(22 : Nat) : Int)) then
                            k0 (Go.IntKind.i64.wrap ((4096 : Int) - (112 : Int)))
                           else
                            bif Decidable.decide (Go.IntKind.i64.wrap (x1 - (32 : Int)) = (↑(23 : Nat) : Int)) then
                             k0 (Go.IntKind.i64.wrap ((4096 : Int) - (98 : Int)))
                            else
                             bif Decidable.decide (Go.IntKind.i64.wrap (x1 - (32 : Int)) = (↑(24 : Nat) : Int)) then
                              k0 (Go.IntKind.i64.wrap ((4096 : Int) - (86 : Int)))
                             else
                              bif Decidable.decide (Go.IntKind.i64.wrap (x1 - (32 : Int)) = (↑(25 : Nat) : Int)) then
                               k0 (Go.IntKind.i64.wrap ((4096 : Int) - (76 : Int)))
                              else
                               bif Decidable.decide (Go.IntKind.i64.wrap (x1 - (32 : Int)) = (↑(26 : Nat) : Int)) then
                                k0 (Go.IntKind.i64.wrap ((4096 : Int) - (67 : Int)))
                               else
                                bif Decidable.decide (Go.IntKind.i64.wrap (x1 - (32 : Int)) = (↑(27 : Nat) : Int)) then
                                 k0 (Go.IntKind.i64.wrap ((4096 : Int) - (59 : Int)))
                                else
                                 bif Decidable.decide (Go.IntKind.i64.wrap (x1 - (32 : Int)) = (↑(28 : Nat) : Int)) then
                                  k0 (Go.IntKind.i64.wrap ((4096 : Int) - (52 : Int)))
                                 else
                                  bif Decidable.decide (Go.IntKind.i64.wrap (x1 - (32 : Int)) = (↑(29 : Nat) : Int)) then
                                   k0 (Go.IntKind.i64.wrap ((4096 : Int) - (46 : Int)))
                                  else
                                   bif Decidable.decide (Go.IntKind.i64.wrap (x1 - (32 : Int)) = (↑(30 : Nat) : Int)) then
                                    k0 (Go.IntKind.i64.wrap ((4096 : Int) - (41 : Int)))
                                   else
                                    bif Decidable.decide (Go.IntKind.i64.wrap (x1 - (32 : Int)) = (↑(31 : Nat) : Int)) then
                                    k0 (Go.IntKind.i64.wrap ((4096 : Int) - (36 : Int)))
                                    else none
    else none
   else
    bif Decidable.decide ((0 : Int) ≤ x1 ∧ x1 < (↑(32 : Nat) : Int)) then
    bif Decidable.decide (x1 = (↑(0 : Nat) : Int)) then
      k0 ((2048 : Int))
     else
      bif Decidable.decide (x1 = (↑(1 : Nat) : Int)) then
       k0 ((1792 : Int))
      else
       bif Decidable.decide (x1 = (↑(2 : Nat) : Int)) then
        k0 ((1568 : Int))
       else
        bif Decidable.decide (x1 = (↑(3 : Nat) : Int)) then
         k0 ((1372 : Int))
        else
         bif Decidable.decide (x1 = (↑(4 : Nat) : Int)) then
          k0 ((1201 : Int))
         else
          bif Decidable.decide (x1 = (↑(5 : Nat) : Int)) then
           k0 ((1051 : Int))
          else
           bif Decidable.decide (x1 = (↑(6 : Nat) : Int)) then
            k0 ((920 : Int))
           else
            bif Decidable.decide (x1 = (↑(7 : Nat) : Int)) then
             k0 ((805 : Int))
            else
             bif Decidable.decide (x1 = (↑(8 : Nat) : Int)) then
              k0 ((705 : Int))
             else
              bif Decidable.decide (x1 = (↑(9 : Nat) : Int)) then
               k0 ((617 : Int))
              else
               bif Decidable.decide (x1 = (↑(10 : Nat) : Int)) then
                k0 ((540 : Int))
               else
                bif Decidable.decide (x1 = (↑(11 : Nat) : Int)) then
                 k0 ((473 : Int))
                else
                 bif Decidable.decide (x1 = (↑(12 : Nat) : Int)) then
                  k0 ((414 : Int))
                 else
                  bif Decidable.decide (x1 = (↑(13 : Nat) : Int)) then
                   k0 ((363 : Int))
                  else
                   bif Decidable.decide (x1 = (↑(14 : Nat) : Int)) then
                    k0 ((318 : Int))
                   else
                    bif Decidable.decide (x1 = (↑(15 : Nat) : Int)) then
                     k0 ((279 : Int))
                    else
                     bif Decidable.decide (x1 = (↑(16 : Nat) : Int)) then
                      k0 ((245 : Int))
                     else
                      bif Decidable.decide (x1 = (↑(17 : Nat) : Int)) then
                       k0 ((215 : Int))
                      else
                       bif Decidable.decide (x1 = (↑(18 : Nat) : Int)) then
                        k0 ((189 : Int))
                       else
                        bif Decidable.decide (x1 = (↑(19 : Nat) : Int)) then
                         k0 ((166 : Int))
                        else
                         bif Decidable.decide (x1 = (↑(20 : Nat) : Int)) then
                          k0 ((146 : Int))
                         else
                          bif Decidable.decide (x1 = (↑(21 : Nat) : Int)) then
                           k0 ((128 : Int))
                          else
                           bif Decidable.decide (x1 = (↑(22 : Nat) : Int)) then
                            k0 ((112 : Int))
                           else
                            bif Decidable.decide (x1 = (↑(23 : Nat) : Int)) then
                             k0 ((98 : Int))
                            else
                             bif Decidable.decide (x1 = (↑(24 : Nat) : Int)) then
                              k0 ((86 : Int))
                             else
                              bif Decidable.decide (x1 = (↑(25 : Nat) : Int)) then
                               k0 ((76 : Int))
                              else
                               bif Decidable.decide (x1 = (↑(26 : Nat) : Int)) then
                                k0 ((67 : Int))
                               else
                                bif Decidable.decide (x1 = (↑(27 : Nat) : Int)) then
                                 k0 ((59 : Int))
                                else
                                 bif Decidable.decide (x1 = (↑(28 : Nat) : Int)) then
                                  k0 ((52 : Int))
                                 else
                                  bif Decidable.decide (x1 = (↑(29 : Nat) : Int)) then
                                   k0 ((46 : Int))
                                  else
                                   bif Decidable.decide (x1 = (↑(30 : Nat) : Int)) then
                                    k0 ((41 : Int))
                                   else
                                    bif Decidable.decide (x1 = (↑(31 : Nat) : Int)) then
                                    k0 ((36 : Int))
                                    else none
    else none
abbrev YF200_bb9 : Type := (Int) → (Int) → ((Int) → Option Ans) → Option Ans
theorem F200_bb9_eq (fuel : Nat) (x0 : Int) (x1 : Int) (k : Ev.Cont) : evalFn tab (G200_bb9 fuel) (J200_bb9 fuel) kp200_bb9 fuel Try.f200 [.agg (.int .i64 2048 :: .int .i64 1792 :: .int .i64 1568 :: .int .i64 1372 :: .int .i64 1201 :: .int .i64 1051 :: .int .i64 920 :: .int .i64 805 :: .int .i64 705 :: .int .i64 617 :: .int .i64 540 :: .int .i64 473 :: .int .i64 414 :: .int .i64 363 :: .int .i64 318 :: .int .i64 279 :: .int .i64 245 :: .int .i64 215 :: .int .i64 189 :: .int .i64 166 :: .int .i64 146 :: .int .i64 128 :: .int .i64 112 :: .int .i64 98 :: .int .i64 86 :: .int .i64 76 :: .int .i64 67 :: .int .i64 59 :: .int .i64 52 :: .int .i64 46 :: .int .i64 41 :: .int .i64 36 :: []), .c (.int .i64 x0), .c (.int .i64 x1)] [] k = F_coder_table_chance_bb9 fuel x0 x1 (fun r => match r with | r0 => k (.c (.int .i64 r0), [])) := by
  kernel_rfl
theorem hG200_bb9 (fuel : Nat) : GOK Try.prog (G200_bb9 fuel) :=
  gok_nil
theorem fok200_bb9 (fuel : Nat) : FnOK Try.prog 200 (evalFn tab (G200_bb9 fuel) (J200_bb9 fuel) kp200_bb9 fuel Try.f200) :=
  fn_ok tab_ok (hG200_bb9 fuel) mixed Try.func200 (c := (Try.f200.body).getD .skip) rfl (fun q hq => by
    rw [(by kernel_rfl : obl (J200_bb9 fuel) ((Try.f200.body).getD .skip) = [])] at hq
    cases hq)
noncomputable def mt200_bb9 : List Ev.SV → List Ev.Ob → Bool := fun args objs => match args, objs with
  | [.agg cs0, .c (.int .i64 _), .c (.int .i64 _)], [] => (match splitRun 0 [(.i64, 2048), (.i64, 1792), (.i64, 1568), (.i64, 1372), (.i64, 1201), (.i64, 1051), (.i64, 920), (.i64, 805), (.i64, 705), (.i64, 617), (.i64, 540), (.i64, 473), (.i64, 414), (.i64, 363), (.i64, 318), (.i64, 279), (.i64, 245), (.i64, 215), (.i64, 189), (.i64, 166), (.i64, 146), (.i64, 128), (.i64, 112), (.i64, 98), (.i64, 86), (.i64, 76), (.i64, 67), (.i64, 59), (.i64, 52), (.i64, 46), (.i64, 41), (.i64, 36)] cs0 with | some ([], []) => true | _ => false)
  | _, _ => false
noncomputable def spg200_bb9 (F : YF200_bb9) : Ev.Spec := fun args objs k => match args, objs with
  | [.agg cs0, .c (.int .i64 x0), .c (.int .i64 x1)], [] => (match splitRun 0 [(.i64, 2048), (.i64, 1792), (.i64, 1568), (.i64, 1372), (.i64, 1201), (.i64, 1051), (.i64, 920), (.i64, 805), (.i64, 705), (.i64, 617), (.i64, 540), (.i64, 473), (.i64, 414), (.i64, 363), (.i64, 318), (.i64, 279), (.i64, 245), (.i64, 215), (.i64, 189), (.i64, 166), (.i64, 146), (.i64, 128), (.i64, 112), (.i64, 98), (.i64, 86), (.i64, 76), (.i64, 67), (.i64, 59), (.i64, 52), (.i64, 46), (.i64, 41), (.i64, 36)] cs0 with | some ([], []) => bif true then F x0 x1 (fun r => match r with | r0 => k (.c (.int .i64 r0), [])) else none | _ => none)
  | _, _ => none
noncomputable def spec200_bb9 (fuel : Nat) : Ev.Spec := spg200_bb9 (F_coder_table_chance_bb9 fuel)
theorem ok200_bb9 (fuel : Nat) : FnOK Try.prog 200 (spec200_bb9 fuel) := by
  intro args objs kk r h
  unfold spec200_bb9 spg200_bb9 at h
  split at h
  · skip
    split at h
    rotate_left 1
    · cases h
    rename_i hsp
    have esp := splitRun_eq hsp
    subst esp
    obtain ⟨hb, h⟩ := cond_some' h
    simp only [Bool.and_eq_true, Nat.beq_eq, decide_eq_true_eq] at hb
    clear hb
    exact fok200_bb9 fuel _ _ kk r ((F200_bb9_eq fuel _ _ kk).trans h)
  · cases h
end Go.Proofs.Ytihfgpfofmjbaaa

set_option linter.unusedVariables false
set_option linter.unusedSimpArgs false
set_option maxRecDepth 100000
set_option maxHeartbeats 2000000
namespace Go.Proofs.Ytihfgpfofmjbaaa
open Go Ev
def kp166_402 (i : Nat) : Option (List Nat) := Ev.look i [(200001, [0])]
noncomputable def Gg166_402 (f200_bb9 : YF200_bb9) (f : Nat) : Option Ev.Spec := Ev.look f [(200, spg200_bb9 f200_bb9)]
noncomputable def G166_402 (fuel : Nat) : Nat → Option Ev.Spec := Gg166_402 (F_coder_table_chance_bb9 fuel)
noncomputable def J166_402 (fuel : Nat) (i : Nat) : Option Ev.Blk := Ev.look i []
noncomputable def F_coder_interval_mid_402 (fuel : Nat) (x0 : Int) (x1 : Int) (x2 : Int) (x3 : Int) (x4 : Bool) (x5 : (List Int)) (x6 : (List Int)) (k0 : (Int × Int × Int × Int × Bool × (List Int) × (List Int)) → Option Ans) : Option Ans :=
  bif Decidable.decide ((0 : Int) ≤ x0 ∧ x0 < (↑x5.length : Int)) then
  (F_coder_table_chance_bb9 fuel (x1) (x5.getD x0.toNat (0 : Int))
     (fun y3 =>
       k0 (Go.IntKind.u64.wrap (Go.IntKind.u64.wrap (x2 + Go.IntKind.u64.wrap (Go.IntKind.u64.wrap ((Go.IntKind.u64.wrap (x3 - x2)).tdiv (4096 : Int)) * Go.IntKind.u64.wrap y3)) + Go.IntKind.u64.wrap ((Go.IntKind.u64.wrap ((Go.IntKind.u64.wrap (x3 - x2)).tmod (4096 : Int) * Go.IntKind.u64.wrap y3)).tdiv (4096 : Int))), x1, x2, x3, x4, x5, x6)))
  else none
abbrev YF166_402 : Type := (Int) → (Int) → (Int) → (Int) → (Bool) → ((List Int)) → ((List Int)) → ((Int × Int × Int × Int × Bool × (List Int) × (List Int)) → Option Ans) → Option Ans
theorem F166_402_eqg (fuel : Nat) (f200_bb9 : YF200_bb9) (x0 : Int) (x1 : Int) (x2 : Int) (x3 : Int) (x4 : Bool) (x5 : (List Int)) (x6 : (List Int)) (k : Ev.Cont) : evalFn tab (Gg166_402 f200_bb9) (J166_402 fuel) kp166_402 fuel Try.f166 [.c (.ptr 0 0), .c (.int .i64 x0)] [.cells 172 (.int .i64 x1 :: .own 1 :: .int .i64 2048 :: .int .i64 1792 :: .int .i64 1568 :: .int .i64 1372 :: .int .i64 1201 :: .int .i64 1051 :: .int .i64 920 :: .int .i64 805 :: .int .i64 705 :: .int .i64 617 :: .int .i64 540 :: .int .i64 473 :: .int .i64 414 :: .int .i64 363 :: .int .i64 318 :: .int .i64 279 :: .int .i64 245 :: .int .i64 215 :: .int .i64 189 :: .int .i64 166 :: .int .i64 146 :: .int .i64 128 :: .int .i64 112 :: .int .i64 98 :: .int .i64 86 :: .int .i64 76 :: .int .i64 67 :: .int .i64 59 :: .int .i64 52 :: .int .i64 46 :: .int .i64 41 :: .int .i64 36 :: .int .u64 x2 :: .int .u64 x3 :: .own 2 :: .bool x4 :: []), .vec 3 (.int .i64) x5 false, .vec 5 (.int .u8) x6 false] k = (fun  (k0 : (Int × Int × Int × Int × Bool × (List Int) × (List Int)) → Option Ans) =>
  bif Decidable.decide ((0 : Int) ≤ x0 ∧ x0 < (↑x5.length : Int)) then
  (f200_bb9 (x1) (x5.getD x0.toNat (0 : Int))
     (fun y3 =>
       k0 (Go.IntKind.u64.wrap (Go.IntKind.u64.wrap (x2 + Go.IntKind.u64.wrap (Go.IntKind.u64.wrap ((Go.IntKind.u64.wrap (x3 - x2)).tdiv (4096 : Int)) * Go.IntKind.u64.wrap y3)) + Go.IntKind.u64.wrap ((Go.IntKind.u64.wrap ((Go.IntKind.u64.wrap (x3 - x2)).tmod (4096 : Int) * Go.IntKind.u64.wrap y3)).tdiv (4096 : Int))), x1, x2, x3, x4, x5, x6)))
  else none) (fun r => match r with | (r0, r1, r2, r3, r4, r5, r6) => k (.c (.int .u64 r0), [.cells 172 (.int .i64 r1 :: .own 1 :: .int .i64 2048 :: .int .i64 1792 :: .int .i64 1568 :: .int .i64 1372 :: .int .i64 1201 :: .int .i64 1051 :: .int .i64 920 :: .int .i64 805 :: .int .i64 705 :: .int .i64 617 :: .int .i64 540 :: .int .i64 473 :: .int .i64 414 :: .int .i64 363 :: .int .i64 318 :: .int .i64 279 :: .int .i64 245 :: .int .i64 215 :: .int .i64 189 :: .int .i64 166 :: .int .i64 146 :: .int .i64 128 :: .int .i64 112 :: .int .i64 98 :: .int .i64 86 :: .int .i64 76 :: .int .i64 67 :: .int .i64 59 :: .int .i64 52 :: .int .i64 46 :: .int .i64 41 :: .int .i64 36 :: .int .u64 r2 :: .int .u64 r3 :: .own 2 :: .bool r4 :: []), .vec 3 (.int .i64) r5 false, .vec 5 (.int .u8) r6 false])) := by
  kernel_rfl
theorem F166_402_eq (fuel : Nat) (x0 : Int) (x1 : Int) (x2 : Int) (x3 : Int) (x4 : Bool) (x5 : (List Int)) (x6 : (List Int)) (k : Ev.Cont) : evalFn tab (G166_402 fuel) (J166_402 fuel) kp166_402 fuel Try.f166 [.c (.ptr 0 0), .c (.int .i64 x0)] [.cells 172 (.int .i64 x1 :: .own 1 :: .int .i64 2048 :: .int .i64 1792 :: .int .i64 1568 :: .int .i64 1372 :: .int .i64 1201 :: .int .i64 1051 :: .int .i64 920 :: .int .i64 805 :: .int .i64 705 :: .int .i64 617 :: .int .i64 540 :: .int .i64 473 :: .int .i64 414 :: .int .i64 363 :: .int .i64 318 :: .int .i64 279 :: .int .i64 245 :: .int .i64 215 :: .int .i64 189 :: .int .i64 166 :: .int .i64 146 :: .int .i64 128 :: .int .i64 112 :: .int .i64 98 :: .int .i64 86 :: .int .i64 76 :: .int .i64 67 :: .int .i64 59 :: .int .i64 52 :: .int .i64 46 :: .int .i64 41 :: .int .i64 36 :: .int .u64 x2 :: .int .u64 x3 :: .own 2 :: .bool x4 :: []), .vec 3 (.int .i64) x5 false, .vec 5 (.int .u8) x6 false] k = F_coder_interval_mid_402 fuel x0 x1 x2 x3 x4 x5 x6 (fun r => match r with | (r0, r1, r2, r3, r4, r5, r6) => k (.c (.int .u64 r0), [.cells 172 (.int .i64 r1 :: .own 1 :: .int .i64 2048 :: .int .i64 1792 :: .int .i64 1568 :: .int .i64 1372 :: .int .i64 1201 :: .int .i64 1051 :: .int .i64 920 :: .int .i64 805 :: .int .i64 705 :: .int .i64 617 :: .int .i64 540 :: .int .i64 473 :: .int .i64 414 :: .int .i64 363 :: .int .i64 318 :: .int .i64 279 :: .int .i64 245 :: .int .i64 215 :: .int .i64 189 :: .int .i64 166 :: .int .i64 146 :: .int .i64 128 :: .int .i64 112 :: .int .i64 98 :: .int .i64 86 :: .int .i64 76 :: .int .i64 67 :: .int .i64 59 :: .int .i64 52 :: .int .i64 46 :: .int .i64 41 :: .int .i64 36 :: .int .u64 r2 :: .int .u64 r3 :: .own 2 :: .bool r4 :: []), .vec 3 (.int .i64) r5 false, .vec 5 (.int .u8) r6 false])) :=
  F166_402_eqg fuel (F_coder_table_chance_bb9 fuel) x0 x1 x2 x3 x4 x5 x6 k
theorem hG166_402 (fuel : Nat) : GOK Try.prog (G166_402 fuel) :=
  gok_cons ⟨ok200_bb9 fuel, enters_of Try.func200 (by kernel_rfl) rfl⟩ <|
  gok_nil
theorem fok166_402 (fuel : Nat) : FnOK Try.prog 166 (evalFn tab (G166_402 fuel) (J166_402 fuel) kp166_402 fuel Try.f166) :=
  fn_ok tab_ok (hG166_402 fuel) mixed Try.func166 (c := (Try.f166.body).getD .skip) rfl (fun q hq => by
    rw [(by kernel_rfl : obl (J166_402 fuel) ((Try.f166.body).getD .skip) = [])] at hq
    cases hq)
noncomputable def mt166_402 : List Ev.SV → List Ev.Ob → Bool := fun args objs => match args, objs with
  | [.c (.ptr q0 q1), .c (.int .i64 _)], [.cells q2 cs0, .vec q3 (.int .i64) _ false, .vec q4 (.int .u8) _ false] => (match splitRun 2 [(.i64, 2048), (.i64, 1792), (.i64, 1568), (.i64, 1372), (.i64, 1201), (.i64, 1051), (.i64, 920), (.i64, 805), (.i64, 705), (.i64, 617), (.i64, 540), (.i64, 473), (.i64, 414), (.i64, 363), (.i64, 318), (.i64, 279), (.i64, 245), (.i64, 215), (.i64, 189), (.i64, 166), (.i64, 146), (.i64, 128), (.i64, 112), (.i64, 98), (.i64, 86), (.i64, 76), (.i64, 67), (.i64, 59), (.i64, 52), (.i64, 46), (.i64, 41), (.i64, 36)] cs0 with | some ([.int .i64 _, .own q5], [.int .u64 _, .int .u64 _, .own q6, .bool _]) => Nat.beq q0 0 && Nat.beq q1 0 && Nat.beq q2 172 && Nat.beq q3 3 && Nat.beq q4 5 && Nat.beq q5 1 && Nat.beq q6 2 | _ => false)
  | _, _ => false
noncomputable def spg166_402 (F : YF166_402) : Ev.Spec := fun args objs k => match args, objs with
  | [.c (.ptr q0 q1), .c (.int .i64 x0)], [.cells q2 cs0, .vec q3 (.int .i64) x5 false, .vec q4 (.int .u8) x6 false] => (match splitRun 2 [(.i64, 2048), (.i64, 1792), (.i64, 1568), (.i64, 1372), (.i64, 1201), (.i64, 1051), (.i64, 920), (.i64, 805), (.i64, 705), (.i64, 617), (.i64, 540), (.i64, 473), (.i64, 414), (.i64, 363), (.i64, 318), (.i64, 279), (.i64, 245), (.i64, 215), (.i64, 189), (.i64, 166), (.i64, 146), (.i64, 128), (.i64, 112), (.i64, 98), (.i64, 86), (.i64, 76), (.i64, 67), (.i64, 59), (.i64, 52), (.i64, 46), (.i64, 41), (.i64, 36)] cs0 with | some ([.int .i64 x1, .own q5], [.int .u64 x2, .int .u64 x3, .own q6, .bool x4]) => bif Nat.beq q0 0 && Nat.beq q1 0 && Nat.beq q2 172 && Nat.beq q3 3 && Nat.beq q4 5 && Nat.beq q5 1 && Nat.beq q6 2 then F x0 x1 x2 x3 x4 x5 x6 (fun r => match r with | (r0, r1, r2, r3, r4, r5, r6) => k (.c (.int .u64 r0), [.cells 172 (.int .i64 r1 :: .own 1 :: .int .i64 2048 :: .int .i64 1792 :: .int .i64 1568 :: .int .i64 1372 :: .int .i64 1201 :: .int .i64 1051 :: .int .i64 920 :: .int .i64 805 :: .int .i64 705 :: .int .i64 617 :: .int .i64 540 :: .int .i64 473 :: .int .i64 414 :: .int .i64 363 :: .int .i64 318 :: .int .i64 279 :: .int .i64 245 :: .int .i64 215 :: .int .i64 189 :: .int .i64 166 :: .int .i64 146 :: .int .i64 128 :: .int .i64 112 :: .int .i64 98 :: .int .i64 86 :: .int .i64 76 :: .int .i64 67 :: .int .i64 59 :: .int .i64 52 :: .int .i64 46 :: .int .i64 41 :: .int .i64 36 :: .int .u64 r2 :: .int .u64 r3 :: .own 2 :: .bool r4 :: []), .vec 3 (.int .i64) r5 false, .vec 5 (.int .u8) r6 false])) else none | _ => none)
  | _, _ => none
noncomputable def spec166_402 (fuel : Nat) : Ev.Spec := spg166_402 (F_coder_interval_mid_402 fuel)
theorem ok166_402 (fuel : Nat) : FnOK Try.prog 166 (spec166_402 fuel) := by
  intro args objs kk r h
  unfold spec166_402 spg166_402 at h
  split at h
  · skip
    split at h
    rotate_left 1
    · cases h
    rename_i hsp
    have esp := splitRun_eq hsp
    subst esp
    obtain ⟨hb, h⟩ := cond_some' h
    simp only [Bool.and_eq_true, Nat.beq_eq, decide_eq_true_eq] at hb
    obtain ⟨⟨⟨⟨⟨⟨rfl, rfl⟩, rfl⟩, rfl⟩, rfl⟩, rfl⟩, rfl⟩ := hb
    exact fok166_402 fuel _ _ kk r ((F166_402_eq fuel _ _ _ _ _ _ _ kk).trans h)
  · cases h
end Go.Proofs.Ytihfgpfofmjbaaa

set_option linter.unusedVariables false
set_option linter.unusedSimpArgs false
set_option maxRecDepth 100000
set_option maxHeartbeats 2000000
namespace Go.Proofs.Ytihfgpfofmjbaaa
open Go Ev
def kp168_a20 (i : Nat) : Option (List Nat) := Ev.look i [(200001, [0])]
noncomputable def Gg168_a20 (f : Nat) : Option Ev.Spec := Ev.look f []
noncomputable def G168_a20 (fuel : Nat) : Nat → Option Ev.Spec := Gg168_a20
noncomputable def J168_a20 (fuel : Nat) (i : Nat) : Option Ev.Blk := Ev.look i []
noncomputable def F_coder_interval_same_a20 (fuel : Nat) (x0 : Int) (x1 : Int) (x2 : Int) (x3 : Bool) (x4 : (List Int)) (x5 : (List Int)) (k0 : (Bool × Int × Int × Int × Bool × (List Int) × (List Int)) → Option Ans) : Option Ans :=
  k0 (Ev.ishr Go.IntKind.u64 x1 (24 : Int) == Ev.ishr Go.IntKind.u64 x2 (24 : Int), x0, x1, x2, x3, x4, x5)
abbrev YF168_a20 : Type := (Int) → (Int) → (Int) → (Bool) → ((List Int)) → ((List Int)) → ((Bool × Int × Int × Int × Bool × (List Int) × (List Int)) → Option Ans) → Option Ans
theorem F168_a20_eq (fuel : Nat) (x0 : Int) (x1 : Int) (x2 : Int) (x3 : Bool) (x4 : (List Int)) (x5 : (List Int)) (k : Ev.Cont) : evalFn tab (G168_a20 fuel) (J168_a20 fuel) kp168_a20 fuel Try.f168 [.c (.ptr 0 0)] [.cells 172 (.int .i64 x0 :: .own 1 :: .int .i64 2048 :: .int .i64 1792 :: .int .i64 1568 :: .int .i64 1372 :: .int .i64 1201 :: .int .i64 1051 :: .int .i64 920 :: .int .i64 805 :: .int .i64 705 :: .int .i64 617 :: .int .i64 540 :: .int .i64 473 :: .int .i64 414 :: .int .i64 363 :: .int .i64 318 :: .int .i64 279 :: .int .i64 245 :: .int .i64 215 :: .int .i64 189 :: .int .i64 166 :: .int .i64 146 :: .int .i64 128 :: .int .i64 112 :: .int .i64 98 :: .int .i64 86 :: .int .i64 76 :: .int .i64 67 :: .int .i64 59 :: .int .i64 52 :: .int .i64 46 :: .int .i64 41 :: .int .i64 36 :: .int .u64 x1 :: .int .u64 x2 :: .own 2 :: .bool x3 :: []), .vec 3 (.int .i64) x4 false, .vec 5 (.int .u8) x5 false] k = F_coder_interval_same_a20 fuel x0 x1 x2 x3 x4 x5 (fun r => match r with | (r0, r1, r2, r3, r4, r5, r6) => k (.c (.bool r0), [.cells 172 (.int .i64 r1 :: .own 1 :: .int .i64 2048 :: .int .i64 1792 :: .int .i64 1568 :: .int .i64 1372 :: .int .i64 1201 :: .int .i64 1051 :: .int .i64 920 :: .int .i64 805 :: .int .i64 705 :: .int .i64 617 :: .int .i64 540 :: .int .i64 473 :: .int .i64 414 :: .int .i64 363 :: .int .i64 318 :: .int .i64 279 :: .int .i64 245 :: .int .i64 215 :: .int .i64 189 :: .int .i64 166 :: .int .i64 146 :: .int .i64 128 :: .int .i64 112 :: .int .i64 98 :: .int .i64 86 :: .int .i64 76 :: .int .i64 67 :: .int .i64 59 :: .int .i64 52 :: .int .i64 46 :: .int .i64 41 :: .int .i64 36 :: .int .u64 r2 :: .int .u64 r3 :: .own 2 :: .bool r4 :: []), .vec 3 (.int .i64) r5 false, .vec 5 (.int .u8) r6 false])) := by
  kernel_rfl
theorem hG168_a20 (fuel : Nat) : GOK Try.prog (G168_a20 fuel) :=
  gok_nil
theorem fok168_a20 (fuel : Nat) : FnOK Try.prog 168 (evalFn tab (G168_a20 fuel) (J168_a20 fuel) kp168_a20 fuel Try.f168) :=
  fn_ok tab_ok (hG168_a20 fuel) mixed Try.func168 (c := (Try.f168.body).getD .skip) rfl (fun q hq => by
    rw [(by kernel_rfl : obl (J168_a20 fuel) ((Try.f168.body).getD .skip) = [])] at hq
    cases hq)
noncomputable def mt168_a20 : List Ev.SV → List Ev.Ob → Bool := fun args objs => match args, objs with
  | [.c (.ptr q0 q1)], [.cells q2 cs0, .vec q3 (.int .i64) _ false, .vec q4 (.int .u8) _ false] => (match splitRun 2 [(.i64, 2048), (.i64, 1792), (.i64, 1568), (.i64, 1372), (.i64, 1201), (.i64, 1051), (.i64, 920), (.i64, 805), (.i64, 705), (.i64, 617), (.i64, 540), (.i64, 473), (.i64, 414), (.i64, 363), (.i64, 318), (.i64, 279), (.i64, 245), (.i64, 215), (.i64, 189), (.i64, 166), (.i64, 146), (.i64, 128), (.i64, 112), (.i64, 98), (.i64, 86), (.i64, 76), (.i64, 67), (.i64, 59), (.i64, 52), (.i64, 46), (.i64, 41), (.i64, 36)] cs0 with | some ([.int .i64 _, .own q5], [.int .u64 _, .int .u64 _, .own q6, .bool _]) => Nat.beq q0 0 && Nat.beq q1 0 && Nat.beq q2 172 && Nat.beq q3 3 && Nat.beq q4 5 && Nat.beq q5 1 && Nat.beq q6 2 | _ => false)
  | _, _ => false
noncomputable def spg168_a20 (F : YF168_a20) : Ev.Spec := fun args objs k => match args, objs with
  | [.c (.ptr q0 q1)], [.cells q2 cs0, .vec q3 (.int .i64) x4 false, .vec q4 (.int .u8) x5 false] => (match splitRun 2 [(.i64, 2048), (.i64, 1792), (.i64, 1568), (.i64, 1372), (.i64, 1201), (.i64, 1051), (.i64, 920), (.i64, 805), (.i64, 705), (.i64, 617), (.i64, 540), (.i64, 473), (.i64, 414), (.i64, 363), (.i64, 318), (.i64, 279), (.i64, 245), (.i64, 215), (.i64, 189), (.i64, 166), (.i64, 146), (.i64, 128), (.i64, 112), (.i64, 98), (.i64, 86), (.i64, 76), (.i64, 67), (.i64, 59), (.i64, 52), (.i64, 46), (.i64, 41), (.i64, 36)] cs0 with | some ([.int .i64 x0, .own q5], [.int .u64 x1, .int .u64 x2, .own q6, .bool x3]) => bif Nat.beq q0 0 && Nat.beq q1 0 && Nat.beq q2 172 && Nat.beq q3 3 && Nat.beq q4 5 && Nat.beq q5 1 && Nat.beq q6 2 then F x0 x1 x2 x3 x4 x5 (fun r => match r with | (r0, r1, r2, r3, r4, r5, r6) => k (.c (.bool r0), [.cells 172 (.int .i64 r1 :: .own 1 :: .int .i64 2048 :: .int .i64 1792 :: .int .i64 1568 :: .int .i64 1372 :: .int .i64 1201 :: .int .i64 1051 :: .int .i64 920 :: .int .i64 805 :: .int .i64 705 :: .int .i64 617 :: .int .i64 540 :: .int .i64 473 :: .int .i64 414 :: .int .i64 363 :: .int .i64 318 :: .int .i64 279 :: .int .i64 245 :: .int .i64 215 :: .int .i64 189 :: .int .i64 166 :: .int .i64 146 :: .int .i64 128 :: .int .i64 112 :: .int .i64 98 :: .int .i64 86 :: .int .i64 76 :: .int .i64 67 :: .int .i64 59 :: .int .i64 52 :: .int .i64 46 :: .int .i64 41 :: .int .i64 36 :: .int .u64 r2 :: .int .u64 r3 :: .own 2 :: .bool r4 :: []), .vec 3 (.int .i64) r5 false, .vec 5 (.int .u8) r6 false])) else none | _ => none)
  | _, _ => none
noncomputable def spec168_a20 (fuel : Nat) : Ev.Spec := spg168_a20 (F_coder_interval_same_a20 fuel)
theorem ok168_a20 (fuel : Nat) : FnOK Try.prog 168 (spec168_a20 fuel) := by
  intro args objs kk r h
  unfold spec168_a20 spg168_a20 at h
  split at h
  · skip
    split at h
    rotate_left 1
    · cases h
    rename_i hsp
    have esp := splitRun_eq hsp
    subst esp
    obtain ⟨hb, h⟩ := cond_some' h
    simp only [Bool.and_eq_true, Nat.beq_eq, decide_eq_true_eq] at hb
    obtain ⟨⟨⟨⟨⟨⟨rfl, rfl⟩, rfl⟩, rfl⟩, rfl⟩, rfl⟩, rfl⟩ := hb
    exact fok168_a20 fuel _ _ kk r ((F168_a20_eq fuel _ _ _ _ _ _ kk).trans h)
  · cases h
end Go.Proofs.Ytihfgpfofmjbaaa

set_option linter.unusedVariables false
set_option linter.unusedSimpArgs false
set_option maxRecDepth 100000
set_option maxHeartbeats 2000000
namespace Go.Proofs.Ytihfgpfofmjbaaa
open Go Ev
def kp201 (i : Nat) : Option (List Nat) := Ev.look i []
noncomputable def Gg201 (f : Nat) : Option Ev.Spec := Ev.look f []
noncomputable def G201 (fuel : Nat) : Nat → Option Ev.Spec := Gg201
noncomputable def J201 (fuel : Nat) (i : Nat) : Option Ev.Blk := Ev.look i []
noncomputable def F_coder_next (fuel : Nat) (x0 : Int) (x1 : Int) (x2 : Int) (k0 : (Int) → Option Ans) : Option Ans :=
  bif x0 == (1 : Int) then
   bif Decidable.decide ((0 : Int) ≤ x2 ∧ x2 < (↑(2 : Nat) : Int)) then
   bif Decidable.decide (x2 = (↑(0 : Nat) : Int)) then
     bif Go.IntKind.i64.wrap (x1.tdiv (256 : Int)) == (255 : Int) then
      bif Decidable.decide ((0 : Int) ≤ x2 ∧ x2 < (↑(2 : Nat) : Int)) then
      bif Decidable.decide (x2 = (↑(0 : Nat) : Int)) then
        bif Decidable.decide ((0 : Int) ≤ x2 ∧ x2 < (↑(2 : Nat) : Int)) then
        bif Decidable.decide (x2 = (↑(0 : Nat) : Int)) then
          k0 (Go.IntKind.i64.wrap (Go.IntKind.i64.wrap ((256 : Int) * Go.IntKind.i64.wrap (Go.IntKind.i64.wrap ((Go.IntKind.i64.wrap (x1.tdiv (256 : Int))).tdiv (2 : Int)) + (1 : Int))) + Go.IntKind.i64.wrap ((x1.tmod (256 : Int)).tdiv (2 : Int))))
         else
          bif Decidable.decide (x2 = (↑(1 : Nat) : Int)) then
          k0 (Go.IntKind.i64.wrap (Go.IntKind.i64.wrap ((256 : Int) * Go.IntKind.i64.wrap ((Go.IntKind.i64.wrap (x1.tdiv (256 : Int))).tdiv (2 : Int))) + Go.IntKind.i64.wrap (Go.IntKind.i64.wrap ((Go.IntKind.i64.wrap (x1.tdiv (256 : Int))).tdiv (2 : Int)) + (1 : Int))))
          else none
        else none
       else
        bif Decidable.decide (x2 = (↑(1 : Nat) : Int)) then
        bif Decidable.decide ((0 : Int) ≤ x2 ∧ x2 < (↑(2 : Nat) : Int)) then
         bif Decidable.decide (x2 = (↑(0 : Nat) : Int)) then
           k0 (Go.IntKind.i64.wrap (Go.IntKind.i64.wrap ((256 : Int) * Go.IntKind.i64.wrap (Go.IntKind.i64.wrap ((x1.tmod (256 : Int)).tdiv (2 : Int)) + (1 : Int))) + Go.IntKind.i64.wrap ((x1.tmod (256 : Int)).tdiv (2 : Int))))
          else
           bif Decidable.decide (x2 = (↑(1 : Nat) : Int)) then
           k0 (Go.IntKind.i64.wrap (Go.IntKind.i64.wrap ((256 : Int) * Go.IntKind.i64.wrap ((Go.IntKind.i64.wrap (x1.tdiv (256 : Int))).tdiv (2 : Int))) + Go.IntKind.i64.wrap (Go.IntKind.i64.wrap ((x1.tmod (256 : Int)).tdiv (2 : Int)) + (1 : Int))))
           else none
         else none
        else none
      else none
     else
      bif Decidable.decide ((0 : Int) ≤ x2 ∧ x2 < (↑(2 : Nat) : Int)) then
      bif Decidable.decide (x2 = (↑(0 : Nat) : Int)) then
        bif Decidable.decide ((0 : Int) ≤ x2 ∧ x2 < (↑(2 : Nat) : Int)) then
        bif Decidable.decide (x2 = (↑(0 : Nat) : Int)) then
          k0 (Go.IntKind.i64.wrap (Go.IntKind.i64.wrap ((256 : Int) * Go.IntKind.i64.wrap (Go.IntKind.i64.wrap (x1.tdiv (256 : Int)) + (1 : Int))) + x1.tmod (256 : Int)))
         else
          bif Decidable.decide (x2 = (↑(1 : Nat) : Int)) then
          k0 (Go.IntKind.i64.wrap (Go.IntKind.i64.wrap ((256 : Int) * Go.IntKind.i64.wrap (x1.tdiv (256 : Int))) + Go.IntKind.i64.wrap (Go.IntKind.i64.wrap (x1.tdiv (256 : Int)) + (1 : Int))))
          else none
        else none
       else
        bif Decidable.decide (x2 = (↑(1 : Nat) : Int)) then
        bif Decidable.decide ((0 : Int) ≤ x2 ∧ x2 < (↑(2 : Nat) : Int)) then
         bif Decidable.decide (x2 = (↑(0 : Nat) : Int)) then
           k0 (Go.IntKind.i64.wrap (Go.IntKind.i64.wrap ((256 : Int) * Go.IntKind.i64.wrap (x1.tmod (256 : Int) + (1 : Int))) + x1.tmod (256 : Int)))
          else
           bif Decidable.decide (x2 = (↑(1 : Nat) : Int)) then
           k0 (Go.IntKind.i64.wrap (Go.IntKind.i64.wrap ((256 : Int) * Go.IntKind.i64.wrap (x1.tdiv (256 : Int))) + Go.IntKind.i64.wrap (x1.tmod (256 : Int) + (1 : Int))))
           else none
         else none
        else none
      else none
    else
     bif Decidable.decide (x2 = (↑(1 : Nat) : Int)) then
     bif x1.tmod (256 : Int) == (255 : Int) then
       bif Decidable.decide ((0 : Int) ≤ x2 ∧ x2 < (↑(2 : Nat) : Int)) then
       bif Decidable.decide (x2 = (↑(0 : Nat) : Int)) then
         bif Decidable.decide ((0 : Int) ≤ x2 ∧ x2 < (↑(2 : Nat) : Int)) then
         bif Decidable.decide (x2 = (↑(0 : Nat) : Int)) then
           k0 (Go.IntKind.i64.wrap (Go.IntKind.i64.wrap ((256 : Int) * Go.IntKind.i64.wrap (Go.IntKind.i64.wrap ((Go.IntKind.i64.wrap (x1.tdiv (256 : Int))).tdiv (2 : Int)) + (1 : Int))) + Go.IntKind.i64.wrap ((x1.tmod (256 : Int)).tdiv (2 : Int))))
          else
           bif Decidable.decide (x2 = (↑(1 : Nat) : Int)) then
           k0 (Go.IntKind.i64.wrap (Go.IntKind.i64.wrap ((256 : Int) * Go.IntKind.i64.wrap ((Go.IntKind.i64.wrap (x1.tdiv (256 : Int))).tdiv (2 : Int))) + Go.IntKind.i64.wrap (Go.IntKind.i64.wrap ((Go.IntKind.i64.wrap (x1.tdiv (256 : Int))).tdiv (2 : Int)) + (1 : Int))))
           else none
         else none
        else
         bif Decidable.decide (x2 = (↑(1 : Nat) : Int)) then
         bif Decidable.decide ((0 : Int) ≤ x2 ∧ x2 < (↑(2 : Nat) : Int)) then
          bif Decidable.decide (x2 = (↑(0 : Nat) : Int)) then
            k0 (Go.IntKind.i64.wrap (Go.IntKind.i64.wrap ((256 : Int) * Go.IntKind.i64.wrap (Go.IntKind.i64.wrap ((x1.tmod (256 : Int)).tdiv (2 : Int)) + (1 : Int))) + Go.IntKind.i64.wrap ((x1.tmod (256 : Int)).tdiv (2 : Int))))
           else
            bif Decidable.decide (x2 = (↑(1 : Nat) : Int)) then
            k0 (Go.IntKind.i64.wrap (Go.IntKind.i64.wrap ((256 : Int) * Go.IntKind.i64.wrap ((Go.IntKind.i64.wrap (x1.tdiv (256 : Int))).tdiv (2 : Int))) + Go.IntKind.i64.wrap (Go.IntKind.i64.wrap ((x1.tmod (256 : Int)).tdiv (2 : Int)) + (1 : Int))))
            else none
          else none
         else none
       else none
      else
       bif Decidable.decide ((0 : Int) ≤ x2 ∧ x2 < (↑(2 : Nat) : Int)) then
       bif Decidable.decide (x2 = (↑(0 : Nat) : Int)) then
         bif Decidable.decide ((0 : Int) ≤ x2 ∧ x2 < (↑(2 : Nat) : Int)) then
         bif Decidable.decide (x2 = (↑(0 : Nat) : Int)) then
           k0 (Go.IntKind.i64.wrap (Go.IntKind.i64.wrap ((256 : Int) * Go.IntKind.i64.wrap (Go.IntKind.i64.wrap (x1.tdiv (256 : Int)) + (1 : Int))) + x1.tmod (256 : Int)))
          else
           bif Decidable.decide (x2 = (↑(1 : Nat) : Int)) then
           k0 (Go.IntKind.i64.wrap (Go.IntKind.i64.wrap ((256 : Int) * Go.IntKind.i64.wrap (x1.tdiv (256 : Int))) + Go.IntKind.i64.wrap (Go.IntKind.i64.wrap (x1.tdiv (256 : Int)) + (1 : Int))))
           else none
         else none
        else
         bif Decidable.decide (x2 = (↑(1 : Nat) : Int)) then
         bif Decidable.decide ((0 : Int) ≤ x2 ∧ x2 < (↑(2 : Nat) : Int)) then
          bif Decidable.decide (x2 = (↑(0 : Nat) : Int)) then
            k0 (Go.IntKind.i64.wrap (Go.IntKind.i64.wrap ((256 : Int) * Go.IntKind.i64.wrap (x1.tmod (256 : Int) + (1 : Int))) + x1.tmod (256 : Int)))
           else
            bif Decidable.decide (x2 = (↑(1 : Nat) : Int)) then
            k0 (Go.IntKind.i64.wrap (Go.IntKind.i64.wrap ((256 : Int) * Go.IntKind.i64.wrap (x1.tdiv (256 : Int))) + Go.IntKind.i64.wrap (x1.tmod (256 : Int) + (1 : Int))))
            else none
          else none
         else none
       else none
     else none
   else none
  else
   bif x2 == Go.IntKind.i64.wrap (x1.tdiv (32 : Int)) then
    k0 (Go.IntKind.i64.wrap (Go.IntKind.i64.wrap ((32 : Int) * Go.IntKind.i64.wrap (x1.tdiv (32 : Int))) + bif Decidable.decide ((31 : Int) < Go.IntKind.i64.wrap (x1.tmod (32 : Int) + (1 : Int))) then (31 : Int) else Go.IntKind.i64.wrap (x1.tmod (32 : Int) + (1 : Int))))
   else
    bif x1.tmod (32 : Int) == (0 : Int) then
     k0 (Go.IntKind.i64.wrap (Go.IntKind.i64.wrap ((32 : Int) * x2) + x1.tmod (32 : Int)))
    else
     k0 (Go.IntKind.i64.wrap (Go.IntKind.i64.wrap ((32 : Int) * Go.IntKind.i64.wrap (x1.tdiv (32 : Int))) + Go.IntKind.i64.wrap (x1.tmod (32 : Int) - Go.IntKind.i64.wrap ((1 : Int) + Go.IntKind.i64.wrap ((x1.tmod (32 : Int)).tdiv (4 : Int))))))
abbrev YF201 : Type := (Int) → (Int) → (Int) → ((Int) → Option Ans) → Option Ans
theorem F201_eq (fuel : Nat) (x0 : Int) (x1 : Int) (x2 : Int) (k : Ev.Cont) : evalFn tab (G201 fuel) (J201 fuel) kp201 fuel Try.f201 [.c (.int .i64 x0), .c (.int .i64 x1), .c (.int .i64 x2)] [] k = F_coder_next fuel x0 x1 x2 (fun r => match r with | r0 => k (.c (.int .i64 r0), [])) := by
  kernel_rfl
theorem hG201 (fuel : Nat) : GOK Try.prog (G201 fuel) :=
  gok_nil
theorem fok201 (fuel : Nat) : FnOK Try.prog 201 (evalFn tab (G201 fuel) (J201 fuel) kp201 fuel Try.f201) :=
  fn_ok tab_ok (hG201 fuel) mixed Try.func201 (c := (Try.f201.body).getD .skip) rfl (fun q hq => by
    rw [(by kernel_rfl : obl (J201 fuel) ((Try.f201.body).getD .skip) = [])] at hq
    cases hq)
noncomputable def mt201 : List Ev.SV → List Ev.Ob → Bool := fun args objs => match args, objs with
  | [.c (.int .i64 _), .c (.int .i64 _), .c (.int .i64 _)], [] => true
  | _, _ => false
noncomputable def spg201 (F : YF201) : Ev.Spec := fun args objs k => match args, objs with
  | [.c (.int .i64 x0), .c (.int .i64 x1), .c (.int .i64 x2)], [] => bif true then F x0 x1 x2 (fun r => match r with | r0 => k (.c (.int .i64 r0), [])) else none
  | _, _ => none
noncomputable def spec201 (fuel : Nat) : Ev.Spec := spg201 (F_coder_next fuel)
theorem ok201 (fuel : Nat) : FnOK Try.prog 201 (spec201 fuel) := by
  intro args objs kk r h
  unfold spec201 spg201 at h
  split at h
  · skip
    obtain ⟨hb, h⟩ := cond_some' h
    simp only [Bool.and_eq_true, Nat.beq_eq, decide_eq_true_eq] at hb
    clear hb
    exact fok201 fuel _ _ kk r ((F201_eq fuel _ _ _ kk).trans h)
  · cases h
end Go.Proofs.Ytihfgpfofmjbaaa

set_option linter.unusedVariables false
set_option linter.unusedSimpArgs false
set_option maxRecDepth 100000
set_option maxHeartbeats 2000000
namespace Go.Proofs.Ytihfgpfofmjbaaa
open Go Ev
def kp167_546 (i : Nat) : Option (List Nat) := Ev.look i [(200003, [0])]
noncomputable def Gg167_546 (f201 : YF201) (f : Nat) : Option Ev.Spec := Ev.look f [(201, spg201 f201)]
noncomputable def G167_546 (fuel : Nat) : Nat → Option Ev.Spec := Gg167_546 (F_coder_next fuel)
noncomputable def J167_546 (fuel : Nat) (i : Nat) : Option Ev.Blk := Ev.look i []
noncomputable def F_coder_interval_take_546 (fuel : Nat) (x0 : Int) (x1 : Int) (x2 : Int) (x3 : Int) (x4 : Int) (x5 : Int) (x6 : Bool) (x7 : (List Int)) (x8 : (List Int)) (k0 : (Int × Int × Int × Bool × (List Int) × (List Int)) → Option Ans) : Option Ans :=
  bif x1 == (1 : Int) then
   bif Decidable.decide ((0 : Int) ≤ x0 ∧ x0 < (↑x7.length : Int)) then
   (F_coder_next fuel (x3) (x7.getD x0.toNat (0 : Int)) (x1)
      (fun y4 =>
        bif Decidable.decide ((0 : Int) ≤ x0 ∧ x0 < (↑x7.length : Int)) then
        k0 (x3, x4, x2, x6, x7.set x0.toNat y4, x8)
        else none))
   else none
  else
   bif Decidable.decide ((0 : Int) ≤ x0 ∧ x0 < (↑x7.length : Int)) then
   (F_coder_next fuel (x3) (x7.getD x0.toNat (0 : Int)) (x1)
      (fun y4 =>
        bif Decidable.decide ((0 : Int) ≤ x0 ∧ x0 < (↑x7.length : Int)) then
        k0 (x3, Go.IntKind.u64.wrap (x2 + (1 : Int)), x5, x6, x7.set x0.toNat y4, x8)
        else none))
   else none
abbrev YF167_546 : Type := (Int) → (Int) → (Int) → (Int) → (Int) → (Int) → (Bool) → ((List Int)) → ((List Int)) → ((Int × Int × Int × Bool × (List Int) × (List Int)) → Option Ans) → Option Ans
theorem F167_546_eqg (fuel : Nat) (f201 : YF201) (x0 : Int) (x1 : Int) (x2 : Int) (x3 : Int) (x4 : Int) (x5 : Int) (x6 : Bool) (x7 : (List Int)) (x8 : (List Int)) (k : Ev.Cont) : evalFn tab (Gg167_546 f201) (J167_546 fuel) kp167_546 fuel Try.f167 [.c (.ptr 0 0), .c (.int .i64 x0), .c (.int .i64 x1), .c (.int .u64 x2)] [.cells 172 (.int .i64 x3 :: .own 1 :: .int .i64 2048 :: .int .i64 1792 :: .int .i64 1568 :: .int .i64 1372 :: .int .i64 1201 :: .int .i64 1051 :: .int .i64 920 :: .int .i64 805 :: .int .i64 705 :: .int .i64 617 :: .int .i64 540 :: .int .i64 473 :: .int .i64 414 :: .int .i64 363 :: .int .i64 318 :: .int .i64 279 :: .int .i64 245 :: .int .i64 215 :: .int .i64 189 :: .int .i64 166 :: .int .i64 146 :: .int .i64 128 :: .int .i64 112 :: .int .i64 98 :: .int .i64 86 :: .int .i64 76 :: .int .i64 67 :: .int .i64 59 :: .int .i64 52 :: .int .i64 46 :: .int .i64 41 :: .int .i64 36 :: .int .u64 x4 :: .int .u64 x5 :: .own 2 :: .bool x6 :: []), .vec 3 (.int .i64) x7 false, .vec 5 (.int .u8) x8 false] k = (fun  (k0 : (Int × Int × Int × Bool × (List Int) × (List Int)) → Option Ans) =>
  bif x1 == (1 : Int) then
   bif Decidable.decide ((0 : Int) ≤ x0 ∧ x0 < (↑x7.length : Int)) then
   (f201 (x3) (x7.getD x0.toNat (0 : Int)) (x1)
      (fun y4 =>
        bif Decidable.decide ((0 : Int) ≤ x0 ∧ x0 < (↑x7.length : Int)) then
        k0 (x3, x4, x2, x6, x7.set x0.toNat y4, x8)
        else none))
   else none
  else
   bif Decidable.decide ((0 : Int) ≤ x0 ∧ x0 < (↑x7.length : Int)) then
   (f201 (x3) (x7.getD x0.toNat (0 : Int)) (x1)
      (fun y4 =>
        bif Decidable.decide ((0 : Int) ≤ x0 ∧ x0 < (↑x7.length : Int)) then
        k0 (x3, Go.IntKind.u64.wrap (x2 + (1 : Int)), x5, x6, x7.set x0.toNat y4, x8)
        else none))
   else none) (fun r => match r with | (r0, r1, r2, r3, r4, r5) => k (.tup [], [.cells 172 (.int .i64 r0 :: .own 1 :: .int .i64 2048 :: .int .i64 1792 :: .int .i64 1568 :: .int .i64 1372 :: .int .i64 1201 :: .int .i64 1051 :: .int .i64 920 :: .int .i64 805 :: .int .i64 705 :: .int .i64 617 :: .int .i64 540 :: .int .i64 473 :: .int .i64 414 :: .int .i64 363 :: .int .i64 318 :: .int .i64 279 :: .int .i64 245 :: .int .i64 215 :: .int .i64 189 :: .int .i64 166 :: .int .i64 146 :: .int .i64 128 :: .int .i64 112 :: .int .i64 98 :: .int .i64 86 :: .int .i64 76 :: .int .i64 67 :: .int .i64 59 :: .int .i64 52 :: .int .i64 46 :: .int .i64 41 :: .int .i64 36 :: .int .u64 r1 :: .int .u64 r2 :: .own 2 :: .bool r3 :: []), .vec 3 (.int .i64) r4 false, .vec 5 (.int .u8) r5 false])) := by
  kernel_rfl
theorem F167_546_eq (fuel : Nat) (x0 : Int) (x1 : Int) (x2 : Int) (x3 : Int) (x4 : Int) (x5 : Int) (x6 : Bool) (x7 : (List Int)) (x8 : (List Int)) (k : Ev.Cont) : evalFn tab (G167_546 fuel) (J167_546 fuel) kp167_546 fuel Try.f167 [.c (.ptr 0 0), .c (.int .i64 x0), .c (.int .i64 x1), .c (.int .u64 x2)] [.cells 172 (.int .i64 x3 :: .own 1 :: .int .i64 2048 :: .int .i64 1792 :: .int .i64 1568 :: .int .i64 1372 :: .int .i64 1201 :: .int .i64 1051 :: .int .i64 920 :: .int .i64 805 :: .int .i64 705 :: .int .i64 617 :: .int .i64 540 :: .int .i64 473 :: .int .i64 414 :: .int .i64 363 :: .int .i64 318 :: .int .i64 279 :: .int .i64 245 :: .int .i64 215 :: .int .i64 189 :: .int .i64 166 :: .int .i64 146 :: .int .i64 128 :: .int .i64 112 :: .int .i64 98 :: .int .i64 86 :: .int .i64 76 :: .int .i64 67 :: .int .i64 59 :: .int .i64 52 :: .int .i64 46 :: .int .i64 41 :: .int .i64 36 :: .int .u64 x4 :: .int .u64 x5 :: .own 2 :: .bool x6 :: []), .vec 3 (.int .i64) x7 false, .vec 5 (.int .u8) x8 false] k = F_coder_interval_take_546 fuel x0 x1 x2 x3 x4 x5 x6 x7 x8 (fun r => match r with | (r0, r1, r2, r3, r4, r5) => k (.tup [], [.cells 172 (.int .i64 r0 :: .own 1 :: .int .i64 2048 :: .int .i64 1792 :: .int .i64 1568 :: .int .i64 1372 :: .int .i64 1201 :: .int .i64 1051 :: .int .i64 920 :: .int .i64 805 :: .int .i64 705 :: .int .i64 617 :: .int .i64 540 :: .int .i64 473 :: .int .i64 414 :: .int .i64 363 :: .int .i64 318 :: .int .i64 279 :: .int .i64 245 :: .int .i64 215 :: .int .i64 189 :: .int .i64 166 :: .int .i64 146 :: .int .i64 128 :: .int .i64 112 :: .int .i64 98 :: .int .i64 86 :: .int .i64 76 :: .int .i64 67 :: .int .i64 59 :: .int .i64 52 :: .int .i64 46 :: .int .i64 41 :: .int .i64 36 :: .int .u64 r1 :: .int .u64 r2 :: .own 2 :: .bool r3 :: []), .vec 3 (.int .i64) r4 false, .vec 5 (.int .u8) r5 false])) :=
  F167_546_eqg fuel (F_coder_next fuel) x0 x1 x2 x3 x4 x5 x6 x7 x8 k
theorem hG167_546 (fuel : Nat) : GOK Try.prog (G167_546 fuel) :=
  gok_cons ⟨ok201 fuel, enters_of Try.func201 (by kernel_rfl) rfl⟩ <|
  gok_nil
theorem fok167_546 (fuel : Nat) : FnOK Try.prog 167 (evalFn tab (G167_546 fuel) (J167_546 fuel) kp167_546 fuel Try.f167) :=
  fn_ok tab_ok (hG167_546 fuel) mixed Try.func167 (c := (Try.f167.body).getD .skip) rfl (fun q hq => by
    rw [(by kernel_rfl : obl (J167_546 fuel) ((Try.f167.body).getD .skip) = [])] at hq
    cases hq)
noncomputable def mt167_546 : List Ev.SV → List Ev.Ob → Bool := fun args objs => match args, objs with
  | [.c (.ptr q0 q1), .c (.int .i64 _), .c (.int .i64 _), .c (.int .u64 _)], [.cells q2 cs0, .vec q3 (.int .i64) _ false, .vec q4 (.int .u8) _ false] => (match splitRun 2 [(.i64, 2048), (.i64, 1792), (.i64, 1568), (.i64, 1372), (.i64, 1201), (.i64, 1051), (.i64, 920), (.i64, 805), (.i64, 705), (.i64, 617), (.i64, 540), (.i64, 473), (.i64, 414), (.i64, 363), (.i64, 318), (.i64, 279), (.i64, 245), (.i64, 215), (.i64, 189), (.i64, 166), (.i64, 146), (.i64, 128), (.i64, 112), (.i64, 98), (.i64, 86), (.i64, 76), (.i64, 67), (.i64, 59), (.i64, 52), (.i64, 46), (.i64, 41), (.i64, 36)] cs0 with | some ([.int .i64 _, .own q5], [.int .u64 _, .int .u64 _, .own q6, .bool _]) => Nat.beq q0 0 && Nat.beq q1 0 && Nat.beq q2 172 && Nat.beq q3 3 && Nat.beq q4 5 && Nat.beq q5 1 && Nat.beq q6 2 | _ => false)
  | _, _ => false
noncomputable def spg167_546 (F : YF167_546) : Ev.Spec := fun args objs k => match args, objs with
  | [.c (.ptr q0 q1), .c (.int .i64 x0), .c (.int .i64 x1), .c (.int .u64 x2)], [.cells q2 cs0, .vec q3 (.int .i64) x7 false, .vec q4 (.int .u8) x8 false] => (match splitRun 2 [(.i64, 2048), (.i64, 1792), (.i64, 1568), (.i64, 1372), (.i64, 1201), (.i64, 1051), (.i64, 920), (.i64, 805), (.i64, 705), (.i64, 617), (.i64, 540), (.i64, 473), (.i64, 414), (.i64, 363), (.i64, 318), (.i64, 279), (.i64, 245), (.i64, 215), (.i64, 189), (.i64, 166), (.i64, 146), (.i64, 128), (.i64, 112), (.i64, 98), (.i64, 86), (.i64, 76), (.i64, 67), (.i64, 59), (.i64, 52), (.i64, 46), (.i64, 41), (.i64, 36)] cs0 with | some ([.int .i64 x3, .own q5], [.int .u64 x4, .int .u64 x5, .own q6, .bool x6]) => bif Nat.beq q0 0 && Nat.beq q1 0 && Nat.beq q2 172 && Nat.beq q3 3 && Nat.beq q4 5 && Nat.beq q5 1 && Nat.beq q6 2 then F x0 x1 x2 x3 x4 x5 x6 x7 x8 (fun r => match r with | (r0, r1, r2, r3, r4, r5) => k (.tup [], [.cells 172 (.int .i64 r0 :: .own 1 :: .int .i64 2048 :: .int .i64 1792 :: .int .i64 1568 :: .int .i64 1372 :: .int .i64 1201 :: .int .i64 1051 :: .int .i64 920 :: .int .i64 805 :: .int .i64 705 :: .int .i64 617 :: .int .i64 540 :: .int .i64 473 :: .int .i64 414 :: .int .i64 363 :: .int .i64 318 :: .int .i64 279 :: .int .i64 245 :: .int .i64 215 :: .int .i64 189 :: .int .i64 166 :: .int .i64 146 :: .int .i64 128 :: .int .i64 112 :: .int .i64 98 :: .int .i64 86 :: .int .i64 76 :: .int .i64 67 :: .int .i64 59 :: .int .i64 52 :: .int .i64 46 :: .int .i64 41 :: .int .i64 36 :: .int .u64 r1 :: .int .u64 r2 :: .own 2 :: .bool r3 :: []), .vec 3 (.int .i64) r4 false, .vec 5 (.int .u8) r5 false])) else none | _ => none)
  | _, _ => none
noncomputable def spec167_546 (fuel : Nat) : Ev.Spec := spg167_546 (F_coder_interval_take_546 fuel)
theorem ok167_546 (fuel : Nat) : FnOK Try.prog 167 (spec167_546 fuel) := by
  intro args objs kk r h
  unfold spec167_546 spg167_546 at h
  split at h
  · skip
    split at h
    rotate_left 1
    · cases h
    rename_i hsp
    have esp := splitRun_eq hsp
    subst esp
    obtain ⟨hb, h⟩ := cond_some' h
    simp only [Bool.and_eq_true, Nat.beq_eq, decide_eq_true_eq] at hb
    obtain ⟨⟨⟨⟨⟨⟨rfl, rfl⟩, rfl⟩, rfl⟩, rfl⟩, rfl⟩, rfl⟩ := hb
    exact fok167_546 fuel _ _ kk r ((F167_546_eq fuel _ _ _ _ _ _ _ _ _ kk).trans h)
  · cases h
end Go.Proofs.Ytihfgpfofmjbaaa

set_option linter.unusedVariables false
set_option linter.unusedSimpArgs false
set_option maxRecDepth 100000
set_option maxHeartbeats 2000000
namespace Go.Proofs.Ytihfgpfofmjbaaa
open Go Ev
def kp99_cf0 (i : Nat) : Option (List Nat) := Ev.look i [(6, [0, 1000002]), (100001, []), (400001, [6]), (600000, [])]
noncomputable def Gg99_cf0 (f164_a20 : YF164_a20) (f166_402 : YF166_402) (f167_546 : YF167_546) (f168_a20 : YF168_a20) (f169_a20 : YF169_a20) (f : Nat) : Option Ev.Spec := Ev.look f [(164, spg164_a20 f164_a20), (166, spg166_402 f166_402), (167, spg167_546 f167_546), (168, spg168_a20 f168_a20), (169, spg169_a20 f169_a20)]
noncomputable def G99_cf0 (fuel : Nat) : Nat → Option Ev.Spec := Gg99_cf0 (F_coder_Encoder_none_a20 fuel) (F_coder_interval_mid_402 fuel) (F_coder_interval_take_546 fuel) (F_coder_interval_same_a20 fuel) (F_coder_interval_lose_a20 fuel)
noncomputable def S_coder_Encoder_Put_cf0_1 (fuel : Nat) (v : Int × Int × Int × Bool × (List Int) × (List Int)) (c : (Int × Int × Int × Bool × (List Int) × (List Int)) → Option Ans) (B : (Int × Int × Int × Bool × (List Int) × (List Int) → Option Ans)) : Option Ans := match v, B with
  | (x0, x1, x2, x3, x4, x5), b =>
   (F_coder_interval_same_a20 fuel (x0) (x1) (x2) (x3) (x4) (x5)
       (fun (y2_0, y2_1, y2_2, y2_3, y2_4, y2_5, y2_6) =>
         bif y2_0 then
          both ((F_coder_interval_lose_a20 fuel (y2_1) (y2_2) (y2_3) (y2_4) (y2_5) (y2_6)
              (fun (y9_0, y9_1, y9_2, y9_3, y9_4, y9_5, y9_6) =>
                bif Decidable.decide ((y9_6.length + [y9_0].length) * (1 : Nat) ≤ (140737488355328 : Nat) ∧ y9_6.length + [y9_0].length ≤ (140737488355328 : Nat)) then
                c (y9_1, y9_2, y9_3, y9_4, y9_5, y9_6 ++ [y9_0])
                else none)))
           ((F_coder_interval_lose_a20 fuel (y2_1) (y2_2) (y2_3) (y2_4) (y2_5) (y2_6)
              (fun (y9_0, y9_1, y9_2, y9_3, y9_4, y9_5, y9_6) =>
                both (bif Decidable.decide ((y9_6.length + [y9_0].length) * (1 : Nat) ≤ (140737488355328 : Nat) ∧ y9_6.length + [y9_0].length ≤ (140737488355328 : Nat)) then
                  c (y9_1, y9_2, y9_3, y9_4, y9_5, y9_6 ++ [y9_0])
                  else none)
                 (bif Decidable.decide ((y9_6.length + [y9_0].length) * (1 : Nat) ≤ (140737488355328 : Nat) ∧ y9_6.length + [y9_0].length ≤ (140737488355328 : Nat)) then
                  c (y9_1, y9_2, y9_3, y9_4, y9_5, y9_6 ++ [y9_0])
                  else none))))
         else
          b (y2_1, y2_2, y2_3, y2_4, y2_5, y2_6)))
noncomputable def L_coder_Encoder_Put_cf0_1 (fuel : Nat) (v : Int × Int × Int × Bool × (List Int) × (List Int)) (b : (Int × Int × Int × Bool × (List Int) × (List Int) → Option Ans)) : Option Ans := iter (S_coder_Encoder_Put_cf0_1 fuel) fuel v b
noncomputable def J99_cf0_1 (fuel : Nat) (i : Nat) : Option Ev.Blk := Ev.look i []
noncomputable def T99_cf0_1 (v : Int × Int × Int × Bool × (List Int) × (List Int)) : Ev.St := match v with | (x0, x1, x2, x3, x4, x5) => ⟨[(0, .c (.ptr 0 0))], [(0, .cells 172 (.int .i64 x0 :: .own 1 :: .int .i64 2048 :: .int .i64 1792 :: .int .i64 1568 :: .int .i64 1372 :: .int .i64 1201 :: .int .i64 1051 :: .int .i64 920 :: .int .i64 805 :: .int .i64 705 :: .int .i64 617 :: .int .i64 540 :: .int .i64 473 :: .int .i64 414 :: .int .i64 363 :: .int .i64 318 :: .int .i64 279 :: .int .i64 245 :: .int .i64 215 :: .int .i64 189 :: .int .i64 166 :: .int .i64 146 :: .int .i64 128 :: .int .i64 112 :: .int .i64 98 :: .int .i64 86 :: .int .i64 76 :: .int .i64 67 :: .int .i64 59 :: .int .i64 52 :: .int .i64 46 :: .int .i64 41 :: .int .i64 36 :: .int .u64 x1 :: .int .u64 x2 :: .own 2 :: .bool x3 :: [])), (1, .vec 3 (.int .i64) x4 false), (2, .vec 5 (.int .u8) x5 true)], 3, 3⟩
noncomputable def E99_cf0_1 (K : Ev.Ex → Ev.St → Option Ans) : (Int × Int × Int × Bool × (List Int) × (List Int) → Option Ans) := (fun v => match v with | (x0, x1, x2, x3, x4, x5) => K .normal ⟨[], [(0, .cells 172 (.int .i64 x0 :: .own 1 :: .int .i64 2048 :: .int .i64 1792 :: .int .i64 1568 :: .int .i64 1372 :: .int .i64 1201 :: .int .i64 1051 :: .int .i64 920 :: .int .i64 805 :: .int .i64 705 :: .int .i64 617 :: .int .i64 540 :: .int .i64 473 :: .int .i64 414 :: .int .i64 363 :: .int .i64 318 :: .int .i64 279 :: .int .i64 245 :: .int .i64 215 :: .int .i64 189 :: .int .i64 166 :: .int .i64 146 :: .int .i64 128 :: .int .i64 112 :: .int .i64 98 :: .int .i64 86 :: .int .i64 76 :: .int .i64 67 :: .int .i64 59 :: .int .i64 52 :: .int .i64 46 :: .int .i64 41 :: .int .i64 36 :: .int .u64 x1 :: .int .u64 x2 :: .own 2 :: .bool x3 :: [])), (1, .vec 3 (.int .i64) x4 false), (2, .vec 5 (.int .u8) x5 true)], 3, 3⟩)
theorem S99_cf0_1_okg (fuel : Nat) (f164_a20 : YF164_a20) (f166_402 : YF166_402) (f167_546 : YF167_546) (f168_a20 : YF168_a20) (f169_a20 : YF169_a20) (R : Ev.St → Option Ans) (K : Ev.Ex → Ev.St → Option Ans) (x0 : Int) (x1 : Int) (x2 : Int) (x3 : Bool) (x4 : (List Int)) (x5 : (List Int)) : evalCode tab (Gg99_cf0 f164_a20 f166_402 f167_546 f168_a20 f169_a20) (J99_cf0_1 fuel) kp99_cf0 fuel (bodyOf 1 Try.f99) (T99_cf0_1 (x0, x1, x2, x3, x4, x5)) (lc kp99_cf0 6 1 R K) = (fun (c : (Int × Int × Int × Bool × (List Int) × (List Int)) → Option Ans) (B : (Int × Int × Int × Bool × (List Int) × (List Int) → Option Ans)) => match B with
  | b =>
   (f168_a20 (x0) (x1) (x2) (x3) (x4) (x5)
       (fun (y2_0, y2_1, y2_2, y2_3, y2_4, y2_5, y2_6) =>
         bif y2_0 then
          both ((f169_a20 (y2_1) (y2_2) (y2_3) (y2_4) (y2_5) (y2_6)
              (fun (y9_0, y9_1, y9_2, y9_3, y9_4, y9_5, y9_6) =>
                bif Decidable.decide ((y9_6.length + [y9_0].length) * (1 : Nat) ≤ (140737488355328 : Nat) ∧ y9_6.length + [y9_0].length ≤ (140737488355328 : Nat)) then
                c (y9_1, y9_2, y9_3, y9_4, y9_5, y9_6 ++ [y9_0])
                else none)))
           ((f169_a20 (y2_1) (y2_2) (y2_3) (y2_4) (y2_5) (y2_6)
              (fun (y9_0, y9_1, y9_2, y9_3, y9_4, y9_5, y9_6) =>
                both (bif Decidable.decide ((y9_6.length + [y9_0].length) * (1 : Nat) ≤ (140737488355328 : Nat) ∧ y9_6.length + [y9_0].length ≤ (140737488355328 : Nat)) then
                  c (y9_1, y9_2, y9_3, y9_4, y9_5, y9_6 ++ [y9_0])
                  else none)
                 (bif Decidable.decide ((y9_6.length + [y9_0].length) * (1 : Nat) ≤ (140737488355328 : Nat) ∧ y9_6.length + [y9_0].length ≤ (140737488355328 : Nat)) then
                  c (y9_1, y9_2, y9_3, y9_4, y9_5, y9_6 ++ [y9_0])
                  else none))))
         else
          b (y2_1, y2_2, y2_3, y2_4, y2_5, y2_6)))) (fun v => R (T99_cf0_1 v)) (E99_cf0_1 K) := by
  kernel_rfl
theorem S99_cf0_1_ok (fuel : Nat) (R : Ev.St → Option Ans) (K : Ev.Ex → Ev.St → Option Ans) (x0 : Int) (x1 : Int) (x2 : Int) (x3 : Bool) (x4 : (List Int)) (x5 : (List Int)) : evalCode tab (G99_cf0 fuel) (J99_cf0_1 fuel) kp99_cf0 fuel (bodyOf 1 Try.f99) (T99_cf0_1 (x0, x1, x2, x3, x4, x5)) (lc kp99_cf0 6 1 R K) = S_coder_Encoder_Put_cf0_1 fuel (x0, x1, x2, x3, x4, x5) (fun v => R (T99_cf0_1 v)) (E99_cf0_1 K) :=
  S99_cf0_1_okg fuel (F_coder_Encoder_none_a20 fuel) (F_coder_interval_mid_402 fuel) (F_coder_interval_take_546 fuel) (F_coder_interval_same_a20 fuel) (F_coder_interval_lose_a20 fuel) R K x0 x1 x2 x3 x4 x5
noncomputable def B99_cf0_1 (fuel : Nat) : Ev.Blk := fun st K => match canonO (kp99_cf0 6) st with
  | some s => (match s with
    | ⟨[(q0, .c (.ptr q1 q2))], [(q3, .cells q4 cs0), (q5, .vec q6 (.int .i64) x4 false), (q7, .vec q8 (.int .u8) x5 true)], q9, q10⟩ => (match splitRun 2 [(.i64, 2048), (.i64, 1792), (.i64, 1568), (.i64, 1372), (.i64, 1201), (.i64, 1051), (.i64, 920), (.i64, 805), (.i64, 705), (.i64, 617), (.i64, 540), (.i64, 473), (.i64, 414), (.i64, 363), (.i64, 318), (.i64, 279), (.i64, 245), (.i64, 215), (.i64, 189), (.i64, 166), (.i64, 146), (.i64, 128), (.i64, 112), (.i64, 98), (.i64, 86), (.i64, 76), (.i64, 67), (.i64, 59), (.i64, 52), (.i64, 46), (.i64, 41), (.i64, 36)] cs0 with | some ([.int .i64 x0, .own q11], [.int .u64 x1, .int .u64 x2, .own q12, .bool x3]) => bif Nat.beq q0 0 && Nat.beq q1 0 && Nat.beq q2 0 && Nat.beq q3 0 && Nat.beq q4 172 && Nat.beq q5 1 && Nat.beq q6 3 && Nat.beq q7 2 && Nat.beq q8 5 && Nat.beq q9 3 && Nat.beq q10 3 && Nat.beq q11 1 && Nat.beq q12 2 then iter (S_coder_Encoder_Put_cf0_1 fuel) fuel (x0, x1, x2, x3, x4, x5) (E99_cf0_1 K) else none | _ => none)
    | _ => none)
  | none => none
theorem B99_cf0_1_ok (fuel : Nat) (st : Ev.St) (K : Ev.Ex → Ev.St → Option Ans) (r : Ans) (h : B99_cf0_1 fuel st K = some r) : evalCode tab (G99_cf0 fuel) (J99_cf0_1 fuel) kp99_cf0 fuel (.block 1 (.loop (bodyOf 1 Try.f99))) st K = some r := by
  unfold B99_cf0_1 at h
  split at h
  · rename_i s hs
    split at h
    · skip
      split at h
      rotate_left 1
      · cases h
      rename_i hsp
      have esp := splitRun_eq hsp
      subst esp
      obtain ⟨hb, h⟩ := cond_some' h
      simp only [Bool.and_eq_true, Nat.beq_eq, decide_eq_true_eq] at hb
      obtain ⟨⟨⟨⟨⟨⟨⟨⟨⟨⟨⟨⟨rfl, rfl⟩, rfl⟩, rfl⟩, rfl⟩, rfl⟩, rfl⟩, rfl⟩, rfl⟩, rfl⟩, rfl⟩, rfl⟩, rfl⟩ := hb
      exact blk_loop (S := T99_cf0_1) (ks := E99_cf0_1) (step := S_coder_Encoder_Put_cf0_1 fuel) (v := (_, _, _, _, _, _)) (by kernel_rfl) (by kernel_rfl) (fun R K v => by obtain ⟨x0, x1, x2, x3, x4, x5⟩ := v; exact S99_cf0_1_ok fuel R K x0 x1 x2 x3 x4 x5) hs h
    · cases h
  · cases h
noncomputable def J99_cf0 (fuel : Nat) (i : Nat) : Option Ev.Blk := Ev.look i [(100001, B99_cf0_1 fuel)]
noncomputable def F_coder_Encoder_Put_cf0 (fuel : Nat) (x0 : Int) (x1 : Int) (x2 : Int) (x3 : Int) (x4 : Int) (x5 : Bool) (x6 : (List Int)) (x7 : (List Int)) (k0 : (Int × Int × Int × Int × Bool × (List Int) × (List Int)) → Option Ans) (k1 : (Int × Int × Int × Int × Bool × (List Int) × (List Int)) → Option Ans) : Option Ans :=
  (F_coder_Encoder_none_a20 fuel (x2) (x3) (x4) (x5) (x6) (x7)
    (fun (y2_0, y2_1, y2_2, y2_3, y2_4, y2_5, y2_6) =>
      bif y2_0 then
       k0 ((7 : Int), y2_1, y2_2, y2_3, y2_4, y2_5, y2_6)
      else
       bif Decidable.decide (x0 < (0 : Int)) then
        k0 ((2 : Int), y2_1, y2_2, y2_3, y2_4, y2_5, y2_6)
       else
        bif Decidable.decide (x0 ≥ (↑y2_5.length : Int)) then
         k0 ((2 : Int), y2_1, y2_2, y2_3, y2_4, y2_5, y2_6)
        else
         bif x1 != (0 : Int) then
          bif x1 != (1 : Int) then
           k0 ((2 : Int), y2_1, y2_2, y2_3, y2_4, y2_5, y2_6)
          else
           (F_coder_interval_mid_402 fuel (x0) (y2_1) (y2_2) (y2_3) (y2_4) (y2_5) (y2_6)
             (fun (y11_0, y11_1, y11_2, y11_3, y11_4, y11_5, y11_6) =>
               (F_coder_interval_take_546 fuel (x0) (x1) (y11_0) (y11_1) (y11_2) (y11_3) (y11_4) (y11_5) (y11_6)
                 (fun (y15_0, y15_1, y15_2, y15_3, y15_4, y15_5) =>
                   (L_coder_Encoder_Put_cf0_1 fuel (y15_0, y15_1, y15_2, y15_3, y15_4, y15_5)
                     (fun (b1_0, b1_1, b1_2, b1_3, b1_4, b1_5) =>
                       k1 ((0 : Int), b1_0, b1_1, b1_2, b1_3, b1_4, b1_5)))))))
         else
          (F_coder_interval_mid_402 fuel (x0) (y2_1) (y2_2) (y2_3) (y2_4) (y2_5) (y2_6)
            (fun (y10_0, y10_1, y10_2, y10_3, y10_4, y10_5, y10_6) =>
              (F_coder_interval_take_546 fuel (x0) (x1) (y10_0) (y10_1) (y10_2) (y10_3) (y10_4) (y10_5) (y10_6)
                (fun (y14_0, y14_1, y14_2, y14_3, y14_4, y14_5) =>
                  (L_coder_Encoder_Put_cf0_1 fuel (y14_0, y14_1, y14_2, y14_3, y14_4, y14_5)
                    (fun (b1_0, b1_1, b1_2, b1_3, b1_4, b1_5) =>
                      k1 ((0 : Int), b1_0, b1_1, b1_2, b1_3, b1_4, b1_5)))))))))
abbrev YF99_cf0 : Type := (Int) → (Int) → (Int) → (Int) → (Int) → (Bool) → ((List Int)) → ((List Int)) → ((Int × Int × Int × Int × Bool × (List Int) × (List Int)) → Option Ans) → ((Int × Int × Int × Int × Bool × (List Int) × (List Int)) → Option Ans) → Option Ans
theorem F99_cf0_eqg (fuel : Nat) (f164_a20 : YF164_a20) (f166_402 : YF166_402) (f167_546 : YF167_546) (f168_a20 : YF168_a20) (f169_a20 : YF169_a20) (x0 : Int) (x1 : Int) (x2 : Int) (x3 : Int) (x4 : Int) (x5 : Bool) (x6 : (List Int)) (x7 : (List Int)) (k : Ev.Cont) : evalFn tab (Gg99_cf0 f164_a20 f166_402 f167_546 f168_a20 f169_a20) (J99_cf0 fuel) kp99_cf0 fuel Try.f99 [.c (.ptr 0 0), .c (.int .i64 x0), .c (.int .i64 x1)] [.cells 172 (.int .i64 x2 :: .own 1 :: .int .i64 2048 :: .int .i64 1792 :: .int .i64 1568 :: .int .i64 1372 :: .int .i64 1201 :: .int .i64 1051 :: .int .i64 920 :: .int .i64 805 :: .int .i64 705 :: .int .i64 617 :: .int .i64 540 :: .int .i64 473 :: .int .i64 414 :: .int .i64 363 :: .int .i64 318 :: .int .i64 279 :: .int .i64 245 :: .int .i64 215 :: .int .i64 189 :: .int .i64 166 :: .int .i64 146 :: .int .i64 128 :: .int .i64 112 :: .int .i64 98 :: .int .i64 86 :: .int .i64 76 :: .int .i64 67 :: .int .i64 59 :: .int .i64 52 :: .int .i64 46 :: .int .i64 41 :: .int .i64 36 :: .int .u64 x3 :: .int .u64 x4 :: .own 2 :: .bool x5 :: []), .vec 3 (.int .i64) x6 false, .vec 5 (.int .u8) x7 false] k = (fun  (k0 : (Int × Int × Int × Int × Bool × (List Int) × (List Int)) → Option Ans) (k1 : (Int × Int × Int × Int × Bool × (List Int) × (List Int)) → Option Ans) =>
  (f164_a20 (x2) (x3) (x4) (x5) (x6) (x7)
    (fun (y2_0, y2_1, y2_2, y2_3, y2_4, y2_5, y2_6) =>
      bif y2_0 then
       k0 ((7 : Int), y2_1, y2_2, y2_3, y2_4, y2_5, y2_6)
      else
       bif Decidable.decide (x0 < (0 : Int)) then
        k0 ((2 : Int), y2_1, y2_2, y2_3, y2_4, y2_5, y2_6)
       else
        bif Decidable.decide (x0 ≥ (↑y2_5.length : Int)) then
         k0 ((2 : Int), y2_1, y2_2, y2_3, y2_4, y2_5, y2_6)
        else
         bif x1 != (0 : Int) then
          bif x1 != (1 : Int) then
           k0 ((2 : Int), y2_1, y2_2, y2_3, y2_4, y2_5, y2_6)
          else
           (f166_402 (x0) (y2_1) (y2_2) (y2_3) (y2_4) (y2_5) (y2_6)
             (fun (y11_0, y11_1, y11_2, y11_3, y11_4, y11_5, y11_6) =>
               (f167_546 (x0) (x1) (y11_0) (y11_1) (y11_2) (y11_3) (y11_4) (y11_5) (y11_6)
                 (fun (y15_0, y15_1, y15_2, y15_3, y15_4, y15_5) =>
                   (L_coder_Encoder_Put_cf0_1 fuel (y15_0, y15_1, y15_2, y15_3, y15_4, y15_5)
                     (fun (b1_0, b1_1, b1_2, b1_3, b1_4, b1_5) =>
                       k1 ((0 : Int), b1_0, b1_1, b1_2, b1_3, b1_4, b1_5)))))))
         else
          (f166_402 (x0) (y2_1) (y2_2) (y2_3) (y2_4) (y2_5) (y2_6)
            (fun (y10_0, y10_1, y10_2, y10_3, y10_4, y10_5, y10_6) =>
              (f167_546 (x0) (x1) (y10_0) (y10_1) (y10_2) (y10_3) (y10_4) (y10_5) (y10_6)
                (fun (y14_0, y14_1, y14_2, y14_3, y14_4, y14_5) =>
                  (L_coder_Encoder_Put_cf0_1 fuel (y14_0, y14_1, y14_2, y14_3, y14_4, y14_5)
                    (fun (b1_0, b1_1, b1_2, b1_3, b1_4, b1_5) =>
                      k1 ((0 : Int), b1_0, b1_1, b1_2, b1_3, b1_4, b1_5)))))))))) (fun r => match r with | (r0, r1, r2, r3, r4, r5, r6) => k (.c (.int .i64 r0), [.cells 172 (.int .i64 r1 :: .own 1 :: .int .i64 2048 :: .int .i64 1792 :: .int .i64 1568 :: .int .i64 1372 :: .int .i64 1201 :: .int .i64 1051 :: .int .i64 920 :: .int .i64 805 :: .int .i64 705 :: .int .i64 617 :: .int .i64 540 :: .int .i64 473 :: .int .i64 414 :: .int .i64 363 :: .int .i64 318 :: .int .i64 279 :: .int .i64 245 :: .int .i64 215 :: .int .i64 189 :: .int .i64 166 :: .int .i64 146 :: .int .i64 128 :: .int .i64 112 :: .int .i64 98 :: .int .i64 86 :: .int .i64 76 :: .int .i64 67 :: .int .i64 59 :: .int .i64 52 :: .int .i64 46 :: .int .i64 41 :: .int .i64 36 :: .int .u64 r2 :: .int .u64 r3 :: .own 2 :: .bool r4 :: []), .vec 3 (.int .i64) r5 false, .vec 5 (.int .u8) r6 false])) (fun r => match r with | (r0, r1, r2, r3, r4, r5, r6) => k (.c (.int .i64 r0), [.cells 172 (.int .i64 r1 :: .own 1 :: .int .i64 2048 :: .int .i64 1792 :: .int .i64 1568 :: .int .i64 1372 :: .int .i64 1201 :: .int .i64 1051 :: .int .i64 920 :: .int .i64 805 :: .int .i64 705 :: .int .i64 617 :: .int .i64 540 :: .int .i64 473 :: .int .i64 414 :: .int .i64 363 :: .int .i64 318 :: .int .i64 279 :: .int .i64 245 :: .int .i64 215 :: .int .i64 189 :: .int .i64 166 :: .int .i64 146 :: .int .i64 128 :: .int .i64 112 :: .int .i64 98 :: .int .i64 86 :: .int .i64 76 :: .int .i64 67 :: .int .i64 59 :: .int .i64 52 :: .int .i64 46 :: .int .i64 41 :: .int .i64 36 :: .int .u64 r2 :: .int .u64 r3 :: .own 2 :: .bool r4 :: []), .vec 3 (.int .i64) r5 false, .vec 5 (.int .u8) r6 true])) := by
  kernel_rfl
theorem F99_cf0_eq (fuel : Nat) (x0 : Int) (x1 : Int) (x2 : Int) (x3 : Int) (x4 : Int) (x5 : Bool) (x6 : (List Int)) (x7 : (List Int)) (k : Ev.Cont) : evalFn tab (G99_cf0 fuel) (J99_cf0 fuel) kp99_cf0 fuel Try.f99 [.c (.ptr 0 0), .c (.int .i64 x0), .c (.int .i64 x1)] [.cells 172 (.int .i64 x2 :: .own 1 :: .int .i64 2048 :: .int .i64 1792 :: .int .i64 1568 :: .int .i64 1372 :: .int .i64 1201 :: .int .i64 1051 :: .int .i64 920 :: .int .i64 805 :: .int .i64 705 :: .int .i64 617 :: .int .i64 540 :: .int .i64 473 :: .int .i64 414 :: .int .i64 363 :: .int .i64 318 :: .int .i64 279 :: .int .i64 245 :: .int .i64 215 :: .int .i64 189 :: .int .i64 166 :: .int .i64 146 :: .int .i64 128 :: .int .i64 112 :: .int .i64 98 :: .int .i64 86 :: .int .i64 76 :: .int .i64 67 :: .int .i64 59 :: .int .i64 52 :: .int .i64 46 :: .int .i64 41 :: .int .i64 36 :: .int .u64 x3 :: .int .u64 x4 :: .own 2 :: .bool x5 :: []), .vec 3 (.int .i64) x6 false, .vec 5 (.int .u8) x7 false] k = F_coder_Encoder_Put_cf0 fuel x0 x1 x2 x3 x4 x5 x6 x7 (fun r => match r with | (r0, r1, r2, r3, r4, r5, r6) => k (.c (.int .i64 r0), [.cells 172 (.int .i64 r1 :: .own 1 :: .int .i64 2048 :: .int .i64 1792 :: .int .i64 1568 :: .int .i64 1372 :: .int .i64 1201 :: .int .i64 1051 :: .int .i64 920 :: .int .i64 805 :: .int .i64 705 :: .int .i64 617 :: .int .i64 540 :: .int .i64 473 :: .int .i64 414 :: .int .i64 363 :: .int .i64 318 :: .int .i64 279 :: .int .i64 245 :: .int .i64 215 :: .int .i64 189 :: .int .i64 166 :: .int .i64 146 :: .int .i64 128 :: .int .i64 112 :: .int .i64 98 :: .int .i64 86 :: .int .i64 76 :: .int .i64 67 :: .int .i64 59 :: .int .i64 52 :: .int .i64 46 :: .int .i64 41 :: .int .i64 36 :: .int .u64 r2 :: .int .u64 r3 :: .own 2 :: .bool r4 :: []), .vec 3 (.int .i64) r5 false, .vec 5 (.int .u8) r6 false])) (fun r => match r with | (r0, r1, r2, r3, r4, r5, r6) => k (.c (.int .i64 r0), [.cells 172 (.int .i64 r1 :: .own 1 :: .int .i64 2048 :: .int .i64 1792 :: .int .i64 1568 :: .int .i64 1372 :: .int .i64 1201 :: .int .i64 1051 :: .int .i64 920 :: .int .i64 805 :: .int .i64 705 :: .int .i64 617 :: .int .i64 540 :: .int .i64 473 :: .int .i64 414 :: .int .i64 363 :: .int .i64 318 :: .int .i64 279 :: .int .i64 245 :: .int .i64 215 :: .int .i64 189 :: .int .i64 166 :: .int .i64 146 :: .int .i64 128 :: .int .i64 112 :: .int .i64 98 :: .int .i64 86 :: .int .i64 76 :: .int .i64 67 :: .int .i64 59 :: .int .i64 52 :: .int .i64 46 :: .int .i64 41 :: .int .i64 36 :: .int .u64 r2 :: .int .u64 r3 :: .own 2 :: .bool r4 :: []), .vec 3 (.int .i64) r5 false, .vec 5 (.int .u8) r6 true])) :=
  F99_cf0_eqg fuel (F_coder_Encoder_none_a20 fuel) (F_coder_interval_mid_402 fuel) (F_coder_interval_take_546 fuel) (F_coder_interval_same_a20 fuel) (F_coder_interval_lose_a20 fuel) x0 x1 x2 x3 x4 x5 x6 x7 k
theorem hG99_cf0 (fuel : Nat) : GOK Try.prog (G99_cf0 fuel) :=
  gok_cons ⟨ok164_a20 fuel, enters_of Try.func164 (by kernel_rfl) rfl⟩ <|
  gok_cons ⟨ok166_402 fuel, enters_of Try.func166 (by kernel_rfl) rfl⟩ <|
  gok_cons ⟨ok167_546 fuel, enters_of Try.func167 (by kernel_rfl) rfl⟩ <|
  gok_cons ⟨ok168_a20 fuel, enters_of Try.func168 (by kernel_rfl) rfl⟩ <|
  gok_cons ⟨ok169_a20 fuel, enters_of Try.func169 (by kernel_rfl) rfl⟩ <|
  gok_nil
theorem B99_cf0_1_blk (fuel : Nat) : BlkOK Try.prog Try.f99.ntmps (.block 1 (.loop (bodyOf 1 Try.f99))) (B99_cf0_1 fuel) :=
  blk_of (blk_of_code tab_ok (hG99_cf0 fuel) mixed (J := J99_cf0_1 fuel) (kp := kp99_cf0) (fuel := fuel) (by kernel_rfl) (fun q hq => by
    rw [(by kernel_rfl : obl (J99_cf0_1 fuel) (.block 1 (.loop (bodyOf 1 Try.f99))) = [])] at hq
    cases hq)) (B99_cf0_1_ok fuel)
theorem fok99_cf0 (fuel : Nat) : FnOK Try.prog 99 (evalFn tab (G99_cf0 fuel) (J99_cf0 fuel) kp99_cf0 fuel Try.f99) :=
  fn_ok tab_ok (hG99_cf0 fuel) mixed Try.func99 (c := (Try.f99.body).getD .skip) rfl (fun q hq => by
    rw [(by kernel_rfl : obl (J99_cf0 fuel) ((Try.f99.body).getD .skip) = [(.block 1 (.loop (bodyOf 1 Try.f99)), B99_cf0_1 fuel)])] at hq
    simp only [List.mem_cons, List.not_mem_nil, or_false] at hq
    subst hq
    · exact B99_cf0_1_blk fuel)
noncomputable def mt99_cf0 : List Ev.SV → List Ev.Ob → Bool := fun args objs => match args, objs with
  | [.c (.ptr q0 q1), .c (.int .i64 _), .c (.int .i64 _)], [.cells q2 cs0, .vec q3 (.int .i64) _ false, .vec q4 (.int .u8) _ false] => (match splitRun 2 [(.i64, 2048), (.i64, 1792), (.i64, 1568), (.i64, 1372), (.i64, 1201), (.i64, 1051), (.i64, 920), (.i64, 805), (.i64, 705), (.i64, 617), (.i64, 540), (.i64, 473), (.i64, 414), (.i64, 363), (.i64, 318), (.i64, 279), (.i64, 245), (.i64, 215), (.i64, 189), (.i64, 166), (.i64, 146), (.i64, 128), (.i64, 112), (.i64, 98), (.i64, 86), (.i64, 76), (.i64, 67), (.i64, 59), (.i64, 52), (.i64, 46), (.i64, 41), (.i64, 36)] cs0 with | some ([.int .i64 _, .own q5], [.int .u64 _, .int .u64 _, .own q6, .bool _]) => Nat.beq q0 0 && Nat.beq q1 0 && Nat.beq q2 172 && Nat.beq q3 3 && Nat.beq q4 5 && Nat.beq q5 1 && Nat.beq q6 2 | _ => false)
  | _, _ => false
noncomputable def spg99_cf0 (F : YF99_cf0) : Ev.Spec := fun args objs k => match args, objs with
  | [.c (.ptr q0 q1), .c (.int .i64 x0), .c (.int .i64 x1)], [.cells q2 cs0, .vec q3 (.int .i64) x6 false, .vec q4 (.int .u8) x7 false] => (match splitRun 2 [(.i64, 2048), (.i64, 1792), (.i64, 1568), (.i64, 1372), (.i64, 1201), (.i64, 1051), (.i64, 920), (.i64, 805), (.i64, 705), (.i64, 617), (.i64, 540), (.i64, 473), (.i64, 414), (.i64, 363), (.i64, 318), (.i64, 279), (.i64, 245), (.i64, 215), (.i64, 189), (.i64, 166), (.i64, 146), (.i64, 128), (.i64, 112), (.i64, 98), (.i64, 86), (.i64, 76), (.i64, 67), (.i64, 59), (.i64, 52), (.i64, 46), (.i64, 41), (.i64, 36)] cs0 with | some ([.int .i64 x2, .own q5], [.int .u64 x3, .int .u64 x4, .own q6, .bool x5]) => bif Nat.beq q0 0 && Nat.beq q1 0 && Nat.beq q2 172 && Nat.beq q3 3 && Nat.beq q4 5 && Nat.beq q5 1 && Nat.beq q6 2 then F x0 x1 x2 x3 x4 x5 x6 x7 (fun r => match r with | (r0, r1, r2, r3, r4, r5, r6) => k (.c (.int .i64 r0), [.cells 172 (.int .i64 r1 :: .own 1 :: .int .i64 2048 :: .int .i64 1792 :: .int .i64 1568 :: .int .i64 1372 :: .int .i64 1201 :: .int .i64 1051 :: .int .i64 920 :: .int .i64 805 :: .int .i64 705 :: .int .i64 617 :: .int .i64 540 :: .int .i64 473 :: .int .i64 414 :: .int .i64 363 :: .int .i64 318 :: .int .i64 279 :: .int .i64 245 :: .int .i64 215 :: .int .i64 189 :: .int .i64 166 :: .int .i64 146 :: .int .i64 128 :: .int .i64 112 :: .int .i64 98 :: .int .i64 86 :: .int .i64 76 :: .int .i64 67 :: .int .i64 59 :: .int .i64 52 :: .int .i64 46 :: .int .i64 41 :: .int .i64 36 :: .int .u64 r2 :: .int .u64 r3 :: .own 2 :: .bool r4 :: []), .vec 3 (.int .i64) r5 false, .vec 5 (.int .u8) r6 false])) (fun r => match r with | (r0, r1, r2, r3, r4, r5, r6) => k (.c (.int .i64 r0), [.cells 172 (.int .i64 r1 :: .own 1 :: .int .i64 2048 :: .int .i64 1792 :: .int .i64 1568 :: .int .i64 1372 :: .int .i64 1201 :: .int .i64 1051 :: .int .i64 920 :: .int .i64 805 :: .int .i64 705 :: .int .i64 617 :: .int .i64 540 :: .int .i64 473 :: .int .i64 414 :: .int .i64 363 :: .int .i64 318 :: .int .i64 279 :: .int .i64 245 :: .int .i64 215 :: .int .i64 189 :: .int .i64 166 :: .int .i64 146 :: .int .i64 128 :: .int .i64 112 :: .int .i64 98 :: .int .i64 86 :: .int .i64 76 :: .int .i64 67 :: .int .i64 59 :: .int .i64 52 :: .int .i64 46 :: .int .i64 41 :: .int .i64 36 :: .int .u64 r2 :: .int .u64 r3 :: .own 2 :: .bool r4 :: []), .vec 3 (.int .i64) r5 false, .vec 5 (.int .u8) r6 true])) else none | _ => none)
  | _, _ => none
noncomputable def spec99_cf0 (fuel : Nat) : Ev.Spec := spg99_cf0 (F_coder_Encoder_Put_cf0 fuel)
theorem ok99_cf0 (fuel : Nat) : FnOK Try.prog 99 (spec99_cf0 fuel) := by
  intro args objs kk r h
  unfold spec99_cf0 spg99_cf0 at h
  split at h
  · skip
    split at h
    rotate_left 1
    · cases h
    rename_i hsp
    have esp := splitRun_eq hsp
    subst esp
    obtain ⟨hb, h⟩ := cond_some' h
    simp only [Bool.and_eq_true, Nat.beq_eq, decide_eq_true_eq] at hb
    obtain ⟨⟨⟨⟨⟨⟨rfl, rfl⟩, rfl⟩, rfl⟩, rfl⟩, rfl⟩, rfl⟩ := hb
    exact fok99_cf0 fuel _ _ kk r ((F99_cf0_eq fuel _ _ _ _ _ _ _ _ kk).trans h)
  · cases h
end Go.Proofs.Ytihfgpfofmjbaaa

set_option linter.unusedVariables false
set_option linter.unusedSimpArgs false
set_option maxRecDepth 100000
set_option maxHeartbeats 2000000
namespace Go.Proofs.Ytihfgpfofmjbaaa
open Go Ev
def kp97 (i : Nat) : Option (List Nat) := Ev.look i [(200001, [3])]
noncomputable def Gg97 (f160 : YF160) (f : Nat) : Option Ev.Spec := Ev.look f [(160, spg160 f160)]
noncomputable def G97 (fuel : Nat) : Nat → Option Ev.Spec := Gg97 (F_generic_pixels fuel)
noncomputable def J97 (fuel : Nat) (i : Nat) : Option Ev.Blk := Ev.look i []
noncomputable def F_generic_newPlane (fuel : Nat) (x0 : Int) (x1 : Int) (x2 : Int) (x3 : Bool) (x4 : Int) (x5 : Int) (x6 : Int) (k0 : (Int × Int × (List Int) × (List (Int × Int))) → Option Ans) : Option Ans :=
  both (bif Decidable.decide ((0 : Int) ≤ Go.IntKind.i64.wrap (x5 * x6) ∧ Go.IntKind.i64.wrap (x5 * x6) = Go.IntKind.i64.wrap (x5 * x6) ∧ (↑(1 : Nat) : Int) * Go.IntKind.i64.wrap (x5 * x6) ≤ (281474976710656 : Int) ∧ Go.IntKind.i64.wrap (x5 * x6) ≤ (281474976710656 : Int)) then
    both ((F_generic_pixels fuel (x0)
         (fun y7 =>
           bif Decidable.decide ((y7.length + [(x1, x2)].length) * (16 : Nat) ≤ (140737488355328 : Nat) ∧ y7.length + [(x1, x2)].length ≤ (140737488355328 : Nat)) then
           k0 (x5, x6, List.replicate (Go.IntKind.i64.wrap (x5 * x6)).toNat (0 : Int), y7 ++ [(x1, x2)])
           else none)))
      ((F_generic_pixels fuel (x0)
         (fun y7 =>
           bif Decidable.decide ((y7.length + [(x1, x2)].length) * (16 : Nat) ≤ (140737488355328 : Nat) ∧ y7.length + [(x1, x2)].length ≤ (140737488355328 : Nat)) then
           k0 (x5, x6, List.replicate (Go.IntKind.i64.wrap (x5 * x6)).toNat (0 : Int), y7 ++ [(x1, x2)])
           else none)))
    else none)
   (both ((F_generic_pixels fuel (x0)
        (fun y6 =>
          both (bif Decidable.decide ((0 : Int) ≤ Go.IntKind.i64.wrap (x5 * x6) ∧ Go.IntKind.i64.wrap (x5 * x6) = Go.IntKind.i64.wrap (x5 * x6) ∧ (↑(1 : Nat) : Int) * Go.IntKind.i64.wrap (x5 * x6) ≤ (281474976710656 : Int) ∧ Go.IntKind.i64.wrap (x5 * x6) ≤ (281474976710656 : Int)) then
            bif Decidable.decide ((y6.length + [(x1, x2)].length) * (16 : Nat) ≤ (140737488355328 : Nat) ∧ y6.length + [(x1, x2)].length ≤ (140737488355328 : Nat)) then
             k0 (x5, x6, List.replicate (Go.IntKind.i64.wrap (x5 * x6)).toNat (0 : Int), y6 ++ [(x1, x2)])
             else none
            else none)
           (both (bif Decidable.decide ((0 : Int) ≤ Go.IntKind.i64.wrap (x5 * x6) ∧ Go.IntKind.i64.wrap (x5 * x6) = Go.IntKind.i64.wrap (x5 * x6) ∧ (↑(1 : Nat) : Int) * Go.IntKind.i64.wrap (x5 * x6) ≤ (281474976710656 : Int) ∧ Go.IntKind.i64.wrap (x5 * x6) ≤ (281474976710656 : Int)) then
              bif Decidable.decide ((y6.length + [(x1, x2)].length) * (16 : Nat) ≤ (140737488355328 : Nat) ∧ y6.length + [(x1, x2)].length ≤ (140737488355328 : Nat)) then
               k0 (x5, x6, List.replicate (Go.IntKind.i64.wrap (x5 * x6)).toNat (0 : Int), y6 ++ [(x1, x2)])
               else none
              else none)
             (bif Decidable.decide ((y6.length + [(x1, x2)].length) * (16 : Nat) ≤ (140737488355328 : Nat) ∧ y6.length + [(x1, x2)].length ≤ (140737488355328 : Nat)) then
              bif Decidable.decide ((0 : Int) ≤ Go.IntKind.i64.wrap (x5 * x6) ∧ Go.IntKind.i64.wrap (x5 * x6) = Go.IntKind.i64.wrap (x5 * x6) ∧ (↑(1 : Nat) : Int) * Go.IntKind.i64.wrap (x5 * x6) ≤ (281474976710656 : Int) ∧ Go.IntKind.i64.wrap (x5 * x6) ≤ (281474976710656 : Int)) then
               k0 (x5, x6, List.replicate (Go.IntKind.i64.wrap (x5 * x6)).toNat (0 : Int), y6 ++ [(x1, x2)])
               else none
              else none)))))
     (both (bif Decidable.decide ((0 : Int) ≤ Go.IntKind.i64.wrap (x5 * x6) ∧ Go.IntKind.i64.wrap (x5 * x6) = Go.IntKind.i64.wrap (x5 * x6) ∧ (↑(1 : Nat) : Int) * Go.IntKind.i64.wrap (x5 * x6) ≤ (281474976710656 : Int) ∧ Go.IntKind.i64.wrap (x5 * x6) ≤ (281474976710656 : Int)) then
        (F_generic_pixels fuel (x0)
           (fun y9 =>
             bif Decidable.decide ((y9.length + [(x1, x2)].length) * (16 : Nat) ≤ (140737488355328 : Nat) ∧ y9.length + [(x1, x2)].length ≤ (140737488355328 : Nat)) then
             k0 (x5, x6, List.replicate (Go.IntKind.i64.wrap (x5 * x6)).toNat (0 : Int), y9 ++ [(x1, x2)])
             else none))
        else none)
       ((F_generic_pixels fuel (x0)
          (fun y8 =>
            both (bif Decidable.decide ((0 : Int) ≤ Go.IntKind.i64.wrap (x5 * x6) ∧ Go.IntKind.i64.wrap (x5 * x6) = Go.IntKind.i64.wrap (x5 * x6) ∧ (↑(1 : Nat) : Int) * Go.IntKind.i64.wrap (x5 * x6) ≤ (281474976710656 : Int) ∧ Go.IntKind.i64.wrap (x5 * x6) ≤ (281474976710656 : Int)) then
              bif Decidable.decide ((y8.length + [(x1, x2)].length) * (16 : Nat) ≤ (140737488355328 : Nat) ∧ y8.length + [(x1, x2)].length ≤ (140737488355328 : Nat)) then
               k0 (x5, x6, List.replicate (Go.IntKind.i64.wrap (x5 * x6)).toNat (0 : Int), y8 ++ [(x1, x2)])
               else none
              else none)
             (bif Decidable.decide ((y8.length + [(x1, x2)].length) * (16 : Nat) ≤ (140737488355328 : Nat) ∧ y8.length + [(x1, x2)].length ≤ (140737488355328 : Nat)) then
              bif Decidable.decide ((0 : Int) ≤ Go.IntKind.i64.wrap (x5 * x6) ∧ Go.IntKind.i64.wrap (x5 * x6) = Go.IntKind.i64.wrap (x5 * x6) ∧ (↑(1 : Nat) : Int) * Go.IntKind.i64.wrap (x5 * x6) ≤ (281474976710656 : Int) ∧ Go.IntKind.i64.wrap (x5 * x6) ≤ (281474976710656 : Int)) then
               k0 (x5, x6, List.replicate (Go.IntKind.i64.wrap (x5 * x6)).toNat (0 : Int), y8 ++ [(x1, x2)])
               else none
              else none))))))
abbrev YF97 : Type := (Int) → (Int) → (Int) → (Bool) → (Int) → (Int) → (Int) → ((Int × Int × (List Int) × (List (Int × Int))) → Option Ans) → Option Ans
theorem F97_eqg (fuel : Nat) (f160 : YF160) (x0 : Int) (x1 : Int) (x2 : Int) (x3 : Bool) (x4 : Int) (x5 : Int) (x6 : Int) (k : Ev.Cont) : evalFn tab (Gg97 f160) (J97 fuel) kp97 fuel Try.f97 [.agg [.int .i64 x0, .int .i64 x1, .int .i64 x2, .bool x3, .int .i64 x4], .c (.int .i64 x5), .c (.int .i64 x6)] [] k = (fun  (k0 : (Int × Int × (List Int) × (List (Int × Int))) → Option Ans) =>
  both (bif Decidable.decide ((0 : Int) ≤ Go.IntKind.i64.wrap (x5 * x6) ∧ Go.IntKind.i64.wrap (x5 * x6) = Go.IntKind.i64.wrap (x5 * x6) ∧ (↑(1 : Nat) : Int) * Go.IntKind.i64.wrap (x5 * x6) ≤ (281474976710656 : Int) ∧ Go.IntKind.i64.wrap (x5 * x6) ≤ (281474976710656 : Int)) then
    both ((f160 (x0)
         (fun y7 =>
           bif Decidable.decide ((y7.length + [(x1, x2)].length) * (16 : Nat) ≤ (140737488355328 : Nat) ∧ y7.length + [(x1, x2)].length ≤ (140737488355328 : Nat)) then
           k0 (x5, x6, List.replicate (Go.IntKind.i64.wrap (x5 * x6)).toNat (0 : Int), y7 ++ [(x1, x2)])
           else none)))
      ((f160 (x0)
         (fun y7 =>
           bif Decidable.decide ((y7.length + [(x1, x2)].length) * (16 : Nat) ≤ (140737488355328 : Nat) ∧ y7.length + [(x1, x2)].length ≤ (140737488355328 : Nat)) then
           k0 (x5, x6, List.replicate (Go.IntKind.i64.wrap (x5 * x6)).toNat (0 : Int), y7 ++ [(x1, x2)])
           else none)))
    else none)
   (both ((f160 (x0)
        (fun y6 =>
          both (bif Decidable.decide ((0 : Int) ≤ Go.IntKind.i64.wrap (x5 * x6) ∧ Go.IntKind.i64.wrap (x5 * x6) = Go.IntKind.i64.wrap (x5 * x6) ∧ (↑(1 : Nat) : Int) * Go.IntKind.i64.wrap (x5 * x6) ≤ (281474976710656 : Int) ∧ Go.IntKind.i64.wrap (x5 * x6) ≤ (281474976710656 : Int)) then
            bif Decidable.decide ((y6.length + [(x1, x2)].length) * (16 : Nat) ≤ (140737488355328 : Nat) ∧ y6.length + [(x1, x2)].length ≤ (140737488355328 : Nat)) then
             k0 (x5, x6, List.replicate (Go.IntKind.i64.wrap (x5 * x6)).toNat (0 : Int), y6 ++ [(x1, x2)])
             else none
            else none)
           (both (bif Decidable.decide ((0 : Int) ≤ Go.IntKind.i64.wrap (x5 * x6) ∧ Go.IntKind.i64.wrap (x5 * x6) = Go.IntKind.i64.wrap (x5 * x6) ∧ (↑(1 : Nat) : Int) * Go.IntKind.i64.wrap (x5 * x6) ≤ (281474976710656 : Int) ∧ Go.IntKind.i64.wrap (x5 * x6) ≤ (281474976710656 : Int)) then
              bif Decidable.decide ((y6.length + [(x1, x2)].length) * (16 : Nat) ≤ (140737488355328 : Nat) ∧ y6.length + [(x1, x2)].length ≤ (140737488355328 : Nat)) then
               k0 (x5, x6, List.replicate (Go.IntKind.i64.wrap (x5 * x6)).toNat (0 : Int), y6 ++ [(x1, x2)])
               else none
              else none)
             (bif Decidable.decide ((y6.length + [(x1, x2)].length) * (16 : Nat) ≤ (140737488355328 : Nat) ∧ y6.length + [(x1, x2)].length ≤ (140737488355328 : Nat)) then
              bif Decidable.decide ((0 : Int) ≤ Go.IntKind.i64.wrap (x5 * x6) ∧ Go.IntKind.i64.wrap (x5 * x6) = Go.IntKind.i64.wrap (x5 * x6) ∧ (↑(1 : Nat) : Int) * Go.IntKind.i64.wrap (x5 * x6) ≤ (281474976710656 : Int) ∧ Go.IntKind.i64.wrap (x5 * x6) ≤ (281474976710656 : Int)) then
               k0 (x5, x6, List.replicate (Go.IntKind.i64.wrap (x5 * x6)).toNat (0 : Int), y6 ++ [(x1, x2)])
               else none
              else none)))))
     (both (bif Decidable.decide ((0 : Int) ≤ Go.IntKind.i64.wrap (x5 * x6) ∧ Go.IntKind.i64.wrap (x5 * x6) = Go.IntKind.i64.wrap (x5 * x6) ∧ (↑(1 : Nat) : Int) * Go.IntKind.i64.wrap (x5 * x6) ≤ (281474976710656 : Int) ∧ Go.IntKind.i64.wrap (x5 * x6) ≤ (281474976710656 : Int)) then
        (f160 (x0)
           (fun y9 =>
             bif Decidable.decide ((y9.length + [(x1, x2)].length) * (16 : Nat) ≤ (140737488355328 : Nat) ∧ y9.length + [(x1, x2)].length ≤ (140737488355328 : Nat)) then
             k0 (x5, x6, List.replicate (Go.IntKind.i64.wrap (x5 * x6)).toNat (0 : Int), y9 ++ [(x1, x2)])
             else none))
        else none)
       ((f160 (x0)
          (fun y8 =>
            both (bif Decidable.decide ((0 : Int) ≤ Go.IntKind.i64.wrap (x5 * x6) ∧ Go.IntKind.i64.wrap (x5 * x6) = Go.IntKind.i64.wrap (x5 * x6) ∧ (↑(1 : Nat) : Int) * Go.IntKind.i64.wrap (x5 * x6) ≤ (281474976710656 : Int) ∧ Go.IntKind.i64.wrap (x5 * x6) ≤ (281474976710656 : Int)) then
              bif Decidable.decide ((y8.length + [(x1, x2)].length) * (16 : Nat) ≤ (140737488355328 : Nat) ∧ y8.length + [(x1, x2)].length ≤ (140737488355328 : Nat)) then
               k0 (x5, x6, List.replicate (Go.IntKind.i64.wrap (x5 * x6)).toNat (0 : Int), y8 ++ [(x1, x2)])
               else none
              else none)
             (bif Decidable.decide ((y8.length + [(x1, x2)].length) * (16 : Nat) ≤ (140737488355328 : Nat) ∧ y8.length + [(x1, x2)].length ≤ (140737488355328 : Nat)) then
              bif Decidable.decide ((0 : Int) ≤ Go.IntKind.i64.wrap (x5 * x6) ∧ Go.IntKind.i64.wrap (x5 * x6) = Go.IntKind.i64.wrap (x5 * x6) ∧ (↑(1 : Nat) : Int) * Go.IntKind.i64.wrap (x5 * x6) ≤ (281474976710656 : Int) ∧ Go.IntKind.i64.wrap (x5 * x6) ≤ (281474976710656 : Int)) then
               k0 (x5, x6, List.replicate (Go.IntKind.i64.wrap (x5 * x6)).toNat (0 : Int), y8 ++ [(x1, x2)])
               else none
              else none))))))) (fun r => match r with | (r0, r1, r2, r3) => k (.c (.ptr 0 0), [.cells 137 [.int .i64 r0, .int .i64 r1, .own 1, .own 2], .vec 5 (.int .u8) r2 true, .vec 44 (.pair (.int .i64) (.int .i64)) r3 true])) := by
  kernel_rfl
theorem F97_eq (fuel : Nat) (x0 : Int) (x1 : Int) (x2 : Int) (x3 : Bool) (x4 : Int) (x5 : Int) (x6 : Int) (k : Ev.Cont) : evalFn tab (G97 fuel) (J97 fuel) kp97 fuel Try.f97 [.agg [.int .i64 x0, .int .i64 x1, .int .i64 x2, .bool x3, .int .i64 x4], .c (.int .i64 x5), .c (.int .i64 x6)] [] k = F_generic_newPlane fuel x0 x1 x2 x3 x4 x5 x6 (fun r => match r with | (r0, r1, r2, r3) => k (.c (.ptr 0 0), [.cells 137 [.int .i64 r0, .int .i64 r1, .own 1, .own 2], .vec 5 (.int .u8) r2 true, .vec 44 (.pair (.int .i64) (.int .i64)) r3 true])) :=
  F97_eqg fuel (F_generic_pixels fuel) x0 x1 x2 x3 x4 x5 x6 k
theorem hG97 (fuel : Nat) : GOK Try.prog (G97 fuel) :=
  gok_cons ⟨ok160 fuel, enters_of Try.func160 (by kernel_rfl) rfl⟩ <|
  gok_nil
theorem fok97 (fuel : Nat) : FnOK Try.prog 97 (evalFn tab (G97 fuel) (J97 fuel) kp97 fuel Try.f97) :=
  fn_ok tab_ok (hG97 fuel) mixed Try.func97 (c := (Try.f97.body).getD .skip) rfl (fun q hq => by
    rw [(by kernel_rfl : obl (J97 fuel) ((Try.f97.body).getD .skip) = [])] at hq
    cases hq)
noncomputable def mt97 : List Ev.SV → List Ev.Ob → Bool := fun args objs => match args, objs with
  | [.agg [.int .i64 _, .int .i64 _, .int .i64 _, .bool _, .int .i64 _], .c (.int .i64 _), .c (.int .i64 _)], [] => true
  | _, _ => false
noncomputable def spg97 (F : YF97) : Ev.Spec := fun args objs k => match args, objs with
  | [.agg [.int .i64 x0, .int .i64 x1, .int .i64 x2, .bool x3, .int .i64 x4], .c (.int .i64 x5), .c (.int .i64 x6)], [] => bif true then F x0 x1 x2 x3 x4 x5 x6 (fun r => match r with | (r0, r1, r2, r3) => k (.c (.ptr 0 0), [.cells 137 [.int .i64 r0, .int .i64 r1, .own 1, .own 2], .vec 5 (.int .u8) r2 true, .vec 44 (.pair (.int .i64) (.int .i64)) r3 true])) else none
  | _, _ => none
noncomputable def spec97 (fuel : Nat) : Ev.Spec := spg97 (F_generic_newPlane fuel)
theorem ok97 (fuel : Nat) : FnOK Try.prog 97 (spec97 fuel) := by
  intro args objs kk r h
  unfold spec97 spg97 at h
  split at h
  · skip
    obtain ⟨hb, h⟩ := cond_some' h
    simp only [Bool.and_eq_true, Nat.beq_eq, decide_eq_true_eq] at hb
    clear hb
    exact fok97 fuel _ _ kk r ((F97_eq fuel _ _ _ _ _ _ _ kk).trans h)
  · cases h
end Go.Proofs.Ytihfgpfofmjbaaa

set_option linter.unusedVariables false
set_option linter.unusedSimpArgs false
set_option maxRecDepth 100000
set_option maxHeartbeats 2000000
namespace Go.Proofs.Ytihfgpfofmjbaaa
open Go Ev
def kp199_a34 (i : Nat) : Option (List Nat) := Ev.look i [(200003, [0])]
noncomputable def Gg199_a34 (f : Nat) : Option Ev.Spec := Ev.look f []
noncomputable def G199_a34 (fuel : Nat) : Nat → Option Ev.Spec := Gg199_a34
noncomputable def J199_a34 (fuel : Nat) (i : Nat) : Option Ev.Blk := Ev.look i []
noncomputable def F_generic_plane_at_a34 (fuel : Nat) (x0 : Int) (x1 : Int) (x2 : Int) (x3 : Int) (x4 : (List Int)) (x5 : (List (Int × Int))) (k0 : (Int × Int × Int × (List Int) × (List (Int × Int))) → Option Ans) : Option Ans :=
  bif Decidable.decide (x0 < (0 : Int)) then
   k0 ((0 : Int), x2, x3, x4, x5)
  else
   bif Decidable.decide (x1 < (0 : Int)) then
    k0 ((0 : Int), x2, x3, x4, x5)
   else
    bif Decidable.decide (x0 ≥ x2) then
     k0 ((0 : Int), x2, x3, x4, x5)
    else
     bif Decidable.decide (x1 ≥ x3) then
      k0 ((0 : Int), x2, x3, x4, x5)
     else
      bif Decidable.decide ((0 : Int) ≤ Go.IntKind.i64.wrap (Go.IntKind.i64.wrap (x1 * x2) + x0) ∧ Go.IntKind.i64.wrap (Go.IntKind.i64.wrap (x1 * x2) + x0) < (↑x4.length : Int)) then
      k0 (x4.getD (Go.IntKind.i64.wrap (Go.IntKind.i64.wrap (x1 * x2) + x0)).toNat (0 : Int), x2, x3, x4, x5)
      else none
abbrev YF199_a34 : Type := (Int) → (Int) → (Int) → (Int) → ((List Int)) → ((List (Int × Int))) → ((Int × Int × Int × (List Int) × (List (Int × Int))) → Option Ans) → Option Ans
theorem F199_a34_eq (fuel : Nat) (x0 : Int) (x1 : Int) (x2 : Int) (x3 : Int) (x4 : (List Int)) (x5 : (List (Int × Int))) (k : Ev.Cont) : evalFn tab (G199_a34 fuel) (J199_a34 fuel) kp199_a34 fuel Try.f199 [.c (.ptr 0 0), .c (.int .i64 x0), .c (.int .i64 x1)] [.cells 137 [.int .i64 x2, .int .i64 x3, .sl (.int .u8) x4, .own 1], .vec 44 (.pair (.int .i64) (.int .i64)) x5 false] k = F_generic_plane_at_a34 fuel x0 x1 x2 x3 x4 x5 (fun r => match r with | (r0, r1, r2, r3, r4) => k (.c (.int .u8 r0), [.cells 137 [.int .i64 r1, .int .i64 r2, .sl (.int .u8) r3, .own 1], .vec 44 (.pair (.int .i64) (.int .i64)) r4 false])) := by
  kernel_rfl
theorem hG199_a34 (fuel : Nat) : GOK Try.prog (G199_a34 fuel) :=
  gok_nil
theorem fok199_a34 (fuel : Nat) : FnOK Try.prog 199 (evalFn tab (G199_a34 fuel) (J199_a34 fuel) kp199_a34 fuel Try.f199) :=
  fn_ok tab_ok (hG199_a34 fuel) mixed Try.func199 (c := (Try.f199.body).getD .skip) rfl (fun q hq => by
    rw [(by kernel_rfl : obl (J199_a34 fuel) ((Try.f199.body).getD .skip) = [])] at hq
    cases hq)
noncomputable def mt199_a34 : List Ev.SV → List Ev.Ob → Bool := fun args objs => match args, objs with
  | [.c (.ptr q0 q1), .c (.int .i64 _), .c (.int .i64 _)], [.cells q2 [.int .i64 _, .int .i64 _, .sl (.int .u8) _, .own q3], .vec q4 (.pair (.int .i64) (.int .i64)) _ false] => Nat.beq q0 0 && Nat.beq q1 0 && Nat.beq q2 137 && Nat.beq q3 1 && Nat.beq q4 44
  | _, _ => false
noncomputable def spg199_a34 (F : YF199_a34) : Ev.Spec := fun args objs k => match args, objs with
  | [.c (.ptr q0 q1), .c (.int .i64 x0), .c (.int .i64 x1)], [.cells q2 [.int .i64 x2, .int .i64 x3, .sl (.int .u8) x4, .own q3], .vec q4 (.pair (.int .i64) (.int .i64)) x5 false] => bif Nat.beq q0 0 && Nat.beq q1 0 && Nat.beq q2 137 && Nat.beq q3 1 && Nat.beq q4 44 then F x0 x1 x2 x3 x4 x5 (fun r => match r with | (r0, r1, r2, r3, r4) => k (.c (.int .u8 r0), [.cells 137 [.int .i64 r1, .int .i64 r2, .sl (.int .u8) r3, .own 1], .vec 44 (.pair (.int .i64) (.int .i64)) r4 false])) else none
  | _, _ => none
noncomputable def spec199_a34 (fuel : Nat) : Ev.Spec := spg199_a34 (F_generic_plane_at_a34 fuel)
theorem ok199_a34 (fuel : Nat) : FnOK Try.prog 199 (spec199_a34 fuel) := by
  intro args objs kk r h
  unfold spec199_a34 spg199_a34 at h
  split at h
  · skip
    obtain ⟨hb, h⟩ := cond_some' h
    simp only [Bool.and_eq_true, Nat.beq_eq, decide_eq_true_eq] at hb
    obtain ⟨⟨⟨⟨rfl, rfl⟩, rfl⟩, rfl⟩, rfl⟩ := hb
    exact fok199_a34 fuel _ _ kk r ((F199_a34_eq fuel _ _ _ _ _ _ kk).trans h)
  · cases h
end Go.Proofs.Ytihfgpfofmjbaaa

set_option linter.unusedVariables false
set_option linter.unusedSimpArgs false
set_option maxRecDepth 100000
set_option maxHeartbeats 2000000
namespace Go.Proofs.Ytihfgpfofmjbaaa
open Go Ev
def kp163 (i : Nat) : Option (List Nat) := Ev.look i []
noncomputable def Gg163 (f : Nat) : Option Ev.Spec := Ev.look f []
noncomputable def G163 (fuel : Nat) : Nat → Option Ev.Spec := Gg163
noncomputable def J163 (fuel : Nat) (i : Nat) : Option Ev.Blk := Ev.look i []
noncomputable def F_generic_skips (fuel : Nat) (x0 : Int) (x1 : Int) (x2 : (List Int)) (x3 : Int) (k0 : (Bool) → Option Ans) : Option Ans :=
  bif Decidable.decide ((↑x2.length : Int) > (0 : Int)) then
   bif Decidable.decide ((0 : Int) ≤ x3 ∧ x3 < (↑x2.length : Int)) then
   k0 (x2.getD x3.toNat (0 : Int) == (1 : Int))
   else none
  else
   k0 Bool.false
abbrev YF163 : Type := (Int) → (Int) → ((List Int)) → (Int) → ((Bool) → Option Ans) → Option Ans
theorem F163_eq (fuel : Nat) (x0 : Int) (x1 : Int) (x2 : (List Int)) (x3 : Int) (k : Ev.Cont) : evalFn tab (G163 fuel) (J163 fuel) kp163 fuel Try.f163 [.agg [.int .i64 x0, .int .i64 x1, .sl (.int .u8) x2], .c (.int .i64 x3)] [] k = F_generic_skips fuel x0 x1 x2 x3 (fun r => match r with | r0 => k (.c (.bool r0), [])) := by
  kernel_rfl
theorem hG163 (fuel : Nat) : GOK Try.prog (G163 fuel) :=
  gok_nil
theorem fok163 (fuel : Nat) : FnOK Try.prog 163 (evalFn tab (G163 fuel) (J163 fuel) kp163 fuel Try.f163) :=
  fn_ok tab_ok (hG163 fuel) mixed Try.func163 (c := (Try.f163.body).getD .skip) rfl (fun q hq => by
    rw [(by kernel_rfl : obl (J163 fuel) ((Try.f163.body).getD .skip) = [])] at hq
    cases hq)
noncomputable def mt163 : List Ev.SV → List Ev.Ob → Bool := fun args objs => match args, objs with
  | [.agg [.int .i64 _, .int .i64 _, .sl (.int .u8) _], .c (.int .i64 _)], [] => true
  | _, _ => false
noncomputable def spg163 (F : YF163) : Ev.Spec := fun args objs k => match args, objs with
  | [.agg [.int .i64 x0, .int .i64 x1, .sl (.int .u8) x2], .c (.int .i64 x3)], [] => bif true then F x0 x1 x2 x3 (fun r => match r with | r0 => k (.c (.bool r0), [])) else none
  | _, _ => none
noncomputable def spec163 (fuel : Nat) : Ev.Spec := spg163 (F_generic_skips fuel)
theorem ok163 (fuel : Nat) : FnOK Try.prog 163 (spec163 fuel) := by
  intro args objs kk r h
  unfold spec163 spg163 at h
  split at h
  · skip
    obtain ⟨hb, h⟩ := cond_some' h
    simp only [Bool.and_eq_true, Nat.beq_eq, decide_eq_true_eq] at hb
    clear hb
    exact fok163 fuel _ _ kk r ((F163_eq fuel _ _ _ _ kk).trans h)
  · cases h
end Go.Proofs.Ytihfgpfofmjbaaa

set_option linter.unusedVariables false
set_option linter.unusedSimpArgs false
set_option maxRecDepth 100000
set_option maxHeartbeats 2000000
namespace Go.Proofs.Ytihfgpfofmjbaaa
open Go Ev
def kp162_b9e (i : Nat) : Option (List Nat) := Ev.look i [(3, [0, 1, 5, 7, 15, 16]), (100000, [7]), (200005, [0, 5]), (400000, [6])]
noncomputable def Gg162_b9e (f163 : YF163) (f199_a34 : YF199_a34) (f : Nat) : Option Ev.Spec := Ev.look f [(163, spg163 f163), (199, spg199_a34 f199_a34)]
noncomputable def G162_b9e (fuel : Nat) : Nat → Option Ev.Spec := Gg162_b9e (F_generic_skips fuel) (F_generic_plane_at_a34 fuel)
noncomputable def S_generic_plane_above_b9e_0 (fuel : Nat) (v : Int × Int × Int × Int × Int × (List Int) × (List (Int × Int)) × Int × Int × (List Int) × (List Int)) (c : (Int × Int × Int × Int × Int × (List Int) × (List (Int × Int)) × Int × Int × (List Int) × (List Int)) → Option Ans) (B : (Int × Int × (List Int) × (List (Int × Int)) × (List Int) → Option Ans)) : Option Ans := match v, B with
  | (x0, x1, x2, x3, x4, x5, x6, x7, x8, x9, x10), b =>
   bif Decidable.decide (x2 < x1) then
      (F_generic_skips fuel (x7) (x8) (x9) (Go.IntKind.i64.wrap (Go.IntKind.i64.wrap (x0 * x3) + x2))
        (fun y3 =>
          bif !y3 then
           (F_generic_plane_at_a34 fuel (x2) (Go.IntKind.i64.wrap (x0 - (1 : Int))) (x3) (x4) (x5) (x6)
             (fun (y8_0, y8_1, y8_2, y8_3, y8_4) =>
               bif Decidable.decide ((0 : Int) ≤ x2 ∧ x2 < (↑x10.length : Int)) then
               c (x0, x1, Go.IntKind.i64.wrap (x2 + (1 : Int)), y8_1, y8_2, y8_3, y8_4, x7, x8, x9, x10.set x2.toNat y8_0)
               else none))
          else
           c (x0, x1, Go.IntKind.i64.wrap (x2 + (1 : Int)), x3, x4, x5, x6, x7, x8, x9, x10)))
     else
      b (x3, x4, x5, x6, x10)
noncomputable def L_generic_plane_above_b9e_0 (fuel : Nat) (v : Int × Int × Int × Int × Int × (List Int) × (List (Int × Int)) × Int × Int × (List Int) × (List Int)) (b : (Int × Int × (List Int) × (List (Int × Int)) × (List Int) → Option Ans)) : Option Ans := iter (S_generic_plane_above_b9e_0 fuel) fuel v b
noncomputable def J162_b9e_0 (fuel : Nat) (i : Nat) : Option Ev.Blk := Ev.look i []
noncomputable def T162_b9e_0 (v : Int × Int × Int × Int × Int × (List Int) × (List (Int × Int)) × Int × Int × (List Int) × (List Int)) : Ev.St := match v with | (x0, x1, x2, x3, x4, x5, x6, x7, x8, x9, x10) => ⟨[(0, .c (.ptr 0 0)), (1, .c (.int .i64 x0)), (5, .c (.ptr 2 0)), (7, .c (.own 3)), (15, .c (.int .i64 x1)), (16, .c (.int .i64 x2))], [(0, .cells 137 [.int .i64 x3, .int .i64 x4, .sl (.int .u8) x5, .own 1]), (1, .vec 44 (.pair (.int .i64) (.int .i64)) x6 false), (2, .cells 39 [.int .i64 x7, .int .i64 x8, .sl (.int .u8) x9]), (3, .vec 5 (.int .u8) x10 true)], 4, 2⟩
noncomputable def E162_b9e_0 (K : Ev.Ex → Ev.St → Option Ans) : (Int × Int × (List Int) × (List (Int × Int)) × (List Int) → Option Ans) := (fun v => match v with | (x0, x1, x2, x3, x4) => K .normal ⟨[(7, .c (.own 2))], [(0, .cells 137 [.int .i64 x0, .int .i64 x1, .sl (.int .u8) x2, .own 1]), (1, .vec 44 (.pair (.int .i64) (.int .i64)) x3 false), (2, .vec 5 (.int .u8) x4 true)], 3, 2⟩)
theorem S162_b9e_0_okg (fuel : Nat) (f163 : YF163) (f199_a34 : YF199_a34) (R : Ev.St → Option Ans) (K : Ev.Ex → Ev.St → Option Ans) (x0 : Int) (x1 : Int) (x2 : Int) (x3 : Int) (x4 : Int) (x5 : (List Int)) (x6 : (List (Int × Int))) (x7 : Int) (x8 : Int) (x9 : (List Int)) (x10 : (List Int)) : evalCode tab (Gg162_b9e f163 f199_a34) (J162_b9e_0 fuel) kp162_b9e fuel (bodyOf 0 Try.f162) (T162_b9e_0 (x0, x1, x2, x3, x4, x5, x6, x7, x8, x9, x10)) (lc kp162_b9e 3 0 R K) = (fun (c : (Int × Int × Int × Int × Int × (List Int) × (List (Int × Int)) × Int × Int × (List Int) × (List Int)) → Option Ans) (B : (Int × Int × (List Int) × (List (Int × Int)) × (List Int) → Option Ans)) => match B with
  | b =>
   bif Decidable.decide (x2 < x1) then
      (f163 (x7) (x8) (x9) (Go.IntKind.i64.wrap (Go.IntKind.i64.wrap (x0 * x3) + x2))
        (fun y3 =>
          bif !y3 then
           (f199_a34 (x2) (Go.IntKind.i64.wrap (x0 - (1 : Int))) (x3) (x4) (x5) (x6)
             (fun (y8_0, y8_1, y8_2, y8_3, y8_4) =>
               bif Decidable.decide ((0 : Int) ≤ x2 ∧ x2 < (↑x10.length : Int)) then
               c (x0, x1, Go.IntKind.i64.wrap (x2 + (1 : Int)), y8_1, y8_2, y8_3, y8_4, x7, x8, x9, x10.set x2.toNat y8_0)
               else none))
          else
           c (x0, x1, Go.IntKind.i64.wrap (x2 + (1 : Int)), x3, x4, x5, x6, x7, x8, x9, x10)))
     else
      b (x3, x4, x5, x6, x10)) (fun v => R (T162_b9e_0 v)) (E162_b9e_0 K) := by
  kernel_rfl
theorem S162_b9e_0_ok (fuel : Nat) (R : Ev.St → Option Ans) (K : Ev.Ex → Ev.St → Option Ans) (x0 : Int) (x1 : Int) (x2 : Int) (x3 : Int) (x4 : Int) (x5 : (List Int)) (x6 : (List (Int × Int))) (x7 : Int) (x8 : Int) (x9 : (List Int)) (x10 : (List Int)) : evalCode tab (G162_b9e fuel) (J162_b9e_0 fuel) kp162_b9e fuel (bodyOf 0 Try.f162) (T162_b9e_0 (x0, x1, x2, x3, x4, x5, x6, x7, x8, x9, x10)) (lc kp162_b9e 3 0 R K) = S_generic_plane_above_b9e_0 fuel (x0, x1, x2, x3, x4, x5, x6, x7, x8, x9, x10) (fun v => R (T162_b9e_0 v)) (E162_b9e_0 K) :=
  S162_b9e_0_okg fuel (F_generic_skips fuel) (F_generic_plane_at_a34 fuel) R K x0 x1 x2 x3 x4 x5 x6 x7 x8 x9 x10
noncomputable def B162_b9e_0 (fuel : Nat) : Ev.Blk := fun st K => match canonO (kp162_b9e 3) st with
  | some s => (match s with
    | ⟨[(q0, .c (.ptr q1 q2)), (q3, .c (.int .i64 x0)), (q4, .c (.ptr q5 q6)), (q7, .c (.own q8)), (q9, .c (.int .i64 x1)), (q10, .c (.int .i64 x2))], [(q11, .cells q12 [.int .i64 x3, .int .i64 x4, .sl (.int .u8) x5, .own q13]), (q14, .vec q15 (.pair (.int .i64) (.int .i64)) x6 false), (q16, .cells q17 [.int .i64 x7, .int .i64 x8, .sl (.int .u8) x9]), (q18, .vec q19 (.int .u8) x10 true)], q20, q21⟩ => bif Nat.beq q0 0 && Nat.beq q1 0 && Nat.beq q2 0 && Nat.beq q3 1 && Nat.beq q4 5 && Nat.beq q5 2 && Nat.beq q6 0 && Nat.beq q7 7 && Nat.beq q8 3 && Nat.beq q9 15 && Nat.beq q10 16 && Nat.beq q11 0 && Nat.beq q12 137 && Nat.beq q13 1 && Nat.beq q14 1 && Nat.beq q15 44 && Nat.beq q16 2 && Nat.beq q17 39 && Nat.beq q18 3 && Nat.beq q19 5 && Nat.beq q20 4 && Nat.beq q21 2 then iter (S_generic_plane_above_b9e_0 fuel) fuel (x0, x1, x2, x3, x4, x5, x6, x7, x8, x9, x10) (E162_b9e_0 K) else none
    | _ => none)
  | none => none
theorem B162_b9e_0_ok (fuel : Nat) (st : Ev.St) (K : Ev.Ex → Ev.St → Option Ans) (r : Ans) (h : B162_b9e_0 fuel st K = some r) : evalCode tab (G162_b9e fuel) (J162_b9e_0 fuel) kp162_b9e fuel (.block 0 (.loop (bodyOf 0 Try.f162))) st K = some r := by
  unfold B162_b9e_0 at h
  split at h
  · rename_i s hs
    split at h
    · skip
      obtain ⟨hb, h⟩ := cond_some' h
      simp only [Bool.and_eq_true, Nat.beq_eq, decide_eq_true_eq] at hb
      obtain ⟨⟨⟨⟨⟨⟨⟨⟨⟨⟨⟨⟨⟨⟨⟨⟨⟨⟨⟨⟨⟨rfl, rfl⟩, rfl⟩, rfl⟩, rfl⟩, rfl⟩, rfl⟩, rfl⟩, rfl⟩, rfl⟩, rfl⟩, rfl⟩, rfl⟩, rfl⟩, rfl⟩, rfl⟩, rfl⟩, rfl⟩, rfl⟩, rfl⟩, rfl⟩, rfl⟩ := hb
      exact blk_loop (S := T162_b9e_0) (ks := E162_b9e_0) (step := S_generic_plane_above_b9e_0 fuel) (v := (_, _, _, _, _, _, _, _, _, _, _)) (by kernel_rfl) (by kernel_rfl) (fun R K v => by obtain ⟨x0, x1, x2, x3, x4, x5, x6, x7, x8, x9, x10⟩ := v; exact S162_b9e_0_ok fuel R K x0 x1 x2 x3 x4 x5 x6 x7 x8 x9 x10) hs h
    · cases h
  · cases h
noncomputable def J162_b9e (fuel : Nat) (i : Nat) : Option Ev.Blk := Ev.look i [(100000, B162_b9e_0 fuel)]
noncomputable def F_generic_plane_above_b9e (fuel : Nat) (x0 : Int) (x1 : Int) (x2 : Int) (x3 : (List Int)) (x4 : Int) (x5 : Int) (x6 : (List Int)) (x7 : (List (Int × Int))) (k0 : (Int × Int × (List Int) × (List (Int × Int)) × (List Int)) → Option Ans) : Option Ans :=
  bif Decidable.decide ((0 : Int) ≤ x4 ∧ x4 = x4 ∧ (↑(1 : Nat) : Int) * x4 ≤ (281474976710656 : Int) ∧ x4 ≤ (281474976710656 : Int)) then
  (L_generic_plane_above_b9e_0 fuel (x0, (↑(List.replicate x4.toNat (0 : Int)).length : Int), (0 : Int), x4, x5, x6, x7, x1, x2, x3, List.replicate x4.toNat (0 : Int))
     (fun (b0_0, b0_1, b0_2, b0_3, b0_4) =>
       k0 (b0_0, b0_1, b0_2, b0_3, b0_4)))
  else none
abbrev YF162_b9e : Type := (Int) → (Int) → (Int) → ((List Int)) → (Int) → (Int) → ((List Int)) → ((List (Int × Int))) → ((Int × Int × (List Int) × (List (Int × Int)) × (List Int)) → Option Ans) → Option Ans
theorem F162_b9e_eqg (fuel : Nat) (f163 : YF163) (f199_a34 : YF199_a34) (x0 : Int) (x1 : Int) (x2 : Int) (x3 : (List Int)) (x4 : Int) (x5 : Int) (x6 : (List Int)) (x7 : (List (Int × Int))) (k : Ev.Cont) : evalFn tab (Gg162_b9e f163 f199_a34) (J162_b9e fuel) kp162_b9e fuel Try.f162 [.c (.ptr 0 0), .c (.int .i64 x0), .agg [.int .i64 x1, .int .i64 x2, .sl (.int .u8) x3]] [.cells 137 [.int .i64 x4, .int .i64 x5, .sl (.int .u8) x6, .own 1], .vec 44 (.pair (.int .i64) (.int .i64)) x7 false] k = (fun  (k0 : (Int × Int × (List Int) × (List (Int × Int)) × (List Int)) → Option Ans) =>
  bif Decidable.decide ((0 : Int) ≤ x4 ∧ x4 = x4 ∧ (↑(1 : Nat) : Int) * x4 ≤ (281474976710656 : Int) ∧ x4 ≤ (281474976710656 : Int)) then
  (L_generic_plane_above_b9e_0 fuel (x0, (↑(List.replicate x4.toNat (0 : Int)).length : Int), (0 : Int), x4, x5, x6, x7, x1, x2, x3, List.replicate x4.toNat (0 : Int))
     (fun (b0_0, b0_1, b0_2, b0_3, b0_4) =>
       k0 (b0_0, b0_1, b0_2, b0_3, b0_4)))
  else none) (fun r => match r with | (r0, r1, r2, r3, r4) => k (.c (.own 2), [.cells 137 [.int .i64 r0, .int .i64 r1, .sl (.int .u8) r2, .own 1], .vec 44 (.pair (.int .i64) (.int .i64)) r3 false, .vec 5 (.int .u8) r4 true])) := by
  kernel_rfl
theorem F162_b9e_eq (fuel : Nat) (x0 : Int) (x1 : Int) (x2 : Int) (x3 : (List Int)) (x4 : Int) (x5 : Int) (x6 : (List Int)) (x7 : (List (Int × Int))) (k : Ev.Cont) : evalFn tab (G162_b9e fuel) (J162_b9e fuel) kp162_b9e fuel Try.f162 [.c (.ptr 0 0), .c (.int .i64 x0), .agg [.int .i64 x1, .int .i64 x2, .sl (.int .u8) x3]] [.cells 137 [.int .i64 x4, .int .i64 x5, .sl (.int .u8) x6, .own 1], .vec 44 (.pair (.int .i64) (.int .i64)) x7 false] k = F_generic_plane_above_b9e fuel x0 x1 x2 x3 x4 x5 x6 x7 (fun r => match r with | (r0, r1, r2, r3, r4) => k (.c (.own 2), [.cells 137 [.int .i64 r0, .int .i64 r1, .sl (.int .u8) r2, .own 1], .vec 44 (.pair (.int .i64) (.int .i64)) r3 false, .vec 5 (.int .u8) r4 true])) :=
  F162_b9e_eqg fuel (F_generic_skips fuel) (F_generic_plane_at_a34 fuel) x0 x1 x2 x3 x4 x5 x6 x7 k
theorem hG162_b9e (fuel : Nat) : GOK Try.prog (G162_b9e fuel) :=
  gok_cons ⟨ok163 fuel, enters_of Try.func163 (by kernel_rfl) rfl⟩ <|
  gok_cons ⟨ok199_a34 fuel, enters_of Try.func199 (by kernel_rfl) rfl⟩ <|
  gok_nil
theorem B162_b9e_0_blk (fuel : Nat) : BlkOK Try.prog Try.f162.ntmps (.block 0 (.loop (bodyOf 0 Try.f162))) (B162_b9e_0 fuel) :=
  blk_of (blk_of_code tab_ok (hG162_b9e fuel) mixed (J := J162_b9e_0 fuel) (kp := kp162_b9e) (fuel := fuel) (by kernel_rfl) (fun q hq => by
    rw [(by kernel_rfl : obl (J162_b9e_0 fuel) (.block 0 (.loop (bodyOf 0 Try.f162))) = [])] at hq
    cases hq)) (B162_b9e_0_ok fuel)
theorem fok162_b9e (fuel : Nat) : FnOK Try.prog 162 (evalFn tab (G162_b9e fuel) (J162_b9e fuel) kp162_b9e fuel Try.f162) :=
  fn_ok tab_ok (hG162_b9e fuel) mixed Try.func162 (c := (Try.f162.body).getD .skip) rfl (fun q hq => by
    rw [(by kernel_rfl : obl (J162_b9e fuel) ((Try.f162.body).getD .skip) = [(.block 0 (.loop (bodyOf 0 Try.f162)), B162_b9e_0 fuel)])] at hq
    simp only [List.mem_cons, List.not_mem_nil, or_false] at hq
    subst hq
    · exact B162_b9e_0_blk fuel)
noncomputable def mt162_b9e : List Ev.SV → List Ev.Ob → Bool := fun args objs => match args, objs with
  | [.c (.ptr q0 q1), .c (.int .i64 _), .agg [.int .i64 _, .int .i64 _, .sl (.int .u8) _]], [.cells q2 [.int .i64 _, .int .i64 _, .sl (.int .u8) _, .own q3], .vec q4 (.pair (.int .i64) (.int .i64)) _ false] => Nat.beq q0 0 && Nat.beq q1 0 && Nat.beq q2 137 && Nat.beq q3 1 && Nat.beq q4 44
  | _, _ => false
noncomputable def spg162_b9e (F : YF162_b9e) : Ev.Spec := fun args objs k => match args, objs with
  | [.c (.ptr q0 q1), .c (.int .i64 x0), .agg [.int .i64 x1, .int .i64 x2, .sl (.int .u8) x3]], [.cells q2 [.int .i64 x4, .int .i64 x5, .sl (.int .u8) x6, .own q3], .vec q4 (.pair (.int .i64) (.int .i64)) x7 false] => bif Nat.beq q0 0 && Nat.beq q1 0 && Nat.beq q2 137 && Nat.beq q3 1 && Nat.beq q4 44 then F x0 x1 x2 x3 x4 x5 x6 x7 (fun r => match r with | (r0, r1, r2, r3, r4) => k (.c (.own 2), [.cells 137 [.int .i64 r0, .int .i64 r1, .sl (.int .u8) r2, .own 1], .vec 44 (.pair (.int .i64) (.int .i64)) r3 false, .vec 5 (.int .u8) r4 true])) else none
  | _, _ => none
noncomputable def spec162_b9e (fuel : Nat) : Ev.Spec := spg162_b9e (F_generic_plane_above_b9e fuel)
theorem ok162_b9e (fuel : Nat) : FnOK Try.prog 162 (spec162_b9e fuel) := by
  intro args objs kk r h
  unfold spec162_b9e spg162_b9e at h
  split at h
  · skip
    obtain ⟨hb, h⟩ := cond_some' h
    simp only [Bool.and_eq_true, Nat.beq_eq, decide_eq_true_eq] at hb
    obtain ⟨⟨⟨⟨rfl, rfl⟩, rfl⟩, rfl⟩, rfl⟩ := hb
    exact fok162_b9e fuel _ _ kk r ((F162_b9e_eq fuel _ _ _ _ _ _ _ _ kk).trans h)
  · cases h
end Go.Proofs.Ytihfgpfofmjbaaa

set_option linter.unusedVariables false
set_option linter.unusedSimpArgs false
set_option maxRecDepth 100000
set_option maxHeartbeats 2000000
namespace Go.Proofs.Ytihfgpfofmjbaaa
open Go Ev
def kp158_a34 (i : Nat) : Option (List Nat) := Ev.look i [(3, [0, 1, 2, 7, 13, 14, 15]), (100000, [7]), (400000, [6])]
noncomputable def Gg158_a34 (f199_a34 : YF199_a34) (f : Nat) : Option Ev.Spec := Ev.look f [(199, spg199_a34 f199_a34)]
noncomputable def G158_a34 (fuel : Nat) : Nat → Option Ev.Spec := Gg158_a34 (F_generic_plane_at_a34 fuel)
noncomputable def S_generic_plane_context_a34_0 (fuel : Nat) (v : Int × Int × Int × Int × Int × Int × Int × (List Int) × (List (Int × Int))) (c : (Int × Int × Int × Int × Int × Int × Int × (List Int) × (List (Int × Int))) → Option Ans) (B : (Int × Int × Int × (List Int) × (List (Int × Int)) → Option Ans)) : Option Ans := match v, B with
  | (x0, x1, x2, x3, x4, x5, x6, x7, x8), b =>
   bif Decidable.decide (x4 < x3) then
      bif Decidable.decide ((0 : Int) ≤ x4 ∧ x4 < (↑x8.length : Int)) then
      (F_generic_plane_at_a34 fuel (Go.IntKind.i64.wrap (x0 + (x8.getD x4.toNat ((0 : Int), (0 : Int))).fst)) (Go.IntKind.i64.wrap (x1 + (x8.getD x4.toNat ((0 : Int), (0 : Int))).snd)) (x5) (x6) (x7) (x8)
         (fun (y4_0, y4_1, y4_2, y4_3, y4_4) =>
           c (x0, x1, Go.IntKind.i64.wrap (Go.IntKind.i64.wrap ((2 : Int) * x2) + Go.IntKind.i64.wrap y4_0), x3, Go.IntKind.i64.wrap (x4 + (1 : Int)), y4_1, y4_2, y4_3, y4_4)))
      else none
     else
      b (x2, x5, x6, x7, x8)
noncomputable def L_generic_plane_context_a34_0 (fuel : Nat) (v : Int × Int × Int × Int × Int × Int × Int × (List Int) × (List (Int × Int))) (b : (Int × Int × Int × (List Int) × (List (Int × Int)) → Option Ans)) : Option Ans := iter (S_generic_plane_context_a34_0 fuel) fuel v b
noncomputable def J158_a34_0 (fuel : Nat) (i : Nat) : Option Ev.Blk := Ev.look i []
noncomputable def T158_a34_0 (v : Int × Int × Int × Int × Int × Int × Int × (List Int) × (List (Int × Int))) : Ev.St := match v with | (x0, x1, x2, x3, x4, x5, x6, x7, x8) => ⟨[(0, .c (.ptr 0 0)), (1, .c (.int .i64 x0)), (2, .c (.int .i64 x1)), (7, .c (.int .i64 x2)), (13, .c (.own 1)), (14, .c (.int .i64 x3)), (15, .c (.int .i64 x4))], [(0, .cells 137 [.int .i64 x5, .int .i64 x6, .sl (.int .u8) x7, .own 1]), (1, .vec 44 (.pair (.int .i64) (.int .i64)) x8 false)], 2, 2⟩
noncomputable def E158_a34_0 (K : Ev.Ex → Ev.St → Option Ans) : (Int × Int × Int × (List Int) × (List (Int × Int)) → Option Ans) := (fun v => match v with | (x0, x1, x2, x3, x4) => K .normal ⟨[(7, .c (.int .i64 x0))], [(0, .cells 137 [.int .i64 x1, .int .i64 x2, .sl (.int .u8) x3, .own 1]), (1, .vec 44 (.pair (.int .i64) (.int .i64)) x4 false)], 2, 2⟩)
theorem S158_a34_0_okg (fuel : Nat) (f199_a34 : YF199_a34) (R : Ev.St → Option Ans) (K : Ev.Ex → Ev.St → Option Ans) (x0 : Int) (x1 : Int) (x2 : Int) (x3 : Int) (x4 : Int) (x5 : Int) (x6 : Int) (x7 : (List Int)) (x8 : (List (Int × Int))) : evalCode tab (Gg158_a34 f199_a34) (J158_a34_0 fuel) kp158_a34 fuel (bodyOf 0 Try.f158) (T158_a34_0 (x0, x1, x2, x3, x4, x5, x6, x7, x8)) (lc kp158_a34 3 0 R K) = (fun (c : (Int × Int × Int × Int × Int × Int × Int × (List Int) × (List (Int × Int))) → Option Ans) (B : (Int × Int × Int × (List Int) × (List (Int × Int)) → Option Ans)) => match B with
  | b =>
   bif Decidable.decide (x4 < x3) then
      bif Decidable.decide ((0 : Int) ≤ x4 ∧ x4 < (↑x8.length : Int)) then
      (f199_a34 (Go.IntKind.i64.wrap (x0 + (x8.getD x4.toNat ((0 : Int), (0 : Int))).fst)) (Go.IntKind.i64.wrap (x1 + (x8.getD x4.toNat ((0 : Int), (0 : Int))).snd)) (x5) (x6) (x7) (x8)
         (fun (y4_0, y4_1, y4_2, y4_3, y4_4) =>
           c (x0, x1, Go.IntKind.i64.wrap (Go.IntKind.i64.wrap ((2 : Int) * x2) + Go.IntKind.i64.wrap y4_0), x3, Go.IntKind.i64.wrap (x4 + (1 : Int)), y4_1, y4_2, y4_3, y4_4)))
      else none
     else
      b (x2, x5, x6, x7, x8)) (fun v => R (T158_a34_0 v)) (E158_a34_0 K) := by
  kernel_rfl
theorem S158_a34_0_ok (fuel : Nat) (R : Ev.St → Option Ans) (K : Ev.Ex → Ev.St → Option Ans) (x0 : Int) (x1 : Int) (x2 : Int) (x3 : Int) (x4 : Int) (x5 : Int) (x6 : Int) (x7 : (List Int)) (x8 : (List (Int × Int))) : evalCode tab (G158_a34 fuel) (J158_a34_0 fuel) kp158_a34 fuel (bodyOf 0 Try.f158) (T158_a34_0 (x0, x1, x2, x3, x4, x5, x6, x7, x8)) (lc kp158_a34 3 0 R K) = S_generic_plane_context_a34_0 fuel (x0, x1, x2, x3, x4, x5, x6, x7, x8) (fun v => R (T158_a34_0 v)) (E158_a34_0 K) :=
  S158_a34_0_okg fuel (F_generic_plane_at_a34 fuel) R K x0 x1 x2 x3 x4 x5 x6 x7 x8
noncomputable def B158_a34_0 (fuel : Nat) : Ev.Blk := fun st K => match canonO (kp158_a34 3) st with
  | some s => (match s with
    | ⟨[(q0, .c (.ptr q1 q2)), (q3, .c (.int .i64 x0)), (q4, .c (.int .i64 x1)), (q5, .c (.int .i64 x2)), (q6, .c (.own q7)), (q8, .c (.int .i64 x3)), (q9, .c (.int .i64 x4))], [(q10, .cells q11 [.int .i64 x5, .int .i64 x6, .sl (.int .u8) x7, .own q12]), (q13, .vec q14 (.pair (.int .i64) (.int .i64)) x8 false)], q15, q16⟩ => bif Nat.beq q0 0 && Nat.beq q1 0 && Nat.beq q2 0 && Nat.beq q3 1 && Nat.beq q4 2 && Nat.beq q5 7 && Nat.beq q6 13 && Nat.beq q7 1 && Nat.beq q8 14 && Nat.beq q9 15 && Nat.beq q10 0 && Nat.beq q11 137 && Nat.beq q12 1 && Nat.beq q13 1 && Nat.beq q14 44 && Nat.beq q15 2 && Nat.beq q16 2 then iter (S_generic_plane_context_a34_0 fuel) fuel (x0, x1, x2, x3, x4, x5, x6, x7, x8) (E158_a34_0 K) else none
    | _ => none)
  | none => none
theorem B158_a34_0_ok (fuel : Nat) (st : Ev.St) (K : Ev.Ex → Ev.St → Option Ans) (r : Ans) (h : B158_a34_0 fuel st K = some r) : evalCode tab (G158_a34 fuel) (J158_a34_0 fuel) kp158_a34 fuel (.block 0 (.loop (bodyOf 0 Try.f158))) st K = some r := by
  unfold B158_a34_0 at h
  split at h
  · rename_i s hs
    split at h
    · skip
      obtain ⟨hb, h⟩ := cond_some' h
      simp only [Bool.and_eq_true, Nat.beq_eq, decide_eq_true_eq] at hb
      obtain ⟨⟨⟨⟨⟨⟨⟨⟨⟨⟨⟨⟨⟨⟨⟨⟨rfl, rfl⟩, rfl⟩, rfl⟩, rfl⟩, rfl⟩, rfl⟩, rfl⟩, rfl⟩, rfl⟩, rfl⟩, rfl⟩, rfl⟩, rfl⟩, rfl⟩, rfl⟩, rfl⟩ := hb
      exact blk_loop (S := T158_a34_0) (ks := E158_a34_0) (step := S_generic_plane_context_a34_0 fuel) (v := (_, _, _, _, _, _, _, _, _)) (by kernel_rfl) (by kernel_rfl) (fun R K v => by obtain ⟨x0, x1, x2, x3, x4, x5, x6, x7, x8⟩ := v; exact S158_a34_0_ok fuel R K x0 x1 x2 x3 x4 x5 x6 x7 x8) hs h
    · cases h
  · cases h
noncomputable def J158_a34 (fuel : Nat) (i : Nat) : Option Ev.Blk := Ev.look i [(100000, B158_a34_0 fuel)]
noncomputable def F_generic_plane_context_a34 (fuel : Nat) (x0 : Int) (x1 : Int) (x2 : Int) (x3 : Int) (x4 : (List Int)) (x5 : (List (Int × Int))) (k0 : (Int × Int × Int × (List Int) × (List (Int × Int))) → Option Ans) : Option Ans :=
  (L_generic_plane_context_a34_0 fuel (x0, x1, (0 : Int), (↑x5.length : Int), (0 : Int), x2, x3, x4, x5)
    (fun (b0_0, b0_1, b0_2, b0_3, b0_4) =>
      k0 (b0_0, b0_1, b0_2, b0_3, b0_4)))
abbrev YF158_a34 : Type := (Int) → (Int) → (Int) → (Int) → ((List Int)) → ((List (Int × Int))) → ((Int × Int × Int × (List Int) × (List (Int × Int))) → Option Ans) → Option Ans
theorem F158_a34_eqg (fuel : Nat) (f199_a34 : YF199_a34) (x0 : Int) (x1 : Int) (x2 : Int) (x3 : Int) (x4 : (List Int)) (x5 : (List (Int × Int))) (k : Ev.Cont) : evalFn tab (Gg158_a34 f199_a34) (J158_a34 fuel) kp158_a34 fuel Try.f158 [.c (.ptr 0 0), .c (.int .i64 x0), .c (.int .i64 x1)] [.cells 137 [.int .i64 x2, .int .i64 x3, .sl (.int .u8) x4, .own 1], .vec 44 (.pair (.int .i64) (.int .i64)) x5 false] k = (fun  (k0 : (Int × Int × Int × (List Int) × (List (Int × Int))) → Option Ans) =>
  (L_generic_plane_context_a34_0 fuel (x0, x1, (0 : Int), (↑x5.length : Int), (0 : Int), x2, x3, x4, x5)
    (fun (b0_0, b0_1, b0_2, b0_3, b0_4) =>
      k0 (b0_0, b0_1, b0_2, b0_3, b0_4)))) (fun r => match r with | (r0, r1, r2, r3, r4) => k (.c (.int .i64 r0), [.cells 137 [.int .i64 r1, .int .i64 r2, .sl (.int .u8) r3, .own 1], .vec 44 (.pair (.int .i64) (.int .i64)) r4 false])) := by
  kernel_rfl
theorem F158_a34_eq (fuel : Nat) (x0 : Int) (x1 : Int) (x2 : Int) (x3 : Int) (x4 : (List Int)) (x5 : (List (Int × Int))) (k : Ev.Cont) : evalFn tab (G158_a34 fuel) (J158_a34 fuel) kp158_a34 fuel Try.f158 [.c (.ptr 0 0), .c (.int .i64 x0), .c (.int .i64 x1)] [.cells 137 [.int .i64 x2, .int .i64 x3, .sl (.int .u8) x4, .own 1], .vec 44 (.pair (.int .i64) (.int .i64)) x5 false] k = F_generic_plane_context_a34 fuel x0 x1 x2 x3 x4 x5 (fun r => match r with | (r0, r1, r2, r3, r4) => k (.c (.int .i64 r0), [.cells 137 [.int .i64 r1, .int .i64 r2, .sl (.int .u8) r3, .own 1], .vec 44 (.pair (.int .i64) (.int .i64)) r4 false])) :=
  F158_a34_eqg fuel (F_generic_plane_at_a34 fuel) x0 x1 x2 x3 x4 x5 k
theorem hG158_a34 (fuel : Nat) : GOK Try.prog (G158_a34 fuel) :=
  gok_cons ⟨ok199_a34 fuel, enters_of Try.func199 (by kernel_rfl) rfl⟩ <|
  gok_nil
theorem B158_a34_0_blk (fuel : Nat) : BlkOK Try.prog Try.f158.ntmps (.block 0 (.loop (bodyOf 0 Try.f158))) (B158_a34_0 fuel) :=
  blk_of (blk_of_code tab_ok (hG158_a34 fuel) mixed (J := J158_a34_0 fuel) (kp := kp158_a34) (fuel := fuel) (by kernel_rfl) (fun q hq => by
    rw [(by kernel_rfl : obl (J158_a34_0 fuel) (.block 0 (.loop (bodyOf 0 Try.f158))) = [])] at hq
    cases hq)) (B158_a34_0_ok fuel)
theorem fok158_a34 (fuel : Nat) : FnOK Try.prog 158 (evalFn tab (G158_a34 fuel) (J158_a34 fuel) kp158_a34 fuel Try.f158) :=
  fn_ok tab_ok (hG158_a34 fuel) mixed Try.func158 (c := (Try.f158.body).getD .skip) rfl (fun q hq => by
    rw [(by kernel_rfl : obl (J158_a34 fuel) ((Try.f158.body).getD .skip) = [(.block 0 (.loop (bodyOf 0 Try.f158)), B158_a34_0 fuel)])] at hq
    simp only [List.mem_cons, List.not_mem_nil, or_false] at hq
    subst hq
    · exact B158_a34_0_blk fuel)
noncomputable def mt158_a34 : List Ev.SV → List Ev.Ob → Bool := fun args objs => match args, objs with
  | [.c (.ptr q0 q1), .c (.int .i64 _), .c (.int .i64 _)], [.cells q2 [.int .i64 _, .int .i64 _, .sl (.int .u8) _, .own q3], .vec q4 (.pair (.int .i64) (.int .i64)) _ false] => Nat.beq q0 0 && Nat.beq q1 0 && Nat.beq q2 137 && Nat.beq q3 1 && Nat.beq q4 44
  | _, _ => false
noncomputable def spg158_a34 (F : YF158_a34) : Ev.Spec := fun args objs k => match args, objs with
  | [.c (.ptr q0 q1), .c (.int .i64 x0), .c (.int .i64 x1)], [.cells q2 [.int .i64 x2, .int .i64 x3, .sl (.int .u8) x4, .own q3], .vec q4 (.pair (.int .i64) (.int .i64)) x5 false] => bif Nat.beq q0 0 && Nat.beq q1 0 && Nat.beq q2 137 && Nat.beq q3 1 && Nat.beq q4 44 then F x0 x1 x2 x3 x4 x5 (fun r => match r with | (r0, r1, r2, r3, r4) => k (.c (.int .i64 r0), [.cells 137 [.int .i64 r1, .int .i64 r2, .sl (.int .u8) r3, .own 1], .vec 44 (.pair (.int .i64) (.int .i64)) r4 false])) else none
  | _, _ => none
noncomputable def spec158_a34 (fuel : Nat) : Ev.Spec := spg158_a34 (F_generic_plane_context_a34 fuel)
theorem ok158_a34 (fuel : Nat) : FnOK Try.prog 158 (spec158_a34 fuel) := by
  intro args objs kk r h
  unfold spec158_a34 spg158_a34 at h
  split at h
  · skip
    obtain ⟨hb, h⟩ := cond_some' h
    simp only [Bool.and_eq_true, Nat.beq_eq, decide_eq_true_eq] at hb
    obtain ⟨⟨⟨⟨rfl, rfl⟩, rfl⟩, rfl⟩, rfl⟩ := hb
    exact fok158_a34 fuel _ _ kk r ((F158_a34_eq fuel _ _ _ _ _ _ kk).trans h)
  · cases h
end Go.Proofs.Ytihfgpfofmjbaaa

