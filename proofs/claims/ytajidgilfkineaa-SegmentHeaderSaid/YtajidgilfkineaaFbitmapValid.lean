/- incunable/bitmap.Valid: its typed text, and that the machine does it. -/
import Derived.Test.YtajidgilfkineaaEvU
import Derived.Test.YtajidgilfkineaaFbitmapfits
set_option linter.unusedVariables false
set_option linter.unusedSimpArgs false
set_option maxRecDepth 100000
namespace Go.Proofs.Ytajidgilfkineaa
open Go Ev
def kp69 (i : Nat) : Option (List Nat) := Ev.look i [(4, [23, 24, 25]), (100000, []), (400000, [2])]
def Gg69 (f107 : YF107) (f : Nat) : Option Ev.Spec := Ev.look f [(107, spg107 f107)]
def G69 (fuel : Nat) : Nat → Option Ev.Spec := Gg69 (F_bitmap_fits fuel)
def S_bitmap_Valid_0 (fuel : Nat) (v : (List Int) × Int × Int) (c : ((List Int) × Int × Int) → Option Ans) (B : (Bool → Option Ans) × (Unit → Option Ans)) : Option Ans := match v, B with
  | (x0, x1, x2), (ret, b) =>
   bif Decidable.decide (x2 < x1) then
      bif Decidable.decide ((0 : Int) ≤ x2 ∧ x2 < (↑x0.length : Int)) then
      bif Decidable.decide (x0.getD x2.toNat (0 : Int) > (1 : Int)) then
        ret Bool.false
       else
        c (x0, x1, Go.IntKind.i64.wrap (x2 + (1 : Int)))
      else none
     else
      b ()
def L_bitmap_Valid_0 (fuel : Nat) (v : (List Int) × Int × Int) (ret : (Bool → Option Ans)) (b : (Unit → Option Ans)) : Option Ans := iter (S_bitmap_Valid_0 fuel) fuel v (ret, b)
def J69_0 (fuel : Nat) (i : Nat) : Option Ev.Blk := Ev.look i []
def T69_0 (v : (List Int) × Int × Int) : Ev.St := match v with | (x0, x1, x2) => ⟨[(23, .c (.sl (.int .u8) x0)), (24, .c (.int .i64 x1)), (25, .c (.int .i64 x2))], [], 0, 0⟩
def E69_0 (K : Ev.Ex → Ev.St → Option Ans) : (Bool → Option Ans) × (Unit → Option Ans) := ((fun v => match v with | x0 => K .ret ⟨[(2, .c (.bool x0))], [], 0, 0⟩), (fun v => match v with | () => K .normal ⟨[], [], 0, 0⟩))
theorem S69_0_okg (fuel : Nat) (f107 : YF107) (R : Ev.St → Option Ans) (K : Ev.Ex → Ev.St → Option Ans) (x0 : (List Int)) (x1 : Int) (x2 : Int) : evalCode tab (Gg69 f107) (J69_0 fuel) kp69 fuel (bodyOf 0 Try.f69) (T69_0 (x0, x1, x2)) (lc kp69 4 0 R K) = (fun (c : ((List Int) × Int × Int) → Option Ans) (B : (Bool → Option Ans) × (Unit → Option Ans)) => match B with
  | (ret, b) =>
   bif Decidable.decide (x2 < x1) then
      bif Decidable.decide ((0 : Int) ≤ x2 ∧ x2 < (↑x0.length : Int)) then
      bif Decidable.decide (x0.getD x2.toNat (0 : Int) > (1 : Int)) then
        ret Bool.false
       else
        c (x0, x1, Go.IntKind.i64.wrap (x2 + (1 : Int)))
      else none
     else
      b ()) (fun v => R (T69_0 v)) (E69_0 K) := by
  kernel_rfl
theorem S69_0_ok (fuel : Nat) (R : Ev.St → Option Ans) (K : Ev.Ex → Ev.St → Option Ans) (x0 : (List Int)) (x1 : Int) (x2 : Int) : evalCode tab (G69 fuel) (J69_0 fuel) kp69 fuel (bodyOf 0 Try.f69) (T69_0 (x0, x1, x2)) (lc kp69 4 0 R K) = S_bitmap_Valid_0 fuel (x0, x1, x2) (fun v => R (T69_0 v)) (E69_0 K) :=
  S69_0_okg fuel (F_bitmap_fits fuel) R K x0 x1 x2
def B69_0 (fuel : Nat) : Ev.Blk := fun st K => match canonO (kp69 4) st with
  | some s => (match s with
    | ⟨[(q0, .c (.sl (.int .u8) x0)), (q1, .c (.int .i64 x1)), (q2, .c (.int .i64 x2))], [], q3, q4⟩ => bif Nat.beq q0 23 && Nat.beq q1 24 && Nat.beq q2 25 && Nat.beq q3 0 && Nat.beq q4 0 then iter (S_bitmap_Valid_0 fuel) fuel (x0, x1, x2) (E69_0 K) else none
    | _ => none)
  | none => none
theorem B69_0_ok (fuel : Nat) (st : Ev.St) (K : Ev.Ex → Ev.St → Option Ans) (r : Ans) (h : B69_0 fuel st K = some r) : evalCode tab (G69 fuel) (J69_0 fuel) kp69 fuel (.block 0 (.loop (bodyOf 0 Try.f69))) st K = some r := by
  unfold B69_0 at h
  split at h
  · rename_i s hs
    split at h
    · obtain ⟨hb, h⟩ := cond_some' h
      simp only [Bool.and_eq_true, Nat.beq_eq, decide_eq_true_eq] at hb
      obtain ⟨⟨⟨⟨rfl, rfl⟩, rfl⟩, rfl⟩, rfl⟩ := hb
      exact blk_loop (S := T69_0) (ks := E69_0) (step := S_bitmap_Valid_0 fuel) (v := (_, _, _)) (by kernel_rfl) (by kernel_rfl) (fun R K v => by obtain ⟨x0, x1, x2⟩ := v; exact S69_0_ok fuel R K x0 x1 x2) hs h
    · cases h
  · cases h
def J69 (fuel : Nat) (i : Nat) : Option Ev.Blk := Ev.look i [(100000, B69_0 fuel)]
def F_bitmap_Valid (fuel : Nat) (x0 : Int) (x1 : Int) (x2 : (List Int)) (k0 : (Bool) → Option Ans) : Option Ans :=
  (F_bitmap_fits fuel (x0) (x1)
    (fun y2 =>
      bif !y2 then
       k0 Bool.false
      else
       bif (↑x2.length : Int) != Go.IntKind.i64.wrap (x0 * x1) then
        k0 Bool.false
       else
        (L_bitmap_Valid_0 fuel (x2, (↑x2.length : Int), (0 : Int))
          (fun ret0_0 =>
            k0 ret0_0)
          (fun () =>
            k0 Bool.true))))
abbrev YF69 : Type := (Int) → (Int) → ((List Int)) → ((Bool) → Option Ans) → Option Ans
theorem F69_eqg (fuel : Nat) (f107 : YF107) (x0 : Int) (x1 : Int) (x2 : (List Int)) (k : Ev.Cont) : evalFn tab (Gg69 f107) (J69 fuel) kp69 fuel Try.f69 [.agg [.int .i64 x0, .int .i64 x1, .sl (.int .u8) x2]] [] k = (fun  (k0 : (Bool) → Option Ans) =>
  (f107 (x0) (x1)
    (fun y2 =>
      bif !y2 then
       k0 Bool.false
      else
       bif (↑x2.length : Int) != Go.IntKind.i64.wrap (x0 * x1) then
        k0 Bool.false
       else
        (L_bitmap_Valid_0 fuel (x2, (↑x2.length : Int), (0 : Int))
          (fun ret0_0 =>
            k0 ret0_0)
          (fun () =>
            k0 Bool.true))))) (fun r => match r with | r0 => k (.c (.bool r0), [])) := by
  kernel_rfl
theorem F69_eq (fuel : Nat) (x0 : Int) (x1 : Int) (x2 : (List Int)) (k : Ev.Cont) : evalFn tab (G69 fuel) (J69 fuel) kp69 fuel Try.f69 [.agg [.int .i64 x0, .int .i64 x1, .sl (.int .u8) x2]] [] k = F_bitmap_Valid fuel x0 x1 x2 (fun r => match r with | r0 => k (.c (.bool r0), [])) :=
  F69_eqg fuel (F_bitmap_fits fuel) x0 x1 x2 k
theorem hG69 (fuel : Nat) : GOK Try.prog (G69 fuel) :=
  gok_cons ⟨ok107 fuel, enters_of Try.func107 (by kernel_rfl) rfl⟩ <|
  gok_nil
theorem B69_0_blk (fuel : Nat) : BlkOK Try.prog Try.f69.ntmps (.block 0 (.loop (bodyOf 0 Try.f69))) (B69_0 fuel) :=
  blk_of (blk_of_code tab_ok (hG69 fuel) mixed (J := J69_0 fuel) (kp := kp69) (fuel := fuel) (by kernel_rfl) (fun q hq => by
    rw [(by kernel_rfl : obl (J69_0 fuel) (.block 0 (.loop (bodyOf 0 Try.f69))) = [])] at hq
    cases hq)) (B69_0_ok fuel)
theorem fok69 (fuel : Nat) : FnOK Try.prog 69 (evalFn tab (G69 fuel) (J69 fuel) kp69 fuel Try.f69) :=
  fn_ok tab_ok (hG69 fuel) mixed Try.func69 (c := (Try.f69.body).getD .skip) rfl (fun q hq => by
    rw [(by kernel_rfl : obl (J69 fuel) ((Try.f69.body).getD .skip) = [(.block 0 (.loop (bodyOf 0 Try.f69)), B69_0 fuel)])] at hq
    simp only [List.mem_cons, List.not_mem_nil, or_false] at hq
    subst hq
    · exact B69_0_blk fuel)
def mt69 : List Ev.SV → List Ev.Ob → Bool := fun args objs => match args, objs with
  | [.agg [.int .i64 _, .int .i64 _, .sl (.int .u8) _]], [] => true
  | _, _ => false
def spg69 (F : YF69) : Ev.Spec := fun args objs k => match args, objs with
  | [.agg [.int .i64 x0, .int .i64 x1, .sl (.int .u8) x2]], [] => bif true then F x0 x1 x2 (fun r => match r with | r0 => k (.c (.bool r0), [])) else none
  | _, _ => none
def spec69 (fuel : Nat) : Ev.Spec := spg69 (F_bitmap_Valid fuel)
theorem ok69 (fuel : Nat) : FnOK Try.prog 69 (spec69 fuel) := by
  intro args objs kk r h
  unfold spec69 spg69 at h
  split at h
  · obtain ⟨hb, h⟩ := cond_some' h
    simp only [Bool.and_eq_true, Nat.beq_eq, decide_eq_true_eq] at hb
    clear hb
    exact fok69 fuel _ _ kk r ((F69_eq fuel _ _ _ kk).trans h)
  · cases h
end Go.Proofs.Ytajidgilfkineaa
