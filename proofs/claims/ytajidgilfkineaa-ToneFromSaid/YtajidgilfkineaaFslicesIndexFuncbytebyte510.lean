/- slices.IndexFunc[[]byte,byte]: its typed text, and that the machine does it. -/
import Derived.Test.YtajidgilfkineaaEvU
import Derived.Test.YtajidgilfkineaaFtoneFromPlanes1
set_option linter.unusedVariables false
set_option linter.unusedSimpArgs false
set_option maxRecDepth 100000
namespace Go.Proofs.Ytajidgilfkineaa
open Go Ev
def kp102_510 (i : Nat) : Option (List Nat) := Ev.look i [(2, [0, 1, 7, 8]), (100000, []), (400000, [4])]
def Gg102_510 (f60 : YF60) (f : Nat) : Option Ev.Spec := Ev.look f [(60, spg60 f60)]
def G102_510 (fuel : Nat) : Nat → Option Ev.Spec := Gg102_510 (F_tone_FromPlanes_1 fuel)
def S_slices_IndexFunc_byte_byte_510_0 (fuel : Nat) (v : (List Int) × Int × Int) (c : ((List Int) × Int × Int) → Option Ans) (B : (Int → Option Ans) × (Unit → Option Ans)) : Option Ans := match v, B with
  | (x0, x1, x2), (ret, b) =>
   bif Decidable.decide (x2 < x1) then
      bif Decidable.decide ((0 : Int) ≤ x2 ∧ x2 < (↑x0.length : Int)) then
      (F_tone_FromPlanes_1 fuel (x0.getD x2.toNat (0 : Int))
         (fun y4 =>
           bif y4 then
            ret x2
           else
            c (x0, x1, Go.IntKind.i64.wrap (x2 + (1 : Int)))))
      else none
     else
      b ()
def L_slices_IndexFunc_byte_byte_510_0 (fuel : Nat) (v : (List Int) × Int × Int) (ret : (Int → Option Ans)) (b : (Unit → Option Ans)) : Option Ans := iter (S_slices_IndexFunc_byte_byte_510_0 fuel) fuel v (ret, b)
def J102_510_0 (fuel : Nat) (i : Nat) : Option Ev.Blk := Ev.look i []
def T102_510_0 (v : (List Int) × Int × Int) : Ev.St := match v with | (x0, x1, x2) => ⟨[(0, .c (.sl (.int .u8) x0)), (1, .c (.clo 60 [])), (7, .c (.int .i64 x1)), (8, .c (.int .i64 x2))], [], 0, 0⟩
def E102_510_0 (K : Ev.Ex → Ev.St → Option Ans) : (Int → Option Ans) × (Unit → Option Ans) := ((fun v => match v with | x0 => K .ret ⟨[(4, .c (.int .i64 x0))], [], 0, 0⟩), (fun v => match v with | () => K .normal ⟨[], [], 0, 0⟩))
theorem S102_510_0_okg (fuel : Nat) (f60 : YF60) (R : Ev.St → Option Ans) (K : Ev.Ex → Ev.St → Option Ans) (x0 : (List Int)) (x1 : Int) (x2 : Int) : evalCode tab (Gg102_510 f60) (J102_510_0 fuel) kp102_510 fuel (bodyOf 0 Try.f102) (T102_510_0 (x0, x1, x2)) (lc kp102_510 2 0 R K) = (fun (c : ((List Int) × Int × Int) → Option Ans) (B : (Int → Option Ans) × (Unit → Option Ans)) => match B with
  | (ret, b) =>
   bif Decidable.decide (x2 < x1) then
      bif Decidable.decide ((0 : Int) ≤ x2 ∧ x2 < (↑x0.length : Int)) then
      (f60 (x0.getD x2.toNat (0 : Int))
         (fun y4 =>
           bif y4 then
            ret x2
           else
            c (x0, x1, Go.IntKind.i64.wrap (x2 + (1 : Int)))))
      else none
     else
      b ()) (fun v => R (T102_510_0 v)) (E102_510_0 K) := by
  kernel_rfl
theorem S102_510_0_ok (fuel : Nat) (R : Ev.St → Option Ans) (K : Ev.Ex → Ev.St → Option Ans) (x0 : (List Int)) (x1 : Int) (x2 : Int) : evalCode tab (G102_510 fuel) (J102_510_0 fuel) kp102_510 fuel (bodyOf 0 Try.f102) (T102_510_0 (x0, x1, x2)) (lc kp102_510 2 0 R K) = S_slices_IndexFunc_byte_byte_510_0 fuel (x0, x1, x2) (fun v => R (T102_510_0 v)) (E102_510_0 K) :=
  S102_510_0_okg fuel (F_tone_FromPlanes_1 fuel) R K x0 x1 x2
def B102_510_0 (fuel : Nat) : Ev.Blk := fun st K => match canonO (kp102_510 2) st with
  | some s => (match s with
    | ⟨[(q0, .c (.sl (.int .u8) x0)), (q1, .c (.clo q2 [])), (q3, .c (.int .i64 x1)), (q4, .c (.int .i64 x2))], [], q5, q6⟩ => bif Nat.beq q0 0 && Nat.beq q1 1 && Nat.beq q2 60 && Nat.beq q3 7 && Nat.beq q4 8 && Nat.beq q5 0 && Nat.beq q6 0 then iter (S_slices_IndexFunc_byte_byte_510_0 fuel) fuel (x0, x1, x2) (E102_510_0 K) else none
    | _ => none)
  | none => none
theorem B102_510_0_ok (fuel : Nat) (st : Ev.St) (K : Ev.Ex → Ev.St → Option Ans) (r : Ans) (h : B102_510_0 fuel st K = some r) : evalCode tab (G102_510 fuel) (J102_510_0 fuel) kp102_510 fuel (.block 0 (.loop (bodyOf 0 Try.f102))) st K = some r := by
  unfold B102_510_0 at h
  split at h
  · rename_i s hs
    split at h
    · obtain ⟨hb, h⟩ := cond_some' h
      simp only [Bool.and_eq_true, Nat.beq_eq, decide_eq_true_eq] at hb
      obtain ⟨⟨⟨⟨⟨⟨rfl, rfl⟩, rfl⟩, rfl⟩, rfl⟩, rfl⟩, rfl⟩ := hb
      exact blk_loop (S := T102_510_0) (ks := E102_510_0) (step := S_slices_IndexFunc_byte_byte_510_0 fuel) (v := (_, _, _)) (by kernel_rfl) (by kernel_rfl) (fun R K v => by obtain ⟨x0, x1, x2⟩ := v; exact S102_510_0_ok fuel R K x0 x1 x2) hs h
    · cases h
  · cases h
def J102_510 (fuel : Nat) (i : Nat) : Option Ev.Blk := Ev.look i [(100000, B102_510_0 fuel)]
def F_slices_IndexFunc_byte_byte_510 (fuel : Nat) (x0 : (List Int)) (k0 : (Int) → Option Ans) : Option Ans :=
  (L_slices_IndexFunc_byte_byte_510_0 fuel (x0, (↑x0.length : Int), (0 : Int))
    (fun ret0_0 =>
      k0 ret0_0)
    (fun () =>
      k0 ((-1 : Int))))
abbrev YF102_510 : Type := ((List Int)) → ((Int) → Option Ans) → Option Ans
theorem F102_510_eqg (fuel : Nat) (f60 : YF60) (x0 : (List Int)) (k : Ev.Cont) : evalFn tab (Gg102_510 f60) (J102_510 fuel) kp102_510 fuel Try.f102 [.c (.sl (.int .u8) x0), .c (.clo 60 [])] [] k = (fun  (k0 : (Int) → Option Ans) =>
  (L_slices_IndexFunc_byte_byte_510_0 fuel (x0, (↑x0.length : Int), (0 : Int))
    (fun ret0_0 =>
      k0 ret0_0)
    (fun () =>
      k0 ((-1 : Int))))) (fun r => match r with | r0 => k (.c (.int .i64 r0), [])) := by
  kernel_rfl
theorem F102_510_eq (fuel : Nat) (x0 : (List Int)) (k : Ev.Cont) : evalFn tab (G102_510 fuel) (J102_510 fuel) kp102_510 fuel Try.f102 [.c (.sl (.int .u8) x0), .c (.clo 60 [])] [] k = F_slices_IndexFunc_byte_byte_510 fuel x0 (fun r => match r with | r0 => k (.c (.int .i64 r0), [])) :=
  F102_510_eqg fuel (F_tone_FromPlanes_1 fuel) x0 k
theorem hG102_510 (fuel : Nat) : GOK Try.prog (G102_510 fuel) :=
  gok_cons ⟨ok60 fuel, enters_of Try.func60 (by kernel_rfl) rfl⟩ <|
  gok_nil
theorem B102_510_0_blk (fuel : Nat) : BlkOK Try.prog Try.f102.ntmps (.block 0 (.loop (bodyOf 0 Try.f102))) (B102_510_0 fuel) :=
  blk_of (blk_of_code tab_ok (hG102_510 fuel) mixed (J := J102_510_0 fuel) (kp := kp102_510) (fuel := fuel) (by kernel_rfl) (fun q hq => by
    rw [(by kernel_rfl : obl (J102_510_0 fuel) (.block 0 (.loop (bodyOf 0 Try.f102))) = [])] at hq
    cases hq)) (B102_510_0_ok fuel)
theorem fok102_510 (fuel : Nat) : FnOK Try.prog 102 (evalFn tab (G102_510 fuel) (J102_510 fuel) kp102_510 fuel Try.f102) :=
  fn_ok tab_ok (hG102_510 fuel) mixed Try.func102 (c := (Try.f102.body).getD .skip) rfl (fun q hq => by
    rw [(by kernel_rfl : obl (J102_510 fuel) ((Try.f102.body).getD .skip) = [(.block 0 (.loop (bodyOf 0 Try.f102)), B102_510_0 fuel)])] at hq
    simp only [List.mem_cons, List.not_mem_nil, or_false] at hq
    subst hq
    · exact B102_510_0_blk fuel)
def mt102_510 : List Ev.SV → List Ev.Ob → Bool := fun args objs => match args, objs with
  | [.c (.sl (.int .u8) _), .c (.clo q0 [])], [] => Nat.beq q0 60
  | _, _ => false
def spg102_510 (F : YF102_510) : Ev.Spec := fun args objs k => match args, objs with
  | [.c (.sl (.int .u8) x0), .c (.clo q0 [])], [] => bif Nat.beq q0 60 then F x0 (fun r => match r with | r0 => k (.c (.int .i64 r0), [])) else none
  | _, _ => none
def spec102_510 (fuel : Nat) : Ev.Spec := spg102_510 (F_slices_IndexFunc_byte_byte_510 fuel)
theorem ok102_510 (fuel : Nat) : FnOK Try.prog 102 (spec102_510 fuel) := by
  intro args objs kk r h
  unfold spec102_510 spg102_510 at h
  split at h
  · obtain ⟨hb, h⟩ := cond_some' h
    simp only [Bool.and_eq_true, Nat.beq_eq, decide_eq_true_eq] at hb
    obtain rfl := hb
    exact fok102_510 fuel _ _ kk r ((F102_510_eq fuel _ kk).trans h)
  · cases h
end Go.Proofs.Ytajidgilfkineaa
