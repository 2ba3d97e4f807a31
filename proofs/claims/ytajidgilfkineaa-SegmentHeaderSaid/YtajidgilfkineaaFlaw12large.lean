/- incunable/incunablelaw12.large: its typed text, and that the machine does it. -/
import Derived.Test.YtajidgilfkineaaEvU
set_option linter.unusedVariables false
set_option linter.unusedSimpArgs false
set_option maxRecDepth 100000
namespace Go.Proofs.Ytajidgilfkineaa
open Go Ev
def kp39 (i : Nat) : Option (List Nat) := Ev.look i [(3, [0, 3, 6, 7, 8]), (100000, [0, 3]), (400000, [2])]
def Gg39 (f : Nat) : Option Ev.Spec := Ev.look f []
def G39 (fuel : Nat) : Nat → Option Ev.Spec := Gg39
def S_law12_large_0 (fuel : Nat) (v : (List (Int × (Int × (Int × ((List Int) × ((List Bool) × (List Int))))))) × Int × (List (Int × (Int × (Int × ((List Int) × ((List Bool) × (List Int))))))) × Int × Int) (c : ((List (Int × (Int × (Int × ((List Int) × ((List Bool) × (List Int))))))) × Int × (List (Int × (Int × (Int × ((List Int) × ((List Bool) × (List Int))))))) × Int × Int) → Option Ans) (B : ((List (Int × (Int × (Int × ((List Int) × ((List Bool) × (List Int))))))) × Int → Option Ans)) : Option Ans := match v, B with
  | (x0, x1, x2, x3, x4), b =>
   bif Decidable.decide (x4 < x3) then
      bif Decidable.decide ((0 : Int) ≤ x4 ∧ x4 < (↑x2.length : Int)) then
      c (x0, Go.IntKind.i64.wrap (x1 + Go.IntKind.i64.wrap ((↑(List.length (x2.getD x4.toNat ((0 : Int), (0 : Int), (0 : Int), [], [], [])).snd.snd.snd.snd.snd) : Int) + (↑(List.length (x2.getD x4.toNat ((0 : Int), (0 : Int), (0 : Int), [], [], [])).snd.snd.snd.fst) : Int))), x2, x3, Go.IntKind.i64.wrap (x4 + (1 : Int)))
      else none
     else
      b (x0, x1)
def L_law12_large_0 (fuel : Nat) (v : (List (Int × (Int × (Int × ((List Int) × ((List Bool) × (List Int))))))) × Int × (List (Int × (Int × (Int × ((List Int) × ((List Bool) × (List Int))))))) × Int × Int) (b : ((List (Int × (Int × (Int × ((List Int) × ((List Bool) × (List Int))))))) × Int → Option Ans)) : Option Ans := iter (S_law12_large_0 fuel) fuel v b
def J39_0 (fuel : Nat) (i : Nat) : Option Ev.Blk := Ev.look i []
def T39_0 (v : (List (Int × (Int × (Int × ((List Int) × ((List Bool) × (List Int))))))) × Int × (List (Int × (Int × (Int × ((List Int) × ((List Bool) × (List Int))))))) × Int × Int) : Ev.St := match v with | (x0, x1, x2, x3, x4) => ⟨[(0, .c (.sl (.pair (.int .i64) (.pair (.int .i64) (.pair (.int .i64) (.pair (.sl (.int .i64)) (.pair (.sl .bool) (.sl (.int .u8))))))) x0)), (3, .c (.int .i64 x1)), (6, .c (.sl (.pair (.int .i64) (.pair (.int .i64) (.pair (.int .i64) (.pair (.sl (.int .i64)) (.pair (.sl .bool) (.sl (.int .u8))))))) x2)), (7, .c (.int .i64 x3)), (8, .c (.int .i64 x4))], [], 0, 0⟩
def E39_0 (K : Ev.Ex → Ev.St → Option Ans) : ((List (Int × (Int × (Int × ((List Int) × ((List Bool) × (List Int))))))) × Int → Option Ans) := (fun v => match v with | (x0, x1) => K .normal ⟨[(0, .c (.sl (.pair (.int .i64) (.pair (.int .i64) (.pair (.int .i64) (.pair (.sl (.int .i64)) (.pair (.sl .bool) (.sl (.int .u8))))))) x0)), (3, .c (.int .i64 x1))], [], 0, 0⟩)
theorem S39_0_ok (fuel : Nat) (R : Ev.St → Option Ans) (K : Ev.Ex → Ev.St → Option Ans) (x0 : (List (Int × (Int × (Int × ((List Int) × ((List Bool) × (List Int)))))))) (x1 : Int) (x2 : (List (Int × (Int × (Int × ((List Int) × ((List Bool) × (List Int)))))))) (x3 : Int) (x4 : Int) : evalCode tab (G39 fuel) (J39_0 fuel) kp39 fuel (bodyOf 0 Try.f39) (T39_0 (x0, x1, x2, x3, x4)) (lc kp39 3 0 R K) = S_law12_large_0 fuel (x0, x1, x2, x3, x4) (fun v => R (T39_0 v)) (E39_0 K) := by
  kernel_rfl
def B39_0 (fuel : Nat) : Ev.Blk := fun st K => match canonO (kp39 3) st with
  | some s => (match s with
    | ⟨[(q0, .c (.sl (.pair (.int .i64) (.pair (.int .i64) (.pair (.int .i64) (.pair (.sl (.int .i64)) (.pair (.sl .bool) (.sl (.int .u8))))))) x0)), (q1, .c (.int .i64 x1)), (q2, .c (.sl (.pair (.int .i64) (.pair (.int .i64) (.pair (.int .i64) (.pair (.sl (.int .i64)) (.pair (.sl .bool) (.sl (.int .u8))))))) x2)), (q3, .c (.int .i64 x3)), (q4, .c (.int .i64 x4))], [], q5, q6⟩ => bif Nat.beq q0 0 && Nat.beq q1 3 && Nat.beq q2 6 && Nat.beq q3 7 && Nat.beq q4 8 && Nat.beq q5 0 && Nat.beq q6 0 then iter (S_law12_large_0 fuel) fuel (x0, x1, x2, x3, x4) (E39_0 K) else none
    | _ => none)
  | none => none
theorem B39_0_ok (fuel : Nat) (st : Ev.St) (K : Ev.Ex → Ev.St → Option Ans) (r : Ans) (h : B39_0 fuel st K = some r) : evalCode tab (G39 fuel) (J39_0 fuel) kp39 fuel (.block 0 (.loop (bodyOf 0 Try.f39))) st K = some r := by
  unfold B39_0 at h
  split at h
  · rename_i s hs
    split at h
    · obtain ⟨hb, h⟩ := cond_some' h
      simp only [Bool.and_eq_true, Nat.beq_eq, decide_eq_true_eq] at hb
      obtain ⟨⟨⟨⟨⟨⟨rfl, rfl⟩, rfl⟩, rfl⟩, rfl⟩, rfl⟩, rfl⟩ := hb
      exact blk_loop (S := T39_0) (ks := E39_0) (step := S_law12_large_0 fuel) (v := (_, _, _, _, _)) (by kernel_rfl) (by kernel_rfl) (fun R K v => by obtain ⟨x0, x1, x2, x3, x4⟩ := v; exact S39_0_ok fuel R K x0 x1 x2 x3 x4) hs h
    · cases h
  · cases h
def J39 (fuel : Nat) (i : Nat) : Option Ev.Blk := Ev.look i [(100000, B39_0 fuel)]
def F_law12_large (fuel : Nat) (x0 : (List (Int × Int × Int × (List Int) × (List Bool) × (List Int)))) (k0 : (Bool) → Option Ans) : Option Ans :=
  (L_law12_large_0 fuel (x0, (0 : Int), x0, (↑x0.length : Int), (0 : Int))
    (fun (b0_0, b0_1) =>
      bif Decidable.decide ((↑b0_0.length : Int) > (300 : Int)) then
       k0 Bool.true
      else
       k0 (Decidable.decide (b0_1 > (200000 : Int)))))
abbrev YF39 : Type := ((List (Int × Int × Int × (List Int) × (List Bool) × (List Int)))) → ((Bool) → Option Ans) → Option Ans
theorem F39_eq (fuel : Nat) (x0 : (List (Int × Int × Int × (List Int) × (List Bool) × (List Int)))) (k : Ev.Cont) : evalFn tab (G39 fuel) (J39 fuel) kp39 fuel Try.f39 [.c (.sl (.pair (.int .i64) (.pair (.int .i64) (.pair (.int .i64) (.pair (.sl (.int .i64)) (.pair (.sl .bool) (.sl (.int .u8))))))) x0)] [] k = F_law12_large fuel x0 (fun r => match r with | r0 => k (.c (.bool r0), [])) := by
  kernel_rfl
theorem hG39 (fuel : Nat) : GOK Try.prog (G39 fuel) :=
  gok_nil
theorem B39_0_blk (fuel : Nat) : BlkOK Try.prog Try.f39.ntmps (.block 0 (.loop (bodyOf 0 Try.f39))) (B39_0 fuel) :=
  blk_of (blk_of_code tab_ok (hG39 fuel) mixed (J := J39_0 fuel) (kp := kp39) (fuel := fuel) (by kernel_rfl) (fun q hq => by
    rw [(by kernel_rfl : obl (J39_0 fuel) (.block 0 (.loop (bodyOf 0 Try.f39))) = [])] at hq
    cases hq)) (B39_0_ok fuel)
theorem fok39 (fuel : Nat) : FnOK Try.prog 39 (evalFn tab (G39 fuel) (J39 fuel) kp39 fuel Try.f39) :=
  fn_ok tab_ok (hG39 fuel) mixed Try.func39 (c := (Try.f39.body).getD .skip) rfl (fun q hq => by
    rw [(by kernel_rfl : obl (J39 fuel) ((Try.f39.body).getD .skip) = [(.block 0 (.loop (bodyOf 0 Try.f39)), B39_0 fuel)])] at hq
    simp only [List.mem_cons, List.not_mem_nil, or_false] at hq
    subst hq
    · exact B39_0_blk fuel)
def mt39 : List Ev.SV → List Ev.Ob → Bool := fun args objs => match args, objs with
  | [.c (.sl (.pair (.int .i64) (.pair (.int .i64) (.pair (.int .i64) (.pair (.sl (.int .i64)) (.pair (.sl .bool) (.sl (.int .u8))))))) _)], [] => true
  | _, _ => false
def spg39 (F : YF39) : Ev.Spec := fun args objs k => match args, objs with
  | [.c (.sl (.pair (.int .i64) (.pair (.int .i64) (.pair (.int .i64) (.pair (.sl (.int .i64)) (.pair (.sl .bool) (.sl (.int .u8))))))) x0)], [] => bif true then F x0 (fun r => match r with | r0 => k (.c (.bool r0), [])) else none
  | _, _ => none
def spec39 (fuel : Nat) : Ev.Spec := spg39 (F_law12_large fuel)
theorem ok39 (fuel : Nat) : FnOK Try.prog 39 (spec39 fuel) := by
  intro args objs kk r h
  unfold spec39 spg39 at h
  split at h
  · obtain ⟨hb, h⟩ := cond_some' h
    simp only [Bool.and_eq_true, Nat.beq_eq, decide_eq_true_eq] at hb
    clear hb
    exact fok39 fuel _ _ kk r ((F39_eq fuel _ kk).trans h)
  · cases h
end Go.Proofs.Ytajidgilfkineaa
