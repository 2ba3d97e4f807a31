/- What the functions that SegmentBack reaches do: their typed texts, each with the proof that the machine does it. No condition. -/
import Derived.Test.YtajidgilfkineaaEvU
import Derived.Test.YtajidgilfkineaaFsSegmentBack1
set_option linter.unusedVariables false
set_option linter.unusedSimpArgs false
set_option linter.unusedVariables false
set_option linter.unusedSimpArgs false
set_option maxRecDepth 100000
namespace Go.Proofs.Ytajidgilfkineaa
open Go Ev
def kp80 (i : Nat) : Option (List Nat) := Ev.look i [(4, [0, 1, 12, 13]), (100000, []), (400000, [4])]
def Gg80 (f : Nat) : Option Ev.Spec := Ev.look f []
def G80 (fuel : Nat) : Nat → Option Ev.Spec := Gg80
def S_slices_Equal_int_int_0 (fuel : Nat) (v : (List Int) × (List Int) × Int × Int) (c : ((List Int) × (List Int) × Int × Int) → Option Ans) (B : (Bool → Option Ans) × (Unit → Option Ans)) : Option Ans := match v, B with
  | (x0, x1, x2, x3), (ret, b) =>
   bif Decidable.decide (x3 < x2) then
      bif Decidable.decide ((0 : Int) ≤ x3 ∧ x3 < (↑x0.length : Int)) then
      bif Decidable.decide ((0 : Int) ≤ x3 ∧ x3 < (↑x1.length : Int)) then
       bif x0.getD x3.toNat (0 : Int) != x1.getD x3.toNat (0 : Int) then
         ret Bool.false
        else
         c (x0, x1, x2, Go.IntKind.i64.wrap (x3 + (1 : Int)))
       else none
      else none
     else
      b ()
def L_slices_Equal_int_int_0 (fuel : Nat) (v : (List Int) × (List Int) × Int × Int) (ret : (Bool → Option Ans)) (b : (Unit → Option Ans)) : Option Ans := iter (S_slices_Equal_int_int_0 fuel) fuel v (ret, b)
def J80_0 (fuel : Nat) (i : Nat) : Option Ev.Blk := Ev.look i []
def T80_0 (v : (List Int) × (List Int) × Int × Int) : Ev.St := match v with | (x0, x1, x2, x3) => ⟨[(0, .c (.sl (.int .i64) x0)), (1, .c (.sl (.int .i64) x1)), (12, .c (.int .i64 x2)), (13, .c (.int .i64 x3))], [], 0, 0⟩
def E80_0 (K : Ev.Ex → Ev.St → Option Ans) : (Bool → Option Ans) × (Unit → Option Ans) := ((fun v => match v with | x0 => K .ret ⟨[(4, .c (.bool x0))], [], 0, 0⟩), (fun v => match v with | () => K .normal ⟨[], [], 0, 0⟩))
theorem S80_0_ok (fuel : Nat) (R : Ev.St → Option Ans) (K : Ev.Ex → Ev.St → Option Ans) (x0 : (List Int)) (x1 : (List Int)) (x2 : Int) (x3 : Int) : evalCode tab (G80 fuel) (J80_0 fuel) kp80 fuel (bodyOf 0 Try.f80) (T80_0 (x0, x1, x2, x3)) (lc kp80 4 0 R K) = S_slices_Equal_int_int_0 fuel (x0, x1, x2, x3) (fun v => R (T80_0 v)) (E80_0 K) := by
  kernel_rfl
def B80_0 (fuel : Nat) : Ev.Blk := fun st K => match canonO (kp80 4) st with
  | some s => (match s with
    | ⟨[(q0, .c (.sl (.int .i64) x0)), (q1, .c (.sl (.int .i64) x1)), (q2, .c (.int .i64 x2)), (q3, .c (.int .i64 x3))], [], q4, q5⟩ => bif Nat.beq q0 0 && Nat.beq q1 1 && Nat.beq q2 12 && Nat.beq q3 13 && Nat.beq q4 0 && Nat.beq q5 0 then iter (S_slices_Equal_int_int_0 fuel) fuel (x0, x1, x2, x3) (E80_0 K) else none
    | _ => none)
  | none => none
theorem B80_0_ok (fuel : Nat) (st : Ev.St) (K : Ev.Ex → Ev.St → Option Ans) (r : Ans) (h : B80_0 fuel st K = some r) : evalCode tab (G80 fuel) (J80_0 fuel) kp80 fuel (.block 0 (.loop (bodyOf 0 Try.f80))) st K = some r := by
  unfold B80_0 at h
  split at h
  · rename_i s hs
    split at h
    · obtain ⟨hb, h⟩ := cond_some' h
      simp only [Bool.and_eq_true, Nat.beq_eq, decide_eq_true_eq] at hb
      obtain ⟨⟨⟨⟨⟨rfl, rfl⟩, rfl⟩, rfl⟩, rfl⟩, rfl⟩ := hb
      exact blk_loop (S := T80_0) (ks := E80_0) (step := S_slices_Equal_int_int_0 fuel) (v := (_, _, _, _)) (by kernel_rfl) (by kernel_rfl) (fun R K v => by obtain ⟨x0, x1, x2, x3⟩ := v; exact S80_0_ok fuel R K x0 x1 x2 x3) hs h
    · cases h
  · cases h
def J80 (fuel : Nat) (i : Nat) : Option Ev.Blk := Ev.look i [(100000, B80_0 fuel)]
def F_slices_Equal_int_int (fuel : Nat) (x0 : (List Int)) (x1 : (List Int)) (k0 : (Bool) → Option Ans) : Option Ans :=
  bif (↑x0.length : Int) != (↑x1.length : Int) then
   k0 Bool.false
  else
   (L_slices_Equal_int_int_0 fuel (x0, x1, (↑x0.length : Int), (0 : Int))
     (fun ret0_0 =>
       k0 ret0_0)
     (fun () =>
       k0 Bool.true))
abbrev YF80 : Type := ((List Int)) → ((List Int)) → ((Bool) → Option Ans) → Option Ans
theorem F80_eq (fuel : Nat) (x0 : (List Int)) (x1 : (List Int)) (k : Ev.Cont) : evalFn tab (G80 fuel) (J80 fuel) kp80 fuel Try.f80 [.c (.sl (.int .i64) x0), .c (.sl (.int .i64) x1)] [] k = F_slices_Equal_int_int fuel x0 x1 (fun r => match r with | r0 => k (.c (.bool r0), [])) := by
  kernel_rfl
theorem hG80 (fuel : Nat) : GOK Try.prog (G80 fuel) :=
  gok_nil
theorem B80_0_blk (fuel : Nat) : BlkOK Try.prog Try.f80.ntmps (.block 0 (.loop (bodyOf 0 Try.f80))) (B80_0 fuel) :=
  blk_of (blk_of_code tab_ok (hG80 fuel) mixed (J := J80_0 fuel) (kp := kp80) (fuel := fuel) (by kernel_rfl) (fun q hq => by
    rw [(by kernel_rfl : obl (J80_0 fuel) (.block 0 (.loop (bodyOf 0 Try.f80))) = [])] at hq
    cases hq)) (B80_0_ok fuel)
theorem fok80 (fuel : Nat) : FnOK Try.prog 80 (evalFn tab (G80 fuel) (J80 fuel) kp80 fuel Try.f80) :=
  fn_ok tab_ok (hG80 fuel) mixed Try.func80 (c := (Try.f80.body).getD .skip) rfl (fun q hq => by
    rw [(by kernel_rfl : obl (J80 fuel) ((Try.f80.body).getD .skip) = [(.block 0 (.loop (bodyOf 0 Try.f80)), B80_0 fuel)])] at hq
    simp only [List.mem_cons, List.not_mem_nil, or_false] at hq
    subst hq
    · exact B80_0_blk fuel)
def mt80 : List Ev.SV → List Ev.Ob → Bool := fun args objs => match args, objs with
  | [.c (.sl (.int .i64) _), .c (.sl (.int .i64) _)], [] => true
  | _, _ => false
def spg80 (F : YF80) : Ev.Spec := fun args objs k => match args, objs with
  | [.c (.sl (.int .i64) x0), .c (.sl (.int .i64) x1)], [] => bif true then F x0 x1 (fun r => match r with | r0 => k (.c (.bool r0), [])) else none
  | _, _ => none
def spec80 (fuel : Nat) : Ev.Spec := spg80 (F_slices_Equal_int_int fuel)
theorem ok80 (fuel : Nat) : FnOK Try.prog 80 (spec80 fuel) := by
  intro args objs kk r h
  unfold spec80 spg80 at h
  split at h
  · obtain ⟨hb, h⟩ := cond_some' h
    simp only [Bool.and_eq_true, Nat.beq_eq, decide_eq_true_eq] at hb
    clear hb
    exact fok80 fuel _ _ kk r ((F80_eq fuel _ _ kk).trans h)
  · cases h
end Go.Proofs.Ytajidgilfkineaa

set_option linter.unusedVariables false
set_option linter.unusedSimpArgs false
set_option maxRecDepth 100000
namespace Go.Proofs.Ytajidgilfkineaa
open Go Ev
def kp46 (i : Nat) : Option (List Nat) := Ev.look i []
def Gg46 (f80 : YF80) (f81 : YF81) (f82 : YF82) (f : Nat) : Option Ev.Spec := Ev.look f [(80, spg80 f80), (81, spg81 f81), (82, spg82 f82)]
def G46 (fuel : Nat) : Nat → Option Ev.Spec := Gg46 (F_slices_Equal_int_int fuel) (F_slices_Equal_bool_bool fuel) (F_bytes_Equal fuel)
def J46 (fuel : Nat) (i : Nat) : Option Ev.Blk := Ev.look i []
def F_segment_Same (fuel : Nat) (x0 : Int) (x1 : Int) (x2 : Int) (x3 : (List Int)) (x4 : (List Bool)) (x5 : (List Int)) (x6 : Int) (x7 : Int) (x8 : Int) (x9 : (List Int)) (x10 : (List Bool)) (x11 : (List Int)) (k0 : (Bool) → Option Ans) : Option Ans :=
  bif x0 == x6 then
   bif x1 == x7 then
    bif x2 == x8 then
     (F_slices_Equal_int_int fuel (x3) (x9)
       (fun y5 =>
         bif y5 then
          (F_slices_Equal_bool_bool fuel (x4) (x10)
            (fun y10 =>
              bif y10 then
               (F_bytes_Equal fuel (x5) (x11)
                 (fun y15 =>
                   k0 y15))
              else
               k0 Bool.false))
         else
          k0 Bool.false))
    else
     k0 Bool.false
   else
    k0 Bool.false
  else
   k0 Bool.false
abbrev YF46 : Type := (Int) → (Int) → (Int) → ((List Int)) → ((List Bool)) → ((List Int)) → (Int) → (Int) → (Int) → ((List Int)) → ((List Bool)) → ((List Int)) → ((Bool) → Option Ans) → Option Ans
theorem F46_eqg (fuel : Nat) (f80 : YF80) (f81 : YF81) (f82 : YF82) (x0 : Int) (x1 : Int) (x2 : Int) (x3 : (List Int)) (x4 : (List Bool)) (x5 : (List Int)) (x6 : Int) (x7 : Int) (x8 : Int) (x9 : (List Int)) (x10 : (List Bool)) (x11 : (List Int)) (k : Ev.Cont) : evalFn tab (Gg46 f80 f81 f82) (J46 fuel) kp46 fuel Try.f46 [.agg [.int .i64 x0, .int .i64 x1, .int .i64 x2, .sl (.int .i64) x3, .sl .bool x4, .sl (.int .u8) x5], .agg [.int .i64 x6, .int .i64 x7, .int .i64 x8, .sl (.int .i64) x9, .sl .bool x10, .sl (.int .u8) x11]] [] k = (fun  (k0 : (Bool) → Option Ans) =>
  bif x0 == x6 then
   bif x1 == x7 then
    bif x2 == x8 then
     (f80 (x3) (x9)
       (fun y5 =>
         bif y5 then
          (f81 (x4) (x10)
            (fun y10 =>
              bif y10 then
               (f82 (x5) (x11)
                 (fun y15 =>
                   k0 y15))
              else
               k0 Bool.false))
         else
          k0 Bool.false))
    else
     k0 Bool.false
   else
    k0 Bool.false
  else
   k0 Bool.false) (fun r => match r with | r0 => k (.c (.bool r0), [])) := by
  kernel_rfl
theorem F46_eq (fuel : Nat) (x0 : Int) (x1 : Int) (x2 : Int) (x3 : (List Int)) (x4 : (List Bool)) (x5 : (List Int)) (x6 : Int) (x7 : Int) (x8 : Int) (x9 : (List Int)) (x10 : (List Bool)) (x11 : (List Int)) (k : Ev.Cont) : evalFn tab (G46 fuel) (J46 fuel) kp46 fuel Try.f46 [.agg [.int .i64 x0, .int .i64 x1, .int .i64 x2, .sl (.int .i64) x3, .sl .bool x4, .sl (.int .u8) x5], .agg [.int .i64 x6, .int .i64 x7, .int .i64 x8, .sl (.int .i64) x9, .sl .bool x10, .sl (.int .u8) x11]] [] k = F_segment_Same fuel x0 x1 x2 x3 x4 x5 x6 x7 x8 x9 x10 x11 (fun r => match r with | r0 => k (.c (.bool r0), [])) :=
  F46_eqg fuel (F_slices_Equal_int_int fuel) (F_slices_Equal_bool_bool fuel) (F_bytes_Equal fuel) x0 x1 x2 x3 x4 x5 x6 x7 x8 x9 x10 x11 k
theorem hG46 (fuel : Nat) : GOK Try.prog (G46 fuel) :=
  gok_cons ⟨ok80 fuel, enters_of Try.func80 (by kernel_rfl) rfl⟩ <|
  gok_cons ⟨ok81 fuel, enters_of Try.func81 (by kernel_rfl) rfl⟩ <|
  gok_cons ⟨ok82 fuel, enters_of Try.func82 (by kernel_rfl) rfl⟩ <|
  gok_nil
theorem fok46 (fuel : Nat) : FnOK Try.prog 46 (evalFn tab (G46 fuel) (J46 fuel) kp46 fuel Try.f46) :=
  fn_ok tab_ok (hG46 fuel) mixed Try.func46 (c := (Try.f46.body).getD .skip) rfl (fun q hq => by
    rw [(by kernel_rfl : obl (J46 fuel) ((Try.f46.body).getD .skip) = [])] at hq
    cases hq)
def mt46 : List Ev.SV → List Ev.Ob → Bool := fun args objs => match args, objs with
  | [.agg [.int .i64 _, .int .i64 _, .int .i64 _, .sl (.int .i64) _, .sl .bool _, .sl (.int .u8) _], .agg [.int .i64 _, .int .i64 _, .int .i64 _, .sl (.int .i64) _, .sl .bool _, .sl (.int .u8) _]], [] => true
  | _, _ => false
def spg46 (F : YF46) : Ev.Spec := fun args objs k => match args, objs with
  | [.agg [.int .i64 x0, .int .i64 x1, .int .i64 x2, .sl (.int .i64) x3, .sl .bool x4, .sl (.int .u8) x5], .agg [.int .i64 x6, .int .i64 x7, .int .i64 x8, .sl (.int .i64) x9, .sl .bool x10, .sl (.int .u8) x11]], [] => bif true then F x0 x1 x2 x3 x4 x5 x6 x7 x8 x9 x10 x11 (fun r => match r with | r0 => k (.c (.bool r0), [])) else none
  | _, _ => none
def spec46 (fuel : Nat) : Ev.Spec := spg46 (F_segment_Same fuel)
theorem ok46 (fuel : Nat) : FnOK Try.prog 46 (spec46 fuel) := by
  intro args objs kk r h
  unfold spec46 spg46 at h
  split at h
  · obtain ⟨hb, h⟩ := cond_some' h
    simp only [Bool.and_eq_true, Nat.beq_eq, decide_eq_true_eq] at hb
    clear hb
    exact fok46 fuel _ _ kk r ((F46_eq fuel _ _ _ _ _ _ _ _ _ _ _ _ kk).trans h)
  · cases h
end Go.Proofs.Ytajidgilfkineaa

set_option linter.unusedVariables false
set_option linter.unusedSimpArgs false
set_option maxRecDepth 100000
namespace Go.Proofs.Ytajidgilfkineaa
open Go Ev
def kp121 (i : Nat) : Option (List Nat) := Ev.look i [(6, [0, 1, 2, 9, 10, 11]), (100000, [1, 9, 10]), (400000, [6, 7, 8])]
def Gg121 (f : Nat) : Option Ev.Spec := Ev.look f []
def G121 (fuel : Nat) : Nat → Option Ev.Spec := Gg121
def S_ref12_keeps_0 (fuel : Nat) (v : (List Int) × Int × Int × Int × Int × (List Bool)) (c : ((List Int) × Int × Int × Int × Int × (List Bool)) → Option Ans) (B : (Int × Int × (List Bool) → Option Ans) × (Int × Int × (List Bool) → Option Ans)) : Option Ans := match v, B with
  | (x0, x1, x2, x3, x4, x5), (ret, b) =>
   bif Decidable.decide (x4 < Go.IntKind.i64.wrap ((8 : Int) * x3)) then
      bif Decidable.decide ((0 : Int) ≤ Go.IntKind.i64.wrap (x1 + Go.IntKind.i64.wrap (x4.tdiv (8 : Int))) ∧ Go.IntKind.i64.wrap (x1 + Go.IntKind.i64.wrap (x4.tdiv (8 : Int))) < (↑x0.length : Int)) then
      bif Decidable.decide (x4.tmod (8 : Int) < (0 : Int)) then
        none
       else
        bif Decidable.decide (x4 < x2) then
         bif Decidable.decide ((x5.length + [Decidable.decide (Ev.iand Go.IntKind.u8 (x0.getD (Go.IntKind.i64.wrap (x1 + Go.IntKind.i64.wrap (x4.tdiv (8 : Int)))).toNat (0 : Int)) (Ev.ishr Go.IntKind.u8 (128 : Int) (x4.tmod (8 : Int))) > (0 : Int))].length) * (1 : Nat) ≤ (140737488355328 : Nat) ∧ x5.length + [Decidable.decide (Ev.iand Go.IntKind.u8 (x0.getD (Go.IntKind.i64.wrap (x1 + Go.IntKind.i64.wrap (x4.tdiv (8 : Int)))).toNat (0 : Int)) (Ev.ishr Go.IntKind.u8 (128 : Int) (x4.tmod (8 : Int))) > (0 : Int))].length ≤ (140737488355328 : Nat)) then
         c (x0, x1, x2, x3, Go.IntKind.i64.wrap (x4 + (1 : Int)), x5 ++ [Decidable.decide (Ev.iand Go.IntKind.u8 (x0.getD (Go.IntKind.i64.wrap (x1 + Go.IntKind.i64.wrap (x4.tdiv (8 : Int)))).toNat (0 : Int)) (Ev.ishr Go.IntKind.u8 (128 : Int) (x4.tmod (8 : Int))) > (0 : Int))])
         else none
        else
         bif Decidable.decide (Ev.iand Go.IntKind.u8 (x0.getD (Go.IntKind.i64.wrap (x1 + Go.IntKind.i64.wrap (x4.tdiv (8 : Int)))).toNat (0 : Int)) (Ev.ishr Go.IntKind.u8 (128 : Int) (x4.tmod (8 : Int))) > (0 : Int)) then
          ret ((0 : Int), (3 : Int), [])
         else
          c (x0, x1, x2, x3, Go.IntKind.i64.wrap (x4 + (1 : Int)), x5)
      else none
     else
      b (x1, x3, x5)
def L_ref12_keeps_0 (fuel : Nat) (v : (List Int) × Int × Int × Int × Int × (List Bool)) (ret : (Int × Int × (List Bool) → Option Ans)) (b : (Int × Int × (List Bool) → Option Ans)) : Option Ans := iter (S_ref12_keeps_0 fuel) fuel v (ret, b)
def J121_0 (fuel : Nat) (i : Nat) : Option Ev.Blk := Ev.look i []
def T121_0 (v : (List Int) × Int × Int × Int × Int × (List Bool)) : Ev.St := match v with | (x0, x1, x2, x3, x4, x5) => ⟨[(0, .c (.sl (.int .u8) x0)), (1, .c (.int .i64 x1)), (2, .c (.int .i64 x2)), (9, .c (.int .i64 x3)), (10, .c (.own 0)), (11, .c (.int .i64 x4))], [(0, .vec 4 .bool x5 true)], 1, 0⟩
def E121_0 (K : Ev.Ex → Ev.St → Option Ans) : (Int × Int × (List Bool) → Option Ans) × (Int × Int × (List Bool) → Option Ans) := ((fun v => match v with | (x0, x1, x2) => K .ret ⟨[(6, .c (.own 0)), (7, .c (.int .i64 x0)), (8, .c (.int .i64 x1))], [(0, .vec 4 .bool x2 true)], 1, 0⟩), (fun v => match v with | (x0, x1, x2) => K .normal ⟨[(1, .c (.int .i64 x0)), (9, .c (.int .i64 x1)), (10, .c (.own 0))], [(0, .vec 4 .bool x2 true)], 1, 0⟩))
theorem S121_0_ok (fuel : Nat) (R : Ev.St → Option Ans) (K : Ev.Ex → Ev.St → Option Ans) (x0 : (List Int)) (x1 : Int) (x2 : Int) (x3 : Int) (x4 : Int) (x5 : (List Bool)) : evalCode tab (G121 fuel) (J121_0 fuel) kp121 fuel (bodyOf 0 Try.f121) (T121_0 (x0, x1, x2, x3, x4, x5)) (lc kp121 6 0 R K) = S_ref12_keeps_0 fuel (x0, x1, x2, x3, x4, x5) (fun v => R (T121_0 v)) (E121_0 K) := by
  kernel_rfl
def B121_0 (fuel : Nat) : Ev.Blk := fun st K => match canonO (kp121 6) st with
  | some s => (match s with
    | ⟨[(q0, .c (.sl (.int .u8) x0)), (q1, .c (.int .i64 x1)), (q2, .c (.int .i64 x2)), (q3, .c (.int .i64 x3)), (q4, .c (.own q5)), (q6, .c (.int .i64 x4))], [(q7, .vec q8 .bool x5 true)], q9, q10⟩ => bif Nat.beq q0 0 && Nat.beq q1 1 && Nat.beq q2 2 && Nat.beq q3 9 && Nat.beq q4 10 && Nat.beq q5 0 && Nat.beq q6 11 && Nat.beq q7 0 && Nat.beq q8 4 && Nat.beq q9 1 && Nat.beq q10 0 then iter (S_ref12_keeps_0 fuel) fuel (x0, x1, x2, x3, x4, x5) (E121_0 K) else none
    | _ => none)
  | none => none
theorem B121_0_ok (fuel : Nat) (st : Ev.St) (K : Ev.Ex → Ev.St → Option Ans) (r : Ans) (h : B121_0 fuel st K = some r) : evalCode tab (G121 fuel) (J121_0 fuel) kp121 fuel (.block 0 (.loop (bodyOf 0 Try.f121))) st K = some r := by
  unfold B121_0 at h
  split at h
  · rename_i s hs
    split at h
    · obtain ⟨hb, h⟩ := cond_some' h
      simp only [Bool.and_eq_true, Nat.beq_eq, decide_eq_true_eq] at hb
      obtain ⟨⟨⟨⟨⟨⟨⟨⟨⟨⟨rfl, rfl⟩, rfl⟩, rfl⟩, rfl⟩, rfl⟩, rfl⟩, rfl⟩, rfl⟩, rfl⟩, rfl⟩ := hb
      exact blk_loop (S := T121_0) (ks := E121_0) (step := S_ref12_keeps_0 fuel) (v := (_, _, _, _, _, _)) (by kernel_rfl) (by kernel_rfl) (fun R K v => by obtain ⟨x0, x1, x2, x3, x4, x5⟩ := v; exact S121_0_ok fuel R K x0 x1 x2 x3 x4 x5) hs h
    · cases h
  · cases h
def J121 (fuel : Nat) (i : Nat) : Option Ev.Blk := Ev.look i [(100000, B121_0 fuel)]
def F_ref12_keeps (fuel : Nat) (x0 : (List Int)) (x1 : Int) (x2 : Int) (k0 : (Int × Int × (List Bool)) → Option Ans) : Option Ans :=
  bif Decidable.decide (Go.IntKind.i64.wrap (x1 + Go.IntKind.i64.wrap ((Go.IntKind.i64.wrap (x2 + (7 : Int))).tdiv (8 : Int))) > (↑x0.length : Int)) then
   k0 ((0 : Int), (6 : Int), [])
  else
   (L_ref12_keeps_0 fuel (x0, x1, x2, Go.IntKind.i64.wrap ((Go.IntKind.i64.wrap (x2 + (7 : Int))).tdiv (8 : Int)), (0 : Int), [])
     (fun (ret0_0, ret0_1, ret0_2) =>
       k0 (ret0_0, ret0_1, ret0_2))
     (fun (b0_0, b0_1, b0_2) =>
       k0 (Go.IntKind.i64.wrap (b0_0 + b0_1), (0 : Int), b0_2)))
abbrev YF121 : Type := ((List Int)) → (Int) → (Int) → ((Int × Int × (List Bool)) → Option Ans) → Option Ans
theorem F121_eq (fuel : Nat) (x0 : (List Int)) (x1 : Int) (x2 : Int) (k : Ev.Cont) : evalFn tab (G121 fuel) (J121 fuel) kp121 fuel Try.f121 [.c (.sl (.int .u8) x0), .c (.int .i64 x1), .c (.int .i64 x2)] [] k = F_ref12_keeps fuel x0 x1 x2 (fun r => match r with | (r0, r1, r2) => k (.tup [(false, [.own 0]), (false, [.int .i64 r0]), (false, [.int .i64 r1])], [.vec 4 .bool r2 true])) := by
  kernel_rfl
theorem hG121 (fuel : Nat) : GOK Try.prog (G121 fuel) :=
  gok_nil
theorem B121_0_blk (fuel : Nat) : BlkOK Try.prog Try.f121.ntmps (.block 0 (.loop (bodyOf 0 Try.f121))) (B121_0 fuel) :=
  blk_of (blk_of_code tab_ok (hG121 fuel) mixed (J := J121_0 fuel) (kp := kp121) (fuel := fuel) (by kernel_rfl) (fun q hq => by
    rw [(by kernel_rfl : obl (J121_0 fuel) (.block 0 (.loop (bodyOf 0 Try.f121))) = [])] at hq
    cases hq)) (B121_0_ok fuel)
theorem fok121 (fuel : Nat) : FnOK Try.prog 121 (evalFn tab (G121 fuel) (J121 fuel) kp121 fuel Try.f121) :=
  fn_ok tab_ok (hG121 fuel) mixed Try.func121 (c := (Try.f121.body).getD .skip) rfl (fun q hq => by
    rw [(by kernel_rfl : obl (J121 fuel) ((Try.f121.body).getD .skip) = [(.block 0 (.loop (bodyOf 0 Try.f121)), B121_0 fuel)])] at hq
    simp only [List.mem_cons, List.not_mem_nil, or_false] at hq
    subst hq
    · exact B121_0_blk fuel)
def mt121 : List Ev.SV → List Ev.Ob → Bool := fun args objs => match args, objs with
  | [.c (.sl (.int .u8) _), .c (.int .i64 _), .c (.int .i64 _)], [] => true
  | _, _ => false
def spg121 (F : YF121) : Ev.Spec := fun args objs k => match args, objs with
  | [.c (.sl (.int .u8) x0), .c (.int .i64 x1), .c (.int .i64 x2)], [] => bif true then F x0 x1 x2 (fun r => match r with | (r0, r1, r2) => k (.tup [(false, [.own 0]), (false, [.int .i64 r0]), (false, [.int .i64 r1])], [.vec 4 .bool r2 true])) else none
  | _, _ => none
def spec121 (fuel : Nat) : Ev.Spec := spg121 (F_ref12_keeps fuel)
theorem ok121 (fuel : Nat) : FnOK Try.prog 121 (spec121 fuel) := by
  intro args objs kk r h
  unfold spec121 spg121 at h
  split at h
  · obtain ⟨hb, h⟩ := cond_some' h
    simp only [Bool.and_eq_true, Nat.beq_eq, decide_eq_true_eq] at hb
    clear hb
    exact fok121 fuel _ _ kk r ((F121_eq fuel _ _ _ kk).trans h)
  · cases h
end Go.Proofs.Ytajidgilfkineaa

set_option linter.unusedVariables false
set_option linter.unusedSimpArgs false
set_option maxRecDepth 100000
namespace Go.Proofs.Ytajidgilfkineaa
open Go Ev
def kp127 (i : Nat) : Option (List Nat) := Ev.look i [(5, [0, 1, 7, 8]), (100000, []), (400000, [4, 5, 6])]
def Gg127 (f : Nat) : Option Ev.Spec := Ev.look f []
def G127 (fuel : Nat) : Nat → Option Ev.Spec := Gg127
def S_ref01_GetSize_0 (fuel : Nat) (v : (List Int) × Int × Int × Int) (c : ((List Int) × Int × Int × Int) → Option Ans) (B : (Int × Int × Int → Option Ans) × (Unit → Option Ans)) : Option Ans := match v, B with
  | (x0, x1, x2, x3), (ret, b) =>
   bif Decidable.decide (x3 < (5 : Int)) then
      bif Decidable.decide (Go.IntKind.i64.wrap (x1 + x3) ≥ (↑x0.length : Int)) then
       ret ((0 : Int), (0 : Int), (6 : Int))
      else
       bif Decidable.decide ((0 : Int) ≤ Go.IntKind.i64.wrap (x1 + x3) ∧ Go.IntKind.i64.wrap (x1 + x3) < (↑x0.length : Int)) then
       bif Decidable.decide (Go.IntKind.i64.wrap (x0.getD (Go.IntKind.i64.wrap (x1 + x3)).toNat (0 : Int)) < (128 : Int)) then
         bif Decidable.decide (Go.IntKind.i64.wrap (Go.IntKind.i64.wrap ((128 : Int) * x2) + (Go.IntKind.i64.wrap (x0.getD (Go.IntKind.i64.wrap (x1 + x3)).toNat (0 : Int))).tmod (128 : Int)) > (2147483647 : Int)) then
          ret ((0 : Int), (0 : Int), (3 : Int))
         else
          bif Decidable.decide (x3 > (0 : Int)) then
           bif Decidable.decide ((0 : Int) ≤ x1 ∧ x1 < (↑x0.length : Int)) then
           bif x0.getD x1.toNat (0 : Int) == (128 : Int) then
             ret ((0 : Int), (0 : Int), (3 : Int))
            else
             ret (Go.IntKind.i64.wrap (Go.IntKind.i64.wrap ((128 : Int) * x2) + (Go.IntKind.i64.wrap (x0.getD (Go.IntKind.i64.wrap (x1 + x3)).toNat (0 : Int))).tmod (128 : Int)), Go.IntKind.i64.wrap (Go.IntKind.i64.wrap (x1 + x3) + (1 : Int)), (0 : Int))
           else none
          else
           ret (Go.IntKind.i64.wrap (Go.IntKind.i64.wrap ((128 : Int) * x2) + (Go.IntKind.i64.wrap (x0.getD (Go.IntKind.i64.wrap (x1 + x3)).toNat (0 : Int))).tmod (128 : Int)), Go.IntKind.i64.wrap (Go.IntKind.i64.wrap (x1 + x3) + (1 : Int)), (0 : Int))
        else
         c (x0, x1, Go.IntKind.i64.wrap (Go.IntKind.i64.wrap ((128 : Int) * x2) + (Go.IntKind.i64.wrap (x0.getD (Go.IntKind.i64.wrap (x1 + x3)).toNat (0 : Int))).tmod (128 : Int)), Go.IntKind.i64.wrap (x3 + (1 : Int)))
       else none
     else
      b ()
def L_ref01_GetSize_0 (fuel : Nat) (v : (List Int) × Int × Int × Int) (ret : (Int × Int × Int → Option Ans)) (b : (Unit → Option Ans)) : Option Ans := iter (S_ref01_GetSize_0 fuel) fuel v (ret, b)
def J127_0 (fuel : Nat) (i : Nat) : Option Ev.Blk := Ev.look i []
def T127_0 (v : (List Int) × Int × Int × Int) : Ev.St := match v with | (x0, x1, x2, x3) => ⟨[(0, .c (.sl (.int .u8) x0)), (1, .c (.int .i64 x1)), (7, .c (.int .i64 x2)), (8, .c (.int .i64 x3))], [], 0, 0⟩
def E127_0 (K : Ev.Ex → Ev.St → Option Ans) : (Int × Int × Int → Option Ans) × (Unit → Option Ans) := ((fun v => match v with | (x0, x1, x2) => K .ret ⟨[(4, .c (.int .i64 x0)), (5, .c (.int .i64 x1)), (6, .c (.int .i64 x2))], [], 0, 0⟩), (fun v => match v with | () => K .normal ⟨[], [], 0, 0⟩))
theorem S127_0_ok (fuel : Nat) (R : Ev.St → Option Ans) (K : Ev.Ex → Ev.St → Option Ans) (x0 : (List Int)) (x1 : Int) (x2 : Int) (x3 : Int) : evalCode tab (G127 fuel) (J127_0 fuel) kp127 fuel (bodyOf 0 Try.f127) (T127_0 (x0, x1, x2, x3)) (lc kp127 5 0 R K) = S_ref01_GetSize_0 fuel (x0, x1, x2, x3) (fun v => R (T127_0 v)) (E127_0 K) := by
  kernel_rfl
def B127_0 (fuel : Nat) : Ev.Blk := fun st K => match canonO (kp127 5) st with
  | some s => (match s with
    | ⟨[(q0, .c (.sl (.int .u8) x0)), (q1, .c (.int .i64 x1)), (q2, .c (.int .i64 x2)), (q3, .c (.int .i64 x3))], [], q4, q5⟩ => bif Nat.beq q0 0 && Nat.beq q1 1 && Nat.beq q2 7 && Nat.beq q3 8 && Nat.beq q4 0 && Nat.beq q5 0 then iter (S_ref01_GetSize_0 fuel) fuel (x0, x1, x2, x3) (E127_0 K) else none
    | _ => none)
  | none => none
theorem B127_0_ok (fuel : Nat) (st : Ev.St) (K : Ev.Ex → Ev.St → Option Ans) (r : Ans) (h : B127_0 fuel st K = some r) : evalCode tab (G127 fuel) (J127_0 fuel) kp127 fuel (.block 0 (.loop (bodyOf 0 Try.f127))) st K = some r := by
  unfold B127_0 at h
  split at h
  · rename_i s hs
    split at h
    · obtain ⟨hb, h⟩ := cond_some' h
      simp only [Bool.and_eq_true, Nat.beq_eq, decide_eq_true_eq] at hb
      obtain ⟨⟨⟨⟨⟨rfl, rfl⟩, rfl⟩, rfl⟩, rfl⟩, rfl⟩ := hb
      exact blk_loop (S := T127_0) (ks := E127_0) (step := S_ref01_GetSize_0 fuel) (v := (_, _, _, _)) (by kernel_rfl) (by kernel_rfl) (fun R K v => by obtain ⟨x0, x1, x2, x3⟩ := v; exact S127_0_ok fuel R K x0 x1 x2 x3) hs h
    · cases h
  · cases h
def J127 (fuel : Nat) (i : Nat) : Option Ev.Blk := Ev.look i [(100000, B127_0 fuel)]
def F_ref01_GetSize (fuel : Nat) (x0 : (List Int)) (x1 : Int) (k0 : (Int × Int × Int) → Option Ans) : Option Ans :=
  bif Decidable.decide (x1 < (0 : Int)) then
   k0 ((0 : Int), (0 : Int), (2 : Int))
  else
   bif Decidable.decide (x1 > (↑x0.length : Int)) then
    k0 ((0 : Int), (0 : Int), (2 : Int))
   else
    (L_ref01_GetSize_0 fuel (x0, x1, (0 : Int), (0 : Int))
      (fun (ret0_0, ret0_1, ret0_2) =>
        k0 (ret0_0, ret0_1, ret0_2))
      (fun () =>
        k0 ((0 : Int), (0 : Int), (3 : Int))))
abbrev YF127 : Type := ((List Int)) → (Int) → ((Int × Int × Int) → Option Ans) → Option Ans
theorem F127_eq (fuel : Nat) (x0 : (List Int)) (x1 : Int) (k : Ev.Cont) : evalFn tab (G127 fuel) (J127 fuel) kp127 fuel Try.f127 [.c (.sl (.int .u8) x0), .c (.int .i64 x1)] [] k = F_ref01_GetSize fuel x0 x1 (fun r => match r with | (r0, r1, r2) => k (.tup [(false, [.int .i64 r0]), (false, [.int .i64 r1]), (false, [.int .i64 r2])], [])) := by
  kernel_rfl
theorem hG127 (fuel : Nat) : GOK Try.prog (G127 fuel) :=
  gok_nil
theorem B127_0_blk (fuel : Nat) : BlkOK Try.prog Try.f127.ntmps (.block 0 (.loop (bodyOf 0 Try.f127))) (B127_0 fuel) :=
  blk_of (blk_of_code tab_ok (hG127 fuel) mixed (J := J127_0 fuel) (kp := kp127) (fuel := fuel) (by kernel_rfl) (fun q hq => by
    rw [(by kernel_rfl : obl (J127_0 fuel) (.block 0 (.loop (bodyOf 0 Try.f127))) = [])] at hq
    cases hq)) (B127_0_ok fuel)
theorem fok127 (fuel : Nat) : FnOK Try.prog 127 (evalFn tab (G127 fuel) (J127 fuel) kp127 fuel Try.f127) :=
  fn_ok tab_ok (hG127 fuel) mixed Try.func127 (c := (Try.f127.body).getD .skip) rfl (fun q hq => by
    rw [(by kernel_rfl : obl (J127 fuel) ((Try.f127.body).getD .skip) = [(.block 0 (.loop (bodyOf 0 Try.f127)), B127_0 fuel)])] at hq
    simp only [List.mem_cons, List.not_mem_nil, or_false] at hq
    subst hq
    · exact B127_0_blk fuel)
def mt127 : List Ev.SV → List Ev.Ob → Bool := fun args objs => match args, objs with
  | [.c (.sl (.int .u8) _), .c (.int .i64 _)], [] => true
  | _, _ => false
def spg127 (F : YF127) : Ev.Spec := fun args objs k => match args, objs with
  | [.c (.sl (.int .u8) x0), .c (.int .i64 x1)], [] => bif true then F x0 x1 (fun r => match r with | (r0, r1, r2) => k (.tup [(false, [.int .i64 r0]), (false, [.int .i64 r1]), (false, [.int .i64 r2])], [])) else none
  | _, _ => none
def spec127 (fuel : Nat) : Ev.Spec := spg127 (F_ref01_GetSize fuel)
theorem ok127 (fuel : Nat) : FnOK Try.prog 127 (spec127 fuel) := by
  intro args objs kk r h
  unfold spec127 spg127 at h
  split at h
  · obtain ⟨hb, h⟩ := cond_some' h
    simp only [Bool.and_eq_true, Nat.beq_eq, decide_eq_true_eq] at hb
    clear hb
    exact fok127 fuel _ _ kk r ((F127_eq fuel _ _ kk).trans h)
  · cases h
end Go.Proofs.Ytajidgilfkineaa

set_option linter.unusedVariables false
set_option linter.unusedSimpArgs false
set_option maxRecDepth 100000
namespace Go.Proofs.Ytajidgilfkineaa
open Go Ev
def kp119 (i : Nat) : Option (List Nat) := Ev.look i []
def Gg119 (f127 : YF127) (f : Nat) : Option Ev.Spec := Ev.look f [(127, spg127 f127)]
def G119 (fuel : Nat) : Nat → Option Ev.Spec := Gg119 (F_ref01_GetSize fuel)
def J119 (fuel : Nat) (i : Nat) : Option Ev.Blk := Ev.look i []
def F_ref12_number (fuel : Nat) (x0 : (List Int)) (x1 : Int) (x2 : Int) (k0 : (Int × Int × Int) → Option Ans) : Option Ans :=
  (F_ref01_GetSize fuel (x0) (x1)
    (fun (y2_0, y2_1, y2_2) =>
      bif y2_2 == (0 : Int) then
       bif Decidable.decide (y2_0 > x2) then
        k0 (y2_0, y2_1, (3 : Int))
       else
        k0 (y2_0, y2_1, y2_2)
      else
       k0 (y2_0, y2_1, y2_2)))
abbrev YF119 : Type := ((List Int)) → (Int) → (Int) → ((Int × Int × Int) → Option Ans) → Option Ans
theorem F119_eqg (fuel : Nat) (f127 : YF127) (x0 : (List Int)) (x1 : Int) (x2 : Int) (k : Ev.Cont) : evalFn tab (Gg119 f127) (J119 fuel) kp119 fuel Try.f119 [.c (.sl (.int .u8) x0), .c (.int .i64 x1), .c (.int .i64 x2)] [] k = (fun  (k0 : (Int × Int × Int) → Option Ans) =>
  (f127 (x0) (x1)
    (fun (y2_0, y2_1, y2_2) =>
      bif y2_2 == (0 : Int) then
       bif Decidable.decide (y2_0 > x2) then
        k0 (y2_0, y2_1, (3 : Int))
       else
        k0 (y2_0, y2_1, y2_2)
      else
       k0 (y2_0, y2_1, y2_2)))) (fun r => match r with | (r0, r1, r2) => k (.tup [(false, [.int .i64 r0]), (false, [.int .i64 r1]), (false, [.int .i64 r2])], [])) := by
  kernel_rfl
theorem F119_eq (fuel : Nat) (x0 : (List Int)) (x1 : Int) (x2 : Int) (k : Ev.Cont) : evalFn tab (G119 fuel) (J119 fuel) kp119 fuel Try.f119 [.c (.sl (.int .u8) x0), .c (.int .i64 x1), .c (.int .i64 x2)] [] k = F_ref12_number fuel x0 x1 x2 (fun r => match r with | (r0, r1, r2) => k (.tup [(false, [.int .i64 r0]), (false, [.int .i64 r1]), (false, [.int .i64 r2])], [])) :=
  F119_eqg fuel (F_ref01_GetSize fuel) x0 x1 x2 k
theorem hG119 (fuel : Nat) : GOK Try.prog (G119 fuel) :=
  gok_cons ⟨ok127 fuel, enters_of Try.func127 (by kernel_rfl) rfl⟩ <|
  gok_nil
theorem fok119 (fuel : Nat) : FnOK Try.prog 119 (evalFn tab (G119 fuel) (J119 fuel) kp119 fuel Try.f119) :=
  fn_ok tab_ok (hG119 fuel) mixed Try.func119 (c := (Try.f119.body).getD .skip) rfl (fun q hq => by
    rw [(by kernel_rfl : obl (J119 fuel) ((Try.f119.body).getD .skip) = [])] at hq
    cases hq)
def mt119 : List Ev.SV → List Ev.Ob → Bool := fun args objs => match args, objs with
  | [.c (.sl (.int .u8) _), .c (.int .i64 _), .c (.int .i64 _)], [] => true
  | _, _ => false
def spg119 (F : YF119) : Ev.Spec := fun args objs k => match args, objs with
  | [.c (.sl (.int .u8) x0), .c (.int .i64 x1), .c (.int .i64 x2)], [] => bif true then F x0 x1 x2 (fun r => match r with | (r0, r1, r2) => k (.tup [(false, [.int .i64 r0]), (false, [.int .i64 r1]), (false, [.int .i64 r2])], [])) else none
  | _, _ => none
def spec119 (fuel : Nat) : Ev.Spec := spg119 (F_ref12_number fuel)
theorem ok119 (fuel : Nat) : FnOK Try.prog 119 (spec119 fuel) := by
  intro args objs kk r h
  unfold spec119 spg119 at h
  split at h
  · obtain ⟨hb, h⟩ := cond_some' h
    simp only [Bool.and_eq_true, Nat.beq_eq, decide_eq_true_eq] at hb
    clear hb
    exact fok119 fuel _ _ kk r ((F119_eq fuel _ _ _ kk).trans h)
  · cases h
end Go.Proofs.Ytajidgilfkineaa

set_option linter.unusedVariables false
set_option linter.unusedSimpArgs false
set_option maxRecDepth 100000
namespace Go.Proofs.Ytajidgilfkineaa
open Go Ev
def kp120 (i : Nat) : Option (List Nat) := Ev.look i [(9, [0, 1, 2, 9, 11, 12, 13]), (100000, [1, 11]), (400000, [6, 7, 8])]
def Gg120 (f119 : YF119) (f : Nat) : Option Ev.Spec := Ev.look f [(119, spg119 f119)]
def G120 (fuel : Nat) : Nat → Option Ev.Spec := Gg120 (F_ref12_number fuel)
def S_ref12_refs_0 (fuel : Nat) (v : (List Int) × Int × Int × Int × Int × Int × (List Int)) (c : ((List Int) × Int × Int × Int × Int × Int × (List Int)) → Option Ans) (B : (Int × Int × (List Int) → Option Ans) × (Int × (List Int) → Option Ans)) : Option Ans := match v, B with
  | (x0, x1, x2, x3, x4, x5, x6), (ret, b) =>
   bif Decidable.decide (x5 < x3) then
      (F_ref12_number fuel (x0) (x1) (x2)
        (fun (y3_0, y3_1, y3_2) =>
          bif y3_2 != (0 : Int) then
           ret ((0 : Int), y3_2, [])
          else
           bif y3_0 == (0 : Int) then
            ret ((0 : Int), (3 : Int), [])
           else
            bif Decidable.decide (y3_0 ≥ x4) then
             ret ((0 : Int), (3 : Int), [])
            else
             bif Decidable.decide ((x6.length + [Go.IntKind.i64.wrap (x2 - y3_0)].length) * (8 : Nat) ≤ (140737488355328 : Nat) ∧ x6.length + [Go.IntKind.i64.wrap (x2 - y3_0)].length ≤ (140737488355328 : Nat)) then
             c (x0, y3_1, x2, x3, y3_0, Go.IntKind.i64.wrap (x5 + (1 : Int)), x6 ++ [Go.IntKind.i64.wrap (x2 - y3_0)])
             else none))
     else
      b (x1, x6)
def L_ref12_refs_0 (fuel : Nat) (v : (List Int) × Int × Int × Int × Int × Int × (List Int)) (ret : (Int × Int × (List Int) → Option Ans)) (b : (Int × (List Int) → Option Ans)) : Option Ans := iter (S_ref12_refs_0 fuel) fuel v (ret, b)
def J120_0 (fuel : Nat) (i : Nat) : Option Ev.Blk := Ev.look i []
def T120_0 (v : (List Int) × Int × Int × Int × Int × Int × (List Int)) : Ev.St := match v with | (x0, x1, x2, x3, x4, x5, x6) => ⟨[(0, .c (.sl (.int .u8) x0)), (1, .c (.int .i64 x1)), (2, .c (.int .i64 x2)), (9, .c (.int .i64 x3)), (11, .c (.own 0)), (12, .c (.int .i64 x4)), (13, .c (.int .i64 x5))], [(0, .vec 3 (.int .i64) x6 true)], 1, 0⟩
def E120_0 (K : Ev.Ex → Ev.St → Option Ans) : (Int × Int × (List Int) → Option Ans) × (Int × (List Int) → Option Ans) := ((fun v => match v with | (x0, x1, x2) => K .ret ⟨[(6, .c (.own 0)), (7, .c (.int .i64 x0)), (8, .c (.int .i64 x1))], [(0, .vec 3 (.int .i64) x2 true)], 1, 0⟩), (fun v => match v with | (x0, x1) => K .normal ⟨[(1, .c (.int .i64 x0)), (11, .c (.own 0))], [(0, .vec 3 (.int .i64) x1 true)], 1, 0⟩))
theorem S120_0_okg (fuel : Nat) (f119 : YF119) (R : Ev.St → Option Ans) (K : Ev.Ex → Ev.St → Option Ans) (x0 : (List Int)) (x1 : Int) (x2 : Int) (x3 : Int) (x4 : Int) (x5 : Int) (x6 : (List Int)) : evalCode tab (Gg120 f119) (J120_0 fuel) kp120 fuel (bodyOf 0 Try.f120) (T120_0 (x0, x1, x2, x3, x4, x5, x6)) (lc kp120 9 0 R K) = (fun (c : ((List Int) × Int × Int × Int × Int × Int × (List Int)) → Option Ans) (B : (Int × Int × (List Int) → Option Ans) × (Int × (List Int) → Option Ans)) => match B with
  | (ret, b) =>
   bif Decidable.decide (x5 < x3) then
      (f119 (x0) (x1) (x2)
        (fun (y3_0, y3_1, y3_2) =>
          bif y3_2 != (0 : Int) then
           ret ((0 : Int), y3_2, [])
          else
           bif y3_0 == (0 : Int) then
            ret ((0 : Int), (3 : Int), [])
           else
            bif Decidable.decide (y3_0 ≥ x4) then
             ret ((0 : Int), (3 : Int), [])
            else
             bif Decidable.decide ((x6.length + [Go.IntKind.i64.wrap (x2 - y3_0)].length) * (8 : Nat) ≤ (140737488355328 : Nat) ∧ x6.length + [Go.IntKind.i64.wrap (x2 - y3_0)].length ≤ (140737488355328 : Nat)) then
             c (x0, y3_1, x2, x3, y3_0, Go.IntKind.i64.wrap (x5 + (1 : Int)), x6 ++ [Go.IntKind.i64.wrap (x2 - y3_0)])
             else none))
     else
      b (x1, x6)) (fun v => R (T120_0 v)) (E120_0 K) := by
  kernel_rfl
theorem S120_0_ok (fuel : Nat) (R : Ev.St → Option Ans) (K : Ev.Ex → Ev.St → Option Ans) (x0 : (List Int)) (x1 : Int) (x2 : Int) (x3 : Int) (x4 : Int) (x5 : Int) (x6 : (List Int)) : evalCode tab (G120 fuel) (J120_0 fuel) kp120 fuel (bodyOf 0 Try.f120) (T120_0 (x0, x1, x2, x3, x4, x5, x6)) (lc kp120 9 0 R K) = S_ref12_refs_0 fuel (x0, x1, x2, x3, x4, x5, x6) (fun v => R (T120_0 v)) (E120_0 K) :=
  S120_0_okg fuel (F_ref12_number fuel) R K x0 x1 x2 x3 x4 x5 x6
def B120_0 (fuel : Nat) : Ev.Blk := fun st K => match canonO (kp120 9) st with
  | some s => (match s with
    | ⟨[(q0, .c (.sl (.int .u8) x0)), (q1, .c (.int .i64 x1)), (q2, .c (.int .i64 x2)), (q3, .c (.int .i64 x3)), (q4, .c (.own q5)), (q6, .c (.int .i64 x4)), (q7, .c (.int .i64 x5))], [(q8, .vec q9 (.int .i64) x6 true)], q10, q11⟩ => bif Nat.beq q0 0 && Nat.beq q1 1 && Nat.beq q2 2 && Nat.beq q3 9 && Nat.beq q4 11 && Nat.beq q5 0 && Nat.beq q6 12 && Nat.beq q7 13 && Nat.beq q8 0 && Nat.beq q9 3 && Nat.beq q10 1 && Nat.beq q11 0 then iter (S_ref12_refs_0 fuel) fuel (x0, x1, x2, x3, x4, x5, x6) (E120_0 K) else none
    | _ => none)
  | none => none
theorem B120_0_ok (fuel : Nat) (st : Ev.St) (K : Ev.Ex → Ev.St → Option Ans) (r : Ans) (h : B120_0 fuel st K = some r) : evalCode tab (G120 fuel) (J120_0 fuel) kp120 fuel (.block 0 (.loop (bodyOf 0 Try.f120))) st K = some r := by
  unfold B120_0 at h
  split at h
  · rename_i s hs
    split at h
    · obtain ⟨hb, h⟩ := cond_some' h
      simp only [Bool.and_eq_true, Nat.beq_eq, decide_eq_true_eq] at hb
      obtain ⟨⟨⟨⟨⟨⟨⟨⟨⟨⟨⟨rfl, rfl⟩, rfl⟩, rfl⟩, rfl⟩, rfl⟩, rfl⟩, rfl⟩, rfl⟩, rfl⟩, rfl⟩, rfl⟩ := hb
      exact blk_loop (S := T120_0) (ks := E120_0) (step := S_ref12_refs_0 fuel) (v := (_, _, _, _, _, _, _)) (by kernel_rfl) (by kernel_rfl) (fun R K v => by obtain ⟨x0, x1, x2, x3, x4, x5, x6⟩ := v; exact S120_0_ok fuel R K x0 x1 x2 x3 x4 x5 x6) hs h
    · cases h
  · cases h
def J120 (fuel : Nat) (i : Nat) : Option Ev.Blk := Ev.look i [(100000, B120_0 fuel)]
def F_ref12_refs (fuel : Nat) (x0 : (List Int)) (x1 : Int) (x2 : Int) (k0 : (Int × Int × (List Int)) → Option Ans) : Option Ans :=
  (F_ref12_number fuel (x0) (x1) ((20 : Int))
    (fun (y2_0, y2_1, y2_2) =>
      bif y2_2 != (0 : Int) then
       k0 ((0 : Int), y2_2, [])
      else
       bif y2_0 == (0 : Int) then
        k0 ((0 : Int), (3 : Int), [])
       else
        (L_ref12_refs_0 fuel (x0, y2_1, x2, y2_0, Go.IntKind.i64.wrap (x2 + (1 : Int)), (0 : Int), [])
          (fun (ret0_0, ret0_1, ret0_2) =>
            k0 (ret0_0, ret0_1, ret0_2))
          (fun (b0_0, b0_1) =>
            k0 (b0_0, (0 : Int), b0_1)))))
abbrev YF120 : Type := ((List Int)) → (Int) → (Int) → ((Int × Int × (List Int)) → Option Ans) → Option Ans
theorem F120_eqg (fuel : Nat) (f119 : YF119) (x0 : (List Int)) (x1 : Int) (x2 : Int) (k : Ev.Cont) : evalFn tab (Gg120 f119) (J120 fuel) kp120 fuel Try.f120 [.c (.sl (.int .u8) x0), .c (.int .i64 x1), .c (.int .i64 x2)] [] k = (fun  (k0 : (Int × Int × (List Int)) → Option Ans) =>
  (f119 (x0) (x1) ((20 : Int))
    (fun (y2_0, y2_1, y2_2) =>
      bif y2_2 != (0 : Int) then
       k0 ((0 : Int), y2_2, [])
      else
       bif y2_0 == (0 : Int) then
        k0 ((0 : Int), (3 : Int), [])
       else
        (L_ref12_refs_0 fuel (x0, y2_1, x2, y2_0, Go.IntKind.i64.wrap (x2 + (1 : Int)), (0 : Int), [])
          (fun (ret0_0, ret0_1, ret0_2) =>
            k0 (ret0_0, ret0_1, ret0_2))
          (fun (b0_0, b0_1) =>
            k0 (b0_0, (0 : Int), b0_1)))))) (fun r => match r with | (r0, r1, r2) => k (.tup [(false, [.own 0]), (false, [.int .i64 r0]), (false, [.int .i64 r1])], [.vec 3 (.int .i64) r2 true])) := by
  kernel_rfl
theorem F120_eq (fuel : Nat) (x0 : (List Int)) (x1 : Int) (x2 : Int) (k : Ev.Cont) : evalFn tab (G120 fuel) (J120 fuel) kp120 fuel Try.f120 [.c (.sl (.int .u8) x0), .c (.int .i64 x1), .c (.int .i64 x2)] [] k = F_ref12_refs fuel x0 x1 x2 (fun r => match r with | (r0, r1, r2) => k (.tup [(false, [.own 0]), (false, [.int .i64 r0]), (false, [.int .i64 r1])], [.vec 3 (.int .i64) r2 true])) :=
  F120_eqg fuel (F_ref12_number fuel) x0 x1 x2 k
theorem hG120 (fuel : Nat) : GOK Try.prog (G120 fuel) :=
  gok_cons ⟨ok119 fuel, enters_of Try.func119 (by kernel_rfl) rfl⟩ <|
  gok_nil
theorem B120_0_blk (fuel : Nat) : BlkOK Try.prog Try.f120.ntmps (.block 0 (.loop (bodyOf 0 Try.f120))) (B120_0 fuel) :=
  blk_of (blk_of_code tab_ok (hG120 fuel) mixed (J := J120_0 fuel) (kp := kp120) (fuel := fuel) (by kernel_rfl) (fun q hq => by
    rw [(by kernel_rfl : obl (J120_0 fuel) (.block 0 (.loop (bodyOf 0 Try.f120))) = [])] at hq
    cases hq)) (B120_0_ok fuel)
theorem fok120 (fuel : Nat) : FnOK Try.prog 120 (evalFn tab (G120 fuel) (J120 fuel) kp120 fuel Try.f120) :=
  fn_ok tab_ok (hG120 fuel) mixed Try.func120 (c := (Try.f120.body).getD .skip) rfl (fun q hq => by
    rw [(by kernel_rfl : obl (J120 fuel) ((Try.f120.body).getD .skip) = [(.block 0 (.loop (bodyOf 0 Try.f120)), B120_0 fuel)])] at hq
    simp only [List.mem_cons, List.not_mem_nil, or_false] at hq
    subst hq
    · exact B120_0_blk fuel)
def mt120 : List Ev.SV → List Ev.Ob → Bool := fun args objs => match args, objs with
  | [.c (.sl (.int .u8) _), .c (.int .i64 _), .c (.int .i64 _)], [] => true
  | _, _ => false
def spg120 (F : YF120) : Ev.Spec := fun args objs k => match args, objs with
  | [.c (.sl (.int .u8) x0), .c (.int .i64 x1), .c (.int .i64 x2)], [] => bif true then F x0 x1 x2 (fun r => match r with | (r0, r1, r2) => k (.tup [(false, [.own 0]), (false, [.int .i64 r0]), (false, [.int .i64 r1])], [.vec 3 (.int .i64) r2 true])) else none
  | _, _ => none
def spec120 (fuel : Nat) : Ev.Spec := spg120 (F_ref12_refs fuel)
theorem ok120 (fuel : Nat) : FnOK Try.prog 120 (spec120 fuel) := by
  intro args objs kk r h
  unfold spec120 spg120 at h
  split at h
  · obtain ⟨hb, h⟩ := cond_some' h
    simp only [Bool.and_eq_true, Nat.beq_eq, decide_eq_true_eq] at hb
    clear hb
    exact fok120 fuel _ _ kk r ((F120_eq fuel _ _ _ kk).trans h)
  · cases h
end Go.Proofs.Ytajidgilfkineaa

set_option linter.unusedVariables false
set_option linter.unusedSimpArgs false
set_option maxRecDepth 100000
namespace Go.Proofs.Ytajidgilfkineaa
open Go Ev
def kp92 (i : Nat) : Option (List Nat) := Ev.look i []
def Gg92 (f119 : YF119) (f120 : YF120) (f121 : YF121) (f : Nat) : Option Ev.Spec := Ev.look f [(119, spg119 f119), (120, spg120 f120), (121, spg121 f121)]
def G92 (fuel : Nat) : Nat → Option Ev.Spec := Gg92 (F_ref12_number fuel) (F_ref12_refs fuel) (F_ref12_keeps fuel)
def J92 (fuel : Nat) (i : Nat) : Option Ev.Blk := Ev.look i []
def F_ref12_header (fuel : Nat) (x0 : (List Int)) (x1 : Int) (k0 : (Int × Int × Int × Int × Int × Int × (List Int) × (List Bool) × (List Int)) → Option Ans) : Option Ans :=
  (F_ref12_number fuel (x0) (x1) ((10000 : Int))
    (fun (y2_0, y2_1, y2_2) =>
      bif y2_2 != (0 : Int) then
       k0 (y2_0, (0 : Int), (0 : Int), (0 : Int), (0 : Int), y2_2, [], [], [])
      else
       bif Decidable.decide (y2_1 ≥ (↑x0.length : Int)) then
        k0 (y2_0, (0 : Int), (0 : Int), (0 : Int), (0 : Int), (6 : Int), [], [], [])
       else
        bif Decidable.decide ((0 : Int) ≤ y2_1 ∧ y2_1 < (↑x0.length : Int)) then
        bif Decidable.decide (Go.IntKind.i64.wrap (x0.getD y2_1.toNat (0 : Int)) > (31 : Int)) then
          k0 (y2_0, (0 : Int), (0 : Int), (0 : Int), (0 : Int), (3 : Int), [], [], [])
         else
          bif Decidable.decide (Go.IntKind.i64.wrap (x0.getD y2_1.toNat (0 : Int)) ≥ (16 : Int)) then
           (F_ref12_refs fuel (x0) (Go.IntKind.i64.wrap (y2_1 + (1 : Int))) (y2_0)
             (fun (y11_0, y11_1, y11_2) =>
               bif y11_1 != (0 : Int) then
                k0 (y2_0, (Go.IntKind.i64.wrap (x0.getD y2_1.toNat (0 : Int))).tmod (16 : Int), (0 : Int), (0 : Int), (0 : Int), y11_1, y11_2, [], [])
               else
                (F_ref12_keeps fuel (x0) (y11_0) (Go.IntKind.i64.wrap ((↑y11_2.length : Int) + (1 : Int)))
                  (fun (y16_0, y16_1, y16_2) =>
                    bif y16_1 != (0 : Int) then
                     k0 (y2_0, (Go.IntKind.i64.wrap (x0.getD y2_1.toNat (0 : Int))).tmod (16 : Int), (0 : Int), (0 : Int), (0 : Int), y16_1, y11_2, y16_2, [])
                    else
                     (F_ref12_number fuel (x0) (y16_0) ((1000 : Int))
                       (fun (y21_0, y21_1, y21_2) =>
                         bif y21_2 != (0 : Int) then
                          k0 (y2_0, (Go.IntKind.i64.wrap (x0.getD y2_1.toNat (0 : Int))).tmod (16 : Int), y21_0, (0 : Int), (0 : Int), y21_2, y11_2, y16_2, [])
                         else
                          (F_ref12_number fuel (x0) (y21_1) ((20000 : Int))
                            (fun (y26_0, y26_1, y26_2) =>
                              k0 (y2_0, (Go.IntKind.i64.wrap (x0.getD y2_1.toNat (0 : Int))).tmod (16 : Int), y21_0, y26_0, y26_1, y26_2, y11_2, y16_2, [])))))))))
          else
           (F_ref12_keeps fuel (x0) (Go.IntKind.i64.wrap (y2_1 + (1 : Int))) (Go.IntKind.i64.wrap ((↑(0 : Nat) : Int) + (1 : Int)))
             (fun (y11_0, y11_1, y11_2) =>
               bif y11_1 != (0 : Int) then
                k0 (y2_0, (Go.IntKind.i64.wrap (x0.getD y2_1.toNat (0 : Int))).tmod (16 : Int), (0 : Int), (0 : Int), (0 : Int), y11_1, [], y11_2, [])
               else
                (F_ref12_number fuel (x0) (y11_0) ((1000 : Int))
                  (fun (y16_0, y16_1, y16_2) =>
                    bif y16_2 != (0 : Int) then
                     k0 (y2_0, (Go.IntKind.i64.wrap (x0.getD y2_1.toNat (0 : Int))).tmod (16 : Int), y16_0, (0 : Int), (0 : Int), y16_2, [], y11_2, [])
                    else
                     (F_ref12_number fuel (x0) (y16_1) ((20000 : Int))
                       (fun (y21_0, y21_1, y21_2) =>
                         k0 (y2_0, (Go.IntKind.i64.wrap (x0.getD y2_1.toNat (0 : Int))).tmod (16 : Int), y16_0, y21_0, y21_1, y21_2, [], y11_2, [])))))))
        else none))
abbrev YF92 : Type := ((List Int)) → (Int) → ((Int × Int × Int × Int × Int × Int × (List Int) × (List Bool) × (List Int)) → Option Ans) → Option Ans
theorem F92_eqg (fuel : Nat) (f119 : YF119) (f120 : YF120) (f121 : YF121) (x0 : (List Int)) (x1 : Int) (k : Ev.Cont) : evalFn tab (Gg92 f119 f120 f121) (J92 fuel) kp92 fuel Try.f92 [.c (.sl (.int .u8) x0), .c (.int .i64 x1)] [] k = (fun  (k0 : (Int × Int × Int × Int × Int × Int × (List Int) × (List Bool) × (List Int)) → Option Ans) =>
  (f119 (x0) (x1) ((10000 : Int))
    (fun (y2_0, y2_1, y2_2) =>
      bif y2_2 != (0 : Int) then
       k0 (y2_0, (0 : Int), (0 : Int), (0 : Int), (0 : Int), y2_2, [], [], [])
      else
       bif Decidable.decide (y2_1 ≥ (↑x0.length : Int)) then
        k0 (y2_0, (0 : Int), (0 : Int), (0 : Int), (0 : Int), (6 : Int), [], [], [])
       else
        bif Decidable.decide ((0 : Int) ≤ y2_1 ∧ y2_1 < (↑x0.length : Int)) then
        bif Decidable.decide (Go.IntKind.i64.wrap (x0.getD y2_1.toNat (0 : Int)) > (31 : Int)) then
          k0 (y2_0, (0 : Int), (0 : Int), (0 : Int), (0 : Int), (3 : Int), [], [], [])
         else
          bif Decidable.decide (Go.IntKind.i64.wrap (x0.getD y2_1.toNat (0 : Int)) ≥ (16 : Int)) then
           (f120 (x0) (Go.IntKind.i64.wrap (y2_1 + (1 : Int))) (y2_0)
             (fun (y11_0, y11_1, y11_2) =>
               bif y11_1 != (0 : Int) then
                k0 (y2_0, (Go.IntKind.i64.wrap (x0.getD y2_1.toNat (0 : Int))).tmod (16 : Int), (0 : Int), (0 : Int), (0 : Int), y11_1, y11_2, [], [])
               else
                (f121 (x0) (y11_0) (Go.IntKind.i64.wrap ((↑y11_2.length : Int) + (1 : Int)))
                  (fun (y16_0, y16_1, y16_2) =>
                    bif y16_1 != (0 : Int) then
                     k0 (y2_0, (Go.IntKind.i64.wrap (x0.getD y2_1.toNat (0 : Int))).tmod (16 : Int), (0 : Int), (0 : Int), (0 : Int), y16_1, y11_2, y16_2, [])
                    else
                     (f119 (x0) (y16_0) ((1000 : Int))
                       (fun (y21_0, y21_1, y21_2) =>
                         bif y21_2 != (0 : Int) then
                          k0 (y2_0, (Go.IntKind.i64.wrap (x0.getD y2_1.toNat (0 : Int))).tmod (16 : Int), y21_0, (0 : Int), (0 : Int), y21_2, y11_2, y16_2, [])
                         else
                          (f119 (x0) (y21_1) ((20000 : Int))
                            (fun (y26_0, y26_1, y26_2) =>
                              k0 (y2_0, (Go.IntKind.i64.wrap (x0.getD y2_1.toNat (0 : Int))).tmod (16 : Int), y21_0, y26_0, y26_1, y26_2, y11_2, y16_2, [])))))))))
          else
           (f121 (x0) (Go.IntKind.i64.wrap (y2_1 + (1 : Int))) (Go.IntKind.i64.wrap ((↑(0 : Nat) : Int) + (1 : Int)))
             (fun (y11_0, y11_1, y11_2) =>
               bif y11_1 != (0 : Int) then
                k0 (y2_0, (Go.IntKind.i64.wrap (x0.getD y2_1.toNat (0 : Int))).tmod (16 : Int), (0 : Int), (0 : Int), (0 : Int), y11_1, [], y11_2, [])
               else
                (f119 (x0) (y11_0) ((1000 : Int))
                  (fun (y16_0, y16_1, y16_2) =>
                    bif y16_2 != (0 : Int) then
                     k0 (y2_0, (Go.IntKind.i64.wrap (x0.getD y2_1.toNat (0 : Int))).tmod (16 : Int), y16_0, (0 : Int), (0 : Int), y16_2, [], y11_2, [])
                    else
                     (f119 (x0) (y16_1) ((20000 : Int))
                       (fun (y21_0, y21_1, y21_2) =>
                         k0 (y2_0, (Go.IntKind.i64.wrap (x0.getD y2_1.toNat (0 : Int))).tmod (16 : Int), y16_0, y21_0, y21_1, y21_2, [], y11_2, [])))))))
        else none))) (fun r => match r with | (r0, r1, r2, r3, r4, r5, r6, r7, r8) => k (.tup [(true, [.int .i64 r0, .int .i64 r1, .int .i64 r2, .own 0, .own 1, .own 2]), (false, [.int .i64 r3]), (false, [.int .i64 r4]), (false, [.int .i64 r5])], [.vec 3 (.int .i64) r6 true, .vec 4 .bool r7 true, .vec 5 (.int .u8) r8 true])) := by
  kernel_rfl
theorem F92_eq (fuel : Nat) (x0 : (List Int)) (x1 : Int) (k : Ev.Cont) : evalFn tab (G92 fuel) (J92 fuel) kp92 fuel Try.f92 [.c (.sl (.int .u8) x0), .c (.int .i64 x1)] [] k = F_ref12_header fuel x0 x1 (fun r => match r with | (r0, r1, r2, r3, r4, r5, r6, r7, r8) => k (.tup [(true, [.int .i64 r0, .int .i64 r1, .int .i64 r2, .own 0, .own 1, .own 2]), (false, [.int .i64 r3]), (false, [.int .i64 r4]), (false, [.int .i64 r5])], [.vec 3 (.int .i64) r6 true, .vec 4 .bool r7 true, .vec 5 (.int .u8) r8 true])) :=
  F92_eqg fuel (F_ref12_number fuel) (F_ref12_refs fuel) (F_ref12_keeps fuel) x0 x1 k
theorem hG92 (fuel : Nat) : GOK Try.prog (G92 fuel) :=
  gok_cons ⟨ok119 fuel, enters_of Try.func119 (by kernel_rfl) rfl⟩ <|
  gok_cons ⟨ok120 fuel, enters_of Try.func120 (by kernel_rfl) rfl⟩ <|
  gok_cons ⟨ok121 fuel, enters_of Try.func121 (by kernel_rfl) rfl⟩ <|
  gok_nil
theorem fok92 (fuel : Nat) : FnOK Try.prog 92 (evalFn tab (G92 fuel) (J92 fuel) kp92 fuel Try.f92) :=
  fn_ok tab_ok (hG92 fuel) mixed Try.func92 (c := (Try.f92.body).getD .skip) rfl (fun q hq => by
    rw [(by kernel_rfl : obl (J92 fuel) ((Try.f92.body).getD .skip) = [])] at hq
    cases hq)
def mt92 : List Ev.SV → List Ev.Ob → Bool := fun args objs => match args, objs with
  | [.c (.sl (.int .u8) _), .c (.int .i64 _)], [] => true
  | _, _ => false
def spg92 (F : YF92) : Ev.Spec := fun args objs k => match args, objs with
  | [.c (.sl (.int .u8) x0), .c (.int .i64 x1)], [] => bif true then F x0 x1 (fun r => match r with | (r0, r1, r2, r3, r4, r5, r6, r7, r8) => k (.tup [(true, [.int .i64 r0, .int .i64 r1, .int .i64 r2, .own 0, .own 1, .own 2]), (false, [.int .i64 r3]), (false, [.int .i64 r4]), (false, [.int .i64 r5])], [.vec 3 (.int .i64) r6 true, .vec 4 .bool r7 true, .vec 5 (.int .u8) r8 true])) else none
  | _, _ => none
def spec92 (fuel : Nat) : Ev.Spec := spg92 (F_ref12_header fuel)
theorem ok92 (fuel : Nat) : FnOK Try.prog 92 (spec92 fuel) := by
  intro args objs kk r h
  unfold spec92 spg92 at h
  split at h
  · obtain ⟨hb, h⟩ := cond_some' h
    simp only [Bool.and_eq_true, Nat.beq_eq, decide_eq_true_eq] at hb
    clear hb
    exact fok92 fuel _ _ kk r ((F92_eq fuel _ _ kk).trans h)
  · cases h
end Go.Proofs.Ytajidgilfkineaa

set_option linter.unusedVariables false
set_option linter.unusedSimpArgs false
set_option maxRecDepth 100000
namespace Go.Proofs.Ytajidgilfkineaa
open Go Ev
def kp52 (i : Nat) : Option (List Nat) := Ev.look i []
def Gg52 (f92 : YF92) (f : Nat) : Option Ev.Spec := Ev.look f [(92, spg92 f92)]
def G52 (fuel : Nat) : Nat → Option Ev.Spec := Gg52 (F_ref12_header fuel)
def J52 (fuel : Nat) (i : Nat) : Option Ev.Blk := Ev.look i []
def F_ref12_GetHeader (fuel : Nat) (x0 : (List Int)) (x1 : Int) (k0 : (Int × Int × Int × Int × Int × Int × (List Int) × (List Bool) × (List Int)) → Option Ans) : Option Ans :=
  bif Decidable.decide (x1 < (0 : Int)) then
   k0 ((0 : Int), (0 : Int), (0 : Int), (0 : Int), (0 : Int), (2 : Int), [], [], [])
  else
   bif Decidable.decide (x1 > (↑x0.length : Int)) then
    k0 ((0 : Int), (0 : Int), (0 : Int), (0 : Int), (0 : Int), (2 : Int), [], [], [])
   else
    (F_ref12_header fuel (x0) (x1)
      (fun (y4_0, y4_1, y4_2, y4_3, y4_4, y4_5, y4_6, y4_7, y4_8) =>
        bif y4_5 != (0 : Int) then
         k0 ((0 : Int), (0 : Int), (0 : Int), (0 : Int), (0 : Int), y4_5, [], [], [])
        else
         k0 (y4_0, y4_1, y4_2, y4_3, y4_4, (0 : Int), y4_6, y4_7, y4_8)))
abbrev YF52 : Type := ((List Int)) → (Int) → ((Int × Int × Int × Int × Int × Int × (List Int) × (List Bool) × (List Int)) → Option Ans) → Option Ans
theorem F52_eqg (fuel : Nat) (f92 : YF92) (x0 : (List Int)) (x1 : Int) (k : Ev.Cont) : evalFn tab (Gg52 f92) (J52 fuel) kp52 fuel Try.f52 [.c (.sl (.int .u8) x0), .c (.int .i64 x1)] [] k = (fun  (k0 : (Int × Int × Int × Int × Int × Int × (List Int) × (List Bool) × (List Int)) → Option Ans) =>
  bif Decidable.decide (x1 < (0 : Int)) then
   k0 ((0 : Int), (0 : Int), (0 : Int), (0 : Int), (0 : Int), (2 : Int), [], [], [])
  else
   bif Decidable.decide (x1 > (↑x0.length : Int)) then
    k0 ((0 : Int), (0 : Int), (0 : Int), (0 : Int), (0 : Int), (2 : Int), [], [], [])
   else
    (f92 (x0) (x1)
      (fun (y4_0, y4_1, y4_2, y4_3, y4_4, y4_5, y4_6, y4_7, y4_8) =>
        bif y4_5 != (0 : Int) then
         k0 ((0 : Int), (0 : Int), (0 : Int), (0 : Int), (0 : Int), y4_5, [], [], [])
        else
         k0 (y4_0, y4_1, y4_2, y4_3, y4_4, (0 : Int), y4_6, y4_7, y4_8)))) (fun r => match r with | (r0, r1, r2, r3, r4, r5, r6, r7, r8) => k (.tup [(true, [.int .i64 r0, .int .i64 r1, .int .i64 r2, .own 0, .own 1, .own 2]), (false, [.int .i64 r3]), (false, [.int .i64 r4]), (false, [.int .i64 r5])], [.vec 3 (.int .i64) r6 true, .vec 4 .bool r7 true, .vec 5 (.int .u8) r8 true])) := by
  kernel_rfl
theorem F52_eq (fuel : Nat) (x0 : (List Int)) (x1 : Int) (k : Ev.Cont) : evalFn tab (G52 fuel) (J52 fuel) kp52 fuel Try.f52 [.c (.sl (.int .u8) x0), .c (.int .i64 x1)] [] k = F_ref12_GetHeader fuel x0 x1 (fun r => match r with | (r0, r1, r2, r3, r4, r5, r6, r7, r8) => k (.tup [(true, [.int .i64 r0, .int .i64 r1, .int .i64 r2, .own 0, .own 1, .own 2]), (false, [.int .i64 r3]), (false, [.int .i64 r4]), (false, [.int .i64 r5])], [.vec 3 (.int .i64) r6 true, .vec 4 .bool r7 true, .vec 5 (.int .u8) r8 true])) :=
  F52_eqg fuel (F_ref12_header fuel) x0 x1 k
theorem hG52 (fuel : Nat) : GOK Try.prog (G52 fuel) :=
  gok_cons ⟨ok92 fuel, enters_of Try.func92 (by kernel_rfl) rfl⟩ <|
  gok_nil
theorem fok52 (fuel : Nat) : FnOK Try.prog 52 (evalFn tab (G52 fuel) (J52 fuel) kp52 fuel Try.f52) :=
  fn_ok tab_ok (hG52 fuel) mixed Try.func52 (c := (Try.f52.body).getD .skip) rfl (fun q hq => by
    rw [(by kernel_rfl : obl (J52 fuel) ((Try.f52.body).getD .skip) = [])] at hq
    cases hq)
def mt52 : List Ev.SV → List Ev.Ob → Bool := fun args objs => match args, objs with
  | [.c (.sl (.int .u8) _), .c (.int .i64 _)], [] => true
  | _, _ => false
def spg52 (F : YF52) : Ev.Spec := fun args objs k => match args, objs with
  | [.c (.sl (.int .u8) x0), .c (.int .i64 x1)], [] => bif true then F x0 x1 (fun r => match r with | (r0, r1, r2, r3, r4, r5, r6, r7, r8) => k (.tup [(true, [.int .i64 r0, .int .i64 r1, .int .i64 r2, .own 0, .own 1, .own 2]), (false, [.int .i64 r3]), (false, [.int .i64 r4]), (false, [.int .i64 r5])], [.vec 3 (.int .i64) r6 true, .vec 4 .bool r7 true, .vec 5 (.int .u8) r8 true])) else none
  | _, _ => none
def spec52 (fuel : Nat) : Ev.Spec := spg52 (F_ref12_GetHeader fuel)
theorem ok52 (fuel : Nat) : FnOK Try.prog 52 (spec52 fuel) := by
  intro args objs kk r h
  unfold spec52 spg52 at h
  split at h
  · obtain ⟨hb, h⟩ := cond_some' h
    simp only [Bool.and_eq_true, Nat.beq_eq, decide_eq_true_eq] at hb
    clear hb
    exact fok52 fuel _ _ kk r ((F52_eq fuel _ _ kk).trans h)
  · cases h
end Go.Proofs.Ytajidgilfkineaa

set_option linter.unusedVariables false
set_option linter.unusedSimpArgs false
set_option maxRecDepth 100000
namespace Go.Proofs.Ytajidgilfkineaa
open Go Ev
def kp11 (i : Nat) : Option (List Nat) := Ev.look i []
def Gg11 (f40 : YF40) (f47 : YF47) (f51 : YF51) (f52 : YF52) (f : Nat) : Option Ev.Spec := Ev.look f [(40, spg40 f40), (47, spg47 f47), (51, spg51 f51), (52, spg52 f52)]
def G11 (fuel : Nat) : Nat → Option Ev.Spec := Gg11 (F_law12_Awake fuel) (F_ref12_Same fuel) (F_segment_GetHeader fuel) (F_ref12_GetHeader fuel)
def J11 (fuel : Nat) (i : Nat) : Option Ev.Blk := Ev.look i []
def F_law12_SegmentGets (fuel : Nat) (x0 : (List Int)) (x1 : Int) (k0 : (Bool) → Option Ans) : Option Ans :=
  bif Decidable.decide ((↑x0.length : Int) > (100000 : Int)) then
   (F_law12_Awake fuel
     (fun y3 =>
       k0 y3))
  else
   (F_segment_GetHeader fuel (x0) (x1)
     (fun (y3_0, y3_1, y3_2, y3_3, y3_4, y3_5, y3_6, y3_7, y3_8) =>
       (F_ref12_GetHeader fuel (x0) (x1)
         (fun (y7_0, y7_1, y7_2, y7_3, y7_4, y7_5, y7_6, y7_7, y7_8) =>
           bif y3_5 == y7_5 then
            bif y3_3 == y7_3 then
             bif y3_4 == y7_4 then
              (F_ref12_Same fuel (y3_0) (y3_1) (y3_2) (y3_6) (y3_7) (y3_8) (y7_0) (y7_1) (y7_2) (y7_6) (y7_7) (y7_8)
                (fun y14 =>
                  bif y14 then
                   (F_law12_Awake fuel
                     (fun y19 =>
                       k0 y19))
                  else
                   k0 Bool.false))
             else
              k0 Bool.false
            else
             k0 Bool.false
           else
            k0 Bool.false))))
abbrev YF11 : Type := ((List Int)) → (Int) → ((Bool) → Option Ans) → Option Ans
theorem F11_eqg (fuel : Nat) (f40 : YF40) (f47 : YF47) (f51 : YF51) (f52 : YF52) (x0 : (List Int)) (x1 : Int) (k : Ev.Cont) : evalFn tab (Gg11 f40 f47 f51 f52) (J11 fuel) kp11 fuel Try.f11 [.c (.sl (.int .u8) x0), .c (.int .i64 x1)] [] k = (fun  (k0 : (Bool) → Option Ans) =>
  bif Decidable.decide ((↑x0.length : Int) > (100000 : Int)) then
   (f40
     (fun y3 =>
       k0 y3))
  else
   (f51 (x0) (x1)
     (fun (y3_0, y3_1, y3_2, y3_3, y3_4, y3_5, y3_6, y3_7, y3_8) =>
       (f52 (x0) (x1)
         (fun (y7_0, y7_1, y7_2, y7_3, y7_4, y7_5, y7_6, y7_7, y7_8) =>
           bif y3_5 == y7_5 then
            bif y3_3 == y7_3 then
             bif y3_4 == y7_4 then
              (f47 (y3_0) (y3_1) (y3_2) (y3_6) (y3_7) (y3_8) (y7_0) (y7_1) (y7_2) (y7_6) (y7_7) (y7_8)
                (fun y14 =>
                  bif y14 then
                   (f40
                     (fun y19 =>
                       k0 y19))
                  else
                   k0 Bool.false))
             else
              k0 Bool.false
            else
             k0 Bool.false
           else
            k0 Bool.false))))) (fun r => match r with | r0 => k (.c (.bool r0), [])) := by
  kernel_rfl
theorem F11_eq (fuel : Nat) (x0 : (List Int)) (x1 : Int) (k : Ev.Cont) : evalFn tab (G11 fuel) (J11 fuel) kp11 fuel Try.f11 [.c (.sl (.int .u8) x0), .c (.int .i64 x1)] [] k = F_law12_SegmentGets fuel x0 x1 (fun r => match r with | r0 => k (.c (.bool r0), [])) :=
  F11_eqg fuel (F_law12_Awake fuel) (F_ref12_Same fuel) (F_segment_GetHeader fuel) (F_ref12_GetHeader fuel) x0 x1 k
theorem hG11 (fuel : Nat) : GOK Try.prog (G11 fuel) :=
  gok_cons ⟨ok40 fuel, enters_of Try.func40 (by kernel_rfl) rfl⟩ <|
  gok_cons ⟨ok47 fuel, enters_of Try.func47 (by kernel_rfl) rfl⟩ <|
  gok_cons ⟨ok51 fuel, enters_of Try.func51 (by kernel_rfl) rfl⟩ <|
  gok_cons ⟨ok52 fuel, enters_of Try.func52 (by kernel_rfl) rfl⟩ <|
  gok_nil
theorem fok11 (fuel : Nat) : FnOK Try.prog 11 (evalFn tab (G11 fuel) (J11 fuel) kp11 fuel Try.f11) :=
  fn_ok tab_ok (hG11 fuel) mixed Try.func11 (c := (Try.f11.body).getD .skip) rfl (fun q hq => by
    rw [(by kernel_rfl : obl (J11 fuel) ((Try.f11.body).getD .skip) = [])] at hq
    cases hq)
def mt11 : List Ev.SV → List Ev.Ob → Bool := fun args objs => match args, objs with
  | [.c (.sl (.int .u8) _), .c (.int .i64 _)], [] => true
  | _, _ => false
def spg11 (F : YF11) : Ev.Spec := fun args objs k => match args, objs with
  | [.c (.sl (.int .u8) x0), .c (.int .i64 x1)], [] => bif true then F x0 x1 (fun r => match r with | r0 => k (.c (.bool r0), [])) else none
  | _, _ => none
def spec11 (fuel : Nat) : Ev.Spec := spg11 (F_law12_SegmentGets fuel)
theorem ok11 (fuel : Nat) : FnOK Try.prog 11 (spec11 fuel) := by
  intro args objs kk r h
  unfold spec11 spg11 at h
  split at h
  · obtain ⟨hb, h⟩ := cond_some' h
    simp only [Bool.and_eq_true, Nat.beq_eq, decide_eq_true_eq] at hb
    clear hb
    exact fok11 fuel _ _ kk r ((F11_eq fuel _ _ kk).trans h)
  · cases h
end Go.Proofs.Ytajidgilfkineaa

set_option linter.unusedVariables false
set_option linter.unusedSimpArgs false
set_option maxRecDepth 100000
namespace Go.Proofs.Ytajidgilfkineaa
open Go Ev
def kp9 (i : Nat) : Option (List Nat) := Ev.look i [(200005, [2, 3])]
def Gg9 (f39 : YF39) (f40 : YF40) (f41 : YF41) (f42 : YF42) (f43 : YF43) (f44 : YF44) (f45 : YF45) (f46 : YF46) (f47 : YF47) (f : Nat) : Option Ev.Spec := Ev.look f [(39, spg39 f39), (40, spg40 f40), (41, spg41 f41), (42, spg42 f42), (43, spg43 f43), (44, spg44 f44), (45, spg45 f45), (46, spg46 f46), (47, spg47 f47)]
def G9 (fuel : Nat) : Nat → Option Ev.Spec := Gg9 (F_law12_large fuel) (F_law12_Awake fuel) (F_segment_Header fuel) (F_ref12_Header fuel) (F_segment_Valid fuel) (F_ref12_Valid fuel) (F_ref02_SameBytes fuel) (F_segment_Same fuel) (F_ref12_Same fuel)
def J9 (fuel : Nat) (i : Nat) : Option Ev.Blk := Ev.look i []
def F_law12_SegmentHeader (fuel : Nat) (x0 : Int) (x1 : Int) (x2 : Int) (x3 : (List Int)) (x4 : (List Bool)) (x5 : (List Int)) (x6 : Int) (x7 : Int) (x8 : Int) (x9 : (List Int)) (x10 : (List Bool)) (x11 : (List Int)) (k0 : (Bool) → Option Ans) : Option Ans :=
  (F_law12_large fuel ([(x0, x1, x2, x3, x4, x5), (x6, x7, x8, x9, x10, x11)])
    (fun y2 =>
      bif y2 then
       (F_law12_Awake fuel
         (fun y7 =>
           k0 y7))
      else
       (F_segment_Header fuel (x0) (x1) (x2) (x3) (x4) (x5)
         (fun (y7_0, y7_1) =>
           (F_ref12_Header fuel (x0) (x1) (x2) (x3) (x4) (x5)
             (fun (y11_0, y11_1) =>
               (F_segment_Valid fuel (x0) (x1) (x2) (x3) (x4) (x5)
                 (fun y15 =>
                   (F_ref12_Valid fuel (x0) (x1) (x2) (x3) (x4) (x5)
                     (fun y19 =>
                       bif y15 == y19 then
                        bif y7_0 == y11_0 then
                         (F_ref02_SameBytes fuel (y7_1) (y11_1)
                           (fun y25 =>
                             bif y25 then
                              (F_segment_Same fuel (x0) (x1) (x2) (x3) (x4) (x5) (x6) (x7) (x8) (x9) (x10) (x11)
                                (fun y30 =>
                                  (F_ref12_Same fuel (x0) (x1) (x2) (x3) (x4) (x5) (x6) (x7) (x8) (x9) (x10) (x11)
                                    (fun y34 =>
                                      bif y30 == y34 then
                                       (F_segment_Same fuel (x0) (x1) (x2) (x3) (x4) (x5) (x0) (x1) (x2) (x3) (x4) (x5)
                                         (fun y39 =>
                                           bif y39 then
                                            (F_law12_Awake fuel
                                              (fun y44 =>
                                                k0 y44))
                                           else
                                            k0 Bool.false))
                                      else
                                       k0 Bool.false))))
                             else
                              k0 Bool.false))
                        else
                         k0 Bool.false
                       else
                        k0 Bool.false))))))))))
abbrev YF9 : Type := (Int) → (Int) → (Int) → ((List Int)) → ((List Bool)) → ((List Int)) → (Int) → (Int) → (Int) → ((List Int)) → ((List Bool)) → ((List Int)) → ((Bool) → Option Ans) → Option Ans
theorem F9_eqg (fuel : Nat) (f39 : YF39) (f40 : YF40) (f41 : YF41) (f42 : YF42) (f43 : YF43) (f44 : YF44) (f45 : YF45) (f46 : YF46) (f47 : YF47) (x0 : Int) (x1 : Int) (x2 : Int) (x3 : (List Int)) (x4 : (List Bool)) (x5 : (List Int)) (x6 : Int) (x7 : Int) (x8 : Int) (x9 : (List Int)) (x10 : (List Bool)) (x11 : (List Int)) (k : Ev.Cont) : evalFn tab (Gg9 f39 f40 f41 f42 f43 f44 f45 f46 f47) (J9 fuel) kp9 fuel Try.f9 [.agg [.int .i64 x0, .int .i64 x1, .int .i64 x2, .sl (.int .i64) x3, .sl .bool x4, .sl (.int .u8) x5], .agg [.int .i64 x6, .int .i64 x7, .int .i64 x8, .sl (.int .i64) x9, .sl .bool x10, .sl (.int .u8) x11]] [] k = (fun  (k0 : (Bool) → Option Ans) =>
  (f39 ([(x0, x1, x2, x3, x4, x5), (x6, x7, x8, x9, x10, x11)])
    (fun y2 =>
      bif y2 then
       (f40
         (fun y7 =>
           k0 y7))
      else
       (f41 (x0) (x1) (x2) (x3) (x4) (x5)
         (fun (y7_0, y7_1) =>
           (f42 (x0) (x1) (x2) (x3) (x4) (x5)
             (fun (y11_0, y11_1) =>
               (f43 (x0) (x1) (x2) (x3) (x4) (x5)
                 (fun y15 =>
                   (f44 (x0) (x1) (x2) (x3) (x4) (x5)
                     (fun y19 =>
                       bif y15 == y19 then
                        bif y7_0 == y11_0 then
                         (f45 (y7_1) (y11_1)
                           (fun y25 =>
                             bif y25 then
                              (f46 (x0) (x1) (x2) (x3) (x4) (x5) (x6) (x7) (x8) (x9) (x10) (x11)
                                (fun y30 =>
                                  (f47 (x0) (x1) (x2) (x3) (x4) (x5) (x6) (x7) (x8) (x9) (x10) (x11)
                                    (fun y34 =>
                                      bif y30 == y34 then
                                       (f46 (x0) (x1) (x2) (x3) (x4) (x5) (x0) (x1) (x2) (x3) (x4) (x5)
                                         (fun y39 =>
                                           bif y39 then
                                            (f40
                                              (fun y44 =>
                                                k0 y44))
                                           else
                                            k0 Bool.false))
                                      else
                                       k0 Bool.false))))
                             else
                              k0 Bool.false))
                        else
                         k0 Bool.false
                       else
                        k0 Bool.false))))))))))) (fun r => match r with | r0 => k (.c (.bool r0), [])) := by
  kernel_rfl
theorem F9_eq (fuel : Nat) (x0 : Int) (x1 : Int) (x2 : Int) (x3 : (List Int)) (x4 : (List Bool)) (x5 : (List Int)) (x6 : Int) (x7 : Int) (x8 : Int) (x9 : (List Int)) (x10 : (List Bool)) (x11 : (List Int)) (k : Ev.Cont) : evalFn tab (G9 fuel) (J9 fuel) kp9 fuel Try.f9 [.agg [.int .i64 x0, .int .i64 x1, .int .i64 x2, .sl (.int .i64) x3, .sl .bool x4, .sl (.int .u8) x5], .agg [.int .i64 x6, .int .i64 x7, .int .i64 x8, .sl (.int .i64) x9, .sl .bool x10, .sl (.int .u8) x11]] [] k = F_law12_SegmentHeader fuel x0 x1 x2 x3 x4 x5 x6 x7 x8 x9 x10 x11 (fun r => match r with | r0 => k (.c (.bool r0), [])) :=
  F9_eqg fuel (F_law12_large fuel) (F_law12_Awake fuel) (F_segment_Header fuel) (F_ref12_Header fuel) (F_segment_Valid fuel) (F_ref12_Valid fuel) (F_ref02_SameBytes fuel) (F_segment_Same fuel) (F_ref12_Same fuel) x0 x1 x2 x3 x4 x5 x6 x7 x8 x9 x10 x11 k
theorem hG9 (fuel : Nat) : GOK Try.prog (G9 fuel) :=
  gok_cons ⟨ok39 fuel, enters_of Try.func39 (by kernel_rfl) rfl⟩ <|
  gok_cons ⟨ok40 fuel, enters_of Try.func40 (by kernel_rfl) rfl⟩ <|
  gok_cons ⟨ok41 fuel, enters_of Try.func41 (by kernel_rfl) rfl⟩ <|
  gok_cons ⟨ok42 fuel, enters_of Try.func42 (by kernel_rfl) rfl⟩ <|
  gok_cons ⟨ok43 fuel, enters_of Try.func43 (by kernel_rfl) rfl⟩ <|
  gok_cons ⟨ok44 fuel, enters_of Try.func44 (by kernel_rfl) rfl⟩ <|
  gok_cons ⟨ok45 fuel, enters_of Try.func45 (by kernel_rfl) rfl⟩ <|
  gok_cons ⟨ok46 fuel, enters_of Try.func46 (by kernel_rfl) rfl⟩ <|
  gok_cons ⟨ok47 fuel, enters_of Try.func47 (by kernel_rfl) rfl⟩ <|
  gok_nil
theorem fok9 (fuel : Nat) : FnOK Try.prog 9 (evalFn tab (G9 fuel) (J9 fuel) kp9 fuel Try.f9) :=
  fn_ok tab_ok (hG9 fuel) mixed Try.func9 (c := (Try.f9.body).getD .skip) rfl (fun q hq => by
    rw [(by kernel_rfl : obl (J9 fuel) ((Try.f9.body).getD .skip) = [])] at hq
    cases hq)
def mt9 : List Ev.SV → List Ev.Ob → Bool := fun args objs => match args, objs with
  | [.agg [.int .i64 _, .int .i64 _, .int .i64 _, .sl (.int .i64) _, .sl .bool _, .sl (.int .u8) _], .agg [.int .i64 _, .int .i64 _, .int .i64 _, .sl (.int .i64) _, .sl .bool _, .sl (.int .u8) _]], [] => true
  | _, _ => false
def spg9 (F : YF9) : Ev.Spec := fun args objs k => match args, objs with
  | [.agg [.int .i64 x0, .int .i64 x1, .int .i64 x2, .sl (.int .i64) x3, .sl .bool x4, .sl (.int .u8) x5], .agg [.int .i64 x6, .int .i64 x7, .int .i64 x8, .sl (.int .i64) x9, .sl .bool x10, .sl (.int .u8) x11]], [] => bif true then F x0 x1 x2 x3 x4 x5 x6 x7 x8 x9 x10 x11 (fun r => match r with | r0 => k (.c (.bool r0), [])) else none
  | _, _ => none
def spec9 (fuel : Nat) : Ev.Spec := spg9 (F_law12_SegmentHeader fuel)
theorem ok9 (fuel : Nat) : FnOK Try.prog 9 (spec9 fuel) := by
  intro args objs kk r h
  unfold spec9 spg9 at h
  split at h
  · obtain ⟨hb, h⟩ := cond_some' h
    simp only [Bool.and_eq_true, Nat.beq_eq, decide_eq_true_eq] at hb
    clear hb
    exact fok9 fuel _ _ kk r ((F9_eq fuel _ _ _ _ _ _ _ _ _ _ _ _ kk).trans h)
  · cases h
end Go.Proofs.Ytajidgilfkineaa

