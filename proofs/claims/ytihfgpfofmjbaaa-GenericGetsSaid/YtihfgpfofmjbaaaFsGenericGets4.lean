/- What the functions that GenericGets reaches do: their typed texts, each with the proof that the machine does it. No condition. -/
import Derived.Test.YtihfgpfofmjbaaaEvX
import Derived.Test.YtihfgpfofmjbaaaFsGenericGets3
import Derived.Test.YtihfgpfofmjbaaaFsGenericGets1
import Derived.Test.YtihfgpfofmjbaaaFsGenericGets2
set_option linter.unusedVariables false
set_option linter.unusedSimpArgs false
set_option linter.unusedVariables false
set_option linter.unusedSimpArgs false
set_option maxRecDepth 100000
set_option maxHeartbeats 2000000
namespace Go.Proofs.Ytihfgpfofmjbaaa
open Go Ev
def kp126 (i : Nat) : Option (List Nat) := Ev.look i [(4, [2, 3, 5, 9, 10, 11]), (100000, [10]), (200006, [5, 9]), (400000, [8])]
noncomputable def Gg126 (f125 : YF125) (f180 : YF180) (f : Nat) : Option Ev.Spec := Ev.look f [(125, spg125 f125), (180, spg180 f180)]
noncomputable def G126 (fuel : Nat) : Nat → Option Ev.Spec := Gg126 (F_ref05_At fuel) (F_ref07_pixels fuel)
noncomputable def Sg_ref07_context_0 (fuel : Nat) (f125 : YF125) (f180 : YF180) (x0 x1 : Int) (x2 x3 : Int) (x4 x5 : Int) (x6 : (List Int)) (x7 : (List (Int × Int))) (c : (Int × Int × Int × Int × Int × Int × (List Int) × (List (Int × Int))) → Option Ans) (B : (Int → Option Ans)) : Option Ans := match B with
 | b =>
  bif decide (x3 < (↑x7.length : Int)) then
  bif decide ((0 : Int) ≤ x3 ∧ x3 < (↑x7.length : Int)) then
  bif decide ((0 : Int) ≤ x3 ∧ x3 < (↑x7.length : Int)) then
  both ((f125 (x4) (x5) (x6) (IntKind.i64.wrap (x0 + (x7.getD x3.toNat ((0 : Int), (0 : Int))).fst)) (IntKind.i64.wrap (x1 + (x7.getD x3.toNat ((0 : Int), (0 : Int))).snd))
  (fun y7 =>
  c (x0, x1, IntKind.i64.wrap (IntKind.i64.wrap ((2 : Int) * x2) + y7), IntKind.i64.wrap (x3 + (1 : Int)), x4, x5, x6, x7))))
  ((f125 (x4) (x5) (x6) (IntKind.i64.wrap (x0 + (x7.getD x3.toNat ((0 : Int), (0 : Int))).fst)) (IntKind.i64.wrap (x1 + (x7.getD x3.toNat ((0 : Int), (0 : Int))).snd))
  (fun y7 =>
  c (x0, x1, IntKind.i64.wrap (IntKind.i64.wrap ((2 : Int) * x2) + y7), IntKind.i64.wrap (x3 + (1 : Int)), x4, x5, x6, x7))))
  else none
  else none
  else
  b x2
noncomputable def S_ref07_context_0 (fuel : Nat) (v : Int × Int × Int × Int × Int × Int × (List Int) × (List (Int × Int))) (c : (Int × Int × Int × Int × Int × Int × (List Int) × (List (Int × Int))) → Option Ans) (B : (Int → Option Ans)) : Option Ans := match v with
 | (x0, x1, x2, x3, x4, x5, x6, x7) => Sg_ref07_context_0 fuel (F_ref05_At fuel) (F_ref07_pixels fuel) x0 x1 x2 x3 x4 x5 x6 x7 c B
noncomputable def L_ref07_context_0 (fuel : Nat) (v : Int × Int × Int × Int × Int × Int × (List Int) × (List (Int × Int))) (b : (Int → Option Ans)) : Option Ans := iter (S_ref07_context_0 fuel) fuel v b
noncomputable def J126_0 (fuel : Nat) (i : Nat) : Option Ev.Blk := Ev.look i []
noncomputable def T126_0 (v : Int × Int × Int × Int × Int × Int × (List Int) × (List (Int × Int))) : Ev.St := match v with | (x0, x1, x2, x3, x4, x5, x6, x7) => ⟨[(2, .c (.int .i64 x0)), (3, .c (.int .i64 x1)), (5, .c (.ptr 0 0)), (9, .c (.own 1)), (10, .c (.int .i64 x2)), (11, .c (.int .i64 x3))], [(0, .cells 39 [.int .i64 x4, .int .i64 x5, .sl (.int .u8) x6]), (1, .vec 223 (.pair (.int .i64) (.int .i64)) x7 true)], 2, 0⟩
noncomputable def E126_0 (K : Ev.Ex → Ev.St → Option Ans) : (Int → Option Ans) := (fun v => match v with | x0 => K .normal ⟨[(10, .c (.int .i64 x0))], [], 0, 0⟩)
theorem S126_0_okg (fuel : Nat) (f125 : YF125) (f180 : YF180) (R : Ev.St → Option Ans) (K : Ev.Ex → Ev.St → Option Ans) (x0 x1 : Int) (x2 x3 : Int) (x4 x5 : Int) (x6 : (List Int)) (x7 : (List (Int × Int))) : evalCode tab (Gg126 f125 f180) (J126_0 fuel) kp126 fuel (bodyOf 0 Try.f126) (T126_0 (x0, x1, x2, x3, x4, x5, x6, x7)) (lc kp126 4 0 R K) = Sg_ref07_context_0 fuel f125 f180 x0 x1 x2 x3 x4 x5 x6 x7 (fun v => R (T126_0 v)) (E126_0 K) := by
  kernel_rfl
theorem S126_0_ok (fuel : Nat) (R : Ev.St → Option Ans) (K : Ev.Ex → Ev.St → Option Ans) (x0 x1 : Int) (x2 x3 : Int) (x4 x5 : Int) (x6 : (List Int)) (x7 : (List (Int × Int))) : evalCode tab (G126 fuel) (J126_0 fuel) kp126 fuel (bodyOf 0 Try.f126) (T126_0 (x0, x1, x2, x3, x4, x5, x6, x7)) (lc kp126 4 0 R K) = S_ref07_context_0 fuel (x0, x1, x2, x3, x4, x5, x6, x7) (fun v => R (T126_0 v)) (E126_0 K) :=
  S126_0_okg fuel (F_ref05_At fuel) (F_ref07_pixels fuel) R K x0 x1 x2 x3 x4 x5 x6 x7
noncomputable def B126_0 (fuel : Nat) : Ev.Blk := fun st K => match canonO (kp126 4) st with
 | some s => (match s with
 | ⟨[(q0, .c (.int .i64 x0)), (q1, .c (.int .i64 x1)), (q2, .c (.ptr q3 q4)), (q5, .c (.own q6)), (q7, .c (.int .i64 x2)), (q8, .c (.int .i64 x3))], [(q9, .cells q10 [.int .i64 x4, .int .i64 x5, .sl (.int .u8) x6]), (q11, .vec q12 (.pair (.int .i64) (.int .i64)) x7 true)], q13, q14⟩ => bif Nat.beq q0 2 && Nat.beq q1 3 && Nat.beq q2 5 && Nat.beq q3 0 && Nat.beq q4 0 && Nat.beq q5 9 && Nat.beq q6 1 && Nat.beq q7 10 && Nat.beq q8 11 && Nat.beq q9 0 && Nat.beq q10 39 && Nat.beq q11 1 && Nat.beq q12 223 && Nat.beq q13 2 && Nat.beq q14 0 then iter (S_ref07_context_0 fuel) fuel (x0, x1, x2, x3, x4, x5, x6, x7) (E126_0 K) else none
 | _ => none)
 | none => none
theorem B126_0_ok (fuel : Nat) (st : Ev.St) (K : Ev.Ex → Ev.St → Option Ans) (r : Ans) (h : B126_0 fuel st K = some r) : evalCode tab (G126 fuel) (J126_0 fuel) kp126 fuel (.block 0 (.loop (bodyOf 0 Try.f126))) st K = some r := by
  unfold B126_0 at h
  split at h
  · rename_i s hs
    split at h
    · skip
      obtain ⟨hb, h⟩ := cond_some' h
      simp only [Bool.and_eq_true, Nat.beq_eq, decide_eq_true_eq] at hb
      obtain ⟨⟨⟨⟨⟨⟨⟨⟨⟨⟨⟨⟨⟨⟨rfl, rfl⟩, rfl⟩, rfl⟩, rfl⟩, rfl⟩, rfl⟩, rfl⟩, rfl⟩, rfl⟩, rfl⟩, rfl⟩, rfl⟩, rfl⟩, rfl⟩ := hb
      exact blk_loop (S := T126_0) (ks := E126_0) (step := S_ref07_context_0 fuel) (v := (_, _, _, _, _, _, _, _)) (by kernel_rfl) (by kernel_rfl) (fun R K v => by obtain ⟨x0, x1, x2, x3, x4, x5, x6, x7⟩ := v; exact S126_0_ok fuel R K x0 x1 x2 x3 x4 x5 x6 x7) hs h
    · cases h
  · cases h
noncomputable def J126 (fuel : Nat) (i : Nat) : Option Ev.Blk := Ev.look i [(100000, B126_0 fuel)]
noncomputable def Fg_ref07_context (fuel : Nat) (f125 : YF125) (f180 : YF180) (x0 x1 x2 : Int) (x3 : Bool) (x4 x5 x6 : Int) (x7 : (List Int)) (x8 x9 : Int) (k0 : (Int) → Option Ans) : Option Ans :=
  (f180 (x0) (x1) (x2) (x3) (x4)
  (fun y2 =>
  (L_ref07_context_0 fuel (x8, x9, (0 : Int), (0 : Int), x5, x6, x7, y2)
  (fun b0_0 =>
  k0 b0_0))))
noncomputable def F_ref07_context (fuel : Nat) (x0 x1 x2 : Int) (x3 : Bool) (x4 x5 x6 : Int) (x7 : (List Int)) (x8 x9 : Int) (k0 : (Int) → Option Ans) : Option Ans := Fg_ref07_context fuel (F_ref05_At fuel) (F_ref07_pixels fuel) x0 x1 x2 x3 x4 x5 x6 x7 x8 x9 k0
abbrev YF126 : Type := (Int) → (Int) → (Int) → (Bool) → (Int) → (Int) → (Int) → ((List Int)) → (Int) → (Int) → ((Int) → Option Ans) → Option Ans
theorem F126_eqg (fuel : Nat) (f125 : YF125) (f180 : YF180) (x0 x1 x2 : Int) (x3 : Bool) (x4 x5 x6 : Int) (x7 : (List Int)) (x8 x9 : Int) (k : Ev.Cont) : evalFn tab (Gg126 f125 f180) (J126 fuel) kp126 fuel Try.f126 [.agg [.int .i64 x0, .int .i64 x1, .int .i64 x2, .bool x3, .int .i64 x4], .agg [.int .i64 x5, .int .i64 x6, .sl (.int .u8) x7], .c (.int .i64 x8), .c (.int .i64 x9)] [] k = Fg_ref07_context fuel f125 f180 x0 x1 x2 x3 x4 x5 x6 x7 x8 x9 (fun r => match r with | r0 => k (.c (.int .i64 r0), [])) := by
  kernel_rfl
theorem F126_eq (fuel : Nat) (x0 x1 x2 : Int) (x3 : Bool) (x4 x5 x6 : Int) (x7 : (List Int)) (x8 x9 : Int) (k : Ev.Cont) : evalFn tab (G126 fuel) (J126 fuel) kp126 fuel Try.f126 [.agg [.int .i64 x0, .int .i64 x1, .int .i64 x2, .bool x3, .int .i64 x4], .agg [.int .i64 x5, .int .i64 x6, .sl (.int .u8) x7], .c (.int .i64 x8), .c (.int .i64 x9)] [] k = F_ref07_context fuel x0 x1 x2 x3 x4 x5 x6 x7 x8 x9 (fun r => match r with | r0 => k (.c (.int .i64 r0), [])) :=
  F126_eqg fuel (F_ref05_At fuel) (F_ref07_pixels fuel) x0 x1 x2 x3 x4 x5 x6 x7 x8 x9 k
theorem hG126 (fuel : Nat) : GOK Try.prog (G126 fuel) :=
  gok_cons ⟨ok125 fuel, enters_of Try.func125 (by kernel_rfl) rfl⟩ <|
  gok_cons ⟨ok180 fuel, enters_of Try.func180 (by kernel_rfl) rfl⟩ <|
  gok_nil
theorem B126_0_blk (fuel : Nat) : BlkOK Try.prog Try.f126.ntmps (.block 0 (.loop (bodyOf 0 Try.f126))) (B126_0 fuel) :=
  blk_of (blk_of_code tab_ok (hG126 fuel) mixed (J := J126_0 fuel) (kp := kp126) (fuel := fuel) (by kernel_rfl) (fun q hq => by
    rw [(by kernel_rfl : obl (J126_0 fuel) (.block 0 (.loop (bodyOf 0 Try.f126))) = [])] at hq
    cases hq)) (B126_0_ok fuel)
theorem fok126 (fuel : Nat) : FnOK Try.prog 126 (evalFn tab (G126 fuel) (J126 fuel) kp126 fuel Try.f126) :=
  fn_ok tab_ok (hG126 fuel) mixed Try.func126 (c := (Try.f126.body).getD .skip) rfl (fun q hq => by
    rw [(by kernel_rfl : obl (J126 fuel) ((Try.f126.body).getD .skip) = [(.block 0 (.loop (bodyOf 0 Try.f126)), B126_0 fuel)])] at hq
    simp only [List.mem_cons, List.not_mem_nil, or_false] at hq
    subst hq
    · exact B126_0_blk fuel)
noncomputable def mt126 : List Ev.SV → List Ev.Ob → Bool := fun args objs => match args, objs with
 | [.agg [.int .i64 _, .int .i64 _, .int .i64 _, .bool _, .int .i64 _], .agg [.int .i64 _, .int .i64 _, .sl (.int .u8) _], .c (.int .i64 _), .c (.int .i64 _)], [] => true
 | _, _ => false
noncomputable def spg126 (F : YF126) : Ev.Spec := fun args objs k => match args, objs with
 | [.agg [.int .i64 x0, .int .i64 x1, .int .i64 x2, .bool x3, .int .i64 x4], .agg [.int .i64 x5, .int .i64 x6, .sl (.int .u8) x7], .c (.int .i64 x8), .c (.int .i64 x9)], [] => bif true then F x0 x1 x2 x3 x4 x5 x6 x7 x8 x9 (fun r => match r with | r0 => k (.c (.int .i64 r0), [])) else none
 | _, _ => none
noncomputable def spec126 (fuel : Nat) : Ev.Spec := spg126 (F_ref07_context fuel)
theorem ok126 (fuel : Nat) : FnOK Try.prog 126 (spec126 fuel) := by
  intro args objs kk r h
  unfold spec126 spg126 at h
  split at h
  · skip
    obtain ⟨hb, h⟩ := cond_some' h
    simp only [Bool.and_eq_true, Nat.beq_eq, decide_eq_true_eq] at hb
    clear hb
    exact fok126 fuel _ _ kk r ((F126_eq fuel _ _ _ _ _ _ _ _ _ _ kk).trans h)
  · cases h
end Go.Proofs.Ytihfgpfofmjbaaa

set_option linter.unusedVariables false
set_option linter.unusedSimpArgs false
set_option maxRecDepth 100000
set_option maxHeartbeats 2000000
namespace Go.Proofs.Ytihfgpfofmjbaaa
open Go Ev
def kp179 (i : Nat) : Option (List Nat) := Ev.look i []
noncomputable def Gg179 (f : Nat) : Option Ev.Spec := Ev.look f []
noncomputable def G179 (fuel : Nat) : Nat → Option Ev.Spec := Gg179
noncomputable def J179 (fuel : Nat) (i : Nat) : Option Ev.Blk := Ev.look i []
noncomputable def F_ref07_none (fuel : Nat) (x0 x1 : Int) (x2 : (List Int)) (k0 : (Bool) → Option Ans) : Option Ans :=
  bif x0 == (0 : Int) then
  k0 (x1 == (0 : Int))
  else
  k0 false
abbrev YF179 : Type := (Int) → (Int) → ((List Int)) → ((Bool) → Option Ans) → Option Ans
theorem F179_eq (fuel : Nat) (x0 x1 : Int) (x2 : (List Int)) (k : Ev.Cont) : evalFn tab (G179 fuel) (J179 fuel) kp179 fuel Try.f179 [.agg [.int .i64 x0, .int .i64 x1, .sl (.int .u8) x2]] [] k = F_ref07_none fuel x0 x1 x2 (fun r => match r with | r0 => k (.c (.bool r0), [])) := by
  kernel_rfl
theorem hG179 (fuel : Nat) : GOK Try.prog (G179 fuel) :=
  gok_nil
theorem fok179 (fuel : Nat) : FnOK Try.prog 179 (evalFn tab (G179 fuel) (J179 fuel) kp179 fuel Try.f179) :=
  fn_ok tab_ok (hG179 fuel) mixed Try.func179 (c := (Try.f179.body).getD .skip) rfl (fun q hq => by
    rw [(by kernel_rfl : obl (J179 fuel) ((Try.f179.body).getD .skip) = [])] at hq
    cases hq)
noncomputable def mt179 : List Ev.SV → List Ev.Ob → Bool := fun args objs => match args, objs with
 | [.agg [.int .i64 _, .int .i64 _, .sl (.int .u8) _]], [] => true
 | _, _ => false
noncomputable def spg179 (F : YF179) : Ev.Spec := fun args objs k => match args, objs with
 | [.agg [.int .i64 x0, .int .i64 x1, .sl (.int .u8) x2]], [] => bif true then F x0 x1 x2 (fun r => match r with | r0 => k (.c (.bool r0), [])) else none
 | _, _ => none
noncomputable def spec179 (fuel : Nat) : Ev.Spec := spg179 (F_ref07_none fuel)
theorem ok179 (fuel : Nat) : FnOK Try.prog 179 (spec179 fuel) := by
  intro args objs kk r h
  unfold spec179 spg179 at h
  split at h
  · skip
    obtain ⟨hb, h⟩ := cond_some' h
    simp only [Bool.and_eq_true, Nat.beq_eq, decide_eq_true_eq] at hb
    clear hb
    exact fok179 fuel _ _ kk r ((F179_eq fuel _ _ _ kk).trans h)
  · cases h
end Go.Proofs.Ytihfgpfofmjbaaa

set_option linter.unusedVariables false
set_option linter.unusedSimpArgs false
set_option maxRecDepth 100000
set_option maxHeartbeats 2000000
namespace Go.Proofs.Ytihfgpfofmjbaaa
open Go Ev
def kp120 (i : Nat) : Option (List Nat) := Ev.look i []
noncomputable def Gg120 (f122 : YF122) (f179 : YF179) (f : Nat) : Option Ev.Spec := Ev.look f [(122, spg122 f122), (179, spg179 f179)]
noncomputable def G120 (fuel : Nat) : Nat → Option Ev.Spec := Gg120 (F_ref07_Size fuel) (F_ref07_none fuel)
noncomputable def J120 (fuel : Nat) (i : Nat) : Option Ev.Blk := Ev.look i []
noncomputable def Fg_ref07_room (fuel : Nat) (f122 : YF122) (f179 : YF179) (x0 x1 x2 : Int) (x3 : Bool) (x4 x5 : Int) (x6 x7 : Int) (x8 x9 x10 : Int) (x11 : (List Int)) (k0 : (Int) → Option Ans) : Option Ans :=
  (f122 (x0) (x1) (x2) (x3) (x4)
  (fun (y2_0, y2_1) =>
  (f179 (x9) (x10) (x11)
  (fun y6 =>
  bif !y6 then
  bif x9 != x7 then
  k0 ((2 : Int))
  else
  bif x10 != x8 then
  k0 ((2 : Int))
  else
  bif decide (x5 < (0 : Int)) then
  k0 ((2 : Int))
  else
  bif decide (x5 > x6) then
  k0 ((2 : Int))
  else
  bif decide (y2_0 > IntKind.i64.wrap (x6 - x5)) then
  k0 ((2 : Int))
  else
  k0 ((0 : Int))
  else
  bif decide (x5 < (0 : Int)) then
  k0 ((2 : Int))
  else
  bif decide (x5 > x6) then
  k0 ((2 : Int))
  else
  bif decide (y2_0 > IntKind.i64.wrap (x6 - x5)) then
  k0 ((2 : Int))
  else
  k0 ((0 : Int))))))
noncomputable def F_ref07_room (fuel : Nat) (x0 x1 x2 : Int) (x3 : Bool) (x4 x5 : Int) (x6 x7 : Int) (x8 x9 x10 : Int) (x11 : (List Int)) (k0 : (Int) → Option Ans) : Option Ans := Fg_ref07_room fuel (F_ref07_Size fuel) (F_ref07_none fuel) x0 x1 x2 x3 x4 x5 x6 x7 x8 x9 x10 x11 k0
abbrev YF120 : Type := (Int) → (Int) → (Int) → (Bool) → (Int) → (Int) → (Int) → (Int) → (Int) → (Int) → (Int) → ((List Int)) → ((Int) → Option Ans) → Option Ans
theorem F120_eqg (fuel : Nat) (f122 : YF122) (f179 : YF179) (x0 x1 x2 : Int) (x3 : Bool) (x4 x5 : Int) (x6 x7 : Int) (x8 x9 x10 : Int) (x11 : (List Int)) (k : Ev.Cont) : evalFn tab (Gg120 f122 f179) (J120 fuel) kp120 fuel Try.f120 [.agg [.int .i64 x0, .int .i64 x1, .int .i64 x2, .bool x3, .int .i64 x4], .c (.int .i64 x5), .c (.int .i64 x6), .c (.int .i64 x7), .c (.int .i64 x8), .agg [.int .i64 x9, .int .i64 x10, .sl (.int .u8) x11]] [] k = Fg_ref07_room fuel f122 f179 x0 x1 x2 x3 x4 x5 x6 x7 x8 x9 x10 x11 (fun r => match r with | r0 => k (.c (.int .i64 r0), [])) := by
  kernel_rfl
theorem F120_eq (fuel : Nat) (x0 x1 x2 : Int) (x3 : Bool) (x4 x5 : Int) (x6 x7 : Int) (x8 x9 x10 : Int) (x11 : (List Int)) (k : Ev.Cont) : evalFn tab (G120 fuel) (J120 fuel) kp120 fuel Try.f120 [.agg [.int .i64 x0, .int .i64 x1, .int .i64 x2, .bool x3, .int .i64 x4], .c (.int .i64 x5), .c (.int .i64 x6), .c (.int .i64 x7), .c (.int .i64 x8), .agg [.int .i64 x9, .int .i64 x10, .sl (.int .u8) x11]] [] k = F_ref07_room fuel x0 x1 x2 x3 x4 x5 x6 x7 x8 x9 x10 x11 (fun r => match r with | r0 => k (.c (.int .i64 r0), [])) :=
  F120_eqg fuel (F_ref07_Size fuel) (F_ref07_none fuel) x0 x1 x2 x3 x4 x5 x6 x7 x8 x9 x10 x11 k
theorem hG120 (fuel : Nat) : GOK Try.prog (G120 fuel) :=
  gok_cons ⟨ok122 fuel, enters_of Try.func122 (by kernel_rfl) rfl⟩ <|
  gok_cons ⟨ok179 fuel, enters_of Try.func179 (by kernel_rfl) rfl⟩ <|
  gok_nil
theorem fok120 (fuel : Nat) : FnOK Try.prog 120 (evalFn tab (G120 fuel) (J120 fuel) kp120 fuel Try.f120) :=
  fn_ok tab_ok (hG120 fuel) mixed Try.func120 (c := (Try.f120.body).getD .skip) rfl (fun q hq => by
    rw [(by kernel_rfl : obl (J120 fuel) ((Try.f120.body).getD .skip) = [])] at hq
    cases hq)
noncomputable def mt120 : List Ev.SV → List Ev.Ob → Bool := fun args objs => match args, objs with
 | [.agg [.int .i64 _, .int .i64 _, .int .i64 _, .bool _, .int .i64 _], .c (.int .i64 _), .c (.int .i64 _), .c (.int .i64 _), .c (.int .i64 _), .agg [.int .i64 _, .int .i64 _, .sl (.int .u8) _]], [] => true
 | _, _ => false
noncomputable def spg120 (F : YF120) : Ev.Spec := fun args objs k => match args, objs with
 | [.agg [.int .i64 x0, .int .i64 x1, .int .i64 x2, .bool x3, .int .i64 x4], .c (.int .i64 x5), .c (.int .i64 x6), .c (.int .i64 x7), .c (.int .i64 x8), .agg [.int .i64 x9, .int .i64 x10, .sl (.int .u8) x11]], [] => bif true then F x0 x1 x2 x3 x4 x5 x6 x7 x8 x9 x10 x11 (fun r => match r with | r0 => k (.c (.int .i64 r0), [])) else none
 | _, _ => none
noncomputable def spec120 (fuel : Nat) : Ev.Spec := spg120 (F_ref07_room fuel)
theorem ok120 (fuel : Nat) : FnOK Try.prog 120 (spec120 fuel) := by
  intro args objs kk r h
  unfold spec120 spg120 at h
  split at h
  · skip
    obtain ⟨hb, h⟩ := cond_some' h
    simp only [Bool.and_eq_true, Nat.beq_eq, decide_eq_true_eq] at hb
    clear hb
    exact fok120 fuel _ _ kk r ((F120_eq fuel _ _ _ _ _ _ _ _ _ _ _ _ kk).trans h)
  · cases h
end Go.Proofs.Ytihfgpfofmjbaaa

set_option linter.unusedVariables false
set_option linter.unusedSimpArgs false
set_option maxRecDepth 100000
set_option maxHeartbeats 2000000
namespace Go.Proofs.Ytihfgpfofmjbaaa
open Go Ev
def kp124 (i : Nat) : Option (List Nat) := Ev.look i [(3, [2, 3, 4, 7, 8]), (100000, [7]), (400000, [6])]
noncomputable def Gg124 (f125 : YF125) (f : Nat) : Option Ev.Spec := Ev.look f [(125, spg125 f125)]
noncomputable def G124 (fuel : Nat) : Nat → Option Ev.Spec := Gg124 (F_ref05_At fuel)
noncomputable def Sg_ref07_typical_0 (fuel : Nat) (f125 : YF125) (x0 x1 : Int) (x2 x3 : Int) (x4 : (List Int)) (x5 x6 : Int) (x7 x8 : (List Int)) (c : (Int × Int × Int × Int × (List Int) × Int × Int × (List Int) × (List Int)) → Option Ans) (B : ((List Int) → Option Ans)) : Option Ans := match B with
 | b =>
  bif decide (x1 < x2) then
  (f125 (x2) (x3) (x4) (x1) (IntKind.i64.wrap (x0 - (1 : Int)))
  (fun y3 =>
  (f125 (x5) (x6) (x7) (x1) (x0)
  (fun y7 =>
  bif y7 == (1 : Int) then
  bif decide ((x8.length + [IntKind.u8.wrap (0 : Int)].length) * (1 : Nat) ≤ (140737488355328 : Nat) ∧ x8.length + [IntKind.u8.wrap (0 : Int)].length ≤ (140737488355328 : Nat)) then
  c (x0, IntKind.i64.wrap (x1 + (1 : Int)), x2, x3, x4, x5, x6, x7, x8 ++ [IntKind.u8.wrap (0 : Int)])
  else none
  else
  bif decide ((x8.length + [IntKind.u8.wrap y3].length) * (1 : Nat) ≤ (140737488355328 : Nat) ∧ x8.length + [IntKind.u8.wrap y3].length ≤ (140737488355328 : Nat)) then
  c (x0, IntKind.i64.wrap (x1 + (1 : Int)), x2, x3, x4, x5, x6, x7, x8 ++ [IntKind.u8.wrap y3])
  else none))))
  else
  b x8
noncomputable def S_ref07_typical_0 (fuel : Nat) (v : Int × Int × Int × Int × (List Int) × Int × Int × (List Int) × (List Int)) (c : (Int × Int × Int × Int × (List Int) × Int × Int × (List Int) × (List Int)) → Option Ans) (B : ((List Int) → Option Ans)) : Option Ans := match v with
 | (x0, x1, x2, x3, x4, x5, x6, x7, x8) => Sg_ref07_typical_0 fuel (F_ref05_At fuel) x0 x1 x2 x3 x4 x5 x6 x7 x8 c B
noncomputable def L_ref07_typical_0 (fuel : Nat) (v : Int × Int × Int × Int × (List Int) × Int × Int × (List Int) × (List Int)) (b : ((List Int) → Option Ans)) : Option Ans := iter (S_ref07_typical_0 fuel) fuel v b
noncomputable def J124_0 (fuel : Nat) (i : Nat) : Option Ev.Blk := Ev.look i []
noncomputable def T124_0 (v : Int × Int × Int × Int × (List Int) × Int × Int × (List Int) × (List Int)) : Ev.St := match v with | (x0, x1, x2, x3, x4, x5, x6, x7, x8) => ⟨[(2, .c (.int .i64 x0)), (3, .c (.ptr 0 0)), (4, .c (.ptr 1 0)), (7, .c (.own 2)), (8, .c (.int .i64 x1))], [(0, .cells 39 [.int .i64 x2, .int .i64 x3, .sl (.int .u8) x4]), (1, .cells 39 [.int .i64 x5, .int .i64 x6, .sl (.int .u8) x7]), (2, .vec 5 (.int .u8) x8 true)], 3, 0⟩
noncomputable def E124_0 (K : Ev.Ex → Ev.St → Option Ans) : ((List Int) → Option Ans) := (fun v => match v with | x0 => K .normal ⟨[(7, .c (.own 0))], [(0, .vec 5 (.int .u8) x0 true)], 1, 0⟩)
theorem S124_0_okg (fuel : Nat) (f125 : YF125) (R : Ev.St → Option Ans) (K : Ev.Ex → Ev.St → Option Ans) (x0 x1 : Int) (x2 x3 : Int) (x4 : (List Int)) (x5 x6 : Int) (x7 x8 : (List Int)) : evalCode tab (Gg124 f125) (J124_0 fuel) kp124 fuel (bodyOf 0 Try.f124) (T124_0 (x0, x1, x2, x3, x4, x5, x6, x7, x8)) (lc kp124 3 0 R K) = Sg_ref07_typical_0 fuel f125 x0 x1 x2 x3 x4 x5 x6 x7 x8 (fun v => R (T124_0 v)) (E124_0 K) := by
  kernel_rfl
theorem S124_0_ok (fuel : Nat) (R : Ev.St → Option Ans) (K : Ev.Ex → Ev.St → Option Ans) (x0 x1 : Int) (x2 x3 : Int) (x4 : (List Int)) (x5 x6 : Int) (x7 x8 : (List Int)) : evalCode tab (G124 fuel) (J124_0 fuel) kp124 fuel (bodyOf 0 Try.f124) (T124_0 (x0, x1, x2, x3, x4, x5, x6, x7, x8)) (lc kp124 3 0 R K) = S_ref07_typical_0 fuel (x0, x1, x2, x3, x4, x5, x6, x7, x8) (fun v => R (T124_0 v)) (E124_0 K) :=
  S124_0_okg fuel (F_ref05_At fuel) R K x0 x1 x2 x3 x4 x5 x6 x7 x8
noncomputable def B124_0 (fuel : Nat) : Ev.Blk := fun st K => match canonO (kp124 3) st with
 | some s => (match s with
 | ⟨[(q0, .c (.int .i64 x0)), (q1, .c (.ptr q2 q3)), (q4, .c (.ptr q5 q6)), (q7, .c (.own q8)), (q9, .c (.int .i64 x1))], [(q10, .cells q11 [.int .i64 x2, .int .i64 x3, .sl (.int .u8) x4]), (q12, .cells q13 [.int .i64 x5, .int .i64 x6, .sl (.int .u8) x7]), (q14, .vec q15 (.int .u8) x8 true)], q16, q17⟩ => bif Nat.beq q0 2 && Nat.beq q1 3 && Nat.beq q2 0 && Nat.beq q3 0 && Nat.beq q4 4 && Nat.beq q5 1 && Nat.beq q6 0 && Nat.beq q7 7 && Nat.beq q8 2 && Nat.beq q9 8 && Nat.beq q10 0 && Nat.beq q11 39 && Nat.beq q12 1 && Nat.beq q13 39 && Nat.beq q14 2 && Nat.beq q15 5 && Nat.beq q16 3 && Nat.beq q17 0 then iter (S_ref07_typical_0 fuel) fuel (x0, x1, x2, x3, x4, x5, x6, x7, x8) (E124_0 K) else none
 | _ => none)
 | none => none
theorem B124_0_ok (fuel : Nat) (st : Ev.St) (K : Ev.Ex → Ev.St → Option Ans) (r : Ans) (h : B124_0 fuel st K = some r) : evalCode tab (G124 fuel) (J124_0 fuel) kp124 fuel (.block 0 (.loop (bodyOf 0 Try.f124))) st K = some r := by
  unfold B124_0 at h
  split at h
  · rename_i s hs
    split at h
    · skip
      obtain ⟨hb, h⟩ := cond_some' h
      simp only [Bool.and_eq_true, Nat.beq_eq, decide_eq_true_eq] at hb
      obtain ⟨⟨⟨⟨⟨⟨⟨⟨⟨⟨⟨⟨⟨⟨⟨⟨⟨rfl, rfl⟩, rfl⟩, rfl⟩, rfl⟩, rfl⟩, rfl⟩, rfl⟩, rfl⟩, rfl⟩, rfl⟩, rfl⟩, rfl⟩, rfl⟩, rfl⟩, rfl⟩, rfl⟩, rfl⟩ := hb
      exact blk_loop (S := T124_0) (ks := E124_0) (step := S_ref07_typical_0 fuel) (v := (_, _, _, _, _, _, _, _, _)) (by kernel_rfl) (by kernel_rfl) (fun R K v => by obtain ⟨x0, x1, x2, x3, x4, x5, x6, x7, x8⟩ := v; exact S124_0_ok fuel R K x0 x1 x2 x3 x4 x5 x6 x7 x8) hs h
    · cases h
  · cases h
noncomputable def J124 (fuel : Nat) (i : Nat) : Option Ev.Blk := Ev.look i [(100000, B124_0 fuel)]
noncomputable def Fg_ref07_typical (fuel : Nat) (f125 : YF125) (x0 x1 : Int) (x2 : (List Int)) (x3 x4 : Int) (x5 : (List Int)) (x6 : Int) (k0 : ((List Int)) → Option Ans) : Option Ans :=
  (L_ref07_typical_0 fuel (x6, (0 : Int), x0, x1, x2, x3, x4, x5, [])
  (fun b0_0 =>
  k0 b0_0))
noncomputable def F_ref07_typical (fuel : Nat) (x0 x1 : Int) (x2 : (List Int)) (x3 x4 : Int) (x5 : (List Int)) (x6 : Int) (k0 : ((List Int)) → Option Ans) : Option Ans := Fg_ref07_typical fuel (F_ref05_At fuel) x0 x1 x2 x3 x4 x5 x6 k0
abbrev YF124 : Type := (Int) → (Int) → ((List Int)) → (Int) → (Int) → ((List Int)) → (Int) → (((List Int)) → Option Ans) → Option Ans
theorem F124_eqg (fuel : Nat) (f125 : YF125) (x0 x1 : Int) (x2 : (List Int)) (x3 x4 : Int) (x5 : (List Int)) (x6 : Int) (k : Ev.Cont) : evalFn tab (Gg124 f125) (J124 fuel) kp124 fuel Try.f124 [.agg [.int .i64 x0, .int .i64 x1, .sl (.int .u8) x2], .agg [.int .i64 x3, .int .i64 x4, .sl (.int .u8) x5], .c (.int .i64 x6)] [] k = Fg_ref07_typical fuel f125 x0 x1 x2 x3 x4 x5 x6 (fun r => match r with | r0 => k (.c (.own 0), [.vec 5 (.int .u8) r0 true])) := by
  kernel_rfl
theorem F124_eq (fuel : Nat) (x0 x1 : Int) (x2 : (List Int)) (x3 x4 : Int) (x5 : (List Int)) (x6 : Int) (k : Ev.Cont) : evalFn tab (G124 fuel) (J124 fuel) kp124 fuel Try.f124 [.agg [.int .i64 x0, .int .i64 x1, .sl (.int .u8) x2], .agg [.int .i64 x3, .int .i64 x4, .sl (.int .u8) x5], .c (.int .i64 x6)] [] k = F_ref07_typical fuel x0 x1 x2 x3 x4 x5 x6 (fun r => match r with | r0 => k (.c (.own 0), [.vec 5 (.int .u8) r0 true])) :=
  F124_eqg fuel (F_ref05_At fuel) x0 x1 x2 x3 x4 x5 x6 k
theorem hG124 (fuel : Nat) : GOK Try.prog (G124 fuel) :=
  gok_cons ⟨ok125 fuel, enters_of Try.func125 (by kernel_rfl) rfl⟩ <|
  gok_nil
theorem B124_0_blk (fuel : Nat) : BlkOK Try.prog Try.f124.ntmps (.block 0 (.loop (bodyOf 0 Try.f124))) (B124_0 fuel) :=
  blk_of (blk_of_code tab_ok (hG124 fuel) mixed (J := J124_0 fuel) (kp := kp124) (fuel := fuel) (by kernel_rfl) (fun q hq => by
    rw [(by kernel_rfl : obl (J124_0 fuel) (.block 0 (.loop (bodyOf 0 Try.f124))) = [])] at hq
    cases hq)) (B124_0_ok fuel)
theorem fok124 (fuel : Nat) : FnOK Try.prog 124 (evalFn tab (G124 fuel) (J124 fuel) kp124 fuel Try.f124) :=
  fn_ok tab_ok (hG124 fuel) mixed Try.func124 (c := (Try.f124.body).getD .skip) rfl (fun q hq => by
    rw [(by kernel_rfl : obl (J124 fuel) ((Try.f124.body).getD .skip) = [(.block 0 (.loop (bodyOf 0 Try.f124)), B124_0 fuel)])] at hq
    simp only [List.mem_cons, List.not_mem_nil, or_false] at hq
    subst hq
    · exact B124_0_blk fuel)
noncomputable def mt124 : List Ev.SV → List Ev.Ob → Bool := fun args objs => match args, objs with
 | [.agg [.int .i64 _, .int .i64 _, .sl (.int .u8) _], .agg [.int .i64 _, .int .i64 _, .sl (.int .u8) _], .c (.int .i64 _)], [] => true
 | _, _ => false
noncomputable def spg124 (F : YF124) : Ev.Spec := fun args objs k => match args, objs with
 | [.agg [.int .i64 x0, .int .i64 x1, .sl (.int .u8) x2], .agg [.int .i64 x3, .int .i64 x4, .sl (.int .u8) x5], .c (.int .i64 x6)], [] => bif true then F x0 x1 x2 x3 x4 x5 x6 (fun r => match r with | r0 => k (.c (.own 0), [.vec 5 (.int .u8) r0 true])) else none
 | _, _ => none
noncomputable def spec124 (fuel : Nat) : Ev.Spec := spg124 (F_ref07_typical fuel)
theorem ok124 (fuel : Nat) : FnOK Try.prog 124 (spec124 fuel) := by
  intro args objs kk r h
  unfold spec124 spg124 at h
  split at h
  · skip
    obtain ⟨hb, h⟩ := cond_some' h
    simp only [Bool.and_eq_true, Nat.beq_eq, decide_eq_true_eq] at hb
    clear hb
    exact fok124 fuel _ _ kk r ((F124_eq fuel _ _ _ _ _ _ _ kk).trans h)
  · cases h
end Go.Proofs.Ytihfgpfofmjbaaa

set_option linter.unusedVariables false
set_option linter.unusedSimpArgs false
set_option maxRecDepth 100000
set_option maxHeartbeats 2000000
namespace Go.Proofs.Ytihfgpfofmjbaaa
open Go Ev
def kp45_9c5 (i : Nat) : Option (List Nat) := Ev.look i [(11, [0, 1, 3, 4, 8, 11, 12, 15, 17, 19]), (20, [0, 1, 3, 4, 8, 11, 12, 15, 17, 19, 22]), (100000, [12, 17]), (100002, [0, 1, 3, 4, 8, 11, 12, 15, 17, 19]), (200005, [8, 11]), (200018, [11, 17]), (400000, [12, 13]), (400002, [12, 13])]
noncomputable def Gg45_9c5 (f81 : YF81) (f86 : YF86) (f109 : YF109) (f112 : YF112) (f120 : YF120) (f121_a7e : YF121_a7e) (f122 : YF122) (f123_0a6 : YF123_0a6) (f124 : YF124) (f125 : YF125) (f126 : YF126) (f127_a2e : YF127_a2e) (f : Nat) : Option Ev.Spec := Ev.look f [(81, spg81 f81), (86, spg86 f86), (109, spg109 f109), (112, spg112 f112), (120, spg120 f120), (121, spg121_a7e f121_a7e), (122, spg122 f122), (123, spg123_0a6 f123_0a6), (124, spg124 f124), (125, spg125 f125), (126, spg126 f126), (1000127, spg127_a2e f127_a2e)]
noncomputable def G45_9c5 (fuel : Nat) : Nat → Option Ev.Spec := Gg45_9c5 (F_ref05_New fuel) (F_ref05_Valid fuel) (F_ref07_Valid fuel) (F_ref05_Sides fuel) (F_ref07_room fuel) (F_ref02_Decoder_Model_a7e fuel) (F_ref07_Size fuel) (F_ref02_Decoder_Get_0a6 fuel) (F_ref07_typical fuel) (F_ref05_At fuel) (F_ref07_context fuel) (F_ref05_Put_a2e fuel)
noncomputable def Sg_ref07_Get_9c5_2 (fuel : Nat) (f81 : YF81) (f86 : YF86) (f109 : YF109) (f112 : YF112) (f120 : YF120) (f121_a7e : YF121_a7e) (f122 : YF122) (f123_0a6 : YF123_0a6) (f124 : YF124) (f125 : YF125) (f126 : YF126) (f127_a2e : YF127_a2e) (x0 x1 : Int) (x2 x3 : Int) (x4 x5 : Int) (x6 x7 : Int) (x8 x9 : Int) (x10 x11 : Int) (x12 : Bool) (x13 x14 : (List Int)) (x15 x16 x17 : Int) (x18 : Bool) (x19 x20 x21 : Int) (x22 : (List Int)) (x23 x24 : Int) (x25 x26 : Int) (x27 x28 : (List Int)) (c : (Int × Int × Int × Int × Int × Int × Int × Int × Int × Int × Int × Int × Bool × (List Int) × (List Int) × Int × Int × Int × Bool × Int × Int × Int × (List Int) × Int × Int × Int × Int × (List Int) × (List Int)) → Option Ans) (B : (Int × Int × Int × Int × Int × Int × Int × Bool × (List Int) × (List Int) × Int × Int × (List Int) → Option Ans) × (Int × Int × Int × Int × Int × Int × Int × Int × Int × Int × Int × Bool × (List Int) × (List Int) × Int × Int × Int × Bool × Int × Int × Int × (List Int) × Int × Int × Int × Int × (List Int) × (List Int) → Option Ans)) : Option Ans := match B with
 | (ret, b) =>
  bif decide (x5 < x1) then
  (f125 (x20) (x21) (x22) (x5) (x4)
  (fun y3 =>
  bif y3 == (1 : Int) then
  c (x0, x1, x2, x3, x4, IntKind.i64.wrap (x5 + (1 : Int)), x6, x7, x8, x9, x10, x11, x12, x13, x14, x15, x16, x17, x18, x19, x20, x21, x22, x23, x24, x25, x26, x27, x28)
  else
  (f126 (x15) (x16) (x17) (x18) (x19) (x25) (x26) (x28) (x5) (x4)
  (fun y8 =>
  (f123_0a6 (IntKind.i64.wrap (x0 + y8)) (x6) (x7) (x8) (x9) (x10) (x11) (x12) (x13) (x14)
  (fun (y12_0, y12_1, y12_2, y12_3, y12_4, y12_5, y12_6, y12_7, y12_8, y12_9, y12_10) =>
  bif y12_1 != (0 : Int) then
  ret (y12_1, y12_2, y12_3, y12_4, y12_5, y12_6, y12_7, y12_8, y12_9, y12_10, (0 : Int), (0 : Int), [])
  else
  (f127_a2e (x25) (x26) (x5) (x4) (y12_0) (x28)
  (fun y17 =>
  c (x0, x1, x2, x3, x4, IntKind.i64.wrap (x5 + (1 : Int)), y12_2, y12_3, y12_4, y12_5, y12_6, y12_7, y12_8, y12_9, y12_10, x15, x16, x17, x18, x19, x20, x21, x22, x23, x24, x25, x26, x27, y17)))))))))
  else
  b (x0, x1, x2, x3, x4, x6, x7, x8, x9, x10, x11, x12, x13, x14, x15, x16, x17, x18, x19, x20, x21, x22, x23, x24, x25, x26, x27, x28)
noncomputable def S_ref07_Get_9c5_2 (fuel : Nat) (v : Int × Int × Int × Int × Int × Int × Int × Int × Int × Int × Int × Int × Bool × (List Int) × (List Int) × Int × Int × Int × Bool × Int × Int × Int × (List Int) × Int × Int × Int × Int × (List Int) × (List Int)) (c : (Int × Int × Int × Int × Int × Int × Int × Int × Int × Int × Int × Int × Bool × (List Int) × (List Int) × Int × Int × Int × Bool × Int × Int × Int × (List Int) × Int × Int × Int × Int × (List Int) × (List Int)) → Option Ans) (B : (Int × Int × Int × Int × Int × Int × Int × Bool × (List Int) × (List Int) × Int × Int × (List Int) → Option Ans) × (Int × Int × Int × Int × Int × Int × Int × Int × Int × Int × Int × Bool × (List Int) × (List Int) × Int × Int × Int × Bool × Int × Int × Int × (List Int) × Int × Int × Int × Int × (List Int) × (List Int) → Option Ans)) : Option Ans := match v with
 | (x0, x1, x2, x3, x4, x5, x6, x7, x8, x9, x10, x11, x12, x13, x14, x15, x16, x17, x18, x19, x20, x21, x22, x23, x24, x25, x26, x27, x28) => Sg_ref07_Get_9c5_2 fuel (F_ref05_New fuel) (F_ref05_Valid fuel) (F_ref07_Valid fuel) (F_ref05_Sides fuel) (F_ref07_room fuel) (F_ref02_Decoder_Model_a7e fuel) (F_ref07_Size fuel) (F_ref02_Decoder_Get_0a6 fuel) (F_ref07_typical fuel) (F_ref05_At fuel) (F_ref07_context fuel) (F_ref05_Put_a2e fuel) x0 x1 x2 x3 x4 x5 x6 x7 x8 x9 x10 x11 x12 x13 x14 x15 x16 x17 x18 x19 x20 x21 x22 x23 x24 x25 x26 x27 x28 c B
noncomputable def L_ref07_Get_9c5_2 (fuel : Nat) (v : Int × Int × Int × Int × Int × Int × Int × Int × Int × Int × Int × Int × Bool × (List Int) × (List Int) × Int × Int × Int × Bool × Int × Int × Int × (List Int) × Int × Int × Int × Int × (List Int) × (List Int)) (ret : (Int × Int × Int × Int × Int × Int × Int × Bool × (List Int) × (List Int) × Int × Int × (List Int) → Option Ans)) (b : (Int × Int × Int × Int × Int × Int × Int × Int × Int × Int × Int × Bool × (List Int) × (List Int) × Int × Int × Int × Bool × Int × Int × Int × (List Int) × Int × Int × Int × Int × (List Int) × (List Int) → Option Ans)) : Option Ans := iter (S_ref07_Get_9c5_2 fuel) fuel v (ret, b)
noncomputable def J45_9c5_2 (fuel : Nat) (i : Nat) : Option Ev.Blk := Ev.look i []
noncomputable def T45_9c5_2 (v : Int × Int × Int × Int × Int × Int × Int × Int × Int × Int × Int × Int × Bool × (List Int) × (List Int) × Int × Int × Int × Bool × Int × Int × Int × (List Int) × Int × Int × Int × Int × (List Int) × (List Int)) : Ev.St := match v with | (x0, x1, x2, x3, x4, x5, x6, x7, x8, x9, x10, x11, x12, x13, x14, x15, x16, x17, x18, x19, x20, x21, x22, x23, x24, x25, x26, x27, x28) => ⟨[(0, .c (.ptr 0 0)), (1, .c (.int .i64 x0)), (3, .c (.int .i64 x1)), (4, .c (.int .i64 x2)), (8, .c (.ptr 3 0)), (11, .c (.ptr 4 0)), (12, .c (.ptr 5 0)), (15, .c (.int .i64 x3)), (17, .c (.ptr 6 0)), (19, .c (.int .i64 x4)), (22, .c (.int .i64 x5))], [(0, .cells 164 [.int .i64 x6, .own 1, .int .u64 x7, .int .u64 x8, .own 2, .int .i64 x9, .int .u64 x10, .int .i64 x11, .bool x12]), (1, .vec 3 (.int .i64) x13 false), (2, .vec 5 (.int .u8) x14 false), (3, .cells 46 [.int .i64 x15, .int .i64 x16, .int .i64 x17, .bool x18, .int .i64 x19]), (4, .cells 39 [.int .i64 x20, .int .i64 x21, .sl (.int .u8) x22]), (5, .cells 39 [.int .i64 x23, .int .i64 x24, .own 7]), (6, .cells 39 [.int .i64 x25, .int .i64 x26, .own 8]), (7, .vec 5 (.int .u8) x27 true), (8, .vec 5 (.int .u8) x28 true)], 9, 3⟩
noncomputable def E45_9c5_2 (K : Ev.Ex → Ev.St → Option Ans) : (Int × Int × Int × Int × Int × Int × Int × Bool × (List Int) × (List Int) × Int × Int × (List Int) → Option Ans) × (Int × Int × Int × Int × Int × Int × Int × Int × Int × Int × Int × Bool × (List Int) × (List Int) × Int × Int × Int × Bool × Int × Int × Int × (List Int) × Int × Int × Int × Int × (List Int) × (List Int) → Option Ans) := ((fun v => match v with | (x0, x1, x2, x3, x4, x5, x6, x7, x8, x9, x10, x11, x12) => K .ret ⟨[(12, .c (.ptr 3 0)), (13, .c (.int .i64 x0))], [(0, .cells 164 [.int .i64 x1, .own 1, .int .u64 x2, .int .u64 x3, .own 2, .int .i64 x4, .int .u64 x5, .int .i64 x6, .bool x7]), (1, .vec 3 (.int .i64) x8 false), (2, .vec 5 (.int .u8) x9 false), (3, .cells 39 [.int .i64 x10, .int .i64 x11, .own 4]), (4, .vec 5 (.int .u8) x12 true)], 5, 3⟩), (fun v => match v with | (x0, x1, x2, x3, x4, x5, x6, x7, x8, x9, x10, x11, x12, x13, x14, x15, x16, x17, x18, x19, x20, x21, x22, x23, x24, x25, x26, x27) => K .normal ⟨[(0, .c (.ptr 0 0)), (1, .c (.int .i64 x0)), (3, .c (.int .i64 x1)), (4, .c (.int .i64 x2)), (8, .c (.ptr 3 0)), (11, .c (.ptr 4 0)), (12, .c (.ptr 5 0)), (15, .c (.int .i64 x3)), (17, .c (.ptr 6 0)), (19, .c (.int .i64 x4))], [(0, .cells 164 [.int .i64 x5, .own 1, .int .u64 x6, .int .u64 x7, .own 2, .int .i64 x8, .int .u64 x9, .int .i64 x10, .bool x11]), (1, .vec 3 (.int .i64) x12 false), (2, .vec 5 (.int .u8) x13 false), (3, .cells 46 [.int .i64 x14, .int .i64 x15, .int .i64 x16, .bool x17, .int .i64 x18]), (4, .cells 39 [.int .i64 x19, .int .i64 x20, .sl (.int .u8) x21]), (5, .cells 39 [.int .i64 x22, .int .i64 x23, .own 7]), (6, .cells 39 [.int .i64 x24, .int .i64 x25, .own 8]), (7, .vec 5 (.int .u8) x26 true), (8, .vec 5 (.int .u8) x27 true)], 9, 3⟩))
theorem S45_9c5_2_okg (fuel : Nat) (f81 : YF81) (f86 : YF86) (f109 : YF109) (f112 : YF112) (f120 : YF120) (f121_a7e : YF121_a7e) (f122 : YF122) (f123_0a6 : YF123_0a6) (f124 : YF124) (f125 : YF125) (f126 : YF126) (f127_a2e : YF127_a2e) (R : Ev.St → Option Ans) (K : Ev.Ex → Ev.St → Option Ans) (x0 x1 : Int) (x2 x3 : Int) (x4 x5 : Int) (x6 x7 : Int) (x8 x9 : Int) (x10 x11 : Int) (x12 : Bool) (x13 x14 : (List Int)) (x15 x16 x17 : Int) (x18 : Bool) (x19 x20 x21 : Int) (x22 : (List Int)) (x23 x24 : Int) (x25 x26 : Int) (x27 x28 : (List Int)) : evalCode tab (Gg45_9c5 f81 f86 f109 f112 f120 f121_a7e f122 f123_0a6 f124 f125 f126 f127_a2e) (J45_9c5_2 fuel) kp45_9c5 fuel (bodyOf 2 Try.f45) (T45_9c5_2 (x0, x1, x2, x3, x4, x5, x6, x7, x8, x9, x10, x11, x12, x13, x14, x15, x16, x17, x18, x19, x20, x21, x22, x23, x24, x25, x26, x27, x28)) (lc kp45_9c5 20 2 R K) = Sg_ref07_Get_9c5_2 fuel f81 f86 f109 f112 f120 f121_a7e f122 f123_0a6 f124 f125 f126 f127_a2e x0 x1 x2 x3 x4 x5 x6 x7 x8 x9 x10 x11 x12 x13 x14 x15 x16 x17 x18 x19 x20 x21 x22 x23 x24 x25 x26 x27 x28 (fun v => R (T45_9c5_2 v)) (E45_9c5_2 K) := by
  kernel_rfl
theorem S45_9c5_2_ok (fuel : Nat) (R : Ev.St → Option Ans) (K : Ev.Ex → Ev.St → Option Ans) (x0 x1 : Int) (x2 x3 : Int) (x4 x5 : Int) (x6 x7 : Int) (x8 x9 : Int) (x10 x11 : Int) (x12 : Bool) (x13 x14 : (List Int)) (x15 x16 x17 : Int) (x18 : Bool) (x19 x20 x21 : Int) (x22 : (List Int)) (x23 x24 : Int) (x25 x26 : Int) (x27 x28 : (List Int)) : evalCode tab (G45_9c5 fuel) (J45_9c5_2 fuel) kp45_9c5 fuel (bodyOf 2 Try.f45) (T45_9c5_2 (x0, x1, x2, x3, x4, x5, x6, x7, x8, x9, x10, x11, x12, x13, x14, x15, x16, x17, x18, x19, x20, x21, x22, x23, x24, x25, x26, x27, x28)) (lc kp45_9c5 20 2 R K) = S_ref07_Get_9c5_2 fuel (x0, x1, x2, x3, x4, x5, x6, x7, x8, x9, x10, x11, x12, x13, x14, x15, x16, x17, x18, x19, x20, x21, x22, x23, x24, x25, x26, x27, x28) (fun v => R (T45_9c5_2 v)) (E45_9c5_2 K) :=
  S45_9c5_2_okg fuel (F_ref05_New fuel) (F_ref05_Valid fuel) (F_ref07_Valid fuel) (F_ref05_Sides fuel) (F_ref07_room fuel) (F_ref02_Decoder_Model_a7e fuel) (F_ref07_Size fuel) (F_ref02_Decoder_Get_0a6 fuel) (F_ref07_typical fuel) (F_ref05_At fuel) (F_ref07_context fuel) (F_ref05_Put_a2e fuel) R K x0 x1 x2 x3 x4 x5 x6 x7 x8 x9 x10 x11 x12 x13 x14 x15 x16 x17 x18 x19 x20 x21 x22 x23 x24 x25 x26 x27 x28
noncomputable def B45_9c5_2 (fuel : Nat) : Ev.Blk := fun st K => match canonO (kp45_9c5 20) st with
 | some s => (match s with
 | ⟨[(q0, .c (.ptr q1 q2)), (q3, .c (.int .i64 x0)), (q4, .c (.int .i64 x1)), (q5, .c (.int .i64 x2)), (q6, .c (.ptr q7 q8)), (q9, .c (.ptr q10 q11)), (q12, .c (.ptr q13 q14)), (q15, .c (.int .i64 x3)), (q16, .c (.ptr q17 q18)), (q19, .c (.int .i64 x4)), (q20, .c (.int .i64 x5))], [(q21, .cells q22 [.int .i64 x6, .own q23, .int .u64 x7, .int .u64 x8, .own q24, .int .i64 x9, .int .u64 x10, .int .i64 x11, .bool x12]), (q25, .vec q26 (.int .i64) x13 false), (q27, .vec q28 (.int .u8) x14 false), (q29, .cells q30 [.int .i64 x15, .int .i64 x16, .int .i64 x17, .bool x18, .int .i64 x19]), (q31, .cells q32 [.int .i64 x20, .int .i64 x21, .sl (.int .u8) x22]), (q33, .cells q34 [.int .i64 x23, .int .i64 x24, .own q35]), (q36, .cells q37 [.int .i64 x25, .int .i64 x26, .own q38]), (q39, .vec q40 (.int .u8) x27 true), (q41, .vec q42 (.int .u8) x28 true)], q43, q44⟩ => bif Nat.beq q0 0 && Nat.beq q1 0 && Nat.beq q2 0 && Nat.beq q3 1 && Nat.beq q4 3 && Nat.beq q5 4 && Nat.beq q6 8 && Nat.beq q7 3 && Nat.beq q8 0 && Nat.beq q9 11 && Nat.beq q10 4 && Nat.beq q11 0 && Nat.beq q12 12 && Nat.beq q13 5 && Nat.beq q14 0 && Nat.beq q15 15 && Nat.beq q16 17 && Nat.beq q17 6 && Nat.beq q18 0 && Nat.beq q19 19 && Nat.beq q20 22 && Nat.beq q21 0 && Nat.beq q22 164 && Nat.beq q23 1 && Nat.beq q24 2 && Nat.beq q25 1 && Nat.beq q26 3 && Nat.beq q27 2 && Nat.beq q28 5 && Nat.beq q29 3 && Nat.beq q30 46 && Nat.beq q31 4 && Nat.beq q32 39 && Nat.beq q33 5 && Nat.beq q34 39 && Nat.beq q35 7 && Nat.beq q36 6 && Nat.beq q37 39 && Nat.beq q38 8 && Nat.beq q39 7 && Nat.beq q40 5 && Nat.beq q41 8 && Nat.beq q42 5 && Nat.beq q43 9 && Nat.beq q44 3 then iter (S_ref07_Get_9c5_2 fuel) fuel (x0, x1, x2, x3, x4, x5, x6, x7, x8, x9, x10, x11, x12, x13, x14, x15, x16, x17, x18, x19, x20, x21, x22, x23, x24, x25, x26, x27, x28) (E45_9c5_2 K) else none
 | _ => none)
 | none => none
theorem B45_9c5_2_ok (fuel : Nat) (st : Ev.St) (K : Ev.Ex → Ev.St → Option Ans) (r : Ans) (h : B45_9c5_2 fuel st K = some r) : evalCode tab (G45_9c5 fuel) (J45_9c5_2 fuel) kp45_9c5 fuel (.block 2 (.loop (bodyOf 2 Try.f45))) st K = some r := by
  unfold B45_9c5_2 at h
  split at h
  · rename_i s hs
    split at h
    · skip
      obtain ⟨hb, h⟩ := cond_some' h
      simp only [Bool.and_eq_true, Nat.beq_eq, decide_eq_true_eq] at hb
      obtain ⟨⟨⟨⟨⟨⟨⟨⟨⟨⟨⟨⟨⟨⟨⟨⟨⟨⟨⟨⟨⟨⟨⟨⟨⟨⟨⟨⟨⟨⟨⟨⟨⟨⟨⟨⟨⟨⟨⟨⟨⟨⟨⟨⟨rfl, rfl⟩, rfl⟩, rfl⟩, rfl⟩, rfl⟩, rfl⟩, rfl⟩, rfl⟩, rfl⟩, rfl⟩, rfl⟩, rfl⟩, rfl⟩, rfl⟩, rfl⟩, rfl⟩, rfl⟩, rfl⟩, rfl⟩, rfl⟩, rfl⟩, rfl⟩, rfl⟩, rfl⟩, rfl⟩, rfl⟩, rfl⟩, rfl⟩, rfl⟩, rfl⟩, rfl⟩, rfl⟩, rfl⟩, rfl⟩, rfl⟩, rfl⟩, rfl⟩, rfl⟩, rfl⟩, rfl⟩, rfl⟩, rfl⟩, rfl⟩, rfl⟩ := hb
      exact blk_loop (S := T45_9c5_2) (ks := E45_9c5_2) (step := S_ref07_Get_9c5_2 fuel) (v := (_, _, _, _, _, _, _, _, _, _, _, _, _, _, _, _, _, _, _, _, _, _, _, _, _, _, _, _, _)) (by kernel_rfl) (by kernel_rfl) (fun R K v => by obtain ⟨x0, x1, x2, x3, x4, x5, x6, x7, x8, x9, x10, x11, x12, x13, x14, x15, x16, x17, x18, x19, x20, x21, x22, x23, x24, x25, x26, x27, x28⟩ := v; exact S45_9c5_2_ok fuel R K x0 x1 x2 x3 x4 x5 x6 x7 x8 x9 x10 x11 x12 x13 x14 x15 x16 x17 x18 x19 x20 x21 x22 x23 x24 x25 x26 x27 x28) hs h
    · cases h
  · cases h
noncomputable def Sg_ref07_Get_9c5_0 (fuel : Nat) (f81 : YF81) (f86 : YF86) (f109 : YF109) (f112 : YF112) (f120 : YF120) (f121_a7e : YF121_a7e) (f122 : YF122) (f123_0a6 : YF123_0a6) (f124 : YF124) (f125 : YF125) (f126 : YF126) (f127_a2e : YF127_a2e) (x0 x1 : Int) (x2 x3 : Int) (x4 x5 : Int) (x6 x7 : Int) (x8 x9 x10 : Int) (x11 : Bool) (x12 x13 : (List Int)) (x14 x15 x16 : Int) (x17 : Bool) (x18 x19 x20 : Int) (x21 : (List Int)) (x22 x23 : Int) (x24 x25 : Int) (x26 x27 : (List Int)) (c : (Int × Int × Int × Int × Int × Int × Int × Int × Int × Int × Int × Bool × (List Int) × (List Int) × Int × Int × Int × Bool × Int × Int × Int × (List Int) × Int × Int × Int × Int × (List Int) × (List Int)) → Option Ans) (B : (Int × Int × Int × Int × Int × Int × Int × Bool × (List Int) × (List Int) × Int × Int × (List Int) → Option Ans) × (Int × Int × Int × Int × Int × Int × Bool × (List Int) × (List Int) × Int × Int × Int × Int × (List Int) × (List Int) → Option Ans)) : Option Ans := match B with
 | (ret, b) =>
  bif decide (x4 < x2) then
  bif x17 then
  (f123_0a6 (IntKind.i64.wrap (IntKind.i64.wrap (x0 + x3) - (1 : Int))) (x5) (x6) (x7) (x8) (x9) (x10) (x11) (x12) (x13)
  (fun (y4_0, y4_1, y4_2, y4_3, y4_4, y4_5, y4_6, y4_7, y4_8, y4_9, y4_10) =>
  bif y4_1 != (0 : Int) then
  ret (y4_1, y4_2, y4_3, y4_4, y4_5, y4_6, y4_7, y4_8, y4_9, y4_10, (0 : Int), (0 : Int), [])
  else
  bif y4_0 == (1 : Int) then
  bif decide ((0 : Int) ≤ Ev.loOf (some (IntKind.i64.wrap (x4 * x1))) ∧ Ev.loOf (some (IntKind.i64.wrap (x4 * x1))) ≤ Ev.hiOf Option.none (↑x27.length : Int) ∧ Ev.hiOf Option.none (↑x27.length : Int) ≤ (↑x27.length : Int)) then
  (f124 (x24) (x25) (x27) (x19) (x20) (x21) (x4)
  (fun y11 =>
  c (x0, x1, x2, x3, IntKind.i64.wrap (x4 + (1 : Int)), y4_2, y4_3, y4_4, y4_5, y4_6, y4_7, y4_8, y4_9, y4_10, x14, x15, x16, x17, x18, x19, x20, x21, x22, x23, x24, x25, x26, List.take (Ev.loOf (some (IntKind.i64.wrap (x4 * x1)))).toNat x27 ++ List.take (Ev.hiOf Option.none (↑x27.length : Int) - Ev.loOf (some (IntKind.i64.wrap (x4 * x1)))).toNat y11 ++ List.drop ((Ev.loOf (some (IntKind.i64.wrap (x4 * x1)))).toNat + Min.min (Ev.hiOf Option.none (↑x27.length : Int) - Ev.loOf (some (IntKind.i64.wrap (x4 * x1)))).toNat y11.length) x27)))
  else none
  else
  (L_ref07_Get_9c5_2 fuel (x0, x1, x2, x3, x4, (0 : Int), y4_2, y4_3, y4_4, y4_5, y4_6, y4_7, y4_8, y4_9, y4_10, x14, x15, x16, x17, x18, x19, x20, x21, x22, x23, x24, x25, x26, x27)
  (fun (ret2_0, ret2_1, ret2_2, ret2_3, ret2_4, ret2_5, ret2_6, ret2_7, ret2_8, ret2_9, ret2_10, ret2_11, ret2_12) =>
  ret (ret2_0, ret2_1, ret2_2, ret2_3, ret2_4, ret2_5, ret2_6, ret2_7, ret2_8, ret2_9, ret2_10, ret2_11, ret2_12))
  (fun (b2_0, b2_1, b2_2, b2_3, b2_4, b2_5, b2_6, b2_7, b2_8, b2_9, b2_10, b2_11, b2_12, b2_13, b2_14, b2_15, b2_16, b2_17, b2_18, b2_19, b2_20, b2_21, b2_22, b2_23, b2_24, b2_25, b2_26, b2_27) =>
  c (b2_0, b2_1, b2_2, b2_3, IntKind.i64.wrap (b2_4 + (1 : Int)), b2_5, b2_6, b2_7, b2_8, b2_9, b2_10, b2_11, b2_12, b2_13, b2_14, b2_15, b2_16, b2_17, b2_18, b2_19, b2_20, b2_21, b2_22, b2_23, b2_24, b2_25, b2_26, b2_27)))))
  else
  (L_ref07_Get_9c5_2 fuel (x0, x1, x2, x3, x4, (0 : Int), x5, x6, x7, x8, x9, x10, x11, x12, x13, x14, x15, x16, x17, x18, x19, x20, x21, x22, x23, x24, x25, x26, x27)
  (fun (ret2_0, ret2_1, ret2_2, ret2_3, ret2_4, ret2_5, ret2_6, ret2_7, ret2_8, ret2_9, ret2_10, ret2_11, ret2_12) =>
  ret (ret2_0, ret2_1, ret2_2, ret2_3, ret2_4, ret2_5, ret2_6, ret2_7, ret2_8, ret2_9, ret2_10, ret2_11, ret2_12))
  (fun (b2_0, b2_1, b2_2, b2_3, b2_4, b2_5, b2_6, b2_7, b2_8, b2_9, b2_10, b2_11, b2_12, b2_13, b2_14, b2_15, b2_16, b2_17, b2_18, b2_19, b2_20, b2_21, b2_22, b2_23, b2_24, b2_25, b2_26, b2_27) =>
  c (b2_0, b2_1, b2_2, b2_3, IntKind.i64.wrap (b2_4 + (1 : Int)), b2_5, b2_6, b2_7, b2_8, b2_9, b2_10, b2_11, b2_12, b2_13, b2_14, b2_15, b2_16, b2_17, b2_18, b2_19, b2_20, b2_21, b2_22, b2_23, b2_24, b2_25, b2_26, b2_27)))
  else
  b (x5, x6, x7, x8, x9, x10, x11, x12, x13, x22, x23, x24, x25, x26, x27)
noncomputable def S_ref07_Get_9c5_0 (fuel : Nat) (v : Int × Int × Int × Int × Int × Int × Int × Int × Int × Int × Int × Bool × (List Int) × (List Int) × Int × Int × Int × Bool × Int × Int × Int × (List Int) × Int × Int × Int × Int × (List Int) × (List Int)) (c : (Int × Int × Int × Int × Int × Int × Int × Int × Int × Int × Int × Bool × (List Int) × (List Int) × Int × Int × Int × Bool × Int × Int × Int × (List Int) × Int × Int × Int × Int × (List Int) × (List Int)) → Option Ans) (B : (Int × Int × Int × Int × Int × Int × Int × Bool × (List Int) × (List Int) × Int × Int × (List Int) → Option Ans) × (Int × Int × Int × Int × Int × Int × Bool × (List Int) × (List Int) × Int × Int × Int × Int × (List Int) × (List Int) → Option Ans)) : Option Ans := match v with
 | (x0, x1, x2, x3, x4, x5, x6, x7, x8, x9, x10, x11, x12, x13, x14, x15, x16, x17, x18, x19, x20, x21, x22, x23, x24, x25, x26, x27) => Sg_ref07_Get_9c5_0 fuel (F_ref05_New fuel) (F_ref05_Valid fuel) (F_ref07_Valid fuel) (F_ref05_Sides fuel) (F_ref07_room fuel) (F_ref02_Decoder_Model_a7e fuel) (F_ref07_Size fuel) (F_ref02_Decoder_Get_0a6 fuel) (F_ref07_typical fuel) (F_ref05_At fuel) (F_ref07_context fuel) (F_ref05_Put_a2e fuel) x0 x1 x2 x3 x4 x5 x6 x7 x8 x9 x10 x11 x12 x13 x14 x15 x16 x17 x18 x19 x20 x21 x22 x23 x24 x25 x26 x27 c B
noncomputable def L_ref07_Get_9c5_0 (fuel : Nat) (v : Int × Int × Int × Int × Int × Int × Int × Int × Int × Int × Int × Bool × (List Int) × (List Int) × Int × Int × Int × Bool × Int × Int × Int × (List Int) × Int × Int × Int × Int × (List Int) × (List Int)) (ret : (Int × Int × Int × Int × Int × Int × Int × Bool × (List Int) × (List Int) × Int × Int × (List Int) → Option Ans)) (b : (Int × Int × Int × Int × Int × Int × Bool × (List Int) × (List Int) × Int × Int × Int × Int × (List Int) × (List Int) → Option Ans)) : Option Ans := iter (S_ref07_Get_9c5_0 fuel) fuel v (ret, b)
noncomputable def J45_9c5_0 (fuel : Nat) (i : Nat) : Option Ev.Blk := Ev.look i [(100002, B45_9c5_2 fuel)]
noncomputable def T45_9c5_0 (v : Int × Int × Int × Int × Int × Int × Int × Int × Int × Int × Int × Bool × (List Int) × (List Int) × Int × Int × Int × Bool × Int × Int × Int × (List Int) × Int × Int × Int × Int × (List Int) × (List Int)) : Ev.St := match v with | (x0, x1, x2, x3, x4, x5, x6, x7, x8, x9, x10, x11, x12, x13, x14, x15, x16, x17, x18, x19, x20, x21, x22, x23, x24, x25, x26, x27) => ⟨[(0, .c (.ptr 0 0)), (1, .c (.int .i64 x0)), (3, .c (.int .i64 x1)), (4, .c (.int .i64 x2)), (8, .c (.ptr 3 0)), (11, .c (.ptr 4 0)), (12, .c (.ptr 5 0)), (15, .c (.int .i64 x3)), (17, .c (.ptr 6 0)), (19, .c (.int .i64 x4))], [(0, .cells 164 [.int .i64 x5, .own 1, .int .u64 x6, .int .u64 x7, .own 2, .int .i64 x8, .int .u64 x9, .int .i64 x10, .bool x11]), (1, .vec 3 (.int .i64) x12 false), (2, .vec 5 (.int .u8) x13 false), (3, .cells 46 [.int .i64 x14, .int .i64 x15, .int .i64 x16, .bool x17, .int .i64 x18]), (4, .cells 39 [.int .i64 x19, .int .i64 x20, .sl (.int .u8) x21]), (5, .cells 39 [.int .i64 x22, .int .i64 x23, .own 7]), (6, .cells 39 [.int .i64 x24, .int .i64 x25, .own 8]), (7, .vec 5 (.int .u8) x26 true), (8, .vec 5 (.int .u8) x27 true)], 9, 3⟩
noncomputable def E45_9c5_0 (K : Ev.Ex → Ev.St → Option Ans) : (Int × Int × Int × Int × Int × Int × Int × Bool × (List Int) × (List Int) × Int × Int × (List Int) → Option Ans) × (Int × Int × Int × Int × Int × Int × Bool × (List Int) × (List Int) × Int × Int × Int × Int × (List Int) × (List Int) → Option Ans) := ((fun v => match v with | (x0, x1, x2, x3, x4, x5, x6, x7, x8, x9, x10, x11, x12) => K .ret ⟨[(12, .c (.ptr 3 0)), (13, .c (.int .i64 x0))], [(0, .cells 164 [.int .i64 x1, .own 1, .int .u64 x2, .int .u64 x3, .own 2, .int .i64 x4, .int .u64 x5, .int .i64 x6, .bool x7]), (1, .vec 3 (.int .i64) x8 false), (2, .vec 5 (.int .u8) x9 false), (3, .cells 39 [.int .i64 x10, .int .i64 x11, .own 4]), (4, .vec 5 (.int .u8) x12 true)], 5, 3⟩), (fun v => match v with | (x0, x1, x2, x3, x4, x5, x6, x7, x8, x9, x10, x11, x12, x13, x14) => K .normal ⟨[(12, .c (.ptr 3 0)), (17, .c (.ptr 4 0))], [(0, .cells 164 [.int .i64 x0, .own 1, .int .u64 x1, .int .u64 x2, .own 2, .int .i64 x3, .int .u64 x4, .int .i64 x5, .bool x6]), (1, .vec 3 (.int .i64) x7 false), (2, .vec 5 (.int .u8) x8 false), (3, .cells 39 [.int .i64 x9, .int .i64 x10, .own 5]), (4, .cells 39 [.int .i64 x11, .int .i64 x12, .own 6]), (5, .vec 5 (.int .u8) x13 true), (6, .vec 5 (.int .u8) x14 true)], 7, 3⟩))
theorem S45_9c5_0_okg (fuel : Nat) (f81 : YF81) (f86 : YF86) (f109 : YF109) (f112 : YF112) (f120 : YF120) (f121_a7e : YF121_a7e) (f122 : YF122) (f123_0a6 : YF123_0a6) (f124 : YF124) (f125 : YF125) (f126 : YF126) (f127_a2e : YF127_a2e) (R : Ev.St → Option Ans) (K : Ev.Ex → Ev.St → Option Ans) (x0 x1 : Int) (x2 x3 : Int) (x4 x5 : Int) (x6 x7 : Int) (x8 x9 x10 : Int) (x11 : Bool) (x12 x13 : (List Int)) (x14 x15 x16 : Int) (x17 : Bool) (x18 x19 x20 : Int) (x21 : (List Int)) (x22 x23 : Int) (x24 x25 : Int) (x26 x27 : (List Int)) : evalCode tab (Gg45_9c5 f81 f86 f109 f112 f120 f121_a7e f122 f123_0a6 f124 f125 f126 f127_a2e) (J45_9c5_0 fuel) kp45_9c5 fuel (bodyOf 0 Try.f45) (T45_9c5_0 (x0, x1, x2, x3, x4, x5, x6, x7, x8, x9, x10, x11, x12, x13, x14, x15, x16, x17, x18, x19, x20, x21, x22, x23, x24, x25, x26, x27)) (lc kp45_9c5 11 0 R K) = Sg_ref07_Get_9c5_0 fuel f81 f86 f109 f112 f120 f121_a7e f122 f123_0a6 f124 f125 f126 f127_a2e x0 x1 x2 x3 x4 x5 x6 x7 x8 x9 x10 x11 x12 x13 x14 x15 x16 x17 x18 x19 x20 x21 x22 x23 x24 x25 x26 x27 (fun v => R (T45_9c5_0 v)) (E45_9c5_0 K) := by
  kernel_rfl
theorem S45_9c5_0_ok (fuel : Nat) (R : Ev.St → Option Ans) (K : Ev.Ex → Ev.St → Option Ans) (x0 x1 : Int) (x2 x3 : Int) (x4 x5 : Int) (x6 x7 : Int) (x8 x9 x10 : Int) (x11 : Bool) (x12 x13 : (List Int)) (x14 x15 x16 : Int) (x17 : Bool) (x18 x19 x20 : Int) (x21 : (List Int)) (x22 x23 : Int) (x24 x25 : Int) (x26 x27 : (List Int)) : evalCode tab (G45_9c5 fuel) (J45_9c5_0 fuel) kp45_9c5 fuel (bodyOf 0 Try.f45) (T45_9c5_0 (x0, x1, x2, x3, x4, x5, x6, x7, x8, x9, x10, x11, x12, x13, x14, x15, x16, x17, x18, x19, x20, x21, x22, x23, x24, x25, x26, x27)) (lc kp45_9c5 11 0 R K) = S_ref07_Get_9c5_0 fuel (x0, x1, x2, x3, x4, x5, x6, x7, x8, x9, x10, x11, x12, x13, x14, x15, x16, x17, x18, x19, x20, x21, x22, x23, x24, x25, x26, x27) (fun v => R (T45_9c5_0 v)) (E45_9c5_0 K) :=
  S45_9c5_0_okg fuel (F_ref05_New fuel) (F_ref05_Valid fuel) (F_ref07_Valid fuel) (F_ref05_Sides fuel) (F_ref07_room fuel) (F_ref02_Decoder_Model_a7e fuel) (F_ref07_Size fuel) (F_ref02_Decoder_Get_0a6 fuel) (F_ref07_typical fuel) (F_ref05_At fuel) (F_ref07_context fuel) (F_ref05_Put_a2e fuel) R K x0 x1 x2 x3 x4 x5 x6 x7 x8 x9 x10 x11 x12 x13 x14 x15 x16 x17 x18 x19 x20 x21 x22 x23 x24 x25 x26 x27
noncomputable def B45_9c5_0 (fuel : Nat) : Ev.Blk := fun st K => match canonO (kp45_9c5 11) st with
 | some s => (match s with
 | ⟨[(q0, .c (.ptr q1 q2)), (q3, .c (.int .i64 x0)), (q4, .c (.int .i64 x1)), (q5, .c (.int .i64 x2)), (q6, .c (.ptr q7 q8)), (q9, .c (.ptr q10 q11)), (q12, .c (.ptr q13 q14)), (q15, .c (.int .i64 x3)), (q16, .c (.ptr q17 q18)), (q19, .c (.int .i64 x4))], [(q20, .cells q21 [.int .i64 x5, .own q22, .int .u64 x6, .int .u64 x7, .own q23, .int .i64 x8, .int .u64 x9, .int .i64 x10, .bool x11]), (q24, .vec q25 (.int .i64) x12 false), (q26, .vec q27 (.int .u8) x13 false), (q28, .cells q29 [.int .i64 x14, .int .i64 x15, .int .i64 x16, .bool x17, .int .i64 x18]), (q30, .cells q31 [.int .i64 x19, .int .i64 x20, .sl (.int .u8) x21]), (q32, .cells q33 [.int .i64 x22, .int .i64 x23, .own q34]), (q35, .cells q36 [.int .i64 x24, .int .i64 x25, .own q37]), (q38, .vec q39 (.int .u8) x26 true), (q40, .vec q41 (.int .u8) x27 true)], q42, q43⟩ => bif Nat.beq q0 0 && Nat.beq q1 0 && Nat.beq q2 0 && Nat.beq q3 1 && Nat.beq q4 3 && Nat.beq q5 4 && Nat.beq q6 8 && Nat.beq q7 3 && Nat.beq q8 0 && Nat.beq q9 11 && Nat.beq q10 4 && Nat.beq q11 0 && Nat.beq q12 12 && Nat.beq q13 5 && Nat.beq q14 0 && Nat.beq q15 15 && Nat.beq q16 17 && Nat.beq q17 6 && Nat.beq q18 0 && Nat.beq q19 19 && Nat.beq q20 0 && Nat.beq q21 164 && Nat.beq q22 1 && Nat.beq q23 2 && Nat.beq q24 1 && Nat.beq q25 3 && Nat.beq q26 2 && Nat.beq q27 5 && Nat.beq q28 3 && Nat.beq q29 46 && Nat.beq q30 4 && Nat.beq q31 39 && Nat.beq q32 5 && Nat.beq q33 39 && Nat.beq q34 7 && Nat.beq q35 6 && Nat.beq q36 39 && Nat.beq q37 8 && Nat.beq q38 7 && Nat.beq q39 5 && Nat.beq q40 8 && Nat.beq q41 5 && Nat.beq q42 9 && Nat.beq q43 3 then iter (S_ref07_Get_9c5_0 fuel) fuel (x0, x1, x2, x3, x4, x5, x6, x7, x8, x9, x10, x11, x12, x13, x14, x15, x16, x17, x18, x19, x20, x21, x22, x23, x24, x25, x26, x27) (E45_9c5_0 K) else none
 | _ => none)
 | none => none
theorem B45_9c5_0_ok (fuel : Nat) (st : Ev.St) (K : Ev.Ex → Ev.St → Option Ans) (r : Ans) (h : B45_9c5_0 fuel st K = some r) : evalCode tab (G45_9c5 fuel) (J45_9c5_0 fuel) kp45_9c5 fuel (.block 0 (.loop (bodyOf 0 Try.f45))) st K = some r := by
  unfold B45_9c5_0 at h
  split at h
  · rename_i s hs
    split at h
    · skip
      obtain ⟨hb, h⟩ := cond_some' h
      simp only [Bool.and_eq_true, Nat.beq_eq, decide_eq_true_eq] at hb
      obtain ⟨⟨⟨⟨⟨⟨⟨⟨⟨⟨⟨⟨⟨⟨⟨⟨⟨⟨⟨⟨⟨⟨⟨⟨⟨⟨⟨⟨⟨⟨⟨⟨⟨⟨⟨⟨⟨⟨⟨⟨⟨⟨⟨rfl, rfl⟩, rfl⟩, rfl⟩, rfl⟩, rfl⟩, rfl⟩, rfl⟩, rfl⟩, rfl⟩, rfl⟩, rfl⟩, rfl⟩, rfl⟩, rfl⟩, rfl⟩, rfl⟩, rfl⟩, rfl⟩, rfl⟩, rfl⟩, rfl⟩, rfl⟩, rfl⟩, rfl⟩, rfl⟩, rfl⟩, rfl⟩, rfl⟩, rfl⟩, rfl⟩, rfl⟩, rfl⟩, rfl⟩, rfl⟩, rfl⟩, rfl⟩, rfl⟩, rfl⟩, rfl⟩, rfl⟩, rfl⟩, rfl⟩, rfl⟩ := hb
      exact blk_loop (S := T45_9c5_0) (ks := E45_9c5_0) (step := S_ref07_Get_9c5_0 fuel) (v := (_, _, _, _, _, _, _, _, _, _, _, _, _, _, _, _, _, _, _, _, _, _, _, _, _, _, _, _)) (by kernel_rfl) (by kernel_rfl) (fun R K v => by obtain ⟨x0, x1, x2, x3, x4, x5, x6, x7, x8, x9, x10, x11, x12, x13, x14, x15, x16, x17, x18, x19, x20, x21, x22, x23, x24, x25, x26, x27⟩ := v; exact S45_9c5_0_ok fuel R K x0 x1 x2 x3 x4 x5 x6 x7 x8 x9 x10 x11 x12 x13 x14 x15 x16 x17 x18 x19 x20 x21 x22 x23 x24 x25 x26 x27) hs h
    · cases h
  · cases h
noncomputable def J45_9c5 (fuel : Nat) (i : Nat) : Option Ev.Blk := Ev.look i [(100002, B45_9c5_2 fuel), (100000, B45_9c5_0 fuel)]
noncomputable def Fg_ref07_Get_9c5 (fuel : Nat) (f81 : YF81) (f86 : YF86) (f109 : YF109) (f112 : YF112) (f120 : YF120) (f121_a7e : YF121_a7e) (f122 : YF122) (f123_0a6 : YF123_0a6) (f124 : YF124) (f125 : YF125) (f126 : YF126) (f127_a2e : YF127_a2e) (x0 x1 : Int) (x2 x3 : Int) (x4 : Bool) (x5 x6 : Int) (x7 x8 x9 : Int) (x10 : (List Int)) (x11 x12 : Int) (x13 x14 : Int) (x15 x16 : Int) (x17 : Bool) (x18 x19 : (List Int)) (k0 : (Int × Int × Int × Int × Int × Int × Int × Int × Int × Bool × (List Int) × (List Int) × (List Int)) → Option Ans) : Option Ans :=
  (f109 (x1) (x2) (x3) (x4) (x5)
  (fun y2 =>
  bif !y2 then
  k0 ((0 : Int), (0 : Int), (2 : Int), x11, x12, x13, x14, x15, x16, x17, x18, x19, [])
  else
  (f112 (x6) (x7)
  (fun y7 =>
  bif !y7 then
  k0 ((0 : Int), (0 : Int), (30 : Int), x11, x12, x13, x14, x15, x16, x17, x18, x19, [])
  else
  (f86 (x8) (x9) (x10)
  (fun y12 =>
  bif !y12 then
  k0 ((0 : Int), (0 : Int), (30 : Int), x11, x12, x13, x14, x15, x16, x17, x18, x19, [])
  else
  (f121_a7e (x11) (x12) (x13) (x14) (x15) (x16) (x17) (x18) (x19)
  (fun (y17_0, y17_1, y17_2, y17_3, y17_4, y17_5, y17_6, y17_7, y17_8, y17_9, y17_10) =>
  (f120 (x1) (x2) (x3) (x4) (x5) (x0) ((↑y17_10.length : Int)) (x6) (x7) (x8) (x9) (x10)
  (fun y21 =>
  bif y21 != (0 : Int) then
  k0 ((0 : Int), (0 : Int), y21, y17_1, y17_2, y17_3, y17_4, y17_5, y17_6, y17_7, y17_8, y17_9, [])
  else
  (f122 (x1) (x2) (x3) (x4) (x5)
  (fun (y26_0, y26_1) =>
  (f81 (x6) (x7) ((0 : Int))
  (fun (y30_0, y30_1, y30_2, y30_3) =>
  (L_ref07_Get_9c5_0 fuel (x0, x6, x7, y26_0, (0 : Int), y17_1, y17_2, y17_3, y17_4, y17_5, y17_6, y17_7, y17_8, y17_9, x1, x2, x3, x4, x5, x8, x9, x10, (0 : Int), (0 : Int), y30_0, y30_1, [], y30_3)
  (fun (ret0_0, ret0_1, ret0_2, ret0_3, ret0_4, ret0_5, ret0_6, ret0_7, ret0_8, ret0_9, ret0_10, ret0_11, ret0_12) =>
  k0 (ret0_10, ret0_11, ret0_0, ret0_1, ret0_2, ret0_3, ret0_4, ret0_5, ret0_6, ret0_7, ret0_8, ret0_9, ret0_12))
  (fun (b0_0, b0_1, b0_2, b0_3, b0_4, b0_5, b0_6, b0_7, b0_8, b0_9, b0_10, b0_11, b0_12, b0_13, b0_14) =>
  k0 (b0_11, b0_12, (0 : Int), b0_0, b0_1, b0_2, b0_3, b0_4, b0_5, b0_6, b0_7, b0_8, b0_14)))))))))))))))))
noncomputable def F_ref07_Get_9c5 (fuel : Nat) (x0 x1 : Int) (x2 x3 : Int) (x4 : Bool) (x5 x6 : Int) (x7 x8 x9 : Int) (x10 : (List Int)) (x11 x12 : Int) (x13 x14 : Int) (x15 x16 : Int) (x17 : Bool) (x18 x19 : (List Int)) (k0 : (Int × Int × Int × Int × Int × Int × Int × Int × Int × Bool × (List Int) × (List Int) × (List Int)) → Option Ans) : Option Ans := Fg_ref07_Get_9c5 fuel (F_ref05_New fuel) (F_ref05_Valid fuel) (F_ref07_Valid fuel) (F_ref05_Sides fuel) (F_ref07_room fuel) (F_ref02_Decoder_Model_a7e fuel) (F_ref07_Size fuel) (F_ref02_Decoder_Get_0a6 fuel) (F_ref07_typical fuel) (F_ref05_At fuel) (F_ref07_context fuel) (F_ref05_Put_a2e fuel) x0 x1 x2 x3 x4 x5 x6 x7 x8 x9 x10 x11 x12 x13 x14 x15 x16 x17 x18 x19 k0
abbrev YF45_9c5 : Type := (Int) → (Int) → (Int) → (Int) → (Bool) → (Int) → (Int) → (Int) → (Int) → (Int) → ((List Int)) → (Int) → (Int) → (Int) → (Int) → (Int) → (Int) → (Bool) → ((List Int)) → ((List Int)) → ((Int × Int × Int × Int × Int × Int × Int × Int × Int × Bool × (List Int) × (List Int) × (List Int)) → Option Ans) → Option Ans
theorem F45_9c5_eqg (fuel : Nat) (f81 : YF81) (f86 : YF86) (f109 : YF109) (f112 : YF112) (f120 : YF120) (f121_a7e : YF121_a7e) (f122 : YF122) (f123_0a6 : YF123_0a6) (f124 : YF124) (f125 : YF125) (f126 : YF126) (f127_a2e : YF127_a2e) (x0 x1 : Int) (x2 x3 : Int) (x4 : Bool) (x5 x6 : Int) (x7 x8 x9 : Int) (x10 : (List Int)) (x11 x12 : Int) (x13 x14 : Int) (x15 x16 : Int) (x17 : Bool) (x18 x19 : (List Int)) (k : Ev.Cont) : evalFn tab (Gg45_9c5 f81 f86 f109 f112 f120 f121_a7e f122 f123_0a6 f124 f125 f126 f127_a2e) (J45_9c5 fuel) kp45_9c5 fuel Try.f45 [.c (.ptr 0 0), .c (.int .i64 x0), .agg [.int .i64 x1, .int .i64 x2, .int .i64 x3, .bool x4, .int .i64 x5], .c (.int .i64 x6), .c (.int .i64 x7), .agg [.int .i64 x8, .int .i64 x9, .sl (.int .u8) x10]] [.cells 164 [.int .i64 x11, .own 1, .int .u64 x12, .int .u64 x13, .own 2, .int .i64 x14, .int .u64 x15, .int .i64 x16, .bool x17], .vec 3 (.int .i64) x18 false, .vec 5 (.int .u8) x19 false] k = Fg_ref07_Get_9c5 fuel f81 f86 f109 f112 f120 f121_a7e f122 f123_0a6 f124 f125 f126 f127_a2e x0 x1 x2 x3 x4 x5 x6 x7 x8 x9 x10 x11 x12 x13 x14 x15 x16 x17 x18 x19 (fun r => match r with | (r0, r1, r2, r3, r4, r5, r6, r7, r8, r9, r10, r11, r12) => k (.tup [(true, [.int .i64 r0, .int .i64 r1, .own 3]), (false, [.int .i64 r2])], [.cells 164 [.int .i64 r3, .own 1, .int .u64 r4, .int .u64 r5, .own 2, .int .i64 r6, .int .u64 r7, .int .i64 r8, .bool r9], .vec 3 (.int .i64) r10 false, .vec 5 (.int .u8) r11 false, .vec 5 (.int .u8) r12 true])) := by
  kernel_rfl
theorem F45_9c5_eq (fuel : Nat) (x0 x1 : Int) (x2 x3 : Int) (x4 : Bool) (x5 x6 : Int) (x7 x8 x9 : Int) (x10 : (List Int)) (x11 x12 : Int) (x13 x14 : Int) (x15 x16 : Int) (x17 : Bool) (x18 x19 : (List Int)) (k : Ev.Cont) : evalFn tab (G45_9c5 fuel) (J45_9c5 fuel) kp45_9c5 fuel Try.f45 [.c (.ptr 0 0), .c (.int .i64 x0), .agg [.int .i64 x1, .int .i64 x2, .int .i64 x3, .bool x4, .int .i64 x5], .c (.int .i64 x6), .c (.int .i64 x7), .agg [.int .i64 x8, .int .i64 x9, .sl (.int .u8) x10]] [.cells 164 [.int .i64 x11, .own 1, .int .u64 x12, .int .u64 x13, .own 2, .int .i64 x14, .int .u64 x15, .int .i64 x16, .bool x17], .vec 3 (.int .i64) x18 false, .vec 5 (.int .u8) x19 false] k = F_ref07_Get_9c5 fuel x0 x1 x2 x3 x4 x5 x6 x7 x8 x9 x10 x11 x12 x13 x14 x15 x16 x17 x18 x19 (fun r => match r with | (r0, r1, r2, r3, r4, r5, r6, r7, r8, r9, r10, r11, r12) => k (.tup [(true, [.int .i64 r0, .int .i64 r1, .own 3]), (false, [.int .i64 r2])], [.cells 164 [.int .i64 r3, .own 1, .int .u64 r4, .int .u64 r5, .own 2, .int .i64 r6, .int .u64 r7, .int .i64 r8, .bool r9], .vec 3 (.int .i64) r10 false, .vec 5 (.int .u8) r11 false, .vec 5 (.int .u8) r12 true])) :=
  F45_9c5_eqg fuel (F_ref05_New fuel) (F_ref05_Valid fuel) (F_ref07_Valid fuel) (F_ref05_Sides fuel) (F_ref07_room fuel) (F_ref02_Decoder_Model_a7e fuel) (F_ref07_Size fuel) (F_ref02_Decoder_Get_0a6 fuel) (F_ref07_typical fuel) (F_ref05_At fuel) (F_ref07_context fuel) (F_ref05_Put_a2e fuel) x0 x1 x2 x3 x4 x5 x6 x7 x8 x9 x10 x11 x12 x13 x14 x15 x16 x17 x18 x19 k
theorem hG45_9c5 (fuel : Nat) : GOK Try.prog (G45_9c5 fuel) :=
  gok_cons ⟨ok81 fuel, enters_of Try.func81 (by kernel_rfl) rfl⟩ <|
  gok_cons ⟨ok86 fuel, enters_of Try.func86 (by kernel_rfl) rfl⟩ <|
  gok_cons ⟨ok109 fuel, enters_of Try.func109 (by kernel_rfl) rfl⟩ <|
  gok_cons ⟨ok112 fuel, enters_of Try.func112 (by kernel_rfl) rfl⟩ <|
  gok_cons ⟨ok120 fuel, enters_of Try.func120 (by kernel_rfl) rfl⟩ <|
  gok_cons ⟨ok121_a7e fuel, enters_of Try.func121 (by kernel_rfl) rfl⟩ <|
  gok_cons ⟨ok122 fuel, enters_of Try.func122 (by kernel_rfl) rfl⟩ <|
  gok_cons ⟨ok123_0a6 fuel, enters_of Try.func123 (by kernel_rfl) rfl⟩ <|
  gok_cons ⟨ok124 fuel, enters_of Try.func124 (by kernel_rfl) rfl⟩ <|
  gok_cons ⟨ok125 fuel, enters_of Try.func125 (by kernel_rfl) rfl⟩ <|
  gok_cons ⟨ok126 fuel, enters_of Try.func126 (by kernel_rfl) rfl⟩ <|
  gok_cons ⟨ok127_a2e fuel, enters_of Try.func127 (by kernel_rfl) rfl⟩ <|
  gok_nil
theorem B45_9c5_2_blk (fuel : Nat) : BlkOK Try.prog Try.f45.ntmps (.block 2 (.loop (bodyOf 2 Try.f45))) (B45_9c5_2 fuel) :=
  blk_of (blk_of_code tab_ok (hG45_9c5 fuel) mixed (J := J45_9c5_2 fuel) (kp := kp45_9c5) (fuel := fuel) (by kernel_rfl) (fun q hq => by
    rw [(by kernel_rfl : obl (J45_9c5_2 fuel) (.block 2 (.loop (bodyOf 2 Try.f45))) = [])] at hq
    cases hq)) (B45_9c5_2_ok fuel)
theorem B45_9c5_0_blk (fuel : Nat) : BlkOK Try.prog Try.f45.ntmps (.block 0 (.loop (bodyOf 0 Try.f45))) (B45_9c5_0 fuel) :=
  blk_of (blk_of_code tab_ok (hG45_9c5 fuel) mixed (J := J45_9c5_0 fuel) (kp := kp45_9c5) (fuel := fuel) (by kernel_rfl) (fun q hq => by
    rw [(by kernel_rfl : obl (J45_9c5_0 fuel) (.block 0 (.loop (bodyOf 0 Try.f45))) = [(.block 2 (.loop (bodyOf 2 Try.f45)), B45_9c5_2 fuel)])] at hq
    simp only [List.mem_cons, List.not_mem_nil, or_false] at hq
    subst hq
    · exact B45_9c5_2_blk fuel)) (B45_9c5_0_ok fuel)
theorem fok45_9c5 (fuel : Nat) : FnOK Try.prog 45 (evalFn tab (G45_9c5 fuel) (J45_9c5 fuel) kp45_9c5 fuel Try.f45) :=
  fn_ok tab_ok (hG45_9c5 fuel) mixed Try.func45 (c := (Try.f45.body).getD .skip) rfl (fun q hq => by
    rw [(by kernel_rfl : obl (J45_9c5 fuel) ((Try.f45.body).getD .skip) = [(.block 0 (.loop (bodyOf 0 Try.f45)), B45_9c5_0 fuel)])] at hq
    simp only [List.mem_cons, List.not_mem_nil, or_false] at hq
    subst hq
    · exact B45_9c5_0_blk fuel)
noncomputable def mt45_9c5 : List Ev.SV → List Ev.Ob → Bool := fun args objs => match args, objs with
 | [.c (.ptr q0 q1), .c (.int .i64 _), .agg [.int .i64 _, .int .i64 _, .int .i64 _, .bool _, .int .i64 _], .c (.int .i64 _), .c (.int .i64 _), .agg [.int .i64 _, .int .i64 _, .sl (.int .u8) _]], [.cells q2 [.int .i64 _, .own q3, .int .u64 _, .int .u64 _, .own q4, .int .i64 _, .int .u64 _, .int .i64 _, .bool _], .vec q5 (.int .i64) _ false, .vec q6 (.int .u8) _ false] => Nat.beq q0 0 && Nat.beq q1 0 && Nat.beq q2 164 && Nat.beq q3 1 && Nat.beq q4 2 && Nat.beq q5 3 && Nat.beq q6 5
 | _, _ => false
noncomputable def spg45_9c5 (F : YF45_9c5) : Ev.Spec := fun args objs k => match args, objs with
 | [.c (.ptr q0 q1), .c (.int .i64 x0), .agg [.int .i64 x1, .int .i64 x2, .int .i64 x3, .bool x4, .int .i64 x5], .c (.int .i64 x6), .c (.int .i64 x7), .agg [.int .i64 x8, .int .i64 x9, .sl (.int .u8) x10]], [.cells q2 [.int .i64 x11, .own q3, .int .u64 x12, .int .u64 x13, .own q4, .int .i64 x14, .int .u64 x15, .int .i64 x16, .bool x17], .vec q5 (.int .i64) x18 false, .vec q6 (.int .u8) x19 false] => bif Nat.beq q0 0 && Nat.beq q1 0 && Nat.beq q2 164 && Nat.beq q3 1 && Nat.beq q4 2 && Nat.beq q5 3 && Nat.beq q6 5 then F x0 x1 x2 x3 x4 x5 x6 x7 x8 x9 x10 x11 x12 x13 x14 x15 x16 x17 x18 x19 (fun r => match r with | (r0, r1, r2, r3, r4, r5, r6, r7, r8, r9, r10, r11, r12) => k (.tup [(true, [.int .i64 r0, .int .i64 r1, .own 3]), (false, [.int .i64 r2])], [.cells 164 [.int .i64 r3, .own 1, .int .u64 r4, .int .u64 r5, .own 2, .int .i64 r6, .int .u64 r7, .int .i64 r8, .bool r9], .vec 3 (.int .i64) r10 false, .vec 5 (.int .u8) r11 false, .vec 5 (.int .u8) r12 true])) else none
 | _, _ => none
noncomputable def spec45_9c5 (fuel : Nat) : Ev.Spec := spg45_9c5 (F_ref07_Get_9c5 fuel)
theorem ok45_9c5 (fuel : Nat) : FnOK Try.prog 45 (spec45_9c5 fuel) := by
  intro args objs kk r h
  unfold spec45_9c5 spg45_9c5 at h
  split at h
  · skip
    obtain ⟨hb, h⟩ := cond_some' h
    simp only [Bool.and_eq_true, Nat.beq_eq, decide_eq_true_eq] at hb
    obtain ⟨⟨⟨⟨⟨⟨rfl, rfl⟩, rfl⟩, rfl⟩, rfl⟩, rfl⟩, rfl⟩ := hb
    exact fok45_9c5 fuel _ _ kk r ((F45_9c5_eq fuel _ _ _ _ _ _ _ _ _ _ _ _ _ _ _ _ _ _ _ _ kk).trans h)
  · cases h
end Go.Proofs.Ytihfgpfofmjbaaa

set_option linter.unusedVariables false
set_option linter.unusedSimpArgs false
set_option maxRecDepth 100000
set_option maxHeartbeats 2000000
namespace Go.Proofs.Ytihfgpfofmjbaaa
open Go Ev
def kp9 (i : Nat) : Option (List Nat) := Ev.look i [(19, [6, 9, 16, 19]), (100000, [6, 9, 16]), (200001, [1]), (400000, [2])]
noncomputable def Gg9 (f26 : YF26) (f27 : YF27) (f32_fd3 : YF32_fd3) (f33_d0e : YF33_d0e) (f40 : YF40) (f41 : YF41) (f42 : YF42) (f43 : YF43) (f44 : YF44) (f45_9c5 : YF45_9c5) (f46 : YF46) (f : Nat) : Option Ev.Spec := Ev.look f [(26, spg26 f26), (27, spg27 f27), (32, spg32_fd3 f32_fd3), (33, spg33_d0e f33_d0e), (40, spg40 f40), (41, spg41 f41), (42, spg42 f42), (43, spg43 f43), (44, spg44 f44), (45, spg45_9c5 f45_9c5), (46, spg46 f46)]
noncomputable def G9 (fuel : Nat) : Nat → Option Ev.Spec := Gg9 (F_ref05_Same fuel) (F_law07_Sane fuel) (F_generic_Get_fd3 fuel) (F_generic_Put_d0e fuel) (F_law07_Wide fuel) (F_coder_New fuel) (F_coder_NewDecoder fuel) (F_ref02_New fuel) (F_ref02_NewDecoder fuel) (F_ref07_Get_9c5 fuel) (F_coder_NewEncoder fuel)
noncomputable def Sg_law07_GenericGets_0 (fuel : Nat) (f26 : YF26) (f27 : YF27) (f32_fd3 : YF32_fd3) (f33_d0e : YF33_d0e) (f40 : YF40) (f41 : YF41) (f42 : YF42) (f43 : YF43) (f44 : YF44) (f45_9c5 : YF45_9c5) (f46 : YF46) (x0 x1 : Int) (x2 x3 : Int) (x4 : Bool) (x5 x6 : Int) (x7 x8 : Int) (x9 : (List Int)) (x10 x11 : Int) (x12 : (List Int)) (x13 x14 x15 : Int) (x16 x17 : (List Int)) (c : (Int × Int × Int × Int × Bool × Int × Int × Int × Int × (List Int) × Int × Int × (List Int) × Int × Int × Int × (List Int) × (List Int)) → Option Ans) (B : (Bool → Option Ans) × (Int × Int × Int × Bool × Int × Int × Int × Int × (List Int) × Int × Int × (List Int) × Int × Int × Int × (List Int) × (List Int) → Option Ans)) : Option Ans := match B with
 | (ret, b) =>
  bif decide (x0 < (↑x12.length : Int)) then
  bif decide ((0 : Int) ≤ x0 ∧ x0 < (↑x12.length : Int)) then
  bif x12.getD x0.toNat (0 : Int) == (1 : Int) then
  bif decide ((0 : Int) ≤ x0 ∧ x0 < (↑x17.length : Int)) then
  bif x17.getD x0.toNat (0 : Int) == (1 : Int) then
  ret false
  else
  c (IntKind.i64.wrap (x0 + (1 : Int)), x1, x2, x3, x4, x5, x6, x7, x8, x9, x10, x11, x12, x13, x14, x15, x16, x17)
  else none
  else
  c (IntKind.i64.wrap (x0 + (1 : Int)), x1, x2, x3, x4, x5, x6, x7, x8, x9, x10, x11, x12, x13, x14, x15, x16, x17)
  else none
  else
  b (x1, x2, x3, x4, x5, x6, x7, x8, x9, x10, x11, x12, x13, x14, x15, x16, x17)
noncomputable def S_law07_GenericGets_0 (fuel : Nat) (v : Int × Int × Int × Int × Bool × Int × Int × Int × Int × (List Int) × Int × Int × (List Int) × Int × Int × Int × (List Int) × (List Int)) (c : (Int × Int × Int × Int × Bool × Int × Int × Int × Int × (List Int) × Int × Int × (List Int) × Int × Int × Int × (List Int) × (List Int)) → Option Ans) (B : (Bool → Option Ans) × (Int × Int × Int × Bool × Int × Int × Int × Int × (List Int) × Int × Int × (List Int) × Int × Int × Int × (List Int) × (List Int) → Option Ans)) : Option Ans := match v with
 | (x0, x1, x2, x3, x4, x5, x6, x7, x8, x9, x10, x11, x12, x13, x14, x15, x16, x17) => Sg_law07_GenericGets_0 fuel (F_ref05_Same fuel) (F_law07_Sane fuel) (F_generic_Get_fd3 fuel) (F_generic_Put_d0e fuel) (F_law07_Wide fuel) (F_coder_New fuel) (F_coder_NewDecoder fuel) (F_ref02_New fuel) (F_ref02_NewDecoder fuel) (F_ref07_Get_9c5 fuel) (F_coder_NewEncoder fuel) x0 x1 x2 x3 x4 x5 x6 x7 x8 x9 x10 x11 x12 x13 x14 x15 x16 x17 c B
noncomputable def L_law07_GenericGets_0 (fuel : Nat) (v : Int × Int × Int × Int × Bool × Int × Int × Int × Int × (List Int) × Int × Int × (List Int) × Int × Int × Int × (List Int) × (List Int)) (ret : (Bool → Option Ans)) (b : (Int × Int × Int × Bool × Int × Int × Int × Int × (List Int) × Int × Int × (List Int) × Int × Int × Int × (List Int) × (List Int) → Option Ans)) : Option Ans := iter (S_law07_GenericGets_0 fuel) fuel v (ret, b)
noncomputable def J9_0 (fuel : Nat) (i : Nat) : Option Ev.Blk := Ev.look i []
noncomputable def T9_0 (v : Int × Int × Int × Int × Bool × Int × Int × Int × Int × (List Int) × Int × Int × (List Int) × Int × Int × Int × (List Int) × (List Int)) : Ev.St := match v with | (x0, x1, x2, x3, x4, x5, x6, x7, x8, x9, x10, x11, x12, x13, x14, x15, x16, x17) => ⟨[(6, .c (.ptr 0 0)), (9, .c (.ptr 1 0)), (16, .c (.ptr 2 0)), (19, .c (.int .i64 x0))], [(0, .cells 70 [.int .i64 x1, .int .i64 x2, .int .i64 x3, .bool x4, .int .i64 x5, .int .i64 x6, .int .i64 x7, .int .i64 x8, .sl (.int .u8) x9, .int .i64 x10, .int .i64 x11, .sl (.int .u8) x12]), (1, .cells 75 [.int .i64 x13, .own 3]), (2, .cells 39 [.int .i64 x14, .int .i64 x15, .own 4]), (3, .vec 3 (.int .i64) x16 true), (4, .vec 5 (.int .u8) x17 true)], 5, 0⟩
noncomputable def E9_0 (K : Ev.Ex → Ev.St → Option Ans) : (Bool → Option Ans) × (Int × Int × Int × Bool × Int × Int × Int × Int × (List Int) × Int × Int × (List Int) × Int × Int × Int × (List Int) × (List Int) → Option Ans) := ((fun v => match v with | x0 => K .ret ⟨[(2, .c (.bool x0))], [], 0, 0⟩), (fun v => match v with | (x0, x1, x2, x3, x4, x5, x6, x7, x8, x9, x10, x11, x12, x13, x14, x15, x16) => K .normal ⟨[(6, .c (.ptr 0 0)), (9, .c (.ptr 1 0)), (16, .c (.ptr 2 0))], [(0, .cells 70 [.int .i64 x0, .int .i64 x1, .int .i64 x2, .bool x3, .int .i64 x4, .int .i64 x5, .int .i64 x6, .int .i64 x7, .sl (.int .u8) x8, .int .i64 x9, .int .i64 x10, .sl (.int .u8) x11]), (1, .cells 75 [.int .i64 x12, .own 3]), (2, .cells 39 [.int .i64 x13, .int .i64 x14, .own 4]), (3, .vec 3 (.int .i64) x15 true), (4, .vec 5 (.int .u8) x16 true)], 5, 0⟩))
theorem S9_0_okg (fuel : Nat) (f26 : YF26) (f27 : YF27) (f32_fd3 : YF32_fd3) (f33_d0e : YF33_d0e) (f40 : YF40) (f41 : YF41) (f42 : YF42) (f43 : YF43) (f44 : YF44) (f45_9c5 : YF45_9c5) (f46 : YF46) (R : Ev.St → Option Ans) (K : Ev.Ex → Ev.St → Option Ans) (x0 x1 : Int) (x2 x3 : Int) (x4 : Bool) (x5 x6 : Int) (x7 x8 : Int) (x9 : (List Int)) (x10 x11 : Int) (x12 : (List Int)) (x13 x14 x15 : Int) (x16 x17 : (List Int)) : evalCode tab (Gg9 f26 f27 f32_fd3 f33_d0e f40 f41 f42 f43 f44 f45_9c5 f46) (J9_0 fuel) kp9 fuel (bodyOf 0 Try.f9) (T9_0 (x0, x1, x2, x3, x4, x5, x6, x7, x8, x9, x10, x11, x12, x13, x14, x15, x16, x17)) (lc kp9 19 0 R K) = Sg_law07_GenericGets_0 fuel f26 f27 f32_fd3 f33_d0e f40 f41 f42 f43 f44 f45_9c5 f46 x0 x1 x2 x3 x4 x5 x6 x7 x8 x9 x10 x11 x12 x13 x14 x15 x16 x17 (fun v => R (T9_0 v)) (E9_0 K) := by
  kernel_rfl
theorem S9_0_ok (fuel : Nat) (R : Ev.St → Option Ans) (K : Ev.Ex → Ev.St → Option Ans) (x0 x1 : Int) (x2 x3 : Int) (x4 : Bool) (x5 x6 : Int) (x7 x8 : Int) (x9 : (List Int)) (x10 x11 : Int) (x12 : (List Int)) (x13 x14 x15 : Int) (x16 x17 : (List Int)) : evalCode tab (G9 fuel) (J9_0 fuel) kp9 fuel (bodyOf 0 Try.f9) (T9_0 (x0, x1, x2, x3, x4, x5, x6, x7, x8, x9, x10, x11, x12, x13, x14, x15, x16, x17)) (lc kp9 19 0 R K) = S_law07_GenericGets_0 fuel (x0, x1, x2, x3, x4, x5, x6, x7, x8, x9, x10, x11, x12, x13, x14, x15, x16, x17) (fun v => R (T9_0 v)) (E9_0 K) :=
  S9_0_okg fuel (F_ref05_Same fuel) (F_law07_Sane fuel) (F_generic_Get_fd3 fuel) (F_generic_Put_d0e fuel) (F_law07_Wide fuel) (F_coder_New fuel) (F_coder_NewDecoder fuel) (F_ref02_New fuel) (F_ref02_NewDecoder fuel) (F_ref07_Get_9c5 fuel) (F_coder_NewEncoder fuel) R K x0 x1 x2 x3 x4 x5 x6 x7 x8 x9 x10 x11 x12 x13 x14 x15 x16 x17
noncomputable def B9_0 (fuel : Nat) : Ev.Blk := fun st K => match canonO (kp9 19) st with
 | some s => (match s with
 | ⟨[(q0, .c (.ptr q1 q2)), (q3, .c (.ptr q4 q5)), (q6, .c (.ptr q7 q8)), (q9, .c (.int .i64 x0))], [(q10, .cells q11 [.int .i64 x1, .int .i64 x2, .int .i64 x3, .bool x4, .int .i64 x5, .int .i64 x6, .int .i64 x7, .int .i64 x8, .sl (.int .u8) x9, .int .i64 x10, .int .i64 x11, .sl (.int .u8) x12]), (q12, .cells q13 [.int .i64 x13, .own q14]), (q15, .cells q16 [.int .i64 x14, .int .i64 x15, .own q17]), (q18, .vec q19 (.int .i64) x16 true), (q20, .vec q21 (.int .u8) x17 true)], q22, q23⟩ => bif Nat.beq q0 6 && Nat.beq q1 0 && Nat.beq q2 0 && Nat.beq q3 9 && Nat.beq q4 1 && Nat.beq q5 0 && Nat.beq q6 16 && Nat.beq q7 2 && Nat.beq q8 0 && Nat.beq q9 19 && Nat.beq q10 0 && Nat.beq q11 70 && Nat.beq q12 1 && Nat.beq q13 75 && Nat.beq q14 3 && Nat.beq q15 2 && Nat.beq q16 39 && Nat.beq q17 4 && Nat.beq q18 3 && Nat.beq q19 3 && Nat.beq q20 4 && Nat.beq q21 5 && Nat.beq q22 5 && Nat.beq q23 0 then iter (S_law07_GenericGets_0 fuel) fuel (x0, x1, x2, x3, x4, x5, x6, x7, x8, x9, x10, x11, x12, x13, x14, x15, x16, x17) (E9_0 K) else none
 | _ => none)
 | none => none
theorem B9_0_ok (fuel : Nat) (st : Ev.St) (K : Ev.Ex → Ev.St → Option Ans) (r : Ans) (h : B9_0 fuel st K = some r) : evalCode tab (G9 fuel) (J9_0 fuel) kp9 fuel (.block 0 (.loop (bodyOf 0 Try.f9))) st K = some r := by
  unfold B9_0 at h
  split at h
  · rename_i s hs
    split at h
    · skip
      obtain ⟨hb, h⟩ := cond_some' h
      simp only [Bool.and_eq_true, Nat.beq_eq, decide_eq_true_eq] at hb
      obtain ⟨⟨⟨⟨⟨⟨⟨⟨⟨⟨⟨⟨⟨⟨⟨⟨⟨⟨⟨⟨⟨⟨⟨rfl, rfl⟩, rfl⟩, rfl⟩, rfl⟩, rfl⟩, rfl⟩, rfl⟩, rfl⟩, rfl⟩, rfl⟩, rfl⟩, rfl⟩, rfl⟩, rfl⟩, rfl⟩, rfl⟩, rfl⟩, rfl⟩, rfl⟩, rfl⟩, rfl⟩, rfl⟩, rfl⟩ := hb
      exact blk_loop (S := T9_0) (ks := E9_0) (step := S_law07_GenericGets_0 fuel) (v := (_, _, _, _, _, _, _, _, _, _, _, _, _, _, _, _, _, _)) (by kernel_rfl) (by kernel_rfl) (fun R K v => by obtain ⟨x0, x1, x2, x3, x4, x5, x6, x7, x8, x9, x10, x11, x12, x13, x14, x15, x16, x17⟩ := v; exact S9_0_ok fuel R K x0 x1 x2 x3 x4 x5 x6 x7 x8 x9 x10 x11 x12 x13 x14 x15 x16 x17) hs h
    · cases h
  · cases h
noncomputable def J9 (fuel : Nat) (i : Nat) : Option Ev.Blk := Ev.look i [(100000, B9_0 fuel)]
noncomputable def Fg_law07_GenericGets (fuel : Nat) (f26 : YF26) (f27 : YF27) (f32_fd3 : YF32_fd3) (f33_d0e : YF33_d0e) (f40 : YF40) (f41 : YF41) (f42 : YF42) (f43 : YF43) (f44 : YF44) (f45_9c5 : YF45_9c5) (f46 : YF46) (x0 x1 : Int) (x2 : (List Int)) (x3 x4 x5 : Int) (x6 : Bool) (x7 x8 : Int) (x9 x10 : Int) (x11 : (List Int)) (x12 x13 : Int) (x14 : (List Int)) (x15 x16 : Int) (k0 : (Bool) → Option Ans) : Option Ans :=
  bif decide (x1 > (4000 : Int)) then
  (f27
  (fun y3 =>
  k0 y3))
  else
  bif decide ((↑x2.length : Int) > (600 : Int)) then
  (f27
  (fun y4 =>
  k0 y4))
  else
  (f40 (x15) (x16)
  (fun y4 =>
  bif y4 then
  (f27
  (fun y9 =>
  k0 y9))
  else
  bif decide ((↑x14.length : Int) > (20000 : Int)) then
  (f27
  (fun y10 =>
  k0 y10))
  else
  (f41 (x0) (x1)
  (fun (y10_0, y10_1, y10_2) =>
  bif y10_1 != (0 : Int) then
  (f27
  (fun y15 =>
  k0 y15))
  else
  (f42 (y10_0) (y10_2) (x2)
  (fun y15 =>
  (f43 (x0) (x1)
  (fun (y19_0, y19_1, y19_2) =>
  (f44 (y19_0) (y19_2) (x2)
  (fun y23 =>
  bif y15 != (0 : Int) then
  k0 false
  else none)
  (fun (y23_0, y23_1, y23_2, y23_3, y23_4, y23_5, y23_6, y23_7, y23_8, y23_9) =>
  bif y15 != (0 : Int) then
  k0 false
  else none)))))
  (fun (y15_0, y15_1, y15_2, y15_3, y15_4, y15_5, y15_6, y15_7, y15_8, y15_9, y15_10) =>
  (f43 (x0) (x1)
  (fun (y19_0, y19_1, y19_2) =>
  (f44 (y19_0) (y19_2) (x2)
  (fun y23 =>
  bif y15_0 != (0 : Int) then
  k0 false
  else
  (f32_fd3 (x8) (x3) (x4) (x5) (x6) (x7) (x15) (x16) (x12) (x13) (x14) (y15_1) (y15_2) (y15_3) (y15_4) (y15_5) (y15_6) (y15_7) (y15_8) (y15_9) (y15_10)
  (fun (y28_0, y28_1, y28_2, y28_3, y28_4, y28_5, y28_6, y28_7, y28_8, y28_9, y28_10, y28_11, y28_12, y28_13) =>
  none)))
  (fun (y23_0, y23_1, y23_2, y23_3, y23_4, y23_5, y23_6, y23_7, y23_8, y23_9) =>
  bif y15_0 != (0 : Int) then
  k0 false
  else
  (f32_fd3 (x8) (x3) (x4) (x5) (x6) (x7) (x15) (x16) (x12) (x13) (x14) (y15_1) (y15_2) (y15_3) (y15_4) (y15_5) (y15_6) (y15_7) (y15_8) (y15_9) (y15_10)
  (fun (y28_0, y28_1, y28_2, y28_3, y28_4, y28_5, y28_6, y28_7, y28_8, y28_9, y28_10, y28_11, y28_12, y28_13) =>
  (f45_9c5 (x8) (x3) (x4) (x5) (x6) (x7) (x15) (x16) (x12) (x13) (x14) (y23_1) (y23_2) (y23_3) (y23_4) (y23_5) (y23_6) (y23_7) (y23_8) (y23_9)
  (fun (y32_0, y32_1, y32_2, y32_3, y32_4, y32_5, y32_6, y32_7, y32_8, y32_9, y32_10, y32_11, y32_12) =>
  bif y28_2 != y32_2 then
  k0 false
  else
  (f26 (y28_0) (y28_1) (y28_13) (y32_0) (y32_1) (y32_12)
  (fun y37 =>
  bif !y37 then
  k0 false
  else
  bif y28_2 != (0 : Int) then
  (f27
  (fun y43 =>
  k0 y43))
  else
  (L_law07_GenericGets_0 fuel ((0 : Int), x3, x4, x5, x6, x7, x8, x9, x10, x11, x12, x13, x14, y10_0, y28_0, y28_1, y10_2, y28_13)
  (fun ret0_0 =>
  k0 ret0_0)
  (fun (b0_0, b0_1, b0_2, b0_3, b0_4, b0_5, b0_6, b0_7, b0_8, b0_9, b0_10, b0_11, b0_12, b0_13, b0_14, b0_15, b0_16) =>
  (f46 (b0_12) (b0_15)
  (fun y47 =>
  bif y47 == (0 : Int) then
  none
  else
  k0 false)
  (fun (y47_0, y47_1, y47_2, y47_3, y47_4, y47_5, y47_6) =>
  bif y47_0 == (0 : Int) then
  (f33_d0e (b0_5) (b0_0) (b0_1) (b0_2) (b0_3) (b0_4) (b0_13) (b0_14) (b0_16) (b0_9) (b0_10) (b0_11) (y47_1) (y47_2) (y47_3) (y47_4) (y47_5) (y47_6)
  (fun (y52_0, y52_1, y52_2, y52_3, y52_4, y52_5, y52_6) =>
  bif y52_0 == (0 : Int) then
  (f27
  (fun y57 =>
  k0 y57))
  else
  k0 false)
  (fun (y52_0, y52_1, y52_2, y52_3, y52_4, y52_5, y52_6) =>
  bif y52_0 == (0 : Int) then
  (f27
  (fun y57 =>
  k0 y57))
  else
  k0 false))
  else
  k0 false))))))))))))))))))))
noncomputable def F_law07_GenericGets (fuel : Nat) (x0 x1 : Int) (x2 : (List Int)) (x3 x4 x5 : Int) (x6 : Bool) (x7 x8 : Int) (x9 x10 : Int) (x11 : (List Int)) (x12 x13 : Int) (x14 : (List Int)) (x15 x16 : Int) (k0 : (Bool) → Option Ans) : Option Ans := Fg_law07_GenericGets fuel (F_ref05_Same fuel) (F_law07_Sane fuel) (F_generic_Get_fd3 fuel) (F_generic_Put_d0e fuel) (F_law07_Wide fuel) (F_coder_New fuel) (F_coder_NewDecoder fuel) (F_ref02_New fuel) (F_ref02_NewDecoder fuel) (F_ref07_Get_9c5 fuel) (F_coder_NewEncoder fuel) x0 x1 x2 x3 x4 x5 x6 x7 x8 x9 x10 x11 x12 x13 x14 x15 x16 k0
abbrev YF9 : Type := (Int) → (Int) → ((List Int)) → (Int) → (Int) → (Int) → (Bool) → (Int) → (Int) → (Int) → (Int) → ((List Int)) → (Int) → (Int) → ((List Int)) → (Int) → (Int) → ((Bool) → Option Ans) → Option Ans
theorem F9_eqg (fuel : Nat) (f26 : YF26) (f27 : YF27) (f32_fd3 : YF32_fd3) (f33_d0e : YF33_d0e) (f40 : YF40) (f41 : YF41) (f42 : YF42) (f43 : YF43) (f44 : YF44) (f45_9c5 : YF45_9c5) (f46 : YF46) (x0 x1 : Int) (x2 : (List Int)) (x3 x4 x5 : Int) (x6 : Bool) (x7 x8 : Int) (x9 x10 : Int) (x11 : (List Int)) (x12 x13 : Int) (x14 : (List Int)) (x15 x16 : Int) (k : Ev.Cont) : evalFn tab (Gg9 f26 f27 f32_fd3 f33_d0e f40 f41 f42 f43 f44 f45_9c5 f46) (J9 fuel) kp9 fuel Try.f9 [.agg [.int .i64 x0, .int .i64 x1, .sl (.int .u8) x2, .int .i64 x3, .int .i64 x4, .int .i64 x5, .bool x6, .int .i64 x7, .int .i64 x8, .int .i64 x9, .int .i64 x10, .sl (.int .u8) x11, .int .i64 x12, .int .i64 x13, .sl (.int .u8) x14, .int .i64 x15, .int .i64 x16]] [] k = Fg_law07_GenericGets fuel f26 f27 f32_fd3 f33_d0e f40 f41 f42 f43 f44 f45_9c5 f46 x0 x1 x2 x3 x4 x5 x6 x7 x8 x9 x10 x11 x12 x13 x14 x15 x16 (fun r => match r with | r0 => k (.c (.bool r0), [])) := by
  kernel_rfl
theorem F9_eq (fuel : Nat) (x0 x1 : Int) (x2 : (List Int)) (x3 x4 x5 : Int) (x6 : Bool) (x7 x8 : Int) (x9 x10 : Int) (x11 : (List Int)) (x12 x13 : Int) (x14 : (List Int)) (x15 x16 : Int) (k : Ev.Cont) : evalFn tab (G9 fuel) (J9 fuel) kp9 fuel Try.f9 [.agg [.int .i64 x0, .int .i64 x1, .sl (.int .u8) x2, .int .i64 x3, .int .i64 x4, .int .i64 x5, .bool x6, .int .i64 x7, .int .i64 x8, .int .i64 x9, .int .i64 x10, .sl (.int .u8) x11, .int .i64 x12, .int .i64 x13, .sl (.int .u8) x14, .int .i64 x15, .int .i64 x16]] [] k = F_law07_GenericGets fuel x0 x1 x2 x3 x4 x5 x6 x7 x8 x9 x10 x11 x12 x13 x14 x15 x16 (fun r => match r with | r0 => k (.c (.bool r0), [])) :=
  F9_eqg fuel (F_ref05_Same fuel) (F_law07_Sane fuel) (F_generic_Get_fd3 fuel) (F_generic_Put_d0e fuel) (F_law07_Wide fuel) (F_coder_New fuel) (F_coder_NewDecoder fuel) (F_ref02_New fuel) (F_ref02_NewDecoder fuel) (F_ref07_Get_9c5 fuel) (F_coder_NewEncoder fuel) x0 x1 x2 x3 x4 x5 x6 x7 x8 x9 x10 x11 x12 x13 x14 x15 x16 k
theorem hG9 (fuel : Nat) : GOK Try.prog (G9 fuel) :=
  gok_cons ⟨ok26 fuel, enters_of Try.func26 (by kernel_rfl) rfl⟩ <|
  gok_cons ⟨ok27 fuel, enters_of Try.func27 (by kernel_rfl) rfl⟩ <|
  gok_cons ⟨ok32_fd3 fuel, enters_of Try.func32 (by kernel_rfl) rfl⟩ <|
  gok_cons ⟨ok33_d0e fuel, enters_of Try.func33 (by kernel_rfl) rfl⟩ <|
  gok_cons ⟨ok40 fuel, enters_of Try.func40 (by kernel_rfl) rfl⟩ <|
  gok_cons ⟨ok41 fuel, enters_of Try.func41 (by kernel_rfl) rfl⟩ <|
  gok_cons ⟨ok42 fuel, enters_of Try.func42 (by kernel_rfl) rfl⟩ <|
  gok_cons ⟨ok43 fuel, enters_of Try.func43 (by kernel_rfl) rfl⟩ <|
  gok_cons ⟨ok44 fuel, enters_of Try.func44 (by kernel_rfl) rfl⟩ <|
  gok_cons ⟨ok45_9c5 fuel, enters_of Try.func45 (by kernel_rfl) rfl⟩ <|
  gok_cons ⟨ok46 fuel, enters_of Try.func46 (by kernel_rfl) rfl⟩ <|
  gok_nil
theorem B9_0_blk (fuel : Nat) : BlkOK Try.prog Try.f9.ntmps (.block 0 (.loop (bodyOf 0 Try.f9))) (B9_0 fuel) :=
  blk_of (blk_of_code tab_ok (hG9 fuel) mixed (J := J9_0 fuel) (kp := kp9) (fuel := fuel) (by kernel_rfl) (fun q hq => by
    rw [(by kernel_rfl : obl (J9_0 fuel) (.block 0 (.loop (bodyOf 0 Try.f9))) = [])] at hq
    cases hq)) (B9_0_ok fuel)
theorem fok9 (fuel : Nat) : FnOK Try.prog 9 (evalFn tab (G9 fuel) (J9 fuel) kp9 fuel Try.f9) :=
  fn_ok tab_ok (hG9 fuel) mixed Try.func9 (c := (Try.f9.body).getD .skip) rfl (fun q hq => by
    rw [(by kernel_rfl : obl (J9 fuel) ((Try.f9.body).getD .skip) = [(.block 0 (.loop (bodyOf 0 Try.f9)), B9_0 fuel)])] at hq
    simp only [List.mem_cons, List.not_mem_nil, or_false] at hq
    subst hq
    · exact B9_0_blk fuel)
noncomputable def mt9 : List Ev.SV → List Ev.Ob → Bool := fun args objs => match args, objs with
 | [.agg [.int .i64 _, .int .i64 _, .sl (.int .u8) _, .int .i64 _, .int .i64 _, .int .i64 _, .bool _, .int .i64 _, .int .i64 _, .int .i64 _, .int .i64 _, .sl (.int .u8) _, .int .i64 _, .int .i64 _, .sl (.int .u8) _, .int .i64 _, .int .i64 _]], [] => true
 | _, _ => false
noncomputable def spg9 (F : YF9) : Ev.Spec := fun args objs k => match args, objs with
 | [.agg [.int .i64 x0, .int .i64 x1, .sl (.int .u8) x2, .int .i64 x3, .int .i64 x4, .int .i64 x5, .bool x6, .int .i64 x7, .int .i64 x8, .int .i64 x9, .int .i64 x10, .sl (.int .u8) x11, .int .i64 x12, .int .i64 x13, .sl (.int .u8) x14, .int .i64 x15, .int .i64 x16]], [] => bif true then F x0 x1 x2 x3 x4 x5 x6 x7 x8 x9 x10 x11 x12 x13 x14 x15 x16 (fun r => match r with | r0 => k (.c (.bool r0), [])) else none
 | _, _ => none
noncomputable def spec9 (fuel : Nat) : Ev.Spec := spg9 (F_law07_GenericGets fuel)
theorem ok9 (fuel : Nat) : FnOK Try.prog 9 (spec9 fuel) := by
  intro args objs kk r h
  unfold spec9 spg9 at h
  split at h
  · skip
    obtain ⟨hb, h⟩ := cond_some' h
    simp only [Bool.and_eq_true, Nat.beq_eq, decide_eq_true_eq] at hb
    clear hb
    exact fok9 fuel _ _ kk r ((F9_eq fuel _ _ _ _ _ _ _ _ _ _ _ _ _ _ _ _ _ kk).trans h)
  · cases h
end Go.Proofs.Ytihfgpfofmjbaaa

set_option linter.unusedVariables false
set_option linter.unusedSimpArgs false
set_option maxRecDepth 100000
set_option maxHeartbeats 2000000
namespace Go.Proofs.Ytihfgpfofmjbaaa
open Go Ev
def kp92_a20 (i : Nat) : Option (List Nat) := Ev.look i [(5, [0, 3, 15]), (10, [0, 3, 37, 38]), (100000, [3]), (100002, [3]), (200008, [0]), (400000, [2]), (400002, [2])]
noncomputable def Gg92_a20 (f164_a20 : YF164_a20) (f : Nat) : Option Ev.Spec := Ev.look f [(164, spg164_a20 f164_a20)]
noncomputable def G92_a20 (fuel : Nat) : Nat → Option Ev.Spec := Gg92_a20 (F_coder_Encoder_none_a20 fuel)
noncomputable def Sg_coder_Encoder_End_a20_2 (fuel : Nat) (f164_a20 : YF164_a20) (x0 x1 : Int) (x2 x3 x4 : Int) (x5 : Bool) (x6 x7 x8 : (List Int)) (c : (Int × Int × Int × Int × Int × Bool × (List Int) × (List Int) × (List Int)) → Option Ans) (B : (Int × Int × Int × Bool × (List Int) × (List Int) × (List Int) → Option Ans)) : Option Ans := match B with
 | b =>
  bif decide (x1 < x0) then
  bif decide (IntKind.i64.wrap ((24 : Int) - IntKind.i64.wrap ((8 : Int) * x1)) < (0 : Int)) then
  none
  else
  bif decide ((x8.length + [IntKind.u8.wrap (Ev.ishr IntKind.u64 x4 (IntKind.i64.wrap ((24 : Int) - IntKind.i64.wrap ((8 : Int) * x1))))].length) * (1 : Nat) ≤ (140737488355328 : Nat) ∧ x8.length + [IntKind.u8.wrap (Ev.ishr IntKind.u64 x4 (IntKind.i64.wrap ((24 : Int) - IntKind.i64.wrap ((8 : Int) * x1))))].length ≤ (140737488355328 : Nat)) then
  c (x0, IntKind.i64.wrap (x1 + (1 : Int)), x2, x3, x4, x5, x6, x7, x8 ++ [IntKind.u8.wrap (Ev.ishr IntKind.u64 x4 (IntKind.i64.wrap ((24 : Int) - IntKind.i64.wrap ((8 : Int) * x1))))])
  else none
  else
  b (x2, x3, x4, x5, x6, x7, x8)
noncomputable def S_coder_Encoder_End_a20_2 (fuel : Nat) (v : Int × Int × Int × Int × Int × Bool × (List Int) × (List Int) × (List Int)) (c : (Int × Int × Int × Int × Int × Bool × (List Int) × (List Int) × (List Int)) → Option Ans) (B : (Int × Int × Int × Bool × (List Int) × (List Int) × (List Int) → Option Ans)) : Option Ans := match v with
 | (x0, x1, x2, x3, x4, x5, x6, x7, x8) => Sg_coder_Encoder_End_a20_2 fuel (F_coder_Encoder_none_a20 fuel) x0 x1 x2 x3 x4 x5 x6 x7 x8 c B
noncomputable def L_coder_Encoder_End_a20_2 (fuel : Nat) (v : Int × Int × Int × Int × Int × Bool × (List Int) × (List Int) × (List Int)) (b : (Int × Int × Int × Bool × (List Int) × (List Int) × (List Int) → Option Ans)) : Option Ans := iter (S_coder_Encoder_End_a20_2 fuel) fuel v b
noncomputable def J92_a20_2 (fuel : Nat) (i : Nat) : Option Ev.Blk := Ev.look i []
noncomputable def T92_a20_2 (v : Int × Int × Int × Int × Int × Bool × (List Int) × (List Int) × (List Int)) : Ev.St := match v with | (x0, x1, x2, x3, x4, x5, x6, x7, x8) => ⟨[(0, .c (.ptr 0 0)), (3, .c (.own 3)), (37, .c (.int .i64 x0)), (38, .c (.int .i64 x1))], [(0, .cells 172 (.int .i64 x2 :: .own 1 :: ctb (.int .u64 x3 :: .int .u64 x4 :: .own 2 :: .bool x5 :: []))), (1, .vec 3 (.int .i64) x6 false), (2, .vec 5 (.int .u8) x7 false), (3, .vec 5 (.int .u8) x8 true)], 4, 3⟩
noncomputable def E92_a20_2 (K : Ev.Ex → Ev.St → Option Ans) : (Int × Int × Int × Bool × (List Int) × (List Int) × (List Int) → Option Ans) := (fun v => match v with | (x0, x1, x2, x3, x4, x5, x6) => K .normal ⟨[(3, .c (.own 3))], [(0, .cells 172 (.int .i64 x0 :: .own 1 :: ctb (.int .u64 x1 :: .int .u64 x2 :: .own 2 :: .bool x3 :: []))), (1, .vec 3 (.int .i64) x4 false), (2, .vec 5 (.int .u8) x5 false), (3, .vec 5 (.int .u8) x6 true)], 4, 3⟩)
theorem S92_a20_2_okg (fuel : Nat) (f164_a20 : YF164_a20) (R : Ev.St → Option Ans) (K : Ev.Ex → Ev.St → Option Ans) (x0 x1 : Int) (x2 x3 x4 : Int) (x5 : Bool) (x6 x7 x8 : (List Int)) : evalCode tab (Gg92_a20 f164_a20) (J92_a20_2 fuel) kp92_a20 fuel (bodyOf 2 Try.f92) (T92_a20_2 (x0, x1, x2, x3, x4, x5, x6, x7, x8)) (lc kp92_a20 10 2 R K) = Sg_coder_Encoder_End_a20_2 fuel f164_a20 x0 x1 x2 x3 x4 x5 x6 x7 x8 (fun v => R (T92_a20_2 v)) (E92_a20_2 K) := by
  kernel_rfl
theorem S92_a20_2_ok (fuel : Nat) (R : Ev.St → Option Ans) (K : Ev.Ex → Ev.St → Option Ans) (x0 x1 : Int) (x2 x3 x4 : Int) (x5 : Bool) (x6 x7 x8 : (List Int)) : evalCode tab (G92_a20 fuel) (J92_a20_2 fuel) kp92_a20 fuel (bodyOf 2 Try.f92) (T92_a20_2 (x0, x1, x2, x3, x4, x5, x6, x7, x8)) (lc kp92_a20 10 2 R K) = S_coder_Encoder_End_a20_2 fuel (x0, x1, x2, x3, x4, x5, x6, x7, x8) (fun v => R (T92_a20_2 v)) (E92_a20_2 K) :=
  S92_a20_2_okg fuel (F_coder_Encoder_none_a20 fuel) R K x0 x1 x2 x3 x4 x5 x6 x7 x8
noncomputable def B92_a20_2 (fuel : Nat) : Ev.Blk := fun st K => match canonO (kp92_a20 10) st with
 | some s => (match s with
 | ⟨[(q0, .c (.ptr q1 q2)), (q3, .c (.own q4)), (q5, .c (.int .i64 x0)), (q6, .c (.int .i64 x1))], [(q7, .cells q8 cs0), (q9, .vec q10 (.int .i64) x6 false), (q11, .vec q12 (.int .u8) x7 false), (q13, .vec q14 (.int .u8) x8 true)], q15, q16⟩ => (match splitRun 2 ctn cs0 with | some ([.int .i64 x2, .own q17], [.int .u64 x3, .int .u64 x4, .own q18, .bool x5]) => bif Nat.beq q0 0 && Nat.beq q1 0 && Nat.beq q2 0 && Nat.beq q3 3 && Nat.beq q4 3 && Nat.beq q5 37 && Nat.beq q6 38 && Nat.beq q7 0 && Nat.beq q8 172 && Nat.beq q9 1 && Nat.beq q10 3 && Nat.beq q11 2 && Nat.beq q12 5 && Nat.beq q13 3 && Nat.beq q14 5 && Nat.beq q15 4 && Nat.beq q16 3 && Nat.beq q17 1 && Nat.beq q18 2 then iter (S_coder_Encoder_End_a20_2 fuel) fuel (x0, x1, x2, x3, x4, x5, x6, x7, x8) (E92_a20_2 K) else none | _ => none)
 | _ => none)
 | none => none
theorem B92_a20_2_ok (fuel : Nat) (st : Ev.St) (K : Ev.Ex → Ev.St → Option Ans) (r : Ans) (h : B92_a20_2 fuel st K = some r) : evalCode tab (G92_a20 fuel) (J92_a20_2 fuel) kp92_a20 fuel (.block 2 (.loop (bodyOf 2 Try.f92))) st K = some r := by
  unfold B92_a20_2 at h
  split at h
  · rename_i s hs
    split at h
    · skip
      split at h
      rotate_left 1
      · cases h
      rename_i hsp
      have esp := splitRun_eq hsp
      subst esp
      obtain ⟨hb, h⟩ := cond_some' h
      simp only [Bool.and_eq_true, Nat.beq_eq, decide_eq_true_eq] at hb
      obtain ⟨⟨⟨⟨⟨⟨⟨⟨⟨⟨⟨⟨⟨⟨⟨⟨⟨⟨rfl, rfl⟩, rfl⟩, rfl⟩, rfl⟩, rfl⟩, rfl⟩, rfl⟩, rfl⟩, rfl⟩, rfl⟩, rfl⟩, rfl⟩, rfl⟩, rfl⟩, rfl⟩, rfl⟩, rfl⟩, rfl⟩ := hb
      exact blk_loop (S := T92_a20_2) (ks := E92_a20_2) (step := S_coder_Encoder_End_a20_2 fuel) (v := (_, _, _, _, _, _, _, _, _)) (by kernel_rfl) (by kernel_rfl) (fun R K v => by obtain ⟨x0, x1, x2, x3, x4, x5, x6, x7, x8⟩ := v; exact S92_a20_2_ok fuel R K x0 x1 x2 x3 x4 x5 x6 x7 x8) hs h
    · cases h
  · cases h
noncomputable def Sg_coder_Encoder_End_a20_0 (fuel : Nat) (f164_a20 : YF164_a20) (x0 x1 : Int) (x2 x3 : Int) (x4 : Bool) (x5 x6 x7 : (List Int)) (c : (Int × Int × Int × Int × Bool × (List Int) × (List Int) × (List Int)) → Option Ans) (B : (Int × Int × Int × Bool × (List Int) × (List Int) × (List Int) → Option Ans) × (Int × Int × Int × Bool × (List Int) × (List Int) × (List Int) → Option Ans)) : Option Ans := match B with
 | (ret, b) =>
  bif decide (x0 < (5 : Int)) then
  bif decide (IntKind.u64.wrap (IntKind.i64.wrap ((32 : Int) - IntKind.i64.wrap ((8 : Int) * x0))) < (0 : Int)) then
  none
  else
  bif decide (IntKind.u64.wrap (IntKind.i64.wrap ((32 : Int) - IntKind.i64.wrap ((8 : Int) * x0))) < (0 : Int)) then
  none
  else
  bif decide (Ev.ishl IntKind.u64 (Ev.ishr IntKind.u64 x3 (IntKind.u64.wrap (IntKind.i64.wrap ((32 : Int) - IntKind.i64.wrap ((8 : Int) * x0))))) (IntKind.u64.wrap (IntKind.i64.wrap ((32 : Int) - IntKind.i64.wrap ((8 : Int) * x0)))) ≥ x2) then
  (L_coder_Encoder_End_a20_2 fuel (x0, (0 : Int), x1, x2, x3, x4, x5, x6, x7)
  (fun (b2_0, b2_1, b2_2, b2_3, b2_4, b2_5, b2_6) =>
  ret (b2_0, b2_1, b2_2, b2_3, b2_4, b2_5, b2_6)))
  else
  c (IntKind.i64.wrap (x0 + (1 : Int)), x1, x2, x3, x4, x5, x6, x7)
  else
  b (x1, x2, x3, x4, x5, x6, x7)
noncomputable def S_coder_Encoder_End_a20_0 (fuel : Nat) (v : Int × Int × Int × Int × Bool × (List Int) × (List Int) × (List Int)) (c : (Int × Int × Int × Int × Bool × (List Int) × (List Int) × (List Int)) → Option Ans) (B : (Int × Int × Int × Bool × (List Int) × (List Int) × (List Int) → Option Ans) × (Int × Int × Int × Bool × (List Int) × (List Int) × (List Int) → Option Ans)) : Option Ans := match v with
 | (x0, x1, x2, x3, x4, x5, x6, x7) => Sg_coder_Encoder_End_a20_0 fuel (F_coder_Encoder_none_a20 fuel) x0 x1 x2 x3 x4 x5 x6 x7 c B
noncomputable def L_coder_Encoder_End_a20_0 (fuel : Nat) (v : Int × Int × Int × Int × Bool × (List Int) × (List Int) × (List Int)) (ret : (Int × Int × Int × Bool × (List Int) × (List Int) × (List Int) → Option Ans)) (b : (Int × Int × Int × Bool × (List Int) × (List Int) × (List Int) → Option Ans)) : Option Ans := iter (S_coder_Encoder_End_a20_0 fuel) fuel v (ret, b)
noncomputable def J92_a20_0 (fuel : Nat) (i : Nat) : Option Ev.Blk := Ev.look i [(100002, B92_a20_2 fuel)]
noncomputable def T92_a20_0 (v : Int × Int × Int × Int × Bool × (List Int) × (List Int) × (List Int)) : Ev.St := match v with | (x0, x1, x2, x3, x4, x5, x6, x7) => ⟨[(0, .c (.ptr 0 0)), (3, .c (.own 3)), (15, .c (.int .i64 x0))], [(0, .cells 172 (.int .i64 x1 :: .own 1 :: ctb (.int .u64 x2 :: .int .u64 x3 :: .own 2 :: .bool x4 :: []))), (1, .vec 3 (.int .i64) x5 false), (2, .vec 5 (.int .u8) x6 false), (3, .vec 5 (.int .u8) x7 true)], 4, 3⟩
noncomputable def E92_a20_0 (K : Ev.Ex → Ev.St → Option Ans) : (Int × Int × Int × Bool × (List Int) × (List Int) × (List Int) → Option Ans) × (Int × Int × Int × Bool × (List Int) × (List Int) × (List Int) → Option Ans) := ((fun v => match v with | (x0, x1, x2, x3, x4, x5, x6) => K .ret ⟨[(2, .c (.own 3))], [(0, .cells 172 (.int .i64 x0 :: .own 1 :: ctb (.int .u64 x1 :: .int .u64 x2 :: .own 2 :: .bool x3 :: []))), (1, .vec 3 (.int .i64) x4 false), (2, .vec 5 (.int .u8) x5 false), (3, .vec 5 (.int .u8) x6 true)], 4, 3⟩), (fun v => match v with | (x0, x1, x2, x3, x4, x5, x6) => K .normal ⟨[(3, .c (.own 3))], [(0, .cells 172 (.int .i64 x0 :: .own 1 :: ctb (.int .u64 x1 :: .int .u64 x2 :: .own 2 :: .bool x3 :: []))), (1, .vec 3 (.int .i64) x4 false), (2, .vec 5 (.int .u8) x5 false), (3, .vec 5 (.int .u8) x6 true)], 4, 3⟩))
theorem S92_a20_0_okg (fuel : Nat) (f164_a20 : YF164_a20) (R : Ev.St → Option Ans) (K : Ev.Ex → Ev.St → Option Ans) (x0 x1 : Int) (x2 x3 : Int) (x4 : Bool) (x5 x6 x7 : (List Int)) : evalCode tab (Gg92_a20 f164_a20) (J92_a20_0 fuel) kp92_a20 fuel (bodyOf 0 Try.f92) (T92_a20_0 (x0, x1, x2, x3, x4, x5, x6, x7)) (lc kp92_a20 5 0 R K) = Sg_coder_Encoder_End_a20_0 fuel f164_a20 x0 x1 x2 x3 x4 x5 x6 x7 (fun v => R (T92_a20_0 v)) (E92_a20_0 K) := by
  kernel_rfl
theorem S92_a20_0_ok (fuel : Nat) (R : Ev.St → Option Ans) (K : Ev.Ex → Ev.St → Option Ans) (x0 x1 : Int) (x2 x3 : Int) (x4 : Bool) (x5 x6 x7 : (List Int)) : evalCode tab (G92_a20 fuel) (J92_a20_0 fuel) kp92_a20 fuel (bodyOf 0 Try.f92) (T92_a20_0 (x0, x1, x2, x3, x4, x5, x6, x7)) (lc kp92_a20 5 0 R K) = S_coder_Encoder_End_a20_0 fuel (x0, x1, x2, x3, x4, x5, x6, x7) (fun v => R (T92_a20_0 v)) (E92_a20_0 K) :=
  S92_a20_0_okg fuel (F_coder_Encoder_none_a20 fuel) R K x0 x1 x2 x3 x4 x5 x6 x7
noncomputable def B92_a20_0 (fuel : Nat) : Ev.Blk := fun st K => match canonO (kp92_a20 5) st with
 | some s => (match s with
 | ⟨[(q0, .c (.ptr q1 q2)), (q3, .c (.own q4)), (q5, .c (.int .i64 x0))], [(q6, .cells q7 cs0), (q8, .vec q9 (.int .i64) x5 false), (q10, .vec q11 (.int .u8) x6 false), (q12, .vec q13 (.int .u8) x7 true)], q14, q15⟩ => (match splitRun 2 ctn cs0 with | some ([.int .i64 x1, .own q16], [.int .u64 x2, .int .u64 x3, .own q17, .bool x4]) => bif Nat.beq q0 0 && Nat.beq q1 0 && Nat.beq q2 0 && Nat.beq q3 3 && Nat.beq q4 3 && Nat.beq q5 15 && Nat.beq q6 0 && Nat.beq q7 172 && Nat.beq q8 1 && Nat.beq q9 3 && Nat.beq q10 2 && Nat.beq q11 5 && Nat.beq q12 3 && Nat.beq q13 5 && Nat.beq q14 4 && Nat.beq q15 3 && Nat.beq q16 1 && Nat.beq q17 2 then iter (S_coder_Encoder_End_a20_0 fuel) fuel (x0, x1, x2, x3, x4, x5, x6, x7) (E92_a20_0 K) else none | _ => none)
 | _ => none)
 | none => none
theorem B92_a20_0_ok (fuel : Nat) (st : Ev.St) (K : Ev.Ex → Ev.St → Option Ans) (r : Ans) (h : B92_a20_0 fuel st K = some r) : evalCode tab (G92_a20 fuel) (J92_a20_0 fuel) kp92_a20 fuel (.block 0 (.loop (bodyOf 0 Try.f92))) st K = some r := by
  unfold B92_a20_0 at h
  split at h
  · rename_i s hs
    split at h
    · skip
      split at h
      rotate_left 1
      · cases h
      rename_i hsp
      have esp := splitRun_eq hsp
      subst esp
      obtain ⟨hb, h⟩ := cond_some' h
      simp only [Bool.and_eq_true, Nat.beq_eq, decide_eq_true_eq] at hb
      obtain ⟨⟨⟨⟨⟨⟨⟨⟨⟨⟨⟨⟨⟨⟨⟨⟨⟨rfl, rfl⟩, rfl⟩, rfl⟩, rfl⟩, rfl⟩, rfl⟩, rfl⟩, rfl⟩, rfl⟩, rfl⟩, rfl⟩, rfl⟩, rfl⟩, rfl⟩, rfl⟩, rfl⟩, rfl⟩ := hb
      exact blk_loop (S := T92_a20_0) (ks := E92_a20_0) (step := S_coder_Encoder_End_a20_0 fuel) (v := (_, _, _, _, _, _, _, _)) (by kernel_rfl) (by kernel_rfl) (fun R K v => by obtain ⟨x0, x1, x2, x3, x4, x5, x6, x7⟩ := v; exact S92_a20_0_ok fuel R K x0 x1 x2 x3 x4 x5 x6 x7) hs h
    · cases h
  · cases h
noncomputable def J92_a20 (fuel : Nat) (i : Nat) : Option Ev.Blk := Ev.look i [(100002, B92_a20_2 fuel), (100000, B92_a20_0 fuel)]
noncomputable def Fg_coder_Encoder_End_a20 (fuel : Nat) (f164_a20 : YF164_a20) (x0 x1 x2 : Int) (x3 : Bool) (x4 x5 : (List Int)) (k0 : (Int × Int × Int × Bool × (List Int) × (List Int) × (List Int)) → Option Ans) : Option Ans :=
  (f164_a20 (x0) (x1) (x2) (x3) (x4) (x5)
  (fun (y2_0, y2_1, y2_2, y2_3, y2_4, y2_5, y2_6) =>
  bif y2_0 then
  k0 (y2_1, y2_2, y2_3, y2_4, y2_5, y2_6, [])
  else
  bif decide (((0 : Nat) + y2_6.length) * (1 : Nat) ≤ (140737488355328 : Nat) ∧ (0 : Nat) + y2_6.length ≤ (140737488355328 : Nat)) then
  (L_coder_Encoder_End_a20_0 fuel ((0 : Int), y2_1, y2_2, y2_3, y2_4, y2_5, y2_6, [] ++ y2_6)
  (fun (ret0_0, ret0_1, ret0_2, ret0_3, ret0_4, ret0_5, ret0_6) =>
  k0 (ret0_0, ret0_1, ret0_2, ret0_3, ret0_4, ret0_5, ret0_6))
  (fun (b0_0, b0_1, b0_2, b0_3, b0_4, b0_5, b0_6) =>
  k0 (b0_0, b0_1, b0_2, b0_3, b0_4, b0_5, b0_6)))
  else none))
noncomputable def F_coder_Encoder_End_a20 (fuel : Nat) (x0 x1 x2 : Int) (x3 : Bool) (x4 x5 : (List Int)) (k0 : (Int × Int × Int × Bool × (List Int) × (List Int) × (List Int)) → Option Ans) : Option Ans := Fg_coder_Encoder_End_a20 fuel (F_coder_Encoder_none_a20 fuel) x0 x1 x2 x3 x4 x5 k0
abbrev YF92_a20 : Type := (Int) → (Int) → (Int) → (Bool) → ((List Int)) → ((List Int)) → ((Int × Int × Int × Bool × (List Int) × (List Int) × (List Int)) → Option Ans) → Option Ans
theorem F92_a20_eqg (fuel : Nat) (f164_a20 : YF164_a20) (x0 x1 x2 : Int) (x3 : Bool) (x4 x5 : (List Int)) (k : Ev.Cont) : evalFn tab (Gg92_a20 f164_a20) (J92_a20 fuel) kp92_a20 fuel Try.f92 [.c (.ptr 0 0)] [.cells 172 (.int .i64 x0 :: .own 1 :: ctb (.int .u64 x1 :: .int .u64 x2 :: .own 2 :: .bool x3 :: [])), .vec 3 (.int .i64) x4 false, .vec 5 (.int .u8) x5 false] k = Fg_coder_Encoder_End_a20 fuel f164_a20 x0 x1 x2 x3 x4 x5 (fun r => match r with | (r0, r1, r2, r3, r4, r5, r6) => k (.c (.own 3), [.cells 172 (.int .i64 r0 :: .own 1 :: ctb (.int .u64 r1 :: .int .u64 r2 :: .own 2 :: .bool r3 :: [])), .vec 3 (.int .i64) r4 false, .vec 5 (.int .u8) r5 false, .vec 5 (.int .u8) r6 true])) := by
  kernel_rfl
theorem F92_a20_eq (fuel : Nat) (x0 x1 x2 : Int) (x3 : Bool) (x4 x5 : (List Int)) (k : Ev.Cont) : evalFn tab (G92_a20 fuel) (J92_a20 fuel) kp92_a20 fuel Try.f92 [.c (.ptr 0 0)] [.cells 172 (.int .i64 x0 :: .own 1 :: ctb (.int .u64 x1 :: .int .u64 x2 :: .own 2 :: .bool x3 :: [])), .vec 3 (.int .i64) x4 false, .vec 5 (.int .u8) x5 false] k = F_coder_Encoder_End_a20 fuel x0 x1 x2 x3 x4 x5 (fun r => match r with | (r0, r1, r2, r3, r4, r5, r6) => k (.c (.own 3), [.cells 172 (.int .i64 r0 :: .own 1 :: ctb (.int .u64 r1 :: .int .u64 r2 :: .own 2 :: .bool r3 :: [])), .vec 3 (.int .i64) r4 false, .vec 5 (.int .u8) r5 false, .vec 5 (.int .u8) r6 true])) :=
  F92_a20_eqg fuel (F_coder_Encoder_none_a20 fuel) x0 x1 x2 x3 x4 x5 k
theorem hG92_a20 (fuel : Nat) : GOK Try.prog (G92_a20 fuel) :=
  gok_cons ⟨ok164_a20 fuel, enters_of Try.func164 (by kernel_rfl) rfl⟩ <|
  gok_nil
theorem B92_a20_2_blk (fuel : Nat) : BlkOK Try.prog Try.f92.ntmps (.block 2 (.loop (bodyOf 2 Try.f92))) (B92_a20_2 fuel) :=
  blk_of (blk_of_code tab_ok (hG92_a20 fuel) mixed (J := J92_a20_2 fuel) (kp := kp92_a20) (fuel := fuel) (by kernel_rfl) (fun q hq => by
    rw [(by kernel_rfl : obl (J92_a20_2 fuel) (.block 2 (.loop (bodyOf 2 Try.f92))) = [])] at hq
    cases hq)) (B92_a20_2_ok fuel)
theorem B92_a20_0_blk (fuel : Nat) : BlkOK Try.prog Try.f92.ntmps (.block 0 (.loop (bodyOf 0 Try.f92))) (B92_a20_0 fuel) :=
  blk_of (blk_of_code tab_ok (hG92_a20 fuel) mixed (J := J92_a20_0 fuel) (kp := kp92_a20) (fuel := fuel) (by kernel_rfl) (fun q hq => by
    rw [(by kernel_rfl : obl (J92_a20_0 fuel) (.block 0 (.loop (bodyOf 0 Try.f92))) = [(.block 2 (.loop (bodyOf 2 Try.f92)), B92_a20_2 fuel)])] at hq
    simp only [List.mem_cons, List.not_mem_nil, or_false] at hq
    subst hq
    · exact B92_a20_2_blk fuel)) (B92_a20_0_ok fuel)
theorem fok92_a20 (fuel : Nat) : FnOK Try.prog 92 (evalFn tab (G92_a20 fuel) (J92_a20 fuel) kp92_a20 fuel Try.f92) :=
  fn_ok tab_ok (hG92_a20 fuel) mixed Try.func92 (c := (Try.f92.body).getD .skip) rfl (fun q hq => by
    rw [(by kernel_rfl : obl (J92_a20 fuel) ((Try.f92.body).getD .skip) = [(.block 0 (.loop (bodyOf 0 Try.f92)), B92_a20_0 fuel)])] at hq
    simp only [List.mem_cons, List.not_mem_nil, or_false] at hq
    subst hq
    · exact B92_a20_0_blk fuel)
noncomputable def mt92_a20 : List Ev.SV → List Ev.Ob → Bool := fun args objs => match args, objs with
 | [.c (.ptr q0 q1)], [.cells q2 cs0, .vec q3 (.int .i64) _ false, .vec q4 (.int .u8) _ false] => (match splitRun 2 ctn cs0 with | some ([.int .i64 _, .own q5], [.int .u64 _, .int .u64 _, .own q6, .bool _]) => Nat.beq q0 0 && Nat.beq q1 0 && Nat.beq q2 172 && Nat.beq q3 3 && Nat.beq q4 5 && Nat.beq q5 1 && Nat.beq q6 2 | _ => false)
 | _, _ => false
noncomputable def spg92_a20 (F : YF92_a20) : Ev.Spec := fun args objs k => match args, objs with
 | [.c (.ptr q0 q1)], [.cells q2 cs0, .vec q3 (.int .i64) x4 false, .vec q4 (.int .u8) x5 false] => (match splitRun 2 ctn cs0 with | some ([.int .i64 x0, .own q5], [.int .u64 x1, .int .u64 x2, .own q6, .bool x3]) => bif Nat.beq q0 0 && Nat.beq q1 0 && Nat.beq q2 172 && Nat.beq q3 3 && Nat.beq q4 5 && Nat.beq q5 1 && Nat.beq q6 2 then F x0 x1 x2 x3 x4 x5 (fun r => match r with | (r0, r1, r2, r3, r4, r5, r6) => k (.c (.own 3), [.cells 172 (.int .i64 r0 :: .own 1 :: ctb (.int .u64 r1 :: .int .u64 r2 :: .own 2 :: .bool r3 :: [])), .vec 3 (.int .i64) r4 false, .vec 5 (.int .u8) r5 false, .vec 5 (.int .u8) r6 true])) else none | _ => none)
 | _, _ => none
noncomputable def spec92_a20 (fuel : Nat) : Ev.Spec := spg92_a20 (F_coder_Encoder_End_a20 fuel)
theorem ok92_a20 (fuel : Nat) : FnOK Try.prog 92 (spec92_a20 fuel) := by
  intro args objs kk r h
  unfold spec92_a20 spg92_a20 at h
  split at h
  · skip
    split at h
    rotate_left 1
    · cases h
    rename_i hsp
    have esp := splitRun_eq hsp
    subst esp
    obtain ⟨hb, h⟩ := cond_some' h
    simp only [Bool.and_eq_true, Nat.beq_eq, decide_eq_true_eq] at hb
    obtain ⟨⟨⟨⟨⟨⟨rfl, rfl⟩, rfl⟩, rfl⟩, rfl⟩, rfl⟩, rfl⟩ := hb
    exact fok92_a20 fuel _ _ kk r ((F92_a20_eq fuel _ _ _ _ _ _ kk).trans h)
  · cases h
end Go.Proofs.Ytihfgpfofmjbaaa

set_option linter.unusedVariables false
set_option linter.unusedSimpArgs false
set_option maxRecDepth 100000
set_option maxHeartbeats 2000000
namespace Go.Proofs.Ytihfgpfofmjbaaa
open Go Ev
def kp188_e89 (i : Nat) : Option (List Nat) := Ev.look i [(8, [0, 1000002]), (100000, []), (200005, [0]), (200007, [0]), (400000, [6]), (600000, [])]
noncomputable def Gg188_e89 (f181 : YF181) (f183 : YF183) (f184 : YF184) (f185 : YF185) (f186 : YF186) (f : Nat) : Option Ev.Spec := Ev.look f [(181, spg181 f181), (183, spg183 f183), (184, spg184 f184), (185, spg185 f185), (186, spg186 f186)]
noncomputable def G188_e89 (fuel : Nat) : Nat → Option Ev.Spec := Gg188_e89 (F_ref02_Likely fuel) (F_ref02_Interval_Part fuel) (F_ref02_Interval_Fixed fuel) (F_ref02_Interval_Shifted fuel) (F_ref02_After fuel)
noncomputable def Sg_ref02_Encoder_Put_e89_0 (fuel : Nat) (f181 : YF181) (f183 : YF183) (f184 : YF184) (f185 : YF185) (f186 : YF186) (x0 x1 x2 : Int) (x3 x4 : (List Int)) (c : (Int × Int × Int × (List Int) × (List Int)) → Option Ans) (B : (Int × Int × Int × (List Int) × (List Int) → Option Ans)) : Option Ans := match B with
 | b =>
  (f184 (x1) (x2)
  (fun y2 =>
  bif y2 then
  both (bif decide ((x4.length + [IntKind.u8.wrap (Ev.ishr IntKind.u64 x2 (24 : Int))].length) * (1 : Nat) ≤ (140737488355328 : Nat) ∧ x4.length + [IntKind.u8.wrap (Ev.ishr IntKind.u64 x2 (24 : Int))].length ≤ (140737488355328 : Nat)) then
  (f185 (x1) (x2)
  (fun (y10_0, y10_1) =>
  c (x0, y10_0, y10_1, x3, x4 ++ [IntKind.u8.wrap (Ev.ishr IntKind.u64 x2 (24 : Int))])))
  else none)
  (both (bif decide ((x4.length + [IntKind.u8.wrap (Ev.ishr IntKind.u64 x2 (24 : Int))].length) * (1 : Nat) ≤ (140737488355328 : Nat) ∧ x4.length + [IntKind.u8.wrap (Ev.ishr IntKind.u64 x2 (24 : Int))].length ≤ (140737488355328 : Nat)) then
  (f185 (x1) (x2)
  (fun (y12_0, y12_1) =>
  c (x0, y12_0, y12_1, x3, x4 ++ [IntKind.u8.wrap (Ev.ishr IntKind.u64 x2 (24 : Int))])))
  else none)
  (bif decide ((x4.length + [IntKind.u8.wrap (Ev.ishr IntKind.u64 x2 (24 : Int))].length) * (1 : Nat) ≤ (140737488355328 : Nat) ∧ x4.length + [IntKind.u8.wrap (Ev.ishr IntKind.u64 x2 (24 : Int))].length ≤ (140737488355328 : Nat)) then
  (f185 (x1) (x2)
  (fun (y12_0, y12_1) =>
  c (x0, y12_0, y12_1, x3, x4 ++ [IntKind.u8.wrap (Ev.ishr IntKind.u64 x2 (24 : Int))])))
  else none))
  else
  b (x0, x1, x2, x3, x4)))
noncomputable def S_ref02_Encoder_Put_e89_0 (fuel : Nat) (v : Int × Int × Int × (List Int) × (List Int)) (c : (Int × Int × Int × (List Int) × (List Int)) → Option Ans) (B : (Int × Int × Int × (List Int) × (List Int) → Option Ans)) : Option Ans := match v with
 | (x0, x1, x2, x3, x4) => Sg_ref02_Encoder_Put_e89_0 fuel (F_ref02_Likely fuel) (F_ref02_Interval_Part fuel) (F_ref02_Interval_Fixed fuel) (F_ref02_Interval_Shifted fuel) (F_ref02_After fuel) x0 x1 x2 x3 x4 c B
noncomputable def L_ref02_Encoder_Put_e89_0 (fuel : Nat) (v : Int × Int × Int × (List Int) × (List Int)) (b : (Int × Int × Int × (List Int) × (List Int) → Option Ans)) : Option Ans := iter (S_ref02_Encoder_Put_e89_0 fuel) fuel v b
noncomputable def J188_e89_0 (fuel : Nat) (i : Nat) : Option Ev.Blk := Ev.look i []
noncomputable def T188_e89_0 (v : Int × Int × Int × (List Int) × (List Int)) : Ev.St := match v with | (x0, x1, x2, x3, x4) => ⟨[(0, .c (.ptr 0 0))], [(0, .cells 225 [.int .i64 x0, .own 1, .int .u64 x1, .int .u64 x2, .own 2]), (1, .vec 3 (.int .i64) x3 false), (2, .vec 5 (.int .u8) x4 true)], 3, 3⟩
noncomputable def E188_e89_0 (K : Ev.Ex → Ev.St → Option Ans) : (Int × Int × Int × (List Int) × (List Int) → Option Ans) := (fun v => match v with | (x0, x1, x2, x3, x4) => K .normal ⟨[], [(0, .cells 225 [.int .i64 x0, .own 1, .int .u64 x1, .int .u64 x2, .own 2]), (1, .vec 3 (.int .i64) x3 false), (2, .vec 5 (.int .u8) x4 true)], 3, 3⟩)
theorem S188_e89_0_okg (fuel : Nat) (f181 : YF181) (f183 : YF183) (f184 : YF184) (f185 : YF185) (f186 : YF186) (R : Ev.St → Option Ans) (K : Ev.Ex → Ev.St → Option Ans) (x0 x1 x2 : Int) (x3 x4 : (List Int)) : evalCode tab (Gg188_e89 f181 f183 f184 f185 f186) (J188_e89_0 fuel) kp188_e89 fuel (bodyOf 0 Try.f188) (T188_e89_0 (x0, x1, x2, x3, x4)) (lc kp188_e89 8 0 R K) = Sg_ref02_Encoder_Put_e89_0 fuel f181 f183 f184 f185 f186 x0 x1 x2 x3 x4 (fun v => R (T188_e89_0 v)) (E188_e89_0 K) := by
  kernel_rfl
theorem S188_e89_0_ok (fuel : Nat) (R : Ev.St → Option Ans) (K : Ev.Ex → Ev.St → Option Ans) (x0 x1 x2 : Int) (x3 x4 : (List Int)) : evalCode tab (G188_e89 fuel) (J188_e89_0 fuel) kp188_e89 fuel (bodyOf 0 Try.f188) (T188_e89_0 (x0, x1, x2, x3, x4)) (lc kp188_e89 8 0 R K) = S_ref02_Encoder_Put_e89_0 fuel (x0, x1, x2, x3, x4) (fun v => R (T188_e89_0 v)) (E188_e89_0 K) :=
  S188_e89_0_okg fuel (F_ref02_Likely fuel) (F_ref02_Interval_Part fuel) (F_ref02_Interval_Fixed fuel) (F_ref02_Interval_Shifted fuel) (F_ref02_After fuel) R K x0 x1 x2 x3 x4
noncomputable def B188_e89_0 (fuel : Nat) : Ev.Blk := fun st K => match canonO (kp188_e89 8) st with
 | some s => (match s with
 | ⟨[(q0, .c (.ptr q1 q2))], [(q3, .cells q4 [.int .i64 x0, .own q5, .int .u64 x1, .int .u64 x2, .own q6]), (q7, .vec q8 (.int .i64) x3 false), (q9, .vec q10 (.int .u8) x4 true)], q11, q12⟩ => bif Nat.beq q0 0 && Nat.beq q1 0 && Nat.beq q2 0 && Nat.beq q3 0 && Nat.beq q4 225 && Nat.beq q5 1 && Nat.beq q6 2 && Nat.beq q7 1 && Nat.beq q8 3 && Nat.beq q9 2 && Nat.beq q10 5 && Nat.beq q11 3 && Nat.beq q12 3 then iter (S_ref02_Encoder_Put_e89_0 fuel) fuel (x0, x1, x2, x3, x4) (E188_e89_0 K) else none
 | _ => none)
 | none => none
theorem B188_e89_0_ok (fuel : Nat) (st : Ev.St) (K : Ev.Ex → Ev.St → Option Ans) (r : Ans) (h : B188_e89_0 fuel st K = some r) : evalCode tab (G188_e89 fuel) (J188_e89_0 fuel) kp188_e89 fuel (.block 0 (.loop (bodyOf 0 Try.f188))) st K = some r := by
  unfold B188_e89_0 at h
  split at h
  · rename_i s hs
    split at h
    · skip
      obtain ⟨hb, h⟩ := cond_some' h
      simp only [Bool.and_eq_true, Nat.beq_eq, decide_eq_true_eq] at hb
      obtain ⟨⟨⟨⟨⟨⟨⟨⟨⟨⟨⟨⟨rfl, rfl⟩, rfl⟩, rfl⟩, rfl⟩, rfl⟩, rfl⟩, rfl⟩, rfl⟩, rfl⟩, rfl⟩, rfl⟩, rfl⟩ := hb
      exact blk_loop (S := T188_e89_0) (ks := E188_e89_0) (step := S_ref02_Encoder_Put_e89_0 fuel) (v := (_, _, _, _, _)) (by kernel_rfl) (by kernel_rfl) (fun R K v => by obtain ⟨x0, x1, x2, x3, x4⟩ := v; exact S188_e89_0_ok fuel R K x0 x1 x2 x3 x4) hs h
    · cases h
  · cases h
noncomputable def J188_e89 (fuel : Nat) (i : Nat) : Option Ev.Blk := Ev.look i [(100000, B188_e89_0 fuel)]
noncomputable def Fg_ref02_Encoder_Put_e89 (fuel : Nat) (f181 : YF181) (f183 : YF183) (f184 : YF184) (f185 : YF185) (f186 : YF186) (x0 x1 : Int) (x2 x3 x4 : Int) (x5 x6 : (List Int)) (k0 : (Int × Int × Int × Int × (List Int) × (List Int)) → Option Ans) (k1 : (Int × Int × Int × Int × (List Int) × (List Int)) → Option Ans) : Option Ans :=
  bif decide (x0 < (0 : Int)) then
  k0 ((2 : Int), x2, x3, x4, x5, x6)
  else
  bif decide (x0 ≥ (↑x5.length : Int)) then
  k0 ((2 : Int), x2, x3, x4, x5, x6)
  else
  bif x1 != (0 : Int) then
  bif x1 != (1 : Int) then
  k0 ((2 : Int), x2, x3, x4, x5, x6)
  else
  bif decide ((0 : Int) ≤ x0 ∧ x0 < (↑x5.length : Int)) then
  (f181 (x2) (x5.getD x0.toNat (0 : Int))
  (fun y7 =>
  (f183 (x3) (x4) (y7) (x1)
  (fun (y11_0, y11_1) =>
  bif decide ((0 : Int) ≤ x0 ∧ x0 < (↑x5.length : Int)) then
  (f186 (x2) (x5.getD x0.toNat (0 : Int)) (x1)
  (fun y16 =>
  bif decide ((0 : Int) ≤ x0 ∧ x0 < (↑x5.length : Int)) then
  (L_ref02_Encoder_Put_e89_0 fuel (x2, y11_0, y11_1, x5.set x0.toNat y16, x6)
  (fun (b0_0, b0_1, b0_2, b0_3, b0_4) =>
  k1 ((0 : Int), b0_0, b0_1, b0_2, b0_3, b0_4)))
  else none))
  else none))))
  else none
  else
  bif decide ((0 : Int) ≤ x0 ∧ x0 < (↑x5.length : Int)) then
  (f181 (x2) (x5.getD x0.toNat (0 : Int))
  (fun y6 =>
  (f183 (x3) (x4) (y6) (x1)
  (fun (y10_0, y10_1) =>
  bif decide ((0 : Int) ≤ x0 ∧ x0 < (↑x5.length : Int)) then
  (f186 (x2) (x5.getD x0.toNat (0 : Int)) (x1)
  (fun y15 =>
  bif decide ((0 : Int) ≤ x0 ∧ x0 < (↑x5.length : Int)) then
  (L_ref02_Encoder_Put_e89_0 fuel (x2, y10_0, y10_1, x5.set x0.toNat y15, x6)
  (fun (b0_0, b0_1, b0_2, b0_3, b0_4) =>
  k1 ((0 : Int), b0_0, b0_1, b0_2, b0_3, b0_4)))
  else none))
  else none))))
  else none
noncomputable def F_ref02_Encoder_Put_e89 (fuel : Nat) (x0 x1 : Int) (x2 x3 x4 : Int) (x5 x6 : (List Int)) (k0 : (Int × Int × Int × Int × (List Int) × (List Int)) → Option Ans) (k1 : (Int × Int × Int × Int × (List Int) × (List Int)) → Option Ans) : Option Ans := Fg_ref02_Encoder_Put_e89 fuel (F_ref02_Likely fuel) (F_ref02_Interval_Part fuel) (F_ref02_Interval_Fixed fuel) (F_ref02_Interval_Shifted fuel) (F_ref02_After fuel) x0 x1 x2 x3 x4 x5 x6 k0 k1
abbrev YF188_e89 : Type := (Int) → (Int) → (Int) → (Int) → (Int) → ((List Int)) → ((List Int)) → ((Int × Int × Int × Int × (List Int) × (List Int)) → Option Ans) → ((Int × Int × Int × Int × (List Int) × (List Int)) → Option Ans) → Option Ans
theorem F188_e89_eqg (fuel : Nat) (f181 : YF181) (f183 : YF183) (f184 : YF184) (f185 : YF185) (f186 : YF186) (x0 x1 : Int) (x2 x3 x4 : Int) (x5 x6 : (List Int)) (k : Ev.Cont) : evalFn tab (Gg188_e89 f181 f183 f184 f185 f186) (J188_e89 fuel) kp188_e89 fuel Try.f188 [.c (.ptr 0 0), .c (.int .i64 x0), .c (.int .i64 x1)] [.cells 225 [.int .i64 x2, .own 1, .int .u64 x3, .int .u64 x4, .own 2], .vec 3 (.int .i64) x5 false, .vec 5 (.int .u8) x6 false] k = Fg_ref02_Encoder_Put_e89 fuel f181 f183 f184 f185 f186 x0 x1 x2 x3 x4 x5 x6 (fun r => match r with | (r0, r1, r2, r3, r4, r5) => k (.c (.int .i64 r0), [.cells 225 [.int .i64 r1, .own 1, .int .u64 r2, .int .u64 r3, .own 2], .vec 3 (.int .i64) r4 false, .vec 5 (.int .u8) r5 false])) (fun r => match r with | (r0, r1, r2, r3, r4, r5) => k (.c (.int .i64 r0), [.cells 225 [.int .i64 r1, .own 1, .int .u64 r2, .int .u64 r3, .own 2], .vec 3 (.int .i64) r4 false, .vec 5 (.int .u8) r5 true])) := by
  kernel_rfl
theorem F188_e89_eq (fuel : Nat) (x0 x1 : Int) (x2 x3 x4 : Int) (x5 x6 : (List Int)) (k : Ev.Cont) : evalFn tab (G188_e89 fuel) (J188_e89 fuel) kp188_e89 fuel Try.f188 [.c (.ptr 0 0), .c (.int .i64 x0), .c (.int .i64 x1)] [.cells 225 [.int .i64 x2, .own 1, .int .u64 x3, .int .u64 x4, .own 2], .vec 3 (.int .i64) x5 false, .vec 5 (.int .u8) x6 false] k = F_ref02_Encoder_Put_e89 fuel x0 x1 x2 x3 x4 x5 x6 (fun r => match r with | (r0, r1, r2, r3, r4, r5) => k (.c (.int .i64 r0), [.cells 225 [.int .i64 r1, .own 1, .int .u64 r2, .int .u64 r3, .own 2], .vec 3 (.int .i64) r4 false, .vec 5 (.int .u8) r5 false])) (fun r => match r with | (r0, r1, r2, r3, r4, r5) => k (.c (.int .i64 r0), [.cells 225 [.int .i64 r1, .own 1, .int .u64 r2, .int .u64 r3, .own 2], .vec 3 (.int .i64) r4 false, .vec 5 (.int .u8) r5 true])) :=
  F188_e89_eqg fuel (F_ref02_Likely fuel) (F_ref02_Interval_Part fuel) (F_ref02_Interval_Fixed fuel) (F_ref02_Interval_Shifted fuel) (F_ref02_After fuel) x0 x1 x2 x3 x4 x5 x6 k
theorem hG188_e89 (fuel : Nat) : GOK Try.prog (G188_e89 fuel) :=
  gok_cons ⟨ok181 fuel, enters_of Try.func181 (by kernel_rfl) rfl⟩ <|
  gok_cons ⟨ok183 fuel, enters_of Try.func183 (by kernel_rfl) rfl⟩ <|
  gok_cons ⟨ok184 fuel, enters_of Try.func184 (by kernel_rfl) rfl⟩ <|
  gok_cons ⟨ok185 fuel, enters_of Try.func185 (by kernel_rfl) rfl⟩ <|
  gok_cons ⟨ok186 fuel, enters_of Try.func186 (by kernel_rfl) rfl⟩ <|
  gok_nil
theorem B188_e89_0_blk (fuel : Nat) : BlkOK Try.prog Try.f188.ntmps (.block 0 (.loop (bodyOf 0 Try.f188))) (B188_e89_0 fuel) :=
  blk_of (blk_of_code tab_ok (hG188_e89 fuel) mixed (J := J188_e89_0 fuel) (kp := kp188_e89) (fuel := fuel) (by kernel_rfl) (fun q hq => by
    rw [(by kernel_rfl : obl (J188_e89_0 fuel) (.block 0 (.loop (bodyOf 0 Try.f188))) = [])] at hq
    cases hq)) (B188_e89_0_ok fuel)
theorem fok188_e89 (fuel : Nat) : FnOK Try.prog 188 (evalFn tab (G188_e89 fuel) (J188_e89 fuel) kp188_e89 fuel Try.f188) :=
  fn_ok tab_ok (hG188_e89 fuel) mixed Try.func188 (c := (Try.f188.body).getD .skip) rfl (fun q hq => by
    rw [(by kernel_rfl : obl (J188_e89 fuel) ((Try.f188.body).getD .skip) = [(.block 0 (.loop (bodyOf 0 Try.f188)), B188_e89_0 fuel)])] at hq
    simp only [List.mem_cons, List.not_mem_nil, or_false] at hq
    subst hq
    · exact B188_e89_0_blk fuel)
noncomputable def mt188_e89 : List Ev.SV → List Ev.Ob → Bool := fun args objs => match args, objs with
 | [.c (.ptr q0 q1), .c (.int .i64 _), .c (.int .i64 _)], [.cells q2 [.int .i64 _, .own q3, .int .u64 _, .int .u64 _, .own q4], .vec q5 (.int .i64) _ false, .vec q6 (.int .u8) _ false] => Nat.beq q0 0 && Nat.beq q1 0 && Nat.beq q2 225 && Nat.beq q3 1 && Nat.beq q4 2 && Nat.beq q5 3 && Nat.beq q6 5
 | _, _ => false
noncomputable def spg188_e89 (F : YF188_e89) : Ev.Spec := fun args objs k => match args, objs with
 | [.c (.ptr q0 q1), .c (.int .i64 x0), .c (.int .i64 x1)], [.cells q2 [.int .i64 x2, .own q3, .int .u64 x3, .int .u64 x4, .own q4], .vec q5 (.int .i64) x5 false, .vec q6 (.int .u8) x6 false] => bif Nat.beq q0 0 && Nat.beq q1 0 && Nat.beq q2 225 && Nat.beq q3 1 && Nat.beq q4 2 && Nat.beq q5 3 && Nat.beq q6 5 then F x0 x1 x2 x3 x4 x5 x6 (fun r => match r with | (r0, r1, r2, r3, r4, r5) => k (.c (.int .i64 r0), [.cells 225 [.int .i64 r1, .own 1, .int .u64 r2, .int .u64 r3, .own 2], .vec 3 (.int .i64) r4 false, .vec 5 (.int .u8) r5 false])) (fun r => match r with | (r0, r1, r2, r3, r4, r5) => k (.c (.int .i64 r0), [.cells 225 [.int .i64 r1, .own 1, .int .u64 r2, .int .u64 r3, .own 2], .vec 3 (.int .i64) r4 false, .vec 5 (.int .u8) r5 true])) else none
 | _, _ => none
noncomputable def spec188_e89 (fuel : Nat) : Ev.Spec := spg188_e89 (F_ref02_Encoder_Put_e89 fuel)
theorem ok188_e89 (fuel : Nat) : FnOK Try.prog 188 (spec188_e89 fuel) := by
  intro args objs kk r h
  unfold spec188_e89 spg188_e89 at h
  split at h
  · skip
    obtain ⟨hb, h⟩ := cond_some' h
    simp only [Bool.and_eq_true, Nat.beq_eq, decide_eq_true_eq] at hb
    obtain ⟨⟨⟨⟨⟨⟨rfl, rfl⟩, rfl⟩, rfl⟩, rfl⟩, rfl⟩, rfl⟩ := hb
    exact fok188_e89 fuel _ _ kk r ((F188_e89_eq fuel _ _ _ _ _ _ _ kk).trans h)
  · cases h
end Go.Proofs.Ytihfgpfofmjbaaa

set_option linter.unusedVariables false
set_option linter.unusedSimpArgs false
set_option maxRecDepth 100000
set_option maxHeartbeats 2000000
namespace Go.Proofs.Ytihfgpfofmjbaaa
open Go Ev
def kp189 (i : Nat) : Option (List Nat) := Ev.look i [(3, [1, 3, 4]), (100000, [3]), (400000, [2])]
noncomputable def Gg189 (f : Nat) : Option Ev.Spec := Ev.look f []
noncomputable def G189 (fuel : Nat) : Nat → Option Ev.Spec := Gg189
noncomputable def S_ref02_Interval_End_0 (fuel : Nat) (v : Int × Int × Int × (List Int)) (c : (Int × Int × Int × (List Int)) → Option Ans) (B : ((List Int) → Option Ans)) : Option Ans := match v, B with
 | (x0, x1, x2, x3), b =>
  bif decide (x0 < x1) then
  bif decide (IntKind.i64.wrap ((24 : Int) - IntKind.i64.wrap ((8 : Int) * (↑x3.length : Int))) < (0 : Int)) then
  none
  else
  bif decide ((x3.length + [IntKind.u8.wrap (Ev.ishr IntKind.u64 x2 (IntKind.i64.wrap ((24 : Int) - IntKind.i64.wrap ((8 : Int) * (↑x3.length : Int)))))].length) * (1 : Nat) ≤ (140737488355328 : Nat) ∧ x3.length + [IntKind.u8.wrap (Ev.ishr IntKind.u64 x2 (IntKind.i64.wrap ((24 : Int) - IntKind.i64.wrap ((8 : Int) * (↑x3.length : Int)))))].length ≤ (140737488355328 : Nat)) then
  bif decide (IntKind.i64.wrap ((24 : Int) - IntKind.i64.wrap ((8 : Int) * (↑x3.length : Int))) < (0 : Int)) then
  none
  else
  bif decide (IntKind.i64.wrap ((24 : Int) - IntKind.i64.wrap ((8 : Int) * (↑x3.length : Int))) < (0 : Int)) then
  none
  else
  c (IntKind.u64.wrap (x0 + Ev.ishl IntKind.u64 ((Ev.ishr IntKind.u64 x2 (IntKind.i64.wrap ((24 : Int) - IntKind.i64.wrap ((8 : Int) * (↑x3.length : Int))))).tmod (256 : Int)) (IntKind.i64.wrap ((24 : Int) - IntKind.i64.wrap ((8 : Int) * (↑x3.length : Int))))), x1, x2, x3 ++ [IntKind.u8.wrap (Ev.ishr IntKind.u64 x2 (IntKind.i64.wrap ((24 : Int) - IntKind.i64.wrap ((8 : Int) * (↑x3.length : Int)))))])
  else none
  else
  b x3
noncomputable def L_ref02_Interval_End_0 (fuel : Nat) (v : Int × Int × Int × (List Int)) (b : ((List Int) → Option Ans)) : Option Ans := iter (S_ref02_Interval_End_0 fuel) fuel v b
noncomputable def J189_0 (fuel : Nat) (i : Nat) : Option Ev.Blk := Ev.look i []
noncomputable def T189_0 (v : Int × Int × Int × (List Int)) : Ev.St := match v with | (x0, x1, x2, x3) => ⟨[(1, .c (.ptr 0 0)), (3, .c (.own 1)), (4, .c (.int .u64 x0))], [(0, .cells 161 [.int .u64 x1, .int .u64 x2]), (1, .vec 5 (.int .u8) x3 true)], 2, 0⟩
noncomputable def E189_0 (K : Ev.Ex → Ev.St → Option Ans) : ((List Int) → Option Ans) := (fun v => match v with | x0 => K .normal ⟨[(3, .c (.own 0))], [(0, .vec 5 (.int .u8) x0 true)], 1, 0⟩)
theorem S189_0_ok (fuel : Nat) (R : Ev.St → Option Ans) (K : Ev.Ex → Ev.St → Option Ans) (x0 x1 x2 : Int) (x3 : (List Int)) : evalCode tab (G189 fuel) (J189_0 fuel) kp189 fuel (bodyOf 0 Try.f189) (T189_0 (x0, x1, x2, x3)) (lc kp189 3 0 R K) = S_ref02_Interval_End_0 fuel (x0, x1, x2, x3) (fun v => R (T189_0 v)) (E189_0 K) := by
  kernel_rfl
noncomputable def B189_0 (fuel : Nat) : Ev.Blk := fun st K => match canonO (kp189 3) st with
 | some s => (match s with
 | ⟨[(q0, .c (.ptr q1 q2)), (q3, .c (.own q4)), (q5, .c (.int .u64 x0))], [(q6, .cells q7 [.int .u64 x1, .int .u64 x2]), (q8, .vec q9 (.int .u8) x3 true)], q10, q11⟩ => bif Nat.beq q0 1 && Nat.beq q1 0 && Nat.beq q2 0 && Nat.beq q3 3 && Nat.beq q4 1 && Nat.beq q5 4 && Nat.beq q6 0 && Nat.beq q7 161 && Nat.beq q8 1 && Nat.beq q9 5 && Nat.beq q10 2 && Nat.beq q11 0 then iter (S_ref02_Interval_End_0 fuel) fuel (x0, x1, x2, x3) (E189_0 K) else none
 | _ => none)
 | none => none
theorem B189_0_ok (fuel : Nat) (st : Ev.St) (K : Ev.Ex → Ev.St → Option Ans) (r : Ans) (h : B189_0 fuel st K = some r) : evalCode tab (G189 fuel) (J189_0 fuel) kp189 fuel (.block 0 (.loop (bodyOf 0 Try.f189))) st K = some r := by
  unfold B189_0 at h
  split at h
  · rename_i s hs
    split at h
    · skip
      obtain ⟨hb, h⟩ := cond_some' h
      simp only [Bool.and_eq_true, Nat.beq_eq, decide_eq_true_eq] at hb
      obtain ⟨⟨⟨⟨⟨⟨⟨⟨⟨⟨⟨rfl, rfl⟩, rfl⟩, rfl⟩, rfl⟩, rfl⟩, rfl⟩, rfl⟩, rfl⟩, rfl⟩, rfl⟩, rfl⟩ := hb
      exact blk_loop (S := T189_0) (ks := E189_0) (step := S_ref02_Interval_End_0 fuel) (v := (_, _, _, _)) (by kernel_rfl) (by kernel_rfl) (fun R K v => by obtain ⟨x0, x1, x2, x3⟩ := v; exact S189_0_ok fuel R K x0 x1 x2 x3) hs h
    · cases h
  · cases h
noncomputable def J189 (fuel : Nat) (i : Nat) : Option Ev.Blk := Ev.look i [(100000, B189_0 fuel)]
noncomputable def F_ref02_Interval_End (fuel : Nat) (x0 x1 : Int) (k0 : ((List Int)) → Option Ans) : Option Ans :=
  (L_ref02_Interval_End_0 fuel ((0 : Int), x0, x1, [])
  (fun b0_0 =>
  k0 b0_0))
abbrev YF189 : Type := (Int) → (Int) → (((List Int)) → Option Ans) → Option Ans
theorem F189_eq (fuel : Nat) (x0 x1 : Int) (k : Ev.Cont) : evalFn tab (G189 fuel) (J189 fuel) kp189 fuel Try.f189 [.agg [.int .u64 x0, .int .u64 x1]] [] k = F_ref02_Interval_End fuel x0 x1 (fun r => match r with | r0 => k (.c (.own 0), [.vec 5 (.int .u8) r0 true])) := by
  kernel_rfl
theorem hG189 (fuel : Nat) : GOK Try.prog (G189 fuel) :=
  gok_nil
theorem B189_0_blk (fuel : Nat) : BlkOK Try.prog Try.f189.ntmps (.block 0 (.loop (bodyOf 0 Try.f189))) (B189_0 fuel) :=
  blk_of (blk_of_code tab_ok (hG189 fuel) mixed (J := J189_0 fuel) (kp := kp189) (fuel := fuel) (by kernel_rfl) (fun q hq => by
    rw [(by kernel_rfl : obl (J189_0 fuel) (.block 0 (.loop (bodyOf 0 Try.f189))) = [])] at hq
    cases hq)) (B189_0_ok fuel)
theorem fok189 (fuel : Nat) : FnOK Try.prog 189 (evalFn tab (G189 fuel) (J189 fuel) kp189 fuel Try.f189) :=
  fn_ok tab_ok (hG189 fuel) mixed Try.func189 (c := (Try.f189.body).getD .skip) rfl (fun q hq => by
    rw [(by kernel_rfl : obl (J189 fuel) ((Try.f189.body).getD .skip) = [(.block 0 (.loop (bodyOf 0 Try.f189)), B189_0 fuel)])] at hq
    simp only [List.mem_cons, List.not_mem_nil, or_false] at hq
    subst hq
    · exact B189_0_blk fuel)
noncomputable def mt189 : List Ev.SV → List Ev.Ob → Bool := fun args objs => match args, objs with
 | [.agg [.int .u64 _, .int .u64 _]], [] => true
 | _, _ => false
noncomputable def spg189 (F : YF189) : Ev.Spec := fun args objs k => match args, objs with
 | [.agg [.int .u64 x0, .int .u64 x1]], [] => bif true then F x0 x1 (fun r => match r with | r0 => k (.c (.own 0), [.vec 5 (.int .u8) r0 true])) else none
 | _, _ => none
noncomputable def spec189 (fuel : Nat) : Ev.Spec := spg189 (F_ref02_Interval_End fuel)
theorem ok189 (fuel : Nat) : FnOK Try.prog 189 (spec189 fuel) := by
  intro args objs kk r h
  unfold spec189 spg189 at h
  split at h
  · skip
    obtain ⟨hb, h⟩ := cond_some' h
    simp only [Bool.and_eq_true, Nat.beq_eq, decide_eq_true_eq] at hb
    clear hb
    exact fok189 fuel _ _ kk r ((F189_eq fuel _ _ kk).trans h)
  · cases h
end Go.Proofs.Ytihfgpfofmjbaaa

set_option linter.unusedVariables false
set_option linter.unusedSimpArgs false
set_option maxRecDepth 100000
set_option maxHeartbeats 2000000
namespace Go.Proofs.Ytihfgpfofmjbaaa
open Go Ev
def kp130_2fe (i : Nat) : Option (List Nat) := Ev.look i [(200003, [0])]
noncomputable def Gg130_2fe (f189 : YF189) (f : Nat) : Option Ev.Spec := Ev.look f [(189, spg189 f189)]
noncomputable def G130_2fe (fuel : Nat) : Nat → Option Ev.Spec := Gg130_2fe (F_ref02_Interval_End fuel)
noncomputable def J130_2fe (fuel : Nat) (i : Nat) : Option Ev.Blk := Ev.look i []
noncomputable def Fg_ref02_Encoder_End_2fe (fuel : Nat) (f189 : YF189) (x0 x1 x2 : Int) (x3 x4 : (List Int)) (k0 : (Int × Int × Int × (List Int) × (List Int) × (List Int)) → Option Ans) : Option Ans :=
  bif decide (((0 : Nat) + x4.length) * (1 : Nat) ≤ (140737488355328 : Nat) ∧ (0 : Nat) + x4.length ≤ (140737488355328 : Nat)) then
  (f189 (x1) (x2)
  (fun y3 =>
  bif decide ((([] ++ x4).length + y3.length) * (1 : Nat) ≤ (140737488355328 : Nat) ∧ ([] ++ x4).length + y3.length ≤ (140737488355328 : Nat)) then
  k0 (x0, x1, x2, x3, x4, [] ++ x4 ++ y3)
  else none))
  else none
noncomputable def F_ref02_Encoder_End_2fe (fuel : Nat) (x0 x1 x2 : Int) (x3 x4 : (List Int)) (k0 : (Int × Int × Int × (List Int) × (List Int) × (List Int)) → Option Ans) : Option Ans := Fg_ref02_Encoder_End_2fe fuel (F_ref02_Interval_End fuel) x0 x1 x2 x3 x4 k0
abbrev YF130_2fe : Type := (Int) → (Int) → (Int) → ((List Int)) → ((List Int)) → ((Int × Int × Int × (List Int) × (List Int) × (List Int)) → Option Ans) → Option Ans
theorem F130_2fe_eqg (fuel : Nat) (f189 : YF189) (x0 x1 x2 : Int) (x3 x4 : (List Int)) (k : Ev.Cont) : evalFn tab (Gg130_2fe f189) (J130_2fe fuel) kp130_2fe fuel Try.f130 [.c (.ptr 0 0)] [.cells 225 [.int .i64 x0, .own 1, .int .u64 x1, .int .u64 x2, .own 2], .vec 3 (.int .i64) x3 false, .vec 5 (.int .u8) x4 false] k = Fg_ref02_Encoder_End_2fe fuel f189 x0 x1 x2 x3 x4 (fun r => match r with | (r0, r1, r2, r3, r4, r5) => k (.c (.own 3), [.cells 225 [.int .i64 r0, .own 1, .int .u64 r1, .int .u64 r2, .own 2], .vec 3 (.int .i64) r3 false, .vec 5 (.int .u8) r4 false, .vec 5 (.int .u8) r5 true])) := by
  kernel_rfl
theorem F130_2fe_eq (fuel : Nat) (x0 x1 x2 : Int) (x3 x4 : (List Int)) (k : Ev.Cont) : evalFn tab (G130_2fe fuel) (J130_2fe fuel) kp130_2fe fuel Try.f130 [.c (.ptr 0 0)] [.cells 225 [.int .i64 x0, .own 1, .int .u64 x1, .int .u64 x2, .own 2], .vec 3 (.int .i64) x3 false, .vec 5 (.int .u8) x4 false] k = F_ref02_Encoder_End_2fe fuel x0 x1 x2 x3 x4 (fun r => match r with | (r0, r1, r2, r3, r4, r5) => k (.c (.own 3), [.cells 225 [.int .i64 r0, .own 1, .int .u64 r1, .int .u64 r2, .own 2], .vec 3 (.int .i64) r3 false, .vec 5 (.int .u8) r4 false, .vec 5 (.int .u8) r5 true])) :=
  F130_2fe_eqg fuel (F_ref02_Interval_End fuel) x0 x1 x2 x3 x4 k
theorem hG130_2fe (fuel : Nat) : GOK Try.prog (G130_2fe fuel) :=
  gok_cons ⟨ok189 fuel, enters_of Try.func189 (by kernel_rfl) rfl⟩ <|
  gok_nil
theorem fok130_2fe (fuel : Nat) : FnOK Try.prog 130 (evalFn tab (G130_2fe fuel) (J130_2fe fuel) kp130_2fe fuel Try.f130) :=
  fn_ok tab_ok (hG130_2fe fuel) mixed Try.func130 (c := (Try.f130.body).getD .skip) rfl (fun q hq => by
    rw [(by kernel_rfl : obl (J130_2fe fuel) ((Try.f130.body).getD .skip) = [])] at hq
    cases hq)
noncomputable def mt130_2fe : List Ev.SV → List Ev.Ob → Bool := fun args objs => match args, objs with
 | [.c (.ptr q0 q1)], [.cells q2 [.int .i64 _, .own q3, .int .u64 _, .int .u64 _, .own q4], .vec q5 (.int .i64) _ false, .vec q6 (.int .u8) _ false] => Nat.beq q0 0 && Nat.beq q1 0 && Nat.beq q2 225 && Nat.beq q3 1 && Nat.beq q4 2 && Nat.beq q5 3 && Nat.beq q6 5
 | _, _ => false
noncomputable def spg130_2fe (F : YF130_2fe) : Ev.Spec := fun args objs k => match args, objs with
 | [.c (.ptr q0 q1)], [.cells q2 [.int .i64 x0, .own q3, .int .u64 x1, .int .u64 x2, .own q4], .vec q5 (.int .i64) x3 false, .vec q6 (.int .u8) x4 false] => bif Nat.beq q0 0 && Nat.beq q1 0 && Nat.beq q2 225 && Nat.beq q3 1 && Nat.beq q4 2 && Nat.beq q5 3 && Nat.beq q6 5 then F x0 x1 x2 x3 x4 (fun r => match r with | (r0, r1, r2, r3, r4, r5) => k (.c (.own 3), [.cells 225 [.int .i64 r0, .own 1, .int .u64 r1, .int .u64 r2, .own 2], .vec 3 (.int .i64) r3 false, .vec 5 (.int .u8) r4 false, .vec 5 (.int .u8) r5 true])) else none
 | _, _ => none
noncomputable def spec130_2fe (fuel : Nat) : Ev.Spec := spg130_2fe (F_ref02_Encoder_End_2fe fuel)
theorem ok130_2fe (fuel : Nat) : FnOK Try.prog 130 (spec130_2fe fuel) := by
  intro args objs kk r h
  unfold spec130_2fe spg130_2fe at h
  split at h
  · skip
    obtain ⟨hb, h⟩ := cond_some' h
    simp only [Bool.and_eq_true, Nat.beq_eq, decide_eq_true_eq] at hb
    obtain ⟨⟨⟨⟨⟨⟨rfl, rfl⟩, rfl⟩, rfl⟩, rfl⟩, rfl⟩, rfl⟩ := hb
    exact fok130_2fe fuel _ _ kk r ((F130_2fe_eq fuel _ _ _ _ _ kk).trans h)
  · cases h
end Go.Proofs.Ytihfgpfofmjbaaa

set_option linter.unusedVariables false
set_option linter.unusedSimpArgs false
set_option maxRecDepth 100000
set_option maxHeartbeats 2000000
namespace Go.Proofs.Ytihfgpfofmjbaaa
open Go Ev
def kp187_2fe (i : Nat) : Option (List Nat) := Ev.look i []
noncomputable def Gg187_2fe (f117 : YF117) (f : Nat) : Option Ev.Spec := Ev.look f [(117, spg117 f117)]
noncomputable def G187_2fe (fuel : Nat) : Nat → Option Ev.Spec := Gg187_2fe (F_ref02_Copy fuel)
noncomputable def J187_2fe (fuel : Nat) (i : Nat) : Option Ev.Blk := Ev.look i []
noncomputable def Fg_ref02_Encoder_Model_2fe (fuel : Nat) (f117 : YF117) (x0 x1 x2 : Int) (x3 x4 : (List Int)) (k0 : (Int × Int × Int × Int × (List Int) × (List Int) × (List Int)) → Option Ans) : Option Ans :=
  (f117 (x0) (x3)
  (fun (y2_0, y2_1) =>
  k0 (y2_0, x0, x1, x2, x3, x4, y2_1)))
noncomputable def F_ref02_Encoder_Model_2fe (fuel : Nat) (x0 x1 x2 : Int) (x3 x4 : (List Int)) (k0 : (Int × Int × Int × Int × (List Int) × (List Int) × (List Int)) → Option Ans) : Option Ans := Fg_ref02_Encoder_Model_2fe fuel (F_ref02_Copy fuel) x0 x1 x2 x3 x4 k0
abbrev YF187_2fe : Type := (Int) → (Int) → (Int) → ((List Int)) → ((List Int)) → ((Int × Int × Int × Int × (List Int) × (List Int) × (List Int)) → Option Ans) → Option Ans
theorem F187_2fe_eqg (fuel : Nat) (f117 : YF117) (x0 x1 x2 : Int) (x3 x4 : (List Int)) (k : Ev.Cont) : evalFn tab (Gg187_2fe f117) (J187_2fe fuel) kp187_2fe fuel Try.f187 [.c (.ptr 0 0)] [.cells 225 [.int .i64 x0, .own 1, .int .u64 x1, .int .u64 x2, .own 2], .vec 3 (.int .i64) x3 false, .vec 5 (.int .u8) x4 false] k = Fg_ref02_Encoder_Model_2fe fuel f117 x0 x1 x2 x3 x4 (fun r => match r with | (r0, r1, r2, r3, r4, r5, r6) => k (.agg [.int .i64 r0, .own 3], [.cells 225 [.int .i64 r1, .own 1, .int .u64 r2, .int .u64 r3, .own 2], .vec 3 (.int .i64) r4 false, .vec 5 (.int .u8) r5 false, .vec 3 (.int .i64) r6 true])) := by
  kernel_rfl
theorem F187_2fe_eq (fuel : Nat) (x0 x1 x2 : Int) (x3 x4 : (List Int)) (k : Ev.Cont) : evalFn tab (G187_2fe fuel) (J187_2fe fuel) kp187_2fe fuel Try.f187 [.c (.ptr 0 0)] [.cells 225 [.int .i64 x0, .own 1, .int .u64 x1, .int .u64 x2, .own 2], .vec 3 (.int .i64) x3 false, .vec 5 (.int .u8) x4 false] k = F_ref02_Encoder_Model_2fe fuel x0 x1 x2 x3 x4 (fun r => match r with | (r0, r1, r2, r3, r4, r5, r6) => k (.agg [.int .i64 r0, .own 3], [.cells 225 [.int .i64 r1, .own 1, .int .u64 r2, .int .u64 r3, .own 2], .vec 3 (.int .i64) r4 false, .vec 5 (.int .u8) r5 false, .vec 3 (.int .i64) r6 true])) :=
  F187_2fe_eqg fuel (F_ref02_Copy fuel) x0 x1 x2 x3 x4 k
theorem hG187_2fe (fuel : Nat) : GOK Try.prog (G187_2fe fuel) :=
  gok_cons ⟨ok117 fuel, enters_of Try.func117 (by kernel_rfl) rfl⟩ <|
  gok_nil
theorem fok187_2fe (fuel : Nat) : FnOK Try.prog 187 (evalFn tab (G187_2fe fuel) (J187_2fe fuel) kp187_2fe fuel Try.f187) :=
  fn_ok tab_ok (hG187_2fe fuel) mixed Try.func187 (c := (Try.f187.body).getD .skip) rfl (fun q hq => by
    rw [(by kernel_rfl : obl (J187_2fe fuel) ((Try.f187.body).getD .skip) = [])] at hq
    cases hq)
noncomputable def mt187_2fe : List Ev.SV → List Ev.Ob → Bool := fun args objs => match args, objs with
 | [.c (.ptr q0 q1)], [.cells q2 [.int .i64 _, .own q3, .int .u64 _, .int .u64 _, .own q4], .vec q5 (.int .i64) _ false, .vec q6 (.int .u8) _ false] => Nat.beq q0 0 && Nat.beq q1 0 && Nat.beq q2 225 && Nat.beq q3 1 && Nat.beq q4 2 && Nat.beq q5 3 && Nat.beq q6 5
 | _, _ => false
noncomputable def spg187_2fe (F : YF187_2fe) : Ev.Spec := fun args objs k => match args, objs with
 | [.c (.ptr q0 q1)], [.cells q2 [.int .i64 x0, .own q3, .int .u64 x1, .int .u64 x2, .own q4], .vec q5 (.int .i64) x3 false, .vec q6 (.int .u8) x4 false] => bif Nat.beq q0 0 && Nat.beq q1 0 && Nat.beq q2 225 && Nat.beq q3 1 && Nat.beq q4 2 && Nat.beq q5 3 && Nat.beq q6 5 then F x0 x1 x2 x3 x4 (fun r => match r with | (r0, r1, r2, r3, r4, r5, r6) => k (.agg [.int .i64 r0, .own 3], [.cells 225 [.int .i64 r1, .own 1, .int .u64 r2, .int .u64 r3, .own 2], .vec 3 (.int .i64) r4 false, .vec 5 (.int .u8) r5 false, .vec 3 (.int .i64) r6 true])) else none
 | _, _ => none
noncomputable def spec187_2fe (fuel : Nat) : Ev.Spec := spg187_2fe (F_ref02_Encoder_Model_2fe fuel)
theorem ok187_2fe (fuel : Nat) : FnOK Try.prog 187 (spec187_2fe fuel) := by
  intro args objs kk r h
  unfold spec187_2fe spg187_2fe at h
  split at h
  · skip
    obtain ⟨hb, h⟩ := cond_some' h
    simp only [Bool.and_eq_true, Nat.beq_eq, decide_eq_true_eq] at hb
    obtain ⟨⟨⟨⟨⟨⟨rfl, rfl⟩, rfl⟩, rfl⟩, rfl⟩, rfl⟩, rfl⟩ := hb
    exact fok187_2fe fuel _ _ kk r ((F187_2fe_eq fuel _ _ _ _ _ kk).trans h)
  · cases h
end Go.Proofs.Ytihfgpfofmjbaaa

set_option linter.unusedVariables false
set_option linter.unusedSimpArgs false
set_option maxRecDepth 100000
set_option maxHeartbeats 2000000
namespace Go.Proofs.Ytihfgpfofmjbaaa
open Go Ev
def kp128 (i : Nat) : Option (List Nat) := Ev.look i [(600000, [])]
noncomputable def Gg128 (f116 : YF116) (f117 : YF117) (f118 : YF118) (f : Nat) : Option Ev.Spec := Ev.look f [(116, spg116 f116), (117, spg117 f117), (118, spg118 f118)]
noncomputable def G128 (fuel : Nat) : Nat → Option Ev.Spec := Gg128 (F_ref02_Valid fuel) (F_ref02_Copy fuel) (F_ref02_Whole fuel)
noncomputable def J128 (fuel : Nat) (i : Nat) : Option Ev.Blk := Ev.look i []
noncomputable def Fg_ref02_NewEncoder (fuel : Nat) (f116 : YF116) (f117 : YF117) (f118 : YF118) (x0 : Int) (x1 : (List Int)) (k0 : (Int) → Option Ans) (k1 : (Int × Int × Int × Int × (List Int) × (List Int)) → Option Ans) : Option Ans :=
  (f116 (x0) (x1)
  (fun y2 =>
  bif !y2 then
  k0 ((10 : Int))
  else
  (f117 (x0) (x1)
  (fun (y7_0, y7_1) =>
  (f118
  (fun (y11_0, y11_1) =>
  k1 ((0 : Int), y7_0, y11_0, y11_1, y7_1, [])))))))
noncomputable def F_ref02_NewEncoder (fuel : Nat) (x0 : Int) (x1 : (List Int)) (k0 : (Int) → Option Ans) (k1 : (Int × Int × Int × Int × (List Int) × (List Int)) → Option Ans) : Option Ans := Fg_ref02_NewEncoder fuel (F_ref02_Valid fuel) (F_ref02_Copy fuel) (F_ref02_Whole fuel) x0 x1 k0 k1
abbrev YF128 : Type := (Int) → ((List Int)) → ((Int) → Option Ans) → ((Int × Int × Int × Int × (List Int) × (List Int)) → Option Ans) → Option Ans
theorem F128_eqg (fuel : Nat) (f116 : YF116) (f117 : YF117) (f118 : YF118) (x0 : Int) (x1 : (List Int)) (k : Ev.Cont) : evalFn tab (Gg128 f116 f117 f118) (J128 fuel) kp128 fuel Try.f128 [.agg [.int .i64 x0, .sl (.int .i64) x1]] [] k = Fg_ref02_NewEncoder fuel f116 f117 f118 x0 x1 (fun r => match r with | r0 => k (.tup [(false, [.nilptr]), (false, [.int .i64 r0])], [])) (fun r => match r with | (r0, r1, r2, r3, r4, r5) => k (.tup [(false, [.ptr 0 0]), (false, [.int .i64 r0])], [.cells 225 [.int .i64 r1, .own 1, .int .u64 r2, .int .u64 r3, .own 2], .vec 3 (.int .i64) r4 true, .vec 5 (.int .u8) r5 true])) := by
  kernel_rfl
theorem F128_eq (fuel : Nat) (x0 : Int) (x1 : (List Int)) (k : Ev.Cont) : evalFn tab (G128 fuel) (J128 fuel) kp128 fuel Try.f128 [.agg [.int .i64 x0, .sl (.int .i64) x1]] [] k = F_ref02_NewEncoder fuel x0 x1 (fun r => match r with | r0 => k (.tup [(false, [.nilptr]), (false, [.int .i64 r0])], [])) (fun r => match r with | (r0, r1, r2, r3, r4, r5) => k (.tup [(false, [.ptr 0 0]), (false, [.int .i64 r0])], [.cells 225 [.int .i64 r1, .own 1, .int .u64 r2, .int .u64 r3, .own 2], .vec 3 (.int .i64) r4 true, .vec 5 (.int .u8) r5 true])) :=
  F128_eqg fuel (F_ref02_Valid fuel) (F_ref02_Copy fuel) (F_ref02_Whole fuel) x0 x1 k
theorem hG128 (fuel : Nat) : GOK Try.prog (G128 fuel) :=
  gok_cons ⟨ok116 fuel, enters_of Try.func116 (by kernel_rfl) rfl⟩ <|
  gok_cons ⟨ok117 fuel, enters_of Try.func117 (by kernel_rfl) rfl⟩ <|
  gok_cons ⟨ok118 fuel, enters_of Try.func118 (by kernel_rfl) rfl⟩ <|
  gok_nil
theorem fok128 (fuel : Nat) : FnOK Try.prog 128 (evalFn tab (G128 fuel) (J128 fuel) kp128 fuel Try.f128) :=
  fn_ok tab_ok (hG128 fuel) mixed Try.func128 (c := (Try.f128.body).getD .skip) rfl (fun q hq => by
    rw [(by kernel_rfl : obl (J128 fuel) ((Try.f128.body).getD .skip) = [])] at hq
    cases hq)
noncomputable def mt128 : List Ev.SV → List Ev.Ob → Bool := fun args objs => match args, objs with
 | [.agg [.int .i64 _, .sl (.int .i64) _]], [] => true
 | _, _ => false
noncomputable def spg128 (F : YF128) : Ev.Spec := fun args objs k => match args, objs with
 | [.agg [.int .i64 x0, .sl (.int .i64) x1]], [] => bif true then F x0 x1 (fun r => match r with | r0 => k (.tup [(false, [.nilptr]), (false, [.int .i64 r0])], [])) (fun r => match r with | (r0, r1, r2, r3, r4, r5) => k (.tup [(false, [.ptr 0 0]), (false, [.int .i64 r0])], [.cells 225 [.int .i64 r1, .own 1, .int .u64 r2, .int .u64 r3, .own 2], .vec 3 (.int .i64) r4 true, .vec 5 (.int .u8) r5 true])) else none
 | _, _ => none
noncomputable def spec128 (fuel : Nat) : Ev.Spec := spg128 (F_ref02_NewEncoder fuel)
theorem ok128 (fuel : Nat) : FnOK Try.prog 128 (spec128 fuel) := by
  intro args objs kk r h
  unfold spec128 spg128 at h
  split at h
  · skip
    obtain ⟨hb, h⟩ := cond_some' h
    simp only [Bool.and_eq_true, Nat.beq_eq, decide_eq_true_eq] at hb
    clear hb
    exact fok128 fuel _ _ kk r ((F128_eq fuel _ _ kk).trans h)
  · cases h
end Go.Proofs.Ytihfgpfofmjbaaa

