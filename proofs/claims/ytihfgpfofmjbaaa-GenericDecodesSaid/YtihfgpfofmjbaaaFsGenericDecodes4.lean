/- What the functions that GenericDecodes reaches do: their typed texts, each with the proof that the machine does it. No condition. -/
import Derived.Test.YtihfgpfofmjbaaaEvX
import Derived.Test.YtihfgpfofmjbaaaFsGenericDecodes3
import Derived.Test.YtihfgpfofmjbaaaFsGenericDecodes2
import Derived.Test.YtihfgpfofmjbaaaFsGenericDecodes1
set_option linter.unusedVariables false
set_option linter.unusedSimpArgs false
set_option linter.unusedVariables false
set_option linter.unusedSimpArgs false
set_option maxRecDepth 100000
set_option maxHeartbeats 2000000
namespace Go.Proofs.Ytihfgpfofmjbaaa
open Go Ev
def kp126 (i : Nat) : Option (List Nat) := Ev.look i [(4, [2, 3, 5, 9, 10, 11]), (100000, [10]), (200006, [5, 9]), (400000, [8])]
noncomputable def Gg126 (f125 : YF125) (f180 : YF180) (f : Nat) : Option Ev.Spec := Ev.look f [(125, spg125 f125), (180, spg180 f180)]
noncomputable def G126 (fuel : Nat) : Nat → Option Ev.Spec := Gg126 (F_ref05_At fuel) (F_ref07_pixels fuel)
noncomputable def Sg_ref07_context_0 (fuel : Nat) (f125 : YF125) (f180 : YF180) (x0 x1 : Int) (x2 x3 : Int) (x4 x5 : Int) (x6 : (List Int)) (x7 : (List (Int × Int))) (c : (Int × Int × Int × Int × Int × Int × (List Int) × (List (Int × Int))) → Option Ans) (B : (Int → Option Ans)) : Option Ans := match B with
 | b =>
  bif decide (x3 < (↑x7.length : Int)) then
  bif decide ((0 : Int) ≤ x3 ∧ x3 < (↑x7.length : Int)) then
  bif decide ((0 : Int) ≤ x3 ∧ x3 < (↑x7.length : Int)) then
  both ((f125 (x4) (x5) (x6) (IntKind.i64.wrap (x0 + (x7.getD x3.toNat ((0 : Int), (0 : Int))).fst)) (IntKind.i64.wrap (x1 + (x7.getD x3.toNat ((0 : Int), (0 : Int))).snd))
  (fun y7 =>
  c (x0, x1, IntKind.i64.wrap (IntKind.i64.wrap ((2 : Int) * x2) + y7), IntKind.i64.wrap (x3 + (1 : Int)), x4, x5, x6, x7))))
  ((f125 (x4) (x5) (x6) (IntKind.i64.wrap (x0 + (x7.getD x3.toNat ((0 : Int), (0 : Int))).fst)) (IntKind.i64.wrap (x1 + (x7.getD x3.toNat ((0 : Int), (0 : Int))).snd))
  (fun y7 =>
  c (x0, x1, IntKind.i64.wrap (IntKind.i64.wrap ((2 : Int) * x2) + y7), IntKind.i64.wrap (x3 + (1 : Int)), x4, x5, x6, x7))))
  else none
  else none
  else
  b x2
noncomputable def S_ref07_context_0 (fuel : Nat) (v : Int × Int × Int × Int × Int × Int × (List Int) × (List (Int × Int))) (c : (Int × Int × Int × Int × Int × Int × (List Int) × (List (Int × Int))) → Option Ans) (B : (Int → Option Ans)) : Option Ans := match v with
 | (x0, x1, x2, x3, x4, x5, x6, x7) => Sg_ref07_context_0 fuel (F_ref05_At fuel) (F_ref07_pixels fuel) x0 x1 x2 x3 x4 x5 x6 x7 c B
noncomputable def L_ref07_context_0 (fuel : Nat) (v : Int × Int × Int × Int × Int × Int × (List Int) × (List (Int × Int))) (b : (Int → Option Ans)) : Option Ans := iter (S_ref07_context_0 fuel) fuel v b
noncomputable def J126_0 (fuel : Nat) (i : Nat) : Option Ev.Blk := Ev.look i []
noncomputable def T126_0 (v : Int × Int × Int × Int × Int × Int × (List Int) × (List (Int × Int))) : Ev.St := match v with | (x0, x1, x2, x3, x4, x5, x6, x7) => ⟨[(2, .c (.int .i64 x0)), (3, .c (.int .i64 x1)), (5, .c (.ptr 0 0)), (9, .c (.own 1)), (10, .c (.int .i64 x2)), (11, .c (.int .i64 x3))], [(0, .cells 39 [.int .i64 x4, .int .i64 x5, .sl (.int .u8) x6]), (1, .vec 223 (.pair (.int .i64) (.int .i64)) x7 true)], 2, 0⟩
noncomputable def E126_0 (K : Ev.Ex → Ev.St → Option Ans) : (Int → Option Ans) := (fun v => match v with | x0 => K .normal ⟨[(10, .c (.int .i64 x0))], [], 0, 0⟩)
theorem S126_0_okg (fuel : Nat) (f125 : YF125) (f180 : YF180) (R : Ev.St → Option Ans) (K : Ev.Ex → Ev.St → Option Ans) (x0 x1 : Int) (x2 x3 : Int) (x4 x5 : Int) (x6 : (List Int)) (x7 : (List (Int × Int))) : evalCode tab (Gg126 f125 f180) (J126_0 fuel) kp126 fuel (bodyOf 0 Try.f126) (T126_0 (x0, x1, x2, x3, x4, x5, x6, x7)) (lc kp126 4 0 R K) = Sg_ref07_context_0 fuel f125 f180 x0 x1 x2 x3 x4 x5 x6 x7 (fun v => R (T126_0 v)) (E126_0 K) := by
  kernel_rfl
theorem S126_0_ok (fuel : Nat) (R : Ev.St → Option Ans) (K : Ev.Ex → Ev.St → Option Ans) (x0 x1 : Int) (x2 x3 : Int) (x4 x5 : Int) (x6 : (List Int)) (x7 : (List (Int × Int))) : evalCode tab (G126 fuel) (J126_0 fuel) kp126 fuel (bodyOf 0 Try.f126) (T126_0 (x0, x1, x2, x3, x4, x5, x6, x7)) (lc kp126 4 0 R K) = S_ref07_context_0 fuel (x0, x1, x2, x3, x4, x5, x6, x7) (fun v => R (T126_0 v)) (E126_0 K) :=
  S126_0_okg fuel (F_ref05_At fuel) (F_ref07_pixels fuel) R K x0 x1 x2 x3 x4 x5 x6 x7
noncomputable def B126_0 (fuel : Nat) : Ev.Blk := fun st K => match canonO (kp126 4) st with
 | some s => (match s with
 | ⟨[(q0, .c (.int .i64 x0)), (q1, .c (.int .i64 x1)), (q2, .c (.ptr q3 q4)), (q5, .c (.own q6)), (q7, .c (.int .i64 x2)), (q8, .c (.int .i64 x3))], [(q9, .cells q10 [.int .i64 x4, .int .i64 x5, .sl (.int .u8) x6]), (q11, .vec q12 (.pair (.int .i64) (.int .i64)) x7 true)], q13, q14⟩ => bif Nat.beq q0 2 && Nat.beq q1 3 && Nat.beq q2 5 && Nat.beq q3 0 && Nat.beq q4 0 && Nat.beq q5 9 && Nat.beq q6 1 && Nat.beq q7 10 && Nat.beq q8 11 && Nat.beq q9 0 && Nat.beq q10 39 && Nat.beq q11 1 && Nat.beq q12 223 && Nat.beq q13 2 && Nat.beq q14 0 then iter (S_ref07_context_0 fuel) fuel (x0, x1, x2, x3, x4, x5, x6, x7) (E126_0 K) else none
 | _ => none)
 | none => none
theorem B126_0_ok (fuel : Nat) (st : Ev.St) (K : Ev.Ex → Ev.St → Option Ans) (r : Ans) (h : B126_0 fuel st K = some r) : evalCode tab (G126 fuel) (J126_0 fuel) kp126 fuel (.block 0 (.loop (bodyOf 0 Try.f126))) st K = some r := by
  unfold B126_0 at h
  split at h
  · rename_i s hs
    split at h
    · skip
      obtain ⟨hb, h⟩ := cond_some' h
      simp only [Bool.and_eq_true, Nat.beq_eq, decide_eq_true_eq] at hb
      obtain ⟨⟨⟨⟨⟨⟨⟨⟨⟨⟨⟨⟨⟨⟨rfl, rfl⟩, rfl⟩, rfl⟩, rfl⟩, rfl⟩, rfl⟩, rfl⟩, rfl⟩, rfl⟩, rfl⟩, rfl⟩, rfl⟩, rfl⟩, rfl⟩ := hb
      exact blk_loop (S := T126_0) (ks := E126_0) (step := S_ref07_context_0 fuel) (v := (_, _, _, _, _, _, _, _)) (by kernel_rfl) (by kernel_rfl) (fun R K v => by obtain ⟨x0, x1, x2, x3, x4, x5, x6, x7⟩ := v; exact S126_0_ok fuel R K x0 x1 x2 x3 x4 x5 x6 x7) hs h
    · cases h
  · cases h
noncomputable def J126 (fuel : Nat) (i : Nat) : Option Ev.Blk := Ev.look i [(100000, B126_0 fuel)]
noncomputable def Fg_ref07_context (fuel : Nat) (f125 : YF125) (f180 : YF180) (x0 x1 x2 : Int) (x3 : Bool) (x4 x5 x6 : Int) (x7 : (List Int)) (x8 x9 : Int) (k0 : (Int) → Option Ans) : Option Ans :=
  (f180 (x0) (x1) (x2) (x3) (x4)
  (fun y2 =>
  (L_ref07_context_0 fuel (x8, x9, (0 : Int), (0 : Int), x5, x6, x7, y2)
  (fun b0_0 =>
  k0 b0_0))))
noncomputable def F_ref07_context (fuel : Nat) (x0 x1 x2 : Int) (x3 : Bool) (x4 x5 x6 : Int) (x7 : (List Int)) (x8 x9 : Int) (k0 : (Int) → Option Ans) : Option Ans := Fg_ref07_context fuel (F_ref05_At fuel) (F_ref07_pixels fuel) x0 x1 x2 x3 x4 x5 x6 x7 x8 x9 k0
abbrev YF126 : Type := (Int) → (Int) → (Int) → (Bool) → (Int) → (Int) → (Int) → ((List Int)) → (Int) → (Int) → ((Int) → Option Ans) → Option Ans
theorem F126_eqg (fuel : Nat) (f125 : YF125) (f180 : YF180) (x0 x1 x2 : Int) (x3 : Bool) (x4 x5 x6 : Int) (x7 : (List Int)) (x8 x9 : Int) (k : Ev.Cont) : evalFn tab (Gg126 f125 f180) (J126 fuel) kp126 fuel Try.f126 [.agg [.int .i64 x0, .int .i64 x1, .int .i64 x2, .bool x3, .int .i64 x4], .agg [.int .i64 x5, .int .i64 x6, .sl (.int .u8) x7], .c (.int .i64 x8), .c (.int .i64 x9)] [] k = Fg_ref07_context fuel f125 f180 x0 x1 x2 x3 x4 x5 x6 x7 x8 x9 (fun r => match r with | r0 => k (.c (.int .i64 r0), [])) := by
  kernel_rfl
theorem F126_eq (fuel : Nat) (x0 x1 x2 : Int) (x3 : Bool) (x4 x5 x6 : Int) (x7 : (List Int)) (x8 x9 : Int) (k : Ev.Cont) : evalFn tab (G126 fuel) (J126 fuel) kp126 fuel Try.f126 [.agg [.int .i64 x0, .int .i64 x1, .int .i64 x2, .bool x3, .int .i64 x4], .agg [.int .i64 x5, .int .i64 x6, .sl (.int .u8) x7], .c (.int .i64 x8), .c (.int .i64 x9)] [] k = F_ref07_context fuel x0 x1 x2 x3 x4 x5 x6 x7 x8 x9 (fun r => match r with | r0 => k (.c (.int .i64 r0), [])) :=
  F126_eqg fuel (F_ref05_At fuel) (F_ref07_pixels fuel) x0 x1 x2 x3 x4 x5 x6 x7 x8 x9 k
theorem hG126 (fuel : Nat) : GOK Try.prog (G126 fuel) :=
  gok_cons ⟨ok125 fuel, enters_of Try.func125 (by kernel_rfl) rfl⟩ <|
  gok_cons ⟨ok180 fuel, enters_of Try.func180 (by kernel_rfl) rfl⟩ <|
  gok_nil
theorem B126_0_blk (fuel : Nat) : BlkOK Try.prog Try.f126.ntmps (.block 0 (.loop (bodyOf 0 Try.f126))) (B126_0 fuel) :=
  blk_of (blk_of_code tab_ok (hG126 fuel) mixed (J := J126_0 fuel) (kp := kp126) (fuel := fuel) (by kernel_rfl) (fun q hq => by
    rw [(by kernel_rfl : obl (J126_0 fuel) (.block 0 (.loop (bodyOf 0 Try.f126))) = [])] at hq
    cases hq)) (B126_0_ok fuel)
theorem fok126 (fuel : Nat) : FnOK Try.prog 126 (evalFn tab (G126 fuel) (J126 fuel) kp126 fuel Try.f126) :=
  fn_ok tab_ok (hG126 fuel) mixed Try.func126 (c := (Try.f126.body).getD .skip) rfl (fun q hq => by
    rw [(by kernel_rfl : obl (J126 fuel) ((Try.f126.body).getD .skip) = [(.block 0 (.loop (bodyOf 0 Try.f126)), B126_0 fuel)])] at hq
    simp only [List.mem_cons, List.not_mem_nil, or_false] at hq
    subst hq
    · exact B126_0_blk fuel)
noncomputable def mt126 : List Ev.SV → List Ev.Ob → Bool := fun args objs => match args, objs with
 | [.agg [.int .i64 _, .int .i64 _, .int .i64 _, .bool _, .int .i64 _], .agg [.int .i64 _, .int .i64 _, .sl (.int .u8) _], .c (.int .i64 _), .c (.int .i64 _)], [] => true
 | _, _ => false
noncomputable def spg126 (F : YF126) : Ev.Spec := fun args objs k => match args, objs with
 | [.agg [.int .i64 x0, .int .i64 x1, .int .i64 x2, .bool x3, .int .i64 x4], .agg [.int .i64 x5, .int .i64 x6, .sl (.int .u8) x7], .c (.int .i64 x8), .c (.int .i64 x9)], [] => bif true then F x0 x1 x2 x3 x4 x5 x6 x7 x8 x9 (fun r => match r with | r0 => k (.c (.int .i64 r0), [])) else none
 | _, _ => none
noncomputable def spec126 (fuel : Nat) : Ev.Spec := spg126 (F_ref07_context fuel)
theorem ok126 (fuel : Nat) : FnOK Try.prog 126 (spec126 fuel) := by
  intro args objs kk r h
  unfold spec126 spg126 at h
  split at h
  · skip
    obtain ⟨hb, h⟩ := cond_some' h
    simp only [Bool.and_eq_true, Nat.beq_eq, decide_eq_true_eq] at hb
    clear hb
    exact fok126 fuel _ _ kk r ((F126_eq fuel _ _ _ _ _ _ _ _ _ _ kk).trans h)
  · cases h
end Go.Proofs.Ytihfgpfofmjbaaa

set_option linter.unusedVariables false
set_option linter.unusedSimpArgs false
set_option maxRecDepth 100000
set_option maxHeartbeats 2000000
namespace Go.Proofs.Ytihfgpfofmjbaaa
open Go Ev
def kp179 (i : Nat) : Option (List Nat) := Ev.look i []
noncomputable def Gg179 (f : Nat) : Option Ev.Spec := Ev.look f []
noncomputable def G179 (fuel : Nat) : Nat → Option Ev.Spec := Gg179
noncomputable def J179 (fuel : Nat) (i : Nat) : Option Ev.Blk := Ev.look i []
noncomputable def F_ref07_none (fuel : Nat) (x0 x1 : Int) (x2 : (List Int)) (k0 : (Bool) → Option Ans) : Option Ans :=
  bif x0 == (0 : Int) then
  k0 (x1 == (0 : Int))
  else
  k0 false
abbrev YF179 : Type := (Int) → (Int) → ((List Int)) → ((Bool) → Option Ans) → Option Ans
theorem F179_eq (fuel : Nat) (x0 x1 : Int) (x2 : (List Int)) (k : Ev.Cont) : evalFn tab (G179 fuel) (J179 fuel) kp179 fuel Try.f179 [.agg [.int .i64 x0, .int .i64 x1, .sl (.int .u8) x2]] [] k = F_ref07_none fuel x0 x1 x2 (fun r => match r with | r0 => k (.c (.bool r0), [])) := by
  kernel_rfl
theorem hG179 (fuel : Nat) : GOK Try.prog (G179 fuel) :=
  gok_nil
theorem fok179 (fuel : Nat) : FnOK Try.prog 179 (evalFn tab (G179 fuel) (J179 fuel) kp179 fuel Try.f179) :=
  fn_ok tab_ok (hG179 fuel) mixed Try.func179 (c := (Try.f179.body).getD .skip) rfl (fun q hq => by
    rw [(by kernel_rfl : obl (J179 fuel) ((Try.f179.body).getD .skip) = [])] at hq
    cases hq)
noncomputable def mt179 : List Ev.SV → List Ev.Ob → Bool := fun args objs => match args, objs with
 | [.agg [.int .i64 _, .int .i64 _, .sl (.int .u8) _]], [] => true
 | _, _ => false
noncomputable def spg179 (F : YF179) : Ev.Spec := fun args objs k => match args, objs with
 | [.agg [.int .i64 x0, .int .i64 x1, .sl (.int .u8) x2]], [] => bif true then F x0 x1 x2 (fun r => match r with | r0 => k (.c (.bool r0), [])) else none
 | _, _ => none
noncomputable def spec179 (fuel : Nat) : Ev.Spec := spg179 (F_ref07_none fuel)
theorem ok179 (fuel : Nat) : FnOK Try.prog 179 (spec179 fuel) := by
  intro args objs kk r h
  unfold spec179 spg179 at h
  split at h
  · skip
    obtain ⟨hb, h⟩ := cond_some' h
    simp only [Bool.and_eq_true, Nat.beq_eq, decide_eq_true_eq] at hb
    clear hb
    exact fok179 fuel _ _ kk r ((F179_eq fuel _ _ _ kk).trans h)
  · cases h
end Go.Proofs.Ytihfgpfofmjbaaa

set_option linter.unusedVariables false
set_option linter.unusedSimpArgs false
set_option maxRecDepth 100000
set_option maxHeartbeats 2000000
namespace Go.Proofs.Ytihfgpfofmjbaaa
open Go Ev
def kp120 (i : Nat) : Option (List Nat) := Ev.look i []
noncomputable def Gg120 (f122 : YF122) (f179 : YF179) (f : Nat) : Option Ev.Spec := Ev.look f [(122, spg122 f122), (179, spg179 f179)]
noncomputable def G120 (fuel : Nat) : Nat → Option Ev.Spec := Gg120 (F_ref07_Size fuel) (F_ref07_none fuel)
noncomputable def J120 (fuel : Nat) (i : Nat) : Option Ev.Blk := Ev.look i []
noncomputable def Fg_ref07_room (fuel : Nat) (f122 : YF122) (f179 : YF179) (x0 x1 x2 : Int) (x3 : Bool) (x4 x5 : Int) (x6 x7 : Int) (x8 x9 x10 : Int) (x11 : (List Int)) (k0 : (Int) → Option Ans) : Option Ans :=
  (f122 (x0) (x1) (x2) (x3) (x4)
  (fun (y2_0, y2_1) =>
  (f179 (x9) (x10) (x11)
  (fun y6 =>
  bif !y6 then
  bif x9 != x7 then
  k0 ((2 : Int))
  else
  bif x10 != x8 then
  k0 ((2 : Int))
  else
  bif decide (x5 < (0 : Int)) then
  k0 ((2 : Int))
  else
  bif decide (x5 > x6) then
  k0 ((2 : Int))
  else
  bif decide (y2_0 > IntKind.i64.wrap (x6 - x5)) then
  k0 ((2 : Int))
  else
  k0 ((0 : Int))
  else
  bif decide (x5 < (0 : Int)) then
  k0 ((2 : Int))
  else
  bif decide (x5 > x6) then
  k0 ((2 : Int))
  else
  bif decide (y2_0 > IntKind.i64.wrap (x6 - x5)) then
  k0 ((2 : Int))
  else
  k0 ((0 : Int))))))
noncomputable def F_ref07_room (fuel : Nat) (x0 x1 x2 : Int) (x3 : Bool) (x4 x5 : Int) (x6 x7 : Int) (x8 x9 x10 : Int) (x11 : (List Int)) (k0 : (Int) → Option Ans) : Option Ans := Fg_ref07_room fuel (F_ref07_Size fuel) (F_ref07_none fuel) x0 x1 x2 x3 x4 x5 x6 x7 x8 x9 x10 x11 k0
abbrev YF120 : Type := (Int) → (Int) → (Int) → (Bool) → (Int) → (Int) → (Int) → (Int) → (Int) → (Int) → (Int) → ((List Int)) → ((Int) → Option Ans) → Option Ans
theorem F120_eqg (fuel : Nat) (f122 : YF122) (f179 : YF179) (x0 x1 x2 : Int) (x3 : Bool) (x4 x5 : Int) (x6 x7 : Int) (x8 x9 x10 : Int) (x11 : (List Int)) (k : Ev.Cont) : evalFn tab (Gg120 f122 f179) (J120 fuel) kp120 fuel Try.f120 [.agg [.int .i64 x0, .int .i64 x1, .int .i64 x2, .bool x3, .int .i64 x4], .c (.int .i64 x5), .c (.int .i64 x6), .c (.int .i64 x7), .c (.int .i64 x8), .agg [.int .i64 x9, .int .i64 x10, .sl (.int .u8) x11]] [] k = Fg_ref07_room fuel f122 f179 x0 x1 x2 x3 x4 x5 x6 x7 x8 x9 x10 x11 (fun r => match r with | r0 => k (.c (.int .i64 r0), [])) := by
  kernel_rfl
theorem F120_eq (fuel : Nat) (x0 x1 x2 : Int) (x3 : Bool) (x4 x5 : Int) (x6 x7 : Int) (x8 x9 x10 : Int) (x11 : (List Int)) (k : Ev.Cont) : evalFn tab (G120 fuel) (J120 fuel) kp120 fuel Try.f120 [.agg [.int .i64 x0, .int .i64 x1, .int .i64 x2, .bool x3, .int .i64 x4], .c (.int .i64 x5), .c (.int .i64 x6), .c (.int .i64 x7), .c (.int .i64 x8), .agg [.int .i64 x9, .int .i64 x10, .sl (.int .u8) x11]] [] k = F_ref07_room fuel x0 x1 x2 x3 x4 x5 x6 x7 x8 x9 x10 x11 (fun r => match r with | r0 => k (.c (.int .i64 r0), [])) :=
  F120_eqg fuel (F_ref07_Size fuel) (F_ref07_none fuel) x0 x1 x2 x3 x4 x5 x6 x7 x8 x9 x10 x11 k
theorem hG120 (fuel : Nat) : GOK Try.prog (G120 fuel) :=
  gok_cons ⟨ok122 fuel, enters_of Try.func122 (by kernel_rfl) rfl⟩ <|
  gok_cons ⟨ok179 fuel, enters_of Try.func179 (by kernel_rfl) rfl⟩ <|
  gok_nil
theorem fok120 (fuel : Nat) : FnOK Try.prog 120 (evalFn tab (G120 fuel) (J120 fuel) kp120 fuel Try.f120) :=
  fn_ok tab_ok (hG120 fuel) mixed Try.func120 (c := (Try.f120.body).getD .skip) rfl (fun q hq => by
    rw [(by kernel_rfl : obl (J120 fuel) ((Try.f120.body).getD .skip) = [])] at hq
    cases hq)
noncomputable def mt120 : List Ev.SV → List Ev.Ob → Bool := fun args objs => match args, objs with
 | [.agg [.int .i64 _, .int .i64 _, .int .i64 _, .bool _, .int .i64 _], .c (.int .i64 _), .c (.int .i64 _), .c (.int .i64 _), .c (.int .i64 _), .agg [.int .i64 _, .int .i64 _, .sl (.int .u8) _]], [] => true
 | _, _ => false
noncomputable def spg120 (F : YF120) : Ev.Spec := fun args objs k => match args, objs with
 | [.agg [.int .i64 x0, .int .i64 x1, .int .i64 x2, .bool x3, .int .i64 x4], .c (.int .i64 x5), .c (.int .i64 x6), .c (.int .i64 x7), .c (.int .i64 x8), .agg [.int .i64 x9, .int .i64 x10, .sl (.int .u8) x11]], [] => bif true then F x0 x1 x2 x3 x4 x5 x6 x7 x8 x9 x10 x11 (fun r => match r with | r0 => k (.c (.int .i64 r0), [])) else none
 | _, _ => none
noncomputable def spec120 (fuel : Nat) : Ev.Spec := spg120 (F_ref07_room fuel)
theorem ok120 (fuel : Nat) : FnOK Try.prog 120 (spec120 fuel) := by
  intro args objs kk r h
  unfold spec120 spg120 at h
  split at h
  · skip
    obtain ⟨hb, h⟩ := cond_some' h
    simp only [Bool.and_eq_true, Nat.beq_eq, decide_eq_true_eq] at hb
    clear hb
    exact fok120 fuel _ _ kk r ((F120_eq fuel _ _ _ _ _ _ _ _ _ _ _ _ kk).trans h)
  · cases h
end Go.Proofs.Ytihfgpfofmjbaaa

set_option linter.unusedVariables false
set_option linter.unusedSimpArgs false
set_option maxRecDepth 100000
set_option maxHeartbeats 2000000
namespace Go.Proofs.Ytihfgpfofmjbaaa
open Go Ev
def kp124 (i : Nat) : Option (List Nat) := Ev.look i [(3, [2, 3, 4, 7, 8]), (100000, [7]), (400000, [6])]
noncomputable def Gg124 (f125 : YF125) (f : Nat) : Option Ev.Spec := Ev.look f [(125, spg125 f125)]
noncomputable def G124 (fuel : Nat) : Nat → Option Ev.Spec := Gg124 (F_ref05_At fuel)
noncomputable def Sg_ref07_typical_0 (fuel : Nat) (f125 : YF125) (x0 x1 : Int) (x2 x3 : Int) (x4 : (List Int)) (x5 x6 : Int) (x7 x8 : (List Int)) (c : (Int × Int × Int × Int × (List Int) × Int × Int × (List Int) × (List Int)) → Option Ans) (B : ((List Int) → Option Ans)) : Option Ans := match B with
 | b =>
  bif decide (x1 < x2) then
  (f125 (x2) (x3) (x4) (x1) (IntKind.i64.wrap (x0 - (1 : Int)))
  (fun y3 =>
  (f125 (x5) (x6) (x7) (x1) (x0)
  (fun y7 =>
  bif y7 == (1 : Int) then
  bif decide ((x8.length + [IntKind.u8.wrap (0 : Int)].length) * (1 : Nat) ≤ (140737488355328 : Nat) ∧ x8.length + [IntKind.u8.wrap (0 : Int)].length ≤ (140737488355328 : Nat)) then
  c (x0, IntKind.i64.wrap (x1 + (1 : Int)), x2, x3, x4, x5, x6, x7, x8 ++ [IntKind.u8.wrap (0 : Int)])
  else none
  else
  bif decide ((x8.length + [IntKind.u8.wrap y3].length) * (1 : Nat) ≤ (140737488355328 : Nat) ∧ x8.length + [IntKind.u8.wrap y3].length ≤ (140737488355328 : Nat)) then
  c (x0, IntKind.i64.wrap (x1 + (1 : Int)), x2, x3, x4, x5, x6, x7, x8 ++ [IntKind.u8.wrap y3])
  else none))))
  else
  b x8
noncomputable def S_ref07_typical_0 (fuel : Nat) (v : Int × Int × Int × Int × (List Int) × Int × Int × (List Int) × (List Int)) (c : (Int × Int × Int × Int × (List Int) × Int × Int × (List Int) × (List Int)) → Option Ans) (B : ((List Int) → Option Ans)) : Option Ans := match v with
 | (x0, x1, x2, x3, x4, x5, x6, x7, x8) => Sg_ref07_typical_0 fuel (F_ref05_At fuel) x0 x1 x2 x3 x4 x5 x6 x7 x8 c B
noncomputable def L_ref07_typical_0 (fuel : Nat) (v : Int × Int × Int × Int × (List Int) × Int × Int × (List Int) × (List Int)) (b : ((List Int) → Option Ans)) : Option Ans := iter (S_ref07_typical_0 fuel) fuel v b
noncomputable def J124_0 (fuel : Nat) (i : Nat) : Option Ev.Blk := Ev.look i []
noncomputable def T124_0 (v : Int × Int × Int × Int × (List Int) × Int × Int × (List Int) × (List Int)) : Ev.St := match v with | (x0, x1, x2, x3, x4, x5, x6, x7, x8) => ⟨[(2, .c (.int .i64 x0)), (3, .c (.ptr 0 0)), (4, .c (.ptr 1 0)), (7, .c (.own 2)), (8, .c (.int .i64 x1))], [(0, .cells 39 [.int .i64 x2, .int .i64 x3, .sl (.int .u8) x4]), (1, .cells 39 [.int .i64 x5, .int .i64 x6, .sl (.int .u8) x7]), (2, .vec 5 (.int .u8) x8 true)], 3, 0⟩
noncomputable def E124_0 (K : Ev.Ex → Ev.St → Option Ans) : ((List Int) → Option Ans) := (fun v => match v with | x0 => K .normal ⟨[(7, .c (.own 0))], [(0, .vec 5 (.int .u8) x0 true)], 1, 0⟩)
theorem S124_0_okg (fuel : Nat) (f125 : YF125) (R : Ev.St → Option Ans) (K : Ev.Ex → Ev.St → Option Ans) (x0 x1 : Int) (x2 x3 : Int) (x4 : (List Int)) (x5 x6 : Int) (x7 x8 : (List Int)) : evalCode tab (Gg124 f125) (J124_0 fuel) kp124 fuel (bodyOf 0 Try.f124) (T124_0 (x0, x1, x2, x3, x4, x5, x6, x7, x8)) (lc kp124 3 0 R K) = Sg_ref07_typical_0 fuel f125 x0 x1 x2 x3 x4 x5 x6 x7 x8 (fun v => R (T124_0 v)) (E124_0 K) := by
  kernel_rfl
theorem S124_0_ok (fuel : Nat) (R : Ev.St → Option Ans) (K : Ev.Ex → Ev.St → Option Ans) (x0 x1 : Int) (x2 x3 : Int) (x4 : (List Int)) (x5 x6 : Int) (x7 x8 : (List Int)) : evalCode tab (G124 fuel) (J124_0 fuel) kp124 fuel (bodyOf 0 Try.f124) (T124_0 (x0, x1, x2, x3, x4, x5, x6, x7, x8)) (lc kp124 3 0 R K) = S_ref07_typical_0 fuel (x0, x1, x2, x3, x4, x5, x6, x7, x8) (fun v => R (T124_0 v)) (E124_0 K) :=
  S124_0_okg fuel (F_ref05_At fuel) R K x0 x1 x2 x3 x4 x5 x6 x7 x8
noncomputable def B124_0 (fuel : Nat) : Ev.Blk := fun st K => match canonO (kp124 3) st with
 | some s => (match s with
 | ⟨[(q0, .c (.int .i64 x0)), (q1, .c (.ptr q2 q3)), (q4, .c (.ptr q5 q6)), (q7, .c (.own q8)), (q9, .c (.int .i64 x1))], [(q10, .cells q11 [.int .i64 x2, .int .i64 x3, .sl (.int .u8) x4]), (q12, .cells q13 [.int .i64 x5, .int .i64 x6, .sl (.int .u8) x7]), (q14, .vec q15 (.int .u8) x8 true)], q16, q17⟩ => bif Nat.beq q0 2 && Nat.beq q1 3 && Nat.beq q2 0 && Nat.beq q3 0 && Nat.beq q4 4 && Nat.beq q5 1 && Nat.beq q6 0 && Nat.beq q7 7 && Nat.beq q8 2 && Nat.beq q9 8 && Nat.beq q10 0 && Nat.beq q11 39 && Nat.beq q12 1 && Nat.beq q13 39 && Nat.beq q14 2 && Nat.beq q15 5 && Nat.beq q16 3 && Nat.beq q17 0 then iter (S_ref07_typical_0 fuel) fuel (x0, x1, x2, x3, x4, x5, x6, x7, x8) (E124_0 K) else none
 | _ => none)
 | none => none
theorem B124_0_ok (fuel : Nat) (st : Ev.St) (K : Ev.Ex → Ev.St → Option Ans) (r : Ans) (h : B124_0 fuel st K = some r) : evalCode tab (G124 fuel) (J124_0 fuel) kp124 fuel (.block 0 (.loop (bodyOf 0 Try.f124))) st K = some r := by
  unfold B124_0 at h
  split at h
  · rename_i s hs
    split at h
    · skip
      obtain ⟨hb, h⟩ := cond_some' h
      simp only [Bool.and_eq_true, Nat.beq_eq, decide_eq_true_eq] at hb
      obtain ⟨⟨⟨⟨⟨⟨⟨⟨⟨⟨⟨⟨⟨⟨⟨⟨⟨rfl, rfl⟩, rfl⟩, rfl⟩, rfl⟩, rfl⟩, rfl⟩, rfl⟩, rfl⟩, rfl⟩, rfl⟩, rfl⟩, rfl⟩, rfl⟩, rfl⟩, rfl⟩, rfl⟩, rfl⟩ := hb
      exact blk_loop (S := T124_0) (ks := E124_0) (step := S_ref07_typical_0 fuel) (v := (_, _, _, _, _, _, _, _, _)) (by kernel_rfl) (by kernel_rfl) (fun R K v => by obtain ⟨x0, x1, x2, x3, x4, x5, x6, x7, x8⟩ := v; exact S124_0_ok fuel R K x0 x1 x2 x3 x4 x5 x6 x7 x8) hs h
    · cases h
  · cases h
noncomputable def J124 (fuel : Nat) (i : Nat) : Option Ev.Blk := Ev.look i [(100000, B124_0 fuel)]
noncomputable def Fg_ref07_typical (fuel : Nat) (f125 : YF125) (x0 x1 : Int) (x2 : (List Int)) (x3 x4 : Int) (x5 : (List Int)) (x6 : Int) (k0 : ((List Int)) → Option Ans) : Option Ans :=
  (L_ref07_typical_0 fuel (x6, (0 : Int), x0, x1, x2, x3, x4, x5, [])
  (fun b0_0 =>
  k0 b0_0))
noncomputable def F_ref07_typical (fuel : Nat) (x0 x1 : Int) (x2 : (List Int)) (x3 x4 : Int) (x5 : (List Int)) (x6 : Int) (k0 : ((List Int)) → Option Ans) : Option Ans := Fg_ref07_typical fuel (F_ref05_At fuel) x0 x1 x2 x3 x4 x5 x6 k0
abbrev YF124 : Type := (Int) → (Int) → ((List Int)) → (Int) → (Int) → ((List Int)) → (Int) → (((List Int)) → Option Ans) → Option Ans
theorem F124_eqg (fuel : Nat) (f125 : YF125) (x0 x1 : Int) (x2 : (List Int)) (x3 x4 : Int) (x5 : (List Int)) (x6 : Int) (k : Ev.Cont) : evalFn tab (Gg124 f125) (J124 fuel) kp124 fuel Try.f124 [.agg [.int .i64 x0, .int .i64 x1, .sl (.int .u8) x2], .agg [.int .i64 x3, .int .i64 x4, .sl (.int .u8) x5], .c (.int .i64 x6)] [] k = Fg_ref07_typical fuel f125 x0 x1 x2 x3 x4 x5 x6 (fun r => match r with | r0 => k (.c (.own 0), [.vec 5 (.int .u8) r0 true])) := by
  kernel_rfl
theorem F124_eq (fuel : Nat) (x0 x1 : Int) (x2 : (List Int)) (x3 x4 : Int) (x5 : (List Int)) (x6 : Int) (k : Ev.Cont) : evalFn tab (G124 fuel) (J124 fuel) kp124 fuel Try.f124 [.agg [.int .i64 x0, .int .i64 x1, .sl (.int .u8) x2], .agg [.int .i64 x3, .int .i64 x4, .sl (.int .u8) x5], .c (.int .i64 x6)] [] k = F_ref07_typical fuel x0 x1 x2 x3 x4 x5 x6 (fun r => match r with | r0 => k (.c (.own 0), [.vec 5 (.int .u8) r0 true])) :=
  F124_eqg fuel (F_ref05_At fuel) x0 x1 x2 x3 x4 x5 x6 k
theorem hG124 (fuel : Nat) : GOK Try.prog (G124 fuel) :=
  gok_cons ⟨ok125 fuel, enters_of Try.func125 (by kernel_rfl) rfl⟩ <|
  gok_nil
theorem B124_0_blk (fuel : Nat) : BlkOK Try.prog Try.f124.ntmps (.block 0 (.loop (bodyOf 0 Try.f124))) (B124_0 fuel) :=
  blk_of (blk_of_code tab_ok (hG124 fuel) mixed (J := J124_0 fuel) (kp := kp124) (fuel := fuel) (by kernel_rfl) (fun q hq => by
    rw [(by kernel_rfl : obl (J124_0 fuel) (.block 0 (.loop (bodyOf 0 Try.f124))) = [])] at hq
    cases hq)) (B124_0_ok fuel)
theorem fok124 (fuel : Nat) : FnOK Try.prog 124 (evalFn tab (G124 fuel) (J124 fuel) kp124 fuel Try.f124) :=
  fn_ok tab_ok (hG124 fuel) mixed Try.func124 (c := (Try.f124.body).getD .skip) rfl (fun q hq => by
    rw [(by kernel_rfl : obl (J124 fuel) ((Try.f124.body).getD .skip) = [(.block 0 (.loop (bodyOf 0 Try.f124)), B124_0 fuel)])] at hq
    simp only [List.mem_cons, List.not_mem_nil, or_false] at hq
    subst hq
    · exact B124_0_blk fuel)
noncomputable def mt124 : List Ev.SV → List Ev.Ob → Bool := fun args objs => match args, objs with
 | [.agg [.int .i64 _, .int .i64 _, .sl (.int .u8) _], .agg [.int .i64 _, .int .i64 _, .sl (.int .u8) _], .c (.int .i64 _)], [] => true
 | _, _ => false
noncomputable def spg124 (F : YF124) : Ev.Spec := fun args objs k => match args, objs with
 | [.agg [.int .i64 x0, .int .i64 x1, .sl (.int .u8) x2], .agg [.int .i64 x3, .int .i64 x4, .sl (.int .u8) x5], .c (.int .i64 x6)], [] => bif true then F x0 x1 x2 x3 x4 x5 x6 (fun r => match r with | r0 => k (.c (.own 0), [.vec 5 (.int .u8) r0 true])) else none
 | _, _ => none
noncomputable def spec124 (fuel : Nat) : Ev.Spec := spg124 (F_ref07_typical fuel)
theorem ok124 (fuel : Nat) : FnOK Try.prog 124 (spec124 fuel) := by
  intro args objs kk r h
  unfold spec124 spg124 at h
  split at h
  · skip
    obtain ⟨hb, h⟩ := cond_some' h
    simp only [Bool.and_eq_true, Nat.beq_eq, decide_eq_true_eq] at hb
    clear hb
    exact fok124 fuel _ _ kk r ((F124_eq fuel _ _ _ _ _ _ _ kk).trans h)
  · cases h
end Go.Proofs.Ytihfgpfofmjbaaa

set_option linter.unusedVariables false
set_option linter.unusedSimpArgs false
set_option maxRecDepth 100000
set_option maxHeartbeats 2000000
namespace Go.Proofs.Ytihfgpfofmjbaaa
open Go Ev
def kp45_9c5 (i : Nat) : Option (List Nat) := Ev.look i [(11, [0, 1, 3, 4, 8, 11, 12, 15, 17, 19]), (20, [0, 1, 3, 4, 8, 11, 12, 15, 17, 19, 22]), (100000, [12, 17]), (100002, [0, 1, 3, 4, 8, 11, 12, 15, 17, 19]), (200005, [8, 11]), (200018, [11, 17]), (400000, [12, 13]), (400002, [12, 13])]
noncomputable def Gg45_9c5 (f81 : YF81) (f86 : YF86) (f109 : YF109) (f112 : YF112) (f120 : YF120) (f121_a7e : YF121_a7e) (f122 : YF122) (f123_0a6 : YF123_0a6) (f124 : YF124) (f125 : YF125) (f126 : YF126) (f127_a2e : YF127_a2e) (f : Nat) : Option Ev.Spec := Ev.look f [(81, spg81 f81), (86, spg86 f86), (109, spg109 f109), (112, spg112 f112), (120, spg120 f120), (121, spg121_a7e f121_a7e), (122, spg122 f122), (123, spg123_0a6 f123_0a6), (124, spg124 f124), (125, spg125 f125), (126, spg126 f126), (1000127, spg127_a2e f127_a2e)]
noncomputable def G45_9c5 (fuel : Nat) : Nat → Option Ev.Spec := Gg45_9c5 (F_ref05_New fuel) (F_ref05_Valid fuel) (F_ref07_Valid fuel) (F_ref05_Sides fuel) (F_ref07_room fuel) (F_ref02_Decoder_Model_a7e fuel) (F_ref07_Size fuel) (F_ref02_Decoder_Get_0a6 fuel) (F_ref07_typical fuel) (F_ref05_At fuel) (F_ref07_context fuel) (F_ref05_Put_a2e fuel)
noncomputable def Sg_ref07_Get_9c5_2 (fuel : Nat) (f81 : YF81) (f86 : YF86) (f109 : YF109) (f112 : YF112) (f120 : YF120) (f121_a7e : YF121_a7e) (f122 : YF122) (f123_0a6 : YF123_0a6) (f124 : YF124) (f125 : YF125) (f126 : YF126) (f127_a2e : YF127_a2e) (x0 x1 : Int) (x2 x3 : Int) (x4 x5 : Int) (x6 x7 : Int) (x8 x9 : Int) (x10 x11 : Int) (x12 : Bool) (x13 x14 : (List Int)) (x15 x16 x17 : Int) (x18 : Bool) (x19 x20 x21 : Int) (x22 : (List Int)) (x23 x24 : Int) (x25 x26 : Int) (x27 x28 : (List Int)) (c : (Int × Int × Int × Int × Int × Int × Int × Int × Int × Int × Int × Int × Bool × (List Int) × (List Int) × Int × Int × Int × Bool × Int × Int × Int × (List Int) × Int × Int × Int × Int × (List Int) × (List Int)) → Option Ans) (B : (Int × Int × Int × Int × Int × Int × Int × Bool × (List Int) × (List Int) × Int × Int × (List Int) → Option Ans) × (Int × Int × Int × Int × Int × Int × Int × Int × Int × Int × Int × Bool × (List Int) × (List Int) × Int × Int × Int × Bool × Int × Int × Int × (List Int) × Int × Int × Int × Int × (List Int) × (List Int) → Option Ans)) : Option Ans := match B with
 | (ret, b) =>
  bif decide (x5 < x1) then
  (f125 (x20) (x21) (x22) (x5) (x4)
  (fun y3 =>
  bif y3 == (1 : Int) then
  c (x0, x1, x2, x3, x4, IntKind.i64.wrap (x5 + (1 : Int)), x6, x7, x8, x9, x10, x11, x12, x13, x14, x15, x16, x17, x18, x19, x20, x21, x22, x23, x24, x25, x26, x27, x28)
  else
  (f126 (x15) (x16) (x17) (x18) (x19) (x25) (x26) (x28) (x5) (x4)
  (fun y8 =>
  (f123_0a6 (IntKind.i64.wrap (x0 + y8)) (x6) (x7) (x8) (x9) (x10) (x11) (x12) (x13) (x14)
  (fun (y12_0, y12_1, y12_2, y12_3, y12_4, y12_5, y12_6, y12_7, y12_8, y12_9, y12_10) =>
  bif y12_1 != (0 : Int) then
  ret (y12_1, y12_2, y12_3, y12_4, y12_5, y12_6, y12_7, y12_8, y12_9, y12_10, (0 : Int), (0 : Int), [])
  else
  (f127_a2e (x25) (x26) (x5) (x4) (y12_0) (x28)
  (fun y17 =>
  c (x0, x1, x2, x3, x4, IntKind.i64.wrap (x5 + (1 : Int)), y12_2, y12_3, y12_4, y12_5, y12_6, y12_7, y12_8, y12_9, y12_10, x15, x16, x17, x18, x19, x20, x21, x22, x23, x24, x25, x26, x27, y17)))))))))
  else
  b (x0, x1, x2, x3, x4, x6, x7, x8, x9, x10, x11, x12, x13, x14, x15, x16, x17, x18, x19, x20, x21, x22, x23, x24, x25, x26, x27, x28)
noncomputable def S_ref07_Get_9c5_2 (fuel : Nat) (v : Int × Int × Int × Int × Int × Int × Int × Int × Int × Int × Int × Int × Bool × (List Int) × (List Int) × Int × Int × Int × Bool × Int × Int × Int × (List Int) × Int × Int × Int × Int × (List Int) × (List Int)) (c : (Int × Int × Int × Int × Int × Int × Int × Int × Int × Int × Int × Int × Bool × (List Int) × (List Int) × Int × Int × Int × Bool × Int × Int × Int × (List Int) × Int × Int × Int × Int × (List Int) × (List Int)) → Option Ans) (B : (Int × Int × Int × Int × Int × Int × Int × Bool × (List Int) × (List Int) × Int × Int × (List Int) → Option Ans) × (Int × Int × Int × Int × Int × Int × Int × Int × Int × Int × Int × Bool × (List Int) × (List Int) × Int × Int × Int × Bool × Int × Int × Int × (List Int) × Int × Int × Int × Int × (List Int) × (List Int) → Option Ans)) : Option Ans := match v with
 | (x0, x1, x2, x3, x4, x5, x6, x7, x8, x9, x10, x11, x12, x13, x14, x15, x16, x17, x18, x19, x20, x21, x22, x23, x24, x25, x26, x27, x28) => Sg_ref07_Get_9c5_2 fuel (F_ref05_New fuel) (F_ref05_Valid fuel) (F_ref07_Valid fuel) (F_ref05_Sides fuel) (F_ref07_room fuel) (F_ref02_Decoder_Model_a7e fuel) (F_ref07_Size fuel) (F_ref02_Decoder_Get_0a6 fuel) (F_ref07_typical fuel) (F_ref05_At fuel) (F_ref07_context fuel) (F_ref05_Put_a2e fuel) x0 x1 x2 x3 x4 x5 x6 x7 x8 x9 x10 x11 x12 x13 x14 x15 x16 x17 x18 x19 x20 x21 x22 x23 x24 x25 x26 x27 x28 c B
noncomputable def L_ref07_Get_9c5_2 (fuel : Nat) (v : Int × Int × Int × Int × Int × Int × Int × Int × Int × Int × Int × Int × Bool × (List Int) × (List Int) × Int × Int × Int × Bool × Int × Int × Int × (List Int) × Int × Int × Int × Int × (List Int) × (List Int)) (ret : (Int × Int × Int × Int × Int × Int × Int × Bool × (List Int) × (List Int) × Int × Int × (List Int) → Option Ans)) (b : (Int × Int × Int × Int × Int × Int × Int × Int × Int × Int × Int × Bool × (List Int) × (List Int) × Int × Int × Int × Bool × Int × Int × Int × (List Int) × Int × Int × Int × Int × (List Int) × (List Int) → Option Ans)) : Option Ans := iter (S_ref07_Get_9c5_2 fuel) fuel v (ret, b)
noncomputable def J45_9c5_2 (fuel : Nat) (i : Nat) : Option Ev.Blk := Ev.look i []
noncomputable def T45_9c5_2 (v : Int × Int × Int × Int × Int × Int × Int × Int × Int × Int × Int × Int × Bool × (List Int) × (List Int) × Int × Int × Int × Bool × Int × Int × Int × (List Int) × Int × Int × Int × Int × (List Int) × (List Int)) : Ev.St := match v with | (x0, x1, x2, x3, x4, x5, x6, x7, x8, x9, x10, x11, x12, x13, x14, x15, x16, x17, x18, x19, x20, x21, x22, x23, x24, x25, x26, x27, x28) => ⟨[(0, .c (.ptr 0 0)), (1, .c (.int .i64 x0)), (3, .c (.int .i64 x1)), (4, .c (.int .i64 x2)), (8, .c (.ptr 3 0)), (11, .c (.ptr 4 0)), (12, .c (.ptr 5 0)), (15, .c (.int .i64 x3)), (17, .c (.ptr 6 0)), (19, .c (.int .i64 x4)), (22, .c (.int .i64 x5))], [(0, .cells 164 [.int .i64 x6, .own 1, .int .u64 x7, .int .u64 x8, .own 2, .int .i64 x9, .int .u64 x10, .int .i64 x11, .bool x12]), (1, .vec 3 (.int .i64) x13 false), (2, .vec 5 (.int .u8) x14 false), (3, .cells 46 [.int .i64 x15, .int .i64 x16, .int .i64 x17, .bool x18, .int .i64 x19]), (4, .cells 39 [.int .i64 x20, .int .i64 x21, .sl (.int .u8) x22]), (5, .cells 39 [.int .i64 x23, .int .i64 x24, .own 7]), (6, .cells 39 [.int .i64 x25, .int .i64 x26, .own 8]), (7, .vec 5 (.int .u8) x27 true), (8, .vec 5 (.int .u8) x28 true)], 9, 3⟩
noncomputable def E45_9c5_2 (K : Ev.Ex → Ev.St → Option Ans) : (Int × Int × Int × Int × Int × Int × Int × Bool × (List Int) × (List Int) × Int × Int × (List Int) → Option Ans) × (Int × Int × Int × Int × Int × Int × Int × Int × Int × Int × Int × Bool × (List Int) × (List Int) × Int × Int × Int × Bool × Int × Int × Int × (List Int) × Int × Int × Int × Int × (List Int) × (List Int) → Option Ans) := ((fun v => match v with | (x0, x1, x2, x3, x4, x5, x6, x7, x8, x9, x10, x11, x12) => K .ret ⟨[(12, .c (.ptr 3 0)), (13, .c (.int .i64 x0))], [(0, .cells 164 [.int .i64 x1, .own 1, .int .u64 x2, .int .u64 x3, .own 2, .int .i64 x4, .int .u64 x5, .int .i64 x6, .bool x7]), (1, .vec 3 (.int .i64) x8 false), (2, .vec 5 (.int .u8) x9 false), (3, .cells 39 [.int .i64 x10, .int .i64 x11, .own 4]), (4, .vec 5 (.int .u8) x12 true)], 5, 3⟩), (fun v => match v with | (x0, x1, x2, x3, x4, x5, x6, x7, x8, x9, x10, x11, x12, x13, x14, x15, x16, x17, x18, x19, x20, x21, x22, x23, x24, x25, x26, x27) => K .normal ⟨[(0, .c (.ptr 0 0)), (1, .c (.int .i64 x0)), (3, .c (.int .i64 x1)), (4, .c (.int .i64 x2)), (8, .c (.ptr 3 0)), (11, .c (.ptr 4 0)), (12, .c (.ptr 5 0)), (15, .c (.int .i64 x3)), (17, .c (.ptr 6 0)), (19, .c (.int .i64 x4))], [(0, .cells 164 [.int .i64 x5, .own 1, .int .u64 x6, .int .u64 x7, .own 2, .int .i64 x8, .int .u64 x9, .int .i64 x10, .bool x11]), (1, .vec 3 (.int .i64) x12 false), (2, .vec 5 (.int .u8) x13 false), (3, .cells 46 [.int .i64 x14, .int .i64 x15, .int .i64 x16, .bool x17, .int .i64 x18]), (4, .cells 39 [.int .i64 x19, .int .i64 x20, .sl (.int .u8) x21]), (5, .cells 39 [.int .i64 x22, .int .i64 x23, .own 7]), (6, .cells 39 [.int .i64 x24, .int .i64 x25, .own 8]), (7, .vec 5 (.int .u8) x26 true), (8, .vec 5 (.int .u8) x27 true)], 9, 3⟩))
theorem S45_9c5_2_okg (fuel : Nat) (f81 : YF81) (f86 : YF86) (f109 : YF109) (f112 : YF112) (f120 : YF120) (f121_a7e : YF121_a7e) (f122 : YF122) (f123_0a6 : YF123_0a6) (f124 : YF124) (f125 : YF125) (f126 : YF126) (f127_a2e : YF127_a2e) (R : Ev.St → Option Ans) (K : Ev.Ex → Ev.St → Option Ans) (x0 x1 : Int) (x2 x3 : Int) (x4 x5 : Int) (x6 x7 : Int) (x8 x9 : Int) (x10 x11 : Int) (x12 : Bool) (x13 x14 : (List Int)) (x15 x16 x17 : Int) (x18 : Bool) (x19 x20 x21 : Int) (x22 : (List Int)) (x23 x24 : Int) (x25 x26 : Int) (x27 x28 : (List Int)) : evalCode tab (Gg45_9c5 f81 f86 f109 f112 f120 f121_a7e f122 f123_0a6 f124 f125 f126 f127_a2e) (J45_9c5_2 fuel) kp45_9c5 fuel (bodyOf 2 Try.f45) (T45_9c5_2 (x0, x1, x2, x3, x4, x5, x6, x7, x8, x9, x10, x11, x12, x13, x14, x15, x16, x17, x18, x19, x20, x21, x22, x23, x24, x25, x26, x27, x28)) (lc kp45_9c5 20 2 R K) = Sg_ref07_Get_9c5_2 fuel f81 f86 f109 f112 f120 f121_a7e f122 f123_0a6 f124 f125 f126 f127_a2e x0 x1 x2 x3 x4 x5 x6 x7 x8 x9 x10 x11 x12 x13 x14 x15 x16 x17 x18 x19 x20 x21 x22 x23 x24 x25 x26 x27 x28 (fun v => R (T45_9c5_2 v)) (E45_9c5_2 K) := by
  kernel_rfl
theorem S45_9c5_2_ok (fuel : Nat) (R : Ev.St → Option Ans) (K : Ev.Ex → Ev.St → Option Ans) (x0 x1 : Int) (x2 x3 : Int) (x4 x5 : Int) (x6 x7 : Int) (x8 x9 : Int) (x10 x11 : Int) (x12 : Bool) (x13 x14 : (List Int)) (x15 x16 x17 : Int) (x18 : Bool) (x19 x20 x21 : Int) (x22 : (List Int)) (x23 x24 : Int) (x25 x26 : Int) (x27 x28 : (List Int)) : evalCode tab (G45_9c5 fuel) (J45_9c5_2 fuel) kp45_9c5 fuel (bodyOf 2 Try.f45) (T45_9c5_2 (x0, x1, x2, x3, x4, x5, x6, x7, x8, x9, x10, x11, x12, x13, x14, x15, x16, x17, x18, x19, x20, x21, x22, x23, x24, x25, x26, x27, x28)) (lc kp45_9c5 20 2 R K) = S_ref07_Get_9c5_2 fuel (x0, x1, x2, x3, x4, x5, x6, x7, x8, x9, x10, x11, x12, x13, x14, x15, x16, x17, x18, x19, x20, x21, x22, x23, x24, x25, x26, x27, x28) (fun v => R (T45_9c5_2 v)) (E45_9c5_2 K) :=
  S45_9c5_2_okg fuel (F_ref05_New fuel) (F_ref05_Valid fuel) (F_ref07_Valid fuel) (F_ref05_Sides fuel) (F_ref07_room fuel) (F_ref02_Decoder_Model_a7e fuel) (F_ref07_Size fuel) (F_ref02_Decoder_Get_0a6 fuel) (F_ref07_typical fuel) (F_ref05_At fuel) (F_ref07_context fuel) (F_ref05_Put_a2e fuel) R K x0 x1 x2 x3 x4 x5 x6 x7 x8 x9 x10 x11 x12 x13 x14 x15 x16 x17 x18 x19 x20 x21 x22 x23 x24 x25 x26 x27 x28
noncomputable def B45_9c5_2 (fuel : Nat) : Ev.Blk := fun st K => match canonO (kp45_9c5 20) st with
 | some s => (match s with
 | ⟨[(q0, .c (.ptr q1 q2)), (q3, .c (.int .i64 x0)), (q4, .c (.int .i64 x1)), (q5, .c (.int .i64 x2)), (q6, .c (.ptr q7 q8)), (q9, .c (.ptr q10 q11)), (q12, .c (.ptr q13 q14)), (q15, .c (.int .i64 x3)), (q16, .c (.ptr q17 q18)), (q19, .c (.int .i64 x4)), (q20, .c (.int .i64 x5))], [(q21, .cells q22 [.int .i64 x6, .own q23, .int .u64 x7, .int .u64 x8, .own q24, .int .i64 x9, .int .u64 x10, .int .i64 x11, .bool x12]), (q25, .vec q26 (.int .i64) x13 false), (q27, .vec q28 (.int .u8) x14 false), (q29, .cells q30 [.int .i64 x15, .int .i64 x16, .int .i64 x17, .bool x18, .int .i64 x19]), (q31, .cells q32 [.int .i64 x20, .int .i64 x21, .sl (.int .u8) x22]), (q33, .cells q34 [.int .i64 x23, .int .i64 x24, .own q35]), (q36, .cells q37 [.int .i64 x25, .int .i64 x26, .own q38]), (q39, .vec q40 (.int .u8) x27 true), (q41, .vec q42 (.int .u8) x28 true)], q43, q44⟩ => bif Nat.beq q0 0 && Nat.beq q1 0 && Nat.beq q2 0 && Nat.beq q3 1 && Nat.beq q4 3 && Nat.beq q5 4 && Nat.beq q6 8 && Nat.beq q7 3 && Nat.beq q8 0 && Nat.beq q9 11 && Nat.beq q10 4 && Nat.beq q11 0 && Nat.beq q12 12 && Nat.beq q13 5 && Nat.beq q14 0 && Nat.beq q15 15 && Nat.beq q16 17 && Nat.beq q17 6 && Nat.beq q18 0 && Nat.beq q19 19 && Nat.beq q20 22 && Nat.beq q21 0 && Nat.beq q22 164 && Nat.beq q23 1 && Nat.beq q24 2 && Nat.beq q25 1 && Nat.beq q26 3 && Nat.beq q27 2 && Nat.beq q28 5 && Nat.beq q29 3 && Nat.beq q30 46 && Nat.beq q31 4 && Nat.beq q32 39 && Nat.beq q33 5 && Nat.beq q34 39 && Nat.beq q35 7 && Nat.beq q36 6 && Nat.beq q37 39 && Nat.beq q38 8 && Nat.beq q39 7 && Nat.beq q40 5 && Nat.beq q41 8 && Nat.beq q42 5 && Nat.beq q43 9 && Nat.beq q44 3 then iter (S_ref07_Get_9c5_2 fuel) fuel (x0, x1, x2, x3, x4, x5, x6, x7, x8, x9, x10, x11, x12, x13, x14, x15, x16, x17, x18, x19, x20, x21, x22, x23, x24, x25, x26, x27, x28) (E45_9c5_2 K) else none
 | _ => none)
 | none => none
theorem B45_9c5_2_ok (fuel : Nat) (st : Ev.St) (K : Ev.Ex → Ev.St → Option Ans) (r : Ans) (h : B45_9c5_2 fuel st K = some r) : evalCode tab (G45_9c5 fuel) (J45_9c5_2 fuel) kp45_9c5 fuel (.block 2 (.loop (bodyOf 2 Try.f45))) st K = some r := by
  unfold B45_9c5_2 at h
  split at h
  · rename_i s hs
    split at h
    · skip
      obtain ⟨hb, h⟩ := cond_some' h
      simp only [Bool.and_eq_true, Nat.beq_eq, decide_eq_true_eq] at hb
      obtain ⟨⟨⟨⟨⟨⟨⟨⟨⟨⟨⟨⟨⟨⟨⟨⟨⟨⟨⟨⟨⟨⟨⟨⟨⟨⟨⟨⟨⟨⟨⟨⟨⟨⟨⟨⟨⟨⟨⟨⟨⟨⟨⟨⟨rfl, rfl⟩, rfl⟩, rfl⟩, rfl⟩, rfl⟩, rfl⟩, rfl⟩, rfl⟩, rfl⟩, rfl⟩, rfl⟩, rfl⟩, rfl⟩, rfl⟩, rfl⟩, rfl⟩, rfl⟩, rfl⟩, rfl⟩, rfl⟩, rfl⟩, rfl⟩, rfl⟩, rfl⟩, rfl⟩, rfl⟩, rfl⟩, rfl⟩, rfl⟩, rfl⟩, rfl⟩, rfl⟩, rfl⟩, rfl⟩, rfl⟩, rfl⟩, rfl⟩, rfl⟩, rfl⟩, rfl⟩, rfl⟩, rfl⟩, rfl⟩, rfl⟩ := hb
      exact blk_loop (S := T45_9c5_2) (ks := E45_9c5_2) (step := S_ref07_Get_9c5_2 fuel) (v := (_, _, _, _, _, _, _, _, _, _, _, _, _, _, _, _, _, _, _, _, _, _, _, _, _, _, _, _, _)) (by kernel_rfl) (by kernel_rfl) (fun R K v => by obtain ⟨x0, x1, x2, x3, x4, x5, x6, x7, x8, x9, x10, x11, x12, x13, x14, x15, x16, x17, x18, x19, x20, x21, x22, x23, x24, x25, x26, x27, x28⟩ := v; exact S45_9c5_2_ok fuel R K x0 x1 x2 x3 x4 x5 x6 x7 x8 x9 x10 x11 x12 x13 x14 x15 x16 x17 x18 x19 x20 x21 x22 x23 x24 x25 x26 x27 x28) hs h
    · cases h
  · cases h
noncomputable def Sg_ref07_Get_9c5_0 (fuel : Nat) (f81 : YF81) (f86 : YF86) (f109 : YF109) (f112 : YF112) (f120 : YF120) (f121_a7e : YF121_a7e) (f122 : YF122) (f123_0a6 : YF123_0a6) (f124 : YF124) (f125 : YF125) (f126 : YF126) (f127_a2e : YF127_a2e) (x0 x1 : Int) (x2 x3 : Int) (x4 x5 : Int) (x6 x7 : Int) (x8 x9 x10 : Int) (x11 : Bool) (x12 x13 : (List Int)) (x14 x15 x16 : Int) (x17 : Bool) (x18 x19 x20 : Int) (x21 : (List Int)) (x22 x23 : Int) (x24 x25 : Int) (x26 x27 : (List Int)) (c : (Int × Int × Int × Int × Int × Int × Int × Int × Int × Int × Int × Bool × (List Int) × (List Int) × Int × Int × Int × Bool × Int × Int × Int × (List Int) × Int × Int × Int × Int × (List Int) × (List Int)) → Option Ans) (B : (Int × Int × Int × Int × Int × Int × Int × Bool × (List Int) × (List Int) × Int × Int × (List Int) → Option Ans) × (Int × Int × Int × Int × Int × Int × Bool × (List Int) × (List Int) × Int × Int × Int × Int × (List Int) × (List Int) → Option Ans)) : Option Ans := match B with
 | (ret, b) =>
  bif decide (x4 < x2) then
  bif x17 then
  (f123_0a6 (IntKind.i64.wrap (IntKind.i64.wrap (x0 + x3) - (1 : Int))) (x5) (x6) (x7) (x8) (x9) (x10) (x11) (x12) (x13)
  (fun (y4_0, y4_1, y4_2, y4_3, y4_4, y4_5, y4_6, y4_7, y4_8, y4_9, y4_10) =>
  bif y4_1 != (0 : Int) then
  ret (y4_1, y4_2, y4_3, y4_4, y4_5, y4_6, y4_7, y4_8, y4_9, y4_10, (0 : Int), (0 : Int), [])
  else
  bif y4_0 == (1 : Int) then
  bif decide ((0 : Int) ≤ Ev.loOf (some (IntKind.i64.wrap (x4 * x1))) ∧ Ev.loOf (some (IntKind.i64.wrap (x4 * x1))) ≤ Ev.hiOf Option.none (↑x27.length : Int) ∧ Ev.hiOf Option.none (↑x27.length : Int) ≤ (↑x27.length : Int)) then
  (f124 (x24) (x25) (x27) (x19) (x20) (x21) (x4)
  (fun y11 =>
  c (x0, x1, x2, x3, IntKind.i64.wrap (x4 + (1 : Int)), y4_2, y4_3, y4_4, y4_5, y4_6, y4_7, y4_8, y4_9, y4_10, x14, x15, x16, x17, x18, x19, x20, x21, x22, x23, x24, x25, x26, List.take (Ev.loOf (some (IntKind.i64.wrap (x4 * x1)))).toNat x27 ++ List.take (Ev.hiOf Option.none (↑x27.length : Int) - Ev.loOf (some (IntKind.i64.wrap (x4 * x1)))).toNat y11 ++ List.drop ((Ev.loOf (some (IntKind.i64.wrap (x4 * x1)))).toNat + Min.min (Ev.hiOf Option.none (↑x27.length : Int) - Ev.loOf (some (IntKind.i64.wrap (x4 * x1)))).toNat y11.length) x27)))
  else none
  else
  (L_ref07_Get_9c5_2 fuel (x0, x1, x2, x3, x4, (0 : Int), y4_2, y4_3, y4_4, y4_5, y4_6, y4_7, y4_8, y4_9, y4_10, x14, x15, x16, x17, x18, x19, x20, x21, x22, x23, x24, x25, x26, x27)
  (fun (ret2_0, ret2_1, ret2_2, ret2_3, ret2_4, ret2_5, ret2_6, ret2_7, ret2_8, ret2_9, ret2_10, ret2_11, ret2_12) =>
  ret (ret2_0, ret2_1, ret2_2, ret2_3, ret2_4, ret2_5, ret2_6, ret2_7, ret2_8, ret2_9, ret2_10, ret2_11, ret2_12))
  (fun (b2_0, b2_1, b2_2, b2_3, b2_4, b2_5, b2_6, b2_7, b2_8, b2_9, b2_10, b2_11, b2_12, b2_13, b2_14, b2_15, b2_16, b2_17, b2_18, b2_19, b2_20, b2_21, b2_22, b2_23, b2_24, b2_25, b2_26, b2_27) =>
  c (b2_0, b2_1, b2_2, b2_3, IntKind.i64.wrap (b2_4 + (1 : Int)), b2_5, b2_6, b2_7, b2_8, b2_9, b2_10, b2_11, b2_12, b2_13, b2_14, b2_15, b2_16, b2_17, b2_18, b2_19, b2_20, b2_21, b2_22, b2_23, b2_24, b2_25, b2_26, b2_27)))))
  else
  (L_ref07_Get_9c5_2 fuel (x0, x1, x2, x3, x4, (0 : Int), x5, x6, x7, x8, x9, x10, x11, x12, x13, x14, x15, x16, x17, x18, x19, x20, x21, x22, x23, x24, x25, x26, x27)
  (fun (ret2_0, ret2_1, ret2_2, ret2_3, ret2_4, ret2_5, ret2_6, ret2_7, ret2_8, ret2_9, ret2_10, ret2_11, ret2_12) =>
  ret (ret2_0, ret2_1, ret2_2, ret2_3, ret2_4, ret2_5, ret2_6, ret2_7, ret2_8, ret2_9, ret2_10, ret2_11, ret2_12))
  (fun (b2_0, b2_1, b2_2, b2_3, b2_4, b2_5, b2_6, b2_7, b2_8, b2_9, b2_10, b2_11, b2_12, b2_13, b2_14, b2_15, b2_16, b2_17, b2_18, b2_19, b2_20, b2_21, b2_22, b2_23, b2_24, b2_25, b2_26, b2_27) =>
  c (b2_0, b2_1, b2_2, b2_3, IntKind.i64.wrap (b2_4 + (1 : Int)), b2_5, b2_6, b2_7, b2_8, b2_9, b2_10, b2_11, b2_12, b2_13, b2_14, b2_15, b2_16, b2_17, b2_18, b2_19, b2_20, b2_21, b2_22, b2_23, b2_24, b2_25, b2_26, b2_27)))
  else
  b (x5, x6, x7, x8, x9, x10, x11, x12, x13, x22, x23, x24, x25, x26, x27)
noncomputable def S_ref07_Get_9c5_0 (fuel : Nat) (v : Int × Int × Int × Int × Int × Int × Int × Int × Int × Int × Int × Bool × (List Int) × (List Int) × Int × Int × Int × Bool × Int × Int × Int × (List Int) × Int × Int × Int × Int × (List Int) × (List Int)) (c : (Int × Int × Int × Int × Int × Int × Int × Int × Int × Int × Int × Bool × (List Int) × (List Int) × Int × Int × Int × Bool × Int × Int × Int × (List Int) × Int × Int × Int × Int × (List Int) × (List Int)) → Option Ans) (B : (Int × Int × Int × Int × Int × Int × Int × Bool × (List Int) × (List Int) × Int × Int × (List Int) → Option Ans) × (Int × Int × Int × Int × Int × Int × Bool × (List Int) × (List Int) × Int × Int × Int × Int × (List Int) × (List Int) → Option Ans)) : Option Ans := match v with
 | (x0, x1, x2, x3, x4, x5, x6, x7, x8, x9, x10, x11, x12, x13, x14, x15, x16, x17, x18, x19, x20, x21, x22, x23, x24, x25, x26, x27) => Sg_ref07_Get_9c5_0 fuel (F_ref05_New fuel) (F_ref05_Valid fuel) (F_ref07_Valid fuel) (F_ref05_Sides fuel) (F_ref07_room fuel) (F_ref02_Decoder_Model_a7e fuel) (F_ref07_Size fuel) (F_ref02_Decoder_Get_0a6 fuel) (F_ref07_typical fuel) (F_ref05_At fuel) (F_ref07_context fuel) (F_ref05_Put_a2e fuel) x0 x1 x2 x3 x4 x5 x6 x7 x8 x9 x10 x11 x12 x13 x14 x15 x16 x17 x18 x19 x20 x21 x22 x23 x24 x25 x26 x27 c B
noncomputable def L_ref07_Get_9c5_0 (fuel : Nat) (v : Int × Int × Int × Int × Int × Int × Int × Int × Int × Int × Int × Bool × (List Int) × (List Int) × Int × Int × Int × Bool × Int × Int × Int × (List Int) × Int × Int × Int × Int × (List Int) × (List Int)) (ret : (Int × Int × Int × Int × Int × Int × Int × Bool × (List Int) × (List Int) × Int × Int × (List Int) → Option Ans)) (b : (Int × Int × Int × Int × Int × Int × Bool × (List Int) × (List Int) × Int × Int × Int × Int × (List Int) × (List Int) → Option Ans)) : Option Ans := iter (S_ref07_Get_9c5_0 fuel) fuel v (ret, b)
noncomputable def J45_9c5_0 (fuel : Nat) (i : Nat) : Option Ev.Blk := Ev.look i [(100002, B45_9c5_2 fuel)]
noncomputable def T45_9c5_0 (v : Int × Int × Int × Int × Int × Int × Int × Int × Int × Int × Int × Bool × (List Int) × (List Int) × Int × Int × Int × Bool × Int × Int × Int × (List Int) × Int × Int × Int × Int × (List Int) × (List Int)) : Ev.St := match v with | (x0, x1, x2, x3, x4, x5, x6, x7, x8, x9, x10, x11, x12, x13, x14, x15, x16, x17, x18, x19, x20, x21, x22, x23, x24, x25, x26, x27) => ⟨[(0, .c (.ptr 0 0)), (1, .c (.int .i64 x0)), (3, .c (.int .i64 x1)), (4, .c (.int .i64 x2)), (8, .c (.ptr 3 0)), (11, .c (.ptr 4 0)), (12, .c (.ptr 5 0)), (15, .c (.int .i64 x3)), (17, .c (.ptr 6 0)), (19, .c (.int .i64 x4))], [(0, .cells 164 [.int .i64 x5, .own 1, .int .u64 x6, .int .u64 x7, .own 2, .int .i64 x8, .int .u64 x9, .int .i64 x10, .bool x11]), (1, .vec 3 (.int .i64) x12 false), (2, .vec 5 (.int .u8) x13 false), (3, .cells 46 [.int .i64 x14, .int .i64 x15, .int .i64 x16, .bool x17, .int .i64 x18]), (4, .cells 39 [.int .i64 x19, .int .i64 x20, .sl (.int .u8) x21]), (5, .cells 39 [.int .i64 x22, .int .i64 x23, .own 7]), (6, .cells 39 [.int .i64 x24, .int .i64 x25, .own 8]), (7, .vec 5 (.int .u8) x26 true), (8, .vec 5 (.int .u8) x27 true)], 9, 3⟩
noncomputable def E45_9c5_0 (K : Ev.Ex → Ev.St → Option Ans) : (Int × Int × Int × Int × Int × Int × Int × Bool × (List Int) × (List Int) × Int × Int × (List Int) → Option Ans) × (Int × Int × Int × Int × Int × Int × Bool × (List Int) × (List Int) × Int × Int × Int × Int × (List Int) × (List Int) → Option Ans) := ((fun v => match v with | (x0, x1, x2, x3, x4, x5, x6, x7, x8, x9, x10, x11, x12) => K .ret ⟨[(12, .c (.ptr 3 0)), (13, .c (.int .i64 x0))], [(0, .cells 164 [.int .i64 x1, .own 1, .int .u64 x2, .int .u64 x3, .own 2, .int .i64 x4, .int .u64 x5, .int .i64 x6, .bool x7]), (1, .vec 3 (.int .i64) x8 false), (2, .vec 5 (.int .u8) x9 false), (3, .cells 39 [.int .i64 x10, .int .i64 x11, .own 4]), (4, .vec 5 (.int .u8) x12 true)], 5, 3⟩), (fun v => match v with | (x0, x1, x2, x3, x4, x5, x6, x7, x8, x9, x10, x11, x12, x13, x14) => K .normal ⟨[(12, .c (.ptr 3 0)), (17, .c (.ptr 4 0))], [(0, .cells 164 [.int .i64 x0, .own 1, .int .u64 x1, .int .u64 x2, .own 2, .int .i64 x3, .int .u64 x4, .int .i64 x5, .bool x6]), (1, .vec 3 (.int .i64) x7 false), (2, .vec 5 (.int .u8) x8 false), (3, .cells 39 [.int .i64 x9, .int .i64 x10, .own 5]), (4, .cells 39 [.int .i64 x11, .int .i64 x12, .own 6]), (5, .vec 5 (.int .u8) x13 true), (6, .vec 5 (.int .u8) x14 true)], 7, 3⟩))
theorem S45_9c5_0_okg (fuel : Nat) (f81 : YF81) (f86 : YF86) (f109 : YF109) (f112 : YF112) (f120 : YF120) (f121_a7e : YF121_a7e) (f122 : YF122) (f123_0a6 : YF123_0a6) (f124 : YF124) (f125 : YF125) (f126 : YF126) (f127_a2e : YF127_a2e) (R : Ev.St → Option Ans) (K : Ev.Ex → Ev.St → Option Ans) (x0 x1 : Int) (x2 x3 : Int) (x4 x5 : Int) (x6 x7 : Int) (x8 x9 x10 : Int) (x11 : Bool) (x12 x13 : (List Int)) (x14 x15 x16 : Int) (x17 : Bool) (x18 x19 x20 : Int) (x21 : (List Int)) (x22 x23 : Int) (x24 x25 : Int) (x26 x27 : (List Int)) : evalCode tab (Gg45_9c5 f81 f86 f109 f112 f120 f121_a7e f122 f123_0a6 f124 f125 f126 f127_a2e) (J45_9c5_0 fuel) kp45_9c5 fuel (bodyOf 0 Try.f45) (T45_9c5_0 (x0, x1, x2, x3, x4, x5, x6, x7, x8, x9, x10, x11, x12, x13, x14, x15, x16, x17, x18, x19, x20, x21, x22, x23, x24, x25, x26, x27)) (lc kp45_9c5 11 0 R K) = Sg_ref07_Get_9c5_0 fuel f81 f86 f109 f112 f120 f121_a7e f122 f123_0a6 f124 f125 f126 f127_a2e x0 x1 x2 x3 x4 x5 x6 x7 x8 x9 x10 x11 x12 x13 x14 x15 x16 x17 x18 x19 x20 x21 x22 x23 x24 x25 x26 x27 (fun v => R (T45_9c5_0 v)) (E45_9c5_0 K) := by
  kernel_rfl
theorem S45_9c5_0_ok (fuel : Nat) (R : Ev.St → Option Ans) (K : Ev.Ex → Ev.St → Option Ans) (x0 x1 : Int) (x2 x3 : Int) (x4 x5 : Int) (x6 x7 : Int) (x8 x9 x10 : Int) (x11 : Bool) (x12 x13 : (List Int)) (x14 x15 x16 : Int) (x17 : Bool) (x18 x19 x20 : Int) (x21 : (List Int)) (x22 x23 : Int) (x24 x25 : Int) (x26 x27 : (List Int)) : evalCode tab (G45_9c5 fuel) (J45_9c5_0 fuel) kp45_9c5 fuel (bodyOf 0 Try.f45) (T45_9c5_0 (x0, x1, x2, x3, x4, x5, x6, x7, x8, x9, x10, x11, x12, x13, x14, x15, x16, x17, x18, x19, x20, x21, x22, x23, x24, x25, x26, x27)) (lc kp45_9c5 11 0 R K) = S_ref07_Get_9c5_0 fuel (x0, x1, x2, x3, x4, x5, x6, x7, x8, x9, x10, x11, x12, x13, x14, x15, x16, x17, x18, x19, x20, x21, x22, x23, x24, x25, x26, x27) (fun v => R (T45_9c5_0 v)) (E45_9c5_0 K) :=
  S45_9c5_0_okg fuel (F_ref05_New fuel) (F_ref05_Valid fuel) (F_ref07_Valid fuel) (F_ref05_Sides fuel) (F_ref07_room fuel) (F_ref02_Decoder_Model_a7e fuel) (F_ref07_Size fuel) (F_ref02_Decoder_Get_0a6 fuel) (F_ref07_typical fuel) (F_ref05_At fuel) (F_ref07_context fuel) (F_ref05_Put_a2e fuel) R K x0 x1 x2 x3 x4 x5 x6 x7 x8 x9 x10 x11 x12 x13 x14 x15 x16 x17 x18 x19 x20 x21 x22 x23 x24 x25 x26 x27
noncomputable def B45_9c5_0 (fuel : Nat) : Ev.Blk := fun st K => match canonO (kp45_9c5 11) st with
 | some s => (match s with
 | ⟨[(q0, .c (.ptr q1 q2)), (q3, .c (.int .i64 x0)), (q4, .c (.int .i64 x1)), (q5, .c (.int .i64 x2)), (q6, .c (.ptr q7 q8)), (q9, .c (.ptr q10 q11)), (q12, .c (.ptr q13 q14)), (q15, .c (.int .i64 x3)), (q16, .c (.ptr q17 q18)), (q19, .c (.int .i64 x4))], [(q20, .cells q21 [.int .i64 x5, .own q22, .int .u64 x6, .int .u64 x7, .own q23, .int .i64 x8, .int .u64 x9, .int .i64 x10, .bool x11]), (q24, .vec q25 (.int .i64) x12 false), (q26, .vec q27 (.int .u8) x13 false), (q28, .cells q29 [.int .i64 x14, .int .i64 x15, .int .i64 x16, .bool x17, .int .i64 x18]), (q30, .cells q31 [.int .i64 x19, .int .i64 x20, .sl (.int .u8) x21]), (q32, .cells q33 [.int .i64 x22, .int .i64 x23, .own q34]), (q35, .cells q36 [.int .i64 x24, .int .i64 x25, .own q37]), (q38, .vec q39 (.int .u8) x26 true), (q40, .vec q41 (.int .u8) x27 true)], q42, q43⟩ => bif Nat.beq q0 0 && Nat.beq q1 0 && Nat.beq q2 0 && Nat.beq q3 1 && Nat.beq q4 3 && Nat.beq q5 4 && Nat.beq q6 8 && Nat.beq q7 3 && Nat.beq q8 0 && Nat.beq q9 11 && Nat.beq q10 4 && Nat.beq q11 0 && Nat.beq q12 12 && Nat.beq q13 5 && Nat.beq q14 0 && Nat.beq q15 15 && Nat.beq q16 17 && Nat.beq q17 6 && Nat.beq q18 0 && Nat.beq q19 19 && Nat.beq q20 0 && Nat.beq q21 164 && Nat.beq q22 1 && Nat.beq q23 2 && Nat.beq q24 1 && Nat.beq q25 3 && Nat.beq q26 2 && Nat.beq q27 5 && Nat.beq q28 3 && Nat.beq q29 46 && Nat.beq q30 4 && Nat.beq q31 39 && Nat.beq q32 5 && Nat.beq q33 39 && Nat.beq q34 7 && Nat.beq q35 6 && Nat.beq q36 39 && Nat.beq q37 8 && Nat.beq q38 7 && Nat.beq q39 5 && Nat.beq q40 8 && Nat.beq q41 5 && Nat.beq q42 9 && Nat.beq q43 3 then iter (S_ref07_Get_9c5_0 fuel) fuel (x0, x1, x2, x3, x4, x5, x6, x7, x8, x9, x10, x11, x12, x13, x14, x15, x16, x17, x18, x19, x20, x21, x22, x23, x24, x25, x26, x27) (E45_9c5_0 K) else none
 | _ => none)
 | none => none
theorem B45_9c5_0_ok (fuel : Nat) (st : Ev.St) (K : Ev.Ex → Ev.St → Option Ans) (r : Ans) (h : B45_9c5_0 fuel st K = some r) : evalCode tab (G45_9c5 fuel) (J45_9c5_0 fuel) kp45_9c5 fuel (.block 0 (.loop (bodyOf 0 Try.f45))) st K = some r := by
  unfold B45_9c5_0 at h
  split at h
  · rename_i s hs
    split at h
    · skip
      obtain ⟨hb, h⟩ := cond_some' h
      simp only [Bool.and_eq_true, Nat.beq_eq, decide_eq_true_eq] at hb
      obtain ⟨⟨⟨⟨⟨⟨⟨⟨⟨⟨⟨⟨⟨⟨⟨⟨⟨⟨⟨⟨⟨⟨⟨⟨⟨⟨⟨⟨⟨⟨⟨⟨⟨⟨⟨⟨⟨⟨⟨⟨⟨⟨⟨rfl, rfl⟩, rfl⟩, rfl⟩, rfl⟩, rfl⟩, rfl⟩, rfl⟩, rfl⟩, rfl⟩, rfl⟩, rfl⟩, rfl⟩, rfl⟩, rfl⟩, rfl⟩, rfl⟩, rfl⟩, rfl⟩, rfl⟩, rfl⟩, rfl⟩, rfl⟩, rfl⟩, rfl⟩, rfl⟩, rfl⟩, rfl⟩, rfl⟩, rfl⟩, rfl⟩, rfl⟩, rfl⟩, rfl⟩, rfl⟩, rfl⟩, rfl⟩, rfl⟩, rfl⟩, rfl⟩, rfl⟩, rfl⟩, rfl⟩, rfl⟩ := hb
      exact blk_loop (S := T45_9c5_0) (ks := E45_9c5_0) (step := S_ref07_Get_9c5_0 fuel) (v := (_, _, _, _, _, _, _, _, _, _, _, _, _, _, _, _, _, _, _, _, _, _, _, _, _, _, _, _)) (by kernel_rfl) (by kernel_rfl) (fun R K v => by obtain ⟨x0, x1, x2, x3, x4, x5, x6, x7, x8, x9, x10, x11, x12, x13, x14, x15, x16, x17, x18, x19, x20, x21, x22, x23, x24, x25, x26, x27⟩ := v; exact S45_9c5_0_ok fuel R K x0 x1 x2 x3 x4 x5 x6 x7 x8 x9 x10 x11 x12 x13 x14 x15 x16 x17 x18 x19 x20 x21 x22 x23 x24 x25 x26 x27) hs h
    · cases h
  · cases h
noncomputable def J45_9c5 (fuel : Nat) (i : Nat) : Option Ev.Blk := Ev.look i [(100002, B45_9c5_2 fuel), (100000, B45_9c5_0 fuel)]
noncomputable def Fg_ref07_Get_9c5 (fuel : Nat) (f81 : YF81) (f86 : YF86) (f109 : YF109) (f112 : YF112) (f120 : YF120) (f121_a7e : YF121_a7e) (f122 : YF122) (f123_0a6 : YF123_0a6) (f124 : YF124) (f125 : YF125) (f126 : YF126) (f127_a2e : YF127_a2e) (x0 x1 : Int) (x2 x3 : Int) (x4 : Bool) (x5 x6 : Int) (x7 x8 x9 : Int) (x10 : (List Int)) (x11 x12 : Int) (x13 x14 : Int) (x15 x16 : Int) (x17 : Bool) (x18 x19 : (List Int)) (k0 : (Int × Int × Int × Int × Int × Int × Int × Int × Int × Bool × (List Int) × (List Int) × (List Int)) → Option Ans) : Option Ans :=
  (f109 (x1) (x2) (x3) (x4) (x5)
  (fun y2 =>
  bif !y2 then
  k0 ((0 : Int), (0 : Int), (2 : Int), x11, x12, x13, x14, x15, x16, x17, x18, x19, [])
  else
  (f112 (x6) (x7)
  (fun y7 =>
  bif !y7 then
  k0 ((0 : Int), (0 : Int), (30 : Int), x11, x12, x13, x14, x15, x16, x17, x18, x19, [])
  else
  (f86 (x8) (x9) (x10)
  (fun y12 =>
  bif !y12 then
  k0 ((0 : Int), (0 : Int), (30 : Int), x11, x12, x13, x14, x15, x16, x17, x18, x19, [])
  else
  (f121_a7e (x11) (x12) (x13) (x14) (x15) (x16) (x17) (x18) (x19)
  (fun (y17_0, y17_1, y17_2, y17_3, y17_4, y17_5, y17_6, y17_7, y17_8, y17_9, y17_10) =>
  (f120 (x1) (x2) (x3) (x4) (x5) (x0) ((↑y17_10.length : Int)) (x6) (x7) (x8) (x9) (x10)
  (fun y21 =>
  bif y21 != (0 : Int) then
  k0 ((0 : Int), (0 : Int), y21, y17_1, y17_2, y17_3, y17_4, y17_5, y17_6, y17_7, y17_8, y17_9, [])
  else
  (f122 (x1) (x2) (x3) (x4) (x5)
  (fun (y26_0, y26_1) =>
  (f81 (x6) (x7) ((0 : Int))
  (fun (y30_0, y30_1, y30_2, y30_3) =>
  (L_ref07_Get_9c5_0 fuel (x0, x6, x7, y26_0, (0 : Int), y17_1, y17_2, y17_3, y17_4, y17_5, y17_6, y17_7, y17_8, y17_9, x1, x2, x3, x4, x5, x8, x9, x10, (0 : Int), (0 : Int), y30_0, y30_1, [], y30_3)
  (fun (ret0_0, ret0_1, ret0_2, ret0_3, ret0_4, ret0_5, ret0_6, ret0_7, ret0_8, ret0_9, ret0_10, ret0_11, ret0_12) =>
  k0 (ret0_10, ret0_11, ret0_0, ret0_1, ret0_2, ret0_3, ret0_4, ret0_5, ret0_6, ret0_7, ret0_8, ret0_9, ret0_12))
  (fun (b0_0, b0_1, b0_2, b0_3, b0_4, b0_5, b0_6, b0_7, b0_8, b0_9, b0_10, b0_11, b0_12, b0_13, b0_14) =>
  k0 (b0_11, b0_12, (0 : Int), b0_0, b0_1, b0_2, b0_3, b0_4, b0_5, b0_6, b0_7, b0_8, b0_14)))))))))))))))))
noncomputable def F_ref07_Get_9c5 (fuel : Nat) (x0 x1 : Int) (x2 x3 : Int) (x4 : Bool) (x5 x6 : Int) (x7 x8 x9 : Int) (x10 : (List Int)) (x11 x12 : Int) (x13 x14 : Int) (x15 x16 : Int) (x17 : Bool) (x18 x19 : (List Int)) (k0 : (Int × Int × Int × Int × Int × Int × Int × Int × Int × Bool × (List Int) × (List Int) × (List Int)) → Option Ans) : Option Ans := Fg_ref07_Get_9c5 fuel (F_ref05_New fuel) (F_ref05_Valid fuel) (F_ref07_Valid fuel) (F_ref05_Sides fuel) (F_ref07_room fuel) (F_ref02_Decoder_Model_a7e fuel) (F_ref07_Size fuel) (F_ref02_Decoder_Get_0a6 fuel) (F_ref07_typical fuel) (F_ref05_At fuel) (F_ref07_context fuel) (F_ref05_Put_a2e fuel) x0 x1 x2 x3 x4 x5 x6 x7 x8 x9 x10 x11 x12 x13 x14 x15 x16 x17 x18 x19 k0
abbrev YF45_9c5 : Type := (Int) → (Int) → (Int) → (Int) → (Bool) → (Int) → (Int) → (Int) → (Int) → (Int) → ((List Int)) → (Int) → (Int) → (Int) → (Int) → (Int) → (Int) → (Bool) → ((List Int)) → ((List Int)) → ((Int × Int × Int × Int × Int × Int × Int × Int × Int × Bool × (List Int) × (List Int) × (List Int)) → Option Ans) → Option Ans
theorem F45_9c5_eqg (fuel : Nat) (f81 : YF81) (f86 : YF86) (f109 : YF109) (f112 : YF112) (f120 : YF120) (f121_a7e : YF121_a7e) (f122 : YF122) (f123_0a6 : YF123_0a6) (f124 : YF124) (f125 : YF125) (f126 : YF126) (f127_a2e : YF127_a2e) (x0 x1 : Int) (x2 x3 : Int) (x4 : Bool) (x5 x6 : Int) (x7 x8 x9 : Int) (x10 : (List Int)) (x11 x12 : Int) (x13 x14 : Int) (x15 x16 : Int) (x17 : Bool) (x18 x19 : (List Int)) (k : Ev.Cont) : evalFn tab (Gg45_9c5 f81 f86 f109 f112 f120 f121_a7e f122 f123_0a6 f124 f125 f126 f127_a2e) (J45_9c5 fuel) kp45_9c5 fuel Try.f45 [.c (.ptr 0 0), .c (.int .i64 x0), .agg [.int .i64 x1, .int .i64 x2, .int .i64 x3, .bool x4, .int .i64 x5], .c (.int .i64 x6), .c (.int .i64 x7), .agg [.int .i64 x8, .int .i64 x9, .sl (.int .u8) x10]] [.cells 164 [.int .i64 x11, .own 1, .int .u64 x12, .int .u64 x13, .own 2, .int .i64 x14, .int .u64 x15, .int .i64 x16, .bool x17], .vec 3 (.int .i64) x18 false, .vec 5 (.int .u8) x19 false] k = Fg_ref07_Get_9c5 fuel f81 f86 f109 f112 f120 f121_a7e f122 f123_0a6 f124 f125 f126 f127_a2e x0 x1 x2 x3 x4 x5 x6 x7 x8 x9 x10 x11 x12 x13 x14 x15 x16 x17 x18 x19 (fun r => match r with | (r0, r1, r2, r3, r4, r5, r6, r7, r8, r9, r10, r11, r12) => k (.tup [(true, [.int .i64 r0, .int .i64 r1, .own 3]), (false, [.int .i64 r2])], [.cells 164 [.int .i64 r3, .own 1, .int .u64 r4, .int .u64 r5, .own 2, .int .i64 r6, .int .u64 r7, .int .i64 r8, .bool r9], .vec 3 (.int .i64) r10 false, .vec 5 (.int .u8) r11 false, .vec 5 (.int .u8) r12 true])) := by
  kernel_rfl
theorem F45_9c5_eq (fuel : Nat) (x0 x1 : Int) (x2 x3 : Int) (x4 : Bool) (x5 x6 : Int) (x7 x8 x9 : Int) (x10 : (List Int)) (x11 x12 : Int) (x13 x14 : Int) (x15 x16 : Int) (x17 : Bool) (x18 x19 : (List Int)) (k : Ev.Cont) : evalFn tab (G45_9c5 fuel) (J45_9c5 fuel) kp45_9c5 fuel Try.f45 [.c (.ptr 0 0), .c (.int .i64 x0), .agg [.int .i64 x1, .int .i64 x2, .int .i64 x3, .bool x4, .int .i64 x5], .c (.int .i64 x6), .c (.int .i64 x7), .agg [.int .i64 x8, .int .i64 x9, .sl (.int .u8) x10]] [.cells 164 [.int .i64 x11, .own 1, .int .u64 x12, .int .u64 x13, .own 2, .int .i64 x14, .int .u64 x15, .int .i64 x16, .bool x17], .vec 3 (.int .i64) x18 false, .vec 5 (.int .u8) x19 false] k = F_ref07_Get_9c5 fuel x0 x1 x2 x3 x4 x5 x6 x7 x8 x9 x10 x11 x12 x13 x14 x15 x16 x17 x18 x19 (fun r => match r with | (r0, r1, r2, r3, r4, r5, r6, r7, r8, r9, r10, r11, r12) => k (.tup [(true, [.int .i64 r0, .int .i64 r1, .own 3]), (false, [.int .i64 r2])], [.cells 164 [.int .i64 r3, .own 1, .int .u64 r4, .int .u64 r5, .own 2, .int .i64 r6, .int .u64 r7, .int .i64 r8, .bool r9], .vec 3 (.int .i64) r10 false, .vec 5 (.int .u8) r11 false, .vec 5 (.int .u8) r12 true])) :=
  F45_9c5_eqg fuel (F_ref05_New fuel) (F_ref05_Valid fuel) (F_ref07_Valid fuel) (F_ref05_Sides fuel) (F_ref07_room fuel) (F_ref02_Decoder_Model_a7e fuel) (F_ref07_Size fuel) (F_ref02_Decoder_Get_0a6 fuel) (F_ref07_typical fuel) (F_ref05_At fuel) (F_ref07_context fuel) (F_ref05_Put_a2e fuel) x0 x1 x2 x3 x4 x5 x6 x7 x8 x9 x10 x11 x12 x13 x14 x15 x16 x17 x18 x19 k
theorem hG45_9c5 (fuel : Nat) : GOK Try.prog (G45_9c5 fuel) :=
  gok_cons ⟨ok81 fuel, enters_of Try.func81 (by kernel_rfl) rfl⟩ <|
  gok_cons ⟨ok86 fuel, enters_of Try.func86 (by kernel_rfl) rfl⟩ <|
  gok_cons ⟨ok109 fuel, enters_of Try.func109 (by kernel_rfl) rfl⟩ <|
  gok_cons ⟨ok112 fuel, enters_of Try.func112 (by kernel_rfl) rfl⟩ <|
  gok_cons ⟨ok120 fuel, enters_of Try.func120 (by kernel_rfl) rfl⟩ <|
  gok_cons ⟨ok121_a7e fuel, enters_of Try.func121 (by kernel_rfl) rfl⟩ <|
  gok_cons ⟨ok122 fuel, enters_of Try.func122 (by kernel_rfl) rfl⟩ <|
  gok_cons ⟨ok123_0a6 fuel, enters_of Try.func123 (by kernel_rfl) rfl⟩ <|
  gok_cons ⟨ok124 fuel, enters_of Try.func124 (by kernel_rfl) rfl⟩ <|
  gok_cons ⟨ok125 fuel, enters_of Try.func125 (by kernel_rfl) rfl⟩ <|
  gok_cons ⟨ok126 fuel, enters_of Try.func126 (by kernel_rfl) rfl⟩ <|
  gok_cons ⟨ok127_a2e fuel, enters_of Try.func127 (by kernel_rfl) rfl⟩ <|
  gok_nil
theorem B45_9c5_2_blk (fuel : Nat) : BlkOK Try.prog Try.f45.ntmps (.block 2 (.loop (bodyOf 2 Try.f45))) (B45_9c5_2 fuel) :=
  blk_of (blk_of_code tab_ok (hG45_9c5 fuel) mixed (J := J45_9c5_2 fuel) (kp := kp45_9c5) (fuel := fuel) (by kernel_rfl) (fun q hq => by
    rw [(by kernel_rfl : obl (J45_9c5_2 fuel) (.block 2 (.loop (bodyOf 2 Try.f45))) = [])] at hq
    cases hq)) (B45_9c5_2_ok fuel)
theorem B45_9c5_0_blk (fuel : Nat) : BlkOK Try.prog Try.f45.ntmps (.block 0 (.loop (bodyOf 0 Try.f45))) (B45_9c5_0 fuel) :=
  blk_of (blk_of_code tab_ok (hG45_9c5 fuel) mixed (J := J45_9c5_0 fuel) (kp := kp45_9c5) (fuel := fuel) (by kernel_rfl) (fun q hq => by
    rw [(by kernel_rfl : obl (J45_9c5_0 fuel) (.block 0 (.loop (bodyOf 0 Try.f45))) = [(.block 2 (.loop (bodyOf 2 Try.f45)), B45_9c5_2 fuel)])] at hq
    simp only [List.mem_cons, List.not_mem_nil, or_false] at hq
    subst hq
    · exact B45_9c5_2_blk fuel)) (B45_9c5_0_ok fuel)
theorem fok45_9c5 (fuel : Nat) : FnOK Try.prog 45 (evalFn tab (G45_9c5 fuel) (J45_9c5 fuel) kp45_9c5 fuel Try.f45) :=
  fn_ok tab_ok (hG45_9c5 fuel) mixed Try.func45 (c := (Try.f45.body).getD .skip) rfl (fun q hq => by
    rw [(by kernel_rfl : obl (J45_9c5 fuel) ((Try.f45.body).getD .skip) = [(.block 0 (.loop (bodyOf 0 Try.f45)), B45_9c5_0 fuel)])] at hq
    simp only [List.mem_cons, List.not_mem_nil, or_false] at hq
    subst hq
    · exact B45_9c5_0_blk fuel)
noncomputable def mt45_9c5 : List Ev.SV → List Ev.Ob → Bool := fun args objs => match args, objs with
 | [.c (.ptr q0 q1), .c (.int .i64 _), .agg [.int .i64 _, .int .i64 _, .int .i64 _, .bool _, .int .i64 _], .c (.int .i64 _), .c (.int .i64 _), .agg [.int .i64 _, .int .i64 _, .sl (.int .u8) _]], [.cells q2 [.int .i64 _, .own q3, .int .u64 _, .int .u64 _, .own q4, .int .i64 _, .int .u64 _, .int .i64 _, .bool _], .vec q5 (.int .i64) _ false, .vec q6 (.int .u8) _ false] => Nat.beq q0 0 && Nat.beq q1 0 && Nat.beq q2 164 && Nat.beq q3 1 && Nat.beq q4 2 && Nat.beq q5 3 && Nat.beq q6 5
 | _, _ => false
noncomputable def spg45_9c5 (F : YF45_9c5) : Ev.Spec := fun args objs k => match args, objs with
 | [.c (.ptr q0 q1), .c (.int .i64 x0), .agg [.int .i64 x1, .int .i64 x2, .int .i64 x3, .bool x4, .int .i64 x5], .c (.int .i64 x6), .c (.int .i64 x7), .agg [.int .i64 x8, .int .i64 x9, .sl (.int .u8) x10]], [.cells q2 [.int .i64 x11, .own q3, .int .u64 x12, .int .u64 x13, .own q4, .int .i64 x14, .int .u64 x15, .int .i64 x16, .bool x17], .vec q5 (.int .i64) x18 false, .vec q6 (.int .u8) x19 false] => bif Nat.beq q0 0 && Nat.beq q1 0 && Nat.beq q2 164 && Nat.beq q3 1 && Nat.beq q4 2 && Nat.beq q5 3 && Nat.beq q6 5 then F x0 x1 x2 x3 x4 x5 x6 x7 x8 x9 x10 x11 x12 x13 x14 x15 x16 x17 x18 x19 (fun r => match r with | (r0, r1, r2, r3, r4, r5, r6, r7, r8, r9, r10, r11, r12) => k (.tup [(true, [.int .i64 r0, .int .i64 r1, .own 3]), (false, [.int .i64 r2])], [.cells 164 [.int .i64 r3, .own 1, .int .u64 r4, .int .u64 r5, .own 2, .int .i64 r6, .int .u64 r7, .int .i64 r8, .bool r9], .vec 3 (.int .i64) r10 false, .vec 5 (.int .u8) r11 false, .vec 5 (.int .u8) r12 true])) else none
 | _, _ => none
noncomputable def spec45_9c5 (fuel : Nat) : Ev.Spec := spg45_9c5 (F_ref07_Get_9c5 fuel)
theorem ok45_9c5 (fuel : Nat) : FnOK Try.prog 45 (spec45_9c5 fuel) := by
  intro args objs kk r h
  unfold spec45_9c5 spg45_9c5 at h
  split at h
  · skip
    obtain ⟨hb, h⟩ := cond_some' h
    simp only [Bool.and_eq_true, Nat.beq_eq, decide_eq_true_eq] at hb
    obtain ⟨⟨⟨⟨⟨⟨rfl, rfl⟩, rfl⟩, rfl⟩, rfl⟩, rfl⟩, rfl⟩ := hb
    exact fok45_9c5 fuel _ _ kk r ((F45_9c5_eq fuel _ _ _ _ _ _ _ _ _ _ _ _ _ _ _ _ _ _ _ _ kk).trans h)
  · cases h
end Go.Proofs.Ytihfgpfofmjbaaa

set_option linter.unusedVariables false
set_option linter.unusedSimpArgs false
set_option maxRecDepth 100000
set_option maxHeartbeats 2000000
namespace Go.Proofs.Ytihfgpfofmjbaaa
open Go Ev
def kp49 (i : Nat) : Option (List Nat) := Ev.look i []
noncomputable def Gg49 (f43 : YF43) (f44 : YF44) (f45_9c5 : YF45_9c5) (f122 : YF122) (f : Nat) : Option Ev.Spec := Ev.look f [(43, spg43 f43), (44, spg44 f44), (45, spg45_9c5 f45_9c5), (122, spg122 f122)]
noncomputable def G49 (fuel : Nat) : Nat → Option Ev.Spec := Gg49 (F_ref02_New fuel) (F_ref02_NewDecoder fuel) (F_ref07_Get_9c5 fuel) (F_ref07_Size fuel)
noncomputable def J49 (fuel : Nat) (i : Nat) : Option Ev.Blk := Ev.look i []
noncomputable def Fg_ref07_Decode (fuel : Nat) (f43 : YF43) (f44 : YF44) (f45_9c5 : YF45_9c5) (f122 : YF122) (x0 x1 x2 : Int) (x3 : Bool) (x4 : Int) (x5 : (List Int)) (x6 x7 : Int) (k0 : (Int × Int × Int × (List Int)) → Option Ans) : Option Ans :=
  (f122 (x0) (x1) (x2) (x3) (x4)
  (fun (y2_0, y2_1) =>
  bif y2_1 != (0 : Int) then
  k0 ((0 : Int), (0 : Int), y2_1, [])
  else
  (f43 (x4) (y2_0)
  (fun (y7_0, y7_1, y7_2) =>
  (f44 (y7_0) (y7_2) (x5)
  (fun y11 =>
  none)
  (fun (y11_0, y11_1, y11_2, y11_3, y11_4, y11_5, y11_6, y11_7, y11_8, y11_9) =>
  (f45_9c5 ((0 : Int)) (x0) (x1) (x2) (x3) (x4) (x6) (x7) ((0 : Int)) ((0 : Int)) ([]) (y11_1) (y11_2) (y11_3) (y11_4) (y11_5) (y11_6) (y11_7) (y11_8) (y11_9)
  (fun (y15_0, y15_1, y15_2, y15_3, y15_4, y15_5, y15_6, y15_7, y15_8, y15_9, y15_10, y15_11, y15_12) =>
  k0 (y15_0, y15_1, y15_2, y15_12)))))))))
noncomputable def F_ref07_Decode (fuel : Nat) (x0 x1 x2 : Int) (x3 : Bool) (x4 : Int) (x5 : (List Int)) (x6 x7 : Int) (k0 : (Int × Int × Int × (List Int)) → Option Ans) : Option Ans := Fg_ref07_Decode fuel (F_ref02_New fuel) (F_ref02_NewDecoder fuel) (F_ref07_Get_9c5 fuel) (F_ref07_Size fuel) x0 x1 x2 x3 x4 x5 x6 x7 k0
abbrev YF49 : Type := (Int) → (Int) → (Int) → (Bool) → (Int) → ((List Int)) → (Int) → (Int) → ((Int × Int × Int × (List Int)) → Option Ans) → Option Ans
theorem F49_eqg (fuel : Nat) (f43 : YF43) (f44 : YF44) (f45_9c5 : YF45_9c5) (f122 : YF122) (x0 x1 x2 : Int) (x3 : Bool) (x4 : Int) (x5 : (List Int)) (x6 x7 : Int) (k : Ev.Cont) : evalFn tab (Gg49 f43 f44 f45_9c5 f122) (J49 fuel) kp49 fuel Try.f49 [.agg [.int .i64 x0, .int .i64 x1, .int .i64 x2, .bool x3, .int .i64 x4], .c (.sl (.int .u8) x5), .c (.int .i64 x6), .c (.int .i64 x7)] [] k = Fg_ref07_Decode fuel f43 f44 f45_9c5 f122 x0 x1 x2 x3 x4 x5 x6 x7 (fun r => match r with | (r0, r1, r2, r3) => k (.tup [(true, [.int .i64 r0, .int .i64 r1, .own 0]), (false, [.int .i64 r2])], [.vec 5 (.int .u8) r3 true])) := by
  kernel_rfl
theorem F49_eq (fuel : Nat) (x0 x1 x2 : Int) (x3 : Bool) (x4 : Int) (x5 : (List Int)) (x6 x7 : Int) (k : Ev.Cont) : evalFn tab (G49 fuel) (J49 fuel) kp49 fuel Try.f49 [.agg [.int .i64 x0, .int .i64 x1, .int .i64 x2, .bool x3, .int .i64 x4], .c (.sl (.int .u8) x5), .c (.int .i64 x6), .c (.int .i64 x7)] [] k = F_ref07_Decode fuel x0 x1 x2 x3 x4 x5 x6 x7 (fun r => match r with | (r0, r1, r2, r3) => k (.tup [(true, [.int .i64 r0, .int .i64 r1, .own 0]), (false, [.int .i64 r2])], [.vec 5 (.int .u8) r3 true])) :=
  F49_eqg fuel (F_ref02_New fuel) (F_ref02_NewDecoder fuel) (F_ref07_Get_9c5 fuel) (F_ref07_Size fuel) x0 x1 x2 x3 x4 x5 x6 x7 k
theorem hG49 (fuel : Nat) : GOK Try.prog (G49 fuel) :=
  gok_cons ⟨ok43 fuel, enters_of Try.func43 (by kernel_rfl) rfl⟩ <|
  gok_cons ⟨ok44 fuel, enters_of Try.func44 (by kernel_rfl) rfl⟩ <|
  gok_cons ⟨ok45_9c5 fuel, enters_of Try.func45 (by kernel_rfl) rfl⟩ <|
  gok_cons ⟨ok122 fuel, enters_of Try.func122 (by kernel_rfl) rfl⟩ <|
  gok_nil
theorem fok49 (fuel : Nat) : FnOK Try.prog 49 (evalFn tab (G49 fuel) (J49 fuel) kp49 fuel Try.f49) :=
  fn_ok tab_ok (hG49 fuel) mixed Try.func49 (c := (Try.f49.body).getD .skip) rfl (fun q hq => by
    rw [(by kernel_rfl : obl (J49 fuel) ((Try.f49.body).getD .skip) = [])] at hq
    cases hq)
noncomputable def mt49 : List Ev.SV → List Ev.Ob → Bool := fun args objs => match args, objs with
 | [.agg [.int .i64 _, .int .i64 _, .int .i64 _, .bool _, .int .i64 _], .c (.sl (.int .u8) _), .c (.int .i64 _), .c (.int .i64 _)], [] => true
 | _, _ => false
noncomputable def spg49 (F : YF49) : Ev.Spec := fun args objs k => match args, objs with
 | [.agg [.int .i64 x0, .int .i64 x1, .int .i64 x2, .bool x3, .int .i64 x4], .c (.sl (.int .u8) x5), .c (.int .i64 x6), .c (.int .i64 x7)], [] => bif true then F x0 x1 x2 x3 x4 x5 x6 x7 (fun r => match r with | (r0, r1, r2, r3) => k (.tup [(true, [.int .i64 r0, .int .i64 r1, .own 0]), (false, [.int .i64 r2])], [.vec 5 (.int .u8) r3 true])) else none
 | _, _ => none
noncomputable def spec49 (fuel : Nat) : Ev.Spec := spg49 (F_ref07_Decode fuel)
theorem ok49 (fuel : Nat) : FnOK Try.prog 49 (spec49 fuel) := by
  intro args objs kk r h
  unfold spec49 spg49 at h
  split at h
  · skip
    obtain ⟨hb, h⟩ := cond_some' h
    simp only [Bool.and_eq_true, Nat.beq_eq, decide_eq_true_eq] at hb
    clear hb
    exact fok49 fuel _ _ kk r ((F49_eq fuel _ _ _ _ _ _ _ _ kk).trans h)
  · cases h
end Go.Proofs.Ytihfgpfofmjbaaa

set_option linter.unusedVariables false
set_option linter.unusedSimpArgs false
set_option maxRecDepth 100000
set_option maxHeartbeats 2000000
namespace Go.Proofs.Ytihfgpfofmjbaaa
open Go Ev
def kp11 (i : Nat) : Option (List Nat) := Ev.look i [(200001, [1])]
noncomputable def Gg11 (f26 : YF26) (f27 : YF27) (f30 : YF30) (f40 : YF40) (f48 : YF48) (f49 : YF49) (f : Nat) : Option Ev.Spec := Ev.look f [(26, spg26 f26), (27, spg27 f27), (30, spg30 f30), (40, spg40 f40), (48, spg48 f48), (49, spg49 f49)]
noncomputable def G11 (fuel : Nat) : Nat → Option Ev.Spec := Gg11 (F_ref05_Same fuel) (F_law07_Sane fuel) (F_generic_Encode fuel) (F_law07_Wide fuel) (F_generic_Decode fuel) (F_ref07_Decode fuel)
noncomputable def J11 (fuel : Nat) (i : Nat) : Option Ev.Blk := Ev.look i []
noncomputable def Fg_law07_GenericDecodes (fuel : Nat) (f26 : YF26) (f27 : YF27) (f30 : YF30) (f40 : YF40) (f48 : YF48) (f49 : YF49) (x0 x1 x2 : Int) (x3 : Bool) (x4 : Int) (x5 : (List Int)) (x6 x7 : Int) (k0 : (Bool) → Option Ans) : Option Ans :=
  bif decide ((↑x5.length : Int) > (600 : Int)) then
  (f27
  (fun y3 =>
  k0 y3))
  else
  (f40 (x6) (x7)
  (fun y3 =>
  bif y3 then
  (f27
  (fun y8 =>
  k0 y8))
  else
  (f48 (x0) (x1) (x2) (x3) (x4) (x5) (x6) (x7)
  (fun (y8_0, y8_1, y8_2, y8_3) =>
  (f49 (x0) (x1) (x2) (x3) (x4) (x5) (x6) (x7)
  (fun (y12_0, y12_1, y12_2, y12_3) =>
  bif y8_2 != y12_2 then
  k0 false
  else
  (f26 (y8_0) (y8_1) (y8_3) (y12_0) (y12_1) (y12_3)
  (fun y17 =>
  bif !y17 then
  k0 false
  else
  bif y8_2 != (0 : Int) then
  (f27
  (fun y23 =>
  k0 y23))
  else
  (f30 (x0) (x1) (x2) (x3) (x4) (y8_0) (y8_1) (y8_3)
  (fun (y23_0, y23_1) =>
  bif y23_0 != (0 : Int) then
  k0 false
  else
  (f48 (x0) (x1) (x2) (x3) (x4) (y23_1) (x6) (x7)
  (fun (y28_0, y28_1, y28_2, y28_3) =>
  bif y28_2 == (0 : Int) then
  (f26 (y28_0) (y28_1) (y28_3) (y8_0) (y8_1) (y8_3)
  (fun y33 =>
  bif y33 then
  (f27
  (fun y38 =>
  k0 y38))
  else
  k0 false))
  else
  k0 false))))))))))))
noncomputable def F_law07_GenericDecodes (fuel : Nat) (x0 x1 x2 : Int) (x3 : Bool) (x4 : Int) (x5 : (List Int)) (x6 x7 : Int) (k0 : (Bool) → Option Ans) : Option Ans := Fg_law07_GenericDecodes fuel (F_ref05_Same fuel) (F_law07_Sane fuel) (F_generic_Encode fuel) (F_law07_Wide fuel) (F_generic_Decode fuel) (F_ref07_Decode fuel) x0 x1 x2 x3 x4 x5 x6 x7 k0
abbrev YF11 : Type := (Int) → (Int) → (Int) → (Bool) → (Int) → ((List Int)) → (Int) → (Int) → ((Bool) → Option Ans) → Option Ans
theorem F11_eqg (fuel : Nat) (f26 : YF26) (f27 : YF27) (f30 : YF30) (f40 : YF40) (f48 : YF48) (f49 : YF49) (x0 x1 x2 : Int) (x3 : Bool) (x4 : Int) (x5 : (List Int)) (x6 x7 : Int) (k : Ev.Cont) : evalFn tab (Gg11 f26 f27 f30 f40 f48 f49) (J11 fuel) kp11 fuel Try.f11 [.agg [.int .i64 x0, .int .i64 x1, .int .i64 x2, .bool x3, .int .i64 x4, .sl (.int .u8) x5, .int .i64 x6, .int .i64 x7]] [] k = Fg_law07_GenericDecodes fuel f26 f27 f30 f40 f48 f49 x0 x1 x2 x3 x4 x5 x6 x7 (fun r => match r with | r0 => k (.c (.bool r0), [])) := by
  kernel_rfl
theorem F11_eq (fuel : Nat) (x0 x1 x2 : Int) (x3 : Bool) (x4 : Int) (x5 : (List Int)) (x6 x7 : Int) (k : Ev.Cont) : evalFn tab (G11 fuel) (J11 fuel) kp11 fuel Try.f11 [.agg [.int .i64 x0, .int .i64 x1, .int .i64 x2, .bool x3, .int .i64 x4, .sl (.int .u8) x5, .int .i64 x6, .int .i64 x7]] [] k = F_law07_GenericDecodes fuel x0 x1 x2 x3 x4 x5 x6 x7 (fun r => match r with | r0 => k (.c (.bool r0), [])) :=
  F11_eqg fuel (F_ref05_Same fuel) (F_law07_Sane fuel) (F_generic_Encode fuel) (F_law07_Wide fuel) (F_generic_Decode fuel) (F_ref07_Decode fuel) x0 x1 x2 x3 x4 x5 x6 x7 k
theorem hG11 (fuel : Nat) : GOK Try.prog (G11 fuel) :=
  gok_cons ⟨ok26 fuel, enters_of Try.func26 (by kernel_rfl) rfl⟩ <|
  gok_cons ⟨ok27 fuel, enters_of Try.func27 (by kernel_rfl) rfl⟩ <|
  gok_cons ⟨ok30 fuel, enters_of Try.func30 (by kernel_rfl) rfl⟩ <|
  gok_cons ⟨ok40 fuel, enters_of Try.func40 (by kernel_rfl) rfl⟩ <|
  gok_cons ⟨ok48 fuel, enters_of Try.func48 (by kernel_rfl) rfl⟩ <|
  gok_cons ⟨ok49 fuel, enters_of Try.func49 (by kernel_rfl) rfl⟩ <|
  gok_nil
theorem fok11 (fuel : Nat) : FnOK Try.prog 11 (evalFn tab (G11 fuel) (J11 fuel) kp11 fuel Try.f11) :=
  fn_ok tab_ok (hG11 fuel) mixed Try.func11 (c := (Try.f11.body).getD .skip) rfl (fun q hq => by
    rw [(by kernel_rfl : obl (J11 fuel) ((Try.f11.body).getD .skip) = [])] at hq
    cases hq)
noncomputable def mt11 : List Ev.SV → List Ev.Ob → Bool := fun args objs => match args, objs with
 | [.agg [.int .i64 _, .int .i64 _, .int .i64 _, .bool _, .int .i64 _, .sl (.int .u8) _, .int .i64 _, .int .i64 _]], [] => true
 | _, _ => false
noncomputable def spg11 (F : YF11) : Ev.Spec := fun args objs k => match args, objs with
 | [.agg [.int .i64 x0, .int .i64 x1, .int .i64 x2, .bool x3, .int .i64 x4, .sl (.int .u8) x5, .int .i64 x6, .int .i64 x7]], [] => bif true then F x0 x1 x2 x3 x4 x5 x6 x7 (fun r => match r with | r0 => k (.c (.bool r0), [])) else none
 | _, _ => none
noncomputable def spec11 (fuel : Nat) : Ev.Spec := spg11 (F_law07_GenericDecodes fuel)
theorem ok11 (fuel : Nat) : FnOK Try.prog 11 (spec11 fuel) := by
  intro args objs kk r h
  unfold spec11 spg11 at h
  split at h
  · skip
    obtain ⟨hb, h⟩ := cond_some' h
    simp only [Bool.and_eq_true, Nat.beq_eq, decide_eq_true_eq] at hb
    clear hb
    exact fok11 fuel _ _ kk r ((F11_eq fuel _ _ _ _ _ _ _ _ kk).trans h)
  · cases h
end Go.Proofs.Ytihfgpfofmjbaaa

set_option linter.unusedVariables false
set_option linter.unusedSimpArgs false
set_option maxRecDepth 100000
set_option maxHeartbeats 2000000
namespace Go.Proofs.Ytihfgpfofmjbaaa
open Go Ev
def kp101_a20 (i : Nat) : Option (List Nat) := Ev.look i []
noncomputable def Gg101_a20 (f164_a20 : YF164_a20) (f170 : YF170) (f : Nat) : Option Ev.Spec := Ev.look f [(164, spg164_a20 f164_a20), (170, spg170 f170)]
noncomputable def G101_a20 (fuel : Nat) : Nat → Option Ev.Spec := Gg101_a20 (F_coder_Encoder_none_a20 fuel) (F_coder_clone fuel)
noncomputable def J101_a20 (fuel : Nat) (i : Nat) : Option Ev.Blk := Ev.look i []
noncomputable def Fg_coder_Encoder_Model_a20 (fuel : Nat) (f164_a20 : YF164_a20) (f170 : YF170) (x0 x1 x2 : Int) (x3 : Bool) (x4 x5 : (List Int)) (k0 : (Int × Int × Int × Int × Bool × (List Int) × (List Int) × (List Int)) → Option Ans) : Option Ans :=
  (f164_a20 (x0) (x1) (x2) (x3) (x4) (x5)
  (fun (y2_0, y2_1, y2_2, y2_3, y2_4, y2_5, y2_6) =>
  bif y2_0 then
  k0 ((0 : Int), y2_1, y2_2, y2_3, y2_4, y2_5, y2_6, [])
  else
  (f170 (y2_1) (y2_5)
  (fun (y7_0, y7_1) =>
  k0 (y7_0, y2_1, y2_2, y2_3, y2_4, y2_5, y2_6, y7_1)))))
noncomputable def F_coder_Encoder_Model_a20 (fuel : Nat) (x0 x1 x2 : Int) (x3 : Bool) (x4 x5 : (List Int)) (k0 : (Int × Int × Int × Int × Bool × (List Int) × (List Int) × (List Int)) → Option Ans) : Option Ans := Fg_coder_Encoder_Model_a20 fuel (F_coder_Encoder_none_a20 fuel) (F_coder_clone fuel) x0 x1 x2 x3 x4 x5 k0
abbrev YF101_a20 : Type := (Int) → (Int) → (Int) → (Bool) → ((List Int)) → ((List Int)) → ((Int × Int × Int × Int × Bool × (List Int) × (List Int) × (List Int)) → Option Ans) → Option Ans
theorem F101_a20_eqg (fuel : Nat) (f164_a20 : YF164_a20) (f170 : YF170) (x0 x1 x2 : Int) (x3 : Bool) (x4 x5 : (List Int)) (k : Ev.Cont) : evalFn tab (Gg101_a20 f164_a20 f170) (J101_a20 fuel) kp101_a20 fuel Try.f101 [.c (.ptr 0 0)] [.cells 172 (.int .i64 x0 :: .own 1 :: ctb (.int .u64 x1 :: .int .u64 x2 :: .own 2 :: .bool x3 :: [])), .vec 3 (.int .i64) x4 false, .vec 5 (.int .u8) x5 false] k = Fg_coder_Encoder_Model_a20 fuel f164_a20 f170 x0 x1 x2 x3 x4 x5 (fun r => match r with | (r0, r1, r2, r3, r4, r5, r6, r7) => k (.agg [.int .i64 r0, .own 3], [.cells 172 (.int .i64 r1 :: .own 1 :: ctb (.int .u64 r2 :: .int .u64 r3 :: .own 2 :: .bool r4 :: [])), .vec 3 (.int .i64) r5 false, .vec 5 (.int .u8) r6 false, .vec 3 (.int .i64) r7 true])) := by
  kernel_rfl
theorem F101_a20_eq (fuel : Nat) (x0 x1 x2 : Int) (x3 : Bool) (x4 x5 : (List Int)) (k : Ev.Cont) : evalFn tab (G101_a20 fuel) (J101_a20 fuel) kp101_a20 fuel Try.f101 [.c (.ptr 0 0)] [.cells 172 (.int .i64 x0 :: .own 1 :: ctb (.int .u64 x1 :: .int .u64 x2 :: .own 2 :: .bool x3 :: [])), .vec 3 (.int .i64) x4 false, .vec 5 (.int .u8) x5 false] k = F_coder_Encoder_Model_a20 fuel x0 x1 x2 x3 x4 x5 (fun r => match r with | (r0, r1, r2, r3, r4, r5, r6, r7) => k (.agg [.int .i64 r0, .own 3], [.cells 172 (.int .i64 r1 :: .own 1 :: ctb (.int .u64 r2 :: .int .u64 r3 :: .own 2 :: .bool r4 :: [])), .vec 3 (.int .i64) r5 false, .vec 5 (.int .u8) r6 false, .vec 3 (.int .i64) r7 true])) :=
  F101_a20_eqg fuel (F_coder_Encoder_none_a20 fuel) (F_coder_clone fuel) x0 x1 x2 x3 x4 x5 k
theorem hG101_a20 (fuel : Nat) : GOK Try.prog (G101_a20 fuel) :=
  gok_cons ⟨ok164_a20 fuel, enters_of Try.func164 (by kernel_rfl) rfl⟩ <|
  gok_cons ⟨ok170 fuel, enters_of Try.func170 (by kernel_rfl) rfl⟩ <|
  gok_nil
theorem fok101_a20 (fuel : Nat) : FnOK Try.prog 101 (evalFn tab (G101_a20 fuel) (J101_a20 fuel) kp101_a20 fuel Try.f101) :=
  fn_ok tab_ok (hG101_a20 fuel) mixed Try.func101 (c := (Try.f101.body).getD .skip) rfl (fun q hq => by
    rw [(by kernel_rfl : obl (J101_a20 fuel) ((Try.f101.body).getD .skip) = [])] at hq
    cases hq)
noncomputable def mt101_a20 : List Ev.SV → List Ev.Ob → Bool := fun args objs => match args, objs with
 | [.c (.ptr q0 q1)], [.cells q2 cs0, .vec q3 (.int .i64) _ false, .vec q4 (.int .u8) _ false] => (match splitRun 2 ctn cs0 with | some ([.int .i64 _, .own q5], [.int .u64 _, .int .u64 _, .own q6, .bool _]) => Nat.beq q0 0 && Nat.beq q1 0 && Nat.beq q2 172 && Nat.beq q3 3 && Nat.beq q4 5 && Nat.beq q5 1 && Nat.beq q6 2 | _ => false)
 | _, _ => false
noncomputable def spg101_a20 (F : YF101_a20) : Ev.Spec := fun args objs k => match args, objs with
 | [.c (.ptr q0 q1)], [.cells q2 cs0, .vec q3 (.int .i64) x4 false, .vec q4 (.int .u8) x5 false] => (match splitRun 2 ctn cs0 with | some ([.int .i64 x0, .own q5], [.int .u64 x1, .int .u64 x2, .own q6, .bool x3]) => bif Nat.beq q0 0 && Nat.beq q1 0 && Nat.beq q2 172 && Nat.beq q3 3 && Nat.beq q4 5 && Nat.beq q5 1 && Nat.beq q6 2 then F x0 x1 x2 x3 x4 x5 (fun r => match r with | (r0, r1, r2, r3, r4, r5, r6, r7) => k (.agg [.int .i64 r0, .own 3], [.cells 172 (.int .i64 r1 :: .own 1 :: ctb (.int .u64 r2 :: .int .u64 r3 :: .own 2 :: .bool r4 :: [])), .vec 3 (.int .i64) r5 false, .vec 5 (.int .u8) r6 false, .vec 3 (.int .i64) r7 true])) else none | _ => none)
 | _, _ => none
noncomputable def spec101_a20 (fuel : Nat) : Ev.Spec := spg101_a20 (F_coder_Encoder_Model_a20 fuel)
theorem ok101_a20 (fuel : Nat) : FnOK Try.prog 101 (spec101_a20 fuel) := by
  intro args objs kk r h
  unfold spec101_a20 spg101_a20 at h
  split at h
  · skip
    split at h
    rotate_left 1
    · cases h
    rename_i hsp
    have esp := splitRun_eq hsp
    subst esp
    obtain ⟨hb, h⟩ := cond_some' h
    simp only [Bool.and_eq_true, Nat.beq_eq, decide_eq_true_eq] at hb
    obtain ⟨⟨⟨⟨⟨⟨rfl, rfl⟩, rfl⟩, rfl⟩, rfl⟩, rfl⟩, rfl⟩ := hb
    exact fok101_a20 fuel _ _ kk r ((F101_a20_eq fuel _ _ _ _ _ _ kk).trans h)
  · cases h
end Go.Proofs.Ytihfgpfofmjbaaa

set_option linter.unusedVariables false
set_option linter.unusedSimpArgs false
set_option maxRecDepth 100000
set_option maxHeartbeats 2000000
namespace Go.Proofs.Ytihfgpfofmjbaaa
open Go Ev
def kp188_e89 (i : Nat) : Option (List Nat) := Ev.look i [(8, [0, 1000002]), (100000, []), (200005, [0]), (200007, [0]), (400000, [6]), (600000, [])]
noncomputable def Gg188_e89 (f181 : YF181) (f183 : YF183) (f184 : YF184) (f185 : YF185) (f186 : YF186) (f : Nat) : Option Ev.Spec := Ev.look f [(181, spg181 f181), (183, spg183 f183), (184, spg184 f184), (185, spg185 f185), (186, spg186 f186)]
noncomputable def G188_e89 (fuel : Nat) : Nat → Option Ev.Spec := Gg188_e89 (F_ref02_Likely fuel) (F_ref02_Interval_Part fuel) (F_ref02_Interval_Fixed fuel) (F_ref02_Interval_Shifted fuel) (F_ref02_After fuel)
noncomputable def Sg_ref02_Encoder_Put_e89_0 (fuel : Nat) (f181 : YF181) (f183 : YF183) (f184 : YF184) (f185 : YF185) (f186 : YF186) (x0 x1 x2 : Int) (x3 x4 : (List Int)) (c : (Int × Int × Int × (List Int) × (List Int)) → Option Ans) (B : (Int × Int × Int × (List Int) × (List Int) → Option Ans)) : Option Ans := match B with
 | b =>
  (f184 (x1) (x2)
  (fun y2 =>
  bif y2 then
  both (bif decide ((x4.length + [IntKind.u8.wrap (Ev.ishr IntKind.u64 x2 (24 : Int))].length) * (1 : Nat) ≤ (140737488355328 : Nat) ∧ x4.length + [IntKind.u8.wrap (Ev.ishr IntKind.u64 x2 (24 : Int))].length ≤ (140737488355328 : Nat)) then
  (f185 (x1) (x2)
  (fun (y10_0, y10_1) =>
  c (x0, y10_0, y10_1, x3, x4 ++ [IntKind.u8.wrap (Ev.ishr IntKind.u64 x2 (24 : Int))])))
  else none)
  (both (bif decide ((x4.length + [IntKind.u8.wrap (Ev.ishr IntKind.u64 x2 (24 : Int))].length) * (1 : Nat) ≤ (140737488355328 : Nat) ∧ x4.length + [IntKind.u8.wrap (Ev.ishr IntKind.u64 x2 (24 : Int))].length ≤ (140737488355328 : Nat)) then
  (f185 (x1) (x2)
  (fun (y12_0, y12_1) =>
  c (x0, y12_0, y12_1, x3, x4 ++ [IntKind.u8.wrap (Ev.ishr IntKind.u64 x2 (24 : Int))])))
  else none)
  (bif decide ((x4.length + [IntKind.u8.wrap (Ev.ishr IntKind.u64 x2 (24 : Int))].length) * (1 : Nat) ≤ (140737488355328 : Nat) ∧ x4.length + [IntKind.u8.wrap (Ev.ishr IntKind.u64 x2 (24 : Int))].length ≤ (140737488355328 : Nat)) then
  (f185 (x1) (x2)
  (fun (y12_0, y12_1) =>
  c (x0, y12_0, y12_1, x3, x4 ++ [IntKind.u8.wrap (Ev.ishr IntKind.u64 x2 (24 : Int))])))
  else none))
  else
  b (x0, x1, x2, x3, x4)))
noncomputable def S_ref02_Encoder_Put_e89_0 (fuel : Nat) (v : Int × Int × Int × (List Int) × (List Int)) (c : (Int × Int × Int × (List Int) × (List Int)) → Option Ans) (B : (Int × Int × Int × (List Int) × (List Int) → Option Ans)) : Option Ans := match v with
 | (x0, x1, x2, x3, x4) => Sg_ref02_Encoder_Put_e89_0 fuel (F_ref02_Likely fuel) (F_ref02_Interval_Part fuel) (F_ref02_Interval_Fixed fuel) (F_ref02_Interval_Shifted fuel) (F_ref02_After fuel) x0 x1 x2 x3 x4 c B
noncomputable def L_ref02_Encoder_Put_e89_0 (fuel : Nat) (v : Int × Int × Int × (List Int) × (List Int)) (b : (Int × Int × Int × (List Int) × (List Int) → Option Ans)) : Option Ans := iter (S_ref02_Encoder_Put_e89_0 fuel) fuel v b
noncomputable def J188_e89_0 (fuel : Nat) (i : Nat) : Option Ev.Blk := Ev.look i []
noncomputable def T188_e89_0 (v : Int × Int × Int × (List Int) × (List Int)) : Ev.St := match v with | (x0, x1, x2, x3, x4) => ⟨[(0, .c (.ptr 0 0))], [(0, .cells 225 [.int .i64 x0, .own 1, .int .u64 x1, .int .u64 x2, .own 2]), (1, .vec 3 (.int .i64) x3 false), (2, .vec 5 (.int .u8) x4 true)], 3, 3⟩
noncomputable def E188_e89_0 (K : Ev.Ex → Ev.St → Option Ans) : (Int × Int × Int × (List Int) × (List Int) → Option Ans) := (fun v => match v with | (x0, x1, x2, x3, x4) => K .normal ⟨[], [(0, .cells 225 [.int .i64 x0, .own 1, .int .u64 x1, .int .u64 x2, .own 2]), (1, .vec 3 (.int .i64) x3 false), (2, .vec 5 (.int .u8) x4 true)], 3, 3⟩)
theorem S188_e89_0_okg (fuel : Nat) (f181 : YF181) (f183 : YF183) (f184 : YF184) (f185 : YF185) (f186 : YF186) (R : Ev.St → Option Ans) (K : Ev.Ex → Ev.St → Option Ans) (x0 x1 x2 : Int) (x3 x4 : (List Int)) : evalCode tab (Gg188_e89 f181 f183 f184 f185 f186) (J188_e89_0 fuel) kp188_e89 fuel (bodyOf 0 Try.f188) (T188_e89_0 (x0, x1, x2, x3, x4)) (lc kp188_e89 8 0 R K) = Sg_ref02_Encoder_Put_e89_0 fuel f181 f183 f184 f185 f186 x0 x1 x2 x3 x4 (fun v => R (T188_e89_0 v)) (E188_e89_0 K) := by
  kernel_rfl
theorem S188_e89_0_ok (fuel : Nat) (R : Ev.St → Option Ans) (K : Ev.Ex → Ev.St → Option Ans) (x0 x1 x2 : Int) (x3 x4 : (List Int)) : evalCode tab (G188_e89 fuel) (J188_e89_0 fuel) kp188_e89 fuel (bodyOf 0 Try.f188) (T188_e89_0 (x0, x1, x2, x3, x4)) (lc kp188_e89 8 0 R K) = S_ref02_Encoder_Put_e89_0 fuel (x0, x1, x2, x3, x4) (fun v => R (T188_e89_0 v)) (E188_e89_0 K) :=
  S188_e89_0_okg fuel (F_ref02_Likely fuel) (F_ref02_Interval_Part fuel) (F_ref02_Interval_Fixed fuel) (F_ref02_Interval_Shifted fuel) (F_ref02_After fuel) R K x0 x1 x2 x3 x4
noncomputable def B188_e89_0 (fuel : Nat) : Ev.Blk := fun st K => match canonO (kp188_e89 8) st with
 | some s => (match s with
 | ⟨[(q0, .c (.ptr q1 q2))], [(q3, .cells q4 [.int .i64 x0, .own q5, .int .u64 x1, .int .u64 x2, .own q6]), (q7, .vec q8 (.int .i64) x3 false), (q9, .vec q10 (.int .u8) x4 true)], q11, q12⟩ => bif Nat.beq q0 0 && Nat.beq q1 0 && Nat.beq q2 0 && Nat.beq q3 0 && Nat.beq q4 225 && Nat.beq q5 1 && Nat.beq q6 2 && Nat.beq q7 1 && Nat.beq q8 3 && Nat.beq q9 2 && Nat.beq q10 5 && Nat.beq q11 3 && Nat.beq q12 3 then iter (S_ref02_Encoder_Put_e89_0 fuel) fuel (x0, x1, x2, x3, x4) (E188_e89_0 K) else none
 | _ => none)
 | none => none
theorem B188_e89_0_ok (fuel : Nat) (st : Ev.St) (K : Ev.Ex → Ev.St → Option Ans) (r : Ans) (h : B188_e89_0 fuel st K = some r) : evalCode tab (G188_e89 fuel) (J188_e89_0 fuel) kp188_e89 fuel (.block 0 (.loop (bodyOf 0 Try.f188))) st K = some r := by
  unfold B188_e89_0 at h
  split at h
  · rename_i s hs
    split at h
    · skip
      obtain ⟨hb, h⟩ := cond_some' h
      simp only [Bool.and_eq_true, Nat.beq_eq, decide_eq_true_eq] at hb
      obtain ⟨⟨⟨⟨⟨⟨⟨⟨⟨⟨⟨⟨rfl, rfl⟩, rfl⟩, rfl⟩, rfl⟩, rfl⟩, rfl⟩, rfl⟩, rfl⟩, rfl⟩, rfl⟩, rfl⟩, rfl⟩ := hb
      exact blk_loop (S := T188_e89_0) (ks := E188_e89_0) (step := S_ref02_Encoder_Put_e89_0 fuel) (v := (_, _, _, _, _)) (by kernel_rfl) (by kernel_rfl) (fun R K v => by obtain ⟨x0, x1, x2, x3, x4⟩ := v; exact S188_e89_0_ok fuel R K x0 x1 x2 x3 x4) hs h
    · cases h
  · cases h
noncomputable def J188_e89 (fuel : Nat) (i : Nat) : Option Ev.Blk := Ev.look i [(100000, B188_e89_0 fuel)]
noncomputable def Fg_ref02_Encoder_Put_e89 (fuel : Nat) (f181 : YF181) (f183 : YF183) (f184 : YF184) (f185 : YF185) (f186 : YF186) (x0 x1 : Int) (x2 x3 x4 : Int) (x5 x6 : (List Int)) (k0 : (Int × Int × Int × Int × (List Int) × (List Int)) → Option Ans) (k1 : (Int × Int × Int × Int × (List Int) × (List Int)) → Option Ans) : Option Ans :=
  bif decide (x0 < (0 : Int)) then
  k0 ((2 : Int), x2, x3, x4, x5, x6)
  else
  bif decide (x0 ≥ (↑x5.length : Int)) then
  k0 ((2 : Int), x2, x3, x4, x5, x6)
  else
  bif x1 != (0 : Int) then
  bif x1 != (1 : Int) then
  k0 ((2 : Int), x2, x3, x4, x5, x6)
  else
  bif decide ((0 : Int) ≤ x0 ∧ x0 < (↑x5.length : Int)) then
  (f181 (x2) (x5.getD x0.toNat (0 : Int))
  (fun y7 =>
  (f183 (x3) (x4) (y7) (x1)
  (fun (y11_0, y11_1) =>
  bif decide ((0 : Int) ≤ x0 ∧ x0 < (↑x5.length : Int)) then
  (f186 (x2) (x5.getD x0.toNat (0 : Int)) (x1)
  (fun y16 =>
  bif decide ((0 : Int) ≤ x0 ∧ x0 < (↑x5.length : Int)) then
  (L_ref02_Encoder_Put_e89_0 fuel (x2, y11_0, y11_1, x5.set x0.toNat y16, x6)
  (fun (b0_0, b0_1, b0_2, b0_3, b0_4) =>
  k1 ((0 : Int), b0_0, b0_1, b0_2, b0_3, b0_4)))
  else none))
  else none))))
  else none
  else
  bif decide ((0 : Int) ≤ x0 ∧ x0 < (↑x5.length : Int)) then
  (f181 (x2) (x5.getD x0.toNat (0 : Int))
  (fun y6 =>
  (f183 (x3) (x4) (y6) (x1)
  (fun (y10_0, y10_1) =>
  bif decide ((0 : Int) ≤ x0 ∧ x0 < (↑x5.length : Int)) then
  (f186 (x2) (x5.getD x0.toNat (0 : Int)) (x1)
  (fun y15 =>
  bif decide ((0 : Int) ≤ x0 ∧ x0 < (↑x5.length : Int)) then
  (L_ref02_Encoder_Put_e89_0 fuel (x2, y10_0, y10_1, x5.set x0.toNat y15, x6)
  (fun (b0_0, b0_1, b0_2, b0_3, b0_4) =>
  k1 ((0 : Int), b0_0, b0_1, b0_2, b0_3, b0_4)))
  else none))
  else none))))
  else none
noncomputable def F_ref02_Encoder_Put_e89 (fuel : Nat) (x0 x1 : Int) (x2 x3 x4 : Int) (x5 x6 : (List Int)) (k0 : (Int × Int × Int × Int × (List Int) × (List Int)) → Option Ans) (k1 : (Int × Int × Int × Int × (List Int) × (List Int)) → Option Ans) : Option Ans := Fg_ref02_Encoder_Put_e89 fuel (F_ref02_Likely fuel) (F_ref02_Interval_Part fuel) (F_ref02_Interval_Fixed fuel) (F_ref02_Interval_Shifted fuel) (F_ref02_After fuel) x0 x1 x2 x3 x4 x5 x6 k0 k1
abbrev YF188_e89 : Type := (Int) → (Int) → (Int) → (Int) → (Int) → ((List Int)) → ((List Int)) → ((Int × Int × Int × Int × (List Int) × (List Int)) → Option Ans) → ((Int × Int × Int × Int × (List Int) × (List Int)) → Option Ans) → Option Ans
theorem F188_e89_eqg (fuel : Nat) (f181 : YF181) (f183 : YF183) (f184 : YF184) (f185 : YF185) (f186 : YF186) (x0 x1 : Int) (x2 x3 x4 : Int) (x5 x6 : (List Int)) (k : Ev.Cont) : evalFn tab (Gg188_e89 f181 f183 f184 f185 f186) (J188_e89 fuel) kp188_e89 fuel Try.f188 [.c (.ptr 0 0), .c (.int .i64 x0), .c (.int .i64 x1)] [.cells 225 [.int .i64 x2, .own 1, .int .u64 x3, .int .u64 x4, .own 2], .vec 3 (.int .i64) x5 false, .vec 5 (.int .u8) x6 false] k = Fg_ref02_Encoder_Put_e89 fuel f181 f183 f184 f185 f186 x0 x1 x2 x3 x4 x5 x6 (fun r => match r with | (r0, r1, r2, r3, r4, r5) => k (.c (.int .i64 r0), [.cells 225 [.int .i64 r1, .own 1, .int .u64 r2, .int .u64 r3, .own 2], .vec 3 (.int .i64) r4 false, .vec 5 (.int .u8) r5 false])) (fun r => match r with | (r0, r1, r2, r3, r4, r5) => k (.c (.int .i64 r0), [.cells 225 [.int .i64 r1, .own 1, .int .u64 r2, .int .u64 r3, .own 2], .vec 3 (.int .i64) r4 false, .vec 5 (.int .u8) r5 true])) := by
  kernel_rfl
theorem F188_e89_eq (fuel : Nat) (x0 x1 : Int) (x2 x3 x4 : Int) (x5 x6 : (List Int)) (k : Ev.Cont) : evalFn tab (G188_e89 fuel) (J188_e89 fuel) kp188_e89 fuel Try.f188 [.c (.ptr 0 0), .c (.int .i64 x0), .c (.int .i64 x1)] [.cells 225 [.int .i64 x2, .own 1, .int .u64 x3, .int .u64 x4, .own 2], .vec 3 (.int .i64) x5 false, .vec 5 (.int .u8) x6 false] k = F_ref02_Encoder_Put_e89 fuel x0 x1 x2 x3 x4 x5 x6 (fun r => match r with | (r0, r1, r2, r3, r4, r5) => k (.c (.int .i64 r0), [.cells 225 [.int .i64 r1, .own 1, .int .u64 r2, .int .u64 r3, .own 2], .vec 3 (.int .i64) r4 false, .vec 5 (.int .u8) r5 false])) (fun r => match r with | (r0, r1, r2, r3, r4, r5) => k (.c (.int .i64 r0), [.cells 225 [.int .i64 r1, .own 1, .int .u64 r2, .int .u64 r3, .own 2], .vec 3 (.int .i64) r4 false, .vec 5 (.int .u8) r5 true])) :=
  F188_e89_eqg fuel (F_ref02_Likely fuel) (F_ref02_Interval_Part fuel) (F_ref02_Interval_Fixed fuel) (F_ref02_Interval_Shifted fuel) (F_ref02_After fuel) x0 x1 x2 x3 x4 x5 x6 k
theorem hG188_e89 (fuel : Nat) : GOK Try.prog (G188_e89 fuel) :=
  gok_cons ⟨ok181 fuel, enters_of Try.func181 (by kernel_rfl) rfl⟩ <|
  gok_cons ⟨ok183 fuel, enters_of Try.func183 (by kernel_rfl) rfl⟩ <|
  gok_cons ⟨ok184 fuel, enters_of Try.func184 (by kernel_rfl) rfl⟩ <|
  gok_cons ⟨ok185 fuel, enters_of Try.func185 (by kernel_rfl) rfl⟩ <|
  gok_cons ⟨ok186 fuel, enters_of Try.func186 (by kernel_rfl) rfl⟩ <|
  gok_nil
theorem B188_e89_0_blk (fuel : Nat) : BlkOK Try.prog Try.f188.ntmps (.block 0 (.loop (bodyOf 0 Try.f188))) (B188_e89_0 fuel) :=
  blk_of (blk_of_code tab_ok (hG188_e89 fuel) mixed (J := J188_e89_0 fuel) (kp := kp188_e89) (fuel := fuel) (by kernel_rfl) (fun q hq => by
    rw [(by kernel_rfl : obl (J188_e89_0 fuel) (.block 0 (.loop (bodyOf 0 Try.f188))) = [])] at hq
    cases hq)) (B188_e89_0_ok fuel)
theorem fok188_e89 (fuel : Nat) : FnOK Try.prog 188 (evalFn tab (G188_e89 fuel) (J188_e89 fuel) kp188_e89 fuel Try.f188) :=
  fn_ok tab_ok (hG188_e89 fuel) mixed Try.func188 (c := (Try.f188.body).getD .skip) rfl (fun q hq => by
    rw [(by kernel_rfl : obl (J188_e89 fuel) ((Try.f188.body).getD .skip) = [(.block 0 (.loop (bodyOf 0 Try.f188)), B188_e89_0 fuel)])] at hq
    simp only [List.mem_cons, List.not_mem_nil, or_false] at hq
    subst hq
    · exact B188_e89_0_blk fuel)
noncomputable def mt188_e89 : List Ev.SV → List Ev.Ob → Bool := fun args objs => match args, objs with
 | [.c (.ptr q0 q1), .c (.int .i64 _), .c (.int .i64 _)], [.cells q2 [.int .i64 _, .own q3, .int .u64 _, .int .u64 _, .own q4], .vec q5 (.int .i64) _ false, .vec q6 (.int .u8) _ false] => Nat.beq q0 0 && Nat.beq q1 0 && Nat.beq q2 225 && Nat.beq q3 1 && Nat.beq q4 2 && Nat.beq q5 3 && Nat.beq q6 5
 | _, _ => false
noncomputable def spg188_e89 (F : YF188_e89) : Ev.Spec := fun args objs k => match args, objs with
 | [.c (.ptr q0 q1), .c (.int .i64 x0), .c (.int .i64 x1)], [.cells q2 [.int .i64 x2, .own q3, .int .u64 x3, .int .u64 x4, .own q4], .vec q5 (.int .i64) x5 false, .vec q6 (.int .u8) x6 false] => bif Nat.beq q0 0 && Nat.beq q1 0 && Nat.beq q2 225 && Nat.beq q3 1 && Nat.beq q4 2 && Nat.beq q5 3 && Nat.beq q6 5 then F x0 x1 x2 x3 x4 x5 x6 (fun r => match r with | (r0, r1, r2, r3, r4, r5) => k (.c (.int .i64 r0), [.cells 225 [.int .i64 r1, .own 1, .int .u64 r2, .int .u64 r3, .own 2], .vec 3 (.int .i64) r4 false, .vec 5 (.int .u8) r5 false])) (fun r => match r with | (r0, r1, r2, r3, r4, r5) => k (.c (.int .i64 r0), [.cells 225 [.int .i64 r1, .own 1, .int .u64 r2, .int .u64 r3, .own 2], .vec 3 (.int .i64) r4 false, .vec 5 (.int .u8) r5 true])) else none
 | _, _ => none
noncomputable def spec188_e89 (fuel : Nat) : Ev.Spec := spg188_e89 (F_ref02_Encoder_Put_e89 fuel)
theorem ok188_e89 (fuel : Nat) : FnOK Try.prog 188 (spec188_e89 fuel) := by
  intro args objs kk r h
  unfold spec188_e89 spg188_e89 at h
  split at h
  · skip
    obtain ⟨hb, h⟩ := cond_some' h
    simp only [Bool.and_eq_true, Nat.beq_eq, decide_eq_true_eq] at hb
    obtain ⟨⟨⟨⟨⟨⟨rfl, rfl⟩, rfl⟩, rfl⟩, rfl⟩, rfl⟩, rfl⟩ := hb
    exact fok188_e89 fuel _ _ kk r ((F188_e89_eq fuel _ _ _ _ _ _ _ kk).trans h)
  · cases h
end Go.Proofs.Ytihfgpfofmjbaaa

set_option linter.unusedVariables false
set_option linter.unusedSimpArgs false
set_option maxRecDepth 100000
set_option maxHeartbeats 2000000
namespace Go.Proofs.Ytihfgpfofmjbaaa
open Go Ev
def kp189 (i : Nat) : Option (List Nat) := Ev.look i [(3, [1, 3, 4]), (100000, [3]), (400000, [2])]
noncomputable def Gg189 (f : Nat) : Option Ev.Spec := Ev.look f []
noncomputable def G189 (fuel : Nat) : Nat → Option Ev.Spec := Gg189
noncomputable def S_ref02_Interval_End_0 (fuel : Nat) (v : Int × Int × Int × (List Int)) (c : (Int × Int × Int × (List Int)) → Option Ans) (B : ((List Int) → Option Ans)) : Option Ans := match v, B with
 | (x0, x1, x2, x3), b =>
  bif decide (x0 < x1) then
  bif decide (IntKind.i64.wrap ((24 : Int) - IntKind.i64.wrap ((8 : Int) * (↑x3.length : Int))) < (0 : Int)) then
  none
  else
  bif decide ((x3.length + [IntKind.u8.wrap (Ev.ishr IntKind.u64 x2 (IntKind.i64.wrap ((24 : Int) - IntKind.i64.wrap ((8 : Int) * (↑x3.length : Int)))))].length) * (1 : Nat) ≤ (140737488355328 : Nat) ∧ x3.length + [IntKind.u8.wrap (Ev.ishr IntKind.u64 x2 (IntKind.i64.wrap ((24 : Int) - IntKind.i64.wrap ((8 : Int) * (↑x3.length : Int)))))].length ≤ (140737488355328 : Nat)) then
  bif decide (IntKind.i64.wrap ((24 : Int) - IntKind.i64.wrap ((8 : Int) * (↑x3.length : Int))) < (0 : Int)) then
  none
  else
  bif decide (IntKind.i64.wrap ((24 : Int) - IntKind.i64.wrap ((8 : Int) * (↑x3.length : Int))) < (0 : Int)) then
  none
  else
  c (IntKind.u64.wrap (x0 + Ev.ishl IntKind.u64 ((Ev.ishr IntKind.u64 x2 (IntKind.i64.wrap ((24 : Int) - IntKind.i64.wrap ((8 : Int) * (↑x3.length : Int))))).tmod (256 : Int)) (IntKind.i64.wrap ((24 : Int) - IntKind.i64.wrap ((8 : Int) * (↑x3.length : Int))))), x1, x2, x3 ++ [IntKind.u8.wrap (Ev.ishr IntKind.u64 x2 (IntKind.i64.wrap ((24 : Int) - IntKind.i64.wrap ((8 : Int) * (↑x3.length : Int)))))])
  else none
  else
  b x3
noncomputable def L_ref02_Interval_End_0 (fuel : Nat) (v : Int × Int × Int × (List Int)) (b : ((List Int) → Option Ans)) : Option Ans := iter (S_ref02_Interval_End_0 fuel) fuel v b
noncomputable def J189_0 (fuel : Nat) (i : Nat) : Option Ev.Blk := Ev.look i []
noncomputable def T189_0 (v : Int × Int × Int × (List Int)) : Ev.St := match v with | (x0, x1, x2, x3) => ⟨[(1, .c (.ptr 0 0)), (3, .c (.own 1)), (4, .c (.int .u64 x0))], [(0, .cells 161 [.int .u64 x1, .int .u64 x2]), (1, .vec 5 (.int .u8) x3 true)], 2, 0⟩
noncomputable def E189_0 (K : Ev.Ex → Ev.St → Option Ans) : ((List Int) → Option Ans) := (fun v => match v with | x0 => K .normal ⟨[(3, .c (.own 0))], [(0, .vec 5 (.int .u8) x0 true)], 1, 0⟩)
theorem S189_0_ok (fuel : Nat) (R : Ev.St → Option Ans) (K : Ev.Ex → Ev.St → Option Ans) (x0 x1 x2 : Int) (x3 : (List Int)) : evalCode tab (G189 fuel) (J189_0 fuel) kp189 fuel (bodyOf 0 Try.f189) (T189_0 (x0, x1, x2, x3)) (lc kp189 3 0 R K) = S_ref02_Interval_End_0 fuel (x0, x1, x2, x3) (fun v => R (T189_0 v)) (E189_0 K) := by
  kernel_rfl
noncomputable def B189_0 (fuel : Nat) : Ev.Blk := fun st K => match canonO (kp189 3) st with
 | some s => (match s with
 | ⟨[(q0, .c (.ptr q1 q2)), (q3, .c (.own q4)), (q5, .c (.int .u64 x0))], [(q6, .cells q7 [.int .u64 x1, .int .u64 x2]), (q8, .vec q9 (.int .u8) x3 true)], q10, q11⟩ => bif Nat.beq q0 1 && Nat.beq q1 0 && Nat.beq q2 0 && Nat.beq q3 3 && Nat.beq q4 1 && Nat.beq q5 4 && Nat.beq q6 0 && Nat.beq q7 161 && Nat.beq q8 1 && Nat.beq q9 5 && Nat.beq q10 2 && Nat.beq q11 0 then iter (S_ref02_Interval_End_0 fuel) fuel (x0, x1, x2, x3) (E189_0 K) else none
 | _ => none)
 | none => none
theorem B189_0_ok (fuel : Nat) (st : Ev.St) (K : Ev.Ex → Ev.St → Option Ans) (r : Ans) (h : B189_0 fuel st K = some r) : evalCode tab (G189 fuel) (J189_0 fuel) kp189 fuel (.block 0 (.loop (bodyOf 0 Try.f189))) st K = some r := by
  unfold B189_0 at h
  split at h
  · rename_i s hs
    split at h
    · skip
      obtain ⟨hb, h⟩ := cond_some' h
      simp only [Bool.and_eq_true, Nat.beq_eq, decide_eq_true_eq] at hb
      obtain ⟨⟨⟨⟨⟨⟨⟨⟨⟨⟨⟨rfl, rfl⟩, rfl⟩, rfl⟩, rfl⟩, rfl⟩, rfl⟩, rfl⟩, rfl⟩, rfl⟩, rfl⟩, rfl⟩ := hb
      exact blk_loop (S := T189_0) (ks := E189_0) (step := S_ref02_Interval_End_0 fuel) (v := (_, _, _, _)) (by kernel_rfl) (by kernel_rfl) (fun R K v => by obtain ⟨x0, x1, x2, x3⟩ := v; exact S189_0_ok fuel R K x0 x1 x2 x3) hs h
    · cases h
  · cases h
noncomputable def J189 (fuel : Nat) (i : Nat) : Option Ev.Blk := Ev.look i [(100000, B189_0 fuel)]
noncomputable def F_ref02_Interval_End (fuel : Nat) (x0 x1 : Int) (k0 : ((List Int)) → Option Ans) : Option Ans :=
  (L_ref02_Interval_End_0 fuel ((0 : Int), x0, x1, [])
  (fun b0_0 =>
  k0 b0_0))
abbrev YF189 : Type := (Int) → (Int) → (((List Int)) → Option Ans) → Option Ans
theorem F189_eq (fuel : Nat) (x0 x1 : Int) (k : Ev.Cont) : evalFn tab (G189 fuel) (J189 fuel) kp189 fuel Try.f189 [.agg [.int .u64 x0, .int .u64 x1]] [] k = F_ref02_Interval_End fuel x0 x1 (fun r => match r with | r0 => k (.c (.own 0), [.vec 5 (.int .u8) r0 true])) := by
  kernel_rfl
theorem hG189 (fuel : Nat) : GOK Try.prog (G189 fuel) :=
  gok_nil
theorem B189_0_blk (fuel : Nat) : BlkOK Try.prog Try.f189.ntmps (.block 0 (.loop (bodyOf 0 Try.f189))) (B189_0 fuel) :=
  blk_of (blk_of_code tab_ok (hG189 fuel) mixed (J := J189_0 fuel) (kp := kp189) (fuel := fuel) (by kernel_rfl) (fun q hq => by
    rw [(by kernel_rfl : obl (J189_0 fuel) (.block 0 (.loop (bodyOf 0 Try.f189))) = [])] at hq
    cases hq)) (B189_0_ok fuel)
theorem fok189 (fuel : Nat) : FnOK Try.prog 189 (evalFn tab (G189 fuel) (J189 fuel) kp189 fuel Try.f189) :=
  fn_ok tab_ok (hG189 fuel) mixed Try.func189 (c := (Try.f189.body).getD .skip) rfl (fun q hq => by
    rw [(by kernel_rfl : obl (J189 fuel) ((Try.f189.body).getD .skip) = [(.block 0 (.loop (bodyOf 0 Try.f189)), B189_0 fuel)])] at hq
    simp only [List.mem_cons, List.not_mem_nil, or_false] at hq
    subst hq
    · exact B189_0_blk fuel)
noncomputable def mt189 : List Ev.SV → List Ev.Ob → Bool := fun args objs => match args, objs with
 | [.agg [.int .u64 _, .int .u64 _]], [] => true
 | _, _ => false
noncomputable def spg189 (F : YF189) : Ev.Spec := fun args objs k => match args, objs with
 | [.agg [.int .u64 x0, .int .u64 x1]], [] => bif true then F x0 x1 (fun r => match r with | r0 => k (.c (.own 0), [.vec 5 (.int .u8) r0 true])) else none
 | _, _ => none
noncomputable def spec189 (fuel : Nat) : Ev.Spec := spg189 (F_ref02_Interval_End fuel)
theorem ok189 (fuel : Nat) : FnOK Try.prog 189 (spec189 fuel) := by
  intro args objs kk r h
  unfold spec189 spg189 at h
  split at h
  · skip
    obtain ⟨hb, h⟩ := cond_some' h
    simp only [Bool.and_eq_true, Nat.beq_eq, decide_eq_true_eq] at hb
    clear hb
    exact fok189 fuel _ _ kk r ((F189_eq fuel _ _ kk).trans h)
  · cases h
end Go.Proofs.Ytihfgpfofmjbaaa

set_option linter.unusedVariables false
set_option linter.unusedSimpArgs false
set_option maxRecDepth 100000
set_option maxHeartbeats 2000000
namespace Go.Proofs.Ytihfgpfofmjbaaa
open Go Ev
def kp130_2fe (i : Nat) : Option (List Nat) := Ev.look i [(200003, [0])]
noncomputable def Gg130_2fe (f189 : YF189) (f : Nat) : Option Ev.Spec := Ev.look f [(189, spg189 f189)]
noncomputable def G130_2fe (fuel : Nat) : Nat → Option Ev.Spec := Gg130_2fe (F_ref02_Interval_End fuel)
noncomputable def J130_2fe (fuel : Nat) (i : Nat) : Option Ev.Blk := Ev.look i []
noncomputable def Fg_ref02_Encoder_End_2fe (fuel : Nat) (f189 : YF189) (x0 x1 x2 : Int) (x3 x4 : (List Int)) (k0 : (Int × Int × Int × (List Int) × (List Int) × (List Int)) → Option Ans) : Option Ans :=
  bif decide (((0 : Nat) + x4.length) * (1 : Nat) ≤ (140737488355328 : Nat) ∧ (0 : Nat) + x4.length ≤ (140737488355328 : Nat)) then
  (f189 (x1) (x2)
  (fun y3 =>
  bif decide ((([] ++ x4).length + y3.length) * (1 : Nat) ≤ (140737488355328 : Nat) ∧ ([] ++ x4).length + y3.length ≤ (140737488355328 : Nat)) then
  k0 (x0, x1, x2, x3, x4, [] ++ x4 ++ y3)
  else none))
  else none
noncomputable def F_ref02_Encoder_End_2fe (fuel : Nat) (x0 x1 x2 : Int) (x3 x4 : (List Int)) (k0 : (Int × Int × Int × (List Int) × (List Int) × (List Int)) → Option Ans) : Option Ans := Fg_ref02_Encoder_End_2fe fuel (F_ref02_Interval_End fuel) x0 x1 x2 x3 x4 k0
abbrev YF130_2fe : Type := (Int) → (Int) → (Int) → ((List Int)) → ((List Int)) → ((Int × Int × Int × (List Int) × (List Int) × (List Int)) → Option Ans) → Option Ans
theorem F130_2fe_eqg (fuel : Nat) (f189 : YF189) (x0 x1 x2 : Int) (x3 x4 : (List Int)) (k : Ev.Cont) : evalFn tab (Gg130_2fe f189) (J130_2fe fuel) kp130_2fe fuel Try.f130 [.c (.ptr 0 0)] [.cells 225 [.int .i64 x0, .own 1, .int .u64 x1, .int .u64 x2, .own 2], .vec 3 (.int .i64) x3 false, .vec 5 (.int .u8) x4 false] k = Fg_ref02_Encoder_End_2fe fuel f189 x0 x1 x2 x3 x4 (fun r => match r with | (r0, r1, r2, r3, r4, r5) => k (.c (.own 3), [.cells 225 [.int .i64 r0, .own 1, .int .u64 r1, .int .u64 r2, .own 2], .vec 3 (.int .i64) r3 false, .vec 5 (.int .u8) r4 false, .vec 5 (.int .u8) r5 true])) := by
  kernel_rfl
theorem F130_2fe_eq (fuel : Nat) (x0 x1 x2 : Int) (x3 x4 : (List Int)) (k : Ev.Cont) : evalFn tab (G130_2fe fuel) (J130_2fe fuel) kp130_2fe fuel Try.f130 [.c (.ptr 0 0)] [.cells 225 [.int .i64 x0, .own 1, .int .u64 x1, .int .u64 x2, .own 2], .vec 3 (.int .i64) x3 false, .vec 5 (.int .u8) x4 false] k = F_ref02_Encoder_End_2fe fuel x0 x1 x2 x3 x4 (fun r => match r with | (r0, r1, r2, r3, r4, r5) => k (.c (.own 3), [.cells 225 [.int .i64 r0, .own 1, .int .u64 r1, .int .u64 r2, .own 2], .vec 3 (.int .i64) r3 false, .vec 5 (.int .u8) r4 false, .vec 5 (.int .u8) r5 true])) :=
  F130_2fe_eqg fuel (F_ref02_Interval_End fuel) x0 x1 x2 x3 x4 k
theorem hG130_2fe (fuel : Nat) : GOK Try.prog (G130_2fe fuel) :=
  gok_cons ⟨ok189 fuel, enters_of Try.func189 (by kernel_rfl) rfl⟩ <|
  gok_nil
theorem fok130_2fe (fuel : Nat) : FnOK Try.prog 130 (evalFn tab (G130_2fe fuel) (J130_2fe fuel) kp130_2fe fuel Try.f130) :=
  fn_ok tab_ok (hG130_2fe fuel) mixed Try.func130 (c := (Try.f130.body).getD .skip) rfl (fun q hq => by
    rw [(by kernel_rfl : obl (J130_2fe fuel) ((Try.f130.body).getD .skip) = [])] at hq
    cases hq)
noncomputable def mt130_2fe : List Ev.SV → List Ev.Ob → Bool := fun args objs => match args, objs with
 | [.c (.ptr q0 q1)], [.cells q2 [.int .i64 _, .own q3, .int .u64 _, .int .u64 _, .own q4], .vec q5 (.int .i64) _ false, .vec q6 (.int .u8) _ false] => Nat.beq q0 0 && Nat.beq q1 0 && Nat.beq q2 225 && Nat.beq q3 1 && Nat.beq q4 2 && Nat.beq q5 3 && Nat.beq q6 5
 | _, _ => false
noncomputable def spg130_2fe (F : YF130_2fe) : Ev.Spec := fun args objs k => match args, objs with
 | [.c (.ptr q0 q1)], [.cells q2 [.int .i64 x0, .own q3, .int .u64 x1, .int .u64 x2, .own q4], .vec q5 (.int .i64) x3 false, .vec q6 (.int .u8) x4 false] => bif Nat.beq q0 0 && Nat.beq q1 0 && Nat.beq q2 225 && Nat.beq q3 1 && Nat.beq q4 2 && Nat.beq q5 3 && Nat.beq q6 5 then F x0 x1 x2 x3 x4 (fun r => match r with | (r0, r1, r2, r3, r4, r5) => k (.c (.own 3), [.cells 225 [.int .i64 r0, .own 1, .int .u64 r1, .int .u64 r2, .own 2], .vec 3 (.int .i64) r3 false, .vec 5 (.int .u8) r4 false, .vec 5 (.int .u8) r5 true])) else none
 | _, _ => none
noncomputable def spec130_2fe (fuel : Nat) : Ev.Spec := spg130_2fe (F_ref02_Encoder_End_2fe fuel)
theorem ok130_2fe (fuel : Nat) : FnOK Try.prog 130 (spec130_2fe fuel) := by
  intro args objs kk r h
  unfold spec130_2fe spg130_2fe at h
  split at h
  · skip
    obtain ⟨hb, h⟩ := cond_some' h
    simp only [Bool.and_eq_true, Nat.beq_eq, decide_eq_true_eq] at hb
    obtain ⟨⟨⟨⟨⟨⟨rfl, rfl⟩, rfl⟩, rfl⟩, rfl⟩, rfl⟩, rfl⟩ := hb
    exact fok130_2fe fuel _ _ kk r ((F130_2fe_eq fuel _ _ _ _ _ kk).trans h)
  · cases h
end Go.Proofs.Ytihfgpfofmjbaaa

set_option linter.unusedVariables false
set_option linter.unusedSimpArgs false
set_option maxRecDepth 100000
set_option maxHeartbeats 2000000
namespace Go.Proofs.Ytihfgpfofmjbaaa
open Go Ev
def kp187_2fe (i : Nat) : Option (List Nat) := Ev.look i []
noncomputable def Gg187_2fe (f117 : YF117) (f : Nat) : Option Ev.Spec := Ev.look f [(117, spg117 f117)]
noncomputable def G187_2fe (fuel : Nat) : Nat → Option Ev.Spec := Gg187_2fe (F_ref02_Copy fuel)
noncomputable def J187_2fe (fuel : Nat) (i : Nat) : Option Ev.Blk := Ev.look i []
noncomputable def Fg_ref02_Encoder_Model_2fe (fuel : Nat) (f117 : YF117) (x0 x1 x2 : Int) (x3 x4 : (List Int)) (k0 : (Int × Int × Int × Int × (List Int) × (List Int) × (List Int)) → Option Ans) : Option Ans :=
  (f117 (x0) (x3)
  (fun (y2_0, y2_1) =>
  k0 (y2_0, x0, x1, x2, x3, x4, y2_1)))
noncomputable def F_ref02_Encoder_Model_2fe (fuel : Nat) (x0 x1 x2 : Int) (x3 x4 : (List Int)) (k0 : (Int × Int × Int × Int × (List Int) × (List Int) × (List Int)) → Option Ans) : Option Ans := Fg_ref02_Encoder_Model_2fe fuel (F_ref02_Copy fuel) x0 x1 x2 x3 x4 k0
abbrev YF187_2fe : Type := (Int) → (Int) → (Int) → ((List Int)) → ((List Int)) → ((Int × Int × Int × Int × (List Int) × (List Int) × (List Int)) → Option Ans) → Option Ans
theorem F187_2fe_eqg (fuel : Nat) (f117 : YF117) (x0 x1 x2 : Int) (x3 x4 : (List Int)) (k : Ev.Cont) : evalFn tab (Gg187_2fe f117) (J187_2fe fuel) kp187_2fe fuel Try.f187 [.c (.ptr 0 0)] [.cells 225 [.int .i64 x0, .own 1, .int .u64 x1, .int .u64 x2, .own 2], .vec 3 (.int .i64) x3 false, .vec 5 (.int .u8) x4 false] k = Fg_ref02_Encoder_Model_2fe fuel f117 x0 x1 x2 x3 x4 (fun r => match r with | (r0, r1, r2, r3, r4, r5, r6) => k (.agg [.int .i64 r0, .own 3], [.cells 225 [.int .i64 r1, .own 1, .int .u64 r2, .int .u64 r3, .own 2], .vec 3 (.int .i64) r4 false, .vec 5 (.int .u8) r5 false, .vec 3 (.int .i64) r6 true])) := by
  kernel_rfl
theorem F187_2fe_eq (fuel : Nat) (x0 x1 x2 : Int) (x3 x4 : (List Int)) (k : Ev.Cont) : evalFn tab (G187_2fe fuel) (J187_2fe fuel) kp187_2fe fuel Try.f187 [.c (.ptr 0 0)] [.cells 225 [.int .i64 x0, .own 1, .int .u64 x1, .int .u64 x2, .own 2], .vec 3 (.int .i64) x3 false, .vec 5 (.int .u8) x4 false] k = F_ref02_Encoder_Model_2fe fuel x0 x1 x2 x3 x4 (fun r => match r with | (r0, r1, r2, r3, r4, r5, r6) => k (.agg [.int .i64 r0, .own 3], [.cells 225 [.int .i64 r1, .own 1, .int .u64 r2, .int .u64 r3, .own 2], .vec 3 (.int .i64) r4 false, .vec 5 (.int .u8) r5 false, .vec 3 (.int .i64) r6 true])) :=
  F187_2fe_eqg fuel (F_ref02_Copy fuel) x0 x1 x2 x3 x4 k
theorem hG187_2fe (fuel : Nat) : GOK Try.prog (G187_2fe fuel) :=
  gok_cons ⟨ok117 fuel, enters_of Try.func117 (by kernel_rfl) rfl⟩ <|
  gok_nil
theorem fok187_2fe (fuel : Nat) : FnOK Try.prog 187 (evalFn tab (G187_2fe fuel) (J187_2fe fuel) kp187_2fe fuel Try.f187) :=
  fn_ok tab_ok (hG187_2fe fuel) mixed Try.func187 (c := (Try.f187.body).getD .skip) rfl (fun q hq => by
    rw [(by kernel_rfl : obl (J187_2fe fuel) ((Try.f187.body).getD .skip) = [])] at hq
    cases hq)
noncomputable def mt187_2fe : List Ev.SV → List Ev.Ob → Bool := fun args objs => match args, objs with
 | [.c (.ptr q0 q1)], [.cells q2 [.int .i64 _, .own q3, .int .u64 _, .int .u64 _, .own q4], .vec q5 (.int .i64) _ false, .vec q6 (.int .u8) _ false] => Nat.beq q0 0 && Nat.beq q1 0 && Nat.beq q2 225 && Nat.beq q3 1 && Nat.beq q4 2 && Nat.beq q5 3 && Nat.beq q6 5
 | _, _ => false
noncomputable def spg187_2fe (F : YF187_2fe) : Ev.Spec := fun args objs k => match args, objs with
 | [.c (.ptr q0 q1)], [.cells q2 [.int .i64 x0, .own q3, .int .u64 x1, .int .u64 x2, .own q4], .vec q5 (.int .i64) x3 false, .vec q6 (.int .u8) x4 false] => bif Nat.beq q0 0 && Nat.beq q1 0 && Nat.beq q2 225 && Nat.beq q3 1 && Nat.beq q4 2 && Nat.beq q5 3 && Nat.beq q6 5 then F x0 x1 x2 x3 x4 (fun r => match r with | (r0, r1, r2, r3, r4, r5, r6) => k (.agg [.int .i64 r0, .own 3], [.cells 225 [.int .i64 r1, .own 1, .int .u64 r2, .int .u64 r3, .own 2], .vec 3 (.int .i64) r4 false, .vec 5 (.int .u8) r5 false, .vec 3 (.int .i64) r6 true])) else none
 | _, _ => none
noncomputable def spec187_2fe (fuel : Nat) : Ev.Spec := spg187_2fe (F_ref02_Encoder_Model_2fe fuel)
theorem ok187_2fe (fuel : Nat) : FnOK Try.prog 187 (spec187_2fe fuel) := by
  intro args objs kk r h
  unfold spec187_2fe spg187_2fe at h
  split at h
  · skip
    obtain ⟨hb, h⟩ := cond_some' h
    simp only [Bool.and_eq_true, Nat.beq_eq, decide_eq_true_eq] at hb
    obtain ⟨⟨⟨⟨⟨⟨rfl, rfl⟩, rfl⟩, rfl⟩, rfl⟩, rfl⟩, rfl⟩ := hb
    exact fok187_2fe fuel _ _ kk r ((F187_2fe_eq fuel _ _ _ _ _ kk).trans h)
  · cases h
end Go.Proofs.Ytihfgpfofmjbaaa

set_option linter.unusedVariables false
set_option linter.unusedSimpArgs false
set_option maxRecDepth 100000
set_option maxHeartbeats 2000000
namespace Go.Proofs.Ytihfgpfofmjbaaa
open Go Ev
def kp128 (i : Nat) : Option (List Nat) := Ev.look i [(600000, [])]
noncomputable def Gg128 (f116 : YF116) (f117 : YF117) (f118 : YF118) (f : Nat) : Option Ev.Spec := Ev.look f [(116, spg116 f116), (117, spg117 f117), (118, spg118 f118)]
noncomputable def G128 (fuel : Nat) : Nat → Option Ev.Spec := Gg128 (F_ref02_Valid fuel) (F_ref02_Copy fuel) (F_ref02_Whole fuel)
noncomputable def J128 (fuel : Nat) (i : Nat) : Option Ev.Blk := Ev.look i []
noncomputable def Fg_ref02_NewEncoder (fuel : Nat) (f116 : YF116) (f117 : YF117) (f118 : YF118) (x0 : Int) (x1 : (List Int)) (k0 : (Int) → Option Ans) (k1 : (Int × Int × Int × Int × (List Int) × (List Int)) → Option Ans) : Option Ans :=
  (f116 (x0) (x1)
  (fun y2 =>
  bif !y2 then
  k0 ((10 : Int))
  else
  (f117 (x0) (x1)
  (fun (y7_0, y7_1) =>
  (f118
  (fun (y11_0, y11_1) =>
  k1 ((0 : Int), y7_0, y11_0, y11_1, y7_1, [])))))))
noncomputable def F_ref02_NewEncoder (fuel : Nat) (x0 : Int) (x1 : (List Int)) (k0 : (Int) → Option Ans) (k1 : (Int × Int × Int × Int × (List Int) × (List Int)) → Option Ans) : Option Ans := Fg_ref02_NewEncoder fuel (F_ref02_Valid fuel) (F_ref02_Copy fuel) (F_ref02_Whole fuel) x0 x1 k0 k1
abbrev YF128 : Type := (Int) → ((List Int)) → ((Int) → Option Ans) → ((Int × Int × Int × Int × (List Int) × (List Int)) → Option Ans) → Option Ans
theorem F128_eqg (fuel : Nat) (f116 : YF116) (f117 : YF117) (f118 : YF118) (x0 : Int) (x1 : (List Int)) (k : Ev.Cont) : evalFn tab (Gg128 f116 f117 f118) (J128 fuel) kp128 fuel Try.f128 [.agg [.int .i64 x0, .sl (.int .i64) x1]] [] k = Fg_ref02_NewEncoder fuel f116 f117 f118 x0 x1 (fun r => match r with | r0 => k (.tup [(false, [.nilptr]), (false, [.int .i64 r0])], [])) (fun r => match r with | (r0, r1, r2, r3, r4, r5) => k (.tup [(false, [.ptr 0 0]), (false, [.int .i64 r0])], [.cells 225 [.int .i64 r1, .own 1, .int .u64 r2, .int .u64 r3, .own 2], .vec 3 (.int .i64) r4 true, .vec 5 (.int .u8) r5 true])) := by
  kernel_rfl
theorem F128_eq (fuel : Nat) (x0 : Int) (x1 : (List Int)) (k : Ev.Cont) : evalFn tab (G128 fuel) (J128 fuel) kp128 fuel Try.f128 [.agg [.int .i64 x0, .sl (.int .i64) x1]] [] k = F_ref02_NewEncoder fuel x0 x1 (fun r => match r with | r0 => k (.tup [(false, [.nilptr]), (false, [.int .i64 r0])], [])) (fun r => match r with | (r0, r1, r2, r3, r4, r5) => k (.tup [(false, [.ptr 0 0]), (false, [.int .i64 r0])], [.cells 225 [.int .i64 r1, .own 1, .int .u64 r2, .int .u64 r3, .own 2], .vec 3 (.int .i64) r4 true, .vec 5 (.int .u8) r5 true])) :=
  F128_eqg fuel (F_ref02_Valid fuel) (F_ref02_Copy fuel) (F_ref02_Whole fuel) x0 x1 k
theorem hG128 (fuel : Nat) : GOK Try.prog (G128 fuel) :=
  gok_cons ⟨ok116 fuel, enters_of Try.func116 (by kernel_rfl) rfl⟩ <|
  gok_cons ⟨ok117 fuel, enters_of Try.func117 (by kernel_rfl) rfl⟩ <|
  gok_cons ⟨ok118 fuel, enters_of Try.func118 (by kernel_rfl) rfl⟩ <|
  gok_nil
theorem fok128 (fuel : Nat) : FnOK Try.prog 128 (evalFn tab (G128 fuel) (J128 fuel) kp128 fuel Try.f128) :=
  fn_ok tab_ok (hG128 fuel) mixed Try.func128 (c := (Try.f128.body).getD .skip) rfl (fun q hq => by
    rw [(by kernel_rfl : obl (J128 fuel) ((Try.f128.body).getD .skip) = [])] at hq
    cases hq)
noncomputable def mt128 : List Ev.SV → List Ev.Ob → Bool := fun args objs => match args, objs with
 | [.agg [.int .i64 _, .sl (.int .i64) _]], [] => true
 | _, _ => false
noncomputable def spg128 (F : YF128) : Ev.Spec := fun args objs k => match args, objs with
 | [.agg [.int .i64 x0, .sl (.int .i64) x1]], [] => bif true then F x0 x1 (fun r => match r with | r0 => k (.tup [(false, [.nilptr]), (false, [.int .i64 r0])], [])) (fun r => match r with | (r0, r1, r2, r3, r4, r5) => k (.tup [(false, [.ptr 0 0]), (false, [.int .i64 r0])], [.cells 225 [.int .i64 r1, .own 1, .int .u64 r2, .int .u64 r3, .own 2], .vec 3 (.int .i64) r4 true, .vec 5 (.int .u8) r5 true])) else none
 | _, _ => none
noncomputable def spec128 (fuel : Nat) : Ev.Spec := spg128 (F_ref02_NewEncoder fuel)
theorem ok128 (fuel : Nat) : FnOK Try.prog 128 (spec128 fuel) := by
  intro args objs kk r h
  unfold spec128 spg128 at h
  split at h
  · skip
    obtain ⟨hb, h⟩ := cond_some' h
    simp only [Bool.and_eq_true, Nat.beq_eq, decide_eq_true_eq] at hb
    clear hb
    exact fok128 fuel _ _ kk r ((F128_eq fuel _ _ kk).trans h)
  · cases h
end Go.Proofs.Ytihfgpfofmjbaaa

set_option linter.unusedVariables false
set_option linter.unusedSimpArgs false
set_option maxRecDepth 100000
set_option maxHeartbeats 2000000
namespace Go.Proofs.Ytihfgpfofmjbaaa
open Go Ev
def kp129_6c1 (i : Nat) : Option (List Nat) := Ev.look i [(6, [0, 1, 7, 8, 9, 11]), (9, [0, 1, 7, 8, 9, 11, 12]), (18, [0, 1, 7, 8, 9, 14, 16, 1000002]), (27, [0, 1, 7, 8, 9, 14, 16, 18]), (100000, [0, 1, 7, 8, 9]), (100002, [0, 1, 7, 8, 9, 11]), (100004, []), (100006, [0, 1, 7, 8, 9, 14, 16]), (200013, [7, 8, 9]), (200022, [8, 9]), (200030, [7, 8]), (400000, [10]), (400002, [10]), (400004, [10]), (400006, [10]), (600000, [])]
noncomputable def Gg129_6c1 (f86 : YF86) (f109 : YF109) (f120 : YF120) (f122 : YF122) (f124 : YF124) (f125 : YF125) (f126 : YF126) (f187_2fe : YF187_2fe) (f188_e89 : YF188_e89) (f : Nat) : Option Ev.Spec := Ev.look f [(86, spg86 f86), (109, spg109 f109), (120, spg120 f120), (122, spg122 f122), (124, spg124 f124), (125, spg125 f125), (126, spg126 f126), (187, spg187_2fe f187_2fe), (188, spg188_e89 f188_e89)]
noncomputable def G129_6c1 (fuel : Nat) : Nat → Option Ev.Spec := Gg129_6c1 (F_ref05_Valid fuel) (F_ref07_Valid fuel) (F_ref07_room fuel) (F_ref07_Size fuel) (F_ref07_typical fuel) (F_ref05_At fuel) (F_ref07_context fuel) (F_ref02_Encoder_Model_2fe fuel) (F_ref02_Encoder_Put_e89 fuel)
noncomputable def Sg_ref07_Put_6c1_2 (fuel : Nat) (f86 : YF86) (f109 : YF109) (f120 : YF120) (f122 : YF122) (f124 : YF124) (f125 : YF125) (f126 : YF126) (f187_2fe : YF187_2fe) (f188_e89 : YF188_e89) (x0 x1 : Int) (x2 x3 : Int) (x4 x5 : Int) (x6 x7 : (List Int)) (x8 x9 x10 : Int) (x11 : Bool) (x12 x13 x14 : Int) (x15 : (List Int)) (x16 x17 : Int) (x18 : (List Int)) (c : (Int × Int × Int × Int × Int × Int × (List Int) × (List Int) × Int × Int × Int × Bool × Int × Int × Int × (List Int) × Int × Int × (List Int)) → Option Ans) (B : (Int × Int × Int × Int × (List Int) × (List Int) → Option Ans) × (Int × Int × Int × Int × Int × (List Int) × (List Int) × Int × Int × Int × Bool × Int × Int × Int × (List Int) × Int × Int × (List Int) → Option Ans)) : Option Ans := match B with
 | (ret, b) =>
  bif decide (x2 < x13) then
  (f125 (x13) (x14) (x15) (x2) (x1)
  (fun y3 =>
  bif y3 == (1 : Int) then
  (f125 (x16) (x17) (x18) (x2) (x1)
  (fun y8 =>
  bif y8 == (1 : Int) then
  ret ((30 : Int), x3, x4, x5, x6, x7)
  else
  c (x0, x1, IntKind.i64.wrap (x2 + (1 : Int)), x3, x4, x5, x6, x7, x8, x9, x10, x11, x12, x13, x14, x15, x16, x17, x18)))
  else
  c (x0, x1, IntKind.i64.wrap (x2 + (1 : Int)), x3, x4, x5, x6, x7, x8, x9, x10, x11, x12, x13, x14, x15, x16, x17, x18)))
  else
  b (x0, x1, x3, x4, x5, x6, x7, x8, x9, x10, x11, x12, x13, x14, x15, x16, x17, x18)
noncomputable def S_ref07_Put_6c1_2 (fuel : Nat) (v : Int × Int × Int × Int × Int × Int × (List Int) × (List Int) × Int × Int × Int × Bool × Int × Int × Int × (List Int) × Int × Int × (List Int)) (c : (Int × Int × Int × Int × Int × Int × (List Int) × (List Int) × Int × Int × Int × Bool × Int × Int × Int × (List Int) × Int × Int × (List Int)) → Option Ans) (B : (Int × Int × Int × Int × (List Int) × (List Int) → Option Ans) × (Int × Int × Int × Int × Int × (List Int) × (List Int) × Int × Int × Int × Bool × Int × Int × Int × (List Int) × Int × Int × (List Int) → Option Ans)) : Option Ans := match v with
 | (x0, x1, x2, x3, x4, x5, x6, x7, x8, x9, x10, x11, x12, x13, x14, x15, x16, x17, x18) => Sg_ref07_Put_6c1_2 fuel (F_ref05_Valid fuel) (F_ref07_Valid fuel) (F_ref07_room fuel) (F_ref07_Size fuel) (F_ref07_typical fuel) (F_ref05_At fuel) (F_ref07_context fuel) (F_ref02_Encoder_Model_2fe fuel) (F_ref02_Encoder_Put_e89 fuel) x0 x1 x2 x3 x4 x5 x6 x7 x8 x9 x10 x11 x12 x13 x14 x15 x16 x17 x18 c B
noncomputable def L_ref07_Put_6c1_2 (fuel : Nat) (v : Int × Int × Int × Int × Int × Int × (List Int) × (List Int) × Int × Int × Int × Bool × Int × Int × Int × (List Int) × Int × Int × (List Int)) (ret : (Int × Int × Int × Int × (List Int) × (List Int) → Option Ans)) (b : (Int × Int × Int × Int × Int × (List Int) × (List Int) × Int × Int × Int × Bool × Int × Int × Int × (List Int) × Int × Int × (List Int) → Option Ans)) : Option Ans := iter (S_ref07_Put_6c1_2 fuel) fuel v (ret, b)
noncomputable def J129_6c1_2 (fuel : Nat) (i : Nat) : Option Ev.Blk := Ev.look i []
noncomputable def T129_6c1_2 (v : Int × Int × Int × Int × Int × Int × (List Int) × (List Int) × Int × Int × Int × Bool × Int × Int × Int × (List Int) × Int × Int × (List Int)) : Ev.St := match v with | (x0, x1, x2, x3, x4, x5, x6, x7, x8, x9, x10, x11, x12, x13, x14, x15, x16, x17, x18) => ⟨[(0, .c (.ptr 0 0)), (1, .c (.int .i64 x0)), (7, .c (.ptr 3 0)), (8, .c (.ptr 4 0)), (9, .c (.ptr 5 0)), (11, .c (.int .i64 x1)), (12, .c (.int .i64 x2))], [(0, .cells 225 [.int .i64 x3, .own 1, .int .u64 x4, .int .u64 x5, .own 2]), (1, .vec 3 (.int .i64) x6 false), (2, .vec 5 (.int .u8) x7 false), (3, .cells 46 [.int .i64 x8, .int .i64 x9, .int .i64 x10, .bool x11, .int .i64 x12]), (4, .cells 39 [.int .i64 x13, .int .i64 x14, .sl (.int .u8) x15]), (5, .cells 39 [.int .i64 x16, .int .i64 x17, .sl (.int .u8) x18])], 6, 3⟩
noncomputable def E129_6c1_2 (K : Ev.Ex → Ev.St → Option Ans) : (Int × Int × Int × Int × (List Int) × (List Int) → Option Ans) × (Int × Int × Int × Int × Int × (List Int) × (List Int) × Int × Int × Int × Bool × Int × Int × Int × (List Int) × Int × Int × (List Int) → Option Ans) := ((fun v => match v with | (x0, x1, x2, x3, x4, x5) => K .ret ⟨[(10, .c (.int .i64 x0))], [(0, .cells 225 [.int .i64 x1, .own 1, .int .u64 x2, .int .u64 x3, .own 2]), (1, .vec 3 (.int .i64) x4 false), (2, .vec 5 (.int .u8) x5 false)], 3, 3⟩), (fun v => match v with | (x0, x1, x2, x3, x4, x5, x6, x7, x8, x9, x10, x11, x12, x13, x14, x15, x16, x17) => K .normal ⟨[(0, .c (.ptr 0 0)), (1, .c (.int .i64 x0)), (7, .c (.ptr 3 0)), (8, .c (.ptr 4 0)), (9, .c (.ptr 5 0)), (11, .c (.int .i64 x1))], [(0, .cells 225 [.int .i64 x2, .own 1, .int .u64 x3, .int .u64 x4, .own 2]), (1, .vec 3 (.int .i64) x5 false), (2, .vec 5 (.int .u8) x6 false), (3, .cells 46 [.int .i64 x7, .int .i64 x8, .int .i64 x9, .bool x10, .int .i64 x11]), (4, .cells 39 [.int .i64 x12, .int .i64 x13, .sl (.int .u8) x14]), (5, .cells 39 [.int .i64 x15, .int .i64 x16, .sl (.int .u8) x17])], 6, 3⟩))
theorem S129_6c1_2_okg (fuel : Nat) (f86 : YF86) (f109 : YF109) (f120 : YF120) (f122 : YF122) (f124 : YF124) (f125 : YF125) (f126 : YF126) (f187_2fe : YF187_2fe) (f188_e89 : YF188_e89) (R : Ev.St → Option Ans) (K : Ev.Ex → Ev.St → Option Ans) (x0 x1 : Int) (x2 x3 : Int) (x4 x5 : Int) (x6 x7 : (List Int)) (x8 x9 x10 : Int) (x11 : Bool) (x12 x13 x14 : Int) (x15 : (List Int)) (x16 x17 : Int) (x18 : (List Int)) : evalCode tab (Gg129_6c1 f86 f109 f120 f122 f124 f125 f126 f187_2fe f188_e89) (J129_6c1_2 fuel) kp129_6c1 fuel (bodyOf 2 Try.f129) (T129_6c1_2 (x0, x1, x2, x3, x4, x5, x6, x7, x8, x9, x10, x11, x12, x13, x14, x15, x16, x17, x18)) (lc kp129_6c1 9 2 R K) = Sg_ref07_Put_6c1_2 fuel f86 f109 f120 f122 f124 f125 f126 f187_2fe f188_e89 x0 x1 x2 x3 x4 x5 x6 x7 x8 x9 x10 x11 x12 x13 x14 x15 x16 x17 x18 (fun v => R (T129_6c1_2 v)) (E129_6c1_2 K) := by
  kernel_rfl
theorem S129_6c1_2_ok (fuel : Nat) (R : Ev.St → Option Ans) (K : Ev.Ex → Ev.St → Option Ans) (x0 x1 : Int) (x2 x3 : Int) (x4 x5 : Int) (x6 x7 : (List Int)) (x8 x9 x10 : Int) (x11 : Bool) (x12 x13 x14 : Int) (x15 : (List Int)) (x16 x17 : Int) (x18 : (List Int)) : evalCode tab (G129_6c1 fuel) (J129_6c1_2 fuel) kp129_6c1 fuel (bodyOf 2 Try.f129) (T129_6c1_2 (x0, x1, x2, x3, x4, x5, x6, x7, x8, x9, x10, x11, x12, x13, x14, x15, x16, x17, x18)) (lc kp129_6c1 9 2 R K) = S_ref07_Put_6c1_2 fuel (x0, x1, x2, x3, x4, x5, x6, x7, x8, x9, x10, x11, x12, x13, x14, x15, x16, x17, x18) (fun v => R (T129_6c1_2 v)) (E129_6c1_2 K) :=
  S129_6c1_2_okg fuel (F_ref05_Valid fuel) (F_ref07_Valid fuel) (F_ref07_room fuel) (F_ref07_Size fuel) (F_ref07_typical fuel) (F_ref05_At fuel) (F_ref07_context fuel) (F_ref02_Encoder_Model_2fe fuel) (F_ref02_Encoder_Put_e89 fuel) R K x0 x1 x2 x3 x4 x5 x6 x7 x8 x9 x10 x11 x12 x13 x14 x15 x16 x17 x18
noncomputable def B129_6c1_2 (fuel : Nat) : Ev.Blk := fun st K => match canonO (kp129_6c1 9) st with
 | some s => (match s with
 | ⟨[(q0, .c (.ptr q1 q2)), (q3, .c (.int .i64 x0)), (q4, .c (.ptr q5 q6)), (q7, .c (.ptr q8 q9)), (q10, .c (.ptr q11 q12)), (q13, .c (.int .i64 x1)), (q14, .c (.int .i64 x2))], [(q15, .cells q16 [.int .i64 x3, .own q17, .int .u64 x4, .int .u64 x5, .own q18]), (q19, .vec q20 (.int .i64) x6 false), (q21, .vec q22 (.int .u8) x7 false), (q23, .cells q24 [.int .i64 x8, .int .i64 x9, .int .i64 x10, .bool x11, .int .i64 x12]), (q25, .cells q26 [.int .i64 x13, .int .i64 x14, .sl (.int .u8) x15]), (q27, .cells q28 [.int .i64 x16, .int .i64 x17, .sl (.int .u8) x18])], q29, q30⟩ => bif Nat.beq q0 0 && Nat.beq q1 0 && Nat.beq q2 0 && Nat.beq q3 1 && Nat.beq q4 7 && Nat.beq q5 3 && Nat.beq q6 0 && Nat.beq q7 8 && Nat.beq q8 4 && Nat.beq q9 0 && Nat.beq q10 9 && Nat.beq q11 5 && Nat.beq q12 0 && Nat.beq q13 11 && Nat.beq q14 12 && Nat.beq q15 0 && Nat.beq q16 225 && Nat.beq q17 1 && Nat.beq q18 2 && Nat.beq q19 1 && Nat.beq q20 3 && Nat.beq q21 2 && Nat.beq q22 5 && Nat.beq q23 3 && Nat.beq q24 46 && Nat.beq q25 4 && Nat.beq q26 39 && Nat.beq q27 5 && Nat.beq q28 39 && Nat.beq q29 6 && Nat.beq q30 3 then iter (S_ref07_Put_6c1_2 fuel) fuel (x0, x1, x2, x3, x4, x5, x6, x7, x8, x9, x10, x11, x12, x13, x14, x15, x16, x17, x18) (E129_6c1_2 K) else none
 | _ => none)
 | none => none
theorem B129_6c1_2_ok (fuel : Nat) (st : Ev.St) (K : Ev.Ex → Ev.St → Option Ans) (r : Ans) (h : B129_6c1_2 fuel st K = some r) : evalCode tab (G129_6c1 fuel) (J129_6c1_2 fuel) kp129_6c1 fuel (.block 2 (.loop (bodyOf 2 Try.f129))) st K = some r := by
  unfold B129_6c1_2 at h
  split at h
  · rename_i s hs
    split at h
    · skip
      obtain ⟨hb, h⟩ := cond_some' h
      simp only [Bool.and_eq_true, Nat.beq_eq, decide_eq_true_eq] at hb
      obtain ⟨⟨⟨⟨⟨⟨⟨⟨⟨⟨⟨⟨⟨⟨⟨⟨⟨⟨⟨⟨⟨⟨⟨⟨⟨⟨⟨⟨⟨⟨rfl, rfl⟩, rfl⟩, rfl⟩, rfl⟩, rfl⟩, rfl⟩, rfl⟩, rfl⟩, rfl⟩, rfl⟩, rfl⟩, rfl⟩, rfl⟩, rfl⟩, rfl⟩, rfl⟩, rfl⟩, rfl⟩, rfl⟩, rfl⟩, rfl⟩, rfl⟩, rfl⟩, rfl⟩, rfl⟩, rfl⟩, rfl⟩, rfl⟩, rfl⟩, rfl⟩ := hb
      exact blk_loop (S := T129_6c1_2) (ks := E129_6c1_2) (step := S_ref07_Put_6c1_2 fuel) (v := (_, _, _, _, _, _, _, _, _, _, _, _, _, _, _, _, _, _, _)) (by kernel_rfl) (by kernel_rfl) (fun R K v => by obtain ⟨x0, x1, x2, x3, x4, x5, x6, x7, x8, x9, x10, x11, x12, x13, x14, x15, x16, x17, x18⟩ := v; exact S129_6c1_2_ok fuel R K x0 x1 x2 x3 x4 x5 x6 x7 x8 x9 x10 x11 x12 x13 x14 x15 x16 x17 x18) hs h
    · cases h
  · cases h
noncomputable def Sg_ref07_Put_6c1_0 (fuel : Nat) (f86 : YF86) (f109 : YF109) (f120 : YF120) (f122 : YF122) (f124 : YF124) (f125 : YF125) (f126 : YF126) (f187_2fe : YF187_2fe) (f188_e89 : YF188_e89) (x0 x1 : Int) (x2 x3 x4 : Int) (x5 x6 : (List Int)) (x7 x8 x9 : Int) (x10 : Bool) (x11 x12 x13 : Int) (x14 : (List Int)) (x15 x16 : Int) (x17 : (List Int)) (c : (Int × Int × Int × Int × Int × (List Int) × (List Int) × Int × Int × Int × Bool × Int × Int × Int × (List Int) × Int × Int × (List Int)) → Option Ans) (B : (Int × Int × Int × Int × (List Int) × (List Int) → Option Ans) × (Int × Int × Int × Int × (List Int) × (List Int) × Int × Int × Int × Bool × Int × Int × Int × (List Int) × Int × Int × (List Int) → Option Ans)) : Option Ans := match B with
 | (ret, b) =>
  bif decide (x1 < x13) then
  bif x12 == x15 then
  bif x13 == x16 then
  (L_ref07_Put_6c1_2 fuel (x0, x1, (0 : Int), x2, x3, x4, x5, x6, x7, x8, x9, x10, x11, x12, x13, x14, x15, x16, x17)
  (fun (ret2_0, ret2_1, ret2_2, ret2_3, ret2_4, ret2_5) =>
  ret (ret2_0, ret2_1, ret2_2, ret2_3, ret2_4, ret2_5))
  (fun (b2_0, b2_1, b2_2, b2_3, b2_4, b2_5, b2_6, b2_7, b2_8, b2_9, b2_10, b2_11, b2_12, b2_13, b2_14, b2_15, b2_16, b2_17) =>
  c (b2_0, IntKind.i64.wrap (b2_1 + (1 : Int)), b2_2, b2_3, b2_4, b2_5, b2_6, b2_7, b2_8, b2_9, b2_10, b2_11, b2_12, b2_13, b2_14, b2_15, b2_16, b2_17)))
  else
  b (x0, x2, x3, x4, x5, x6, x7, x8, x9, x10, x11, x12, x13, x14, x15, x16, x17)
  else
  b (x0, x2, x3, x4, x5, x6, x7, x8, x9, x10, x11, x12, x13, x14, x15, x16, x17)
  else
  b (x0, x2, x3, x4, x5, x6, x7, x8, x9, x10, x11, x12, x13, x14, x15, x16, x17)
noncomputable def S_ref07_Put_6c1_0 (fuel : Nat) (v : Int × Int × Int × Int × Int × (List Int) × (List Int) × Int × Int × Int × Bool × Int × Int × Int × (List Int) × Int × Int × (List Int)) (c : (Int × Int × Int × Int × Int × (List Int) × (List Int) × Int × Int × Int × Bool × Int × Int × Int × (List Int) × Int × Int × (List Int)) → Option Ans) (B : (Int × Int × Int × Int × (List Int) × (List Int) → Option Ans) × (Int × Int × Int × Int × (List Int) × (List Int) × Int × Int × Int × Bool × Int × Int × Int × (List Int) × Int × Int × (List Int) → Option Ans)) : Option Ans := match v with
 | (x0, x1, x2, x3, x4, x5, x6, x7, x8, x9, x10, x11, x12, x13, x14, x15, x16, x17) => Sg_ref07_Put_6c1_0 fuel (F_ref05_Valid fuel) (F_ref07_Valid fuel) (F_ref07_room fuel) (F_ref07_Size fuel) (F_ref07_typical fuel) (F_ref05_At fuel) (F_ref07_context fuel) (F_ref02_Encoder_Model_2fe fuel) (F_ref02_Encoder_Put_e89 fuel) x0 x1 x2 x3 x4 x5 x6 x7 x8 x9 x10 x11 x12 x13 x14 x15 x16 x17 c B
noncomputable def L_ref07_Put_6c1_0 (fuel : Nat) (v : Int × Int × Int × Int × Int × (List Int) × (List Int) × Int × Int × Int × Bool × Int × Int × Int × (List Int) × Int × Int × (List Int)) (ret : (Int × Int × Int × Int × (List Int) × (List Int) → Option Ans)) (b : (Int × Int × Int × Int × (List Int) × (List Int) × Int × Int × Int × Bool × Int × Int × Int × (List Int) × Int × Int × (List Int) → Option Ans)) : Option Ans := iter (S_ref07_Put_6c1_0 fuel) fuel v (ret, b)
noncomputable def J129_6c1_0 (fuel : Nat) (i : Nat) : Option Ev.Blk := Ev.look i [(100002, B129_6c1_2 fuel)]
noncomputable def T129_6c1_0 (v : Int × Int × Int × Int × Int × (List Int) × (List Int) × Int × Int × Int × Bool × Int × Int × Int × (List Int) × Int × Int × (List Int)) : Ev.St := match v with | (x0, x1, x2, x3, x4, x5, x6, x7, x8, x9, x10, x11, x12, x13, x14, x15, x16, x17) => ⟨[(0, .c (.ptr 0 0)), (1, .c (.int .i64 x0)), (7, .c (.ptr 3 0)), (8, .c (.ptr 4 0)), (9, .c (.ptr 5 0)), (11, .c (.int .i64 x1))], [(0, .cells 225 [.int .i64 x2, .own 1, .int .u64 x3, .int .u64 x4, .own 2]), (1, .vec 3 (.int .i64) x5 false), (2, .vec 5 (.int .u8) x6 false), (3, .cells 46 [.int .i64 x7, .int .i64 x8, .int .i64 x9, .bool x10, .int .i64 x11]), (4, .cells 39 [.int .i64 x12, .int .i64 x13, .sl (.int .u8) x14]), (5, .cells 39 [.int .i64 x15, .int .i64 x16, .sl (.int .u8) x17])], 6, 3⟩
noncomputable def E129_6c1_0 (K : Ev.Ex → Ev.St → Option Ans) : (Int × Int × Int × Int × (List Int) × (List Int) → Option Ans) × (Int × Int × Int × Int × (List Int) × (List Int) × Int × Int × Int × Bool × Int × Int × Int × (List Int) × Int × Int × (List Int) → Option Ans) := ((fun v => match v with | (x0, x1, x2, x3, x4, x5) => K .ret ⟨[(10, .c (.int .i64 x0))], [(0, .cells 225 [.int .i64 x1, .own 1, .int .u64 x2, .int .u64 x3, .own 2]), (1, .vec 3 (.int .i64) x4 false), (2, .vec 5 (.int .u8) x5 false)], 3, 3⟩), (fun v => match v with | (x0, x1, x2, x3, x4, x5, x6, x7, x8, x9, x10, x11, x12, x13, x14, x15, x16) => K .normal ⟨[(0, .c (.ptr 0 0)), (1, .c (.int .i64 x0)), (7, .c (.ptr 3 0)), (8, .c (.ptr 4 0)), (9, .c (.ptr 5 0))], [(0, .cells 225 [.int .i64 x1, .own 1, .int .u64 x2, .int .u64 x3, .own 2]), (1, .vec 3 (.int .i64) x4 false), (2, .vec 5 (.int .u8) x5 false), (3, .cells 46 [.int .i64 x6, .int .i64 x7, .int .i64 x8, .bool x9, .int .i64 x10]), (4, .cells 39 [.int .i64 x11, .int .i64 x12, .sl (.int .u8) x13]), (5, .cells 39 [.int .i64 x14, .int .i64 x15, .sl (.int .u8) x16])], 6, 3⟩))
theorem S129_6c1_0_okg (fuel : Nat) (f86 : YF86) (f109 : YF109) (f120 : YF120) (f122 : YF122) (f124 : YF124) (f125 : YF125) (f126 : YF126) (f187_2fe : YF187_2fe) (f188_e89 : YF188_e89) (R : Ev.St → Option Ans) (K : Ev.Ex → Ev.St → Option Ans) (x0 x1 : Int) (x2 x3 x4 : Int) (x5 x6 : (List Int)) (x7 x8 x9 : Int) (x10 : Bool) (x11 x12 x13 : Int) (x14 : (List Int)) (x15 x16 : Int) (x17 : (List Int)) : evalCode tab (Gg129_6c1 f86 f109 f120 f122 f124 f125 f126 f187_2fe f188_e89) (J129_6c1_0 fuel) kp129_6c1 fuel (bodyOf 0 Try.f129) (T129_6c1_0 (x0, x1, x2, x3, x4, x5, x6, x7, x8, x9, x10, x11, x12, x13, x14, x15, x16, x17)) (lc kp129_6c1 6 0 R K) = Sg_ref07_Put_6c1_0 fuel f86 f109 f120 f122 f124 f125 f126 f187_2fe f188_e89 x0 x1 x2 x3 x4 x5 x6 x7 x8 x9 x10 x11 x12 x13 x14 x15 x16 x17 (fun v => R (T129_6c1_0 v)) (E129_6c1_0 K) := by
  kernel_rfl
theorem S129_6c1_0_ok (fuel : Nat) (R : Ev.St → Option Ans) (K : Ev.Ex → Ev.St → Option Ans) (x0 x1 : Int) (x2 x3 x4 : Int) (x5 x6 : (List Int)) (x7 x8 x9 : Int) (x10 : Bool) (x11 x12 x13 : Int) (x14 : (List Int)) (x15 x16 : Int) (x17 : (List Int)) : evalCode tab (G129_6c1 fuel) (J129_6c1_0 fuel) kp129_6c1 fuel (bodyOf 0 Try.f129) (T129_6c1_0 (x0, x1, x2, x3, x4, x5, x6, x7, x8, x9, x10, x11, x12, x13, x14, x15, x16, x17)) (lc kp129_6c1 6 0 R K) = S_ref07_Put_6c1_0 fuel (x0, x1, x2, x3, x4, x5, x6, x7, x8, x9, x10, x11, x12, x13, x14, x15, x16, x17) (fun v => R (T129_6c1_0 v)) (E129_6c1_0 K) :=
  S129_6c1_0_okg fuel (F_ref05_Valid fuel) (F_ref07_Valid fuel) (F_ref07_room fuel) (F_ref07_Size fuel) (F_ref07_typical fuel) (F_ref05_At fuel) (F_ref07_context fuel) (F_ref02_Encoder_Model_2fe fuel) (F_ref02_Encoder_Put_e89 fuel) R K x0 x1 x2 x3 x4 x5 x6 x7 x8 x9 x10 x11 x12 x13 x14 x15 x16 x17
noncomputable def B129_6c1_0 (fuel : Nat) : Ev.Blk := fun st K => match canonO (kp129_6c1 6) st with
 | some s => (match s with
 | ⟨[(q0, .c (.ptr q1 q2)), (q3, .c (.int .i64 x0)), (q4, .c (.ptr q5 q6)), (q7, .c (.ptr q8 q9)), (q10, .c (.ptr q11 q12)), (q13, .c (.int .i64 x1))], [(q14, .cells q15 [.int .i64 x2, .own q16, .int .u64 x3, .int .u64 x4, .own q17]), (q18, .vec q19 (.int .i64) x5 false), (q20, .vec q21 (.int .u8) x6 false), (q22, .cells q23 [.int .i64 x7, .int .i64 x8, .int .i64 x9, .bool x10, .int .i64 x11]), (q24, .cells q25 [.int .i64 x12, .int .i64 x13, .sl (.int .u8) x14]), (q26, .cells q27 [.int .i64 x15, .int .i64 x16, .sl (.int .u8) x17])], q28, q29⟩ => bif Nat.beq q0 0 && Nat.beq q1 0 && Nat.beq q2 0 && Nat.beq q3 1 && Nat.beq q4 7 && Nat.beq q5 3 && Nat.beq q6 0 && Nat.beq q7 8 && Nat.beq q8 4 && Nat.beq q9 0 && Nat.beq q10 9 && Nat.beq q11 5 && Nat.beq q12 0 && Nat.beq q13 11 && Nat.beq q14 0 && Nat.beq q15 225 && Nat.beq q16 1 && Nat.beq q17 2 && Nat.beq q18 1 && Nat.beq q19 3 && Nat.beq q20 2 && Nat.beq q21 5 && Nat.beq q22 3 && Nat.beq q23 46 && Nat.beq q24 4 && Nat.beq q25 39 && Nat.beq q26 5 && Nat.beq q27 39 && Nat.beq q28 6 && Nat.beq q29 3 then iter (S_ref07_Put_6c1_0 fuel) fuel (x0, x1, x2, x3, x4, x5, x6, x7, x8, x9, x10, x11, x12, x13, x14, x15, x16, x17) (E129_6c1_0 K) else none
 | _ => none)
 | none => none
theorem B129_6c1_0_ok (fuel : Nat) (st : Ev.St) (K : Ev.Ex → Ev.St → Option Ans) (r : Ans) (h : B129_6c1_0 fuel st K = some r) : evalCode tab (G129_6c1 fuel) (J129_6c1_0 fuel) kp129_6c1 fuel (.block 0 (.loop (bodyOf 0 Try.f129))) st K = some r := by
  unfold B129_6c1_0 at h
  split at h
  · rename_i s hs
    split at h
    · skip
      obtain ⟨hb, h⟩ := cond_some' h
      simp only [Bool.and_eq_true, Nat.beq_eq, decide_eq_true_eq] at hb
      obtain ⟨⟨⟨⟨⟨⟨⟨⟨⟨⟨⟨⟨⟨⟨⟨⟨⟨⟨⟨⟨⟨⟨⟨⟨⟨⟨⟨⟨⟨rfl, rfl⟩, rfl⟩, rfl⟩, rfl⟩, rfl⟩, rfl⟩, rfl⟩, rfl⟩, rfl⟩, rfl⟩, rfl⟩, rfl⟩, rfl⟩, rfl⟩, rfl⟩, rfl⟩, rfl⟩, rfl⟩, rfl⟩, rfl⟩, rfl⟩, rfl⟩, rfl⟩, rfl⟩, rfl⟩, rfl⟩, rfl⟩, rfl⟩, rfl⟩ := hb
      exact blk_loop (S := T129_6c1_0) (ks := E129_6c1_0) (step := S_ref07_Put_6c1_0 fuel) (v := (_, _, _, _, _, _, _, _, _, _, _, _, _, _, _, _, _, _)) (by kernel_rfl) (by kernel_rfl) (fun R K v => by obtain ⟨x0, x1, x2, x3, x4, x5, x6, x7, x8, x9, x10, x11, x12, x13, x14, x15, x16, x17⟩ := v; exact S129_6c1_0_ok fuel R K x0 x1 x2 x3 x4 x5 x6 x7 x8 x9 x10 x11 x12 x13 x14 x15 x16 x17) hs h
    · cases h
  · cases h
noncomputable def Sg_ref07_Put_6c1_6 (fuel : Nat) (f86 : YF86) (f109 : YF109) (f120 : YF120) (f122 : YF122) (f124 : YF124) (f125 : YF125) (f126 : YF126) (f187_2fe : YF187_2fe) (f188_e89 : YF188_e89) (x0 x1 : Int) (x2 x3 : Int) (x4 x5 x6 : Int) (x7 x8 : (List Int)) (x9 x10 x11 : Int) (x12 : Bool) (x13 x14 x15 : Int) (x16 : (List Int)) (x17 x18 : Int) (x19 : (List Int)) (c : (Int × Int × Int × Int × Int × Int × Int × (List Int) × (List Int) × Int × Int × Int × Bool × Int × Int × Int × (List Int) × Int × Int × (List Int)) → Option Ans) (B : (Int × Int × Int × Int × Int × Int × (List Int) × (List Int) × Int × Int × Int × Bool × Int × Int × Int × (List Int) × Int × Int × (List Int) → Option Ans)) : Option Ans := match B with
 | b =>
  bif decide (x3 < x14) then
  (f125 (x17) (x18) (x19) (x3) (x2)
  (fun y3 =>
  bif y3 == (0 : Int) then
  (f126 (x9) (x10) (x11) (x12) (x13) (x14) (x15) (x16) (x3) (x2)
  (fun y8 =>
  (f125 (x14) (x15) (x16) (x3) (x2)
  (fun y12 =>
  (f188_e89 (IntKind.i64.wrap (x0 + y8)) (y12) (x4) (x5) (x6) (x7) (x8)
  (fun (y16_0, y16_1, y16_2, y16_3, y16_4, y16_5) =>
  c (x0, x1, x2, IntKind.i64.wrap (x3 + (1 : Int)), y16_1, y16_2, y16_3, y16_4, y16_5, x9, x10, x11, x12, x13, x14, x15, x16, x17, x18, x19))
  (fun (y16_0, y16_1, y16_2, y16_3, y16_4, y16_5) =>
  c (x0, x1, x2, IntKind.i64.wrap (x3 + (1 : Int)), y16_1, y16_2, y16_3, y16_4, y16_5, x9, x10, x11, x12, x13, x14, x15, x16, x17, x18, x19)))))))
  else
  c (x0, x1, x2, IntKind.i64.wrap (x3 + (1 : Int)), x4, x5, x6, x7, x8, x9, x10, x11, x12, x13, x14, x15, x16, x17, x18, x19)))
  else
  b (x0, x1, x2, x4, x5, x6, x7, x8, x9, x10, x11, x12, x13, x14, x15, x16, x17, x18, x19)
noncomputable def S_ref07_Put_6c1_6 (fuel : Nat) (v : Int × Int × Int × Int × Int × Int × Int × (List Int) × (List Int) × Int × Int × Int × Bool × Int × Int × Int × (List Int) × Int × Int × (List Int)) (c : (Int × Int × Int × Int × Int × Int × Int × (List Int) × (List Int) × Int × Int × Int × Bool × Int × Int × Int × (List Int) × Int × Int × (List Int)) → Option Ans) (B : (Int × Int × Int × Int × Int × Int × (List Int) × (List Int) × Int × Int × Int × Bool × Int × Int × Int × (List Int) × Int × Int × (List Int) → Option Ans)) : Option Ans := match v with
 | (x0, x1, x2, x3, x4, x5, x6, x7, x8, x9, x10, x11, x12, x13, x14, x15, x16, x17, x18, x19) => Sg_ref07_Put_6c1_6 fuel (F_ref05_Valid fuel) (F_ref07_Valid fuel) (F_ref07_room fuel) (F_ref07_Size fuel) (F_ref07_typical fuel) (F_ref05_At fuel) (F_ref07_context fuel) (F_ref02_Encoder_Model_2fe fuel) (F_ref02_Encoder_Put_e89 fuel) x0 x1 x2 x3 x4 x5 x6 x7 x8 x9 x10 x11 x12 x13 x14 x15 x16 x17 x18 x19 c B
noncomputable def L_ref07_Put_6c1_6 (fuel : Nat) (v : Int × Int × Int × Int × Int × Int × Int × (List Int) × (List Int) × Int × Int × Int × Bool × Int × Int × Int × (List Int) × Int × Int × (List Int)) (b : (Int × Int × Int × Int × Int × Int × (List Int) × (List Int) × Int × Int × Int × Bool × Int × Int × Int × (List Int) × Int × Int × (List Int) → Option Ans)) : Option Ans := iter (S_ref07_Put_6c1_6 fuel) fuel v b
noncomputable def J129_6c1_6 (fuel : Nat) (i : Nat) : Option Ev.Blk := Ev.look i [(100002, B129_6c1_2 fuel), (100000, B129_6c1_0 fuel)]
noncomputable def T129_6c1_6 (v : Int × Int × Int × Int × Int × Int × Int × (List Int) × (List Int) × Int × Int × Int × Bool × Int × Int × Int × (List Int) × Int × Int × (List Int)) : Ev.St := match v with | (x0, x1, x2, x3, x4, x5, x6, x7, x8, x9, x10, x11, x12, x13, x14, x15, x16, x17, x18, x19) => ⟨[(0, .c (.ptr 0 0)), (1, .c (.int .i64 x0)), (7, .c (.ptr 3 0)), (8, .c (.ptr 4 0)), (9, .c (.ptr 5 0)), (14, .c (.int .i64 x1)), (16, .c (.int .i64 x2)), (18, .c (.int .i64 x3))], [(0, .cells 225 [.int .i64 x4, .own 1, .int .u64 x5, .int .u64 x6, .own 2]), (1, .vec 3 (.int .i64) x7 false), (2, .vec 5 (.int .u8) x8 true), (3, .cells 46 [.int .i64 x9, .int .i64 x10, .int .i64 x11, .bool x12, .int .i64 x13]), (4, .cells 39 [.int .i64 x14, .int .i64 x15, .sl (.int .u8) x16]), (5, .cells 39 [.int .i64 x17, .int .i64 x18, .sl (.int .u8) x19])], 6, 3⟩
noncomputable def E129_6c1_6 (K : Ev.Ex → Ev.St → Option Ans) : (Int × Int × Int × Int × Int × Int × (List Int) × (List Int) × Int × Int × Int × Bool × Int × Int × Int × (List Int) × Int × Int × (List Int) → Option Ans) := (fun v => match v with | (x0, x1, x2, x3, x4, x5, x6, x7, x8, x9, x10, x11, x12, x13, x14, x15, x16, x17, x18) => K .normal ⟨[(0, .c (.ptr 0 0)), (1, .c (.int .i64 x0)), (7, .c (.ptr 3 0)), (8, .c (.ptr 4 0)), (9, .c (.ptr 5 0)), (14, .c (.int .i64 x1)), (16, .c (.int .i64 x2))], [(0, .cells 225 [.int .i64 x3, .own 1, .int .u64 x4, .int .u64 x5, .own 2]), (1, .vec 3 (.int .i64) x6 false), (2, .vec 5 (.int .u8) x7 true), (3, .cells 46 [.int .i64 x8, .int .i64 x9, .int .i64 x10, .bool x11, .int .i64 x12]), (4, .cells 39 [.int .i64 x13, .int .i64 x14, .sl (.int .u8) x15]), (5, .cells 39 [.int .i64 x16, .int .i64 x17, .sl (.int .u8) x18])], 6, 3⟩)
theorem S129_6c1_6_okg (fuel : Nat) (f86 : YF86) (f109 : YF109) (f120 : YF120) (f122 : YF122) (f124 : YF124) (f125 : YF125) (f126 : YF126) (f187_2fe : YF187_2fe) (f188_e89 : YF188_e89) (R : Ev.St → Option Ans) (K : Ev.Ex → Ev.St → Option Ans) (x0 x1 : Int) (x2 x3 : Int) (x4 x5 x6 : Int) (x7 x8 : (List Int)) (x9 x10 x11 : Int) (x12 : Bool) (x13 x14 x15 : Int) (x16 : (List Int)) (x17 x18 : Int) (x19 : (List Int)) : evalCode tab (Gg129_6c1 f86 f109 f120 f122 f124 f125 f126 f187_2fe f188_e89) (J129_6c1_6 fuel) kp129_6c1 fuel (bodyOf 6 Try.f129) (T129_6c1_6 (x0, x1, x2, x3, x4, x5, x6, x7, x8, x9, x10, x11, x12, x13, x14, x15, x16, x17, x18, x19)) (lc kp129_6c1 27 6 R K) = Sg_ref07_Put_6c1_6 fuel f86 f109 f120 f122 f124 f125 f126 f187_2fe f188_e89 x0 x1 x2 x3 x4 x5 x6 x7 x8 x9 x10 x11 x12 x13 x14 x15 x16 x17 x18 x19 (fun v => R (T129_6c1_6 v)) (E129_6c1_6 K) := by
  kernel_rfl
theorem S129_6c1_6_ok (fuel : Nat) (R : Ev.St → Option Ans) (K : Ev.Ex → Ev.St → Option Ans) (x0 x1 : Int) (x2 x3 : Int) (x4 x5 x6 : Int) (x7 x8 : (List Int)) (x9 x10 x11 : Int) (x12 : Bool) (x13 x14 x15 : Int) (x16 : (List Int)) (x17 x18 : Int) (x19 : (List Int)) : evalCode tab (G129_6c1 fuel) (J129_6c1_6 fuel) kp129_6c1 fuel (bodyOf 6 Try.f129) (T129_6c1_6 (x0, x1, x2, x3, x4, x5, x6, x7, x8, x9, x10, x11, x12, x13, x14, x15, x16, x17, x18, x19)) (lc kp129_6c1 27 6 R K) = S_ref07_Put_6c1_6 fuel (x0, x1, x2, x3, x4, x5, x6, x7, x8, x9, x10, x11, x12, x13, x14, x15, x16, x17, x18, x19) (fun v => R (T129_6c1_6 v)) (E129_6c1_6 K) :=
  S129_6c1_6_okg fuel (F_ref05_Valid fuel) (F_ref07_Valid fuel) (F_ref07_room fuel) (F_ref07_Size fuel) (F_ref07_typical fuel) (F_ref05_At fuel) (F_ref07_context fuel) (F_ref02_Encoder_Model_2fe fuel) (F_ref02_Encoder_Put_e89 fuel) R K x0 x1 x2 x3 x4 x5 x6 x7 x8 x9 x10 x11 x12 x13 x14 x15 x16 x17 x18 x19
noncomputable def B129_6c1_6 (fuel : Nat) : Ev.Blk := fun st K => match canonO (kp129_6c1 27) st with
 | some s => (match s with
 | ⟨[(q0, .c (.ptr q1 q2)), (q3, .c (.int .i64 x0)), (q4, .c (.ptr q5 q6)), (q7, .c (.ptr q8 q9)), (q10, .c (.ptr q11 q12)), (q13, .c (.int .i64 x1)), (q14, .c (.int .i64 x2)), (q15, .c (.int .i64 x3))], [(q16, .cells q17 [.int .i64 x4, .own q18, .int .u64 x5, .int .u64 x6, .own q19]), (q20, .vec q21 (.int .i64) x7 false), (q22, .vec q23 (.int .u8) x8 true), (q24, .cells q25 [.int .i64 x9, .int .i64 x10, .int .i64 x11, .bool x12, .int .i64 x13]), (q26, .cells q27 [.int .i64 x14, .int .i64 x15, .sl (.int .u8) x16]), (q28, .cells q29 [.int .i64 x17, .int .i64 x18, .sl (.int .u8) x19])], q30, q31⟩ => bif Nat.beq q0 0 && Nat.beq q1 0 && Nat.beq q2 0 && Nat.beq q3 1 && Nat.beq q4 7 && Nat.beq q5 3 && Nat.beq q6 0 && Nat.beq q7 8 && Nat.beq q8 4 && Nat.beq q9 0 && Nat.beq q10 9 && Nat.beq q11 5 && Nat.beq q12 0 && Nat.beq q13 14 && Nat.beq q14 16 && Nat.beq q15 18 && Nat.beq q16 0 && Nat.beq q17 225 && Nat.beq q18 1 && Nat.beq q19 2 && Nat.beq q20 1 && Nat.beq q21 3 && Nat.beq q22 2 && Nat.beq q23 5 && Nat.beq q24 3 && Nat.beq q25 46 && Nat.beq q26 4 && Nat.beq q27 39 && Nat.beq q28 5 && Nat.beq q29 39 && Nat.beq q30 6 && Nat.beq q31 3 then iter (S_ref07_Put_6c1_6 fuel) fuel (x0, x1, x2, x3, x4, x5, x6, x7, x8, x9, x10, x11, x12, x13, x14, x15, x16, x17, x18, x19) (E129_6c1_6 K) else none
 | _ => none)
 | none => none
theorem B129_6c1_6_ok (fuel : Nat) (st : Ev.St) (K : Ev.Ex → Ev.St → Option Ans) (r : Ans) (h : B129_6c1_6 fuel st K = some r) : evalCode tab (G129_6c1 fuel) (J129_6c1_6 fuel) kp129_6c1 fuel (.block 6 (.loop (bodyOf 6 Try.f129))) st K = some r := by
  unfold B129_6c1_6 at h
  split at h
  · rename_i s hs
    split at h
    · skip
      obtain ⟨hb, h⟩ := cond_some' h
      simp only [Bool.and_eq_true, Nat.beq_eq, decide_eq_true_eq] at hb
      obtain ⟨⟨⟨⟨⟨⟨⟨⟨⟨⟨⟨⟨⟨⟨⟨⟨⟨⟨⟨⟨⟨⟨⟨⟨⟨⟨⟨⟨⟨⟨⟨rfl, rfl⟩, rfl⟩, rfl⟩, rfl⟩, rfl⟩, rfl⟩, rfl⟩, rfl⟩, rfl⟩, rfl⟩, rfl⟩, rfl⟩, rfl⟩, rfl⟩, rfl⟩, rfl⟩, rfl⟩, rfl⟩, rfl⟩, rfl⟩, rfl⟩, rfl⟩, rfl⟩, rfl⟩, rfl⟩, rfl⟩, rfl⟩, rfl⟩, rfl⟩, rfl⟩, rfl⟩ := hb
      exact blk_loop (S := T129_6c1_6) (ks := E129_6c1_6) (step := S_ref07_Put_6c1_6 fuel) (v := (_, _, _, _, _, _, _, _, _, _, _, _, _, _, _, _, _, _, _, _)) (by kernel_rfl) (by kernel_rfl) (fun R K v => by obtain ⟨x0, x1, x2, x3, x4, x5, x6, x7, x8, x9, x10, x11, x12, x13, x14, x15, x16, x17, x18, x19⟩ := v; exact S129_6c1_6_ok fuel R K x0 x1 x2 x3 x4 x5 x6 x7 x8 x9 x10 x11 x12 x13 x14 x15 x16 x17 x18 x19) hs h
    · cases h
  · cases h
noncomputable def Sg_ref07_Put_6c1_4 (fuel : Nat) (f86 : YF86) (f109 : YF109) (f120 : YF120) (f122 : YF122) (f124 : YF124) (f125 : YF125) (f126 : YF126) (f187_2fe : YF187_2fe) (f188_e89 : YF188_e89) (x0 x1 : Int) (x2 x3 : Int) (x4 x5 : Int) (x6 x7 : (List Int)) (x8 x9 x10 : Int) (x11 : Bool) (x12 x13 x14 : Int) (x15 : (List Int)) (x16 x17 : Int) (x18 : (List Int)) (c : (Int × Int × Int × Int × Int × Int × (List Int) × (List Int) × Int × Int × Int × Bool × Int × Int × Int × (List Int) × Int × Int × (List Int)) → Option Ans) (B : (Int × Int × Int × (List Int) × (List Int) → Option Ans)) : Option Ans := match B with
 | b =>
  bif decide (x2 < x14) then
  bif x11 then
  bif decide ((0 : Int) ≤ Ev.loOf (some (IntKind.i64.wrap (x2 * x13))) ∧ Ev.loOf (some (IntKind.i64.wrap (x2 * x13))) ≤ Ev.hiOf (some (IntKind.i64.wrap (IntKind.i64.wrap (x2 + (1 : Int)) * x13))) (↑x15.length : Int) ∧ Ev.hiOf (some (IntKind.i64.wrap (IntKind.i64.wrap (x2 + (1 : Int)) * x13))) (↑x15.length : Int) ≤ (↑x15.length : Int)) then
  both ((f124 (x13) (x14) (x15) (x16) (x17) (x18) (x2)
  (fun y7 =>
  both (bif (Go.strOfNums y7).toList == (Go.strOfNums (List.take (Ev.hiOf (some (IntKind.i64.wrap (IntKind.i64.wrap (x2 + (1 : Int)) * x13))) (↑x15.length : Int) - Ev.loOf (some (IntKind.i64.wrap (x2 * x13)))).toNat (List.drop (Ev.loOf (some (IntKind.i64.wrap (x2 * x13)))).toNat x15))).toList then
  (f188_e89 (IntKind.i64.wrap (IntKind.i64.wrap (x0 + x1) - (1 : Int))) ((1 : Int)) (x3) (x4) (x5) (x6) (x7)
  (fun (y14_0, y14_1, y14_2, y14_3, y14_4, y14_5) =>
  c (x0, x1, IntKind.i64.wrap (x2 + (1 : Int)), y14_1, y14_2, y14_3, y14_4, y14_5, x8, x9, x10, x11, x12, x13, x14, x15, x16, x17, x18))
  (fun (y14_0, y14_1, y14_2, y14_3, y14_4, y14_5) =>
  c (x0, x1, IntKind.i64.wrap (x2 + (1 : Int)), y14_1, y14_2, y14_3, y14_4, y14_5, x8, x9, x10, x11, x12, x13, x14, x15, x16, x17, x18)))
  else
  (f188_e89 (IntKind.i64.wrap (IntKind.i64.wrap (x0 + x1) - (1 : Int))) ((0 : Int)) (x3) (x4) (x5) (x6) (x7)
  (fun (y14_0, y14_1, y14_2, y14_3, y14_4, y14_5) =>
  (L_ref07_Put_6c1_6 fuel (x0, x1, x2, (0 : Int), y14_1, y14_2, y14_3, y14_4, y14_5, x8, x9, x10, x11, x12, x13, x14, x15, x16, x17, x18)
  (fun (b6_0, b6_1, b6_2, b6_3, b6_4, b6_5, b6_6, b6_7, b6_8, b6_9, b6_10, b6_11, b6_12, b6_13, b6_14, b6_15, b6_16, b6_17, b6_18) =>
  c (b6_0, b6_1, IntKind.i64.wrap (b6_2 + (1 : Int)), b6_3, b6_4, b6_5, b6_6, b6_7, b6_8, b6_9, b6_10, b6_11, b6_12, b6_13, b6_14, b6_15, b6_16, b6_17, b6_18))))
  (fun (y14_0, y14_1, y14_2, y14_3, y14_4, y14_5) =>
  (L_ref07_Put_6c1_6 fuel (x0, x1, x2, (0 : Int), y14_1, y14_2, y14_3, y14_4, y14_5, x8, x9, x10, x11, x12, x13, x14, x15, x16, x17, x18)
  (fun (b6_0, b6_1, b6_2, b6_3, b6_4, b6_5, b6_6, b6_7, b6_8, b6_9, b6_10, b6_11, b6_12, b6_13, b6_14, b6_15, b6_16, b6_17, b6_18) =>
  c (b6_0, b6_1, IntKind.i64.wrap (b6_2 + (1 : Int)), b6_3, b6_4, b6_5, b6_6, b6_7, b6_8, b6_9, b6_10, b6_11, b6_12, b6_13, b6_14, b6_15, b6_16, b6_17, b6_18))))))
  (bif (Go.strOfNums y7).toList == (Go.strOfNums (List.take (Ev.hiOf (some (IntKind.i64.wrap (IntKind.i64.wrap (x2 + (1 : Int)) * x13))) (↑x15.length : Int) - Ev.loOf (some (IntKind.i64.wrap (x2 * x13)))).toNat (List.drop (Ev.loOf (some (IntKind.i64.wrap (x2 * x13)))).toNat x15))).toList then
  (f188_e89 (IntKind.i64.wrap (IntKind.i64.wrap (x0 + x1) - (1 : Int))) ((1 : Int)) (x3) (x4) (x5) (x6) (x7)
  (fun (y14_0, y14_1, y14_2, y14_3, y14_4, y14_5) =>
  c (x0, x1, IntKind.i64.wrap (x2 + (1 : Int)), y14_1, y14_2, y14_3, y14_4, y14_5, x8, x9, x10, x11, x12, x13, x14, x15, x16, x17, x18))
  (fun (y14_0, y14_1, y14_2, y14_3, y14_4, y14_5) =>
  c (x0, x1, IntKind.i64.wrap (x2 + (1 : Int)), y14_1, y14_2, y14_3, y14_4, y14_5, x8, x9, x10, x11, x12, x13, x14, x15, x16, x17, x18)))
  else
  (f188_e89 (IntKind.i64.wrap (IntKind.i64.wrap (x0 + x1) - (1 : Int))) ((0 : Int)) (x3) (x4) (x5) (x6) (x7)
  (fun (y14_0, y14_1, y14_2, y14_3, y14_4, y14_5) =>
  (L_ref07_Put_6c1_6 fuel (x0, x1, x2, (0 : Int), y14_1, y14_2, y14_3, y14_4, y14_5, x8, x9, x10, x11, x12, x13, x14, x15, x16, x17, x18)
  (fun (b6_0, b6_1, b6_2, b6_3, b6_4, b6_5, b6_6, b6_7, b6_8, b6_9, b6_10, b6_11, b6_12, b6_13, b6_14, b6_15, b6_16, b6_17, b6_18) =>
  c (b6_0, b6_1, IntKind.i64.wrap (b6_2 + (1 : Int)), b6_3, b6_4, b6_5, b6_6, b6_7, b6_8, b6_9, b6_10, b6_11, b6_12, b6_13, b6_14, b6_15, b6_16, b6_17, b6_18))))
  (fun (y14_0, y14_1, y14_2, y14_3, y14_4, y14_5) =>
  (L_ref07_Put_6c1_6 fuel (x0, x1, x2, (0 : Int), y14_1, y14_2, y14_3, y14_4, y14_5, x8, x9, x10, x11, x12, x13, x14, x15, x16, x17, x18)
  (fun (b6_0, b6_1, b6_2, b6_3, b6_4, b6_5, b6_6, b6_7, b6_8, b6_9, b6_10, b6_11, b6_12, b6_13, b6_14, b6_15, b6_16, b6_17, b6_18) =>
  c (b6_0, b6_1, IntKind.i64.wrap (b6_2 + (1 : Int)), b6_3, b6_4, b6_5, b6_6, b6_7, b6_8, b6_9, b6_10, b6_11, b6_12, b6_13, b6_14, b6_15, b6_16, b6_17, b6_18)))))))))
  ((f124 (x13) (x14) (x15) (x16) (x17) (x18) (x2)
  (fun y7 =>
  bif (Go.strOfNums y7).toList == (Go.strOfNums (List.take (Ev.hiOf (some (IntKind.i64.wrap (IntKind.i64.wrap (x2 + (1 : Int)) * x13))) (↑x15.length : Int) - Ev.loOf (some (IntKind.i64.wrap (x2 * x13)))).toNat (List.drop (Ev.loOf (some (IntKind.i64.wrap (x2 * x13)))).toNat x15))).toList then
  (f188_e89 (IntKind.i64.wrap (IntKind.i64.wrap (x0 + x1) - (1 : Int))) ((1 : Int)) (x3) (x4) (x5) (x6) (x7)
  (fun (y12_0, y12_1, y12_2, y12_3, y12_4, y12_5) =>
  c (x0, x1, IntKind.i64.wrap (x2 + (1 : Int)), y12_1, y12_2, y12_3, y12_4, y12_5, x8, x9, x10, x11, x12, x13, x14, x15, x16, x17, x18))
  (fun (y12_0, y12_1, y12_2, y12_3, y12_4, y12_5) =>
  c (x0, x1, IntKind.i64.wrap (x2 + (1 : Int)), y12_1, y12_2, y12_3, y12_4, y12_5, x8, x9, x10, x11, x12, x13, x14, x15, x16, x17, x18)))
  else
  (f188_e89 (IntKind.i64.wrap (IntKind.i64.wrap (x0 + x1) - (1 : Int))) ((0 : Int)) (x3) (x4) (x5) (x6) (x7)
  (fun (y12_0, y12_1, y12_2, y12_3, y12_4, y12_5) =>
  (L_ref07_Put_6c1_6 fuel (x0, x1, x2, (0 : Int), y12_1, y12_2, y12_3, y12_4, y12_5, x8, x9, x10, x11, x12, x13, x14, x15, x16, x17, x18)
  (fun (b6_0, b6_1, b6_2, b6_3, b6_4, b6_5, b6_6, b6_7, b6_8, b6_9, b6_10, b6_11, b6_12, b6_13, b6_14, b6_15, b6_16, b6_17, b6_18) =>
  c (b6_0, b6_1, IntKind.i64.wrap (b6_2 + (1 : Int)), b6_3, b6_4, b6_5, b6_6, b6_7, b6_8, b6_9, b6_10, b6_11, b6_12, b6_13, b6_14, b6_15, b6_16, b6_17, b6_18))))
  (fun (y12_0, y12_1, y12_2, y12_3, y12_4, y12_5) =>
  (L_ref07_Put_6c1_6 fuel (x0, x1, x2, (0 : Int), y12_1, y12_2, y12_3, y12_4, y12_5, x8, x9, x10, x11, x12, x13, x14, x15, x16, x17, x18)
  (fun (b6_0, b6_1, b6_2, b6_3, b6_4, b6_5, b6_6, b6_7, b6_8, b6_9, b6_10, b6_11, b6_12, b6_13, b6_14, b6_15, b6_16, b6_17, b6_18) =>
  c (b6_0, b6_1, IntKind.i64.wrap (b6_2 + (1 : Int)), b6_3, b6_4, b6_5, b6_6, b6_7, b6_8, b6_9, b6_10, b6_11, b6_12, b6_13, b6_14, b6_15, b6_16, b6_17, b6_18))))))))
  else none
  else
  (L_ref07_Put_6c1_6 fuel (x0, x1, x2, (0 : Int), x3, x4, x5, x6, x7, x8, x9, x10, x11, x12, x13, x14, x15, x16, x17, x18)
  (fun (b6_0, b6_1, b6_2, b6_3, b6_4, b6_5, b6_6, b6_7, b6_8, b6_9, b6_10, b6_11, b6_12, b6_13, b6_14, b6_15, b6_16, b6_17, b6_18) =>
  c (b6_0, b6_1, IntKind.i64.wrap (b6_2 + (1 : Int)), b6_3, b6_4, b6_5, b6_6, b6_7, b6_8, b6_9, b6_10, b6_11, b6_12, b6_13, b6_14, b6_15, b6_16, b6_17, b6_18)))
  else
  b (x3, x4, x5, x6, x7)
noncomputable def S_ref07_Put_6c1_4 (fuel : Nat) (v : Int × Int × Int × Int × Int × Int × (List Int) × (List Int) × Int × Int × Int × Bool × Int × Int × Int × (List Int) × Int × Int × (List Int)) (c : (Int × Int × Int × Int × Int × Int × (List Int) × (List Int) × Int × Int × Int × Bool × Int × Int × Int × (List Int) × Int × Int × (List Int)) → Option Ans) (B : (Int × Int × Int × (List Int) × (List Int) → Option Ans)) : Option Ans := match v with
 | (x0, x1, x2, x3, x4, x5, x6, x7, x8, x9, x10, x11, x12, x13, x14, x15, x16, x17, x18) => Sg_ref07_Put_6c1_4 fuel (F_ref05_Valid fuel) (F_ref07_Valid fuel) (F_ref07_room fuel) (F_ref07_Size fuel) (F_ref07_typical fuel) (F_ref05_At fuel) (F_ref07_context fuel) (F_ref02_Encoder_Model_2fe fuel) (F_ref02_Encoder_Put_e89 fuel) x0 x1 x2 x3 x4 x5 x6 x7 x8 x9 x10 x11 x12 x13 x14 x15 x16 x17 x18 c B
noncomputable def L_ref07_Put_6c1_4 (fuel : Nat) (v : Int × Int × Int × Int × Int × Int × (List Int) × (List Int) × Int × Int × Int × Bool × Int × Int × Int × (List Int) × Int × Int × (List Int)) (b : (Int × Int × Int × (List Int) × (List Int) → Option Ans)) : Option Ans := iter (S_ref07_Put_6c1_4 fuel) fuel v b
noncomputable def J129_6c1_4 (fuel : Nat) (i : Nat) : Option Ev.Blk := Ev.look i [(100002, B129_6c1_2 fuel), (100000, B129_6c1_0 fuel), (100006, B129_6c1_6 fuel)]
noncomputable def T129_6c1_4 (v : Int × Int × Int × Int × Int × Int × (List Int) × (List Int) × Int × Int × Int × Bool × Int × Int × Int × (List Int) × Int × Int × (List Int)) : Ev.St := match v with | (x0, x1, x2, x3, x4, x5, x6, x7, x8, x9, x10, x11, x12, x13, x14, x15, x16, x17, x18) => ⟨[(0, .c (.ptr 0 0)), (1, .c (.int .i64 x0)), (7, .c (.ptr 3 0)), (8, .c (.ptr 4 0)), (9, .c (.ptr 5 0)), (14, .c (.int .i64 x1)), (16, .c (.int .i64 x2))], [(0, .cells 225 [.int .i64 x3, .own 1, .int .u64 x4, .int .u64 x5, .own 2]), (1, .vec 3 (.int .i64) x6 false), (2, .vec 5 (.int .u8) x7 true), (3, .cells 46 [.int .i64 x8, .int .i64 x9, .int .i64 x10, .bool x11, .int .i64 x12]), (4, .cells 39 [.int .i64 x13, .int .i64 x14, .sl (.int .u8) x15]), (5, .cells 39 [.int .i64 x16, .int .i64 x17, .sl (.int .u8) x18])], 6, 3⟩
noncomputable def E129_6c1_4 (K : Ev.Ex → Ev.St → Option Ans) : (Int × Int × Int × (List Int) × (List Int) → Option Ans) := (fun v => match v with | (x0, x1, x2, x3, x4) => K .normal ⟨[], [(0, .cells 225 [.int .i64 x0, .own 1, .int .u64 x1, .int .u64 x2, .own 2]), (1, .vec 3 (.int .i64) x3 false), (2, .vec 5 (.int .u8) x4 true)], 3, 3⟩)
theorem S129_6c1_4_okg (fuel : Nat) (f86 : YF86) (f109 : YF109) (f120 : YF120) (f122 : YF122) (f124 : YF124) (f125 : YF125) (f126 : YF126) (f187_2fe : YF187_2fe) (f188_e89 : YF188_e89) (R : Ev.St → Option Ans) (K : Ev.Ex → Ev.St → Option Ans) (x0 x1 : Int) (x2 x3 : Int) (x4 x5 : Int) (x6 x7 : (List Int)) (x8 x9 x10 : Int) (x11 : Bool) (x12 x13 x14 : Int) (x15 : (List Int)) (x16 x17 : Int) (x18 : (List Int)) : evalCode tab (Gg129_6c1 f86 f109 f120 f122 f124 f125 f126 f187_2fe f188_e89) (J129_6c1_4 fuel) kp129_6c1 fuel (bodyOf 4 Try.f129) (T129_6c1_4 (x0, x1, x2, x3, x4, x5, x6, x7, x8, x9, x10, x11, x12, x13, x14, x15, x16, x17, x18)) (lc kp129_6c1 18 4 R K) = Sg_ref07_Put_6c1_4 fuel f86 f109 f120 f122 f124 f125 f126 f187_2fe f188_e89 x0 x1 x2 x3 x4 x5 x6 x7 x8 x9 x10 x11 x12 x13 x14 x15 x16 x17 x18 (fun v => R (T129_6c1_4 v)) (E129_6c1_4 K) := by
  kernel_rfl
theorem S129_6c1_4_ok (fuel : Nat) (R : Ev.St → Option Ans) (K : Ev.Ex → Ev.St → Option Ans) (x0 x1 : Int) (x2 x3 : Int) (x4 x5 : Int) (x6 x7 : (List Int)) (x8 x9 x10 : Int) (x11 : Bool) (x12 x13 x14 : Int) (x15 : (List Int)) (x16 x17 : Int) (x18 : (List Int)) : evalCode tab (G129_6c1 fuel) (J129_6c1_4 fuel) kp129_6c1 fuel (bodyOf 4 Try.f129) (T129_6c1_4 (x0, x1, x2, x3, x4, x5, x6, x7, x8, x9, x10, x11, x12, x13, x14, x15, x16, x17, x18)) (lc kp129_6c1 18 4 R K) = S_ref07_Put_6c1_4 fuel (x0, x1, x2, x3, x4, x5, x6, x7, x8, x9, x10, x11, x12, x13, x14, x15, x16, x17, x18) (fun v => R (T129_6c1_4 v)) (E129_6c1_4 K) :=
  S129_6c1_4_okg fuel (F_ref05_Valid fuel) (F_ref07_Valid fuel) (F_ref07_room fuel) (F_ref07_Size fuel) (F_ref07_typical fuel) (F_ref05_At fuel) (F_ref07_context fuel) (F_ref02_Encoder_Model_2fe fuel) (F_ref02_Encoder_Put_e89 fuel) R K x0 x1 x2 x3 x4 x5 x6 x7 x8 x9 x10 x11 x12 x13 x14 x15 x16 x17 x18
noncomputable def B129_6c1_4 (fuel : Nat) : Ev.Blk := fun st K => match canonO (kp129_6c1 18) st with
 | some s => (match s with
 | ⟨[(q0, .c (.ptr q1 q2)), (q3, .c (.int .i64 x0)), (q4, .c (.ptr q5 q6)), (q7, .c (.ptr q8 q9)), (q10, .c (.ptr q11 q12)), (q13, .c (.int .i64 x1)), (q14, .c (.int .i64 x2))], [(q15, .cells q16 [.int .i64 x3, .own q17, .int .u64 x4, .int .u64 x5, .own q18]), (q19, .vec q20 (.int .i64) x6 false), (q21, .vec q22 (.int .u8) x7 true), (q23, .cells q24 [.int .i64 x8, .int .i64 x9, .int .i64 x10, .bool x11, .int .i64 x12]), (q25, .cells q26 [.int .i64 x13, .int .i64 x14, .sl (.int .u8) x15]), (q27, .cells q28 [.int .i64 x16, .int .i64 x17, .sl (.int .u8) x18])], q29, q30⟩ => bif Nat.beq q0 0 && Nat.beq q1 0 && Nat.beq q2 0 && Nat.beq q3 1 && Nat.beq q4 7 && Nat.beq q5 3 && Nat.beq q6 0 && Nat.beq q7 8 && Nat.beq q8 4 && Nat.beq q9 0 && Nat.beq q10 9 && Nat.beq q11 5 && Nat.beq q12 0 && Nat.beq q13 14 && Nat.beq q14 16 && Nat.beq q15 0 && Nat.beq q16 225 && Nat.beq q17 1 && Nat.beq q18 2 && Nat.beq q19 1 && Nat.beq q20 3 && Nat.beq q21 2 && Nat.beq q22 5 && Nat.beq q23 3 && Nat.beq q24 46 && Nat.beq q25 4 && Nat.beq q26 39 && Nat.beq q27 5 && Nat.beq q28 39 && Nat.beq q29 6 && Nat.beq q30 3 then iter (S_ref07_Put_6c1_4 fuel) fuel (x0, x1, x2, x3, x4, x5, x6, x7, x8, x9, x10, x11, x12, x13, x14, x15, x16, x17, x18) (E129_6c1_4 K) else none
 | _ => none)
 | none => none
theorem B129_6c1_4_ok (fuel : Nat) (st : Ev.St) (K : Ev.Ex → Ev.St → Option Ans) (r : Ans) (h : B129_6c1_4 fuel st K = some r) : evalCode tab (G129_6c1 fuel) (J129_6c1_4 fuel) kp129_6c1 fuel (.block 4 (.loop (bodyOf 4 Try.f129))) st K = some r := by
  unfold B129_6c1_4 at h
  split at h
  · rename_i s hs
    split at h
    · skip
      obtain ⟨hb, h⟩ := cond_some' h
      simp only [Bool.and_eq_true, Nat.beq_eq, decide_eq_true_eq] at hb
      obtain ⟨⟨⟨⟨⟨⟨⟨⟨⟨⟨⟨⟨⟨⟨⟨⟨⟨⟨⟨⟨⟨⟨⟨⟨⟨⟨⟨⟨⟨⟨rfl, rfl⟩, rfl⟩, rfl⟩, rfl⟩, rfl⟩, rfl⟩, rfl⟩, rfl⟩, rfl⟩, rfl⟩, rfl⟩, rfl⟩, rfl⟩, rfl⟩, rfl⟩, rfl⟩, rfl⟩, rfl⟩, rfl⟩, rfl⟩, rfl⟩, rfl⟩, rfl⟩, rfl⟩, rfl⟩, rfl⟩, rfl⟩, rfl⟩, rfl⟩, rfl⟩ := hb
      exact blk_loop (S := T129_6c1_4) (ks := E129_6c1_4) (step := S_ref07_Put_6c1_4 fuel) (v := (_, _, _, _, _, _, _, _, _, _, _, _, _, _, _, _, _, _, _)) (by kernel_rfl) (by kernel_rfl) (fun R K v => by obtain ⟨x0, x1, x2, x3, x4, x5, x6, x7, x8, x9, x10, x11, x12, x13, x14, x15, x16, x17, x18⟩ := v; exact S129_6c1_4_ok fuel R K x0 x1 x2 x3 x4 x5 x6 x7 x8 x9 x10 x11 x12 x13 x14 x15 x16 x17 x18) hs h
    · cases h
  · cases h
noncomputable def J129_6c1 (fuel : Nat) (i : Nat) : Option Ev.Blk := Ev.look i [(100002, B129_6c1_2 fuel), (100000, B129_6c1_0 fuel), (100006, B129_6c1_6 fuel), (100004, B129_6c1_4 fuel)]
noncomputable def Fg_ref07_Put_6c1 (fuel : Nat) (f86 : YF86) (f109 : YF109) (f120 : YF120) (f122 : YF122) (f124 : YF124) (f125 : YF125) (f126 : YF126) (f187_2fe : YF187_2fe) (f188_e89 : YF188_e89) (x0 x1 : Int) (x2 x3 : Int) (x4 : Bool) (x5 x6 x7 : Int) (x8 : (List Int)) (x9 x10 : Int) (x11 : (List Int)) (x12 x13 x14 : Int) (x15 x16 : (List Int)) (k0 : (Int × Int × Int × Int × (List Int) × (List Int)) → Option Ans) (k1 : (Int × Int × Int × Int × (List Int) × (List Int)) → Option Ans) : Option Ans :=
  (f109 (x1) (x2) (x3) (x4) (x5)
  (fun y2 =>
  bif !y2 then
  k0 ((2 : Int), x12, x13, x14, x15, x16)
  else
  (f86 (x6) (x7) (x8)
  (fun y7 =>
  bif !y7 then
  k0 ((30 : Int), x12, x13, x14, x15, x16)
  else
  (f86 (x9) (x10) (x11)
  (fun y12 =>
  bif !y12 then
  k0 ((30 : Int), x12, x13, x14, x15, x16)
  else
  (L_ref07_Put_6c1_0 fuel (x0, (0 : Int), x12, x13, x14, x15, x16, x1, x2, x3, x4, x5, x6, x7, x8, x9, x10, x11)
  (fun (ret0_0, ret0_1, ret0_2, ret0_3, ret0_4, ret0_5) =>
  k0 (ret0_0, ret0_1, ret0_2, ret0_3, ret0_4, ret0_5))
  (fun (b0_0, b0_1, b0_2, b0_3, b0_4, b0_5, b0_6, b0_7, b0_8, b0_9, b0_10, b0_11, b0_12, b0_13, b0_14, b0_15, b0_16) =>
  (f187_2fe (b0_1) (b0_2) (b0_3) (b0_4) (b0_5)
  (fun (y21_0, y21_1, y21_2, y21_3, y21_4, y21_5, y21_6) =>
  (f120 (b0_6) (b0_7) (b0_8) (b0_9) (b0_10) (b0_0) ((↑y21_6.length : Int)) (b0_11) (b0_12) (b0_14) (b0_15) (b0_16)
  (fun y25 =>
  bif y25 != (0 : Int) then
  k0 (y25, y21_1, y21_2, y21_3, y21_4, y21_5)
  else
  (f122 (b0_6) (b0_7) (b0_8) (b0_9) (b0_10)
  (fun (y30_0, y30_1) =>
  (L_ref07_Put_6c1_4 fuel (b0_0, y30_0, (0 : Int), y21_1, y21_2, y21_3, y21_4, y21_5, b0_6, b0_7, b0_8, b0_9, b0_10, b0_11, b0_12, b0_13, b0_14, b0_15, b0_16)
  (fun (b4_0, b4_1, b4_2, b4_3, b4_4) =>
  k1 ((0 : Int), b4_0, b4_1, b4_2, b4_3, b4_4)))))))))))))))))
noncomputable def F_ref07_Put_6c1 (fuel : Nat) (x0 x1 : Int) (x2 x3 : Int) (x4 : Bool) (x5 x6 x7 : Int) (x8 : (List Int)) (x9 x10 : Int) (x11 : (List Int)) (x12 x13 x14 : Int) (x15 x16 : (List Int)) (k0 : (Int × Int × Int × Int × (List Int) × (List Int)) → Option Ans) (k1 : (Int × Int × Int × Int × (List Int) × (List Int)) → Option Ans) : Option Ans := Fg_ref07_Put_6c1 fuel (F_ref05_Valid fuel) (F_ref07_Valid fuel) (F_ref07_room fuel) (F_ref07_Size fuel) (F_ref07_typical fuel) (F_ref05_At fuel) (F_ref07_context fuel) (F_ref02_Encoder_Model_2fe fuel) (F_ref02_Encoder_Put_e89 fuel) x0 x1 x2 x3 x4 x5 x6 x7 x8 x9 x10 x11 x12 x13 x14 x15 x16 k0 k1
abbrev YF129_6c1 : Type := (Int) → (Int) → (Int) → (Int) → (Bool) → (Int) → (Int) → (Int) → ((List Int)) → (Int) → (Int) → ((List Int)) → (Int) → (Int) → (Int) → ((List Int)) → ((List Int)) → ((Int × Int × Int × Int × (List Int) × (List Int)) → Option Ans) → ((Int × Int × Int × Int × (List Int) × (List Int)) → Option Ans) → Option Ans
theorem F129_6c1_eqg (fuel : Nat) (f86 : YF86) (f109 : YF109) (f120 : YF120) (f122 : YF122) (f124 : YF124) (f125 : YF125) (f126 : YF126) (f187_2fe : YF187_2fe) (f188_e89 : YF188_e89) (x0 x1 : Int) (x2 x3 : Int) (x4 : Bool) (x5 x6 x7 : Int) (x8 : (List Int)) (x9 x10 : Int) (x11 : (List Int)) (x12 x13 x14 : Int) (x15 x16 : (List Int)) (k : Ev.Cont) : evalFn tab (Gg129_6c1 f86 f109 f120 f122 f124 f125 f126 f187_2fe f188_e89) (J129_6c1 fuel) kp129_6c1 fuel Try.f129 [.c (.ptr 0 0), .c (.int .i64 x0), .agg [.int .i64 x1, .int .i64 x2, .int .i64 x3, .bool x4, .int .i64 x5], .agg [.int .i64 x6, .int .i64 x7, .sl (.int .u8) x8], .agg [.int .i64 x9, .int .i64 x10, .sl (.int .u8) x11]] [.cells 225 [.int .i64 x12, .own 1, .int .u64 x13, .int .u64 x14, .own 2], .vec 3 (.int .i64) x15 false, .vec 5 (.int .u8) x16 false] k = Fg_ref07_Put_6c1 fuel f86 f109 f120 f122 f124 f125 f126 f187_2fe f188_e89 x0 x1 x2 x3 x4 x5 x6 x7 x8 x9 x10 x11 x12 x13 x14 x15 x16 (fun r => match r with | (r0, r1, r2, r3, r4, r5) => k (.c (.int .i64 r0), [.cells 225 [.int .i64 r1, .own 1, .int .u64 r2, .int .u64 r3, .own 2], .vec 3 (.int .i64) r4 false, .vec 5 (.int .u8) r5 false])) (fun r => match r with | (r0, r1, r2, r3, r4, r5) => k (.c (.int .i64 r0), [.cells 225 [.int .i64 r1, .own 1, .int .u64 r2, .int .u64 r3, .own 2], .vec 3 (.int .i64) r4 false, .vec 5 (.int .u8) r5 true])) := by
  kernel_rfl
theorem F129_6c1_eq (fuel : Nat) (x0 x1 : Int) (x2 x3 : Int) (x4 : Bool) (x5 x6 x7 : Int) (x8 : (List Int)) (x9 x10 : Int) (x11 : (List Int)) (x12 x13 x14 : Int) (x15 x16 : (List Int)) (k : Ev.Cont) : evalFn tab (G129_6c1 fuel) (J129_6c1 fuel) kp129_6c1 fuel Try.f129 [.c (.ptr 0 0), .c (.int .i64 x0), .agg [.int .i64 x1, .int .i64 x2, .int .i64 x3, .bool x4, .int .i64 x5], .agg [.int .i64 x6, .int .i64 x7, .sl (.int .u8) x8], .agg [.int .i64 x9, .int .i64 x10, .sl (.int .u8) x11]] [.cells 225 [.int .i64 x12, .own 1, .int .u64 x13, .int .u64 x14, .own 2], .vec 3 (.int .i64) x15 false, .vec 5 (.int .u8) x16 false] k = F_ref07_Put_6c1 fuel x0 x1 x2 x3 x4 x5 x6 x7 x8 x9 x10 x11 x12 x13 x14 x15 x16 (fun r => match r with | (r0, r1, r2, r3, r4, r5) => k (.c (.int .i64 r0), [.cells 225 [.int .i64 r1, .own 1, .int .u64 r2, .int .u64 r3, .own 2], .vec 3 (.int .i64) r4 false, .vec 5 (.int .u8) r5 false])) (fun r => match r with | (r0, r1, r2, r3, r4, r5) => k (.c (.int .i64 r0), [.cells 225 [.int .i64 r1, .own 1, .int .u64 r2, .int .u64 r3, .own 2], .vec 3 (.int .i64) r4 false, .vec 5 (.int .u8) r5 true])) :=
  F129_6c1_eqg fuel (F_ref05_Valid fuel) (F_ref07_Valid fuel) (F_ref07_room fuel) (F_ref07_Size fuel) (F_ref07_typical fuel) (F_ref05_At fuel) (F_ref07_context fuel) (F_ref02_Encoder_Model_2fe fuel) (F_ref02_Encoder_Put_e89 fuel) x0 x1 x2 x3 x4 x5 x6 x7 x8 x9 x10 x11 x12 x13 x14 x15 x16 k
theorem hG129_6c1 (fuel : Nat) : GOK Try.prog (G129_6c1 fuel) :=
  gok_cons ⟨ok86 fuel, enters_of Try.func86 (by kernel_rfl) rfl⟩ <|
  gok_cons ⟨ok109 fuel, enters_of Try.func109 (by kernel_rfl) rfl⟩ <|
  gok_cons ⟨ok120 fuel, enters_of Try.func120 (by kernel_rfl) rfl⟩ <|
  gok_cons ⟨ok122 fuel, enters_of Try.func122 (by kernel_rfl) rfl⟩ <|
  gok_cons ⟨ok124 fuel, enters_of Try.func124 (by kernel_rfl) rfl⟩ <|
  gok_cons ⟨ok125 fuel, enters_of Try.func125 (by kernel_rfl) rfl⟩ <|
  gok_cons ⟨ok126 fuel, enters_of Try.func126 (by kernel_rfl) rfl⟩ <|
  gok_cons ⟨ok187_2fe fuel, enters_of Try.func187 (by kernel_rfl) rfl⟩ <|
  gok_cons ⟨ok188_e89 fuel, enters_of Try.func188 (by kernel_rfl) rfl⟩ <|
  gok_nil
theorem B129_6c1_2_blk (fuel : Nat) : BlkOK Try.prog Try.f129.ntmps (.block 2 (.loop (bodyOf 2 Try.f129))) (B129_6c1_2 fuel) :=
  blk_of (blk_of_code tab_ok (hG129_6c1 fuel) mixed (J := J129_6c1_2 fuel) (kp := kp129_6c1) (fuel := fuel) (by kernel_rfl) (fun q hq => by
    rw [(by kernel_rfl : obl (J129_6c1_2 fuel) (.block 2 (.loop (bodyOf 2 Try.f129))) = [])] at hq
    cases hq)) (B129_6c1_2_ok fuel)
theorem B129_6c1_0_blk (fuel : Nat) : BlkOK Try.prog Try.f129.ntmps (.block 0 (.loop (bodyOf 0 Try.f129))) (B129_6c1_0 fuel) :=
  blk_of (blk_of_code tab_ok (hG129_6c1 fuel) mixed (J := J129_6c1_0 fuel) (kp := kp129_6c1) (fuel := fuel) (by kernel_rfl) (fun q hq => by
    rw [(by kernel_rfl : obl (J129_6c1_0 fuel) (.block 0 (.loop (bodyOf 0 Try.f129))) = [(.block 2 (.loop (bodyOf 2 Try.f129)), B129_6c1_2 fuel)])] at hq
    simp only [List.mem_cons, List.not_mem_nil, or_false] at hq
    subst hq
    · exact B129_6c1_2_blk fuel)) (B129_6c1_0_ok fuel)
theorem B129_6c1_6_blk (fuel : Nat) : BlkOK Try.prog Try.f129.ntmps (.block 6 (.loop (bodyOf 6 Try.f129))) (B129_6c1_6 fuel) :=
  blk_of (blk_of_code tab_ok (hG129_6c1 fuel) mixed (J := J129_6c1_6 fuel) (kp := kp129_6c1) (fuel := fuel) (by kernel_rfl) (fun q hq => by
    rw [(by kernel_rfl : obl (J129_6c1_6 fuel) (.block 6 (.loop (bodyOf 6 Try.f129))) = [])] at hq
    cases hq)) (B129_6c1_6_ok fuel)
theorem B129_6c1_4_blk (fuel : Nat) : BlkOK Try.prog Try.f129.ntmps (.block 4 (.loop (bodyOf 4 Try.f129))) (B129_6c1_4 fuel) :=
  blk_of (blk_of_code tab_ok (hG129_6c1 fuel) mixed (J := J129_6c1_4 fuel) (kp := kp129_6c1) (fuel := fuel) (by kernel_rfl) (fun q hq => by
    rw [(by kernel_rfl : obl (J129_6c1_4 fuel) (.block 4 (.loop (bodyOf 4 Try.f129))) = [(.block 6 (.loop (bodyOf 6 Try.f129)), B129_6c1_6 fuel)])] at hq
    simp only [List.mem_cons, List.not_mem_nil, or_false] at hq
    subst hq
    · exact B129_6c1_6_blk fuel)) (B129_6c1_4_ok fuel)
theorem fok129_6c1 (fuel : Nat) : FnOK Try.prog 129 (evalFn tab (G129_6c1 fuel) (J129_6c1 fuel) kp129_6c1 fuel Try.f129) :=
  fn_ok tab_ok (hG129_6c1 fuel) mixed Try.func129 (c := (Try.f129.body).getD .skip) rfl (fun q hq => by
    rw [(by kernel_rfl : obl (J129_6c1 fuel) ((Try.f129.body).getD .skip) = [(.block 0 (.loop (bodyOf 0 Try.f129)), B129_6c1_0 fuel), (.block 4 (.loop (bodyOf 4 Try.f129)), B129_6c1_4 fuel)])] at hq
    simp only [List.mem_cons, List.not_mem_nil, or_false] at hq
    rcases hq with rfl | rfl
    · exact B129_6c1_0_blk fuel
    · exact B129_6c1_4_blk fuel)
noncomputable def mt129_6c1 : List Ev.SV → List Ev.Ob → Bool := fun args objs => match args, objs with
 | [.c (.ptr q0 q1), .c (.int .i64 _), .agg [.int .i64 _, .int .i64 _, .int .i64 _, .bool _, .int .i64 _], .agg [.int .i64 _, .int .i64 _, .sl (.int .u8) _], .agg [.int .i64 _, .int .i64 _, .sl (.int .u8) _]], [.cells q2 [.int .i64 _, .own q3, .int .u64 _, .int .u64 _, .own q4], .vec q5 (.int .i64) _ false, .vec q6 (.int .u8) _ false] => Nat.beq q0 0 && Nat.beq q1 0 && Nat.beq q2 225 && Nat.beq q3 1 && Nat.beq q4 2 && Nat.beq q5 3 && Nat.beq q6 5
 | _, _ => false
noncomputable def spg129_6c1 (F : YF129_6c1) : Ev.Spec := fun args objs k => match args, objs with
 | [.c (.ptr q0 q1), .c (.int .i64 x0), .agg [.int .i64 x1, .int .i64 x2, .int .i64 x3, .bool x4, .int .i64 x5], .agg [.int .i64 x6, .int .i64 x7, .sl (.int .u8) x8], .agg [.int .i64 x9, .int .i64 x10, .sl (.int .u8) x11]], [.cells q2 [.int .i64 x12, .own q3, .int .u64 x13, .int .u64 x14, .own q4], .vec q5 (.int .i64) x15 false, .vec q6 (.int .u8) x16 false] => bif Nat.beq q0 0 && Nat.beq q1 0 && Nat.beq q2 225 && Nat.beq q3 1 && Nat.beq q4 2 && Nat.beq q5 3 && Nat.beq q6 5 then F x0 x1 x2 x3 x4 x5 x6 x7 x8 x9 x10 x11 x12 x13 x14 x15 x16 (fun r => match r with | (r0, r1, r2, r3, r4, r5) => k (.c (.int .i64 r0), [.cells 225 [.int .i64 r1, .own 1, .int .u64 r2, .int .u64 r3, .own 2], .vec 3 (.int .i64) r4 false, .vec 5 (.int .u8) r5 false])) (fun r => match r with | (r0, r1, r2, r3, r4, r5) => k (.c (.int .i64 r0), [.cells 225 [.int .i64 r1, .own 1, .int .u64 r2, .int .u64 r3, .own 2], .vec 3 (.int .i64) r4 false, .vec 5 (.int .u8) r5 true])) else none
 | _, _ => none
noncomputable def spec129_6c1 (fuel : Nat) : Ev.Spec := spg129_6c1 (F_ref07_Put_6c1 fuel)
theorem ok129_6c1 (fuel : Nat) : FnOK Try.prog 129 (spec129_6c1 fuel) := by
  intro args objs kk r h
  unfold spec129_6c1 spg129_6c1 at h
  split at h
  · skip
    obtain ⟨hb, h⟩ := cond_some' h
    simp only [Bool.and_eq_true, Nat.beq_eq, decide_eq_true_eq] at hb
    obtain ⟨⟨⟨⟨⟨⟨rfl, rfl⟩, rfl⟩, rfl⟩, rfl⟩, rfl⟩, rfl⟩ := hb
    exact fok129_6c1 fuel _ _ kk r ((F129_6c1_eq fuel _ _ _ _ _ _ _ _ _ _ _ _ _ _ _ _ _ kk).trans h)
  · cases h
end Go.Proofs.Ytihfgpfofmjbaaa

set_option linter.unusedVariables false
set_option linter.unusedSimpArgs false
set_option maxRecDepth 100000
set_option maxHeartbeats 2000000
namespace Go.Proofs.Ytihfgpfofmjbaaa
open Go Ev
def kp47 (i : Nat) : Option (List Nat) := Ev.look i []
noncomputable def Gg47 (f43 : YF43) (f122 : YF122) (f128 : YF128) (f129_6c1 : YF129_6c1) (f130_2fe : YF130_2fe) (f : Nat) : Option Ev.Spec := Ev.look f [(43, spg43 f43), (122, spg122 f122), (128, spg128 f128), (129, spg129_6c1 f129_6c1), (130, spg130_2fe f130_2fe)]
noncomputable def G47 (fuel : Nat) : Nat → Option Ev.Spec := Gg47 (F_ref02_New fuel) (F_ref07_Size fuel) (F_ref02_NewEncoder fuel) (F_ref07_Put_6c1 fuel) (F_ref02_Encoder_End_2fe fuel)
noncomputable def J47 (fuel : Nat) (i : Nat) : Option Ev.Blk := Ev.look i []
noncomputable def Fg_ref07_Encode (fuel : Nat) (f43 : YF43) (f122 : YF122) (f128 : YF128) (f129_6c1 : YF129_6c1) (f130_2fe : YF130_2fe) (x0 x1 x2 : Int) (x3 : Bool) (x4 x5 x6 : Int) (x7 : (List Int)) (k0 : (Int × (List Int)) → Option Ans) : Option Ans :=
  (f122 (x0) (x1) (x2) (x3) (x4)
  (fun (y2_0, y2_1) =>
  bif y2_1 != (0 : Int) then
  k0 (y2_1, [])
  else
  (f43 (x4) (y2_0)
  (fun (y7_0, y7_1, y7_2) =>
  (f128 (y7_0) (y7_2)
  (fun y11 =>
  none)
  (fun (y11_0, y11_1, y11_2, y11_3, y11_4, y11_5) =>
  (f129_6c1 ((0 : Int)) (x0) (x1) (x2) (x3) (x4) (x5) (x6) (x7) ((0 : Int)) ((0 : Int)) ([]) (y11_1) (y11_2) (y11_3) (y11_4) (y11_5)
  (fun (y15_0, y15_1, y15_2, y15_3, y15_4, y15_5) =>
  bif y15_0 != (0 : Int) then
  k0 (y15_0, [])
  else
  (f130_2fe (y15_1) (y15_2) (y15_3) (y15_4) (y15_5)
  (fun (y20_0, y20_1, y20_2, y20_3, y20_4, y20_5) =>
  k0 ((0 : Int), y20_5))))
  (fun (y15_0, y15_1, y15_2, y15_3, y15_4, y15_5) =>
  bif y15_0 != (0 : Int) then
  k0 (y15_0, [])
  else
  (f130_2fe (y15_1) (y15_2) (y15_3) (y15_4) (y15_5)
  (fun (y20_0, y20_1, y20_2, y20_3, y20_4, y20_5) =>
  k0 ((0 : Int), y20_5)))))))))))
noncomputable def F_ref07_Encode (fuel : Nat) (x0 x1 x2 : Int) (x3 : Bool) (x4 x5 x6 : Int) (x7 : (List Int)) (k0 : (Int × (List Int)) → Option Ans) : Option Ans := Fg_ref07_Encode fuel (F_ref02_New fuel) (F_ref07_Size fuel) (F_ref02_NewEncoder fuel) (F_ref07_Put_6c1 fuel) (F_ref02_Encoder_End_2fe fuel) x0 x1 x2 x3 x4 x5 x6 x7 k0
abbrev YF47 : Type := (Int) → (Int) → (Int) → (Bool) → (Int) → (Int) → (Int) → ((List Int)) → ((Int × (List Int)) → Option Ans) → Option Ans
theorem F47_eqg (fuel : Nat) (f43 : YF43) (f122 : YF122) (f128 : YF128) (f129_6c1 : YF129_6c1) (f130_2fe : YF130_2fe) (x0 x1 x2 : Int) (x3 : Bool) (x4 x5 x6 : Int) (x7 : (List Int)) (k : Ev.Cont) : evalFn tab (Gg47 f43 f122 f128 f129_6c1 f130_2fe) (J47 fuel) kp47 fuel Try.f47 [.agg [.int .i64 x0, .int .i64 x1, .int .i64 x2, .bool x3, .int .i64 x4], .agg [.int .i64 x5, .int .i64 x6, .sl (.int .u8) x7]] [] k = Fg_ref07_Encode fuel f43 f122 f128 f129_6c1 f130_2fe x0 x1 x2 x3 x4 x5 x6 x7 (fun r => match r with | (r0, r1) => k (.tup [(false, [.own 0]), (false, [.int .i64 r0])], [.vec 5 (.int .u8) r1 true])) := by
  kernel_rfl
theorem F47_eq (fuel : Nat) (x0 x1 x2 : Int) (x3 : Bool) (x4 x5 x6 : Int) (x7 : (List Int)) (k : Ev.Cont) : evalFn tab (G47 fuel) (J47 fuel) kp47 fuel Try.f47 [.agg [.int .i64 x0, .int .i64 x1, .int .i64 x2, .bool x3, .int .i64 x4], .agg [.int .i64 x5, .int .i64 x6, .sl (.int .u8) x7]] [] k = F_ref07_Encode fuel x0 x1 x2 x3 x4 x5 x6 x7 (fun r => match r with | (r0, r1) => k (.tup [(false, [.own 0]), (false, [.int .i64 r0])], [.vec 5 (.int .u8) r1 true])) :=
  F47_eqg fuel (F_ref02_New fuel) (F_ref07_Size fuel) (F_ref02_NewEncoder fuel) (F_ref07_Put_6c1 fuel) (F_ref02_Encoder_End_2fe fuel) x0 x1 x2 x3 x4 x5 x6 x7 k
theorem hG47 (fuel : Nat) : GOK Try.prog (G47 fuel) :=
  gok_cons ⟨ok43 fuel, enters_of Try.func43 (by kernel_rfl) rfl⟩ <|
  gok_cons ⟨ok122 fuel, enters_of Try.func122 (by kernel_rfl) rfl⟩ <|
  gok_cons ⟨ok128 fuel, enters_of Try.func128 (by kernel_rfl) rfl⟩ <|
  gok_cons ⟨ok129_6c1 fuel, enters_of Try.func129 (by kernel_rfl) rfl⟩ <|
  gok_cons ⟨ok130_2fe fuel, enters_of Try.func130 (by kernel_rfl) rfl⟩ <|
  gok_nil
theorem fok47 (fuel : Nat) : FnOK Try.prog 47 (evalFn tab (G47 fuel) (J47 fuel) kp47 fuel Try.f47) :=
  fn_ok tab_ok (hG47 fuel) mixed Try.func47 (c := (Try.f47.body).getD .skip) rfl (fun q hq => by
    rw [(by kernel_rfl : obl (J47 fuel) ((Try.f47.body).getD .skip) = [])] at hq
    cases hq)
noncomputable def mt47 : List Ev.SV → List Ev.Ob → Bool := fun args objs => match args, objs with
 | [.agg [.int .i64 _, .int .i64 _, .int .i64 _, .bool _, .int .i64 _], .agg [.int .i64 _, .int .i64 _, .sl (.int .u8) _]], [] => true
 | _, _ => false
noncomputable def spg47 (F : YF47) : Ev.Spec := fun args objs k => match args, objs with
 | [.agg [.int .i64 x0, .int .i64 x1, .int .i64 x2, .bool x3, .int .i64 x4], .agg [.int .i64 x5, .int .i64 x6, .sl (.int .u8) x7]], [] => bif true then F x0 x1 x2 x3 x4 x5 x6 x7 (fun r => match r with | (r0, r1) => k (.tup [(false, [.own 0]), (false, [.int .i64 r0])], [.vec 5 (.int .u8) r1 true])) else none
 | _, _ => none
noncomputable def spec47 (fuel : Nat) : Ev.Spec := spg47 (F_ref07_Encode fuel)
theorem ok47 (fuel : Nat) : FnOK Try.prog 47 (spec47 fuel) := by
  intro args objs kk r h
  unfold spec47 spg47 at h
  split at h
  · skip
    obtain ⟨hb, h⟩ := cond_some' h
    simp only [Bool.and_eq_true, Nat.beq_eq, decide_eq_true_eq] at hb
    clear hb
    exact fok47 fuel _ _ kk r ((F47_eq fuel _ _ _ _ _ _ _ _ kk).trans h)
  · cases h
end Go.Proofs.Ytihfgpfofmjbaaa

