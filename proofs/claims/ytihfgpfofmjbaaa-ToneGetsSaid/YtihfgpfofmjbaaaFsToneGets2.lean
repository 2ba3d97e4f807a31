/- What the functions that ToneGets reaches do: their typed texts, each with the proof that the machine does it. No condition. -/
import Derived.Test.YtihfgpfofmjbaaaEvX
import Derived.Test.YtihfgpfofmjbaaaFsToneGets1
set_option linter.unusedVariables false
set_option linter.unusedSimpArgs false
set_option linter.unusedVariables false
set_option linter.unusedSimpArgs false
set_option maxRecDepth 100000
set_option maxHeartbeats 2000000
namespace Go.Proofs.Ytihfgpfofmjbaaa
open Go Ev
def kp126 (i : Nat) : Option (List Nat) := Ev.look i [(4, [2, 3, 5, 9, 10, 11]), (100000, [10]), (200006, [5, 9]), (400000, [8])]
noncomputable def Gg126 (f125 : YF125) (f180 : YF180) (f : Nat) : Option Ev.Spec := Ev.look f [(125, spg125 f125), (180, spg180 f180)]
noncomputable def G126 (fuel : Nat) : Nat → Option Ev.Spec := Gg126 (F_ref05_At fuel) (F_ref07_pixels fuel)
noncomputable def Sg_ref07_context_0 (fuel : Nat) (f125 : YF125) (f180 : YF180) (x0 x1 : Int) (x2 x3 : Int) (x4 x5 : Int) (x6 : (List Int)) (x7 : (List (Int × Int))) (c : (Int × Int × Int × Int × Int × Int × (List Int) × (List (Int × Int))) → Option Ans) (B : (Int → Option Ans)) : Option Ans := match B with
 | b =>
  bif decide (x3 < (↑x7.length : Int)) then
  bif decide ((0 : Int) ≤ x3 ∧ x3 < (↑x7.length : Int)) then
  bif decide ((0 : Int) ≤ x3 ∧ x3 < (↑x7.length : Int)) then
  both ((f125 (x4) (x5) (x6) (IntKind.i64.wrap (x0 + (x7.getD x3.toNat ((0 : Int), (0 : Int))).fst)) (IntKind.i64.wrap (x1 + (x7.getD x3.toNat ((0 : Int), (0 : Int))).snd))
  (fun y7 =>
  c (x0, x1, IntKind.i64.wrap (IntKind.i64.wrap ((2 : Int) * x2) + y7), IntKind.i64.wrap (x3 + (1 : Int)), x4, x5, x6, x7))))
  ((f125 (x4) (x5) (x6) (IntKind.i64.wrap (x0 + (x7.getD x3.toNat ((0 : Int), (0 : Int))).fst)) (IntKind.i64.wrap (x1 + (x7.getD x3.toNat ((0 : Int), (0 : Int))).snd))
  (fun y7 =>
  c (x0, x1, IntKind.i64.wrap (IntKind.i64.wrap ((2 : Int) * x2) + y7), IntKind.i64.wrap (x3 + (1 : Int)), x4, x5, x6, x7))))
  else none
  else none
  else
  b x2
noncomputable def S_ref07_context_0 (fuel : Nat) (v : Int × Int × Int × Int × Int × Int × (List Int) × (List (Int × Int))) (c : (Int × Int × Int × Int × Int × Int × (List Int) × (List (Int × Int))) → Option Ans) (B : (Int → Option Ans)) : Option Ans := match v with
 | (x0, x1, x2, x3, x4, x5, x6, x7) => Sg_ref07_context_0 fuel (F_ref05_At fuel) (F_ref07_pixels fuel) x0 x1 x2 x3 x4 x5 x6 x7 c B
noncomputable def L_ref07_context_0 (fuel : Nat) (v : Int × Int × Int × Int × Int × Int × (List Int) × (List (Int × Int))) (b : (Int → Option Ans)) : Option Ans := iter (S_ref07_context_0 fuel) fuel v b
noncomputable def J126_0 (fuel : Nat) (i : Nat) : Option Ev.Blk := Ev.look i []
noncomputable def T126_0 (v : Int × Int × Int × Int × Int × Int × (List Int) × (List (Int × Int))) : Ev.St := match v with | (x0, x1, x2, x3, x4, x5, x6, x7) => ⟨[(2, .c (.int .i64 x0)), (3, .c (.int .i64 x1)), (5, .c (.ptr 0 0)), (9, .c (.own 1)), (10, .c (.int .i64 x2)), (11, .c (.int .i64 x3))], [(0, .cells 39 [.int .i64 x4, .int .i64 x5, .sl (.int .u8) x6]), (1, .vec 223 (.pair (.int .i64) (.int .i64)) x7 true)], 2, 0⟩
noncomputable def E126_0 (K : Ev.Ex → Ev.St → Option Ans) : (Int → Option Ans) := (fun v => match v with | x0 => K .normal ⟨[(10, .c (.int .i64 x0))], [], 0, 0⟩)
theorem S126_0_okg (fuel : Nat) (f125 : YF125) (f180 : YF180) (R : Ev.St → Option Ans) (K : Ev.Ex → Ev.St → Option Ans) (x0 x1 : Int) (x2 x3 : Int) (x4 x5 : Int) (x6 : (List Int)) (x7 : (List (Int × Int))) : evalCode tab (Gg126 f125 f180) (J126_0 fuel) kp126 fuel (bodyOf 0 Try.f126) (T126_0 (x0, x1, x2, x3, x4, x5, x6, x7)) (lc kp126 4 0 R K) = Sg_ref07_context_0 fuel f125 f180 x0 x1 x2 x3 x4 x5 x6 x7 (fun v => R (T126_0 v)) (E126_0 K) := by
  kernel_rfl
theorem S126_0_ok (fuel : Nat) (R : Ev.St → Option Ans) (K : Ev.Ex → Ev.St → Option Ans) (x0 x1 : Int) (x2 x3 : Int) (x4 x5 : Int) (x6 : (List Int)) (x7 : (List (Int × Int))) : evalCode tab (G126 fuel) (J126_0 fuel) kp126 fuel (bodyOf 0 Try.f126) (T126_0 (x0, x1, x2, x3, x4, x5, x6, x7)) (lc kp126 4 0 R K) = S_ref07_context_0 fuel (x0, x1, x2, x3, x4, x5, x6, x7) (fun v => R (T126_0 v)) (E126_0 K) :=
  S126_0_okg fuel (F_ref05_At fuel) (F_ref07_pixels fuel) R K x0 x1 x2 x3 x4 x5 x6 x7
noncomputable def B126_0 (fuel : Nat) : Ev.Blk := fun st K => match canonO (kp126 4) st with
 | some s => (match s with
 | ⟨[(q0, .c (.int .i64 x0)), (q1, .c (.int .i64 x1)), (q2, .c (.ptr q3 q4)), (q5, .c (.own q6)), (q7, .c (.int .i64 x2)), (q8, .c (.int .i64 x3))], [(q9, .cells q10 [.int .i64 x4, .int .i64 x5, .sl (.int .u8) x6]), (q11, .vec q12 (.pair (.int .i64) (.int .i64)) x7 true)], q13, q14⟩ => bif Nat.beq q0 2 && Nat.beq q1 3 && Nat.beq q2 5 && Nat.beq q3 0 && Nat.beq q4 0 && Nat.beq q5 9 && Nat.beq q6 1 && Nat.beq q7 10 && Nat.beq q8 11 && Nat.beq q9 0 && Nat.beq q10 39 && Nat.beq q11 1 && Nat.beq q12 223 && Nat.beq q13 2 && Nat.beq q14 0 then iter (S_ref07_context_0 fuel) fuel (x0, x1, x2, x3, x4, x5, x6, x7) (E126_0 K) else none
 | _ => none)
 | none => none
theorem B126_0_ok (fuel : Nat) (st : Ev.St) (K : Ev.Ex → Ev.St → Option Ans) (r : Ans) (h : B126_0 fuel st K = some r) : evalCode tab (G126 fuel) (J126_0 fuel) kp126 fuel (.block 0 (.loop (bodyOf 0 Try.f126))) st K = some r := by
  unfold B126_0 at h
  split at h
  · rename_i s hs
    split at h
    · skip
      obtain ⟨hb, h⟩ := cond_some' h
      simp only [Bool.and_eq_true, Nat.beq_eq, decide_eq_true_eq] at hb
      obtain ⟨⟨⟨⟨⟨⟨⟨⟨⟨⟨⟨⟨⟨⟨rfl, rfl⟩, rfl⟩, rfl⟩, rfl⟩, rfl⟩, rfl⟩, rfl⟩, rfl⟩, rfl⟩, rfl⟩, rfl⟩, rfl⟩, rfl⟩, rfl⟩ := hb
      exact blk_loop (S := T126_0) (ks := E126_0) (step := S_ref07_context_0 fuel) (v := (_, _, _, _, _, _, _, _)) (by kernel_rfl) (by kernel_rfl) (fun R K v => by obtain ⟨x0, x1, x2, x3, x4, x5, x6, x7⟩ := v; exact S126_0_ok fuel R K x0 x1 x2 x3 x4 x5 x6 x7) hs h
    · cases h
  · cases h
noncomputable def J126 (fuel : Nat) (i : Nat) : Option Ev.Blk := Ev.look i [(100000, B126_0 fuel)]
noncomputable def Fg_ref07_context (fuel : Nat) (f125 : YF125) (f180 : YF180) (x0 x1 x2 : Int) (x3 : Bool) (x4 x5 x6 : Int) (x7 : (List Int)) (x8 x9 : Int) (k0 : (Int) → Option Ans) : Option Ans :=
  (f180 (x0) (x1) (x2) (x3) (x4)
  (fun y2 =>
  (L_ref07_context_0 fuel (x8, x9, (0 : Int), (0 : Int), x5, x6, x7, y2)
  (fun b0_0 =>
  k0 b0_0))))
noncomputable def F_ref07_context (fuel : Nat) (x0 x1 x2 : Int) (x3 : Bool) (x4 x5 x6 : Int) (x7 : (List Int)) (x8 x9 : Int) (k0 : (Int) → Option Ans) : Option Ans := Fg_ref07_context fuel (F_ref05_At fuel) (F_ref07_pixels fuel) x0 x1 x2 x3 x4 x5 x6 x7 x8 x9 k0
abbrev YF126 : Type := (Int) → (Int) → (Int) → (Bool) → (Int) → (Int) → (Int) → ((List Int)) → (Int) → (Int) → ((Int) → Option Ans) → Option Ans
theorem F126_eqg (fuel : Nat) (f125 : YF125) (f180 : YF180) (x0 x1 x2 : Int) (x3 : Bool) (x4 x5 x6 : Int) (x7 : (List Int)) (x8 x9 : Int) (k : Ev.Cont) : evalFn tab (Gg126 f125 f180) (J126 fuel) kp126 fuel Try.f126 [.agg [.int .i64 x0, .int .i64 x1, .int .i64 x2, .bool x3, .int .i64 x4], .agg [.int .i64 x5, .int .i64 x6, .sl (.int .u8) x7], .c (.int .i64 x8), .c (.int .i64 x9)] [] k = Fg_ref07_context fuel f125 f180 x0 x1 x2 x3 x4 x5 x6 x7 x8 x9 (fun r => match r with | r0 => k (.c (.int .i64 r0), [])) := by
  kernel_rfl
theorem F126_eq (fuel : Nat) (x0 x1 x2 : Int) (x3 : Bool) (x4 x5 x6 : Int) (x7 : (List Int)) (x8 x9 : Int) (k : Ev.Cont) : evalFn tab (G126 fuel) (J126 fuel) kp126 fuel Try.f126 [.agg [.int .i64 x0, .int .i64 x1, .int .i64 x2, .bool x3, .int .i64 x4], .agg [.int .i64 x5, .int .i64 x6, .sl (.int .u8) x7], .c (.int .i64 x8), .c (.int .i64 x9)] [] k = F_ref07_context fuel x0 x1 x2 x3 x4 x5 x6 x7 x8 x9 (fun r => match r with | r0 => k (.c (.int .i64 r0), [])) :=
  F126_eqg fuel (F_ref05_At fuel) (F_ref07_pixels fuel) x0 x1 x2 x3 x4 x5 x6 x7 x8 x9 k
theorem hG126 (fuel : Nat) : GOK Try.prog (G126 fuel) :=
  gok_cons ⟨ok125 fuel, enters_of Try.func125 (by kernel_rfl) rfl⟩ <|
  gok_cons ⟨ok180 fuel, enters_of Try.func180 (by kernel_rfl) rfl⟩ <|
  gok_nil
theorem B126_0_blk (fuel : Nat) : BlkOK Try.prog Try.f126.ntmps (.block 0 (.loop (bodyOf 0 Try.f126))) (B126_0 fuel) :=
  blk_of (blk_of_code tab_ok (hG126 fuel) mixed (J := J126_0 fuel) (kp := kp126) (fuel := fuel) (by kernel_rfl) (fun q hq => by
    rw [(by kernel_rfl : obl (J126_0 fuel) (.block 0 (.loop (bodyOf 0 Try.f126))) = [])] at hq
    cases hq)) (B126_0_ok fuel)
theorem fok126 (fuel : Nat) : FnOK Try.prog 126 (evalFn tab (G126 fuel) (J126 fuel) kp126 fuel Try.f126) :=
  fn_ok tab_ok (hG126 fuel) mixed Try.func126 (c := (Try.f126.body).getD .skip) rfl (fun q hq => by
    rw [(by kernel_rfl : obl (J126 fuel) ((Try.f126.body).getD .skip) = [(.block 0 (.loop (bodyOf 0 Try.f126)), B126_0 fuel)])] at hq
    simp only [List.mem_cons, List.not_mem_nil, or_false] at hq
    subst hq
    · exact B126_0_blk fuel)
noncomputable def mt126 : List Ev.SV → List Ev.Ob → Bool := fun args objs => match args, objs with
 | [.agg [.int .i64 _, .int .i64 _, .int .i64 _, .bool _, .int .i64 _], .agg [.int .i64 _, .int .i64 _, .sl (.int .u8) _], .c (.int .i64 _), .c (.int .i64 _)], [] => true
 | _, _ => false
noncomputable def spg126 (F : YF126) : Ev.Spec := fun args objs k => match args, objs with
 | [.agg [.int .i64 x0, .int .i64 x1, .int .i64 x2, .bool x3, .int .i64 x4], .agg [.int .i64 x5, .int .i64 x6, .sl (.int .u8) x7], .c (.int .i64 x8), .c (.int .i64 x9)], [] => bif true then F x0 x1 x2 x3 x4 x5 x6 x7 x8 x9 (fun r => match r with | r0 => k (.c (.int .i64 r0), [])) else none
 | _, _ => none
noncomputable def spec126 (fuel : Nat) : Ev.Spec := spg126 (F_ref07_context fuel)
theorem ok126 (fuel : Nat) : FnOK Try.prog 126 (spec126 fuel) := by
  intro args objs kk r h
  unfold spec126 spg126 at h
  split at h
  · skip
    obtain ⟨hb, h⟩ := cond_some' h
    simp only [Bool.and_eq_true, Nat.beq_eq, decide_eq_true_eq] at hb
    clear hb
    exact fok126 fuel _ _ kk r ((F126_eq fuel _ _ _ _ _ _ _ _ _ _ kk).trans h)
  · cases h
end Go.Proofs.Ytihfgpfofmjbaaa

set_option linter.unusedVariables false
set_option linter.unusedSimpArgs false
set_option maxRecDepth 100000
set_option maxHeartbeats 2000000
namespace Go.Proofs.Ytihfgpfofmjbaaa
open Go Ev
def kp179 (i : Nat) : Option (List Nat) := Ev.look i []
noncomputable def Gg179 (f : Nat) : Option Ev.Spec := Ev.look f []
noncomputable def G179 (fuel : Nat) : Nat → Option Ev.Spec := Gg179
noncomputable def J179 (fuel : Nat) (i : Nat) : Option Ev.Blk := Ev.look i []
noncomputable def F_ref07_none (fuel : Nat) (x0 x1 : Int) (x2 : (List Int)) (k0 : (Bool) → Option Ans) : Option Ans :=
  bif x0 == (0 : Int) then
  k0 (x1 == (0 : Int))
  else
  k0 false
abbrev YF179 : Type := (Int) → (Int) → ((List Int)) → ((Bool) → Option Ans) → Option Ans
theorem F179_eq (fuel : Nat) (x0 x1 : Int) (x2 : (List Int)) (k : Ev.Cont) : evalFn tab (G179 fuel) (J179 fuel) kp179 fuel Try.f179 [.agg [.int .i64 x0, .int .i64 x1, .sl (.int .u8) x2]] [] k = F_ref07_none fuel x0 x1 x2 (fun r => match r with | r0 => k (.c (.bool r0), [])) := by
  kernel_rfl
theorem hG179 (fuel : Nat) : GOK Try.prog (G179 fuel) :=
  gok_nil
theorem fok179 (fuel : Nat) : FnOK Try.prog 179 (evalFn tab (G179 fuel) (J179 fuel) kp179 fuel Try.f179) :=
  fn_ok tab_ok (hG179 fuel) mixed Try.func179 (c := (Try.f179.body).getD .skip) rfl (fun q hq => by
    rw [(by kernel_rfl : obl (J179 fuel) ((Try.f179.body).getD .skip) = [])] at hq
    cases hq)
noncomputable def mt179 : List Ev.SV → List Ev.Ob → Bool := fun args objs => match args, objs with
 | [.agg [.int .i64 _, .int .i64 _, .sl (.int .u8) _]], [] => true
 | _, _ => false
noncomputable def spg179 (F : YF179) : Ev.Spec := fun args objs k => match args, objs with
 | [.agg [.int .i64 x0, .int .i64 x1, .sl (.int .u8) x2]], [] => bif true then F x0 x1 x2 (fun r => match r with | r0 => k (.c (.bool r0), [])) else none
 | _, _ => none
noncomputable def spec179 (fuel : Nat) : Ev.Spec := spg179 (F_ref07_none fuel)
theorem ok179 (fuel : Nat) : FnOK Try.prog 179 (spec179 fuel) := by
  intro args objs kk r h
  unfold spec179 spg179 at h
  split at h
  · skip
    obtain ⟨hb, h⟩ := cond_some' h
    simp only [Bool.and_eq_true, Nat.beq_eq, decide_eq_true_eq] at hb
    clear hb
    exact fok179 fuel _ _ kk r ((F179_eq fuel _ _ _ kk).trans h)
  · cases h
end Go.Proofs.Ytihfgpfofmjbaaa

set_option linter.unusedVariables false
set_option linter.unusedSimpArgs false
set_option maxRecDepth 100000
set_option maxHeartbeats 2000000
namespace Go.Proofs.Ytihfgpfofmjbaaa
open Go Ev
def kp120 (i : Nat) : Option (List Nat) := Ev.look i []
noncomputable def Gg120 (f122 : YF122) (f179 : YF179) (f : Nat) : Option Ev.Spec := Ev.look f [(122, spg122 f122), (179, spg179 f179)]
noncomputable def G120 (fuel : Nat) : Nat → Option Ev.Spec := Gg120 (F_ref07_Size fuel) (F_ref07_none fuel)
noncomputable def J120 (fuel : Nat) (i : Nat) : Option Ev.Blk := Ev.look i []
noncomputable def Fg_ref07_room (fuel : Nat) (f122 : YF122) (f179 : YF179) (x0 x1 x2 : Int) (x3 : Bool) (x4 x5 : Int) (x6 x7 : Int) (x8 x9 x10 : Int) (x11 : (List Int)) (k0 : (Int) → Option Ans) : Option Ans :=
  (f122 (x0) (x1) (x2) (x3) (x4)
  (fun (y2_0, y2_1) =>
  (f179 (x9) (x10) (x11)
  (fun y6 =>
  bif !y6 then
  bif x9 != x7 then
  k0 ((2 : Int))
  else
  bif x10 != x8 then
  k0 ((2 : Int))
  else
  bif decide (x5 < (0 : Int)) then
  k0 ((2 : Int))
  else
  bif decide (x5 > x6) then
  k0 ((2 : Int))
  else
  bif decide (y2_0 > IntKind.i64.wrap (x6 - x5)) then
  k0 ((2 : Int))
  else
  k0 ((0 : Int))
  else
  bif decide (x5 < (0 : Int)) then
  k0 ((2 : Int))
  else
  bif decide (x5 > x6) then
  k0 ((2 : Int))
  else
  bif decide (y2_0 > IntKind.i64.wrap (x6 - x5)) then
  k0 ((2 : Int))
  else
  k0 ((0 : Int))))))
noncomputable def F_ref07_room (fuel : Nat) (x0 x1 x2 : Int) (x3 : Bool) (x4 x5 : Int) (x6 x7 : Int) (x8 x9 x10 : Int) (x11 : (List Int)) (k0 : (Int) → Option Ans) : Option Ans := Fg_ref07_room fuel (F_ref07_Size fuel) (F_ref07_none fuel) x0 x1 x2 x3 x4 x5 x6 x7 x8 x9 x10 x11 k0
abbrev YF120 : Type := (Int) → (Int) → (Int) → (Bool) → (Int) → (Int) → (Int) → (Int) → (Int) → (Int) → (Int) → ((List Int)) → ((Int) → Option Ans) → Option Ans
theorem F120_eqg (fuel : Nat) (f122 : YF122) (f179 : YF179) (x0 x1 x2 : Int) (x3 : Bool) (x4 x5 : Int) (x6 x7 : Int) (x8 x9 x10 : Int) (x11 : (List Int)) (k : Ev.Cont) : evalFn tab (Gg120 f122 f179) (J120 fuel) kp120 fuel Try.f120 [.agg [.int .i64 x0, .int .i64 x1, .int .i64 x2, .bool x3, .int .i64 x4], .c (.int .i64 x5), .c (.int .i64 x6), .c (.int .i64 x7), .c (.int .i64 x8), .agg [.int .i64 x9, .int .i64 x10, .sl (.int .u8) x11]] [] k = Fg_ref07_room fuel f122 f179 x0 x1 x2 x3 x4 x5 x6 x7 x8 x9 x10 x11 (fun r => match r with | r0 => k (.c (.int .i64 r0), [])) := by
  kernel_rfl
theorem F120_eq (fuel : Nat) (x0 x1 x2 : Int) (x3 : Bool) (x4 x5 : Int) (x6 x7 : Int) (x8 x9 x10 : Int) (x11 : (List Int)) (k : Ev.Cont) : evalFn tab (G120 fuel) (J120 fuel) kp120 fuel Try.f120 [.agg [.int .i64 x0, .int .i64 x1, .int .i64 x2, .bool x3, .int .i64 x4], .c (.int .i64 x5), .c (.int .i64 x6), .c (.int .i64 x7), .c (.int .i64 x8), .agg [.int .i64 x9, .int .i64 x10, .sl (.int .u8) x11]] [] k = F_ref07_room fuel x0 x1 x2 x3 x4 x5 x6 x7 x8 x9 x10 x11 (fun r => match r with | r0 => k (.c (.int .i64 r0), [])) :=
  F120_eqg fuel (F_ref07_Size fuel) (F_ref07_none fuel) x0 x1 x2 x3 x4 x5 x6 x7 x8 x9 x10 x11 k
theorem hG120 (fuel : Nat) : GOK Try.prog (G120 fuel) :=
  gok_cons ⟨ok122 fuel, enters_of Try.func122 (by kernel_rfl) rfl⟩ <|
  gok_cons ⟨ok179 fuel, enters_of Try.func179 (by kernel_rfl) rfl⟩ <|
  gok_nil
theorem fok120 (fuel : Nat) : FnOK Try.prog 120 (evalFn tab (G120 fuel) (J120 fuel) kp120 fuel Try.f120) :=
  fn_ok tab_ok (hG120 fuel) mixed Try.func120 (c := (Try.f120.body).getD .skip) rfl (fun q hq => by
    rw [(by kernel_rfl : obl (J120 fuel) ((Try.f120.body).getD .skip) = [])] at hq
    cases hq)
noncomputable def mt120 : List Ev.SV → List Ev.Ob → Bool := fun args objs => match args, objs with
 | [.agg [.int .i64 _, .int .i64 _, .int .i64 _, .bool _, .int .i64 _], .c (.int .i64 _), .c (.int .i64 _), .c (.int .i64 _), .c (.int .i64 _), .agg [.int .i64 _, .int .i64 _, .sl (.int .u8) _]], [] => true
 | _, _ => false
noncomputable def spg120 (F : YF120) : Ev.Spec := fun args objs k => match args, objs with
 | [.agg [.int .i64 x0, .int .i64 x1, .int .i64 x2, .bool x3, .int .i64 x4], .c (.int .i64 x5), .c (.int .i64 x6), .c (.int .i64 x7), .c (.int .i64 x8), .agg [.int .i64 x9, .int .i64 x10, .sl (.int .u8) x11]], [] => bif true then F x0 x1 x2 x3 x4 x5 x6 x7 x8 x9 x10 x11 (fun r => match r with | r0 => k (.c (.int .i64 r0), [])) else none
 | _, _ => none
noncomputable def spec120 (fuel : Nat) : Ev.Spec := spg120 (F_ref07_room fuel)
theorem ok120 (fuel : Nat) : FnOK Try.prog 120 (spec120 fuel) := by
  intro args objs kk r h
  unfold spec120 spg120 at h
  split at h
  · skip
    obtain ⟨hb, h⟩ := cond_some' h
    simp only [Bool.and_eq_true, Nat.beq_eq, decide_eq_true_eq] at hb
    clear hb
    exact fok120 fuel _ _ kk r ((F120_eq fuel _ _ _ _ _ _ _ _ _ _ _ _ kk).trans h)
  · cases h
end Go.Proofs.Ytihfgpfofmjbaaa

set_option linter.unusedVariables false
set_option linter.unusedSimpArgs false
set_option maxRecDepth 100000
set_option maxHeartbeats 2000000
namespace Go.Proofs.Ytihfgpfofmjbaaa
open Go Ev
def kp124 (i : Nat) : Option (List Nat) := Ev.look i [(3, [2, 3, 4, 7, 8]), (100000, [7]), (400000, [6])]
noncomputable def Gg124 (f125 : YF125) (f : Nat) : Option Ev.Spec := Ev.look f [(125, spg125 f125)]
noncomputable def G124 (fuel : Nat) : Nat → Option Ev.Spec := Gg124 (F_ref05_At fuel)
noncomputable def Sg_ref07_typical_0 (fuel : Nat) (f125 : YF125) (x0 x1 : Int) (x2 x3 : Int) (x4 : (List Int)) (x5 x6 : Int) (x7 x8 : (List Int)) (c : (Int × Int × Int × Int × (List Int) × Int × Int × (List Int) × (List Int)) → Option Ans) (B : ((List Int) → Option Ans)) : Option Ans := match B with
 | b =>
  bif decide (x1 < x2) then
  (f125 (x2) (x3) (x4) (x1) (IntKind.i64.wrap (x0 - (1 : Int)))
  (fun y3 =>
  (f125 (x5) (x6) (x7) (x1) (x0)
  (fun y7 =>
  bif y7 == (1 : Int) then
  bif decide ((x8.length + [IntKind.u8.wrap (0 : Int)].length) * (1 : Nat) ≤ (140737488355328 : Nat) ∧ x8.length + [IntKind.u8.wrap (0 : Int)].length ≤ (140737488355328 : Nat)) then
  c (x0, IntKind.i64.wrap (x1 + (1 : Int)), x2, x3, x4, x5, x6, x7, x8 ++ [IntKind.u8.wrap (0 : Int)])
  else none
  else
  bif decide ((x8.length + [IntKind.u8.wrap y3].length) * (1 : Nat) ≤ (140737488355328 : Nat) ∧ x8.length + [IntKind.u8.wrap y3].length ≤ (140737488355328 : Nat)) then
  c (x0, IntKind.i64.wrap (x1 + (1 : Int)), x2, x3, x4, x5, x6, x7, x8 ++ [IntKind.u8.wrap y3])
  else none))))
  else
  b x8
noncomputable def S_ref07_typical_0 (fuel : Nat) (v : Int × Int × Int × Int × (List Int) × Int × Int × (List Int) × (List Int)) (c : (Int × Int × Int × Int × (List Int) × Int × Int × (List Int) × (List Int)) → Option Ans) (B : ((List Int) → Option Ans)) : Option Ans := match v with
 | (x0, x1, x2, x3, x4, x5, x6, x7, x8) => Sg_ref07_typical_0 fuel (F_ref05_At fuel) x0 x1 x2 x3 x4 x5 x6 x7 x8 c B
noncomputable def L_ref07_typical_0 (fuel : Nat) (v : Int × Int × Int × Int × (List Int) × Int × Int × (List Int) × (List Int)) (b : ((List Int) → Option Ans)) : Option Ans := iter (S_ref07_typical_0 fuel) fuel v b
noncomputable def J124_0 (fuel : Nat) (i : Nat) : Option Ev.Blk := Ev.look i []
noncomputable def T124_0 (v : Int × Int × Int × Int × (List Int) × Int × Int × (List Int) × (List Int)) : Ev.St := match v with | (x0, x1, x2, x3, x4, x5, x6, x7, x8) => ⟨[(2, .c (.int .i64 x0)), (3, .c (.ptr 0 0)), (4, .c (.ptr 1 0)), (7, .c (.own 2)), (8, .c (.int .i64 x1))], [(0, .cells 39 [.int .i64 x2, .int .i64 x3, .sl (.int .u8) x4]), (1, .cells 39 [.int .i64 x5, .int .i64 x6, .sl (.int .u8) x7]), (2, .vec 5 (.int .u8) x8 true)], 3, 0⟩
noncomputable def E124_0 (K : Ev.Ex → Ev.St → Option Ans) : ((List Int) → Option Ans) := (fun v => match v with | x0 => K .normal ⟨[(7, .c (.own 0))], [(0, .vec 5 (.int .u8) x0 true)], 1, 0⟩)
theorem S124_0_okg (fuel : Nat) (f125 : YF125) (R : Ev.St → Option Ans) (K : Ev.Ex → Ev.St → Option Ans) (x0 x1 : Int) (x2 x3 : Int) (x4 : (List Int)) (x5 x6 : Int) (x7 x8 : (List Int)) : evalCode tab (Gg124 f125) (J124_0 fuel) kp124 fuel (bodyOf 0 Try.f124) (T124_0 (x0, x1, x2, x3, x4, x5, x6, x7, x8)) (lc kp124 3 0 R K) = Sg_ref07_typical_0 fuel f125 x0 x1 x2 x3 x4 x5 x6 x7 x8 (fun v => R (T124_0 v)) (E124_0 K) := by
  kernel_rfl
theorem S124_0_ok (fuel : Nat) (R : Ev.St → Option Ans) (K : Ev.Ex → Ev.St → Option Ans) (x0 x1 : Int) (x2 x3 : Int) (x4 : (List Int)) (x5 x6 : Int) (x7 x8 : (List Int)) : evalCode tab (G124 fuel) (J124_0 fuel) kp124 fuel (bodyOf 0 Try.f124) (T124_0 (x0, x1, x2, x3, x4, x5, x6, x7, x8)) (lc kp124 3 0 R K) = S_ref07_typical_0 fuel (x0, x1, x2, x3, x4, x5, x6, x7, x8) (fun v => R (T124_0 v)) (E124_0 K) :=
  S124_0_okg fuel (F_ref05_At fuel) R K x0 x1 x2 x3 x4 x5 x6 x7 x8
noncomputable def B124_0 (fuel : Nat) : Ev.Blk := fun st K => match canonO (kp124 3) st with
 | some s => (match s with
 | ⟨[(q0, .c (.int .i64 x0)), (q1, .c (.ptr q2 q3)), (q4, .c (.ptr q5 q6)), (q7, .c (.own q8)), (q9, .c (.int .i64 x1))], [(q10, .cells q11 [.int .i64 x2, .int .i64 x3, .sl (.int .u8) x4]), (q12, .cells q13 [.int .i64 x5, .int .i64 x6, .sl (.int .u8) x7]), (q14, .vec q15 (.int .u8) x8 true)], q16, q17⟩ => bif Nat.beq q0 2 && Nat.beq q1 3 && Nat.beq q2 0 && Nat.beq q3 0 && Nat.beq q4 4 && Nat.beq q5 1 && Nat.beq q6 0 && Nat.beq q7 7 && Nat.beq q8 2 && Nat.beq q9 8 && Nat.beq q10 0 && Nat.beq q11 39 && Nat.beq q12 1 && Nat.beq q13 39 && Nat.beq q14 2 && Nat.beq q15 5 && Nat.beq q16 3 && Nat.beq q17 0 then iter (S_ref07_typical_0 fuel) fuel (x0, x1, x2, x3, x4, x5, x6, x7, x8) (E124_0 K) else none
 | _ => none)
 | none => none
theorem B124_0_ok (fuel : Nat) (st : Ev.St) (K : Ev.Ex → Ev.St → Option Ans) (r : Ans) (h : B124_0 fuel st K = some r) : evalCode tab (G124 fuel) (J124_0 fuel) kp124 fuel (.block 0 (.loop (bodyOf 0 Try.f124))) st K = some r := by
  unfold B124_0 at h
  split at h
  · rename_i s hs
    split at h
    · skip
      obtain ⟨hb, h⟩ := cond_some' h
      simp only [Bool.and_eq_true, Nat.beq_eq, decide_eq_true_eq] at hb
      obtain ⟨⟨⟨⟨⟨⟨⟨⟨⟨⟨⟨⟨⟨⟨⟨⟨⟨rfl, rfl⟩, rfl⟩, rfl⟩, rfl⟩, rfl⟩, rfl⟩, rfl⟩, rfl⟩, rfl⟩, rfl⟩, rfl⟩, rfl⟩, rfl⟩, rfl⟩, rfl⟩, rfl⟩, rfl⟩ := hb
      exact blk_loop (S := T124_0) (ks := E124_0) (step := S_ref07_typical_0 fuel) (v := (_, _, _, _, _, _, _, _, _)) (by kernel_rfl) (by kernel_rfl) (fun R K v => by obtain ⟨x0, x1, x2, x3, x4, x5, x6, x7, x8⟩ := v; exact S124_0_ok fuel R K x0 x1 x2 x3 x4 x5 x6 x7 x8) hs h
    · cases h
  · cases h
noncomputable def J124 (fuel : Nat) (i : Nat) : Option Ev.Blk := Ev.look i [(100000, B124_0 fuel)]
noncomputable def Fg_ref07_typical (fuel : Nat) (f125 : YF125) (x0 x1 : Int) (x2 : (List Int)) (x3 x4 : Int) (x5 : (List Int)) (x6 : Int) (k0 : ((List Int)) → Option Ans) : Option Ans :=
  (L_ref07_typical_0 fuel (x6, (0 : Int), x0, x1, x2, x3, x4, x5, [])
  (fun b0_0 =>
  k0 b0_0))
noncomputable def F_ref07_typical (fuel : Nat) (x0 x1 : Int) (x2 : (List Int)) (x3 x4 : Int) (x5 : (List Int)) (x6 : Int) (k0 : ((List Int)) → Option Ans) : Option Ans := Fg_ref07_typical fuel (F_ref05_At fuel) x0 x1 x2 x3 x4 x5 x6 k0
abbrev YF124 : Type := (Int) → (Int) → ((List Int)) → (Int) → (Int) → ((List Int)) → (Int) → (((List Int)) → Option Ans) → Option Ans
theorem F124_eqg (fuel : Nat) (f125 : YF125) (x0 x1 : Int) (x2 : (List Int)) (x3 x4 : Int) (x5 : (List Int)) (x6 : Int) (k : Ev.Cont) : evalFn tab (Gg124 f125) (J124 fuel) kp124 fuel Try.f124 [.agg [.int .i64 x0, .int .i64 x1, .sl (.int .u8) x2], .agg [.int .i64 x3, .int .i64 x4, .sl (.int .u8) x5], .c (.int .i64 x6)] [] k = Fg_ref07_typical fuel f125 x0 x1 x2 x3 x4 x5 x6 (fun r => match r with | r0 => k (.c (.own 0), [.vec 5 (.int .u8) r0 true])) := by
  kernel_rfl
theorem F124_eq (fuel : Nat) (x0 x1 : Int) (x2 : (List Int)) (x3 x4 : Int) (x5 : (List Int)) (x6 : Int) (k : Ev.Cont) : evalFn tab (G124 fuel) (J124 fuel) kp124 fuel Try.f124 [.agg [.int .i64 x0, .int .i64 x1, .sl (.int .u8) x2], .agg [.int .i64 x3, .int .i64 x4, .sl (.int .u8) x5], .c (.int .i64 x6)] [] k = F_ref07_typical fuel x0 x1 x2 x3 x4 x5 x6 (fun r => match r with | r0 => k (.c (.own 0), [.vec 5 (.int .u8) r0 true])) :=
  F124_eqg fuel (F_ref05_At fuel) x0 x1 x2 x3 x4 x5 x6 k
theorem hG124 (fuel : Nat) : GOK Try.prog (G124 fuel) :=
  gok_cons ⟨ok125 fuel, enters_of Try.func125 (by kernel_rfl) rfl⟩ <|
  gok_nil
theorem B124_0_blk (fuel : Nat) : BlkOK Try.prog Try.f124.ntmps (.block 0 (.loop (bodyOf 0 Try.f124))) (B124_0 fuel) :=
  blk_of (blk_of_code tab_ok (hG124 fuel) mixed (J := J124_0 fuel) (kp := kp124) (fuel := fuel) (by kernel_rfl) (fun q hq => by
    rw [(by kernel_rfl : obl (J124_0 fuel) (.block 0 (.loop (bodyOf 0 Try.f124))) = [])] at hq
    cases hq)) (B124_0_ok fuel)
theorem fok124 (fuel : Nat) : FnOK Try.prog 124 (evalFn tab (G124 fuel) (J124 fuel) kp124 fuel Try.f124) :=
  fn_ok tab_ok (hG124 fuel) mixed Try.func124 (c := (Try.f124.body).getD .skip) rfl (fun q hq => by
    rw [(by kernel_rfl : obl (J124 fuel) ((Try.f124.body).getD .skip) = [(.block 0 (.loop (bodyOf 0 Try.f124)), B124_0 fuel)])] at hq
    simp only [List.mem_cons, List.not_mem_nil, or_false] at hq
    subst hq
    · exact B124_0_blk fuel)
noncomputable def mt124 : List Ev.SV → List Ev.Ob → Bool := fun args objs => match args, objs with
 | [.agg [.int .i64 _, .int .i64 _, .sl (.int .u8) _], .agg [.int .i64 _, .int .i64 _, .sl (.int .u8) _], .c (.int .i64 _)], [] => true
 | _, _ => false
noncomputable def spg124 (F : YF124) : Ev.Spec := fun args objs k => match args, objs with
 | [.agg [.int .i64 x0, .int .i64 x1, .sl (.int .u8) x2], .agg [.int .i64 x3, .int .i64 x4, .sl (.int .u8) x5], .c (.int .i64 x6)], [] => bif true then F x0 x1 x2 x3 x4 x5 x6 (fun r => match r with | r0 => k (.c (.own 0), [.vec 5 (.int .u8) r0 true])) else none
 | _, _ => none
noncomputable def spec124 (fuel : Nat) : Ev.Spec := spg124 (F_ref07_typical fuel)
theorem ok124 (fuel : Nat) : FnOK Try.prog 124 (spec124 fuel) := by
  intro args objs kk r h
  unfold spec124 spg124 at h
  split at h
  · skip
    obtain ⟨hb, h⟩ := cond_some' h
    simp only [Bool.and_eq_true, Nat.beq_eq, decide_eq_true_eq] at hb
    clear hb
    exact fok124 fuel _ _ kk r ((F124_eq fuel _ _ _ _ _ _ _ kk).trans h)
  · cases h
end Go.Proofs.Ytihfgpfofmjbaaa

set_option linter.unusedVariables false
set_option linter.unusedSimpArgs false
set_option maxRecDepth 100000
set_option maxHeartbeats 2000000
namespace Go.Proofs.Ytihfgpfofmjbaaa
open Go Ev
def kp45_9c5 (i : Nat) : Option (List Nat) := Ev.look i [(11, [0, 1, 3, 4, 8, 11, 12, 15, 17, 19]), (20, [0, 1, 3, 4, 8, 11, 12, 15, 17, 19, 22]), (100000, [12, 17]), (100002, [0, 1, 3, 4, 8, 11, 12, 15, 17, 19]), (200005, [8, 11]), (200018, [11, 17]), (400000, [12, 13]), (400002, [12, 13])]
noncomputable def Gg45_9c5 (f81 : YF81) (f86 : YF86) (f109 : YF109) (f112 : YF112) (f120 : YF120) (f121_a7e : YF121_a7e) (f122 : YF122) (f123_0a6 : YF123_0a6) (f124 : YF124) (f125 : YF125) (f126 : YF126) (f127_a2e : YF127_a2e) (f : Nat) : Option Ev.Spec := Ev.look f [(81, spg81 f81), (86, spg86 f86), (109, spg109 f109), (112, spg112 f112), (120, spg120 f120), (121, spg121_a7e f121_a7e), (122, spg122 f122), (123, spg123_0a6 f123_0a6), (124, spg124 f124), (125, spg125 f125), (126, spg126 f126), (1000127, spg127_a2e f127_a2e)]
noncomputable def G45_9c5 (fuel : Nat) : Nat → Option Ev.Spec := Gg45_9c5 (F_ref05_New fuel) (F_ref05_Valid fuel) (F_ref07_Valid fuel) (F_ref05_Sides fuel) (F_ref07_room fuel) (F_ref02_Decoder_Model_a7e fuel) (F_ref07_Size fuel) (F_ref02_Decoder_Get_0a6 fuel) (F_ref07_typical fuel) (F_ref05_At fuel) (F_ref07_context fuel) (F_ref05_Put_a2e fuel)
noncomputable def Sg_ref07_Get_9c5_2 (fuel : Nat) (f81 : YF81) (f86 : YF86) (f109 : YF109) (f112 : YF112) (f120 : YF120) (f121_a7e : YF121_a7e) (f122 : YF122) (f123_0a6 : YF123_0a6) (f124 : YF124) (f125 : YF125) (f126 : YF126) (f127_a2e : YF127_a2e) (x0 x1 : Int) (x2 x3 : Int) (x4 x5 : Int) (x6 x7 : Int) (x8 x9 : Int) (x10 x11 : Int) (x12 : Bool) (x13 x14 : (List Int)) (x15 x16 x17 : Int) (x18 : Bool) (x19 x20 x21 : Int) (x22 : (List Int)) (x23 x24 : Int) (x25 x26 : Int) (x27 x28 : (List Int)) (c : (Int × Int × Int × Int × Int × Int × Int × Int × Int × Int × Int × Int × Bool × (List Int) × (List Int) × Int × Int × Int × Bool × Int × Int × Int × (List Int) × Int × Int × Int × Int × (List Int) × (List Int)) → Option Ans) (B : (Int × Int × Int × Int × Int × Int × Int × Bool × (List Int) × (List Int) × Int × Int × (List Int) → Option Ans) × (Int × Int × Int × Int × Int × Int × Int × Int × Int × Int × Int × Bool × (List Int) × (List Int) × Int × Int × Int × Bool × Int × Int × Int × (List Int) × Int × Int × Int × Int × (List Int) × (List Int) → Option Ans)) : Option Ans := match B with
 | (ret, b) =>
  bif decide (x5 < x1) then
  (f125 (x20) (x21) (x22) (x5) (x4)
  (fun y3 =>
  bif y3 == (1 : Int) then
  c (x0, x1, x2, x3, x4, IntKind.i64.wrap (x5 + (1 : Int)), x6, x7, x8, x9, x10, x11, x12, x13, x14, x15, x16, x17, x18, x19, x20, x21, x22, x23, x24, x25, x26, x27, x28)
  else
  (f126 (x15) (x16) (x17) (x18) (x19) (x25) (x26) (x28) (x5) (x4)
  (fun y8 =>
  (f123_0a6 (IntKind.i64.wrap (x0 + y8)) (x6) (x7) (x8) (x9) (x10) (x11) (x12) (x13) (x14)
  (fun (y12_0, y12_1, y12_2, y12_3, y12_4, y12_5, y12_6, y12_7, y12_8, y12_9, y12_10) =>
  bif y12_1 != (0 : Int) then
  ret (y12_1, y12_2, y12_3, y12_4, y12_5, y12_6, y12_7, y12_8, y12_9, y12_10, (0 : Int), (0 : Int), [])
  else
  (f127_a2e (x25) (x26) (x5) (x4) (y12_0) (x28)
  (fun y17 =>
  c (x0, x1, x2, x3, x4, IntKind.i64.wrap (x5 + (1 : Int)), y12_2, y12_3, y12_4, y12_5, y12_6, y12_7, y12_8, y12_9, y12_10, x15, x16, x17, x18, x19, x20, x21, x22, x23, x24, x25, x26, x27, y17)))))))))
  else
  b (x0, x1, x2, x3, x4, x6, x7, x8, x9, x10, x11, x12, x13, x14, x15, x16, x17, x18, x19, x20, x21, x22, x23, x24, x25, x26, x27, x28)
noncomputable def S_ref07_Get_9c5_2 (fuel : Nat) (v : Int × Int × Int × Int × Int × Int × Int × Int × Int × Int × Int × Int × Bool × (List Int) × (List Int) × Int × Int × Int × Bool × Int × Int × Int × (List Int) × Int × Int × Int × Int × (List Int) × (List Int)) (c : (Int × Int × Int × Int × Int × Int × Int × Int × Int × Int × Int × Int × Bool × (List Int) × (List Int) × Int × Int × Int × Bool × Int × Int × Int × (List Int) × Int × Int × Int × Int × (List Int) × (List Int)) → Option Ans) (B : (Int × Int × Int × Int × Int × Int × Int × Bool × (List Int) × (List Int) × Int × Int × (List Int) → Option Ans) × (Int × Int × Int × Int × Int × Int × Int × Int × Int × Int × Int × Bool × (List Int) × (List Int) × Int × Int × Int × Bool × Int × Int × Int × (List Int) × Int × Int × Int × Int × (List Int) × (List Int) → Option Ans)) : Option Ans := match v with
 | (x0, x1, x2, x3, x4, x5, x6, x7, x8, x9, x10, x11, x12, x13, x14, x15, x16, x17, x18, x19, x20, x21, x22, x23, x24, x25, x26, x27, x28) => Sg_ref07_Get_9c5_2 fuel (F_ref05_New fuel) (F_ref05_Valid fuel) (F_ref07_Valid fuel) (F_ref05_Sides fuel) (F_ref07_room fuel) (F_ref02_Decoder_Model_a7e fuel) (F_ref07_Size fuel) (F_ref02_Decoder_Get_0a6 fuel) (F_ref07_typical fuel) (F_ref05_At fuel) (F_ref07_context fuel) (F_ref05_Put_a2e fuel) x0 x1 x2 x3 x4 x5 x6 x7 x8 x9 x10 x11 x12 x13 x14 x15 x16 x17 x18 x19 x20 x21 x22 x23 x24 x25 x26 x27 x28 c B
noncomputable def L_ref07_Get_9c5_2 (fuel : Nat) (v : Int × Int × Int × Int × Int × Int × Int × Int × Int × Int × Int × Int × Bool × (List Int) × (List Int) × Int × Int × Int × Bool × Int × Int × Int × (List Int) × Int × Int × Int × Int × (List Int) × (List Int)) (ret : (Int × Int × Int × Int × Int × Int × Int × Bool × (List Int) × (List Int) × Int × Int × (List Int) → Option Ans)) (b : (Int × Int × Int × Int × Int × Int × Int × Int × Int × Int × Int × Bool × (List Int) × (List Int) × Int × Int × Int × Bool × Int × Int × Int × (List Int) × Int × Int × Int × Int × (List Int) × (List Int) → Option Ans)) : Option Ans := iter (S_ref07_Get_9c5_2 fuel) fuel v (ret, b)
noncomputable def J45_9c5_2 (fuel : Nat) (i : Nat) : Option Ev.Blk := Ev.look i []
noncomputable def T45_9c5_2 (v : Int × Int × Int × Int × Int × Int × Int × Int × Int × Int × Int × Int × Bool × (List Int) × (List Int) × Int × Int × Int × Bool × Int × Int × Int × (List Int) × Int × Int × Int × Int × (List Int) × (List Int)) : Ev.St := match v with | (x0, x1, x2, x3, x4, x5, x6, x7, x8, x9, x10, x11, x12, x13, x14, x15, x16, x17, x18, x19, x20, x21, x22, x23, x24, x25, x26, x27, x28) => ⟨[(0, .c (.ptr 0 0)), (1, .c (.int .i64 x0)), (3, .c (.int .i64 x1)), (4, .c (.int .i64 x2)), (8, .c (.ptr 3 0)), (11, .c (.ptr 4 0)), (12, .c (.ptr 5 0)), (15, .c (.int .i64 x3)), (17, .c (.ptr 6 0)), (19, .c (.int .i64 x4)), (22, .c (.int .i64 x5))], [(0, .cells 164 [.int .i64 x6, .own 1, .int .u64 x7, .int .u64 x8, .own 2, .int .i64 x9, .int .u64 x10, .int .i64 x11, .bool x12]), (1, .vec 3 (.int .i64) x13 false), (2, .vec 5 (.int .u8) x14 false), (3, .cells 46 [.int .i64 x15, .int .i64 x16, .int .i64 x17, .bool x18, .int .i64 x19]), (4, .cells 39 [.int .i64 x20, .int .i64 x21, .sl (.int .u8) x22]), (5, .cells 39 [.int .i64 x23, .int .i64 x24, .own 7]), (6, .cells 39 [.int .i64 x25, .int .i64 x26, .own 8]), (7, .vec 5 (.int .u8) x27 true), (8, .vec 5 (.int .u8) x28 true)], 9, 3⟩
noncomputable def E45_9c5_2 (K : Ev.Ex → Ev.St → Option Ans) : (Int × Int × Int × Int × Int × Int × Int × Bool × (List Int) × (List Int) × Int × Int × (List Int) → Option Ans) × (Int × Int × Int × Int × Int × Int × Int × Int × Int × Int × Int × Bool × (List Int) × (List Int) × Int × Int × Int × Bool × Int × Int × Int × (List Int) × Int × Int × Int × Int × (List Int) × (List Int) → Option Ans) := ((fun v => match v with | (x0, x1, x2, x3, x4, x5, x6, x7, x8, x9, x10, x11, x12) => K .ret ⟨[(12, .c (.ptr 3 0)), (13, .c (.int .i64 x0))], [(0, .cells 164 [.int .i64 x1, .own 1, .int .u64 x2, .int .u64 x3, .own 2, .int .i64 x4, .int .u64 x5, .int .i64 x6, .bool x7]), (1, .vec 3 (.int .i64) x8 false), (2, .vec 5 (.int .u8) x9 false), (3, .cells 39 [.int .i64 x10, .int .i64 x11, .own 4]), (4, .vec 5 (.int .u8) x12 true)], 5, 3⟩), (fun v => match v with | (x0, x1, x2, x3, x4, x5, x6, x7, x8, x9, x10, x11, x12, x13, x14, x15, x16, x17, x18, x19, x20, x21, x22, x23, x24, x25, x26, x27) => K .normal ⟨[(0, .c (.ptr 0 0)), (1, .c (.int .i64 x0)), (3, .c (.int .i64 x1)), (4, .c (.int .i64 x2)), (8, .c (.ptr 3 0)), (11, .c (.ptr 4 0)), (12, .c (.ptr 5 0)), (15, .c (.int .i64 x3)), (17, .c (.ptr 6 0)), (19, .c (.int .i64 x4))], [(0, .cells 164 [.int .i64 x5, .own 1, .int .u64 x6, .int .u64 x7, .own 2, .int .i64 x8, .int .u64 x9, .int .i64 x10, .bool x11]), (1, .vec 3 (.int .i64) x12 false), (2, .vec 5 (.int .u8) x13 false), (3, .cells 46 [.int .i64 x14, .int .i64 x15, .int .i64 x16, .bool x17, .int .i64 x18]), (4, .cells 39 [.int .i64 x19, .int .i64 x20, .sl (.int .u8) x21]), (5, .cells 39 [.int .i64 x22, .int .i64 x23, .own 7]), (6, .cells 39 [.int .i64 x24, .int .i64 x25, .own 8]), (7, .vec 5 (.int .u8) x26 true), (8, .vec 5 (.int .u8) x27 true)], 9, 3⟩))
theorem S45_9c5_2_okg (fuel : Nat) (f81 : YF81) (f86 : YF86) (f109 : YF109) (f112 : YF112) (f120 : YF120) (f121_a7e : YF121_a7e) (f122 : YF122) (f123_0a6 : YF123_0a6) (f124 : YF124) (f125 : YF125) (f126 : YF126) (f127_a2e : YF127_a2e) (R : Ev.St → Option Ans) (K : Ev.Ex → Ev.St → Option Ans) (x0 x1 : Int) (x2 x3 : Int) (x4 x5 : Int) (x6 x7 : Int) (x8 x9 : Int) (x10 x11 : Int) (x12 : Bool) (x13 x14 : (List Int)) (x15 x16 x17 : Int) (x18 : Bool) (x19 x20 x21 : Int) (x22 : (List Int)) (x23 x24 : Int) (x25 x26 : Int) (x27 x28 : (List Int)) : evalCode tab (Gg45_9c5 f81 f86 f109 f112 f120 f121_a7e f122 f123_0a6 f124 f125 f126 f127_a2e) (J45_9c5_2 fuel) kp45_9c5 fuel (bodyOf 2 Try.f45) (T45_9c5_2 (x0, x1, x2, x3, x4, x5, x6, x7, x8, x9, x10, x11, x12, x13, x14, x15, x16, x17, x18, x19, x20, x21, x22, x23, x24, x25, x26, x27, x28)) (lc kp45_9c5 20 2 R K) = Sg_ref07_Get_9c5_2 fuel f81 f86 f109 f112 f120 f121_a7e f122 f123_0a6 f124 f125 f126 f127_a2e x0 x1 x2 x3 x4 x5 x6 x7 x8 x9 x10 x11 x12 x13 x14 x15 x16 x17 x18 x19 x20 x21 x22 x23 x24 x25 x26 x27 x28 (fun v => R (T45_9c5_2 v)) (E45_9c5_2 K) := by
  kernel_rfl
theorem S45_9c5_2_ok (fuel : Nat) (R : Ev.St → Option Ans) (K : Ev.Ex → Ev.St → Option Ans) (x0 x1 : Int) (x2 x3 : Int) (x4 x5 : Int) (x6 x7 : Int) (x8 x9 : Int) (x10 x11 : Int) (x12 : Bool) (x13 x14 : (List Int)) (x15 x16 x17 : Int) (x18 : Bool) (x19 x20 x21 : Int) (x22 : (List Int)) (x23 x24 : Int) (x25 x26 : Int) (x27 x28 : (List Int)) : evalCode tab (G45_9c5 fuel) (J45_9c5_2 fuel) kp45_9c5 fuel (bodyOf 2 Try.f45) (T45_9c5_2 (x0, x1, x2, x3, x4, x5, x6, x7, x8, x9, x10, x11, x12, x13, x14, x15, x16, x17, x18, x19, x20, x21, x22, x23, x24, x25, x26, x27, x28)) (lc kp45_9c5 20 2 R K) = S_ref07_Get_9c5_2 fuel (x0, x1, x2, x3, x4, x5, x6, x7, x8, x9, x10, x11, x12, x13, x14, x15, x16, x17, x18, x19, x20, x21, x22, x23, x24, x25, x26, x27, x28) (fun v => R (T45_9c5_2 v)) (E45_9c5_2 K) :=
  S45_9c5_2_okg fuel (F_ref05_New fuel) (F_ref05_Valid fuel) (F_ref07_Valid fuel) (F_ref05_Sides fuel) (F_ref07_room fuel) (F_ref02_Decoder_Model_a7e fuel) (F_ref07_Size fuel) (F_ref02_Decoder_Get_0a6 fuel) (F_ref07_typical fuel) (F_ref05_At fuel) (F_ref07_context fuel) (F_ref05_Put_a2e fuel) R K x0 x1 x2 x3 x4 x5 x6 x7 x8 x9 x10 x11 x12 x13 x14 x15 x16 x17 x18 x19 x20 x21 x22 x23 x24 x25 x26 x27 x28
noncomputable def B45_9c5_2 (fuel : Nat) : Ev.Blk := fun st K => match canonO (kp45_9c5 20) st with
 | some s => (match s with
 | ⟨[(q0, .c (.ptr q1 q2)), (q3, .c (.int .i64 x0)), (q4, .c (.int .i64 x1)), (q5, .c (.int .i64 x2)), (q6, .c (.ptr q7 q8)), (q9, .c (.ptr q10 q11)), (q12, .c (.ptr q13 q14)), (q15, .c (.int .i64 x3)), (q16, .c (.ptr q17 q18)), (q19, .c (.int .i64 x4)), (q20, .c (.int .i64 x5))], [(q21, .cells q22 [.int .i64 x6, .own q23, .int .u64 x7, .int .u64 x8, .own q24, .int .i64 x9, .int .u64 x10, .int .i64 x11, .bool x12]), (q25, .vec q26 (.int .i64) x13 false), (q27, .vec q28 (.int .u8) x14 false), (q29, .cells q30 [.int .i64 x15, .int .i64 x16, .int .i64 x17, .bool x18, .int .i64 x19]), (q31, .cells q32 [.int .i64 x20, .int .i64 x21, .sl (.int .u8) x22]), (q33, .cells q34 [.int .i64 x23, .int .i64 x24, .own q35]), (q36, .cells q37 [.int .i64 x25, .int .i64 x26, .own q38]), (q39, .vec q40 (.int .u8) x27 true), (q41, .vec q42 (.int .u8) x28 true)], q43, q44⟩ => bif Nat.beq q0 0 && Nat.beq q1 0 && Nat.beq q2 0 && Nat.beq q3 1 && Nat.beq q4 3 && Nat.beq q5 4 && Nat.beq q6 8 && Nat.beq q7 3 && Nat.beq q8 0 && Nat.beq q9 11 && Nat.beq q10 4 && Nat.beq q11 0 && Nat.beq q12 12 && Nat.beq q13 5 && Nat.beq q14 0 && Nat.beq q15 15 && Nat.beq q16 17 && Nat.beq q17 6 && Nat.beq q18 0 && Nat.beq q19 19 && Nat.beq q20 22 && Nat.beq q21 0 && Nat.beq q22 164 && Nat.beq q23 1 && Nat.beq q24 2 && Nat.beq q25 1 && Nat.beq q26 3 && Nat.beq q27 2 && Nat.beq q28 5 && Nat.beq q29 3 && Nat.beq q30 46 && Nat.beq q31 4 && Nat.beq q32 39 && Nat.beq q33 5 && Nat.beq q34 39 && Nat.beq q35 7 && Nat.beq q36 6 && Nat.beq q37 39 && Nat.beq q38 8 && Nat.beq q39 7 && Nat.beq q40 5 && Nat.beq q41 8 && Nat.beq q42 5 && Nat.beq q43 9 && Nat.beq q44 3 then iter (S_ref07_Get_9c5_2 fuel) fuel (x0, x1, x2, x3, x4, x5, x6, x7, x8, x9, x10, x11, x12, x13, x14, x15, x16, x17, x18, x19, x20, x21, x22, x23, x24, x25, x26, x27, x28) (E45_9c5_2 K) else none
 | _ => none)
 | none => none
theorem B45_9c5_2_ok (fuel : Nat) (st : Ev.St) (K : Ev.Ex → Ev.St → Option Ans) (r : Ans) (h : B45_9c5_2 fuel st K = some r) : evalCode tab (G45_9c5 fuel) (J45_9c5_2 fuel) kp45_9c5 fuel (.block 2 (.loop (bodyOf 2 Try.f45))) st K = some r := by
  unfold B45_9c5_2 at h
  split at h
  · rename_i s hs
    split at h
    · skip
      obtain ⟨hb, h⟩ := cond_some' h
      simp only [Bool.and_eq_true, Nat.beq_eq, decide_eq_true_eq] at hb
      obtain ⟨⟨⟨⟨⟨⟨⟨⟨⟨⟨⟨⟨⟨⟨⟨⟨⟨⟨⟨⟨⟨⟨⟨⟨⟨⟨⟨⟨⟨⟨⟨⟨⟨⟨⟨⟨⟨⟨⟨⟨⟨⟨⟨⟨rfl, rfl⟩, rfl⟩, rfl⟩, rfl⟩, rfl⟩, rfl⟩, rfl⟩, rfl⟩, rfl⟩, rfl⟩, rfl⟩, rfl⟩, rfl⟩, rfl⟩, rfl⟩, rfl⟩, rfl⟩, rfl⟩, rfl⟩, rfl⟩, rfl⟩, rfl⟩, rfl⟩, rfl⟩, rfl⟩, rfl⟩, rfl⟩, rfl⟩, rfl⟩, rfl⟩, rfl⟩, rfl⟩, rfl⟩, rfl⟩, rfl⟩, rfl⟩, rfl⟩, rfl⟩, rfl⟩, rfl⟩, rfl⟩, rfl⟩, rfl⟩, rfl⟩ := hb
      exact blk_loop (S := T45_9c5_2) (ks := E45_9c5_2) (step := S_ref07_Get_9c5_2 fuel) (v := (_, _, _, _, _, _, _, _, _, _, _, _, _, _, _, _, _, _, _, _, _, _, _, _, _, _, _, _, _)) (by kernel_rfl) (by kernel_rfl) (fun R K v => by obtain ⟨x0, x1, x2, x3, x4, x5, x6, x7, x8, x9, x10, x11, x12, x13, x14, x15, x16, x17, x18, x19, x20, x21, x22, x23, x24, x25, x26, x27, x28⟩ := v; exact S45_9c5_2_ok fuel R K x0 x1 x2 x3 x4 x5 x6 x7 x8 x9 x10 x11 x12 x13 x14 x15 x16 x17 x18 x19 x20 x21 x22 x23 x24 x25 x26 x27 x28) hs h
    · cases h
  · cases h
noncomputable def Sg_ref07_Get_9c5_0 (fuel : Nat) (f81 : YF81) (f86 : YF86) (f109 : YF109) (f112 : YF112) (f120 : YF120) (f121_a7e : YF121_a7e) (f122 : YF122) (f123_0a6 : YF123_0a6) (f124 : YF124) (f125 : YF125) (f126 : YF126) (f127_a2e : YF127_a2e) (x0 x1 : Int) (x2 x3 : Int) (x4 x5 : Int) (x6 x7 : Int) (x8 x9 x10 : Int) (x11 : Bool) (x12 x13 : (List Int)) (x14 x15 x16 : Int) (x17 : Bool) (x18 x19 x20 : Int) (x21 : (List Int)) (x22 x23 : Int) (x24 x25 : Int) (x26 x27 : (List Int)) (c : (Int × Int × Int × Int × Int × Int × Int × Int × Int × Int × Int × Bool × (List Int) × (List Int) × Int × Int × Int × Bool × Int × Int × Int × (List Int) × Int × Int × Int × Int × (List Int) × (List Int)) → Option Ans) (B : (Int × Int × Int × Int × Int × Int × Int × Bool × (List Int) × (List Int) × Int × Int × (List Int) → Option Ans) × (Int × Int × Int × Int × Int × Int × Bool × (List Int) × (List Int) × Int × Int × Int × Int × (List Int) × (List Int) → Option Ans)) : Option Ans := match B with
 | (ret, b) =>
  bif decide (x4 < x2) then
  bif x17 then
  (f123_0a6 (IntKind.i64.wrap (IntKind.i64.wrap (x0 + x3) - (1 : Int))) (x5) (x6) (x7) (x8) (x9) (x10) (x11) (x12) (x13)
  (fun (y4_0, y4_1, y4_2, y4_3, y4_4, y4_5, y4_6, y4_7, y4_8, y4_9, y4_10) =>
  bif y4_1 != (0 : Int) then
  ret (y4_1, y4_2, y4_3, y4_4, y4_5, y4_6, y4_7, y4_8, y4_9, y4_10, (0 : Int), (0 : Int), [])
  else
  bif y4_0 == (1 : Int) then
  bif decide ((0 : Int) ≤ Ev.loOf (some (IntKind.i64.wrap (x4 * x1))) ∧ Ev.loOf (some (IntKind.i64.wrap (x4 * x1))) ≤ Ev.hiOf Option.none (↑x27.length : Int) ∧ Ev.hiOf Option.none (↑x27.length : Int) ≤ (↑x27.length : Int)) then
  (f124 (x24) (x25) (x27) (x19) (x20) (x21) (x4)
  (fun y11 =>
  c (x0, x1, x2, x3, IntKind.i64.wrap (x4 + (1 : Int)), y4_2, y4_3, y4_4, y4_5, y4_6, y4_7, y4_8, y4_9, y4_10, x14, x15, x16, x17, x18, x19, x20, x21, x22, x23, x24, x25, x26, List.take (Ev.loOf (some (IntKind.i64.wrap (x4 * x1)))).toNat x27 ++ List.take (Ev.hiOf Option.none (↑x27.length : Int) - Ev.loOf (some (IntKind.i64.wrap (x4 * x1)))).toNat y11 ++ List.drop ((Ev.loOf (some (IntKind.i64.wrap (x4 * x1)))).toNat + Min.min (Ev.hiOf Option.none (↑x27.length : Int) - Ev.loOf (some (IntKind.i64.wrap (x4 * x1)))).toNat y11.length) x27)))
  else none
  else
  (L_ref07_Get_9c5_2 fuel (x0, x1, x2, x3, x4, (0 : Int), y4_2, y4_3, y4_4, y4_5, y4_6, y4_7, y4_8, y4_9, y4_10, x14, x15, x16, x17, x18, x19, x20, x21, x22, x23, x24, x25, x26, x27)
  (fun (ret2_0, ret2_1, ret2_2, ret2_3, ret2_4, ret2_5, ret2_6, ret2_7, ret2_8, ret2_9, ret2_10, ret2_11, ret2_12) =>
  ret (ret2_0, ret2_1, ret2_2, ret2_3, ret2_4, ret2_5, ret2_6, ret2_7, ret2_8, ret2_9, ret2_10, ret2_11, ret2_12))
  (fun (b2_0, b2_1, b2_2, b2_3, b2_4, b2_5, b2_6, b2_7, b2_8, b2_9, b2_10, b2_11, b2_12, b2_13, b2_14, b2_15, b2_16, b2_17, b2_18, b2_19, b2_20, b2_21, b2_22, b2_23, b2_24, b2_25, b2_26, b2_27) =>
  c (b2_0, b2_1, b2_2, b2_3, IntKind.i64.wrap (b2_4 + (1 : Int)), b2_5, b2_6, b2_7, b2_8, b2_9, b2_10, b2_11, b2_12, b2_13, b2_14, b2_15, b2_16, b2_17, b2_18, b2_19, b2_20, b2_21, b2_22, b2_23, b2_24, b2_25, b2_26, b2_27)))))
  else
  (L_ref07_Get_9c5_2 fuel (x0, x1, x2, x3, x4, (0 : Int), x5, x6, x7, x8, x9, x10, x11, x12, x13, x14, x15, x16, x17, x18, x19, x20, x21, x22, x23, x24, x25, x26, x27)
  (fun (ret2_0, ret2_1, ret2_2, ret2_3, ret2_4, ret2_5, ret2_6, ret2_7, ret2_8, ret2_9, ret2_10, ret2_11, ret2_12) =>
  ret (ret2_0, ret2_1, ret2_2, ret2_3, ret2_4, ret2_5, ret2_6, ret2_7, ret2_8, ret2_9, ret2_10, ret2_11, ret2_12))
  (fun (b2_0, b2_1, b2_2, b2_3, b2_4, b2_5, b2_6, b2_7, b2_8, b2_9, b2_10, b2_11, b2_12, b2_13, b2_14, b2_15, b2_16, b2_17, b2_18, b2_19, b2_20, b2_21, b2_22, b2_23, b2_24, b2_25, b2_26, b2_27) =>
  c (b2_0, b2_1, b2_2, b2_3, IntKind.i64.wrap (b2_4 + (1 : Int)), b2_5, b2_6, b2_7, b2_8, b2_9, b2_10, b2_11, b2_12, b2_13, b2_14, b2_15, b2_16, b2_17, b2_18, b2_19, b2_20, b2_21, b2_22, b2_23, b2_24, b2_25, b2_26, b2_27)))
  else
  b (x5, x6, x7, x8, x9, x10, x11, x12, x13, x22, x23, x24, x25, x26, x27)
noncomputable def S_ref07_Get_9c5_0 (fuel : Nat) (v : Int × Int × Int × Int × Int × Int × Int × Int × Int × Int × Int × Bool × (List Int) × (List Int) × Int × Int × Int × Bool × Int × Int × Int × (List Int) × Int × Int × Int × Int × (List Int) × (List Int)) (c : (Int × Int × Int × Int × Int × Int × Int × Int × Int × Int × Int × Bool × (List Int) × (List Int) × Int × Int × Int × Bool × Int × Int × Int × (List Int) × Int × Int × Int × Int × (List Int) × (List Int)) → Option Ans) (B : (Int × Int × Int × Int × Int × Int × Int × Bool × (List Int) × (List Int) × Int × Int × (List Int) → Option Ans) × (Int × Int × Int × Int × Int × Int × Bool × (List Int) × (List Int) × Int × Int × Int × Int × (List Int) × (List Int) → Option Ans)) : Option Ans := match v with
 | (x0, x1, x2, x3, x4, x5, x6, x7, x8, x9, x10, x11, x12, x13, x14, x15, x16, x17, x18, x19, x20, x21, x22, x23, x24, x25, x26, x27) => Sg_ref07_Get_9c5_0 fuel (F_ref05_New fuel) (F_ref05_Valid fuel) (F_ref07_Valid fuel) (F_ref05_Sides fuel) (F_ref07_room fuel) (F_ref02_Decoder_Model_a7e fuel) (F_ref07_Size fuel) (F_ref02_Decoder_Get_0a6 fuel) (F_ref07_typical fuel) (F_ref05_At fuel) (F_ref07_context fuel) (F_ref05_Put_a2e fuel) x0 x1 x2 x3 x4 x5 x6 x7 x8 x9 x10 x11 x12 x13 x14 x15 x16 x17 x18 x19 x20 x21 x22 x23 x24 x25 x26 x27 c B
noncomputable def L_ref07_Get_9c5_0 (fuel : Nat) (v : Int × Int × Int × Int × Int × Int × Int × Int × Int × Int × Int × Bool × (List Int) × (List Int) × Int × Int × Int × Bool × Int × Int × Int × (List Int) × Int × Int × Int × Int × (List Int) × (List Int)) (ret : (Int × Int × Int × Int × Int × Int × Int × Bool × (List Int) × (List Int) × Int × Int × (List Int) → Option Ans)) (b : (Int × Int × Int × Int × Int × Int × Bool × (List Int) × (List Int) × Int × Int × Int × Int × (List Int) × (List Int) → Option Ans)) : Option Ans := iter (S_ref07_Get_9c5_0 fuel) fuel v (ret, b)
noncomputable def J45_9c5_0 (fuel : Nat) (i : Nat) : Option Ev.Blk := Ev.look i [(100002, B45_9c5_2 fuel)]
noncomputable def T45_9c5_0 (v : Int × Int × Int × Int × Int × Int × Int × Int × Int × Int × Int × Bool × (List Int) × (List Int) × Int × Int × Int × Bool × Int × Int × Int × (List Int) × Int × Int × Int × Int × (List Int) × (List Int)) : Ev.St := match v with | (x0, x1, x2, x3, x4, x5, x6, x7, x8, x9, x10, x11, x12, x13, x14, x15, x16, x17, x18, x19, x20, x21, x22, x23, x24, x25, x26, x27) => ⟨[(0, .c (.ptr 0 0)), (1, .c (.int .i64 x0)), (3, .c (.int .i64 x1)), (4, .c (.int .i64 x2)), (8, .c (.ptr 3 0)), (11, .c (.ptr 4 0)), (12, .c (.ptr 5 0)), (15, .c (.int .i64 x3)), (17, .c (.ptr 6 0)), (19, .c (.int .i64 x4))], [(0, .cells 164 [.int .i64 x5, .own 1, .int .u64 x6, .int .u64 x7, .own 2, .int .i64 x8, .int .u64 x9, .int .i64 x10, .bool x11]), (1, .vec 3 (.int .i64) x12 false), (2, .vec 5 (.int .u8) x13 false), (3, .cells 46 [.int .i64 x14, .int .i64 x15, .int .i64 x16, .bool x17, .int .i64 x18]), (4, .cells 39 [.int .i64 x19, .int .i64 x20, .sl (.int .u8) x21]), (5, .cells 39 [.int .i64 x22, .int .i64 x23, .own 7]), (6, .cells 39 [.int .i64 x24, .int .i64 x25, .own 8]), (7, .vec 5 (.int .u8) x26 true), (8, .vec 5 (.int .u8) x27 true)], 9, 3⟩
noncomputable def E45_9c5_0 (K : Ev.Ex → Ev.St → Option Ans) : (Int × Int × Int × Int × Int × Int × Int × Bool × (List Int) × (List Int) × Int × Int × (List Int) → Option Ans) × (Int × Int × Int × Int × Int × Int × Bool × (List Int) × (List Int) × Int × Int × Int × Int × (List Int) × (List Int) → Option Ans) := ((fun v => match v with | (x0, x1, x2, x3, x4, x5, x6, x7, x8, x9, x10, x11, x12) => K .ret ⟨[(12, .c (.ptr 3 0)), (13, .c (.int .i64 x0))], [(0, .cells 164 [.int .i64 x1, .own 1, .int .u64 x2, .int .u64 x3, .own 2, .int .i64 x4, .int .u64 x5, .int .i64 x6, .bool x7]), (1, .vec 3 (.int .i64) x8 false), (2, .vec 5 (.int .u8) x9 false), (3, .cells 39 [.int .i64 x10, .int .i64 x11, .own 4]), (4, .vec 5 (.int .u8) x12 true)], 5, 3⟩), (fun v => match v with | (x0, x1, x2, x3, x4, x5, x6, x7, x8, x9, x10, x11, x12, x13, x14) => K .normal ⟨[(12, .c (.ptr 3 0)), (17, .c (.ptr 4 0))], [(0, .cells 164 [.int .i64 x0, .own 1, .int .u64 x1, .int .u64 x2, .own 2, .int .i64 x3, .int .u64 x4, .int .i64 x5, .bool x6]), (1, .vec 3 (.int .i64) x7 false), (2, .vec 5 (.int .u8) x8 false), (3, .cells 39 [.int .i64 x9, .int .i64 x10, .own 5]), (4, .cells 39 [.int .i64 x11, .int .i64 x12, .own 6]), (5, .vec 5 (.int .u8) x13 true), (6, .vec 5 (.int .u8) x14 true)], 7, 3⟩))
theorem S45_9c5_0_okg (fuel : Nat) (f81 : YF81) (f86 : YF86) (f109 : YF109) (f112 : YF112) (f120 : YF120) (f121_a7e : YF121_a7e) (f122 : YF122) (f123_0a6 : YF123_0a6) (f124 : YF124) (f125 : YF125) (f126 : YF126) (f127_a2e : YF127_a2e) (R : Ev.St → Option Ans) (K : Ev.Ex → Ev.St → Option Ans) (x0 x1 : Int) (x2 x3 : Int) (x4 x5 : Int) (x6 x7 : Int) (x8 x9 x10 : Int) (x11 : Bool) (x12 x13 : (List Int)) (x14 x15 x16 : Int) (x17 : Bool) (x18 x19 x20 : Int) (x21 : (List Int)) (x22 x23 : Int) (x24 x25 : Int) (x26 x27 : (List Int)) : evalCode tab (Gg45_9c5 f81 f86 f109 f112 f120 f121_a7e f122 f123_0a6 f124 f125 f126 f127_a2e) (J45_9c5_0 fuel) kp45_9c5 fuel (bodyOf 0 Try.f45) (T45_9c5_0 (x0, x1, x2, x3, x4, x5, x6, x7, x8, x9, x10, x11, x12, x13, x14, x15, x16, x17, x18, x19, x20, x21, x22, x23, x24, x25, x26, x27)) (lc kp45_9c5 11 0 R K) = Sg_ref07_Get_9c5_0 fuel f81 f86 f109 f112 f120 f121_a7e f122 f123_0a6 f124 f125 f126 f127_a2e x0 x1 x2 x3 x4 x5 x6 x7 x8 x9 x10 x11 x12 x13 x14 x15 x16 x17 x18 x19 x20 x21 x22 x23 x24 x25 x26 x27 (fun v => R (T45_9c5_0 v)) (E45_9c5_0 K) := by
  kernel_rfl
theorem S45_9c5_0_ok (fuel : Nat) (R : Ev.St → Option Ans) (K : Ev.Ex → Ev.St → Option Ans) (x0 x1 : Int) (x2 x3 : Int) (x4 x5 : Int) (x6 x7 : Int) (x8 x9 x10 : Int) (x11 : Bool) (x12 x13 : (List Int)) (x14 x15 x16 : Int) (x17 : Bool) (x18 x19 x20 : Int) (x21 : (List Int)) (x22 x23 : Int) (x24 x25 : Int) (x26 x27 : (List Int)) : evalCode tab (G45_9c5 fuel) (J45_9c5_0 fuel) kp45_9c5 fuel (bodyOf 0 Try.f45) (T45_9c5_0 (x0, x1, x2, x3, x4, x5, x6, x7, x8, x9, x10, x11, x12, x13, x14, x15, x16, x17, x18, x19, x20, x21, x22, x23, x24, x25, x26, x27)) (lc kp45_9c5 11 0 R K) = S_ref07_Get_9c5_0 fuel (x0, x1, x2, x3, x4, x5, x6, x7, x8, x9, x10, x11, x12, x13, x14, x15, x16, x17, x18, x19, x20, x21, x22, x23, x24, x25, x26, x27) (fun v => R (T45_9c5_0 v)) (E45_9c5_0 K) :=
  S45_9c5_0_okg fuel (F_ref05_New fuel) (F_ref05_Valid fuel) (F_ref07_Valid fuel) (F_ref05_Sides fuel) (F_ref07_room fuel) (F_ref02_Decoder_Model_a7e fuel) (F_ref07_Size fuel) (F_ref02_Decoder_Get_0a6 fuel) (F_ref07_typical fuel) (F_ref05_At fuel) (F_ref07_context fuel) (F_ref05_Put_a2e fuel) R K x0 x1 x2 x3 x4 x5 x6 x7 x8 x9 x10 x11 x12 x13 x14 x15 x16 x17 x18 x19 x20 x21 x22 x23 x24 x25 x26 x27
noncomputable def B45_9c5_0 (fuel : Nat) : Ev.Blk := fun st K => match canonO (kp45_9c5 11) st with
 | some s => (match s with
 | ⟨[(q0, .c (.ptr q1 q2)), (q3, .c (.int .i64 x0)), (q4, .c (.int .i64 x1)), (q5, .c (.int .i64 x2)), (q6, .c (.ptr q7 q8)), (q9, .c (.ptr q10 q11)), (q12, .c (.ptr q13 q14)), (q15, .c (.int .i64 x3)), (q16, .c (.ptr q17 q18)), (q19, .c (.int .i64 x4))], [(q20, .cells q21 [.int .i64 x5, .own q22, .int .u64 x6, .int .u64 x7, .own q23, .int .i64 x8, .int .u64 x9, .int .i64 x10, .bool x11]), (q24, .vec q25 (.int .i64) x12 false), (q26, .vec q27 (.int .u8) x13 false), (q28, .cells q29 [.int .i64 x14, .int .i64 x15, .int .i64 x16, .bool x17, .int .i64 x18]), (q30, .cells q31 [.int .i64 x19, .int .i64 x20, .sl (.int .u8) x21]), (q32, .cells q33 [.int .i64 x22, .int .i64 x23, .own q34]), (q35, .cells q36 [.int .i64 x24, .int .i64 x25, .own q37]), (q38, .vec q39 (.int .u8) x26 true), (q40, .vec q41 (.int .u8) x27 true)], q42, q43⟩ => bif Nat.beq q0 0 && Nat.beq q1 0 && Nat.beq q2 0 && Nat.beq q3 1 && Nat.beq q4 3 && Nat.beq q5 4 && Nat.beq q6 8 && Nat.beq q7 3 && Nat.beq q8 0 && Nat.beq q9 11 && Nat.beq q10 4 && Nat.beq q11 0 && Nat.beq q12 12 && Nat.beq q13 5 && Nat.beq q14 0 && Nat.beq q15 15 && Nat.beq q16 17 && Nat.beq q17 6 && Nat.beq q18 0 && Nat.beq q19 19 && Nat.beq q20 0 && Nat.beq q21 164 && Nat.beq q22 1 && Nat.beq q23 2 && Nat.beq q24 1 && Nat.beq q25 3 && Nat.beq q26 2 && Nat.beq q27 5 && Nat.beq q28 3 && Nat.beq q29 46 && Nat.beq q30 4 && Nat.beq q31 39 && Nat.beq q32 5 && Nat.beq q33 39 && Nat.beq q34 7 && Nat.beq q35 6 && Nat.beq q36 39 && Nat.beq q37 8 && Nat.beq q38 7 && Nat.beq q39 5 && Nat.beq q40 8 && Nat.beq q41 5 && Nat.beq q42 9 && Nat.beq q43 3 then iter (S_ref07_Get_9c5_0 fuel) fuel (x0, x1, x2, x3, x4, x5, x6, x7, x8, x9, x10, x11, x12, x13, x14, x15, x16, x17, x18, x19, x20, x21, x22, x23, x24, x25, x26, x27) (E45_9c5_0 K) else none
 | _ => none)
 | none => none
theorem B45_9c5_0_ok (fuel : Nat) (st : Ev.St) (K : Ev.Ex → Ev.St → Option Ans) (r : Ans) (h : B45_9c5_0 fuel st K = some r) : evalCode tab (G45_9c5 fuel) (J45_9c5_0 fuel) kp45_9c5 fuel (.block 0 (.loop (bodyOf 0 Try.f45))) st K = some r := by
  unfold B45_9c5_0 at h
  split at h
  · rename_i s hs
    split at h
    · skip
      obtain ⟨hb, h⟩ := cond_some' h
      simp only [Bool.and_eq_true, Nat.beq_eq, decide_eq_true_eq] at hb
      obtain ⟨⟨⟨⟨⟨⟨⟨⟨⟨⟨⟨⟨⟨⟨⟨⟨⟨⟨⟨⟨⟨⟨⟨⟨⟨⟨⟨⟨⟨⟨⟨⟨⟨⟨⟨⟨⟨⟨⟨⟨⟨⟨⟨rfl, rfl⟩, rfl⟩, rfl⟩, rfl⟩, rfl⟩, rfl⟩, rfl⟩, rfl⟩, rfl⟩, rfl⟩, rfl⟩, rfl⟩, rfl⟩, rfl⟩, rfl⟩, rfl⟩, rfl⟩, rfl⟩, rfl⟩, rfl⟩, rfl⟩, rfl⟩, rfl⟩, rfl⟩, rfl⟩, rfl⟩, rfl⟩, rfl⟩, rfl⟩, rfl⟩, rfl⟩, rfl⟩, rfl⟩, rfl⟩, rfl⟩, rfl⟩, rfl⟩, rfl⟩, rfl⟩, rfl⟩, rfl⟩, rfl⟩, rfl⟩ := hb
      exact blk_loop (S := T45_9c5_0) (ks := E45_9c5_0) (step := S_ref07_Get_9c5_0 fuel) (v := (_, _, _, _, _, _, _, _, _, _, _, _, _, _, _, _, _, _, _, _, _, _, _, _, _, _, _, _)) (by kernel_rfl) (by kernel_rfl) (fun R K v => by obtain ⟨x0, x1, x2, x3, x4, x5, x6, x7, x8, x9, x10, x11, x12, x13, x14, x15, x16, x17, x18, x19, x20, x21, x22, x23, x24, x25, x26, x27⟩ := v; exact S45_9c5_0_ok fuel R K x0 x1 x2 x3 x4 x5 x6 x7 x8 x9 x10 x11 x12 x13 x14 x15 x16 x17 x18 x19 x20 x21 x22 x23 x24 x25 x26 x27) hs h
    · cases h
  · cases h
noncomputable def J45_9c5 (fuel : Nat) (i : Nat) : Option Ev.Blk := Ev.look i [(100002, B45_9c5_2 fuel), (100000, B45_9c5_0 fuel)]
noncomputable def Fg_ref07_Get_9c5 (fuel : Nat) (f81 : YF81) (f86 : YF86) (f109 : YF109) (f112 : YF112) (f120 : YF120) (f121_a7e : YF121_a7e) (f122 : YF122) (f123_0a6 : YF123_0a6) (f124 : YF124) (f125 : YF125) (f126 : YF126) (f127_a2e : YF127_a2e) (x0 x1 : Int) (x2 x3 : Int) (x4 : Bool) (x5 x6 : Int) (x7 x8 x9 : Int) (x10 : (List Int)) (x11 x12 : Int) (x13 x14 : Int) (x15 x16 : Int) (x17 : Bool) (x18 x19 : (List Int)) (k0 : (Int × Int × Int × Int × Int × Int × Int × Int × Int × Bool × (List Int) × (List Int) × (List Int)) → Option Ans) : Option Ans :=
  (f109 (x1) (x2) (x3) (x4) (x5)
  (fun y2 =>
  bif !y2 then
  k0 ((0 : Int), (0 : Int), (2 : Int), x11, x12, x13, x14, x15, x16, x17, x18, x19, [])
  else
  (f112 (x6) (x7)
  (fun y7 =>
  bif !y7 then
  k0 ((0 : Int), (0 : Int), (30 : Int), x11, x12, x13, x14, x15, x16, x17, x18, x19, [])
  else
  (f86 (x8) (x9) (x10)
  (fun y12 =>
  bif !y12 then
  k0 ((0 : Int), (0 : Int), (30 : Int), x11, x12, x13, x14, x15, x16, x17, x18, x19, [])
  else
  (f121_a7e (x11) (x12) (x13) (x14) (x15) (x16) (x17) (x18) (x19)
  (fun (y17_0, y17_1, y17_2, y17_3, y17_4, y17_5, y17_6, y17_7, y17_8, y17_9, y17_10) =>
  (f120 (x1) (x2) (x3) (x4) (x5) (x0) ((↑y17_10.length : Int)) (x6) (x7) (x8) (x9) (x10)
  (fun y21 =>
  bif y21 != (0 : Int) then
  k0 ((0 : Int), (0 : Int), y21, y17_1, y17_2, y17_3, y17_4, y17_5, y17_6, y17_7, y17_8, y17_9, [])
  else
  (f122 (x1) (x2) (x3) (x4) (x5)
  (fun (y26_0, y26_1) =>
  (f81 (x6) (x7) ((0 : Int))
  (fun (y30_0, y30_1, y30_2, y30_3) =>
  (L_ref07_Get_9c5_0 fuel (x0, x6, x7, y26_0, (0 : Int), y17_1, y17_2, y17_3, y17_4, y17_5, y17_6, y17_7, y17_8, y17_9, x1, x2, x3, x4, x5, x8, x9, x10, (0 : Int), (0 : Int), y30_0, y30_1, [], y30_3)
  (fun (ret0_0, ret0_1, ret0_2, ret0_3, ret0_4, ret0_5, ret0_6, ret0_7, ret0_8, ret0_9, ret0_10, ret0_11, ret0_12) =>
  k0 (ret0_10, ret0_11, ret0_0, ret0_1, ret0_2, ret0_3, ret0_4, ret0_5, ret0_6, ret0_7, ret0_8, ret0_9, ret0_12))
  (fun (b0_0, b0_1, b0_2, b0_3, b0_4, b0_5, b0_6, b0_7, b0_8, b0_9, b0_10, b0_11, b0_12, b0_13, b0_14) =>
  k0 (b0_11, b0_12, (0 : Int), b0_0, b0_1, b0_2, b0_3, b0_4, b0_5, b0_6, b0_7, b0_8, b0_14)))))))))))))))))
noncomputable def F_ref07_Get_9c5 (fuel : Nat) (x0 x1 : Int) (x2 x3 : Int) (x4 : Bool) (x5 x6 : Int) (x7 x8 x9 : Int) (x10 : (List Int)) (x11 x12 : Int) (x13 x14 : Int) (x15 x16 : Int) (x17 : Bool) (x18 x19 : (List Int)) (k0 : (Int × Int × Int × Int × Int × Int × Int × Int × Int × Bool × (List Int) × (List Int) × (List Int)) → Option Ans) : Option Ans := Fg_ref07_Get_9c5 fuel (F_ref05_New fuel) (F_ref05_Valid fuel) (F_ref07_Valid fuel) (F_ref05_Sides fuel) (F_ref07_room fuel) (F_ref02_Decoder_Model_a7e fuel) (F_ref07_Size fuel) (F_ref02_Decoder_Get_0a6 fuel) (F_ref07_typical fuel) (F_ref05_At fuel) (F_ref07_context fuel) (F_ref05_Put_a2e fuel) x0 x1 x2 x3 x4 x5 x6 x7 x8 x9 x10 x11 x12 x13 x14 x15 x16 x17 x18 x19 k0
abbrev YF45_9c5 : Type := (Int) → (Int) → (Int) → (Int) → (Bool) → (Int) → (Int) → (Int) → (Int) → (Int) → ((List Int)) → (Int) → (Int) → (Int) → (Int) → (Int) → (Int) → (Bool) → ((List Int)) → ((List Int)) → ((Int × Int × Int × Int × Int × Int × Int × Int × Int × Bool × (List Int) × (List Int) × (List Int)) → Option Ans) → Option Ans
theorem F45_9c5_eqg (fuel : Nat) (f81 : YF81) (f86 : YF86) (f109 : YF109) (f112 : YF112) (f120 : YF120) (f121_a7e : YF121_a7e) (f122 : YF122) (f123_0a6 : YF123_0a6) (f124 : YF124) (f125 : YF125) (f126 : YF126) (f127_a2e : YF127_a2e) (x0 x1 : Int) (x2 x3 : Int) (x4 : Bool) (x5 x6 : Int) (x7 x8 x9 : Int) (x10 : (List Int)) (x11 x12 : Int) (x13 x14 : Int) (x15 x16 : Int) (x17 : Bool) (x18 x19 : (List Int)) (k : Ev.Cont) : evalFn tab (Gg45_9c5 f81 f86 f109 f112 f120 f121_a7e f122 f123_0a6 f124 f125 f126 f127_a2e) (J45_9c5 fuel) kp45_9c5 fuel Try.f45 [.c (.ptr 0 0), .c (.int .i64 x0), .agg [.int .i64 x1, .int .i64 x2, .int .i64 x3, .bool x4, .int .i64 x5], .c (.int .i64 x6), .c (.int .i64 x7), .agg [.int .i64 x8, .int .i64 x9, .sl (.int .u8) x10]] [.cells 164 [.int .i64 x11, .own 1, .int .u64 x12, .int .u64 x13, .own 2, .int .i64 x14, .int .u64 x15, .int .i64 x16, .bool x17], .vec 3 (.int .i64) x18 false, .vec 5 (.int .u8) x19 false] k = Fg_ref07_Get_9c5 fuel f81 f86 f109 f112 f120 f121_a7e f122 f123_0a6 f124 f125 f126 f127_a2e x0 x1 x2 x3 x4 x5 x6 x7 x8 x9 x10 x11 x12 x13 x14 x15 x16 x17 x18 x19 (fun r => match r with | (r0, r1, r2, r3, r4, r5, r6, r7, r8, r9, r10, r11, r12) => k (.tup [(true, [.int .i64 r0, .int .i64 r1, .own 3]), (false, [.int .i64 r2])], [.cells 164 [.int .i64 r3, .own 1, .int .u64 r4, .int .u64 r5, .own 2, .int .i64 r6, .int .u64 r7, .int .i64 r8, .bool r9], .vec 3 (.int .i64) r10 false, .vec 5 (.int .u8) r11 false, .vec 5 (.int .u8) r12 true])) := by
  kernel_rfl
theorem F45_9c5_eq (fuel : Nat) (x0 x1 : Int) (x2 x3 : Int) (x4 : Bool) (x5 x6 : Int) (x7 x8 x9 : Int) (x10 : (List Int)) (x11 x12 : Int) (x13 x14 : Int) (x15 x16 : Int) (x17 : Bool) (x18 x19 : (List Int)) (k : Ev.Cont) : evalFn tab (G45_9c5 fuel) (J45_9c5 fuel) kp45_9c5 fuel Try.f45 [.c (.ptr 0 0), .c (.int .i64 x0), .agg [.int .i64 x1, .int .i64 x2, .int .i64 x3, .bool x4, .int .i64 x5], .c (.int .i64 x6), .c (.int .i64 x7), .agg [.int .i64 x8, .int .i64 x9, .sl (.int .u8) x10]] [.cells 164 [.int .i64 x11, .own 1, .int .u64 x12, .int .u64 x13, .own 2, .int .i64 x14, .int .u64 x15, .int .i64 x16, .bool x17], .vec 3 (.int .i64) x18 false, .vec 5 (.int .u8) x19 false] k = F_ref07_Get_9c5 fuel x0 x1 x2 x3 x4 x5 x6 x7 x8 x9 x10 x11 x12 x13 x14 x15 x16 x17 x18 x19 (fun r => match r with | (r0, r1, r2, r3, r4, r5, r6, r7, r8, r9, r10, r11, r12) => k (.tup [(true, [.int .i64 r0, .int .i64 r1, .own 3]), (false, [.int .i64 r2])], [.cells 164 [.int .i64 r3, .own 1, .int .u64 r4, .int .u64 r5, .own 2, .int .i64 r6, .int .u64 r7, .int .i64 r8, .bool r9], .vec 3 (.int .i64) r10 false, .vec 5 (.int .u8) r11 false, .vec 5 (.int .u8) r12 true])) :=
  F45_9c5_eqg fuel (F_ref05_New fuel) (F_ref05_Valid fuel) (F_ref07_Valid fuel) (F_ref05_Sides fuel) (F_ref07_room fuel) (F_ref02_Decoder_Model_a7e fuel) (F_ref07_Size fuel) (F_ref02_Decoder_Get_0a6 fuel) (F_ref07_typical fuel) (F_ref05_At fuel) (F_ref07_context fuel) (F_ref05_Put_a2e fuel) x0 x1 x2 x3 x4 x5 x6 x7 x8 x9 x10 x11 x12 x13 x14 x15 x16 x17 x18 x19 k
theorem hG45_9c5 (fuel : Nat) : GOK Try.prog (G45_9c5 fuel) :=
  gok_cons ⟨ok81 fuel, enters_of Try.func81 (by kernel_rfl) rfl⟩ <|
  gok_cons ⟨ok86 fuel, enters_of Try.func86 (by kernel_rfl) rfl⟩ <|
  gok_cons ⟨ok109 fuel, enters_of Try.func109 (by kernel_rfl) rfl⟩ <|
  gok_cons ⟨ok112 fuel, enters_of Try.func112 (by kernel_rfl) rfl⟩ <|
  gok_cons ⟨ok120 fuel, enters_of Try.func120 (by kernel_rfl) rfl⟩ <|
  gok_cons ⟨ok121_a7e fuel, enters_of Try.func121 (by kernel_rfl) rfl⟩ <|
  gok_cons ⟨ok122 fuel, enters_of Try.func122 (by kernel_rfl) rfl⟩ <|
  gok_cons ⟨ok123_0a6 fuel, enters_of Try.func123 (by kernel_rfl) rfl⟩ <|
  gok_cons ⟨ok124 fuel, enters_of Try.func124 (by kernel_rfl) rfl⟩ <|
  gok_cons ⟨ok125 fuel, enters_of Try.func125 (by kernel_rfl) rfl⟩ <|
  gok_cons ⟨ok126 fuel, enters_of Try.func126 (by kernel_rfl) rfl⟩ <|
  gok_cons ⟨ok127_a2e fuel, enters_of Try.func127 (by kernel_rfl) rfl⟩ <|
  gok_nil
theorem B45_9c5_2_blk (fuel : Nat) : BlkOK Try.prog Try.f45.ntmps (.block 2 (.loop (bodyOf 2 Try.f45))) (B45_9c5_2 fuel) :=
  blk_of (blk_of_code tab_ok (hG45_9c5 fuel) mixed (J := J45_9c5_2 fuel) (kp := kp45_9c5) (fuel := fuel) (by kernel_rfl) (fun q hq => by
    rw [(by kernel_rfl : obl (J45_9c5_2 fuel) (.block 2 (.loop (bodyOf 2 Try.f45))) = [])] at hq
    cases hq)) (B45_9c5_2_ok fuel)
theorem B45_9c5_0_blk (fuel : Nat) : BlkOK Try.prog Try.f45.ntmps (.block 0 (.loop (bodyOf 0 Try.f45))) (B45_9c5_0 fuel) :=
  blk_of (blk_of_code tab_ok (hG45_9c5 fuel) mixed (J := J45_9c5_0 fuel) (kp := kp45_9c5) (fuel := fuel) (by kernel_rfl) (fun q hq => by
    rw [(by kernel_rfl : obl (J45_9c5_0 fuel) (.block 0 (.loop (bodyOf 0 Try.f45))) = [(.block 2 (.loop (bodyOf 2 Try.f45)), B45_9c5_2 fuel)])] at hq
    simp only [List.mem_cons, List.not_mem_nil, or_false] at hq
    subst hq
    · exact B45_9c5_2_blk fuel)) (B45_9c5_0_ok fuel)
theorem fok45_9c5 (fuel : Nat) : FnOK Try.prog 45 (evalFn tab (G45_9c5 fuel) (J45_9c5 fuel) kp45_9c5 fuel Try.f45) :=
  fn_ok tab_ok (hG45_9c5 fuel) mixed Try.func45 (c := (Try.f45.body).getD .skip) rfl (fun q hq => by
    rw [(by kernel_rfl : obl (J45_9c5 fuel) ((Try.f45.body).getD .skip) = [(.block 0 (.loop (bodyOf 0 Try.f45)), B45_9c5_0 fuel)])] at hq
    simp only [List.mem_cons, List.not_mem_nil, or_false] at hq
    subst hq
    · exact B45_9c5_0_blk fuel)
noncomputable def mt45_9c5 : List Ev.SV → List Ev.Ob → Bool := fun args objs => match args, objs with
 | [.c (.ptr q0 q1), .c (.int .i64 _), .agg [.int .i64 _, .int .i64 _, .int .i64 _, .bool _, .int .i64 _], .c (.int .i64 _), .c (.int .i64 _), .agg [.int .i64 _, .int .i64 _, .sl (.int .u8) _]], [.cells q2 [.int .i64 _, .own q3, .int .u64 _, .int .u64 _, .own q4, .int .i64 _, .int .u64 _, .int .i64 _, .bool _], .vec q5 (.int .i64) _ false, .vec q6 (.int .u8) _ false] => Nat.beq q0 0 && Nat.beq q1 0 && Nat.beq q2 164 && Nat.beq q3 1 && Nat.beq q4 2 && Nat.beq q5 3 && Nat.beq q6 5
 | _, _ => false
noncomputable def spg45_9c5 (F : YF45_9c5) : Ev.Spec := fun args objs k => match args, objs with
 | [.c (.ptr q0 q1), .c (.int .i64 x0), .agg [.int .i64 x1, .int .i64 x2, .int .i64 x3, .bool x4, .int .i64 x5], .c (.int .i64 x6), .c (.int .i64 x7), .agg [.int .i64 x8, .int .i64 x9, .sl (.int .u8) x10]], [.cells q2 [.int .i64 x11, .own q3, .int .u64 x12, .int .u64 x13, .own q4, .int .i64 x14, .int .u64 x15, .int .i64 x16, .bool x17], .vec q5 (.int .i64) x18 false, .vec q6 (.int .u8) x19 false] => bif Nat.beq q0 0 && Nat.beq q1 0 && Nat.beq q2 164 && Nat.beq q3 1 && Nat.beq q4 2 && Nat.beq q5 3 && Nat.beq q6 5 then F x0 x1 x2 x3 x4 x5 x6 x7 x8 x9 x10 x11 x12 x13 x14 x15 x16 x17 x18 x19 (fun r => match r with | (r0, r1, r2, r3, r4, r5, r6, r7, r8, r9, r10, r11, r12) => k (.tup [(true, [.int .i64 r0, .int .i64 r1, .own 3]), (false, [.int .i64 r2])], [.cells 164 [.int .i64 r3, .own 1, .int .u64 r4, .int .u64 r5, .own 2, .int .i64 r6, .int .u64 r7, .int .i64 r8, .bool r9], .vec 3 (.int .i64) r10 false, .vec 5 (.int .u8) r11 false, .vec 5 (.int .u8) r12 true])) else none
 | _, _ => none
noncomputable def spec45_9c5 (fuel : Nat) : Ev.Spec := spg45_9c5 (F_ref07_Get_9c5 fuel)
theorem ok45_9c5 (fuel : Nat) : FnOK Try.prog 45 (spec45_9c5 fuel) := by
  intro args objs kk r h
  unfold spec45_9c5 spg45_9c5 at h
  split at h
  · skip
    obtain ⟨hb, h⟩ := cond_some' h
    simp only [Bool.and_eq_true, Nat.beq_eq, decide_eq_true_eq] at hb
    obtain ⟨⟨⟨⟨⟨⟨rfl, rfl⟩, rfl⟩, rfl⟩, rfl⟩, rfl⟩, rfl⟩ := hb
    exact fok45_9c5 fuel _ _ kk r ((F45_9c5_eq fuel _ _ _ _ _ _ _ _ _ _ _ _ _ _ _ _ _ _ _ _ kk).trans h)
  · cases h
end Go.Proofs.Ytihfgpfofmjbaaa

set_option linter.unusedVariables false
set_option linter.unusedSimpArgs false
set_option maxRecDepth 100000
set_option maxHeartbeats 2000000
namespace Go.Proofs.Ytihfgpfofmjbaaa
open Go Ev
def kp49 (i : Nat) : Option (List Nat) := Ev.look i []
noncomputable def Gg49 (f43 : YF43) (f44 : YF44) (f45_9c5 : YF45_9c5) (f122 : YF122) (f : Nat) : Option Ev.Spec := Ev.look f [(43, spg43 f43), (44, spg44 f44), (45, spg45_9c5 f45_9c5), (122, spg122 f122)]
noncomputable def G49 (fuel : Nat) : Nat → Option Ev.Spec := Gg49 (F_ref02_New fuel) (F_ref02_NewDecoder fuel) (F_ref07_Get_9c5 fuel) (F_ref07_Size fuel)
noncomputable def J49 (fuel : Nat) (i : Nat) : Option Ev.Blk := Ev.look i []
noncomputable def Fg_ref07_Decode (fuel : Nat) (f43 : YF43) (f44 : YF44) (f45_9c5 : YF45_9c5) (f122 : YF122) (x0 x1 x2 : Int) (x3 : Bool) (x4 : Int) (x5 : (List Int)) (x6 x7 : Int) (k0 : (Int × Int × Int × (List Int)) → Option Ans) : Option Ans :=
  (f122 (x0) (x1) (x2) (x3) (x4)
  (fun (y2_0, y2_1) =>
  bif y2_1 != (0 : Int) then
  k0 ((0 : Int), (0 : Int), y2_1, [])
  else
  (f43 (x4) (y2_0)
  (fun (y7_0, y7_1, y7_2) =>
  (f44 (y7_0) (y7_2) (x5)
  (fun y11 =>
  none)
  (fun (y11_0, y11_1, y11_2, y11_3, y11_4, y11_5, y11_6, y11_7, y11_8, y11_9) =>
  (f45_9c5 ((0 : Int)) (x0) (x1) (x2) (x3) (x4) (x6) (x7) ((0 : Int)) ((0 : Int)) ([]) (y11_1) (y11_2) (y11_3) (y11_4) (y11_5) (y11_6) (y11_7) (y11_8) (y11_9)
  (fun (y15_0, y15_1, y15_2, y15_3, y15_4, y15_5, y15_6, y15_7, y15_8, y15_9, y15_10, y15_11, y15_12) =>
  k0 (y15_0, y15_1, y15_2, y15_12)))))))))
noncomputable def F_ref07_Decode (fuel : Nat) (x0 x1 x2 : Int) (x3 : Bool) (x4 : Int) (x5 : (List Int)) (x6 x7 : Int) (k0 : (Int × Int × Int × (List Int)) → Option Ans) : Option Ans := Fg_ref07_Decode fuel (F_ref02_New fuel) (F_ref02_NewDecoder fuel) (F_ref07_Get_9c5 fuel) (F_ref07_Size fuel) x0 x1 x2 x3 x4 x5 x6 x7 k0
abbrev YF49 : Type := (Int) → (Int) → (Int) → (Bool) → (Int) → ((List Int)) → (Int) → (Int) → ((Int × Int × Int × (List Int)) → Option Ans) → Option Ans
theorem F49_eqg (fuel : Nat) (f43 : YF43) (f44 : YF44) (f45_9c5 : YF45_9c5) (f122 : YF122) (x0 x1 x2 : Int) (x3 : Bool) (x4 : Int) (x5 : (List Int)) (x6 x7 : Int) (k : Ev.Cont) : evalFn tab (Gg49 f43 f44 f45_9c5 f122) (J49 fuel) kp49 fuel Try.f49 [.agg [.int .i64 x0, .int .i64 x1, .int .i64 x2, .bool x3, .int .i64 x4], .c (.sl (.int .u8) x5), .c (.int .i64 x6), .c (.int .i64 x7)] [] k = Fg_ref07_Decode fuel f43 f44 f45_9c5 f122 x0 x1 x2 x3 x4 x5 x6 x7 (fun r => match r with | (r0, r1, r2, r3) => k (.tup [(true, [.int .i64 r0, .int .i64 r1, .own 0]), (false, [.int .i64 r2])], [.vec 5 (.int .u8) r3 true])) := by
  kernel_rfl
theorem F49_eq (fuel : Nat) (x0 x1 x2 : Int) (x3 : Bool) (x4 : Int) (x5 : (List Int)) (x6 x7 : Int) (k : Ev.Cont) : evalFn tab (G49 fuel) (J49 fuel) kp49 fuel Try.f49 [.agg [.int .i64 x0, .int .i64 x1, .int .i64 x2, .bool x3, .int .i64 x4], .c (.sl (.int .u8) x5), .c (.int .i64 x6), .c (.int .i64 x7)] [] k = F_ref07_Decode fuel x0 x1 x2 x3 x4 x5 x6 x7 (fun r => match r with | (r0, r1, r2, r3) => k (.tup [(true, [.int .i64 r0, .int .i64 r1, .own 0]), (false, [.int .i64 r2])], [.vec 5 (.int .u8) r3 true])) :=
  F49_eqg fuel (F_ref02_New fuel) (F_ref02_NewDecoder fuel) (F_ref07_Get_9c5 fuel) (F_ref07_Size fuel) x0 x1 x2 x3 x4 x5 x6 x7 k
theorem hG49 (fuel : Nat) : GOK Try.prog (G49 fuel) :=
  gok_cons ⟨ok43 fuel, enters_of Try.func43 (by kernel_rfl) rfl⟩ <|
  gok_cons ⟨ok44 fuel, enters_of Try.func44 (by kernel_rfl) rfl⟩ <|
  gok_cons ⟨ok45_9c5 fuel, enters_of Try.func45 (by kernel_rfl) rfl⟩ <|
  gok_cons ⟨ok122 fuel, enters_of Try.func122 (by kernel_rfl) rfl⟩ <|
  gok_nil
theorem fok49 (fuel : Nat) : FnOK Try.prog 49 (evalFn tab (G49 fuel) (J49 fuel) kp49 fuel Try.f49) :=
  fn_ok tab_ok (hG49 fuel) mixed Try.func49 (c := (Try.f49.body).getD .skip) rfl (fun q hq => by
    rw [(by kernel_rfl : obl (J49 fuel) ((Try.f49.body).getD .skip) = [])] at hq
    cases hq)
noncomputable def mt49 : List Ev.SV → List Ev.Ob → Bool := fun args objs => match args, objs with
 | [.agg [.int .i64 _, .int .i64 _, .int .i64 _, .bool _, .int .i64 _], .c (.sl (.int .u8) _), .c (.int .i64 _), .c (.int .i64 _)], [] => true
 | _, _ => false
noncomputable def spg49 (F : YF49) : Ev.Spec := fun args objs k => match args, objs with
 | [.agg [.int .i64 x0, .int .i64 x1, .int .i64 x2, .bool x3, .int .i64 x4], .c (.sl (.int .u8) x5), .c (.int .i64 x6), .c (.int .i64 x7)], [] => bif true then F x0 x1 x2 x3 x4 x5 x6 x7 (fun r => match r with | (r0, r1, r2, r3) => k (.tup [(true, [.int .i64 r0, .int .i64 r1, .own 0]), (false, [.int .i64 r2])], [.vec 5 (.int .u8) r3 true])) else none
 | _, _ => none
noncomputable def spec49 (fuel : Nat) : Ev.Spec := spg49 (F_ref07_Decode fuel)
theorem ok49 (fuel : Nat) : FnOK Try.prog 49 (spec49 fuel) := by
  intro args objs kk r h
  unfold spec49 spg49 at h
  split at h
  · skip
    obtain ⟨hb, h⟩ := cond_some' h
    simp only [Bool.and_eq_true, Nat.beq_eq, decide_eq_true_eq] at hb
    clear hb
    exact fok49 fuel _ _ kk r ((F49_eq fuel _ _ _ _ _ _ _ _ kk).trans h)
  · cases h
end Go.Proofs.Ytihfgpfofmjbaaa

set_option linter.unusedVariables false
set_option linter.unusedSimpArgs false
set_option maxRecDepth 100000
set_option maxHeartbeats 2000000
namespace Go.Proofs.Ytihfgpfofmjbaaa
open Go Ev
def kp110 (i : Nat) : Option (List Nat) := Ev.look i []
noncomputable def Gg110 (f112 : YF112) (f : Nat) : Option Ev.Spec := Ev.look f [(112, spg112 f112)]
noncomputable def G110 (fuel : Nat) : Nat → Option Ev.Spec := Gg110 (F_ref05_Sides fuel)
noncomputable def J110 (fuel : Nat) (i : Nat) : Option Ev.Blk := Ev.look i []
noncomputable def Fg_ref11_isSides (fuel : Nat) (f112 : YF112) (x0 x1 x2 : Int) (k0 : (Bool) → Option Ans) : Option Ans :=
  bif decide (x0 ≥ (1 : Int)) then
  bif decide (x0 ≤ (64 : Int)) then
  bif decide (x1 ≥ (1 : Int)) then
  bif decide (x2 ≥ (1 : Int)) then
  bif decide (x1 ≤ (16 : Int)) then
  bif decide (x2 ≤ (16 : Int)) then
  (f112 (IntKind.i64.wrap (x0 * x1)) (x2)
  (fun y8 =>
  k0 y8))
  else
  k0 false
  else
  k0 false
  else
  k0 false
  else
  k0 false
  else
  k0 false
  else
  k0 false
noncomputable def F_ref11_isSides (fuel : Nat) (x0 x1 x2 : Int) (k0 : (Bool) → Option Ans) : Option Ans := Fg_ref11_isSides fuel (F_ref05_Sides fuel) x0 x1 x2 k0
abbrev YF110 : Type := (Int) → (Int) → (Int) → ((Bool) → Option Ans) → Option Ans
theorem F110_eqg (fuel : Nat) (f112 : YF112) (x0 x1 x2 : Int) (k : Ev.Cont) : evalFn tab (Gg110 f112) (J110 fuel) kp110 fuel Try.f110 [.c (.int .i64 x0), .c (.int .i64 x1), .c (.int .i64 x2)] [] k = Fg_ref11_isSides fuel f112 x0 x1 x2 (fun r => match r with | r0 => k (.c (.bool r0), [])) := by
  kernel_rfl
theorem F110_eq (fuel : Nat) (x0 x1 x2 : Int) (k : Ev.Cont) : evalFn tab (G110 fuel) (J110 fuel) kp110 fuel Try.f110 [.c (.int .i64 x0), .c (.int .i64 x1), .c (.int .i64 x2)] [] k = F_ref11_isSides fuel x0 x1 x2 (fun r => match r with | r0 => k (.c (.bool r0), [])) :=
  F110_eqg fuel (F_ref05_Sides fuel) x0 x1 x2 k
theorem hG110 (fuel : Nat) : GOK Try.prog (G110 fuel) :=
  gok_cons ⟨ok112 fuel, enters_of Try.func112 (by kernel_rfl) rfl⟩ <|
  gok_nil
theorem fok110 (fuel : Nat) : FnOK Try.prog 110 (evalFn tab (G110 fuel) (J110 fuel) kp110 fuel Try.f110) :=
  fn_ok tab_ok (hG110 fuel) mixed Try.func110 (c := (Try.f110.body).getD .skip) rfl (fun q hq => by
    rw [(by kernel_rfl : obl (J110 fuel) ((Try.f110.body).getD .skip) = [])] at hq
    cases hq)
noncomputable def mt110 : List Ev.SV → List Ev.Ob → Bool := fun args objs => match args, objs with
 | [.c (.int .i64 _), .c (.int .i64 _), .c (.int .i64 _)], [] => true
 | _, _ => false
noncomputable def spg110 (F : YF110) : Ev.Spec := fun args objs k => match args, objs with
 | [.c (.int .i64 x0), .c (.int .i64 x1), .c (.int .i64 x2)], [] => bif true then F x0 x1 x2 (fun r => match r with | r0 => k (.c (.bool r0), [])) else none
 | _, _ => none
noncomputable def spec110 (fuel : Nat) : Ev.Spec := spg110 (F_ref11_isSides fuel)
theorem ok110 (fuel : Nat) : FnOK Try.prog 110 (spec110 fuel) := by
  intro args objs kk r h
  unfold spec110 spg110 at h
  split at h
  · skip
    obtain ⟨hb, h⟩ := cond_some' h
    simp only [Bool.and_eq_true, Nat.beq_eq, decide_eq_true_eq] at hb
    clear hb
    exact fok110 fuel _ _ kk r ((F110_eq fuel _ _ _ kk).trans h)
  · cases h
end Go.Proofs.Ytihfgpfofmjbaaa

set_option linter.unusedVariables false
set_option linter.unusedSimpArgs false
set_option maxRecDepth 100000
set_option maxHeartbeats 2000000
namespace Go.Proofs.Ytihfgpfofmjbaaa
open Go Ev
def kp38 (i : Nat) : Option (List Nat) := Ev.look i [(8, [2, 3, 4, 12, 14, 15]), (100000, [14]), (400000, [10, 11])]
noncomputable def Gg38 (f49 : YF49) (f109 : YF109) (f110 : YF110) (f111 : YF111) (f : Nat) : Option Ev.Spec := Ev.look f [(49, spg49 f49), (109, spg109 f109), (110, spg110 f110), (111, spg111 f111)]
noncomputable def G38 (fuel : Nat) : Nat → Option Ev.Spec := Gg38 (F_ref07_Decode fuel) (F_ref07_Valid fuel) (F_ref11_isSides fuel) (F_ref05_Part fuel)
noncomputable def Sg_ref11_GetPatterns_0 (fuel : Nat) (f49 : YF49) (f109 : YF109) (f110 : YF110) (f111 : YF111) (x0 x1 : Int) (x2 x3 : Int) (x4 x5 : Int) (x6 : (List (Int × (Int × (List Int))))) (x7 : (List Int)) (c : (Int × Int × Int × Int × Int × Int × (List (Int × (Int × (List Int)))) × (List Int)) → Option Ans) (B : ((List (Int × (Int × (List Int)))) → Option Ans)) : Option Ans := match B with
 | b =>
  bif decide (x3 < x0) then
  (f111 (x4) (x5) (x7) (IntKind.i64.wrap (x3 * x1)) ((0 : Int)) (x1) (x2)
  (fun (y3_0, y3_1, y3_2) =>
  bif decide ((x6.length + [(y3_0, y3_1, y3_2)].length) * (40 : Nat) ≤ (140737488355328 : Nat) ∧ x6.length + [(y3_0, y3_1, y3_2)].length ≤ (140737488355328 : Nat)) then
  c (x0, x1, x2, IntKind.i64.wrap (x3 + (1 : Int)), x4, x5, x6 ++ [(y3_0, y3_1, y3_2)], x7)
  else none))
  else
  b x6
noncomputable def S_ref11_GetPatterns_0 (fuel : Nat) (v : Int × Int × Int × Int × Int × Int × (List (Int × (Int × (List Int)))) × (List Int)) (c : (Int × Int × Int × Int × Int × Int × (List (Int × (Int × (List Int)))) × (List Int)) → Option Ans) (B : ((List (Int × (Int × (List Int)))) → Option Ans)) : Option Ans := match v with
 | (x0, x1, x2, x3, x4, x5, x6, x7) => Sg_ref11_GetPatterns_0 fuel (F_ref07_Decode fuel) (F_ref07_Valid fuel) (F_ref11_isSides fuel) (F_ref05_Part fuel) x0 x1 x2 x3 x4 x5 x6 x7 c B
noncomputable def L_ref11_GetPatterns_0 (fuel : Nat) (v : Int × Int × Int × Int × Int × Int × (List (Int × (Int × (List Int)))) × (List Int)) (b : ((List (Int × (Int × (List Int)))) → Option Ans)) : Option Ans := iter (S_ref11_GetPatterns_0 fuel) fuel v b
noncomputable def J38_0 (fuel : Nat) (i : Nat) : Option Ev.Blk := Ev.look i []
noncomputable def T38_0 (v : Int × Int × Int × Int × Int × Int × (List (Int × (Int × (List Int)))) × (List Int)) : Ev.St := match v with | (x0, x1, x2, x3, x4, x5, x6, x7) => ⟨[(2, .c (.int .i64 x0)), (3, .c (.int .i64 x1)), (4, .c (.int .i64 x2)), (12, .c (.ptr 0 0)), (14, .c (.own 1)), (15, .c (.int .i64 x3))], [(0, .cells 39 [.int .i64 x4, .int .i64 x5, .own 2]), (1, .vec 39 (.pair (.int .i64) (.pair (.int .i64) (.sl (.int .u8)))) x6 true), (2, .vec 5 (.int .u8) x7 true)], 3, 0⟩
noncomputable def E38_0 (K : Ev.Ex → Ev.St → Option Ans) : ((List (Int × (Int × (List Int)))) → Option Ans) := (fun v => match v with | x0 => K .normal ⟨[(14, .c (.own 0))], [(0, .vec 39 (.pair (.int .i64) (.pair (.int .i64) (.sl (.int .u8)))) x0 true)], 1, 0⟩)
theorem S38_0_okg (fuel : Nat) (f49 : YF49) (f109 : YF109) (f110 : YF110) (f111 : YF111) (R : Ev.St → Option Ans) (K : Ev.Ex → Ev.St → Option Ans) (x0 x1 : Int) (x2 x3 : Int) (x4 x5 : Int) (x6 : (List (Int × (Int × (List Int))))) (x7 : (List Int)) : evalCode tab (Gg38 f49 f109 f110 f111) (J38_0 fuel) kp38 fuel (bodyOf 0 Try.f38) (T38_0 (x0, x1, x2, x3, x4, x5, x6, x7)) (lc kp38 8 0 R K) = Sg_ref11_GetPatterns_0 fuel f49 f109 f110 f111 x0 x1 x2 x3 x4 x5 x6 x7 (fun v => R (T38_0 v)) (E38_0 K) := by
  kernel_rfl
theorem S38_0_ok (fuel : Nat) (R : Ev.St → Option Ans) (K : Ev.Ex → Ev.St → Option Ans) (x0 x1 : Int) (x2 x3 : Int) (x4 x5 : Int) (x6 : (List (Int × (Int × (List Int))))) (x7 : (List Int)) : evalCode tab (G38 fuel) (J38_0 fuel) kp38 fuel (bodyOf 0 Try.f38) (T38_0 (x0, x1, x2, x3, x4, x5, x6, x7)) (lc kp38 8 0 R K) = S_ref11_GetPatterns_0 fuel (x0, x1, x2, x3, x4, x5, x6, x7) (fun v => R (T38_0 v)) (E38_0 K) :=
  S38_0_okg fuel (F_ref07_Decode fuel) (F_ref07_Valid fuel) (F_ref11_isSides fuel) (F_ref05_Part fuel) R K x0 x1 x2 x3 x4 x5 x6 x7
noncomputable def B38_0 (fuel : Nat) : Ev.Blk := fun st K => match canonO (kp38 8) st with
 | some s => (match s with
 | ⟨[(q0, .c (.int .i64 x0)), (q1, .c (.int .i64 x1)), (q2, .c (.int .i64 x2)), (q3, .c (.ptr q4 q5)), (q6, .c (.own q7)), (q8, .c (.int .i64 x3))], [(q9, .cells q10 [.int .i64 x4, .int .i64 x5, .own q11]), (q12, .vec q13 (.pair (.int .i64) (.pair (.int .i64) (.sl (.int .u8)))) x6 true), (q14, .vec q15 (.int .u8) x7 true)], q16, q17⟩ => bif Nat.beq q0 2 && Nat.beq q1 3 && Nat.beq q2 4 && Nat.beq q3 12 && Nat.beq q4 0 && Nat.beq q5 0 && Nat.beq q6 14 && Nat.beq q7 1 && Nat.beq q8 15 && Nat.beq q9 0 && Nat.beq q10 39 && Nat.beq q11 2 && Nat.beq q12 1 && Nat.beq q13 39 && Nat.beq q14 2 && Nat.beq q15 5 && Nat.beq q16 3 && Nat.beq q17 0 then iter (S_ref11_GetPatterns_0 fuel) fuel (x0, x1, x2, x3, x4, x5, x6, x7) (E38_0 K) else none
 | _ => none)
 | none => none
theorem B38_0_ok (fuel : Nat) (st : Ev.St) (K : Ev.Ex → Ev.St → Option Ans) (r : Ans) (h : B38_0 fuel st K = some r) : evalCode tab (G38 fuel) (J38_0 fuel) kp38 fuel (.block 0 (.loop (bodyOf 0 Try.f38))) st K = some r := by
  unfold B38_0 at h
  split at h
  · rename_i s hs
    split at h
    · skip
      obtain ⟨hb, h⟩ := cond_some' h
      simp only [Bool.and_eq_true, Nat.beq_eq, decide_eq_true_eq] at hb
      obtain ⟨⟨⟨⟨⟨⟨⟨⟨⟨⟨⟨⟨⟨⟨⟨⟨⟨rfl, rfl⟩, rfl⟩, rfl⟩, rfl⟩, rfl⟩, rfl⟩, rfl⟩, rfl⟩, rfl⟩, rfl⟩, rfl⟩, rfl⟩, rfl⟩, rfl⟩, rfl⟩, rfl⟩, rfl⟩ := hb
      exact blk_loop (S := T38_0) (ks := E38_0) (step := S_ref11_GetPatterns_0 fuel) (v := (_, _, _, _, _, _, _, _)) (by kernel_rfl) (by kernel_rfl) (fun R K v => by obtain ⟨x0, x1, x2, x3, x4, x5, x6, x7⟩ := v; exact S38_0_ok fuel R K x0 x1 x2 x3 x4 x5 x6 x7) hs h
    · cases h
  · cases h
noncomputable def J38 (fuel : Nat) (i : Nat) : Option Ev.Blk := Ev.look i [(100000, B38_0 fuel)]
noncomputable def Fg_ref11_GetPatterns (fuel : Nat) (f49 : YF49) (f109 : YF109) (f110 : YF110) (f111 : YF111) (x0 x1 x2 : Int) (x3 : Bool) (x4 : Int) (x5 : (List Int)) (x6 x7 x8 : Int) (k0 : (Int × (List (Int × (Int × (List Int))))) → Option Ans) : Option Ans :=
  (f109 (x0) (x1) (x2) (x3) (x4)
  (fun y2 =>
  bif !y2 then
  k0 ((2 : Int), [])
  else
  bif x3 then
  k0 ((2 : Int), [])
  else
  (f110 (x6) (x7) (x8)
  (fun y8 =>
  bif !y8 then
  k0 ((2 : Int), [])
  else
  (f49 (x0) (x1) (x2) (x3) (x4) (x5) (IntKind.i64.wrap (x6 * x7)) (x8)
  (fun (y13_0, y13_1, y13_2, y13_3) =>
  bif y13_2 != (0 : Int) then
  k0 (y13_2, [])
  else
  (L_ref11_GetPatterns_0 fuel (x6, x7, x8, (0 : Int), y13_0, y13_1, [], y13_3)
  (fun b0_0 =>
  k0 ((0 : Int), b0_0)))))))))
noncomputable def F_ref11_GetPatterns (fuel : Nat) (x0 x1 x2 : Int) (x3 : Bool) (x4 : Int) (x5 : (List Int)) (x6 x7 x8 : Int) (k0 : (Int × (List (Int × (Int × (List Int))))) → Option Ans) : Option Ans := Fg_ref11_GetPatterns fuel (F_ref07_Decode fuel) (F_ref07_Valid fuel) (F_ref11_isSides fuel) (F_ref05_Part fuel) x0 x1 x2 x3 x4 x5 x6 x7 x8 k0
abbrev YF38 : Type := (Int) → (Int) → (Int) → (Bool) → (Int) → ((List Int)) → (Int) → (Int) → (Int) → ((Int × (List (Int × (Int × (List Int))))) → Option Ans) → Option Ans
theorem F38_eqg (fuel : Nat) (f49 : YF49) (f109 : YF109) (f110 : YF110) (f111 : YF111) (x0 x1 x2 : Int) (x3 : Bool) (x4 : Int) (x5 : (List Int)) (x6 x7 x8 : Int) (k : Ev.Cont) : evalFn tab (Gg38 f49 f109 f110 f111) (J38 fuel) kp38 fuel Try.f38 [.agg [.int .i64 x0, .int .i64 x1, .int .i64 x2, .bool x3, .int .i64 x4], .c (.sl (.int .u8) x5), .c (.int .i64 x6), .c (.int .i64 x7), .c (.int .i64 x8)] [] k = Fg_ref11_GetPatterns fuel f49 f109 f110 f111 x0 x1 x2 x3 x4 x5 x6 x7 x8 (fun r => match r with | (r0, r1) => k (.tup [(false, [.own 0]), (false, [.int .i64 r0])], [.vec 39 (.pair (.int .i64) (.pair (.int .i64) (.sl (.int .u8)))) r1 true])) := by
  kernel_rfl
theorem F38_eq (fuel : Nat) (x0 x1 x2 : Int) (x3 : Bool) (x4 : Int) (x5 : (List Int)) (x6 x7 x8 : Int) (k : Ev.Cont) : evalFn tab (G38 fuel) (J38 fuel) kp38 fuel Try.f38 [.agg [.int .i64 x0, .int .i64 x1, .int .i64 x2, .bool x3, .int .i64 x4], .c (.sl (.int .u8) x5), .c (.int .i64 x6), .c (.int .i64 x7), .c (.int .i64 x8)] [] k = F_ref11_GetPatterns fuel x0 x1 x2 x3 x4 x5 x6 x7 x8 (fun r => match r with | (r0, r1) => k (.tup [(false, [.own 0]), (false, [.int .i64 r0])], [.vec 39 (.pair (.int .i64) (.pair (.int .i64) (.sl (.int .u8)))) r1 true])) :=
  F38_eqg fuel (F_ref07_Decode fuel) (F_ref07_Valid fuel) (F_ref11_isSides fuel) (F_ref05_Part fuel) x0 x1 x2 x3 x4 x5 x6 x7 x8 k
theorem hG38 (fuel : Nat) : GOK Try.prog (G38 fuel) :=
  gok_cons ⟨ok49 fuel, enters_of Try.func49 (by kernel_rfl) rfl⟩ <|
  gok_cons ⟨ok109 fuel, enters_of Try.func109 (by kernel_rfl) rfl⟩ <|
  gok_cons ⟨ok110 fuel, enters_of Try.func110 (by kernel_rfl) rfl⟩ <|
  gok_cons ⟨ok111 fuel, enters_of Try.func111 (by kernel_rfl) rfl⟩ <|
  gok_nil
theorem B38_0_blk (fuel : Nat) : BlkOK Try.prog Try.f38.ntmps (.block 0 (.loop (bodyOf 0 Try.f38))) (B38_0 fuel) :=
  blk_of (blk_of_code tab_ok (hG38 fuel) mixed (J := J38_0 fuel) (kp := kp38) (fuel := fuel) (by kernel_rfl) (fun q hq => by
    rw [(by kernel_rfl : obl (J38_0 fuel) (.block 0 (.loop (bodyOf 0 Try.f38))) = [])] at hq
    cases hq)) (B38_0_ok fuel)
theorem fok38 (fuel : Nat) : FnOK Try.prog 38 (evalFn tab (G38 fuel) (J38 fuel) kp38 fuel Try.f38) :=
  fn_ok tab_ok (hG38 fuel) mixed Try.func38 (c := (Try.f38.body).getD .skip) rfl (fun q hq => by
    rw [(by kernel_rfl : obl (J38 fuel) ((Try.f38.body).getD .skip) = [(.block 0 (.loop (bodyOf 0 Try.f38)), B38_0 fuel)])] at hq
    simp only [List.mem_cons, List.not_mem_nil, or_false] at hq
    subst hq
    · exact B38_0_blk fuel)
noncomputable def mt38 : List Ev.SV → List Ev.Ob → Bool := fun args objs => match args, objs with
 | [.agg [.int .i64 _, .int .i64 _, .int .i64 _, .bool _, .int .i64 _], .c (.sl (.int .u8) _), .c (.int .i64 _), .c (.int .i64 _), .c (.int .i64 _)], [] => true
 | _, _ => false
noncomputable def spg38 (F : YF38) : Ev.Spec := fun args objs k => match args, objs with
 | [.agg [.int .i64 x0, .int .i64 x1, .int .i64 x2, .bool x3, .int .i64 x4], .c (.sl (.int .u8) x5), .c (.int .i64 x6), .c (.int .i64 x7), .c (.int .i64 x8)], [] => bif true then F x0 x1 x2 x3 x4 x5 x6 x7 x8 (fun r => match r with | (r0, r1) => k (.tup [(false, [.own 0]), (false, [.int .i64 r0])], [.vec 39 (.pair (.int .i64) (.pair (.int .i64) (.sl (.int .u8)))) r1 true])) else none
 | _, _ => none
noncomputable def spec38 (fuel : Nat) : Ev.Spec := spg38 (F_ref11_GetPatterns fuel)
theorem ok38 (fuel : Nat) : FnOK Try.prog 38 (spec38 fuel) := by
  intro args objs kk r h
  unfold spec38 spg38 at h
  split at h
  · skip
    obtain ⟨hb, h⟩ := cond_some' h
    simp only [Bool.and_eq_true, Nat.beq_eq, decide_eq_true_eq] at hb
    clear hb
    exact fok38 fuel _ _ kk r ((F38_eq fuel _ _ _ _ _ _ _ _ _ kk).trans h)
  · cases h
end Go.Proofs.Ytihfgpfofmjbaaa

set_option linter.unusedVariables false
set_option linter.unusedSimpArgs false
set_option maxRecDepth 100000
set_option maxHeartbeats 2000000
namespace Go.Proofs.Ytihfgpfofmjbaaa
open Go Ev
def kp159 (i : Nat) : Option (List Nat) := Ev.look i []
noncomputable def Gg159 (f : Nat) : Option Ev.Spec := Ev.look f []
noncomputable def G159 (fuel : Nat) : Nat → Option Ev.Spec := Gg159
noncomputable def J159 (fuel : Nat) (i : Nat) : Option Ev.Blk := Ev.look i []
noncomputable def F_bitmap_fits (fuel : Nat) (x0 x1 : Int) (k0 : (Bool) → Option Ans) : Option Ans :=
  bif decide (x0 ≥ (0 : Int)) then
  bif decide (x1 ≥ (0 : Int)) then
  bif decide (x0 ≤ (200 : Int)) then
  bif decide (x1 ≤ (200 : Int)) then
  k0 (decide (IntKind.i64.wrap (x0 * x1) ≤ (8192 : Int)))
  else
  k0 false
  else
  k0 false
  else
  k0 false
  else
  k0 false
abbrev YF159 : Type := (Int) → (Int) → ((Bool) → Option Ans) → Option Ans
theorem F159_eq (fuel : Nat) (x0 x1 : Int) (k : Ev.Cont) : evalFn tab (G159 fuel) (J159 fuel) kp159 fuel Try.f159 [.c (.int .i64 x0), .c (.int .i64 x1)] [] k = F_bitmap_fits fuel x0 x1 (fun r => match r with | r0 => k (.c (.bool r0), [])) := by
  kernel_rfl
theorem hG159 (fuel : Nat) : GOK Try.prog (G159 fuel) :=
  gok_nil
theorem fok159 (fuel : Nat) : FnOK Try.prog 159 (evalFn tab (G159 fuel) (J159 fuel) kp159 fuel Try.f159) :=
  fn_ok tab_ok (hG159 fuel) mixed Try.func159 (c := (Try.f159.body).getD .skip) rfl (fun q hq => by
    rw [(by kernel_rfl : obl (J159 fuel) ((Try.f159.body).getD .skip) = [])] at hq
    cases hq)
noncomputable def mt159 : List Ev.SV → List Ev.Ob → Bool := fun args objs => match args, objs with
 | [.c (.int .i64 _), .c (.int .i64 _)], [] => true
 | _, _ => false
noncomputable def spg159 (F : YF159) : Ev.Spec := fun args objs k => match args, objs with
 | [.c (.int .i64 x0), .c (.int .i64 x1)], [] => bif true then F x0 x1 (fun r => match r with | r0 => k (.c (.bool r0), [])) else none
 | _, _ => none
noncomputable def spec159 (fuel : Nat) : Ev.Spec := spg159 (F_bitmap_fits fuel)
theorem ok159 (fuel : Nat) : FnOK Try.prog 159 (spec159 fuel) := by
  intro args objs kk r h
  unfold spec159 spg159 at h
  split at h
  · skip
    obtain ⟨hb, h⟩ := cond_some' h
    simp only [Bool.and_eq_true, Nat.beq_eq, decide_eq_true_eq] at hb
    clear hb
    exact fok159 fuel _ _ kk r ((F159_eq fuel _ _ kk).trans h)
  · cases h
end Go.Proofs.Ytihfgpfofmjbaaa

set_option linter.unusedVariables false
set_option linter.unusedSimpArgs false
set_option maxRecDepth 100000
set_option maxHeartbeats 2000000
namespace Go.Proofs.Ytihfgpfofmjbaaa
open Go Ev
def kp89 (i : Nat) : Option (List Nat) := Ev.look i [(4, [23, 24, 25]), (100000, []), (400000, [2])]
noncomputable def Gg89 (f159 : YF159) (f : Nat) : Option Ev.Spec := Ev.look f [(159, spg159 f159)]
noncomputable def G89 (fuel : Nat) : Nat → Option Ev.Spec := Gg89 (F_bitmap_fits fuel)
noncomputable def Sg_bitmap_Valid_0 (fuel : Nat) (f159 : YF159) (x0 : (List Int)) (x1 x2 : Int) (c : ((List Int) × Int × Int) → Option Ans) (B : (Bool → Option Ans) × (Unit → Option Ans)) : Option Ans := match B with
 | (ret, b) =>
  bif decide (x2 < x1) then
  bif decide ((0 : Int) ≤ x2 ∧ x2 < (↑x0.length : Int)) then
  bif decide (x0.getD x2.toNat (0 : Int) > (1 : Int)) then
  ret false
  else
  c (x0, x1, IntKind.i64.wrap (x2 + (1 : Int)))
  else none
  else
  b ()
noncomputable def S_bitmap_Valid_0 (fuel : Nat) (v : (List Int) × Int × Int) (c : ((List Int) × Int × Int) → Option Ans) (B : (Bool → Option Ans) × (Unit → Option Ans)) : Option Ans := match v with
 | (x0, x1, x2) => Sg_bitmap_Valid_0 fuel (F_bitmap_fits fuel) x0 x1 x2 c B
noncomputable def L_bitmap_Valid_0 (fuel : Nat) (v : (List Int) × Int × Int) (ret : (Bool → Option Ans)) (b : (Unit → Option Ans)) : Option Ans := iter (S_bitmap_Valid_0 fuel) fuel v (ret, b)
noncomputable def J89_0 (fuel : Nat) (i : Nat) : Option Ev.Blk := Ev.look i []
noncomputable def T89_0 (v : (List Int) × Int × Int) : Ev.St := match v with | (x0, x1, x2) => ⟨[(23, .c (.sl (.int .u8) x0)), (24, .c (.int .i64 x1)), (25, .c (.int .i64 x2))], [], 0, 0⟩
noncomputable def E89_0 (K : Ev.Ex → Ev.St → Option Ans) : (Bool → Option Ans) × (Unit → Option Ans) := ((fun v => match v with | x0 => K .ret ⟨[(2, .c (.bool x0))], [], 0, 0⟩), (fun v => match v with | () => K .normal ⟨[], [], 0, 0⟩))
theorem S89_0_okg (fuel : Nat) (f159 : YF159) (R : Ev.St → Option Ans) (K : Ev.Ex → Ev.St → Option Ans) (x0 : (List Int)) (x1 x2 : Int) : evalCode tab (Gg89 f159) (J89_0 fuel) kp89 fuel (bodyOf 0 Try.f89) (T89_0 (x0, x1, x2)) (lc kp89 4 0 R K) = Sg_bitmap_Valid_0 fuel f159 x0 x1 x2 (fun v => R (T89_0 v)) (E89_0 K) := by
  kernel_rfl
theorem S89_0_ok (fuel : Nat) (R : Ev.St → Option Ans) (K : Ev.Ex → Ev.St → Option Ans) (x0 : (List Int)) (x1 x2 : Int) : evalCode tab (G89 fuel) (J89_0 fuel) kp89 fuel (bodyOf 0 Try.f89) (T89_0 (x0, x1, x2)) (lc kp89 4 0 R K) = S_bitmap_Valid_0 fuel (x0, x1, x2) (fun v => R (T89_0 v)) (E89_0 K) :=
  S89_0_okg fuel (F_bitmap_fits fuel) R K x0 x1 x2
noncomputable def B89_0 (fuel : Nat) : Ev.Blk := fun st K => match canonO (kp89 4) st with
 | some s => (match s with
 | ⟨[(q0, .c (.sl (.int .u8) x0)), (q1, .c (.int .i64 x1)), (q2, .c (.int .i64 x2))], [], q3, q4⟩ => bif Nat.beq q0 23 && Nat.beq q1 24 && Nat.beq q2 25 && Nat.beq q3 0 && Nat.beq q4 0 then iter (S_bitmap_Valid_0 fuel) fuel (x0, x1, x2) (E89_0 K) else none
 | _ => none)
 | none => none
theorem B89_0_ok (fuel : Nat) (st : Ev.St) (K : Ev.Ex → Ev.St → Option Ans) (r : Ans) (h : B89_0 fuel st K = some r) : evalCode tab (G89 fuel) (J89_0 fuel) kp89 fuel (.block 0 (.loop (bodyOf 0 Try.f89))) st K = some r := by
  unfold B89_0 at h
  split at h
  · rename_i s hs
    split at h
    · skip
      obtain ⟨hb, h⟩ := cond_some' h
      simp only [Bool.and_eq_true, Nat.beq_eq, decide_eq_true_eq] at hb
      obtain ⟨⟨⟨⟨rfl, rfl⟩, rfl⟩, rfl⟩, rfl⟩ := hb
      exact blk_loop (S := T89_0) (ks := E89_0) (step := S_bitmap_Valid_0 fuel) (v := (_, _, _)) (by kernel_rfl) (by kernel_rfl) (fun R K v => by obtain ⟨x0, x1, x2⟩ := v; exact S89_0_ok fuel R K x0 x1 x2) hs h
    · cases h
  · cases h
noncomputable def J89 (fuel : Nat) (i : Nat) : Option Ev.Blk := Ev.look i [(100000, B89_0 fuel)]
noncomputable def Fg_bitmap_Valid (fuel : Nat) (f159 : YF159) (x0 x1 : Int) (x2 : (List Int)) (k0 : (Bool) → Option Ans) : Option Ans :=
  (f159 (x0) (x1)
  (fun y2 =>
  bif !y2 then
  k0 false
  else
  bif (↑x2.length : Int) != IntKind.i64.wrap (x0 * x1) then
  k0 false
  else
  (L_bitmap_Valid_0 fuel (x2, (↑x2.length : Int), (0 : Int))
  (fun ret0_0 =>
  k0 ret0_0)
  (fun () =>
  k0 true))))
noncomputable def F_bitmap_Valid (fuel : Nat) (x0 x1 : Int) (x2 : (List Int)) (k0 : (Bool) → Option Ans) : Option Ans := Fg_bitmap_Valid fuel (F_bitmap_fits fuel) x0 x1 x2 k0
abbrev YF89 : Type := (Int) → (Int) → ((List Int)) → ((Bool) → Option Ans) → Option Ans
theorem F89_eqg (fuel : Nat) (f159 : YF159) (x0 x1 : Int) (x2 : (List Int)) (k : Ev.Cont) : evalFn tab (Gg89 f159) (J89 fuel) kp89 fuel Try.f89 [.agg [.int .i64 x0, .int .i64 x1, .sl (.int .u8) x2]] [] k = Fg_bitmap_Valid fuel f159 x0 x1 x2 (fun r => match r with | r0 => k (.c (.bool r0), [])) := by
  kernel_rfl
theorem F89_eq (fuel : Nat) (x0 x1 : Int) (x2 : (List Int)) (k : Ev.Cont) : evalFn tab (G89 fuel) (J89 fuel) kp89 fuel Try.f89 [.agg [.int .i64 x0, .int .i64 x1, .sl (.int .u8) x2]] [] k = F_bitmap_Valid fuel x0 x1 x2 (fun r => match r with | r0 => k (.c (.bool r0), [])) :=
  F89_eqg fuel (F_bitmap_fits fuel) x0 x1 x2 k
theorem hG89 (fuel : Nat) : GOK Try.prog (G89 fuel) :=
  gok_cons ⟨ok159 fuel, enters_of Try.func159 (by kernel_rfl) rfl⟩ <|
  gok_nil
theorem B89_0_blk (fuel : Nat) : BlkOK Try.prog Try.f89.ntmps (.block 0 (.loop (bodyOf 0 Try.f89))) (B89_0 fuel) :=
  blk_of (blk_of_code tab_ok (hG89 fuel) mixed (J := J89_0 fuel) (kp := kp89) (fuel := fuel) (by kernel_rfl) (fun q hq => by
    rw [(by kernel_rfl : obl (J89_0 fuel) (.block 0 (.loop (bodyOf 0 Try.f89))) = [])] at hq
    cases hq)) (B89_0_ok fuel)
theorem fok89 (fuel : Nat) : FnOK Try.prog 89 (evalFn tab (G89 fuel) (J89 fuel) kp89 fuel Try.f89) :=
  fn_ok tab_ok (hG89 fuel) mixed Try.func89 (c := (Try.f89.body).getD .skip) rfl (fun q hq => by
    rw [(by kernel_rfl : obl (J89 fuel) ((Try.f89.body).getD .skip) = [(.block 0 (.loop (bodyOf 0 Try.f89)), B89_0 fuel)])] at hq
    simp only [List.mem_cons, List.not_mem_nil, or_false] at hq
    subst hq
    · exact B89_0_blk fuel)
noncomputable def mt89 : List Ev.SV → List Ev.Ob → Bool := fun args objs => match args, objs with
 | [.agg [.int .i64 _, .int .i64 _, .sl (.int .u8) _]], [] => true
 | _, _ => false
noncomputable def spg89 (F : YF89) : Ev.Spec := fun args objs k => match args, objs with
 | [.agg [.int .i64 x0, .int .i64 x1, .sl (.int .u8) x2]], [] => bif true then F x0 x1 x2 (fun r => match r with | r0 => k (.c (.bool r0), [])) else none
 | _, _ => none
noncomputable def spec89 (fuel : Nat) : Ev.Spec := spg89 (F_bitmap_Valid fuel)
theorem ok89 (fuel : Nat) : FnOK Try.prog 89 (spec89 fuel) := by
  intro args objs kk r h
  unfold spec89 spg89 at h
  split at h
  · skip
    obtain ⟨hb, h⟩ := cond_some' h
    simp only [Bool.and_eq_true, Nat.beq_eq, decide_eq_true_eq] at hb
    clear hb
    exact fok89 fuel _ _ kk r ((F89_eq fuel _ _ _ kk).trans h)
  · cases h
end Go.Proofs.Ytihfgpfofmjbaaa

set_option linter.unusedVariables false
set_option linter.unusedSimpArgs false
set_option maxRecDepth 100000
set_option maxHeartbeats 2000000
namespace Go.Proofs.Ytihfgpfofmjbaaa
open Go Ev
def kp153 (i : Nat) : Option (List Nat) := Ev.look i []
noncomputable def Gg153 (f : Nat) : Option Ev.Spec := Ev.look f []
noncomputable def G153 (fuel : Nat) : Nat → Option Ev.Spec := Gg153
noncomputable def J153 (fuel : Nat) (i : Nat) : Option Ev.Blk := Ev.look i []
noncomputable def F_bitmap_at (fuel : Nat) (x0 x1 : Int) (x2 : (List Int)) (x3 x4 : Int) (k0 : (Int) → Option Ans) : Option Ans :=
  bif decide (x3 < (0 : Int)) then
  k0 ((0 : Int))
  else
  bif decide (x4 < (0 : Int)) then
  k0 ((0 : Int))
  else
  bif decide (x3 ≥ x0) then
  k0 ((0 : Int))
  else
  bif decide (x4 ≥ x1) then
  k0 ((0 : Int))
  else
  bif decide ((0 : Int) ≤ IntKind.i64.wrap (IntKind.i64.wrap (x4 * x0) + x3) ∧ IntKind.i64.wrap (IntKind.i64.wrap (x4 * x0) + x3) < (↑x2.length : Int)) then
  k0 (x2.getD (IntKind.i64.wrap (IntKind.i64.wrap (x4 * x0) + x3)).toNat (0 : Int))
  else none
abbrev YF153 : Type := (Int) → (Int) → ((List Int)) → (Int) → (Int) → ((Int) → Option Ans) → Option Ans
theorem F153_eq (fuel : Nat) (x0 x1 : Int) (x2 : (List Int)) (x3 x4 : Int) (k : Ev.Cont) : evalFn tab (G153 fuel) (J153 fuel) kp153 fuel Try.f153 [.agg [.int .i64 x0, .int .i64 x1, .sl (.int .u8) x2], .c (.int .i64 x3), .c (.int .i64 x4)] [] k = F_bitmap_at fuel x0 x1 x2 x3 x4 (fun r => match r with | r0 => k (.c (.int .u8 r0), [])) := by
  kernel_rfl
theorem hG153 (fuel : Nat) : GOK Try.prog (G153 fuel) :=
  gok_nil
theorem fok153 (fuel : Nat) : FnOK Try.prog 153 (evalFn tab (G153 fuel) (J153 fuel) kp153 fuel Try.f153) :=
  fn_ok tab_ok (hG153 fuel) mixed Try.func153 (c := (Try.f153.body).getD .skip) rfl (fun q hq => by
    rw [(by kernel_rfl : obl (J153 fuel) ((Try.f153.body).getD .skip) = [])] at hq
    cases hq)
noncomputable def mt153 : List Ev.SV → List Ev.Ob → Bool := fun args objs => match args, objs with
 | [.agg [.int .i64 _, .int .i64 _, .sl (.int .u8) _], .c (.int .i64 _), .c (.int .i64 _)], [] => true
 | _, _ => false
noncomputable def spg153 (F : YF153) : Ev.Spec := fun args objs k => match args, objs with
 | [.agg [.int .i64 x0, .int .i64 x1, .sl (.int .u8) x2], .c (.int .i64 x3), .c (.int .i64 x4)], [] => bif true then F x0 x1 x2 x3 x4 (fun r => match r with | r0 => k (.c (.int .u8 r0), [])) else none
 | _, _ => none
noncomputable def spec153 (fuel : Nat) : Ev.Spec := spg153 (F_bitmap_at fuel)
theorem ok153 (fuel : Nat) : FnOK Try.prog 153 (spec153 fuel) := by
  intro args objs kk r h
  unfold spec153 spg153 at h
  split at h
  · skip
    obtain ⟨hb, h⟩ := cond_some' h
    simp only [Bool.and_eq_true, Nat.beq_eq, decide_eq_true_eq] at hb
    clear hb
    exact fok153 fuel _ _ kk r ((F153_eq fuel _ _ _ _ _ kk).trans h)
  · cases h
end Go.Proofs.Ytihfgpfofmjbaaa

set_option linter.unusedVariables false
set_option linter.unusedSimpArgs false
set_option maxRecDepth 100000
set_option maxHeartbeats 2000000
namespace Go.Proofs.Ytihfgpfofmjbaaa
open Go Ev
def kp149 (i : Nat) : Option (List Nat) := Ev.look i []
noncomputable def Gg149 (f159 : YF159) (f : Nat) : Option Ev.Spec := Ev.look f [(159, spg159 f159)]
noncomputable def G149 (fuel : Nat) : Nat → Option Ev.Spec := Gg149 (F_bitmap_fits fuel)
noncomputable def J149 (fuel : Nat) (i : Nat) : Option Ev.Blk := Ev.look i []
noncomputable def Fg_bitmap_blank (fuel : Nat) (f159 : YF159) (x0 x1 : Int) (k0 : (Int × Int × Int × (List Int)) → Option Ans) : Option Ans :=
  (f159 (x0) (x1)
  (fun y2 =>
  bif !y2 then
  k0 ((0 : Int), (0 : Int), (4 : Int), [])
  else
  bif decide ((0 : Int) ≤ IntKind.i64.wrap (x0 * x1) ∧ IntKind.i64.wrap (x0 * x1) = IntKind.i64.wrap (x0 * x1) ∧ (↑(1 : Nat) : Int) * IntKind.i64.wrap (x0 * x1) ≤ (281474976710656 : Int) ∧ IntKind.i64.wrap (x0 * x1) ≤ (281474976710656 : Int)) then
  k0 (x0, x1, (0 : Int), List.replicate (IntKind.i64.wrap (x0 * x1)).toNat (0 : Int))
  else none))
noncomputable def F_bitmap_blank (fuel : Nat) (x0 x1 : Int) (k0 : (Int × Int × Int × (List Int)) → Option Ans) : Option Ans := Fg_bitmap_blank fuel (F_bitmap_fits fuel) x0 x1 k0
abbrev YF149 : Type := (Int) → (Int) → ((Int × Int × Int × (List Int)) → Option Ans) → Option Ans
theorem F149_eqg (fuel : Nat) (f159 : YF159) (x0 x1 : Int) (k : Ev.Cont) : evalFn tab (Gg149 f159) (J149 fuel) kp149 fuel Try.f149 [.c (.int .i64 x0), .c (.int .i64 x1)] [] k = Fg_bitmap_blank fuel f159 x0 x1 (fun r => match r with | (r0, r1, r2, r3) => k (.tup [(true, [.int .i64 r0, .int .i64 r1, .own 0]), (false, [.int .i64 r2])], [.vec 5 (.int .u8) r3 true])) := by
  kernel_rfl
theorem F149_eq (fuel : Nat) (x0 x1 : Int) (k : Ev.Cont) : evalFn tab (G149 fuel) (J149 fuel) kp149 fuel Try.f149 [.c (.int .i64 x0), .c (.int .i64 x1)] [] k = F_bitmap_blank fuel x0 x1 (fun r => match r with | (r0, r1, r2, r3) => k (.tup [(true, [.int .i64 r0, .int .i64 r1, .own 0]), (false, [.int .i64 r2])], [.vec 5 (.int .u8) r3 true])) :=
  F149_eqg fuel (F_bitmap_fits fuel) x0 x1 k
theorem hG149 (fuel : Nat) : GOK Try.prog (G149 fuel) :=
  gok_cons ⟨ok159 fuel, enters_of Try.func159 (by kernel_rfl) rfl⟩ <|
  gok_nil
theorem fok149 (fuel : Nat) : FnOK Try.prog 149 (evalFn tab (G149 fuel) (J149 fuel) kp149 fuel Try.f149) :=
  fn_ok tab_ok (hG149 fuel) mixed Try.func149 (c := (Try.f149.body).getD .skip) rfl (fun q hq => by
    rw [(by kernel_rfl : obl (J149 fuel) ((Try.f149.body).getD .skip) = [])] at hq
    cases hq)
noncomputable def mt149 : List Ev.SV → List Ev.Ob → Bool := fun args objs => match args, objs with
 | [.c (.int .i64 _), .c (.int .i64 _)], [] => true
 | _, _ => false
noncomputable def spg149 (F : YF149) : Ev.Spec := fun args objs k => match args, objs with
 | [.c (.int .i64 x0), .c (.int .i64 x1)], [] => bif true then F x0 x1 (fun r => match r with | (r0, r1, r2, r3) => k (.tup [(true, [.int .i64 r0, .int .i64 r1, .own 0]), (false, [.int .i64 r2])], [.vec 5 (.int .u8) r3 true])) else none
 | _, _ => none
noncomputable def spec149 (fuel : Nat) : Ev.Spec := spg149 (F_bitmap_blank fuel)
theorem ok149 (fuel : Nat) : FnOK Try.prog 149 (spec149 fuel) := by
  intro args objs kk r h
  unfold spec149 spg149 at h
  split at h
  · skip
    obtain ⟨hb, h⟩ := cond_some' h
    simp only [Bool.and_eq_true, Nat.beq_eq, decide_eq_true_eq] at hb
    clear hb
    exact fok149 fuel _ _ kk r ((F149_eq fuel _ _ kk).trans h)
  · cases h
end Go.Proofs.Ytihfgpfofmjbaaa

set_option linter.unusedVariables false
set_option linter.unusedSimpArgs false
set_option maxRecDepth 100000
set_option maxHeartbeats 2000000
namespace Go.Proofs.Ytihfgpfofmjbaaa
open Go Ev
def kp150 (i : Nat) : Option (List Nat) := Ev.look i []
noncomputable def Gg150 (f : Nat) : Option Ev.Spec := Ev.look f []
noncomputable def G150 (fuel : Nat) : Nat → Option Ev.Spec := Gg150
noncomputable def J150 (fuel : Nat) (i : Nat) : Option Ev.Blk := Ev.look i []
noncomputable def F_bitmap_isShift (fuel : Nat) (x0 x1 : Int) (k0 : (Bool) → Option Ans) : Option Ans :=
  bif decide ((bif decide (x1 < x0) then x1 else x0) ≥ (-100000 : Int)) then
  k0 (decide ((bif decide (x1 > x0) then x1 else x0) ≤ (100000 : Int)))
  else
  k0 false
abbrev YF150 : Type := (Int) → (Int) → ((Bool) → Option Ans) → Option Ans
theorem F150_eq (fuel : Nat) (x0 x1 : Int) (k : Ev.Cont) : evalFn tab (G150 fuel) (J150 fuel) kp150 fuel Try.f150 [.c (.int .i64 x0), .c (.int .i64 x1)] [] k = F_bitmap_isShift fuel x0 x1 (fun r => match r with | r0 => k (.c (.bool r0), [])) := by
  kernel_rfl
theorem hG150 (fuel : Nat) : GOK Try.prog (G150 fuel) :=
  gok_nil
theorem fok150 (fuel : Nat) : FnOK Try.prog 150 (evalFn tab (G150 fuel) (J150 fuel) kp150 fuel Try.f150) :=
  fn_ok tab_ok (hG150 fuel) mixed Try.func150 (c := (Try.f150.body).getD .skip) rfl (fun q hq => by
    rw [(by kernel_rfl : obl (J150 fuel) ((Try.f150.body).getD .skip) = [])] at hq
    cases hq)
noncomputable def mt150 : List Ev.SV → List Ev.Ob → Bool := fun args objs => match args, objs with
 | [.c (.int .i64 _), .c (.int .i64 _)], [] => true
 | _, _ => false
noncomputable def spg150 (F : YF150) : Ev.Spec := fun args objs k => match args, objs with
 | [.c (.int .i64 x0), .c (.int .i64 x1)], [] => bif true then F x0 x1 (fun r => match r with | r0 => k (.c (.bool r0), [])) else none
 | _, _ => none
noncomputable def spec150 (fuel : Nat) : Ev.Spec := spg150 (F_bitmap_isShift fuel)
theorem ok150 (fuel : Nat) : FnOK Try.prog 150 (spec150 fuel) := by
  intro args objs kk r h
  unfold spec150 spg150 at h
  split at h
  · skip
    obtain ⟨hb, h⟩ := cond_some' h
    simp only [Bool.and_eq_true, Nat.beq_eq, decide_eq_true_eq] at hb
    clear hb
    exact fok150 fuel _ _ kk r ((F150_eq fuel _ _ kk).trans h)
  · cases h
end Go.Proofs.Ytihfgpfofmjbaaa

set_option linter.unusedVariables false
set_option linter.unusedSimpArgs false
set_option maxRecDepth 100000
set_option maxHeartbeats 2000000
namespace Go.Proofs.Ytihfgpfofmjbaaa
open Go Ev
def kp108 (i : Nat) : Option (List Nat) := Ev.look i [(7, [1, 2, 3, 5, 10, 12, 13, 42, 43]), (100001, [10, 12, 13]), (200009, [5, 12]), (400001, [10, 11])]
noncomputable def Gg108 (f89 : YF89) (f149 : YF149) (f150 : YF150) (f153 : YF153) (f : Nat) : Option Ev.Spec := Ev.look f [(89, spg89 f89), (149, spg149 f149), (150, spg150 f150), (153, spg153 f153)]
noncomputable def G108 (fuel : Nat) : Nat → Option Ev.Spec := Gg108 (F_bitmap_Valid fuel) (F_bitmap_blank fuel) (F_bitmap_isShift fuel) (F_bitmap_at fuel)
noncomputable def Sg_bitmap_Cut_1 (fuel : Nat) (f89 : YF89) (f149 : YF149) (f150 : YF150) (f153 : YF153) (x0 x1 : Int) (x2 x3 : Int) (x4 x5 : Int) (x6 x7 : Int) (x8 : (List Int)) (x9 x10 : Int) (x11 x12 : Int) (x13 x14 : (List Int)) (c : (Int × Int × Int × Int × Int × Int × Int × Int × (List Int) × Int × Int × Int × Int × (List Int) × (List Int)) → Option Ans) (B : (Int × Int × Int × Int × Int × (List Int) × (List Int) → Option Ans)) : Option Ans := match B with
 | b =>
  bif decide (x5 < x4) then
  bif decide (x2 = (0 : Int)) then
  none
  else
  bif decide (x2 = (0 : Int)) then
  none
  else
  (f153 (x6) (x7) (x8) (IntKind.i64.wrap (x0 + x5.tmod x2)) (IntKind.i64.wrap (x1 + IntKind.i64.wrap (x5.tdiv x2)))
  (fun y5 =>
  bif decide ((0 : Int) ≤ x5 ∧ x5 < (↑x14.length : Int)) then
  c (x0, x1, x2, x3, x4, IntKind.i64.wrap (x5 + (1 : Int)), x6, x7, x8, x9, x10, x11, x12, x13, x14.set x5.toNat y5)
  else none))
  else
  b (x3, x9, x10, x11, x12, x13, x14)
noncomputable def S_bitmap_Cut_1 (fuel : Nat) (v : Int × Int × Int × Int × Int × Int × Int × Int × (List Int) × Int × Int × Int × Int × (List Int) × (List Int)) (c : (Int × Int × Int × Int × Int × Int × Int × Int × (List Int) × Int × Int × Int × Int × (List Int) × (List Int)) → Option Ans) (B : (Int × Int × Int × Int × Int × (List Int) × (List Int) → Option Ans)) : Option Ans := match v with
 | (x0, x1, x2, x3, x4, x5, x6, x7, x8, x9, x10, x11, x12, x13, x14) => Sg_bitmap_Cut_1 fuel (F_bitmap_Valid fuel) (F_bitmap_blank fuel) (F_bitmap_isShift fuel) (F_bitmap_at fuel) x0 x1 x2 x3 x4 x5 x6 x7 x8 x9 x10 x11 x12 x13 x14 c B
noncomputable def L_bitmap_Cut_1 (fuel : Nat) (v : Int × Int × Int × Int × Int × Int × Int × Int × (List Int) × Int × Int × Int × Int × (List Int) × (List Int)) (b : (Int × Int × Int × Int × Int × (List Int) × (List Int) → Option Ans)) : Option Ans := iter (S_bitmap_Cut_1 fuel) fuel v b
noncomputable def J108_1 (fuel : Nat) (i : Nat) : Option Ev.Blk := Ev.look i []
noncomputable def T108_1 (v : Int × Int × Int × Int × Int × Int × Int × Int × (List Int) × Int × Int × Int × Int × (List Int) × (List Int)) : Ev.St := match v with | (x0, x1, x2, x3, x4, x5, x6, x7, x8, x9, x10, x11, x12, x13, x14) => ⟨[(1, .c (.int .i64 x0)), (2, .c (.int .i64 x1)), (3, .c (.int .i64 x2)), (5, .c (.ptr 0 0)), (10, .c (.ptr 1 0)), (12, .c (.ptr 2 0)), (13, .c (.int .i64 x3)), (42, .c (.int .i64 x4)), (43, .c (.int .i64 x5))], [(0, .cells 39 [.int .i64 x6, .int .i64 x7, .sl (.int .u8) x8]), (1, .cells 39 [.int .i64 x9, .int .i64 x10, .own 3]), (2, .cells 39 [.int .i64 x11, .int .i64 x12, .own 4]), (3, .vec 5 (.int .u8) x13 true), (4, .vec 5 (.int .u8) x14 true)], 5, 0⟩
noncomputable def E108_1 (K : Ev.Ex → Ev.St → Option Ans) : (Int × Int × Int × Int × Int × (List Int) × (List Int) → Option Ans) := (fun v => match v with | (x0, x1, x2, x3, x4, x5, x6) => K .normal ⟨[(10, .c (.ptr 0 0)), (12, .c (.ptr 1 0)), (13, .c (.int .i64 x0))], [(0, .cells 39 [.int .i64 x1, .int .i64 x2, .own 2]), (1, .cells 39 [.int .i64 x3, .int .i64 x4, .own 3]), (2, .vec 5 (.int .u8) x5 true), (3, .vec 5 (.int .u8) x6 true)], 4, 0⟩)
theorem S108_1_okg (fuel : Nat) (f89 : YF89) (f149 : YF149) (f150 : YF150) (f153 : YF153) (R : Ev.St → Option Ans) (K : Ev.Ex → Ev.St → Option Ans) (x0 x1 : Int) (x2 x3 : Int) (x4 x5 : Int) (x6 x7 : Int) (x8 : (List Int)) (x9 x10 : Int) (x11 x12 : Int) (x13 x14 : (List Int)) : evalCode tab (Gg108 f89 f149 f150 f153) (J108_1 fuel) kp108 fuel (bodyOf 1 Try.f108) (T108_1 (x0, x1, x2, x3, x4, x5, x6, x7, x8, x9, x10, x11, x12, x13, x14)) (lc kp108 7 1 R K) = Sg_bitmap_Cut_1 fuel f89 f149 f150 f153 x0 x1 x2 x3 x4 x5 x6 x7 x8 x9 x10 x11 x12 x13 x14 (fun v => R (T108_1 v)) (E108_1 K) := by
  kernel_rfl
theorem S108_1_ok (fuel : Nat) (R : Ev.St → Option Ans) (K : Ev.Ex → Ev.St → Option Ans) (x0 x1 : Int) (x2 x3 : Int) (x4 x5 : Int) (x6 x7 : Int) (x8 : (List Int)) (x9 x10 : Int) (x11 x12 : Int) (x13 x14 : (List Int)) : evalCode tab (G108 fuel) (J108_1 fuel) kp108 fuel (bodyOf 1 Try.f108) (T108_1 (x0, x1, x2, x3, x4, x5, x6, x7, x8, x9, x10, x11, x12, x13, x14)) (lc kp108 7 1 R K) = S_bitmap_Cut_1 fuel (x0, x1, x2, x3, x4, x5, x6, x7, x8, x9, x10, x11, x12, x13, x14) (fun v => R (T108_1 v)) (E108_1 K) :=
  S108_1_okg fuel (F_bitmap_Valid fuel) (F_bitmap_blank fuel) (F_bitmap_isShift fuel) (F_bitmap_at fuel) R K x0 x1 x2 x3 x4 x5 x6 x7 x8 x9 x10 x11 x12 x13 x14
noncomputable def B108_1 (fuel : Nat) : Ev.Blk := fun st K => match canonO (kp108 7) st with
 | some s => (match s with
 | ⟨[(q0, .c (.int .i64 x0)), (q1, .c (.int .i64 x1)), (q2, .c (.int .i64 x2)), (q3, .c (.ptr q4 q5)), (q6, .c (.ptr q7 q8)), (q9, .c (.ptr q10 q11)), (q12, .c (.int .i64 x3)), (q13, .c (.int .i64 x4)), (q14, .c (.int .i64 x5))], [(q15, .cells q16 [.int .i64 x6, .int .i64 x7, .sl (.int .u8) x8]), (q17, .cells q18 [.int .i64 x9, .int .i64 x10, .own q19]), (q20, .cells q21 [.int .i64 x11, .int .i64 x12, .own q22]), (q23, .vec q24 (.int .u8) x13 true), (q25, .vec q26 (.int .u8) x14 true)], q27, q28⟩ => bif Nat.beq q0 1 && Nat.beq q1 2 && Nat.beq q2 3 && Nat.beq q3 5 && Nat.beq q4 0 && Nat.beq q5 0 && Nat.beq q6 10 && Nat.beq q7 1 && Nat.beq q8 0 && Nat.beq q9 12 && Nat.beq q10 2 && Nat.beq q11 0 && Nat.beq q12 13 && Nat.beq q13 42 && Nat.beq q14 43 && Nat.beq q15 0 && Nat.beq q16 39 && Nat.beq q17 1 && Nat.beq q18 39 && Nat.beq q19 3 && Nat.beq q20 2 && Nat.beq q21 39 && Nat.beq q22 4 && Nat.beq q23 3 && Nat.beq q24 5 && Nat.beq q25 4 && Nat.beq q26 5 && Nat.beq q27 5 && Nat.beq q28 0 then iter (S_bitmap_Cut_1 fuel) fuel (x0, x1, x2, x3, x4, x5, x6, x7, x8, x9, x10, x11, x12, x13, x14) (E108_1 K) else none
 | _ => none)
 | none => none
theorem B108_1_ok (fuel : Nat) (st : Ev.St) (K : Ev.Ex → Ev.St → Option Ans) (r : Ans) (h : B108_1 fuel st K = some r) : evalCode tab (G108 fuel) (J108_1 fuel) kp108 fuel (.block 1 (.loop (bodyOf 1 Try.f108))) st K = some r := by
  unfold B108_1 at h
  split at h
  · rename_i s hs
    split at h
    · skip
      obtain ⟨hb, h⟩ := cond_some' h
      simp only [Bool.and_eq_true, Nat.beq_eq, decide_eq_true_eq] at hb
      obtain ⟨⟨⟨⟨⟨⟨⟨⟨⟨⟨⟨⟨⟨⟨⟨⟨⟨⟨⟨⟨⟨⟨⟨⟨⟨⟨⟨⟨rfl, rfl⟩, rfl⟩, rfl⟩, rfl⟩, rfl⟩, rfl⟩, rfl⟩, rfl⟩, rfl⟩, rfl⟩, rfl⟩, rfl⟩, rfl⟩, rfl⟩, rfl⟩, rfl⟩, rfl⟩, rfl⟩, rfl⟩, rfl⟩, rfl⟩, rfl⟩, rfl⟩, rfl⟩, rfl⟩, rfl⟩, rfl⟩, rfl⟩ := hb
      exact blk_loop (S := T108_1) (ks := E108_1) (step := S_bitmap_Cut_1 fuel) (v := (_, _, _, _, _, _, _, _, _, _, _, _, _, _, _)) (by kernel_rfl) (by kernel_rfl) (fun R K v => by obtain ⟨x0, x1, x2, x3, x4, x5, x6, x7, x8, x9, x10, x11, x12, x13, x14⟩ := v; exact S108_1_ok fuel R K x0 x1 x2 x3 x4 x5 x6 x7 x8 x9 x10 x11 x12 x13 x14) hs h
    · cases h
  · cases h
noncomputable def J108 (fuel : Nat) (i : Nat) : Option Ev.Blk := Ev.look i [(100001, B108_1 fuel)]
noncomputable def Fg_bitmap_Cut (fuel : Nat) (f89 : YF89) (f149 : YF149) (f150 : YF150) (f153 : YF153) (x0 x1 : Int) (x2 : (List Int)) (x3 x4 : Int) (x5 x6 : Int) (k0 : (Int × Int × Int × (List Int)) → Option Ans) : Option Ans :=
  (f89 (x0) (x1) (x2)
  (fun y2 =>
  bif !y2 then
  k0 ((0 : Int), (0 : Int), (30 : Int), [])
  else
  bif decide (x5 < (0 : Int)) then
  k0 ((0 : Int), (0 : Int), (2 : Int), [])
  else
  bif decide (x6 < (0 : Int)) then
  k0 ((0 : Int), (0 : Int), (2 : Int), [])
  else
  (f150 (x3) (x4)
  (fun y9 =>
  bif !y9 then
  k0 ((0 : Int), (0 : Int), (2 : Int), [])
  else
  (f149 (x5) (x6)
  (fun (y14_0, y14_1, y14_2, y14_3) =>
  (L_bitmap_Cut_1 fuel (x3, x4, x5, y14_2, (↑y14_3.length : Int), (0 : Int), x0, x1, x2, (0 : Int), (0 : Int), y14_0, y14_1, [], y14_3)
  (fun (b1_0, b1_1, b1_2, b1_3, b1_4, b1_5, b1_6) =>
  k0 (b1_3, b1_4, b1_0, b1_6)))))))))
noncomputable def F_bitmap_Cut (fuel : Nat) (x0 x1 : Int) (x2 : (List Int)) (x3 x4 : Int) (x5 x6 : Int) (k0 : (Int × Int × Int × (List Int)) → Option Ans) : Option Ans := Fg_bitmap_Cut fuel (F_bitmap_Valid fuel) (F_bitmap_blank fuel) (F_bitmap_isShift fuel) (F_bitmap_at fuel) x0 x1 x2 x3 x4 x5 x6 k0
abbrev YF108 : Type := (Int) → (Int) → ((List Int)) → (Int) → (Int) → (Int) → (Int) → ((Int × Int × Int × (List Int)) → Option Ans) → Option Ans
theorem F108_eqg (fuel : Nat) (f89 : YF89) (f149 : YF149) (f150 : YF150) (f153 : YF153) (x0 x1 : Int) (x2 : (List Int)) (x3 x4 : Int) (x5 x6 : Int) (k : Ev.Cont) : evalFn tab (Gg108 f89 f149 f150 f153) (J108 fuel) kp108 fuel Try.f108 [.agg [.int .i64 x0, .int .i64 x1, .sl (.int .u8) x2], .c (.int .i64 x3), .c (.int .i64 x4), .c (.int .i64 x5), .c (.int .i64 x6)] [] k = Fg_bitmap_Cut fuel f89 f149 f150 f153 x0 x1 x2 x3 x4 x5 x6 (fun r => match r with | (r0, r1, r2, r3) => k (.tup [(true, [.int .i64 r0, .int .i64 r1, .own 0]), (false, [.int .i64 r2])], [.vec 5 (.int .u8) r3 true])) := by
  kernel_rfl
theorem F108_eq (fuel : Nat) (x0 x1 : Int) (x2 : (List Int)) (x3 x4 : Int) (x5 x6 : Int) (k : Ev.Cont) : evalFn tab (G108 fuel) (J108 fuel) kp108 fuel Try.f108 [.agg [.int .i64 x0, .int .i64 x1, .sl (.int .u8) x2], .c (.int .i64 x3), .c (.int .i64 x4), .c (.int .i64 x5), .c (.int .i64 x6)] [] k = F_bitmap_Cut fuel x0 x1 x2 x3 x4 x5 x6 (fun r => match r with | (r0, r1, r2, r3) => k (.tup [(true, [.int .i64 r0, .int .i64 r1, .own 0]), (false, [.int .i64 r2])], [.vec 5 (.int .u8) r3 true])) :=
  F108_eqg fuel (F_bitmap_Valid fuel) (F_bitmap_blank fuel) (F_bitmap_isShift fuel) (F_bitmap_at fuel) x0 x1 x2 x3 x4 x5 x6 k
theorem hG108 (fuel : Nat) : GOK Try.prog (G108 fuel) :=
  gok_cons ⟨ok89 fuel, enters_of Try.func89 (by kernel_rfl) rfl⟩ <|
  gok_cons ⟨ok149 fuel, enters_of Try.func149 (by kernel_rfl) rfl⟩ <|
  gok_cons ⟨ok150 fuel, enters_of Try.func150 (by kernel_rfl) rfl⟩ <|
  gok_cons ⟨ok153 fuel, enters_of Try.func153 (by kernel_rfl) rfl⟩ <|
  gok_nil
theorem B108_1_blk (fuel : Nat) : BlkOK Try.prog Try.f108.ntmps (.block 1 (.loop (bodyOf 1 Try.f108))) (B108_1 fuel) :=
  blk_of (blk_of_code tab_ok (hG108 fuel) mixed (J := J108_1 fuel) (kp := kp108) (fuel := fuel) (by kernel_rfl) (fun q hq => by
    rw [(by kernel_rfl : obl (J108_1 fuel) (.block 1 (.loop (bodyOf 1 Try.f108))) = [])] at hq
    cases hq)) (B108_1_ok fuel)
theorem fok108 (fuel : Nat) : FnOK Try.prog 108 (evalFn tab (G108 fuel) (J108 fuel) kp108 fuel Try.f108) :=
  fn_ok tab_ok (hG108 fuel) mixed Try.func108 (c := (Try.f108.body).getD .skip) rfl (fun q hq => by
    rw [(by kernel_rfl : obl (J108 fuel) ((Try.f108.body).getD .skip) = [(.block 1 (.loop (bodyOf 1 Try.f108)), B108_1 fuel)])] at hq
    simp only [List.mem_cons, List.not_mem_nil, or_false] at hq
    subst hq
    · exact B108_1_blk fuel)
noncomputable def mt108 : List Ev.SV → List Ev.Ob → Bool := fun args objs => match args, objs with
 | [.agg [.int .i64 _, .int .i64 _, .sl (.int .u8) _], .c (.int .i64 _), .c (.int .i64 _), .c (.int .i64 _), .c (.int .i64 _)], [] => true
 | _, _ => false
noncomputable def spg108 (F : YF108) : Ev.Spec := fun args objs k => match args, objs with
 | [.agg [.int .i64 x0, .int .i64 x1, .sl (.int .u8) x2], .c (.int .i64 x3), .c (.int .i64 x4), .c (.int .i64 x5), .c (.int .i64 x6)], [] => bif true then F x0 x1 x2 x3 x4 x5 x6 (fun r => match r with | (r0, r1, r2, r3) => k (.tup [(true, [.int .i64 r0, .int .i64 r1, .own 0]), (false, [.int .i64 r2])], [.vec 5 (.int .u8) r3 true])) else none
 | _, _ => none
noncomputable def spec108 (fuel : Nat) : Ev.Spec := spg108 (F_bitmap_Cut fuel)
theorem ok108 (fuel : Nat) : FnOK Try.prog 108 (spec108 fuel) := by
  intro args objs kk r h
  unfold spec108 spg108 at h
  split at h
  · skip
    obtain ⟨hb, h⟩ := cond_some' h
    simp only [Bool.and_eq_true, Nat.beq_eq, decide_eq_true_eq] at hb
    clear hb
    exact fok108 fuel _ _ kk r ((F108_eq fuel _ _ _ _ _ _ _ kk).trans h)
  · cases h
end Go.Proofs.Ytihfgpfofmjbaaa

set_option linter.unusedVariables false
set_option linter.unusedSimpArgs false
set_option maxRecDepth 100000
set_option maxHeartbeats 2000000
namespace Go.Proofs.Ytihfgpfofmjbaaa
open Go Ev
def kp76 (i : Nat) : Option (List Nat) := Ev.look i [(5, [2, 6, 8, 9, 34, 35]), (100000, [6, 8, 9]), (400000, [6, 7])]
noncomputable def Gg76 (f149 : YF149) (f : Nat) : Option Ev.Spec := Ev.look f [(149, spg149 f149)]
noncomputable def G76 (fuel : Nat) : Nat → Option Ev.Spec := Gg76 (F_bitmap_blank fuel)
noncomputable def Sg_bitmap_New_0 (fuel : Nat) (f149 : YF149) (x0 x1 : Int) (x2 x3 : Int) (x4 x5 : Int) (x6 x7 : Int) (x8 x9 : (List Int)) (c : (Int × Int × Int × Int × Int × Int × Int × Int × (List Int) × (List Int)) → Option Ans) (B : (Int × Int × Int × Int × Int × (List Int) × (List Int) → Option Ans)) : Option Ans := match B with
 | b =>
  bif decide (x3 < x2) then
  bif decide ((0 : Int) ≤ x3 ∧ x3 < (↑x9.length : Int)) then
  c (x0, x1, x2, IntKind.i64.wrap (x3 + (1 : Int)), x4, x5, x6, x7, x8, x9.set x3.toNat (IntKind.u8.wrap x0))
  else none
  else
  b (x1, x4, x5, x6, x7, x8, x9)
noncomputable def S_bitmap_New_0 (fuel : Nat) (v : Int × Int × Int × Int × Int × Int × Int × Int × (List Int) × (List Int)) (c : (Int × Int × Int × Int × Int × Int × Int × Int × (List Int) × (List Int)) → Option Ans) (B : (Int × Int × Int × Int × Int × (List Int) × (List Int) → Option Ans)) : Option Ans := match v with
 | (x0, x1, x2, x3, x4, x5, x6, x7, x8, x9) => Sg_bitmap_New_0 fuel (F_bitmap_blank fuel) x0 x1 x2 x3 x4 x5 x6 x7 x8 x9 c B
noncomputable def L_bitmap_New_0 (fuel : Nat) (v : Int × Int × Int × Int × Int × Int × Int × Int × (List Int) × (List Int)) (b : (Int × Int × Int × Int × Int × (List Int) × (List Int) → Option Ans)) : Option Ans := iter (S_bitmap_New_0 fuel) fuel v b
noncomputable def J76_0 (fuel : Nat) (i : Nat) : Option Ev.Blk := Ev.look i []
noncomputable def T76_0 (v : Int × Int × Int × Int × Int × Int × Int × Int × (List Int) × (List Int)) : Ev.St := match v with | (x0, x1, x2, x3, x4, x5, x6, x7, x8, x9) => ⟨[(2, .c (.int .i64 x0)), (6, .c (.ptr 0 0)), (8, .c (.ptr 1 0)), (9, .c (.int .i64 x1)), (34, .c (.int .i64 x2)), (35, .c (.int .i64 x3))], [(0, .cells 39 [.int .i64 x4, .int .i64 x5, .own 2]), (1, .cells 39 [.int .i64 x6, .int .i64 x7, .own 3]), (2, .vec 5 (.int .u8) x8 true), (3, .vec 5 (.int .u8) x9 true)], 4, 0⟩
noncomputable def E76_0 (K : Ev.Ex → Ev.St → Option Ans) : (Int × Int × Int × Int × Int × (List Int) × (List Int) → Option Ans) := (fun v => match v with | (x0, x1, x2, x3, x4, x5, x6) => K .normal ⟨[(6, .c (.ptr 0 0)), (8, .c (.ptr 1 0)), (9, .c (.int .i64 x0))], [(0, .cells 39 [.int .i64 x1, .int .i64 x2, .own 2]), (1, .cells 39 [.int .i64 x3, .int .i64 x4, .own 3]), (2, .vec 5 (.int .u8) x5 true), (3, .vec 5 (.int .u8) x6 true)], 4, 0⟩)
theorem S76_0_okg (fuel : Nat) (f149 : YF149) (R : Ev.St → Option Ans) (K : Ev.Ex → Ev.St → Option Ans) (x0 x1 : Int) (x2 x3 : Int) (x4 x5 : Int) (x6 x7 : Int) (x8 x9 : (List Int)) : evalCode tab (Gg76 f149) (J76_0 fuel) kp76 fuel (bodyOf 0 Try.f76) (T76_0 (x0, x1, x2, x3, x4, x5, x6, x7, x8, x9)) (lc kp76 5 0 R K) = Sg_bitmap_New_0 fuel f149 x0 x1 x2 x3 x4 x5 x6 x7 x8 x9 (fun v => R (T76_0 v)) (E76_0 K) := by
  kernel_rfl
theorem S76_0_ok (fuel : Nat) (R : Ev.St → Option Ans) (K : Ev.Ex → Ev.St → Option Ans) (x0 x1 : Int) (x2 x3 : Int) (x4 x5 : Int) (x6 x7 : Int) (x8 x9 : (List Int)) : evalCode tab (G76 fuel) (J76_0 fuel) kp76 fuel (bodyOf 0 Try.f76) (T76_0 (x0, x1, x2, x3, x4, x5, x6, x7, x8, x9)) (lc kp76 5 0 R K) = S_bitmap_New_0 fuel (x0, x1, x2, x3, x4, x5, x6, x7, x8, x9) (fun v => R (T76_0 v)) (E76_0 K) :=
  S76_0_okg fuel (F_bitmap_blank fuel) R K x0 x1 x2 x3 x4 x5 x6 x7 x8 x9
noncomputable def B76_0 (fuel : Nat) : Ev.Blk := fun st K => match canonO (kp76 5) st with
 | some s => (match s with
 | ⟨[(q0, .c (.int .i64 x0)), (q1, .c (.ptr q2 q3)), (q4, .c (.ptr q5 q6)), (q7, .c (.int .i64 x1)), (q8, .c (.int .i64 x2)), (q9, .c (.int .i64 x3))], [(q10, .cells q11 [.int .i64 x4, .int .i64 x5, .own q12]), (q13, .cells q14 [.int .i64 x6, .int .i64 x7, .own q15]), (q16, .vec q17 (.int .u8) x8 true), (q18, .vec q19 (.int .u8) x9 true)], q20, q21⟩ => bif Nat.beq q0 2 && Nat.beq q1 6 && Nat.beq q2 0 && Nat.beq q3 0 && Nat.beq q4 8 && Nat.beq q5 1 && Nat.beq q6 0 && Nat.beq q7 9 && Nat.beq q8 34 && Nat.beq q9 35 && Nat.beq q10 0 && Nat.beq q11 39 && Nat.beq q12 2 && Nat.beq q13 1 && Nat.beq q14 39 && Nat.beq q15 3 && Nat.beq q16 2 && Nat.beq q17 5 && Nat.beq q18 3 && Nat.beq q19 5 && Nat.beq q20 4 && Nat.beq q21 0 then iter (S_bitmap_New_0 fuel) fuel (x0, x1, x2, x3, x4, x5, x6, x7, x8, x9) (E76_0 K) else none
 | _ => none)
 | none => none
theorem B76_0_ok (fuel : Nat) (st : Ev.St) (K : Ev.Ex → Ev.St → Option Ans) (r : Ans) (h : B76_0 fuel st K = some r) : evalCode tab (G76 fuel) (J76_0 fuel) kp76 fuel (.block 0 (.loop (bodyOf 0 Try.f76))) st K = some r := by
  unfold B76_0 at h
  split at h
  · rename_i s hs
    split at h
    · skip
      obtain ⟨hb, h⟩ := cond_some' h
      simp only [Bool.and_eq_true, Nat.beq_eq, decide_eq_true_eq] at hb
      obtain ⟨⟨⟨⟨⟨⟨⟨⟨⟨⟨⟨⟨⟨⟨⟨⟨⟨⟨⟨⟨⟨rfl, rfl⟩, rfl⟩, rfl⟩, rfl⟩, rfl⟩, rfl⟩, rfl⟩, rfl⟩, rfl⟩, rfl⟩, rfl⟩, rfl⟩, rfl⟩, rfl⟩, rfl⟩, rfl⟩, rfl⟩, rfl⟩, rfl⟩, rfl⟩, rfl⟩ := hb
      exact blk_loop (S := T76_0) (ks := E76_0) (step := S_bitmap_New_0 fuel) (v := (_, _, _, _, _, _, _, _, _, _)) (by kernel_rfl) (by kernel_rfl) (fun R K v => by obtain ⟨x0, x1, x2, x3, x4, x5, x6, x7, x8, x9⟩ := v; exact S76_0_ok fuel R K x0 x1 x2 x3 x4 x5 x6 x7 x8 x9) hs h
    · cases h
  · cases h
noncomputable def J76 (fuel : Nat) (i : Nat) : Option Ev.Blk := Ev.look i [(100000, B76_0 fuel)]
noncomputable def Fg_bitmap_New (fuel : Nat) (f149 : YF149) (x0 x1 x2 : Int) (k0 : (Int × Int × Int × (List Int)) → Option Ans) : Option Ans :=
  bif decide (x0 < (0 : Int)) then
  k0 ((0 : Int), (0 : Int), (2 : Int), [])
  else
  bif decide (x1 < (0 : Int)) then
  k0 ((0 : Int), (0 : Int), (2 : Int), [])
  else
  bif x2 != (0 : Int) then
  bif x2 != (1 : Int) then
  k0 ((0 : Int), (0 : Int), (2 : Int), [])
  else
  (f149 (x0) (x1)
  (fun (y6_0, y6_1, y6_2, y6_3) =>
  (L_bitmap_New_0 fuel (x2, y6_2, (↑y6_3.length : Int), (0 : Int), (0 : Int), (0 : Int), y6_0, y6_1, [], y6_3)
  (fun (b0_0, b0_1, b0_2, b0_3, b0_4, b0_5, b0_6) =>
  k0 (b0_3, b0_4, b0_0, b0_6)))))
  else
  (f149 (x0) (x1)
  (fun (y5_0, y5_1, y5_2, y5_3) =>
  (L_bitmap_New_0 fuel (x2, y5_2, (↑y5_3.length : Int), (0 : Int), (0 : Int), (0 : Int), y5_0, y5_1, [], y5_3)
  (fun (b0_0, b0_1, b0_2, b0_3, b0_4, b0_5, b0_6) =>
  k0 (b0_3, b0_4, b0_0, b0_6)))))
noncomputable def F_bitmap_New (fuel : Nat) (x0 x1 x2 : Int) (k0 : (Int × Int × Int × (List Int)) → Option Ans) : Option Ans := Fg_bitmap_New fuel (F_bitmap_blank fuel) x0 x1 x2 k0
abbrev YF76 : Type := (Int) → (Int) → (Int) → ((Int × Int × Int × (List Int)) → Option Ans) → Option Ans
theorem F76_eqg (fuel : Nat) (f149 : YF149) (x0 x1 x2 : Int) (k : Ev.Cont) : evalFn tab (Gg76 f149) (J76 fuel) kp76 fuel Try.f76 [.c (.int .i64 x0), .c (.int .i64 x1), .c (.int .i64 x2)] [] k = Fg_bitmap_New fuel f149 x0 x1 x2 (fun r => match r with | (r0, r1, r2, r3) => k (.tup [(true, [.int .i64 r0, .int .i64 r1, .own 0]), (false, [.int .i64 r2])], [.vec 5 (.int .u8) r3 true])) := by
  kernel_rfl
theorem F76_eq (fuel : Nat) (x0 x1 x2 : Int) (k : Ev.Cont) : evalFn tab (G76 fuel) (J76 fuel) kp76 fuel Try.f76 [.c (.int .i64 x0), .c (.int .i64 x1), .c (.int .i64 x2)] [] k = F_bitmap_New fuel x0 x1 x2 (fun r => match r with | (r0, r1, r2, r3) => k (.tup [(true, [.int .i64 r0, .int .i64 r1, .own 0]), (false, [.int .i64 r2])], [.vec 5 (.int .u8) r3 true])) :=
  F76_eqg fuel (F_bitmap_blank fuel) x0 x1 x2 k
theorem hG76 (fuel : Nat) : GOK Try.prog (G76 fuel) :=
  gok_cons ⟨ok149 fuel, enters_of Try.func149 (by kernel_rfl) rfl⟩ <|
  gok_nil
theorem B76_0_blk (fuel : Nat) : BlkOK Try.prog Try.f76.ntmps (.block 0 (.loop (bodyOf 0 Try.f76))) (B76_0 fuel) :=
  blk_of (blk_of_code tab_ok (hG76 fuel) mixed (J := J76_0 fuel) (kp := kp76) (fuel := fuel) (by kernel_rfl) (fun q hq => by
    rw [(by kernel_rfl : obl (J76_0 fuel) (.block 0 (.loop (bodyOf 0 Try.f76))) = [])] at hq
    cases hq)) (B76_0_ok fuel)
theorem fok76 (fuel : Nat) : FnOK Try.prog 76 (evalFn tab (G76 fuel) (J76 fuel) kp76 fuel Try.f76) :=
  fn_ok tab_ok (hG76 fuel) mixed Try.func76 (c := (Try.f76.body).getD .skip) rfl (fun q hq => by
    rw [(by kernel_rfl : obl (J76 fuel) ((Try.f76.body).getD .skip) = [(.block 0 (.loop (bodyOf 0 Try.f76)), B76_0 fuel)])] at hq
    simp only [List.mem_cons, List.not_mem_nil, or_false] at hq
    subst hq
    · exact B76_0_blk fuel)
noncomputable def mt76 : List Ev.SV → List Ev.Ob → Bool := fun args objs => match args, objs with
 | [.c (.int .i64 _), .c (.int .i64 _), .c (.int .i64 _)], [] => true
 | _, _ => false
noncomputable def spg76 (F : YF76) : Ev.Spec := fun args objs k => match args, objs with
 | [.c (.int .i64 x0), .c (.int .i64 x1), .c (.int .i64 x2)], [] => bif true then F x0 x1 x2 (fun r => match r with | (r0, r1, r2, r3) => k (.tup [(true, [.int .i64 r0, .int .i64 r1, .own 0]), (false, [.int .i64 r2])], [.vec 5 (.int .u8) r3 true])) else none
 | _, _ => none
noncomputable def spec76 (fuel : Nat) : Ev.Spec := spg76 (F_bitmap_New fuel)
theorem ok76 (fuel : Nat) : FnOK Try.prog 76 (spec76 fuel) := by
  intro args objs kk r h
  unfold spec76 spg76 at h
  split at h
  · skip
    obtain ⟨hb, h⟩ := cond_some' h
    simp only [Bool.and_eq_true, Nat.beq_eq, decide_eq_true_eq] at hb
    clear hb
    exact fok76 fuel _ _ kk r ((F76_eq fuel _ _ _ kk).trans h)
  · cases h
end Go.Proofs.Ytihfgpfofmjbaaa

set_option linter.unusedVariables false
set_option linter.unusedSimpArgs false
set_option maxRecDepth 100000
set_option maxHeartbeats 2000000
namespace Go.Proofs.Ytihfgpfofmjbaaa
open Go Ev
def kp41 (i : Nat) : Option (List Nat) := Ev.look i []
noncomputable def Gg41 (f : Nat) : Option Ev.Spec := Ev.look f []
noncomputable def G41 (fuel : Nat) : Nat → Option Ev.Spec := Gg41
noncomputable def J41 (fuel : Nat) (i : Nat) : Option Ev.Blk := Ev.look i []
noncomputable def F_coder_New (fuel : Nat) (x0 x1 : Int) (k0 : (Int × Int × (List Int)) → Option Ans) : Option Ans :=
  bif x0 != (0 : Int) then
  bif x0 != (1 : Int) then
  k0 ((0 : Int), (2 : Int), [])
  else
  bif decide (x1 < (0 : Int)) then
  k0 ((0 : Int), (2 : Int), [])
  else
  bif decide (x1 > (8192 : Int)) then
  k0 ((0 : Int), (2 : Int), [])
  else
  bif decide ((0 : Int) ≤ x1 ∧ x1 = x1 ∧ (↑(8 : Nat) : Int) * x1 ≤ (281474976710656 : Int) ∧ x1 ≤ (281474976710656 : Int)) then
  k0 (x0, (0 : Int), List.replicate x1.toNat (0 : Int))
  else none
  else
  bif decide (x1 < (0 : Int)) then
  k0 ((0 : Int), (2 : Int), [])
  else
  bif decide (x1 > (8192 : Int)) then
  k0 ((0 : Int), (2 : Int), [])
  else
  bif decide ((0 : Int) ≤ x1 ∧ x1 = x1 ∧ (↑(8 : Nat) : Int) * x1 ≤ (281474976710656 : Int) ∧ x1 ≤ (281474976710656 : Int)) then
  k0 (x0, (0 : Int), List.replicate x1.toNat (0 : Int))
  else none
abbrev YF41 : Type := (Int) → (Int) → ((Int × Int × (List Int)) → Option Ans) → Option Ans
theorem F41_eq (fuel : Nat) (x0 x1 : Int) (k : Ev.Cont) : evalFn tab (G41 fuel) (J41 fuel) kp41 fuel Try.f41 [.c (.int .i64 x0), .c (.int .i64 x1)] [] k = F_coder_New fuel x0 x1 (fun r => match r with | (r0, r1, r2) => k (.tup [(true, [.int .i64 r0, .own 0]), (false, [.int .i64 r1])], [.vec 3 (.int .i64) r2 true])) := by
  kernel_rfl
theorem hG41 (fuel : Nat) : GOK Try.prog (G41 fuel) :=
  gok_nil
theorem fok41 (fuel : Nat) : FnOK Try.prog 41 (evalFn tab (G41 fuel) (J41 fuel) kp41 fuel Try.f41) :=
  fn_ok tab_ok (hG41 fuel) mixed Try.func41 (c := (Try.f41.body).getD .skip) rfl (fun q hq => by
    rw [(by kernel_rfl : obl (J41 fuel) ((Try.f41.body).getD .skip) = [])] at hq
    cases hq)
noncomputable def mt41 : List Ev.SV → List Ev.Ob → Bool := fun args objs => match args, objs with
 | [.c (.int .i64 _), .c (.int .i64 _)], [] => true
 | _, _ => false
noncomputable def spg41 (F : YF41) : Ev.Spec := fun args objs k => match args, objs with
 | [.c (.int .i64 x0), .c (.int .i64 x1)], [] => bif true then F x0 x1 (fun r => match r with | (r0, r1, r2) => k (.tup [(true, [.int .i64 r0, .own 0]), (false, [.int .i64 r1])], [.vec 3 (.int .i64) r2 true])) else none
 | _, _ => none
noncomputable def spec41 (fuel : Nat) : Ev.Spec := spg41 (F_coder_New fuel)
theorem ok41 (fuel : Nat) : FnOK Try.prog 41 (spec41 fuel) := by
  intro args objs kk r h
  unfold spec41 spg41 at h
  split at h
  · skip
    obtain ⟨hb, h⟩ := cond_some' h
    simp only [Bool.and_eq_true, Nat.beq_eq, decide_eq_true_eq] at hb
    clear hb
    exact fok41 fuel _ _ kk r ((F41_eq fuel _ _ kk).trans h)
  · cases h
end Go.Proofs.Ytihfgpfofmjbaaa

set_option linter.unusedVariables false
set_option linter.unusedSimpArgs false
set_option maxRecDepth 100000
set_option maxHeartbeats 2000000
namespace Go.Proofs.Ytihfgpfofmjbaaa
open Go Ev
def kp115_40a (i : Nat) : Option (List Nat) := Ev.look i [(200001, [0]), (200002, [0])]
noncomputable def Gg115_40a (f : Nat) : Option Ev.Spec := Ev.look f []
noncomputable def G115_40a (fuel : Nat) : Nat → Option Ev.Spec := Gg115_40a
noncomputable def J115_40a (fuel : Nat) (i : Nat) : Option Ev.Blk := Ev.look i []
noncomputable def F_coder_Decoder_shift_40a (fuel : Nat) (x0 x1 : Int) (x2 x3 : Int) (x4 x5 : Int) (x6 x7 : Bool) (x8 x9 : (List Int)) (k0 : (Int × Int × Int × Int × Int × Int × Bool × Bool × (List Int) × (List Int)) → Option Ans) : Option Ans :=
  bif decide (x3 < (↑x9.length : Int)) then
  bif decide ((0 : Int) ≤ x3 ∧ x3 < (↑x9.length : Int)) then
  k0 (x0, x1, x2, IntKind.i64.wrap (x3 + (1 : Int)), Ev.ior IntKind.u64 (Ev.iand IntKind.u64 (Ev.ishl IntKind.u64 x4 (8 : Int)) (4294967295 : Int)) (IntKind.u64.wrap (x9.getD x3.toNat (0 : Int))), x5, x6, x7, x8, x9)
  else none
  else
  k0 (x0, x1, x2, IntKind.i64.wrap (x3 + (1 : Int)), Ev.ior IntKind.u64 (Ev.iand IntKind.u64 (Ev.ishl IntKind.u64 x4 (8 : Int)) (4294967295 : Int)) (IntKind.u64.wrap (0 : Int)), IntKind.i64.wrap (x5 + (1 : Int)), x6, x7, x8, x9)
abbrev YF115_40a : Type := (Int) → (Int) → (Int) → (Int) → (Int) → (Int) → (Bool) → (Bool) → ((List Int)) → ((List Int)) → ((Int × Int × Int × Int × Int × Int × Bool × Bool × (List Int) × (List Int)) → Option Ans) → Option Ans
theorem F115_40a_eq (fuel : Nat) (x0 x1 : Int) (x2 x3 : Int) (x4 x5 : Int) (x6 x7 : Bool) (x8 x9 : (List Int)) (k : Ev.Cont) : evalFn tab (G115_40a fuel) (J115_40a fuel) kp115_40a fuel Try.f115 [.c (.ptr 0 0)] [.cells 158 (.int .i64 x0 :: .own 1 :: ctb (.int .u64 x1 :: .int .u64 x2 :: .own 2 :: .int .i64 x3 :: .int .u64 x4 :: .int .i64 x5 :: .bool x6 :: .bool x7 :: [])), .vec 3 (.int .i64) x8 false, .vec 5 (.int .u8) x9 false] k = F_coder_Decoder_shift_40a fuel x0 x1 x2 x3 x4 x5 x6 x7 x8 x9 (fun r => match r with | (r0, r1, r2, r3, r4, r5, r6, r7, r8, r9) => k (.tup [], [.cells 158 (.int .i64 r0 :: .own 1 :: ctb (.int .u64 r1 :: .int .u64 r2 :: .own 2 :: .int .i64 r3 :: .int .u64 r4 :: .int .i64 r5 :: .bool r6 :: .bool r7 :: [])), .vec 3 (.int .i64) r8 false, .vec 5 (.int .u8) r9 false])) := by
  kernel_rfl
theorem hG115_40a (fuel : Nat) : GOK Try.prog (G115_40a fuel) :=
  gok_nil
theorem fok115_40a (fuel : Nat) : FnOK Try.prog 115 (evalFn tab (G115_40a fuel) (J115_40a fuel) kp115_40a fuel Try.f115) :=
  fn_ok tab_ok (hG115_40a fuel) mixed Try.func115 (c := (Try.f115.body).getD .skip) rfl (fun q hq => by
    rw [(by kernel_rfl : obl (J115_40a fuel) ((Try.f115.body).getD .skip) = [])] at hq
    cases hq)
noncomputable def mt115_40a : List Ev.SV → List Ev.Ob → Bool := fun args objs => match args, objs with
 | [.c (.ptr q0 q1)], [.cells q2 cs0, .vec q3 (.int .i64) _ false, .vec q4 (.int .u8) _ false] => (match splitRun 2 ctn cs0 with | some ([.int .i64 _, .own q5], [.int .u64 _, .int .u64 _, .own q6, .int .i64 _, .int .u64 _, .int .i64 _, .bool _, .bool _]) => Nat.beq q0 0 && Nat.beq q1 0 && Nat.beq q2 158 && Nat.beq q3 3 && Nat.beq q4 5 && Nat.beq q5 1 && Nat.beq q6 2 | _ => false)
 | _, _ => false
noncomputable def spg115_40a (F : YF115_40a) : Ev.Spec := fun args objs k => match args, objs with
 | [.c (.ptr q0 q1)], [.cells q2 cs0, .vec q3 (.int .i64) x8 false, .vec q4 (.int .u8) x9 false] => (match splitRun 2 ctn cs0 with | some ([.int .i64 x0, .own q5], [.int .u64 x1, .int .u64 x2, .own q6, .int .i64 x3, .int .u64 x4, .int .i64 x5, .bool x6, .bool x7]) => bif Nat.beq q0 0 && Nat.beq q1 0 && Nat.beq q2 158 && Nat.beq q3 3 && Nat.beq q4 5 && Nat.beq q5 1 && Nat.beq q6 2 then F x0 x1 x2 x3 x4 x5 x6 x7 x8 x9 (fun r => match r with | (r0, r1, r2, r3, r4, r5, r6, r7, r8, r9) => k (.tup [], [.cells 158 (.int .i64 r0 :: .own 1 :: ctb (.int .u64 r1 :: .int .u64 r2 :: .own 2 :: .int .i64 r3 :: .int .u64 r4 :: .int .i64 r5 :: .bool r6 :: .bool r7 :: [])), .vec 3 (.int .i64) r8 false, .vec 5 (.int .u8) r9 false])) else none | _ => none)
 | _, _ => none
noncomputable def spec115_40a (fuel : Nat) : Ev.Spec := spg115_40a (F_coder_Decoder_shift_40a fuel)
theorem ok115_40a (fuel : Nat) : FnOK Try.prog 115 (spec115_40a fuel) := by
  intro args objs kk r h
  unfold spec115_40a spg115_40a at h
  split at h
  · skip
    split at h
    rotate_left 1
    · cases h
    rename_i hsp
    have esp := splitRun_eq hsp
    subst esp
    obtain ⟨hb, h⟩ := cond_some' h
    simp only [Bool.and_eq_true, Nat.beq_eq, decide_eq_true_eq] at hb
    obtain ⟨⟨⟨⟨⟨⟨rfl, rfl⟩, rfl⟩, rfl⟩, rfl⟩, rfl⟩, rfl⟩ := hb
    exact fok115_40a fuel _ _ kk r ((F115_40a_eq fuel _ _ _ _ _ _ _ _ _ _ kk).trans h)
  · cases h
end Go.Proofs.Ytihfgpfofmjbaaa

set_option linter.unusedVariables false
set_option linter.unusedSimpArgs false
set_option maxRecDepth 100000
set_option maxHeartbeats 2000000
namespace Go.Proofs.Ytihfgpfofmjbaaa
open Go Ev
def kp113 (i : Nat) : Option (List Nat) := Ev.look i [(7, [3, 24, 25, 26]), (100000, []), (400000, [2])]
noncomputable def Gg113 (f : Nat) : Option Ev.Spec := Ev.look f []
noncomputable def G113 (fuel : Nat) : Nat → Option Ev.Spec := Gg113
noncomputable def S_coder_Valid_0 (fuel : Nat) (v : Int × (List Int) × Int × Int) (c : (Int × (List Int) × Int × Int) → Option Ans) (B : (Bool → Option Ans) × (Unit → Option Ans)) : Option Ans := match v, B with
 | (x0, x1, x2, x3), (ret, b) =>
  bif decide (x3 < x2) then
  bif decide ((0 : Int) ≤ x3 ∧ x3 < (↑x1.length : Int)) then
  bif decide (x1.getD x3.toNat (0 : Int) < (0 : Int)) then
  ret false
  else
  bif decide (x1.getD x3.toNat (0 : Int) ≥ x0) then
  ret false
  else
  c (x0, x1, x2, IntKind.i64.wrap (x3 + (1 : Int)))
  else none
  else
  b ()
noncomputable def L_coder_Valid_0 (fuel : Nat) (v : Int × (List Int) × Int × Int) (ret : (Bool → Option Ans)) (b : (Unit → Option Ans)) : Option Ans := iter (S_coder_Valid_0 fuel) fuel v (ret, b)
noncomputable def J113_0 (fuel : Nat) (i : Nat) : Option Ev.Blk := Ev.look i []
noncomputable def T113_0 (v : Int × (List Int) × Int × Int) : Ev.St := match v with | (x0, x1, x2, x3) => ⟨[(3, .c (.int .i64 x0)), (24, .c (.sl (.int .i64) x1)), (25, .c (.int .i64 x2)), (26, .c (.int .i64 x3))], [], 0, 0⟩
noncomputable def E113_0 (K : Ev.Ex → Ev.St → Option Ans) : (Bool → Option Ans) × (Unit → Option Ans) := ((fun v => match v with | x0 => K .ret ⟨[(2, .c (.bool x0))], [], 0, 0⟩), (fun v => match v with | () => K .normal ⟨[], [], 0, 0⟩))
theorem S113_0_ok (fuel : Nat) (R : Ev.St → Option Ans) (K : Ev.Ex → Ev.St → Option Ans) (x0 : Int) (x1 : (List Int)) (x2 x3 : Int) : evalCode tab (G113 fuel) (J113_0 fuel) kp113 fuel (bodyOf 0 Try.f113) (T113_0 (x0, x1, x2, x3)) (lc kp113 7 0 R K) = S_coder_Valid_0 fuel (x0, x1, x2, x3) (fun v => R (T113_0 v)) (E113_0 K) := by
  kernel_rfl
noncomputable def B113_0 (fuel : Nat) : Ev.Blk := fun st K => match canonO (kp113 7) st with
 | some s => (match s with
 | ⟨[(q0, .c (.int .i64 x0)), (q1, .c (.sl (.int .i64) x1)), (q2, .c (.int .i64 x2)), (q3, .c (.int .i64 x3))], [], q4, q5⟩ => bif Nat.beq q0 3 && Nat.beq q1 24 && Nat.beq q2 25 && Nat.beq q3 26 && Nat.beq q4 0 && Nat.beq q5 0 then iter (S_coder_Valid_0 fuel) fuel (x0, x1, x2, x3) (E113_0 K) else none
 | _ => none)
 | none => none
theorem B113_0_ok (fuel : Nat) (st : Ev.St) (K : Ev.Ex → Ev.St → Option Ans) (r : Ans) (h : B113_0 fuel st K = some r) : evalCode tab (G113 fuel) (J113_0 fuel) kp113 fuel (.block 0 (.loop (bodyOf 0 Try.f113))) st K = some r := by
  unfold B113_0 at h
  split at h
  · rename_i s hs
    split at h
    · skip
      obtain ⟨hb, h⟩ := cond_some' h
      simp only [Bool.and_eq_true, Nat.beq_eq, decide_eq_true_eq] at hb
      obtain ⟨⟨⟨⟨⟨rfl, rfl⟩, rfl⟩, rfl⟩, rfl⟩, rfl⟩ := hb
      exact blk_loop (S := T113_0) (ks := E113_0) (step := S_coder_Valid_0 fuel) (v := (_, _, _, _)) (by kernel_rfl) (by kernel_rfl) (fun R K v => by obtain ⟨x0, x1, x2, x3⟩ := v; exact S113_0_ok fuel R K x0 x1 x2 x3) hs h
    · cases h
  · cases h
noncomputable def J113 (fuel : Nat) (i : Nat) : Option Ev.Blk := Ev.look i [(100000, B113_0 fuel)]
noncomputable def F_coder_Valid (fuel : Nat) (x0 : Int) (x1 : (List Int)) (k0 : (Bool) → Option Ans) : Option Ans :=
  bif x0 != (0 : Int) then
  bif x0 != (1 : Int) then
  k0 false
  else
  bif decide ((↑x1.length : Int) > (8192 : Int)) then
  k0 false
  else
  bif x0 == (1 : Int) then
  (L_coder_Valid_0 fuel ((65536 : Int), x1, (↑x1.length : Int), (0 : Int))
  (fun ret0_0 =>
  k0 ret0_0)
  (fun () =>
  k0 true))
  else
  (L_coder_Valid_0 fuel ((64 : Int), x1, (↑x1.length : Int), (0 : Int))
  (fun ret0_0 =>
  k0 ret0_0)
  (fun () =>
  k0 true))
  else
  bif decide ((↑x1.length : Int) > (8192 : Int)) then
  k0 false
  else
  bif x0 == (1 : Int) then
  (L_coder_Valid_0 fuel ((65536 : Int), x1, (↑x1.length : Int), (0 : Int))
  (fun ret0_0 =>
  k0 ret0_0)
  (fun () =>
  k0 true))
  else
  (L_coder_Valid_0 fuel ((64 : Int), x1, (↑x1.length : Int), (0 : Int))
  (fun ret0_0 =>
  k0 ret0_0)
  (fun () =>
  k0 true))
abbrev YF113 : Type := (Int) → ((List Int)) → ((Bool) → Option Ans) → Option Ans
theorem F113_eq (fuel : Nat) (x0 : Int) (x1 : (List Int)) (k : Ev.Cont) : evalFn tab (G113 fuel) (J113 fuel) kp113 fuel Try.f113 [.agg [.int .i64 x0, .sl (.int .i64) x1]] [] k = F_coder_Valid fuel x0 x1 (fun r => match r with | r0 => k (.c (.bool r0), [])) := by
  kernel_rfl
theorem hG113 (fuel : Nat) : GOK Try.prog (G113 fuel) :=
  gok_nil
theorem B113_0_blk (fuel : Nat) : BlkOK Try.prog Try.f113.ntmps (.block 0 (.loop (bodyOf 0 Try.f113))) (B113_0 fuel) :=
  blk_of (blk_of_code tab_ok (hG113 fuel) mixed (J := J113_0 fuel) (kp := kp113) (fuel := fuel) (by kernel_rfl) (fun q hq => by
    rw [(by kernel_rfl : obl (J113_0 fuel) (.block 0 (.loop (bodyOf 0 Try.f113))) = [])] at hq
    cases hq)) (B113_0_ok fuel)
theorem fok113 (fuel : Nat) : FnOK Try.prog 113 (evalFn tab (G113 fuel) (J113 fuel) kp113 fuel Try.f113) :=
  fn_ok tab_ok (hG113 fuel) mixed Try.func113 (c := (Try.f113.body).getD .skip) rfl (fun q hq => by
    rw [(by kernel_rfl : obl (J113 fuel) ((Try.f113.body).getD .skip) = [(.block 0 (.loop (bodyOf 0 Try.f113)), B113_0 fuel)])] at hq
    simp only [List.mem_cons, List.not_mem_nil, or_false] at hq
    subst hq
    · exact B113_0_blk fuel)
noncomputable def mt113 : List Ev.SV → List Ev.Ob → Bool := fun args objs => match args, objs with
 | [.agg [.int .i64 _, .sl (.int .i64) _]], [] => true
 | _, _ => false
noncomputable def spg113 (F : YF113) : Ev.Spec := fun args objs k => match args, objs with
 | [.agg [.int .i64 x0, .sl (.int .i64) x1]], [] => bif true then F x0 x1 (fun r => match r with | r0 => k (.c (.bool r0), [])) else none
 | _, _ => none
noncomputable def spec113 (fuel : Nat) : Ev.Spec := spg113 (F_coder_Valid fuel)
theorem ok113 (fuel : Nat) : FnOK Try.prog 113 (spec113 fuel) := by
  intro args objs kk r h
  unfold spec113 spg113 at h
  split at h
  · skip
    obtain ⟨hb, h⟩ := cond_some' h
    simp only [Bool.and_eq_true, Nat.beq_eq, decide_eq_true_eq] at hb
    clear hb
    exact fok113 fuel _ _ kk r ((F113_eq fuel _ _ kk).trans h)
  · cases h
end Go.Proofs.Ytihfgpfofmjbaaa

set_option linter.unusedVariables false
set_option linter.unusedSimpArgs false
set_option maxRecDepth 100000
set_option maxHeartbeats 2000000
namespace Go.Proofs.Ytihfgpfofmjbaaa
open Go Ev
def kp178 (i : Nat) : Option (List Nat) := Ev.look i [(4, [0, 1, 2, 4]), (100000, [0, 1]), (400000, [0])]
noncomputable def Gg178 (f : Nat) : Option Ev.Spec := Ev.look f []
noncomputable def G178 (fuel : Nat) : Nat → Option Ev.Spec := Gg178
noncomputable def J178 (fuel : Nat) (i : Nat) : Option Ev.Blk := Ev.look i []
noncomputable def F_coder_chances (fuel : Nat)  (k0 : (Unit) → Option Ans) : Option Ans :=
  k0 ()
abbrev YF178 : Type := ((Unit) → Option Ans) → Option Ans
theorem F178_eq (fuel : Nat)  (k : Ev.Cont) : evalFn tab (G178 fuel) (J178 fuel) kp178 100 Try.f178 [] [] k = F_coder_chances fuel  (fun r => match r with | () => k (.agg (ctb []), [])) := by
  kernel_rfl
theorem hG178 (fuel : Nat) : GOK Try.prog (G178 fuel) :=
  gok_nil
theorem fok178 (fuel : Nat) : FnOK Try.prog 178 (evalFn tab (G178 fuel) (J178 fuel) kp178 100 Try.f178) :=
  fn_ok tab_ok (hG178 fuel) mixed Try.func178 (c := (Try.f178.body).getD .skip) rfl (fun q hq => by
    rw [(by kernel_rfl : obl (J178 fuel) ((Try.f178.body).getD .skip) = [])] at hq
    cases hq)
noncomputable def mt178 : List Ev.SV → List Ev.Ob → Bool := fun args objs => match args, objs with
 | [], [] => true
 | _, _ => false
noncomputable def spg178 (F : YF178) : Ev.Spec := fun args objs k => match args, objs with
 | [], [] => bif true then F  (fun r => match r with | () => k (.agg (ctb []), [])) else none
 | _, _ => none
noncomputable def spec178 (fuel : Nat) : Ev.Spec := spg178 (F_coder_chances fuel)
theorem ok178 (fuel : Nat) : FnOK Try.prog 178 (spec178 fuel) := by
  intro args objs kk r h
  unfold spec178 spg178 at h
  split at h
  · skip
    obtain ⟨hb, h⟩ := cond_some' h
    simp only [Bool.and_eq_true, Nat.beq_eq, decide_eq_true_eq] at hb
    clear hb
    exact fok178 fuel _ _ kk r ((F178_eq fuel kk).trans h)
  · cases h
end Go.Proofs.Ytihfgpfofmjbaaa

set_option linter.unusedVariables false
set_option linter.unusedSimpArgs false
set_option maxRecDepth 100000
set_option maxHeartbeats 2000000
namespace Go.Proofs.Ytihfgpfofmjbaaa
open Go Ev
def kp170 (i : Nat) : Option (List Nat) := Ev.look i [(200001, [1])]
noncomputable def Gg170 (f : Nat) : Option Ev.Spec := Ev.look f []
noncomputable def G170 (fuel : Nat) : Nat → Option Ev.Spec := Gg170
noncomputable def J170 (fuel : Nat) (i : Nat) : Option Ev.Blk := Ev.look i []
noncomputable def F_coder_clone (fuel : Nat) (x0 : Int) (x1 : (List Int)) (k0 : (Int × (List Int)) → Option Ans) : Option Ans :=
  bif decide (((0 : Nat) + x1.length) * (8 : Nat) ≤ (140737488355328 : Nat) ∧ (0 : Nat) + x1.length ≤ (140737488355328 : Nat)) then
  k0 (x0, [] ++ x1)
  else none
abbrev YF170 : Type := (Int) → ((List Int)) → ((Int × (List Int)) → Option Ans) → Option Ans
theorem F170_eq (fuel : Nat) (x0 : Int) (x1 : (List Int)) (k : Ev.Cont) : evalFn tab (G170 fuel) (J170 fuel) kp170 fuel Try.f170 [.agg [.int .i64 x0, .sl (.int .i64) x1]] [] k = F_coder_clone fuel x0 x1 (fun r => match r with | (r0, r1) => k (.agg [.int .i64 r0, .own 0], [.vec 3 (.int .i64) r1 true])) := by
  kernel_rfl
theorem hG170 (fuel : Nat) : GOK Try.prog (G170 fuel) :=
  gok_nil
theorem fok170 (fuel : Nat) : FnOK Try.prog 170 (evalFn tab (G170 fuel) (J170 fuel) kp170 fuel Try.f170) :=
  fn_ok tab_ok (hG170 fuel) mixed Try.func170 (c := (Try.f170.body).getD .skip) rfl (fun q hq => by
    rw [(by kernel_rfl : obl (J170 fuel) ((Try.f170.body).getD .skip) = [])] at hq
    cases hq)
noncomputable def mt170 : List Ev.SV → List Ev.Ob → Bool := fun args objs => match args, objs with
 | [.agg [.int .i64 _, .sl (.int .i64) _]], [] => true
 | _, _ => false
noncomputable def spg170 (F : YF170) : Ev.Spec := fun args objs k => match args, objs with
 | [.agg [.int .i64 x0, .sl (.int .i64) x1]], [] => bif true then F x0 x1 (fun r => match r with | (r0, r1) => k (.agg [.int .i64 r0, .own 0], [.vec 3 (.int .i64) r1 true])) else none
 | _, _ => none
noncomputable def spec170 (fuel : Nat) : Ev.Spec := spg170 (F_coder_clone fuel)
theorem ok170 (fuel : Nat) : FnOK Try.prog 170 (spec170 fuel) := by
  intro args objs kk r h
  unfold spec170 spg170 at h
  split at h
  · skip
    obtain ⟨hb, h⟩ := cond_some' h
    simp only [Bool.and_eq_true, Nat.beq_eq, decide_eq_true_eq] at hb
    clear hb
    exact fok170 fuel _ _ kk r ((F170_eq fuel _ _ kk).trans h)
  · cases h
end Go.Proofs.Ytihfgpfofmjbaaa

set_option linter.unusedVariables false
set_option linter.unusedSimpArgs false
set_option maxRecDepth 100000
set_option maxHeartbeats 2000000
namespace Go.Proofs.Ytihfgpfofmjbaaa
open Go Ev
def kp114 (i : Nat) : Option (List Nat) := Ev.look i []
noncomputable def Gg114 (f170 : YF170) (f178 : YF178) (f : Nat) : Option Ev.Spec := Ev.look f [(170, spg170 f170), (178, spg178 f178)]
noncomputable def G114 (fuel : Nat) : Nat → Option Ev.Spec := Gg114 (F_coder_clone fuel) (F_coder_chances fuel)
noncomputable def J114 (fuel : Nat) (i : Nat) : Option Ev.Blk := Ev.look i []
noncomputable def Fg_coder_begin (fuel : Nat) (f170 : YF170) (f178 : YF178) (x0 : Int) (x1 : (List Int)) (k0 : (Int × Int × Int × (List Int)) → Option Ans) : Option Ans :=
  (f170 (x0) (x1)
  (fun (y2_0, y2_1) =>
  (f178
  (fun y6 =>
  k0 (y2_0, (0 : Int), (4294967295 : Int), y2_1)))))
noncomputable def F_coder_begin (fuel : Nat) (x0 : Int) (x1 : (List Int)) (k0 : (Int × Int × Int × (List Int)) → Option Ans) : Option Ans := Fg_coder_begin fuel (F_coder_clone fuel) (F_coder_chances fuel) x0 x1 k0
abbrev YF114 : Type := (Int) → ((List Int)) → ((Int × Int × Int × (List Int)) → Option Ans) → Option Ans
theorem F114_eqg (fuel : Nat) (f170 : YF170) (f178 : YF178) (x0 : Int) (x1 : (List Int)) (k : Ev.Cont) : evalFn tab (Gg114 f170 f178) (J114 fuel) kp114 fuel Try.f114 [.agg [.int .i64 x0, .sl (.int .i64) x1]] [] k = Fg_coder_begin fuel f170 f178 x0 x1 (fun r => match r with | (r0, r1, r2, r3) => k (.agg (.int .i64 r0 :: .own 0 :: ctb (.int .u64 r1 :: .int .u64 r2 :: [])), [.vec 3 (.int .i64) r3 true])) := by
  kernel_rfl
theorem F114_eq (fuel : Nat) (x0 : Int) (x1 : (List Int)) (k : Ev.Cont) : evalFn tab (G114 fuel) (J114 fuel) kp114 fuel Try.f114 [.agg [.int .i64 x0, .sl (.int .i64) x1]] [] k = F_coder_begin fuel x0 x1 (fun r => match r with | (r0, r1, r2, r3) => k (.agg (.int .i64 r0 :: .own 0 :: ctb (.int .u64 r1 :: .int .u64 r2 :: [])), [.vec 3 (.int .i64) r3 true])) :=
  F114_eqg fuel (F_coder_clone fuel) (F_coder_chances fuel) x0 x1 k
theorem hG114 (fuel : Nat) : GOK Try.prog (G114 fuel) :=
  gok_cons ⟨ok170 fuel, enters_of Try.func170 (by kernel_rfl) rfl⟩ <|
  gok_cons ⟨ok178 fuel, enters_of Try.func178 (by kernel_rfl) rfl⟩ <|
  gok_nil
theorem fok114 (fuel : Nat) : FnOK Try.prog 114 (evalFn tab (G114 fuel) (J114 fuel) kp114 fuel Try.f114) :=
  fn_ok tab_ok (hG114 fuel) mixed Try.func114 (c := (Try.f114.body).getD .skip) rfl (fun q hq => by
    rw [(by kernel_rfl : obl (J114 fuel) ((Try.f114.body).getD .skip) = [])] at hq
    cases hq)
noncomputable def mt114 : List Ev.SV → List Ev.Ob → Bool := fun args objs => match args, objs with
 | [.agg [.int .i64 _, .sl (.int .i64) _]], [] => true
 | _, _ => false
noncomputable def spg114 (F : YF114) : Ev.Spec := fun args objs k => match args, objs with
 | [.agg [.int .i64 x0, .sl (.int .i64) x1]], [] => bif true then F x0 x1 (fun r => match r with | (r0, r1, r2, r3) => k (.agg (.int .i64 r0 :: .own 0 :: ctb (.int .u64 r1 :: .int .u64 r2 :: [])), [.vec 3 (.int .i64) r3 true])) else none
 | _, _ => none
noncomputable def spec114 (fuel : Nat) : Ev.Spec := spg114 (F_coder_begin fuel)
theorem ok114 (fuel : Nat) : FnOK Try.prog 114 (spec114 fuel) := by
  intro args objs kk r h
  unfold spec114 spg114 at h
  split at h
  · skip
    obtain ⟨hb, h⟩ := cond_some' h
    simp only [Bool.and_eq_true, Nat.beq_eq, decide_eq_true_eq] at hb
    clear hb
    exact fok114 fuel _ _ kk r ((F114_eq fuel _ _ kk).trans h)
  · cases h
end Go.Proofs.Ytihfgpfofmjbaaa

set_option linter.unusedVariables false
set_option linter.unusedSimpArgs false
set_option maxRecDepth 100000
set_option maxHeartbeats 2000000
namespace Go.Proofs.Ytihfgpfofmjbaaa
open Go Ev
def kp42 (i : Nat) : Option (List Nat) := Ev.look i [(5, [6, 17]), (100000, [6]), (400000, [4, 5]), (600000, [])]
noncomputable def Gg42 (f113 : YF113) (f114 : YF114) (f115_40a : YF115_40a) (f : Nat) : Option Ev.Spec := Ev.look f [(113, spg113 f113), (114, spg114 f114), (115, spg115_40a f115_40a)]
noncomputable def G42 (fuel : Nat) : Nat → Option Ev.Spec := Gg42 (F_coder_Valid fuel) (F_coder_begin fuel) (F_coder_Decoder_shift_40a fuel)
noncomputable def Sg_coder_NewDecoder_0 (fuel : Nat) (f113 : YF113) (f114 : YF114) (f115_40a : YF115_40a) (x0 x1 : Int) (x2 x3 : Int) (x4 x5 x6 : Int) (x7 x8 : Bool) (x9 x10 : (List Int)) (c : (Int × Int × Int × Int × Int × Int × Int × Bool × Bool × (List Int) × (List Int)) → Option Ans) (B : (Int × Int × Int × Int × Int × Int × Bool × Bool × (List Int) × (List Int) → Option Ans)) : Option Ans := match B with
 | b =>
  bif decide (x0 < (4 : Int)) then
  (f115_40a (x1) (x2) (x3) (x4) (x5) (x6) (x7) (x8) (x9) (x10)
  (fun (y3_0, y3_1, y3_2, y3_3, y3_4, y3_5, y3_6, y3_7, y3_8, y3_9) =>
  c (IntKind.i64.wrap (x0 + (1 : Int)), y3_0, y3_1, y3_2, y3_3, y3_4, y3_5, y3_6, y3_7, y3_8, y3_9)))
  else
  b (x1, x2, x3, x4, x5, x6, x7, x8, x9, x10)
noncomputable def S_coder_NewDecoder_0 (fuel : Nat) (v : Int × Int × Int × Int × Int × Int × Int × Bool × Bool × (List Int) × (List Int)) (c : (Int × Int × Int × Int × Int × Int × Int × Bool × Bool × (List Int) × (List Int)) → Option Ans) (B : (Int × Int × Int × Int × Int × Int × Bool × Bool × (List Int) × (List Int) → Option Ans)) : Option Ans := match v with
 | (x0, x1, x2, x3, x4, x5, x6, x7, x8, x9, x10) => Sg_coder_NewDecoder_0 fuel (F_coder_Valid fuel) (F_coder_begin fuel) (F_coder_Decoder_shift_40a fuel) x0 x1 x2 x3 x4 x5 x6 x7 x8 x9 x10 c B
noncomputable def L_coder_NewDecoder_0 (fuel : Nat) (v : Int × Int × Int × Int × Int × Int × Int × Bool × Bool × (List Int) × (List Int)) (b : (Int × Int × Int × Int × Int × Int × Bool × Bool × (List Int) × (List Int) → Option Ans)) : Option Ans := iter (S_coder_NewDecoder_0 fuel) fuel v b
noncomputable def J42_0 (fuel : Nat) (i : Nat) : Option Ev.Blk := Ev.look i []
noncomputable def T42_0 (v : Int × Int × Int × Int × Int × Int × Int × Bool × Bool × (List Int) × (List Int)) : Ev.St := match v with | (x0, x1, x2, x3, x4, x5, x6, x7, x8, x9, x10) => ⟨[(6, .c (.ptr 0 0)), (17, .c (.int .i64 x0))], [(0, .cells 158 (.int .i64 x1 :: .own 1 :: ctb (.int .u64 x2 :: .int .u64 x3 :: .own 2 :: .int .i64 x4 :: .int .u64 x5 :: .int .i64 x6 :: .bool x7 :: .bool x8 :: []))), (1, .vec 3 (.int .i64) x9 true), (2, .vec 5 (.int .u8) x10 true)], 3, 0⟩
noncomputable def E42_0 (K : Ev.Ex → Ev.St → Option Ans) : (Int × Int × Int × Int × Int × Int × Bool × Bool × (List Int) × (List Int) → Option Ans) := (fun v => match v with | (x0, x1, x2, x3, x4, x5, x6, x7, x8, x9) => K .normal ⟨[(6, .c (.ptr 0 0))], [(0, .cells 158 (.int .i64 x0 :: .own 1 :: ctb (.int .u64 x1 :: .int .u64 x2 :: .own 2 :: .int .i64 x3 :: .int .u64 x4 :: .int .i64 x5 :: .bool x6 :: .bool x7 :: []))), (1, .vec 3 (.int .i64) x8 true), (2, .vec 5 (.int .u8) x9 true)], 3, 0⟩)
theorem S42_0_okg (fuel : Nat) (f113 : YF113) (f114 : YF114) (f115_40a : YF115_40a) (R : Ev.St → Option Ans) (K : Ev.Ex → Ev.St → Option Ans) (x0 x1 : Int) (x2 x3 : Int) (x4 x5 x6 : Int) (x7 x8 : Bool) (x9 x10 : (List Int)) : evalCode tab (Gg42 f113 f114 f115_40a) (J42_0 fuel) kp42 fuel (bodyOf 0 Try.f42) (T42_0 (x0, x1, x2, x3, x4, x5, x6, x7, x8, x9, x10)) (lc kp42 5 0 R K) = Sg_coder_NewDecoder_0 fuel f113 f114 f115_40a x0 x1 x2 x3 x4 x5 x6 x7 x8 x9 x10 (fun v => R (T42_0 v)) (E42_0 K) := by
  kernel_rfl
theorem S42_0_ok (fuel : Nat) (R : Ev.St → Option Ans) (K : Ev.Ex → Ev.St → Option Ans) (x0 x1 : Int) (x2 x3 : Int) (x4 x5 x6 : Int) (x7 x8 : Bool) (x9 x10 : (List Int)) : evalCode tab (G42 fuel) (J42_0 fuel) kp42 fuel (bodyOf 0 Try.f42) (T42_0 (x0, x1, x2, x3, x4, x5, x6, x7, x8, x9, x10)) (lc kp42 5 0 R K) = S_coder_NewDecoder_0 fuel (x0, x1, x2, x3, x4, x5, x6, x7, x8, x9, x10) (fun v => R (T42_0 v)) (E42_0 K) :=
  S42_0_okg fuel (F_coder_Valid fuel) (F_coder_begin fuel) (F_coder_Decoder_shift_40a fuel) R K x0 x1 x2 x3 x4 x5 x6 x7 x8 x9 x10
noncomputable def B42_0 (fuel : Nat) : Ev.Blk := fun st K => match canonO (kp42 5) st with
 | some s => (match s with
 | ⟨[(q0, .c (.ptr q1 q2)), (q3, .c (.int .i64 x0))], [(q4, .cells q5 cs0), (q6, .vec q7 (.int .i64) x9 true), (q8, .vec q9 (.int .u8) x10 true)], q10, q11⟩ => (match splitRun 2 ctn cs0 with | some ([.int .i64 x1, .own q12], [.int .u64 x2, .int .u64 x3, .own q13, .int .i64 x4, .int .u64 x5, .int .i64 x6, .bool x7, .bool x8]) => bif Nat.beq q0 6 && Nat.beq q1 0 && Nat.beq q2 0 && Nat.beq q3 17 && Nat.beq q4 0 && Nat.beq q5 158 && Nat.beq q6 1 && Nat.beq q7 3 && Nat.beq q8 2 && Nat.beq q9 5 && Nat.beq q10 3 && Nat.beq q11 0 && Nat.beq q12 1 && Nat.beq q13 2 then iter (S_coder_NewDecoder_0 fuel) fuel (x0, x1, x2, x3, x4, x5, x6, x7, x8, x9, x10) (E42_0 K) else none | _ => none)
 | _ => none)
 | none => none
theorem B42_0_ok (fuel : Nat) (st : Ev.St) (K : Ev.Ex → Ev.St → Option Ans) (r : Ans) (h : B42_0 fuel st K = some r) : evalCode tab (G42 fuel) (J42_0 fuel) kp42 fuel (.block 0 (.loop (bodyOf 0 Try.f42))) st K = some r := by
  unfold B42_0 at h
  split at h
  · rename_i s hs
    split at h
    · skip
      split at h
      rotate_left 1
      · cases h
      rename_i hsp
      have esp := splitRun_eq hsp
      subst esp
      obtain ⟨hb, h⟩ := cond_some' h
      simp only [Bool.and_eq_true, Nat.beq_eq, decide_eq_true_eq] at hb
      obtain ⟨⟨⟨⟨⟨⟨⟨⟨⟨⟨⟨⟨⟨rfl, rfl⟩, rfl⟩, rfl⟩, rfl⟩, rfl⟩, rfl⟩, rfl⟩, rfl⟩, rfl⟩, rfl⟩, rfl⟩, rfl⟩, rfl⟩ := hb
      exact blk_loop (S := T42_0) (ks := E42_0) (step := S_coder_NewDecoder_0 fuel) (v := (_, _, _, _, _, _, _, _, _, _, _)) (by kernel_rfl) (by kernel_rfl) (fun R K v => by obtain ⟨x0, x1, x2, x3, x4, x5, x6, x7, x8, x9, x10⟩ := v; exact S42_0_ok fuel R K x0 x1 x2 x3 x4 x5 x6 x7 x8 x9 x10) hs h
    · cases h
  · cases h
noncomputable def J42 (fuel : Nat) (i : Nat) : Option Ev.Blk := Ev.look i [(100000, B42_0 fuel)]
noncomputable def Fg_coder_NewDecoder (fuel : Nat) (f113 : YF113) (f114 : YF114) (f115_40a : YF115_40a) (x0 : Int) (x1 x2 : (List Int)) (k0 : (Int) → Option Ans) (k1 : (Int × Int × Int × Int × Int × Int × Int × Bool × Bool × (List Int) × (List Int)) → Option Ans) : Option Ans :=
  (f113 (x0) (x1)
  (fun y2 =>
  bif !y2 then
  k0 ((10 : Int))
  else
  (f114 (x0) (x1)
  (fun (y7_0, y7_1, y7_2, y7_3) =>
  bif decide (((0 : Nat) + x2.length) * (1 : Nat) ≤ (140737488355328 : Nat) ∧ (0 : Nat) + x2.length ≤ (140737488355328 : Nat)) then
  (L_coder_NewDecoder_0 fuel ((0 : Int), y7_0, y7_1, y7_2, (0 : Int), (0 : Int), (0 : Int), false, true, y7_3, [] ++ x2)
  (fun (b0_0, b0_1, b0_2, b0_3, b0_4, b0_5, b0_6, b0_7, b0_8, b0_9) =>
  k1 ((0 : Int), b0_0, b0_1, b0_2, b0_3, b0_4, b0_5, b0_6, b0_7, b0_8, b0_9)))
  else none))))
noncomputable def F_coder_NewDecoder (fuel : Nat) (x0 : Int) (x1 x2 : (List Int)) (k0 : (Int) → Option Ans) (k1 : (Int × Int × Int × Int × Int × Int × Int × Bool × Bool × (List Int) × (List Int)) → Option Ans) : Option Ans := Fg_coder_NewDecoder fuel (F_coder_Valid fuel) (F_coder_begin fuel) (F_coder_Decoder_shift_40a fuel) x0 x1 x2 k0 k1
abbrev YF42 : Type := (Int) → ((List Int)) → ((List Int)) → ((Int) → Option Ans) → ((Int × Int × Int × Int × Int × Int × Int × Bool × Bool × (List Int) × (List Int)) → Option Ans) → Option Ans
theorem F42_eqg (fuel : Nat) (f113 : YF113) (f114 : YF114) (f115_40a : YF115_40a) (x0 : Int) (x1 x2 : (List Int)) (k : Ev.Cont) : evalFn tab (Gg42 f113 f114 f115_40a) (J42 fuel) kp42 fuel Try.f42 [.agg [.int .i64 x0, .sl (.int .i64) x1], .c (.sl (.int .u8) x2)] [] k = Fg_coder_NewDecoder fuel f113 f114 f115_40a x0 x1 x2 (fun r => match r with | r0 => k (.tup [(false, [.nilptr]), (false, [.int .i64 r0])], [])) (fun r => match r with | (r0, r1, r2, r3, r4, r5, r6, r7, r8, r9, r10) => k (.tup [(false, [.ptr 0 0]), (false, [.int .i64 r0])], [.cells 158 (.int .i64 r1 :: .own 1 :: ctb (.int .u64 r2 :: .int .u64 r3 :: .own 2 :: .int .i64 r4 :: .int .u64 r5 :: .int .i64 r6 :: .bool r7 :: .bool r8 :: [])), .vec 3 (.int .i64) r9 true, .vec 5 (.int .u8) r10 true])) := by
  kernel_rfl
theorem F42_eq (fuel : Nat) (x0 : Int) (x1 x2 : (List Int)) (k : Ev.Cont) : evalFn tab (G42 fuel) (J42 fuel) kp42 fuel Try.f42 [.agg [.int .i64 x0, .sl (.int .i64) x1], .c (.sl (.int .u8) x2)] [] k = F_coder_NewDecoder fuel x0 x1 x2 (fun r => match r with | r0 => k (.tup [(false, [.nilptr]), (false, [.int .i64 r0])], [])) (fun r => match r with | (r0, r1, r2, r3, r4, r5, r6, r7, r8, r9, r10) => k (.tup [(false, [.ptr 0 0]), (false, [.int .i64 r0])], [.cells 158 (.int .i64 r1 :: .own 1 :: ctb (.int .u64 r2 :: .int .u64 r3 :: .own 2 :: .int .i64 r4 :: .int .u64 r5 :: .int .i64 r6 :: .bool r7 :: .bool r8 :: [])), .vec 3 (.int .i64) r9 true, .vec 5 (.int .u8) r10 true])) :=
  F42_eqg fuel (F_coder_Valid fuel) (F_coder_begin fuel) (F_coder_Decoder_shift_40a fuel) x0 x1 x2 k
theorem hG42 (fuel : Nat) : GOK Try.prog (G42 fuel) :=
  gok_cons ⟨ok113 fuel, enters_of Try.func113 (by kernel_rfl) rfl⟩ <|
  gok_cons ⟨ok114 fuel, enters_of Try.func114 (by kernel_rfl) rfl⟩ <|
  gok_cons ⟨ok115_40a fuel, enters_of Try.func115 (by kernel_rfl) rfl⟩ <|
  gok_nil
theorem B42_0_blk (fuel : Nat) : BlkOK Try.prog Try.f42.ntmps (.block 0 (.loop (bodyOf 0 Try.f42))) (B42_0 fuel) :=
  blk_of (blk_of_code tab_ok (hG42 fuel) mixed (J := J42_0 fuel) (kp := kp42) (fuel := fuel) (by kernel_rfl) (fun q hq => by
    rw [(by kernel_rfl : obl (J42_0 fuel) (.block 0 (.loop (bodyOf 0 Try.f42))) = [])] at hq
    cases hq)) (B42_0_ok fuel)
theorem fok42 (fuel : Nat) : FnOK Try.prog 42 (evalFn tab (G42 fuel) (J42 fuel) kp42 fuel Try.f42) :=
  fn_ok tab_ok (hG42 fuel) mixed Try.func42 (c := (Try.f42.body).getD .skip) rfl (fun q hq => by
    rw [(by kernel_rfl : obl (J42 fuel) ((Try.f42.body).getD .skip) = [(.block 0 (.loop (bodyOf 0 Try.f42)), B42_0 fuel)])] at hq
    simp only [List.mem_cons, List.not_mem_nil, or_false] at hq
    subst hq
    · exact B42_0_blk fuel)
noncomputable def mt42 : List Ev.SV → List Ev.Ob → Bool := fun args objs => match args, objs with
 | [.agg [.int .i64 _, .sl (.int .i64) _], .c (.sl (.int .u8) _)], [] => true
 | _, _ => false
noncomputable def spg42 (F : YF42) : Ev.Spec := fun args objs k => match args, objs with
 | [.agg [.int .i64 x0, .sl (.int .i64) x1], .c (.sl (.int .u8) x2)], [] => bif true then F x0 x1 x2 (fun r => match r with | r0 => k (.tup [(false, [.nilptr]), (false, [.int .i64 r0])], [])) (fun r => match r with | (r0, r1, r2, r3, r4, r5, r6, r7, r8, r9, r10) => k (.tup [(false, [.ptr 0 0]), (false, [.int .i64 r0])], [.cells 158 (.int .i64 r1 :: .own 1 :: ctb (.int .u64 r2 :: .int .u64 r3 :: .own 2 :: .int .i64 r4 :: .int .u64 r5 :: .int .i64 r6 :: .bool r7 :: .bool r8 :: [])), .vec 3 (.int .i64) r9 true, .vec 5 (.int .u8) r10 true])) else none
 | _, _ => none
noncomputable def spec42 (fuel : Nat) : Ev.Spec := spg42 (F_coder_NewDecoder fuel)
theorem ok42 (fuel : Nat) : FnOK Try.prog 42 (spec42 fuel) := by
  intro args objs kk r h
  unfold spec42 spg42 at h
  split at h
  · skip
    obtain ⟨hb, h⟩ := cond_some' h
    simp only [Bool.and_eq_true, Nat.beq_eq, decide_eq_true_eq] at hb
    clear hb
    exact fok42 fuel _ _ kk r ((F42_eq fuel _ _ _ kk).trans h)
  · cases h
end Go.Proofs.Ytihfgpfofmjbaaa

set_option linter.unusedVariables false
set_option linter.unusedSimpArgs false
set_option maxRecDepth 100000
set_option maxHeartbeats 2000000
namespace Go.Proofs.Ytihfgpfofmjbaaa
open Go Ev
def kp165_40a (i : Nat) : Option (List Nat) := Ev.look i []
noncomputable def Gg165_40a (f : Nat) : Option Ev.Spec := Ev.look f []
noncomputable def G165_40a (fuel : Nat) : Nat → Option Ev.Spec := Gg165_40a
noncomputable def J165_40a (fuel : Nat) (i : Nat) : Option Ev.Blk := Ev.look i []
noncomputable def F_coder_Decoder_none_40a (fuel : Nat) (x0 x1 : Int) (x2 x3 : Int) (x4 x5 : Int) (x6 x7 : Bool) (x8 x9 : (List Int)) (k0 : (Bool × Int × Int × Int × Int × Int × Int × Bool × Bool × (List Int) × (List Int)) → Option Ans) : Option Ans :=
  k0 (!x7, x0, x1, x2, x3, x4, x5, x6, x7, x8, x9)
abbrev YF165_40a : Type := (Int) → (Int) → (Int) → (Int) → (Int) → (Int) → (Bool) → (Bool) → ((List Int)) → ((List Int)) → ((Bool × Int × Int × Int × Int × Int × Int × Bool × Bool × (List Int) × (List Int)) → Option Ans) → Option Ans
theorem F165_40a_eq (fuel : Nat) (x0 x1 : Int) (x2 x3 : Int) (x4 x5 : Int) (x6 x7 : Bool) (x8 x9 : (List Int)) (k : Ev.Cont) : evalFn tab (G165_40a fuel) (J165_40a fuel) kp165_40a fuel Try.f165 [.c (.ptr 0 0)] [.cells 158 (.int .i64 x0 :: .own 1 :: ctb (.int .u64 x1 :: .int .u64 x2 :: .own 2 :: .int .i64 x3 :: .int .u64 x4 :: .int .i64 x5 :: .bool x6 :: .bool x7 :: [])), .vec 3 (.int .i64) x8 false, .vec 5 (.int .u8) x9 false] k = F_coder_Decoder_none_40a fuel x0 x1 x2 x3 x4 x5 x6 x7 x8 x9 (fun r => match r with | (r0, r1, r2, r3, r4, r5, r6, r7, r8, r9, r10) => k (.c (.bool r0), [.cells 158 (.int .i64 r1 :: .own 1 :: ctb (.int .u64 r2 :: .int .u64 r3 :: .own 2 :: .int .i64 r4 :: .int .u64 r5 :: .int .i64 r6 :: .bool r7 :: .bool r8 :: [])), .vec 3 (.int .i64) r9 false, .vec 5 (.int .u8) r10 false])) := by
  kernel_rfl
theorem hG165_40a (fuel : Nat) : GOK Try.prog (G165_40a fuel) :=
  gok_nil
theorem fok165_40a (fuel : Nat) : FnOK Try.prog 165 (evalFn tab (G165_40a fuel) (J165_40a fuel) kp165_40a fuel Try.f165) :=
  fn_ok tab_ok (hG165_40a fuel) mixed Try.func165 (c := (Try.f165.body).getD .skip) rfl (fun q hq => by
    rw [(by kernel_rfl : obl (J165_40a fuel) ((Try.f165.body).getD .skip) = [])] at hq
    cases hq)
noncomputable def mt165_40a : List Ev.SV → List Ev.Ob → Bool := fun args objs => match args, objs with
 | [.c (.ptr q0 q1)], [.cells q2 cs0, .vec q3 (.int .i64) _ false, .vec q4 (.int .u8) _ false] => (match splitRun 2 ctn cs0 with | some ([.int .i64 _, .own q5], [.int .u64 _, .int .u64 _, .own q6, .int .i64 _, .int .u64 _, .int .i64 _, .bool _, .bool _]) => Nat.beq q0 0 && Nat.beq q1 0 && Nat.beq q2 158 && Nat.beq q3 3 && Nat.beq q4 5 && Nat.beq q5 1 && Nat.beq q6 2 | _ => false)
 | _, _ => false
noncomputable def spg165_40a (F : YF165_40a) : Ev.Spec := fun args objs k => match args, objs with
 | [.c (.ptr q0 q1)], [.cells q2 cs0, .vec q3 (.int .i64) x8 false, .vec q4 (.int .u8) x9 false] => (match splitRun 2 ctn cs0 with | some ([.int .i64 x0, .own q5], [.int .u64 x1, .int .u64 x2, .own q6, .int .i64 x3, .int .u64 x4, .int .i64 x5, .bool x6, .bool x7]) => bif Nat.beq q0 0 && Nat.beq q1 0 && Nat.beq q2 158 && Nat.beq q3 3 && Nat.beq q4 5 && Nat.beq q5 1 && Nat.beq q6 2 then F x0 x1 x2 x3 x4 x5 x6 x7 x8 x9 (fun r => match r with | (r0, r1, r2, r3, r4, r5, r6, r7, r8, r9, r10) => k (.c (.bool r0), [.cells 158 (.int .i64 r1 :: .own 1 :: ctb (.int .u64 r2 :: .int .u64 r3 :: .own 2 :: .int .i64 r4 :: .int .u64 r5 :: .int .i64 r6 :: .bool r7 :: .bool r8 :: [])), .vec 3 (.int .i64) r9 false, .vec 5 (.int .u8) r10 false])) else none | _ => none)
 | _, _ => none
noncomputable def spec165_40a (fuel : Nat) : Ev.Spec := spg165_40a (F_coder_Decoder_none_40a fuel)
theorem ok165_40a (fuel : Nat) : FnOK Try.prog 165 (spec165_40a fuel) := by
  intro args objs kk r h
  unfold spec165_40a spg165_40a at h
  split at h
  · skip
    split at h
    rotate_left 1
    · cases h
    rename_i hsp
    have esp := splitRun_eq hsp
    subst esp
    obtain ⟨hb, h⟩ := cond_some' h
    simp only [Bool.and_eq_true, Nat.beq_eq, decide_eq_true_eq] at hb
    obtain ⟨⟨⟨⟨⟨⟨rfl, rfl⟩, rfl⟩, rfl⟩, rfl⟩, rfl⟩, rfl⟩ := hb
    exact fok165_40a fuel _ _ kk r ((F165_40a_eq fuel _ _ _ _ _ _ _ _ _ _ kk).trans h)
  · cases h
end Go.Proofs.Ytihfgpfofmjbaaa

set_option linter.unusedVariables false
set_option linter.unusedSimpArgs false
set_option maxRecDepth 100000
set_option maxHeartbeats 2000000
namespace Go.Proofs.Ytihfgpfofmjbaaa
open Go Ev
def kp169_40a (i : Nat) : Option (List Nat) := Ev.look i []
noncomputable def Gg169_40a (f : Nat) : Option Ev.Spec := Ev.look f []
noncomputable def G169_40a (fuel : Nat) : Nat → Option Ev.Spec := Gg169_40a
noncomputable def J169_40a (fuel : Nat) (i : Nat) : Option Ev.Blk := Ev.look i []
noncomputable def F_coder_interval_lose_40a (fuel : Nat) (x0 x1 : Int) (x2 x3 : Int) (x4 x5 : Int) (x6 x7 : Bool) (x8 x9 : (List Int)) (k0 : (Int × Int × Int × Int × Int × Int × Int × Bool × Bool × (List Int) × (List Int)) → Option Ans) : Option Ans :=
  k0 (IntKind.u8.wrap (Ev.ishr IntKind.u64 x1 (24 : Int)), x0, Ev.iand IntKind.u64 (Ev.ishl IntKind.u64 x1 (8 : Int)) (4294967295 : Int), Ev.ior IntKind.u64 (Ev.iand IntKind.u64 (Ev.ishl IntKind.u64 x2 (8 : Int)) (4294967295 : Int)) (255 : Int), x3, x4, x5, x6, x7, x8, x9)
abbrev YF169_40a : Type := (Int) → (Int) → (Int) → (Int) → (Int) → (Int) → (Bool) → (Bool) → ((List Int)) → ((List Int)) → ((Int × Int × Int × Int × Int × Int × Int × Bool × Bool × (List Int) × (List Int)) → Option Ans) → Option Ans
theorem F169_40a_eq (fuel : Nat) (x0 x1 : Int) (x2 x3 : Int) (x4 x5 : Int) (x6 x7 : Bool) (x8 x9 : (List Int)) (k : Ev.Cont) : evalFn tab (G169_40a fuel) (J169_40a fuel) kp169_40a fuel Try.f169 [.c (.ptr 0 0)] [.cells 158 (.int .i64 x0 :: .own 1 :: ctb (.int .u64 x1 :: .int .u64 x2 :: .own 2 :: .int .i64 x3 :: .int .u64 x4 :: .int .i64 x5 :: .bool x6 :: .bool x7 :: [])), .vec 3 (.int .i64) x8 false, .vec 5 (.int .u8) x9 false] k = F_coder_interval_lose_40a fuel x0 x1 x2 x3 x4 x5 x6 x7 x8 x9 (fun r => match r with | (r0, r1, r2, r3, r4, r5, r6, r7, r8, r9, r10) => k (.c (.int .u8 r0), [.cells 158 (.int .i64 r1 :: .own 1 :: ctb (.int .u64 r2 :: .int .u64 r3 :: .own 2 :: .int .i64 r4 :: .int .u64 r5 :: .int .i64 r6 :: .bool r7 :: .bool r8 :: [])), .vec 3 (.int .i64) r9 false, .vec 5 (.int .u8) r10 false])) := by
  kernel_rfl
theorem hG169_40a (fuel : Nat) : GOK Try.prog (G169_40a fuel) :=
  gok_nil
theorem fok169_40a (fuel : Nat) : FnOK Try.prog 169 (evalFn tab (G169_40a fuel) (J169_40a fuel) kp169_40a fuel Try.f169) :=
  fn_ok tab_ok (hG169_40a fuel) mixed Try.func169 (c := (Try.f169.body).getD .skip) rfl (fun q hq => by
    rw [(by kernel_rfl : obl (J169_40a fuel) ((Try.f169.body).getD .skip) = [])] at hq
    cases hq)
noncomputable def mt169_40a : List Ev.SV → List Ev.Ob → Bool := fun args objs => match args, objs with
 | [.c (.ptr q0 q1)], [.cells q2 cs0, .vec q3 (.int .i64) _ false, .vec q4 (.int .u8) _ false] => (match splitRun 2 ctn cs0 with | some ([.int .i64 _, .own q5], [.int .u64 _, .int .u64 _, .own q6, .int .i64 _, .int .u64 _, .int .i64 _, .bool _, .bool _]) => Nat.beq q0 0 && Nat.beq q1 0 && Nat.beq q2 158 && Nat.beq q3 3 && Nat.beq q4 5 && Nat.beq q5 1 && Nat.beq q6 2 | _ => false)
 | _, _ => false
noncomputable def spg169_40a (F : YF169_40a) : Ev.Spec := fun args objs k => match args, objs with
 | [.c (.ptr q0 q1)], [.cells q2 cs0, .vec q3 (.int .i64) x8 false, .vec q4 (.int .u8) x9 false] => (match splitRun 2 ctn cs0 with | some ([.int .i64 x0, .own q5], [.int .u64 x1, .int .u64 x2, .own q6, .int .i64 x3, .int .u64 x4, .int .i64 x5, .bool x6, .bool x7]) => bif Nat.beq q0 0 && Nat.beq q1 0 && Nat.beq q2 158 && Nat.beq q3 3 && Nat.beq q4 5 && Nat.beq q5 1 && Nat.beq q6 2 then F x0 x1 x2 x3 x4 x5 x6 x7 x8 x9 (fun r => match r with | (r0, r1, r2, r3, r4, r5, r6, r7, r8, r9, r10) => k (.c (.int .u8 r0), [.cells 158 (.int .i64 r1 :: .own 1 :: ctb (.int .u64 r2 :: .int .u64 r3 :: .own 2 :: .int .i64 r4 :: .int .u64 r5 :: .int .i64 r6 :: .bool r7 :: .bool r8 :: [])), .vec 3 (.int .i64) r9 false, .vec 5 (.int .u8) r10 false])) else none | _ => none)
 | _, _ => none
noncomputable def spec169_40a (fuel : Nat) : Ev.Spec := spg169_40a (F_coder_interval_lose_40a fuel)
theorem ok169_40a (fuel : Nat) : FnOK Try.prog 169 (spec169_40a fuel) := by
  intro args objs kk r h
  unfold spec169_40a spg169_40a at h
  split at h
  · skip
    split at h
    rotate_left 1
    · cases h
    rename_i hsp
    have esp := splitRun_eq hsp
    subst esp
    obtain ⟨hb, h⟩ := cond_some' h
    simp only [Bool.and_eq_true, Nat.beq_eq, decide_eq_true_eq] at hb
    obtain ⟨⟨⟨⟨⟨⟨rfl, rfl⟩, rfl⟩, rfl⟩, rfl⟩, rfl⟩, rfl⟩ := hb
    exact fok169_40a fuel _ _ kk r ((F169_40a_eq fuel _ _ _ _ _ _ _ _ _ _ kk).trans h)
  · cases h
end Go.Proofs.Ytihfgpfofmjbaaa

set_option linter.unusedVariables false
set_option linter.unusedSimpArgs false
set_option maxRecDepth 100000
set_option maxHeartbeats 2000000
namespace Go.Proofs.Ytihfgpfofmjbaaa
open Go Ev
def kp200_bb9 (i : Nat) : Option (List Nat) := Ev.look i []
noncomputable def Gg200_bb9 (f : Nat) : Option Ev.Spec := Ev.look f []
noncomputable def G200_bb9 (fuel : Nat) : Nat → Option Ev.Spec := Gg200_bb9
noncomputable def J200_bb9 (fuel : Nat) (i : Nat) : Option Ev.Blk := Ev.look i []
noncomputable def F_coder_table_chance_bb9 (fuel : Nat) (x0 x1 : Int) (k0 : (Int) → Option Ans) : Option Ans :=
  bif x0 == (1 : Int) then
  bif decide (IntKind.i64.wrap (IntKind.i64.wrap (IntKind.i64.wrap ((2 : Int) * IntKind.i64.wrap (x1.tdiv (256 : Int))) + IntKind.i64.wrap ((2 : Int) * x1.tmod (256 : Int))) + (2 : Int)) = (0 : Int)) then
  none
  else
  k0 (bif decide ((4095 : Int) < bif decide ((1 : Int) > IntKind.i64.wrap ((IntKind.i64.wrap (IntKind.i64.wrap (IntKind.i64.wrap ((2 : Int) * x1.tmod (256 : Int)) + (1 : Int)) * (4096 : Int))).tdiv (IntKind.i64.wrap (IntKind.i64.wrap (IntKind.i64.wrap ((2 : Int) * IntKind.i64.wrap (x1.tdiv (256 : Int))) + IntKind.i64.wrap ((2 : Int) * x1.tmod (256 : Int))) + (2 : Int))))) then (1 : Int) else IntKind.i64.wrap ((IntKind.i64.wrap (IntKind.i64.wrap (IntKind.i64.wrap ((2 : Int) * x1.tmod (256 : Int)) + (1 : Int)) * (4096 : Int))).tdiv (IntKind.i64.wrap (IntKind.i64.wrap (IntKind.i64.wrap ((2 : Int) * IntKind.i64.wrap (x1.tdiv (256 : Int))) + IntKind.i64.wrap ((2 : Int) * x1.tmod (256 : Int))) + (2 : Int))))) then (4095 : Int) else bif decide ((1 : Int) > IntKind.i64.wrap ((IntKind.i64.wrap (IntKind.i64.wrap (IntKind.i64.wrap ((2 : Int) * x1.tmod (256 : Int)) + (1 : Int)) * (4096 : Int))).tdiv (IntKind.i64.wrap (IntKind.i64.wrap (IntKind.i64.wrap ((2 : Int) * IntKind.i64.wrap (x1.tdiv (256 : Int))) + IntKind.i64.wrap ((2 : Int) * x1.tmod (256 : Int))) + (2 : Int))))) then (1 : Int) else IntKind.i64.wrap ((IntKind.i64.wrap (IntKind.i64.wrap (IntKind.i64.wrap ((2 : Int) * x1.tmod (256 : Int)) + (1 : Int)) * (4096 : Int))).tdiv (IntKind.i64.wrap (IntKind.i64.wrap (IntKind.i64.wrap ((2 : Int) * IntKind.i64.wrap (x1.tdiv (256 : Int))) + IntKind.i64.wrap ((2 : Int) * x1.tmod (256 : Int))) + (2 : Int)))))
  else
  bif decide (x1 ≥ (32 : Int)) then
  bif decide ((0 : Int) ≤ IntKind.i64.wrap (x1 - (32 : Int)) ∧ IntKind.i64.wrap (x1 - (32 : Int)) < (↑(32 : Nat) : Int)) then
  bif decide (IntKind.i64.wrap (x1 - (32 : Int)) = (↑(0 : Nat) : Int)) then
  k0 (IntKind.i64.wrap ((4096 : Int) - (2048 : Int)))
  else
  bif decide (IntKind.i64.wrap (x1 - (32 : Int)) = (↑(1 : Nat) : Int)) then
  k0 (IntKind.i64.wrap ((4096 : Int) - (1792 : Int)))
  else
  bif decide (IntKind.i64.wrap (x1 - (32 : Int)) = (↑(2 : Nat) : Int)) then
  k0 (IntKind.i64.wrap ((4096 : Int) - (1568 : Int)))
  else
  bif decide (IntKind.i64.wrap (x1 - (32 : Int)) = (↑(3 : Nat) : Int)) then
  k0 (IntKind.i64.wrap ((4096 : Int) - (1372 : Int)))
  else
  bif decide (IntKind.i64.wrap (x1 - (32 : Int)) = (↑(4 : Nat) : Int)) then
  k0 (IntKind.i64.wrap ((4096 : Int) - (1201 : Int)))
  else
  bif decide (IntKind.i64.wrap (x1 - (32 : Int)) = (↑(5 : Nat) : Int)) then
  k0 (IntKind.i64.wrap ((4096 : Int) - (1051 : Int)))
  else
  bif decide (IntKind.i64.wrap (x1 - (32 : Int)) = (↑(6 : Nat) : Int)) then
  k0 (IntKind.i64.wrap ((4096 : Int) - (920 : Int)))
  else
  bif decide (IntKind.i64.wrap (x1 - (32 : Int)) = (↑(7 : Nat) : Int)) then
  k0 (IntKind.i64.wrap ((4096 : Int) - (805 : Int)))
  else
  bif decide (IntKind.i64.wrap (x1 - (32 : Int)) = (↑(8 : Nat) : Int)) then
  k0 (IntKind.i64.wrap ((4096 : Int) - (705 : Int)))
  else
  bif decide (IntKind.i64.wrap (x1 - (32 : Int)) = (↑(9 : Nat) : Int)) then
  k0 (IntKind.i64.wrap ((4096 : Int) - (617 : Int)))
  else
  bif decide (IntKind.i64.wrap (x1 - (32 : Int)) = (↑(10 : Nat) : Int)) then
  k0 (IntKind.i64.wrap ((4096 : Int) - (540 : Int)))
  else
  bif decide (IntKind.i64.wrap (x1 - (32 : Int)) = (↑(11 : Nat) : Int)) then
  k0 (IntKind.i64.wrap ((4096 : Int) - (473 : Int)))
  else
  bif decide (IntKind.i64.wrap (x1 - (32 : Int)) = (↑(12 : Nat) : Int)) then
  k0 (IntKind.i64.wrap ((4096 : Int) - (414 : Int)))
  else
  bif decide (IntKind.i64.wrap (x1 - (32 : Int)) = (↑(13 : Nat) : Int)) then
  k0 (IntKind.i64.wrap ((4096 : Int) - (363 : Int)))
  else
  bif decide (IntKind.i64.wrap (x1 - (32 : Int)) = (↑(14 : Nat) : Int)) then
  k0 (IntKind.i64.wrap ((4096 : Int) - (318 : Int)))
  else
  bif decide (IntKind.i64.wrap (x1 - (32 : Int)) = (↑(15 : Nat) : Int)) then
  k0 (IntKind.i64.wrap ((4096 : Int) - (279 : Int)))
  else
  bif decide (IntKind.i64.wrap (x1 - (32 : Int)) = (↑(16 : Nat) : Int)) then
  k0 (IntKind.i64.wrap ((4096 : Int) - (245 : Int)))
  else
  bif decide (IntKind.i64.wrap (x1 - (32 : Int)) = (↑(17 : Nat) : Int)) then
  k0 (IntKind.i64.wrap ((4096 : Int) - (215 : Int)))
  else
  bif decide (IntKind.i64.wrap (x1 - (32 : Int)) = (↑(18 : Nat) : Int)) then
  k0 (IntKind.i64.wrap ((4096 : Int) - (189 : Int)))
  else
  bif decide (IntKind.i64.wrap (x1 - (32 : Int)) = (↑(19 : Nat) : Int)) then
  k0 (IntKind.i64.wrap ((4096 : Int) - (166 : Int)))
  else
  bif decide (IntKind.i64.wrap (x1 - (32 : Int)) = (↑(20 : Nat) : Int)) then
  k0 (IntKind.i64.wrap ((4096 : Int) - (146 : Int)))
  else
  bif decide (IntKind.i64.wrap (x1 - (32 : Int)) = (↑(21 : Nat) : Int)) then
  k0 (IntKind.i64.wrap ((4096 : Int) - (128 : Int)))
  else
  bif decide (IntKind.i64.wrap (x1 - (32 : Int)) = (↑(22 : Nat) : Int)) then
  k0 (IntKind.i64.wrap ((4096 : Int) - (112 : Int)))
  else
  bif decide (IntKind.i64.wrap (x1 - (32 : Int)) = (↑(23 : Nat) : Int)) then
  k0 (IntKind.i64.wrap ((4096 : Int) - (98 : Int)))
  else
  bif decide (IntKind.i64.wrap (x1 - (32 : Int)) = (↑(24 : Nat) : Int)) then
  k0 (IntKind.i64.wrap ((4096 : Int) - (86 : Int)))
  else
  bif decide (IntKind.i64.wrap (x1 - (32 : Int)) = (↑(25 : Nat) : Int)) then
  k0 (IntKind.i64.wrap ((4096 : Int) - (76 : Int)))
  else
  bif decide (IntKind.i64.wrap (x1 - (32 : Int)) = (↑(26 : Nat) : Int)) then
  k0 (IntKind.i64.wrap ((4096 : Int) - (67 : Int)))
  else
  bif decide (IntKind.i64.wrap (x1 - (32 : Int)) = (↑(27 : Nat) : Int)) then
  k0 (IntKind.i64.wrap ((4096 : Int) - (59 : Int)))
  else
  bif decide (IntKind.i64.wrap (x1 - (32 : Int)) = (↑(28 : Nat) : Int)) then
  k0 (IntKind.i64.wrap ((4096 : Int) - (52 : Int)))
  else
  bif decide (IntKind.i64.wrap (x1 - (32 : Int)) = (↑(29 : Nat) : Int)) then
  k0 (IntKind.i64.wrap ((4096 : Int) - (46 : Int)))
  else
  bif decide (IntKind.i64.wrap (x1 - (32 : Int)) = (↑(30 : Nat) : Int)) then
  k0 (IntKind.i64.wrap ((4096 : Int) - (41 : Int)))
  else
  bif decide (IntKind.i64.wrap (x1 - (32 : Int)) = (↑(31 : Nat) : Int)) then
  k0 (IntKind.i64.wrap ((4096 : Int) - (36 : Int)))
  else none
  else none
  else
  bif decide ((0 : Int) ≤ x1 ∧ x1 < (↑(32 : Nat) : Int)) then
  bif decide (x1 = (↑(0 : Nat) : Int)) then
  k0 ((2048 : Int))
  else
  bif decide (x1 = (↑(1 : Nat) : Int)) then
  k0 ((1792 : Int))
  else
  bif decide (x1 = (↑(2 : Nat) : Int)) then
  k0 ((1568 : Int))
  else
  bif decide (x1 = (↑(3 : Nat) : Int)) then
  k0 ((1372 : Int))
  else
  bif decide (x1 = (↑(4 : Nat) : Int)) then
  k0 ((1201 : Int))
  else
  bif decide (x1 = (↑(5 : Nat) : Int)) then
  k0 ((1051 : Int))
  else
  bif decide (x1 = (↑(6 : Nat) : Int)) then
  k0 ((920 : Int))
  else
  bif decide (x1 = (↑(7 : Nat) : Int)) then
  k0 ((805 : Int))
  else
  bif decide (x1 = (↑(8 : Nat) : Int)) then
  k0 ((705 : Int))
  else
  bif decide (x1 = (↑(9 : Nat) : Int)) then
  k0 ((617 : Int))
  else
  bif decide (x1 = (↑(10 : Nat) : Int)) then
  k0 ((540 : Int))
  else
  bif decide (x1 = (↑(11 : Nat) : Int)) then
  k0 ((473 : Int))
  else
  bif decide (x1 = (↑(12 : Nat) : Int)) then
  k0 ((414 : Int))
  else
  bif decide (x1 = (↑(13 : Nat) : Int)) then
  k0 ((363 : Int))
  else
  bif decide (x1 = (↑(14 : Nat) : Int)) then
  k0 ((318 : Int))
  else
  bif decide (x1 = (↑(15 : Nat) : Int)) then
  k0 ((279 : Int))
  else
  bif decide (x1 = (↑(16 : Nat) : Int)) then
  k0 ((245 : Int))
  else
  bif decide (x1 = (↑(17 : Nat) : Int)) then
  k0 ((215 : Int))
  else
  bif decide (x1 = (↑(18 : Nat) : Int)) then
  k0 ((189 : Int))
  else
  bif decide (x1 = (↑(19 : Nat) : Int)) then
  k0 ((166 : Int))
  else
  bif decide (x1 = (↑(20 : Nat) : Int)) then
  k0 ((146 : Int))
  else
  bif decide (x1 = (↑(21 : Nat) : Int)) then
  k0 ((128 : Int))
  else
  bif decide (x1 = (↑(22 : Nat) : Int)) then
  k0 ((112 : Int))
  else
  bif decide (x1 = (↑(23 : Nat) : Int)) then
  k0 ((98 : Int))
  else
  bif decide (x1 = (↑(24 : Nat) : Int)) then
  k0 ((86 : Int))
  else
  bif decide (x1 = (↑(25 : Nat) : Int)) then
  k0 ((76 : Int))
  else
  bif decide (x1 = (↑(26 : Nat) : Int)) then
  k0 ((67 : Int))
  else
  bif decide (x1 = (↑(27 : Nat) : Int)) then
  k0 ((59 : Int))
  else
  bif decide (x1 = (↑(28 : Nat) : Int)) then
  k0 ((52 : Int))
  else
  bif decide (x1 = (↑(29 : Nat) : Int)) then
  k0 ((46 : Int))
  else
  bif decide (x1 = (↑(30 : Nat) : Int)) then
  k0 ((41 : Int))
  else
  bif decide (x1 = (↑(31 : Nat) : Int)) then
  k0 ((36 : Int))
  else none
  else none
abbrev YF200_bb9 : Type := (Int) → (Int) → ((Int) → Option Ans) → Option Ans
theorem F200_bb9_eq (fuel : Nat) (x0 x1 : Int) (k : Ev.Cont) : evalFn tab (G200_bb9 fuel) (J200_bb9 fuel) kp200_bb9 fuel Try.f200 [.agg (ctb []), .c (.int .i64 x0), .c (.int .i64 x1)] [] k = F_coder_table_chance_bb9 fuel x0 x1 (fun r => match r with | r0 => k (.c (.int .i64 r0), [])) := by
  kernel_rfl
theorem hG200_bb9 (fuel : Nat) : GOK Try.prog (G200_bb9 fuel) :=
  gok_nil
theorem fok200_bb9 (fuel : Nat) : FnOK Try.prog 200 (evalFn tab (G200_bb9 fuel) (J200_bb9 fuel) kp200_bb9 fuel Try.f200) :=
  fn_ok tab_ok (hG200_bb9 fuel) mixed Try.func200 (c := (Try.f200.body).getD .skip) rfl (fun q hq => by
    rw [(by kernel_rfl : obl (J200_bb9 fuel) ((Try.f200.body).getD .skip) = [])] at hq
    cases hq)
noncomputable def mt200_bb9 : List Ev.SV → List Ev.Ob → Bool := fun args objs => match args, objs with
 | [.agg cs0, .c (.int .i64 _), .c (.int .i64 _)], [] => (match splitRun 0 ctn cs0 with | some ([], []) => true | _ => false)
 | _, _ => false
noncomputable def spg200_bb9 (F : YF200_bb9) : Ev.Spec := fun args objs k => match args, objs with
 | [.agg cs0, .c (.int .i64 x0), .c (.int .i64 x1)], [] => (match splitRun 0 ctn cs0 with | some ([], []) => bif true then F x0 x1 (fun r => match r with | r0 => k (.c (.int .i64 r0), [])) else none | _ => none)
 | _, _ => none
noncomputable def spec200_bb9 (fuel : Nat) : Ev.Spec := spg200_bb9 (F_coder_table_chance_bb9 fuel)
theorem ok200_bb9 (fuel : Nat) : FnOK Try.prog 200 (spec200_bb9 fuel) := by
  intro args objs kk r h
  unfold spec200_bb9 spg200_bb9 at h
  split at h
  · skip
    split at h
    rotate_left 1
    · cases h
    rename_i hsp
    have esp := splitRun_eq hsp
    subst esp
    obtain ⟨hb, h⟩ := cond_some' h
    simp only [Bool.and_eq_true, Nat.beq_eq, decide_eq_true_eq] at hb
    clear hb
    exact fok200_bb9 fuel _ _ kk r ((F200_bb9_eq fuel _ _ kk).trans h)
  · cases h
end Go.Proofs.Ytihfgpfofmjbaaa

set_option linter.unusedVariables false
set_option linter.unusedSimpArgs false
set_option maxRecDepth 100000
set_option maxHeartbeats 2000000
namespace Go.Proofs.Ytihfgpfofmjbaaa
open Go Ev
def kp166_aa3 (i : Nat) : Option (List Nat) := Ev.look i [(200001, [0])]
noncomputable def Gg166_aa3 (f200_bb9 : YF200_bb9) (f : Nat) : Option Ev.Spec := Ev.look f [(200, spg200_bb9 f200_bb9)]
noncomputable def G166_aa3 (fuel : Nat) : Nat → Option Ev.Spec := Gg166_aa3 (F_coder_table_chance_bb9 fuel)
noncomputable def J166_aa3 (fuel : Nat) (i : Nat) : Option Ev.Blk := Ev.look i []
noncomputable def Fg_coder_interval_mid_aa3 (fuel : Nat) (f200_bb9 : YF200_bb9) (x0 x1 : Int) (x2 x3 : Int) (x4 x5 x6 : Int) (x7 x8 : Bool) (x9 x10 : (List Int)) (k0 : (Int × Int × Int × Int × Int × Int × Int × Bool × Bool × (List Int) × (List Int)) → Option Ans) : Option Ans :=
  bif decide ((0 : Int) ≤ x0 ∧ x0 < (↑x9.length : Int)) then
  (f200_bb9 (x1) (x9.getD x0.toNat (0 : Int))
  (fun y3 =>
  k0 (IntKind.u64.wrap (IntKind.u64.wrap (x2 + IntKind.u64.wrap (IntKind.u64.wrap ((IntKind.u64.wrap (x3 - x2)).tdiv (4096 : Int)) * IntKind.u64.wrap y3)) + IntKind.u64.wrap ((IntKind.u64.wrap ((IntKind.u64.wrap (x3 - x2)).tmod (4096 : Int) * IntKind.u64.wrap y3)).tdiv (4096 : Int))), x1, x2, x3, x4, x5, x6, x7, x8, x9, x10)))
  else none
noncomputable def F_coder_interval_mid_aa3 (fuel : Nat) (x0 x1 : Int) (x2 x3 : Int) (x4 x5 x6 : Int) (x7 x8 : Bool) (x9 x10 : (List Int)) (k0 : (Int × Int × Int × Int × Int × Int × Int × Bool × Bool × (List Int) × (List Int)) → Option Ans) : Option Ans := Fg_coder_interval_mid_aa3 fuel (F_coder_table_chance_bb9 fuel) x0 x1 x2 x3 x4 x5 x6 x7 x8 x9 x10 k0
abbrev YF166_aa3 : Type := (Int) → (Int) → (Int) → (Int) → (Int) → (Int) → (Int) → (Bool) → (Bool) → ((List Int)) → ((List Int)) → ((Int × Int × Int × Int × Int × Int × Int × Bool × Bool × (List Int) × (List Int)) → Option Ans) → Option Ans
theorem F166_aa3_eqg (fuel : Nat) (f200_bb9 : YF200_bb9) (x0 x1 : Int) (x2 x3 : Int) (x4 x5 x6 : Int) (x7 x8 : Bool) (x9 x10 : (List Int)) (k : Ev.Cont) : evalFn tab (Gg166_aa3 f200_bb9) (J166_aa3 fuel) kp166_aa3 fuel Try.f166 [.c (.ptr 0 0), .c (.int .i64 x0)] [.cells 158 (.int .i64 x1 :: .own 1 :: ctb (.int .u64 x2 :: .int .u64 x3 :: .own 2 :: .int .i64 x4 :: .int .u64 x5 :: .int .i64 x6 :: .bool x7 :: .bool x8 :: [])), .vec 3 (.int .i64) x9 false, .vec 5 (.int .u8) x10 false] k = Fg_coder_interval_mid_aa3 fuel f200_bb9 x0 x1 x2 x3 x4 x5 x6 x7 x8 x9 x10 (fun r => match r with | (r0, r1, r2, r3, r4, r5, r6, r7, r8, r9, r10) => k (.c (.int .u64 r0), [.cells 158 (.int .i64 r1 :: .own 1 :: ctb (.int .u64 r2 :: .int .u64 r3 :: .own 2 :: .int .i64 r4 :: .int .u64 r5 :: .int .i64 r6 :: .bool r7 :: .bool r8 :: [])), .vec 3 (.int .i64) r9 false, .vec 5 (.int .u8) r10 false])) := by
  kernel_rfl
theorem F166_aa3_eq (fuel : Nat) (x0 x1 : Int) (x2 x3 : Int) (x4 x5 x6 : Int) (x7 x8 : Bool) (x9 x10 : (List Int)) (k : Ev.Cont) : evalFn tab (G166_aa3 fuel) (J166_aa3 fuel) kp166_aa3 fuel Try.f166 [.c (.ptr 0 0), .c (.int .i64 x0)] [.cells 158 (.int .i64 x1 :: .own 1 :: ctb (.int .u64 x2 :: .int .u64 x3 :: .own 2 :: .int .i64 x4 :: .int .u64 x5 :: .int .i64 x6 :: .bool x7 :: .bool x8 :: [])), .vec 3 (.int .i64) x9 false, .vec 5 (.int .u8) x10 false] k = F_coder_interval_mid_aa3 fuel x0 x1 x2 x3 x4 x5 x6 x7 x8 x9 x10 (fun r => match r with | (r0, r1, r2, r3, r4, r5, r6, r7, r8, r9, r10) => k (.c (.int .u64 r0), [.cells 158 (.int .i64 r1 :: .own 1 :: ctb (.int .u64 r2 :: .int .u64 r3 :: .own 2 :: .int .i64 r4 :: .int .u64 r5 :: .int .i64 r6 :: .bool r7 :: .bool r8 :: [])), .vec 3 (.int .i64) r9 false, .vec 5 (.int .u8) r10 false])) :=
  F166_aa3_eqg fuel (F_coder_table_chance_bb9 fuel) x0 x1 x2 x3 x4 x5 x6 x7 x8 x9 x10 k
theorem hG166_aa3 (fuel : Nat) : GOK Try.prog (G166_aa3 fuel) :=
  gok_cons ⟨ok200_bb9 fuel, enters_of Try.func200 (by kernel_rfl) rfl⟩ <|
  gok_nil
theorem fok166_aa3 (fuel : Nat) : FnOK Try.prog 166 (evalFn tab (G166_aa3 fuel) (J166_aa3 fuel) kp166_aa3 fuel Try.f166) :=
  fn_ok tab_ok (hG166_aa3 fuel) mixed Try.func166 (c := (Try.f166.body).getD .skip) rfl (fun q hq => by
    rw [(by kernel_rfl : obl (J166_aa3 fuel) ((Try.f166.body).getD .skip) = [])] at hq
    cases hq)
noncomputable def mt166_aa3 : List Ev.SV → List Ev.Ob → Bool := fun args objs => match args, objs with
 | [.c (.ptr q0 q1), .c (.int .i64 _)], [.cells q2 cs0, .vec q3 (.int .i64) _ false, .vec q4 (.int .u8) _ false] => (match splitRun 2 ctn cs0 with | some ([.int .i64 _, .own q5], [.int .u64 _, .int .u64 _, .own q6, .int .i64 _, .int .u64 _, .int .i64 _, .bool _, .bool _]) => Nat.beq q0 0 && Nat.beq q1 0 && Nat.beq q2 158 && Nat.beq q3 3 && Nat.beq q4 5 && Nat.beq q5 1 && Nat.beq q6 2 | _ => false)
 | _, _ => false
noncomputable def spg166_aa3 (F : YF166_aa3) : Ev.Spec := fun args objs k => match args, objs with
 | [.c (.ptr q0 q1), .c (.int .i64 x0)], [.cells q2 cs0, .vec q3 (.int .i64) x9 false, .vec q4 (.int .u8) x10 false] => (match splitRun 2 ctn cs0 with | some ([.int .i64 x1, .own q5], [.int .u64 x2, .int .u64 x3, .own q6, .int .i64 x4, .int .u64 x5, .int .i64 x6, .bool x7, .bool x8]) => bif Nat.beq q0 0 && Nat.beq q1 0 && Nat.beq q2 158 && Nat.beq q3 3 && Nat.beq q4 5 && Nat.beq q5 1 && Nat.beq q6 2 then F x0 x1 x2 x3 x4 x5 x6 x7 x8 x9 x10 (fun r => match r with | (r0, r1, r2, r3, r4, r5, r6, r7, r8, r9, r10) => k (.c (.int .u64 r0), [.cells 158 (.int .i64 r1 :: .own 1 :: ctb (.int .u64 r2 :: .int .u64 r3 :: .own 2 :: .int .i64 r4 :: .int .u64 r5 :: .int .i64 r6 :: .bool r7 :: .bool r8 :: [])), .vec 3 (.int .i64) r9 false, .vec 5 (.int .u8) r10 false])) else none | _ => none)
 | _, _ => none
noncomputable def spec166_aa3 (fuel : Nat) : Ev.Spec := spg166_aa3 (F_coder_interval_mid_aa3 fuel)
theorem ok166_aa3 (fuel : Nat) : FnOK Try.prog 166 (spec166_aa3 fuel) := by
  intro args objs kk r h
  unfold spec166_aa3 spg166_aa3 at h
  split at h
  · skip
    split at h
    rotate_left 1
    · cases h
    rename_i hsp
    have esp := splitRun_eq hsp
    subst esp
    obtain ⟨hb, h⟩ := cond_some' h
    simp only [Bool.and_eq_true, Nat.beq_eq, decide_eq_true_eq] at hb
    obtain ⟨⟨⟨⟨⟨⟨rfl, rfl⟩, rfl⟩, rfl⟩, rfl⟩, rfl⟩, rfl⟩ := hb
    exact fok166_aa3 fuel _ _ kk r ((F166_aa3_eq fuel _ _ _ _ _ _ _ _ _ _ _ kk).trans h)
  · cases h
end Go.Proofs.Ytihfgpfofmjbaaa

set_option linter.unusedVariables false
set_option linter.unusedSimpArgs false
set_option maxRecDepth 100000
set_option maxHeartbeats 2000000
namespace Go.Proofs.Ytihfgpfofmjbaaa
open Go Ev
def kp168_40a (i : Nat) : Option (List Nat) := Ev.look i [(200001, [0])]
noncomputable def Gg168_40a (f : Nat) : Option Ev.Spec := Ev.look f []
noncomputable def G168_40a (fuel : Nat) : Nat → Option Ev.Spec := Gg168_40a
noncomputable def J168_40a (fuel : Nat) (i : Nat) : Option Ev.Blk := Ev.look i []
noncomputable def F_coder_interval_same_40a (fuel : Nat) (x0 x1 : Int) (x2 x3 : Int) (x4 x5 : Int) (x6 x7 : Bool) (x8 x9 : (List Int)) (k0 : (Bool × Int × Int × Int × Int × Int × Int × Bool × Bool × (List Int) × (List Int)) → Option Ans) : Option Ans :=
  k0 (Ev.ishr IntKind.u64 x1 (24 : Int) == Ev.ishr IntKind.u64 x2 (24 : Int), x0, x1, x2, x3, x4, x5, x6, x7, x8, x9)
abbrev YF168_40a : Type := (Int) → (Int) → (Int) → (Int) → (Int) → (Int) → (Bool) → (Bool) → ((List Int)) → ((List Int)) → ((Bool × Int × Int × Int × Int × Int × Int × Bool × Bool × (List Int) × (List Int)) → Option Ans) → Option Ans
theorem F168_40a_eq (fuel : Nat) (x0 x1 : Int) (x2 x3 : Int) (x4 x5 : Int) (x6 x7 : Bool) (x8 x9 : (List Int)) (k : Ev.Cont) : evalFn tab (G168_40a fuel) (J168_40a fuel) kp168_40a fuel Try.f168 [.c (.ptr 0 0)] [.cells 158 (.int .i64 x0 :: .own 1 :: ctb (.int .u64 x1 :: .int .u64 x2 :: .own 2 :: .int .i64 x3 :: .int .u64 x4 :: .int .i64 x5 :: .bool x6 :: .bool x7 :: [])), .vec 3 (.int .i64) x8 false, .vec 5 (.int .u8) x9 false] k = F_coder_interval_same_40a fuel x0 x1 x2 x3 x4 x5 x6 x7 x8 x9 (fun r => match r with | (r0, r1, r2, r3, r4, r5, r6, r7, r8, r9, r10) => k (.c (.bool r0), [.cells 158 (.int .i64 r1 :: .own 1 :: ctb (.int .u64 r2 :: .int .u64 r3 :: .own 2 :: .int .i64 r4 :: .int .u64 r5 :: .int .i64 r6 :: .bool r7 :: .bool r8 :: [])), .vec 3 (.int .i64) r9 false, .vec 5 (.int .u8) r10 false])) := by
  kernel_rfl
theorem hG168_40a (fuel : Nat) : GOK Try.prog (G168_40a fuel) :=
  gok_nil
theorem fok168_40a (fuel : Nat) : FnOK Try.prog 168 (evalFn tab (G168_40a fuel) (J168_40a fuel) kp168_40a fuel Try.f168) :=
  fn_ok tab_ok (hG168_40a fuel) mixed Try.func168 (c := (Try.f168.body).getD .skip) rfl (fun q hq => by
    rw [(by kernel_rfl : obl (J168_40a fuel) ((Try.f168.body).getD .skip) = [])] at hq
    cases hq)
noncomputable def mt168_40a : List Ev.SV → List Ev.Ob → Bool := fun args objs => match args, objs with
 | [.c (.ptr q0 q1)], [.cells q2 cs0, .vec q3 (.int .i64) _ false, .vec q4 (.int .u8) _ false] => (match splitRun 2 ctn cs0 with | some ([.int .i64 _, .own q5], [.int .u64 _, .int .u64 _, .own q6, .int .i64 _, .int .u64 _, .int .i64 _, .bool _, .bool _]) => Nat.beq q0 0 && Nat.beq q1 0 && Nat.beq q2 158 && Nat.beq q3 3 && Nat.beq q4 5 && Nat.beq q5 1 && Nat.beq q6 2 | _ => false)
 | _, _ => false
noncomputable def spg168_40a (F : YF168_40a) : Ev.Spec := fun args objs k => match args, objs with
 | [.c (.ptr q0 q1)], [.cells q2 cs0, .vec q3 (.int .i64) x8 false, .vec q4 (.int .u8) x9 false] => (match splitRun 2 ctn cs0 with | some ([.int .i64 x0, .own q5], [.int .u64 x1, .int .u64 x2, .own q6, .int .i64 x3, .int .u64 x4, .int .i64 x5, .bool x6, .bool x7]) => bif Nat.beq q0 0 && Nat.beq q1 0 && Nat.beq q2 158 && Nat.beq q3 3 && Nat.beq q4 5 && Nat.beq q5 1 && Nat.beq q6 2 then F x0 x1 x2 x3 x4 x5 x6 x7 x8 x9 (fun r => match r with | (r0, r1, r2, r3, r4, r5, r6, r7, r8, r9, r10) => k (.c (.bool r0), [.cells 158 (.int .i64 r1 :: .own 1 :: ctb (.int .u64 r2 :: .int .u64 r3 :: .own 2 :: .int .i64 r4 :: .int .u64 r5 :: .int .i64 r6 :: .bool r7 :: .bool r8 :: [])), .vec 3 (.int .i64) r9 false, .vec 5 (.int .u8) r10 false])) else none | _ => none)
 | _, _ => none
noncomputable def spec168_40a (fuel : Nat) : Ev.Spec := spg168_40a (F_coder_interval_same_40a fuel)
theorem ok168_40a (fuel : Nat) : FnOK Try.prog 168 (spec168_40a fuel) := by
  intro args objs kk r h
  unfold spec168_40a spg168_40a at h
  split at h
  · skip
    split at h
    rotate_left 1
    · cases h
    rename_i hsp
    have esp := splitRun_eq hsp
    subst esp
    obtain ⟨hb, h⟩ := cond_some' h
    simp only [Bool.and_eq_true, Nat.beq_eq, decide_eq_true_eq] at hb
    obtain ⟨⟨⟨⟨⟨⟨rfl, rfl⟩, rfl⟩, rfl⟩, rfl⟩, rfl⟩, rfl⟩ := hb
    exact fok168_40a fuel _ _ kk r ((F168_40a_eq fuel _ _ _ _ _ _ _ _ _ _ kk).trans h)
  · cases h
end Go.Proofs.Ytihfgpfofmjbaaa

