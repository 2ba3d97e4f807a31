/- What the functions that ToneGets reaches do: their typed texts, each with the proof that the machine does it. No condition. -/
import Derived.Test.YtihfgpfofmjbaaaEvX
import Derived.Test.YtihfgpfofmjbaaaFsToneGets2
import Derived.Test.YtihfgpfofmjbaaaFsToneGets3
import Derived.Test.YtihfgpfofmjbaaaFsToneGets1
set_option linter.unusedVariables false
set_option linter.unusedSimpArgs false
set_option linter.unusedVariables false
set_option linter.unusedSimpArgs false
set_option maxRecDepth 100000
set_option maxHeartbeats 2000000
namespace Go.Proofs.Ytihfgpfofmjbaaa
open Go Ev
def kp37 (i : Nat) : Option (List Nat) := Ev.look i [(11, [3, 4, 14, 16, 60, 61]), (100000, [16]), (400000, [10, 11])]
noncomputable def Gg37 (f48 : YF48) (f76 : YF76) (f106 : YF106) (f107 : YF107) (f108 : YF108) (f : Nat) : Option Ev.Spec := Ev.look f [(48, spg48 f48), (76, spg76 f76), (106, spg106 f106), (107, spg107 f107), (108, spg108 f108)]
noncomputable def G37 (fuel : Nat) : Nat → Option Ev.Spec := Gg37 (F_generic_Decode fuel) (F_bitmap_New fuel) (F_tone_isPlain fuel) (F_tone_rightSides fuel) (F_bitmap_Cut fuel)
noncomputable def Sg_tone_GetPatterns_0 (fuel : Nat) (f48 : YF48) (f76 : YF76) (f106 : YF106) (f107 : YF107) (f108 : YF108) (x0 x1 : Int) (x2 x3 : Int) (x4 x5 : Int) (x6 : (List (Int × (Int × (List Int))))) (x7 : (List Int)) (c : (Int × Int × Int × Int × Int × Int × (List (Int × (Int × (List Int)))) × (List Int)) → Option Ans) (B : ((List (Int × (Int × (List Int)))) → Option Ans)) : Option Ans := match B with
 | b =>
  bif decide (x3 < x2) then
  (f108 (x4) (x5) (x7) (IntKind.i64.wrap (x3 * x0)) ((0 : Int)) (x0) (x1)
  (fun (y3_0, y3_1, y3_2, y3_3) =>
  bif decide ((x6.length + [(y3_0, y3_1, y3_3)].length) * (40 : Nat) ≤ (140737488355328 : Nat) ∧ x6.length + [(y3_0, y3_1, y3_3)].length ≤ (140737488355328 : Nat)) then
  c (x0, x1, x2, IntKind.i64.wrap (x3 + (1 : Int)), x4, x5, x6 ++ [(y3_0, y3_1, y3_3)], x7)
  else none))
  else
  b x6
noncomputable def S_tone_GetPatterns_0 (fuel : Nat) (v : Int × Int × Int × Int × Int × Int × (List (Int × (Int × (List Int)))) × (List Int)) (c : (Int × Int × Int × Int × Int × Int × (List (Int × (Int × (List Int)))) × (List Int)) → Option Ans) (B : ((List (Int × (Int × (List Int)))) → Option Ans)) : Option Ans := match v with
 | (x0, x1, x2, x3, x4, x5, x6, x7) => Sg_tone_GetPatterns_0 fuel (F_generic_Decode fuel) (F_bitmap_New fuel) (F_tone_isPlain fuel) (F_tone_rightSides fuel) (F_bitmap_Cut fuel) x0 x1 x2 x3 x4 x5 x6 x7 c B
noncomputable def L_tone_GetPatterns_0 (fuel : Nat) (v : Int × Int × Int × Int × Int × Int × (List (Int × (Int × (List Int)))) × (List Int)) (b : ((List (Int × (Int × (List Int)))) → Option Ans)) : Option Ans := iter (S_tone_GetPatterns_0 fuel) fuel v b
noncomputable def J37_0 (fuel : Nat) (i : Nat) : Option Ev.Blk := Ev.look i []
noncomputable def T37_0 (v : Int × Int × Int × Int × Int × Int × (List (Int × (Int × (List Int)))) × (List Int)) : Ev.St := match v with | (x0, x1, x2, x3, x4, x5, x6, x7) => ⟨[(3, .c (.int .i64 x0)), (4, .c (.int .i64 x1)), (14, .c (.ptr 0 0)), (16, .c (.own 1)), (60, .c (.int .i64 x2)), (61, .c (.int .i64 x3))], [(0, .cells 39 [.int .i64 x4, .int .i64 x5, .own 2]), (1, .vec 39 (.pair (.int .i64) (.pair (.int .i64) (.sl (.int .u8)))) x6 true), (2, .vec 5 (.int .u8) x7 true)], 3, 0⟩
noncomputable def E37_0 (K : Ev.Ex → Ev.St → Option Ans) : ((List (Int × (Int × (List Int)))) → Option Ans) := (fun v => match v with | x0 => K .normal ⟨[(16, .c (.own 0))], [(0, .vec 39 (.pair (.int .i64) (.pair (.int .i64) (.sl (.int .u8)))) x0 true)], 1, 0⟩)
theorem S37_0_okg (fuel : Nat) (f48 : YF48) (f76 : YF76) (f106 : YF106) (f107 : YF107) (f108 : YF108) (R : Ev.St → Option Ans) (K : Ev.Ex → Ev.St → Option Ans) (x0 x1 : Int) (x2 x3 : Int) (x4 x5 : Int) (x6 : (List (Int × (Int × (List Int))))) (x7 : (List Int)) : evalCode tab (Gg37 f48 f76 f106 f107 f108) (J37_0 fuel) kp37 fuel (bodyOf 0 Try.f37) (T37_0 (x0, x1, x2, x3, x4, x5, x6, x7)) (lc kp37 11 0 R K) = Sg_tone_GetPatterns_0 fuel f48 f76 f106 f107 f108 x0 x1 x2 x3 x4 x5 x6 x7 (fun v => R (T37_0 v)) (E37_0 K) := by
  kernel_rfl
theorem S37_0_ok (fuel : Nat) (R : Ev.St → Option Ans) (K : Ev.Ex → Ev.St → Option Ans) (x0 x1 : Int) (x2 x3 : Int) (x4 x5 : Int) (x6 : (List (Int × (Int × (List Int))))) (x7 : (List Int)) : evalCode tab (G37 fuel) (J37_0 fuel) kp37 fuel (bodyOf 0 Try.f37) (T37_0 (x0, x1, x2, x3, x4, x5, x6, x7)) (lc kp37 11 0 R K) = S_tone_GetPatterns_0 fuel (x0, x1, x2, x3, x4, x5, x6, x7) (fun v => R (T37_0 v)) (E37_0 K) :=
  S37_0_okg fuel (F_generic_Decode fuel) (F_bitmap_New fuel) (F_tone_isPlain fuel) (F_tone_rightSides fuel) (F_bitmap_Cut fuel) R K x0 x1 x2 x3 x4 x5 x6 x7
noncomputable def B37_0 (fuel : Nat) : Ev.Blk := fun st K => match canonO (kp37 11) st with
 | some s => (match s with
 | ⟨[(q0, .c (.int .i64 x0)), (q1, .c (.int .i64 x1)), (q2, .c (.ptr q3 q4)), (q5, .c (.own q6)), (q7, .c (.int .i64 x2)), (q8, .c (.int .i64 x3))], [(q9, .cells q10 [.int .i64 x4, .int .i64 x5, .own q11]), (q12, .vec q13 (.pair (.int .i64) (.pair (.int .i64) (.sl (.int .u8)))) x6 true), (q14, .vec q15 (.int .u8) x7 true)], q16, q17⟩ => bif Nat.beq q0 3 && Nat.beq q1 4 && Nat.beq q2 14 && Nat.beq q3 0 && Nat.beq q4 0 && Nat.beq q5 16 && Nat.beq q6 1 && Nat.beq q7 60 && Nat.beq q8 61 && Nat.beq q9 0 && Nat.beq q10 39 && Nat.beq q11 2 && Nat.beq q12 1 && Nat.beq q13 39 && Nat.beq q14 2 && Nat.beq q15 5 && Nat.beq q16 3 && Nat.beq q17 0 then iter (S_tone_GetPatterns_0 fuel) fuel (x0, x1, x2, x3, x4, x5, x6, x7) (E37_0 K) else none
 | _ => none)
 | none => none
theorem B37_0_ok (fuel : Nat) (st : Ev.St) (K : Ev.Ex → Ev.St → Option Ans) (r : Ans) (h : B37_0 fuel st K = some r) : evalCode tab (G37 fuel) (J37_0 fuel) kp37 fuel (.block 0 (.loop (bodyOf 0 Try.f37))) st K = some r := by
  unfold B37_0 at h
  split at h
  · rename_i s hs
    split at h
    · skip
      obtain ⟨hb, h⟩ := cond_some' h
      simp only [Bool.and_eq_true, Nat.beq_eq, decide_eq_true_eq] at hb
      obtain ⟨⟨⟨⟨⟨⟨⟨⟨⟨⟨⟨⟨⟨⟨⟨⟨⟨rfl, rfl⟩, rfl⟩, rfl⟩, rfl⟩, rfl⟩, rfl⟩, rfl⟩, rfl⟩, rfl⟩, rfl⟩, rfl⟩, rfl⟩, rfl⟩, rfl⟩, rfl⟩, rfl⟩, rfl⟩ := hb
      exact blk_loop (S := T37_0) (ks := E37_0) (step := S_tone_GetPatterns_0 fuel) (v := (_, _, _, _, _, _, _, _)) (by kernel_rfl) (by kernel_rfl) (fun R K v => by obtain ⟨x0, x1, x2, x3, x4, x5, x6, x7⟩ := v; exact S37_0_ok fuel R K x0 x1 x2 x3 x4 x5 x6 x7) hs h
    · cases h
  · cases h
noncomputable def J37 (fuel : Nat) (i : Nat) : Option Ev.Blk := Ev.look i [(100000, B37_0 fuel)]
noncomputable def Fg_tone_GetPatterns (fuel : Nat) (f48 : YF48) (f76 : YF76) (f106 : YF106) (f107 : YF107) (f108 : YF108) (x0 x1 x2 : Int) (x3 : Bool) (x4 : Int) (x5 : (List Int)) (x6 x7 x8 : Int) (k0 : (Int × (List (Int × (Int × (List Int))))) → Option Ans) : Option Ans :=
  (f106 (x0) (x1) (x2) (x3) (x4)
  (fun y2 =>
  bif !y2 then
  k0 ((2 : Int), [])
  else
  bif decide (x6 < (1 : Int)) then
  k0 ((2 : Int), [])
  else
  bif decide (x6 > (64 : Int)) then
  k0 ((2 : Int), [])
  else
  (f107 (x7) (x8)
  (fun y9 =>
  bif !y9 then
  k0 ((2 : Int), [])
  else
  (f76 (IntKind.i64.wrap (x6 * x7)) (x8) ((0 : Int))
  (fun (y14_0, y14_1, y14_2, y14_3) =>
  bif y14_2 != (0 : Int) then
  k0 ((2 : Int), [])
  else
  (f48 (x0) (x1) (x2) (x3) (x4) (x5) (IntKind.i64.wrap (x6 * x7)) (x8)
  (fun (y19_0, y19_1, y19_2, y19_3) =>
  bif y19_2 != (0 : Int) then
  k0 (y19_2, [])
  else
  (L_tone_GetPatterns_0 fuel (x7, x8, x6, (0 : Int), y19_0, y19_1, [], y19_3)
  (fun b0_0 =>
  k0 ((0 : Int), b0_0)))))))))))
noncomputable def F_tone_GetPatterns (fuel : Nat) (x0 x1 x2 : Int) (x3 : Bool) (x4 : Int) (x5 : (List Int)) (x6 x7 x8 : Int) (k0 : (Int × (List (Int × (Int × (List Int))))) → Option Ans) : Option Ans := Fg_tone_GetPatterns fuel (F_generic_Decode fuel) (F_bitmap_New fuel) (F_tone_isPlain fuel) (F_tone_rightSides fuel) (F_bitmap_Cut fuel) x0 x1 x2 x3 x4 x5 x6 x7 x8 k0
abbrev YF37 : Type := (Int) → (Int) → (Int) → (Bool) → (Int) → ((List Int)) → (Int) → (Int) → (Int) → ((Int × (List (Int × (Int × (List Int))))) → Option Ans) → Option Ans
theorem F37_eqg (fuel : Nat) (f48 : YF48) (f76 : YF76) (f106 : YF106) (f107 : YF107) (f108 : YF108) (x0 x1 x2 : Int) (x3 : Bool) (x4 : Int) (x5 : (List Int)) (x6 x7 x8 : Int) (k : Ev.Cont) : evalFn tab (Gg37 f48 f76 f106 f107 f108) (J37 fuel) kp37 fuel Try.f37 [.agg [.int .i64 x0, .int .i64 x1, .int .i64 x2, .bool x3, .int .i64 x4], .c (.sl (.int .u8) x5), .c (.int .i64 x6), .c (.int .i64 x7), .c (.int .i64 x8)] [] k = Fg_tone_GetPatterns fuel f48 f76 f106 f107 f108 x0 x1 x2 x3 x4 x5 x6 x7 x8 (fun r => match r with | (r0, r1) => k (.tup [(false, [.own 0]), (false, [.int .i64 r0])], [.vec 39 (.pair (.int .i64) (.pair (.int .i64) (.sl (.int .u8)))) r1 true])) := by
  kernel_rfl
theorem F37_eq (fuel : Nat) (x0 x1 x2 : Int) (x3 : Bool) (x4 : Int) (x5 : (List Int)) (x6 x7 x8 : Int) (k : Ev.Cont) : evalFn tab (G37 fuel) (J37 fuel) kp37 fuel Try.f37 [.agg [.int .i64 x0, .int .i64 x1, .int .i64 x2, .bool x3, .int .i64 x4], .c (.sl (.int .u8) x5), .c (.int .i64 x6), .c (.int .i64 x7), .c (.int .i64 x8)] [] k = F_tone_GetPatterns fuel x0 x1 x2 x3 x4 x5 x6 x7 x8 (fun r => match r with | (r0, r1) => k (.tup [(false, [.own 0]), (false, [.int .i64 r0])], [.vec 39 (.pair (.int .i64) (.pair (.int .i64) (.sl (.int .u8)))) r1 true])) :=
  F37_eqg fuel (F_generic_Decode fuel) (F_bitmap_New fuel) (F_tone_isPlain fuel) (F_tone_rightSides fuel) (F_bitmap_Cut fuel) x0 x1 x2 x3 x4 x5 x6 x7 x8 k
theorem hG37 (fuel : Nat) : GOK Try.prog (G37 fuel) :=
  gok_cons ⟨ok48 fuel, enters_of Try.func48 (by kernel_rfl) rfl⟩ <|
  gok_cons ⟨ok76 fuel, enters_of Try.func76 (by kernel_rfl) rfl⟩ <|
  gok_cons ⟨ok106 fuel, enters_of Try.func106 (by kernel_rfl) rfl⟩ <|
  gok_cons ⟨ok107 fuel, enters_of Try.func107 (by kernel_rfl) rfl⟩ <|
  gok_cons ⟨ok108 fuel, enters_of Try.func108 (by kernel_rfl) rfl⟩ <|
  gok_nil
theorem B37_0_blk (fuel : Nat) : BlkOK Try.prog Try.f37.ntmps (.block 0 (.loop (bodyOf 0 Try.f37))) (B37_0 fuel) :=
  blk_of (blk_of_code tab_ok (hG37 fuel) mixed (J := J37_0 fuel) (kp := kp37) (fuel := fuel) (by kernel_rfl) (fun q hq => by
    rw [(by kernel_rfl : obl (J37_0 fuel) (.block 0 (.loop (bodyOf 0 Try.f37))) = [])] at hq
    cases hq)) (B37_0_ok fuel)
theorem fok37 (fuel : Nat) : FnOK Try.prog 37 (evalFn tab (G37 fuel) (J37 fuel) kp37 fuel Try.f37) :=
  fn_ok tab_ok (hG37 fuel) mixed Try.func37 (c := (Try.f37.body).getD .skip) rfl (fun q hq => by
    rw [(by kernel_rfl : obl (J37 fuel) ((Try.f37.body).getD .skip) = [(.block 0 (.loop (bodyOf 0 Try.f37)), B37_0 fuel)])] at hq
    simp only [List.mem_cons, List.not_mem_nil, or_false] at hq
    subst hq
    · exact B37_0_blk fuel)
noncomputable def mt37 : List Ev.SV → List Ev.Ob → Bool := fun args objs => match args, objs with
 | [.agg [.int .i64 _, .int .i64 _, .int .i64 _, .bool _, .int .i64 _], .c (.sl (.int .u8) _), .c (.int .i64 _), .c (.int .i64 _), .c (.int .i64 _)], [] => true
 | _, _ => false
noncomputable def spg37 (F : YF37) : Ev.Spec := fun args objs k => match args, objs with
 | [.agg [.int .i64 x0, .int .i64 x1, .int .i64 x2, .bool x3, .int .i64 x4], .c (.sl (.int .u8) x5), .c (.int .i64 x6), .c (.int .i64 x7), .c (.int .i64 x8)], [] => bif true then F x0 x1 x2 x3 x4 x5 x6 x7 x8 (fun r => match r with | (r0, r1) => k (.tup [(false, [.own 0]), (false, [.int .i64 r0])], [.vec 39 (.pair (.int .i64) (.pair (.int .i64) (.sl (.int .u8)))) r1 true])) else none
 | _, _ => none
noncomputable def spec37 (fuel : Nat) : Ev.Spec := spg37 (F_tone_GetPatterns fuel)
theorem ok37 (fuel : Nat) : FnOK Try.prog 37 (spec37 fuel) := by
  intro args objs kk r h
  unfold spec37 spg37 at h
  split at h
  · skip
    obtain ⟨hb, h⟩ := cond_some' h
    simp only [Bool.and_eq_true, Nat.beq_eq, decide_eq_true_eq] at hb
    clear hb
    exact fok37 fuel _ _ kk r ((F37_eq fuel _ _ _ _ _ _ _ _ _ kk).trans h)
  · cases h
end Go.Proofs.Ytihfgpfofmjbaaa

set_option linter.unusedVariables false
set_option linter.unusedSimpArgs false
set_option maxRecDepth 100000
set_option maxHeartbeats 2000000
namespace Go.Proofs.Ytihfgpfofmjbaaa
open Go Ev
def kp8 (i : Nat) : Option (List Nat) := Ev.look i [(200001, [1])]
noncomputable def Gg8 (f21 : YF21) (f37 : YF37) (f38 : YF38) (f39 : YF39) (f : Nat) : Option Ev.Spec := Ev.look f [(21, spg21 f21), (37, spg37 f37), (38, spg38 f38), (39, spg39 f39)]
noncomputable def G8 (fuel : Nat) : Nat → Option Ev.Spec := Gg8 (F_law11_Sane fuel) (F_tone_GetPatterns fuel) (F_ref11_GetPatterns fuel) (F_ref09_SameBitmaps fuel)
noncomputable def J8 (fuel : Nat) (i : Nat) : Option Ev.Blk := Ev.look i []
noncomputable def Fg_law11_ToneGets (fuel : Nat) (f21 : YF21) (f37 : YF37) (f38 : YF38) (f39 : YF39) (x0 x1 x2 : Int) (x3 : Bool) (x4 : Int) (x5 : (List Int)) (x6 x7 x8 : Int) (k0 : (Bool) → Option Ans) : Option Ans :=
  bif decide ((↑x5.length : Int) > (500 : Int)) then
  (f21
  (fun y3 =>
  k0 y3))
  else
  bif decide (x6 > (0 : Int)) then
  bif decide (x7 > (0 : Int)) then
  bif decide (x8 > (0 : Int)) then
  bif decide (x6 ≤ (64 : Int)) then
  bif decide (x7 ≤ (16 : Int)) then
  bif decide (x8 ≤ (16 : Int)) then
  bif decide (IntKind.i64.wrap (IntKind.i64.wrap (x6 * x7) * x8) > (1500 : Int)) then
  (f21
  (fun y10 =>
  k0 y10))
  else
  (f37 (x0) (x1) (x2) (x3) (x4) (x5) (x6) (x7) (x8)
  (fun (y10_0, y10_1) =>
  (f38 (x0) (x1) (x2) (x3) (x4) (x5) (x6) (x7) (x8)
  (fun (y14_0, y14_1) =>
  bif y10_0 == y14_0 then
  (f39 (y10_1) (y14_1)
  (fun y19 =>
  bif y19 then
  (f21
  (fun y24 =>
  k0 y24))
  else
  k0 false))
  else
  k0 false))))
  else
  (f37 (x0) (x1) (x2) (x3) (x4) (x5) (x6) (x7) (x8)
  (fun (y9_0, y9_1) =>
  (f38 (x0) (x1) (x2) (x3) (x4) (x5) (x6) (x7) (x8)
  (fun (y13_0, y13_1) =>
  bif y9_0 == y13_0 then
  (f39 (y9_1) (y13_1)
  (fun y18 =>
  bif y18 then
  (f21
  (fun y23 =>
  k0 y23))
  else
  k0 false))
  else
  k0 false))))
  else
  (f37 (x0) (x1) (x2) (x3) (x4) (x5) (x6) (x7) (x8)
  (fun (y8_0, y8_1) =>
  (f38 (x0) (x1) (x2) (x3) (x4) (x5) (x6) (x7) (x8)
  (fun (y12_0, y12_1) =>
  bif y8_0 == y12_0 then
  (f39 (y8_1) (y12_1)
  (fun y17 =>
  bif y17 then
  (f21
  (fun y22 =>
  k0 y22))
  else
  k0 false))
  else
  k0 false))))
  else
  (f37 (x0) (x1) (x2) (x3) (x4) (x5) (x6) (x7) (x8)
  (fun (y7_0, y7_1) =>
  (f38 (x0) (x1) (x2) (x3) (x4) (x5) (x6) (x7) (x8)
  (fun (y11_0, y11_1) =>
  bif y7_0 == y11_0 then
  (f39 (y7_1) (y11_1)
  (fun y16 =>
  bif y16 then
  (f21
  (fun y21 =>
  k0 y21))
  else
  k0 false))
  else
  k0 false))))
  else
  (f37 (x0) (x1) (x2) (x3) (x4) (x5) (x6) (x7) (x8)
  (fun (y6_0, y6_1) =>
  (f38 (x0) (x1) (x2) (x3) (x4) (x5) (x6) (x7) (x8)
  (fun (y10_0, y10_1) =>
  bif y6_0 == y10_0 then
  (f39 (y6_1) (y10_1)
  (fun y15 =>
  bif y15 then
  (f21
  (fun y20 =>
  k0 y20))
  else
  k0 false))
  else
  k0 false))))
  else
  (f37 (x0) (x1) (x2) (x3) (x4) (x5) (x6) (x7) (x8)
  (fun (y5_0, y5_1) =>
  (f38 (x0) (x1) (x2) (x3) (x4) (x5) (x6) (x7) (x8)
  (fun (y9_0, y9_1) =>
  bif y5_0 == y9_0 then
  (f39 (y5_1) (y9_1)
  (fun y14 =>
  bif y14 then
  (f21
  (fun y19 =>
  k0 y19))
  else
  k0 false))
  else
  k0 false))))
  else
  (f37 (x0) (x1) (x2) (x3) (x4) (x5) (x6) (x7) (x8)
  (fun (y4_0, y4_1) =>
  (f38 (x0) (x1) (x2) (x3) (x4) (x5) (x6) (x7) (x8)
  (fun (y8_0, y8_1) =>
  bif y4_0 == y8_0 then
  (f39 (y4_1) (y8_1)
  (fun y13 =>
  bif y13 then
  (f21
  (fun y18 =>
  k0 y18))
  else
  k0 false))
  else
  k0 false))))
noncomputable def F_law11_ToneGets (fuel : Nat) (x0 x1 x2 : Int) (x3 : Bool) (x4 : Int) (x5 : (List Int)) (x6 x7 x8 : Int) (k0 : (Bool) → Option Ans) : Option Ans := Fg_law11_ToneGets fuel (F_law11_Sane fuel) (F_tone_GetPatterns fuel) (F_ref11_GetPatterns fuel) (F_ref09_SameBitmaps fuel) x0 x1 x2 x3 x4 x5 x6 x7 x8 k0
abbrev YF8 : Type := (Int) → (Int) → (Int) → (Bool) → (Int) → ((List Int)) → (Int) → (Int) → (Int) → ((Bool) → Option Ans) → Option Ans
theorem F8_eqg (fuel : Nat) (f21 : YF21) (f37 : YF37) (f38 : YF38) (f39 : YF39) (x0 x1 x2 : Int) (x3 : Bool) (x4 : Int) (x5 : (List Int)) (x6 x7 x8 : Int) (k : Ev.Cont) : evalFn tab (Gg8 f21 f37 f38 f39) (J8 fuel) kp8 fuel Try.f8 [.agg [.int .i64 x0, .int .i64 x1, .int .i64 x2, .bool x3, .int .i64 x4, .sl (.int .u8) x5, .int .i64 x6, .int .i64 x7, .int .i64 x8]] [] k = Fg_law11_ToneGets fuel f21 f37 f38 f39 x0 x1 x2 x3 x4 x5 x6 x7 x8 (fun r => match r with | r0 => k (.c (.bool r0), [])) := by
  kernel_rfl
theorem F8_eq (fuel : Nat) (x0 x1 x2 : Int) (x3 : Bool) (x4 : Int) (x5 : (List Int)) (x6 x7 x8 : Int) (k : Ev.Cont) : evalFn tab (G8 fuel) (J8 fuel) kp8 fuel Try.f8 [.agg [.int .i64 x0, .int .i64 x1, .int .i64 x2, .bool x3, .int .i64 x4, .sl (.int .u8) x5, .int .i64 x6, .int .i64 x7, .int .i64 x8]] [] k = F_law11_ToneGets fuel x0 x1 x2 x3 x4 x5 x6 x7 x8 (fun r => match r with | r0 => k (.c (.bool r0), [])) :=
  F8_eqg fuel (F_law11_Sane fuel) (F_tone_GetPatterns fuel) (F_ref11_GetPatterns fuel) (F_ref09_SameBitmaps fuel) x0 x1 x2 x3 x4 x5 x6 x7 x8 k
theorem hG8 (fuel : Nat) : GOK Try.prog (G8 fuel) :=
  gok_cons ⟨ok21 fuel, enters_of Try.func21 (by kernel_rfl) rfl⟩ <|
  gok_cons ⟨ok37 fuel, enters_of Try.func37 (by kernel_rfl) rfl⟩ <|
  gok_cons ⟨ok38 fuel, enters_of Try.func38 (by kernel_rfl) rfl⟩ <|
  gok_cons ⟨ok39 fuel, enters_of Try.func39 (by kernel_rfl) rfl⟩ <|
  gok_nil
theorem fok8 (fuel : Nat) : FnOK Try.prog 8 (evalFn tab (G8 fuel) (J8 fuel) kp8 fuel Try.f8) :=
  fn_ok tab_ok (hG8 fuel) mixed Try.func8 (c := (Try.f8.body).getD .skip) rfl (fun q hq => by
    rw [(by kernel_rfl : obl (J8 fuel) ((Try.f8.body).getD .skip) = [])] at hq
    cases hq)
noncomputable def mt8 : List Ev.SV → List Ev.Ob → Bool := fun args objs => match args, objs with
 | [.agg [.int .i64 _, .int .i64 _, .int .i64 _, .bool _, .int .i64 _, .sl (.int .u8) _, .int .i64 _, .int .i64 _, .int .i64 _]], [] => true
 | _, _ => false
noncomputable def spg8 (F : YF8) : Ev.Spec := fun args objs k => match args, objs with
 | [.agg [.int .i64 x0, .int .i64 x1, .int .i64 x2, .bool x3, .int .i64 x4, .sl (.int .u8) x5, .int .i64 x6, .int .i64 x7, .int .i64 x8]], [] => bif true then F x0 x1 x2 x3 x4 x5 x6 x7 x8 (fun r => match r with | r0 => k (.c (.bool r0), [])) else none
 | _, _ => none
noncomputable def spec8 (fuel : Nat) : Ev.Spec := spg8 (F_law11_ToneGets fuel)
theorem ok8 (fuel : Nat) : FnOK Try.prog 8 (spec8 fuel) := by
  intro args objs kk r h
  unfold spec8 spg8 at h
  split at h
  · skip
    obtain ⟨hb, h⟩ := cond_some' h
    simp only [Bool.and_eq_true, Nat.beq_eq, decide_eq_true_eq] at hb
    clear hb
    exact fok8 fuel _ _ kk r ((F8_eq fuel _ _ _ _ _ _ _ _ _ kk).trans h)
  · cases h
end Go.Proofs.Ytihfgpfofmjbaaa

set_option linter.unusedVariables false
set_option linter.unusedSimpArgs false
set_option maxRecDepth 100000
set_option maxHeartbeats 2000000
namespace Go.Proofs.Ytihfgpfofmjbaaa
open Go Ev
def kp84 (i : Nat) : Option (List Nat) := Ev.look i []
noncomputable def Gg84 (f88 : YF88) (f90 : YF90) (f : Nat) : Option Ev.Spec := Ev.look f [(88, spg88 f88), (90, spg90 f90)]
noncomputable def G84 (fuel : Nat) : Nat → Option Ev.Spec := Gg84 (F_generic_Valid fuel) (F_generic_contexts fuel)
noncomputable def J84 (fuel : Nat) (i : Nat) : Option Ev.Blk := Ev.look i []
noncomputable def Fg_generic_Size (fuel : Nat) (f88 : YF88) (f90 : YF90) (x0 x1 x2 : Int) (x3 : Bool) (x4 : Int) (k0 : (Int × Int) → Option Ans) : Option Ans :=
  (f88 (x0) (x1) (x2) (x3) (x4)
  (fun y2 =>
  bif !y2 then
  k0 ((0 : Int), (2 : Int))
  else
  (f90 (x0) (x1) (x2) (x3) (x4)
  (fun y7 =>
  k0 (IntKind.i64.wrap (y7 + (1 : Int)), (0 : Int))))))
noncomputable def F_generic_Size (fuel : Nat) (x0 x1 x2 : Int) (x3 : Bool) (x4 : Int) (k0 : (Int × Int) → Option Ans) : Option Ans := Fg_generic_Size fuel (F_generic_Valid fuel) (F_generic_contexts fuel) x0 x1 x2 x3 x4 k0
abbrev YF84 : Type := (Int) → (Int) → (Int) → (Bool) → (Int) → ((Int × Int) → Option Ans) → Option Ans
theorem F84_eqg (fuel : Nat) (f88 : YF88) (f90 : YF90) (x0 x1 x2 : Int) (x3 : Bool) (x4 : Int) (k : Ev.Cont) : evalFn tab (Gg84 f88 f90) (J84 fuel) kp84 fuel Try.f84 [.agg [.int .i64 x0, .int .i64 x1, .int .i64 x2, .bool x3, .int .i64 x4]] [] k = Fg_generic_Size fuel f88 f90 x0 x1 x2 x3 x4 (fun r => match r with | (r0, r1) => k (.tup [(false, [.int .i64 r0]), (false, [.int .i64 r1])], [])) := by
  kernel_rfl
theorem F84_eq (fuel : Nat) (x0 x1 x2 : Int) (x3 : Bool) (x4 : Int) (k : Ev.Cont) : evalFn tab (G84 fuel) (J84 fuel) kp84 fuel Try.f84 [.agg [.int .i64 x0, .int .i64 x1, .int .i64 x2, .bool x3, .int .i64 x4]] [] k = F_generic_Size fuel x0 x1 x2 x3 x4 (fun r => match r with | (r0, r1) => k (.tup [(false, [.int .i64 r0]), (false, [.int .i64 r1])], [])) :=
  F84_eqg fuel (F_generic_Valid fuel) (F_generic_contexts fuel) x0 x1 x2 x3 x4 k
theorem hG84 (fuel : Nat) : GOK Try.prog (G84 fuel) :=
  gok_cons ⟨ok88 fuel, enters_of Try.func88 (by kernel_rfl) rfl⟩ <|
  gok_cons ⟨ok90 fuel, enters_of Try.func90 (by kernel_rfl) rfl⟩ <|
  gok_nil
theorem fok84 (fuel : Nat) : FnOK Try.prog 84 (evalFn tab (G84 fuel) (J84 fuel) kp84 fuel Try.f84) :=
  fn_ok tab_ok (hG84 fuel) mixed Try.func84 (c := (Try.f84.body).getD .skip) rfl (fun q hq => by
    rw [(by kernel_rfl : obl (J84 fuel) ((Try.f84.body).getD .skip) = [])] at hq
    cases hq)
noncomputable def mt84 : List Ev.SV → List Ev.Ob → Bool := fun args objs => match args, objs with
 | [.agg [.int .i64 _, .int .i64 _, .int .i64 _, .bool _, .int .i64 _]], [] => true
 | _, _ => false
noncomputable def spg84 (F : YF84) : Ev.Spec := fun args objs k => match args, objs with
 | [.agg [.int .i64 x0, .int .i64 x1, .int .i64 x2, .bool x3, .int .i64 x4]], [] => bif true then F x0 x1 x2 x3 x4 (fun r => match r with | (r0, r1) => k (.tup [(false, [.int .i64 r0]), (false, [.int .i64 r1])], [])) else none
 | _, _ => none
noncomputable def spec84 (fuel : Nat) : Ev.Spec := spg84 (F_generic_Size fuel)
theorem ok84 (fuel : Nat) : FnOK Try.prog 84 (spec84 fuel) := by
  intro args objs kk r h
  unfold spec84 spg84 at h
  split at h
  · skip
    obtain ⟨hb, h⟩ := cond_some' h
    simp only [Bool.and_eq_true, Nat.beq_eq, decide_eq_true_eq] at hb
    clear hb
    exact fok84 fuel _ _ kk r ((F84_eq fuel _ _ _ _ _ kk).trans h)
  · cases h
end Go.Proofs.Ytihfgpfofmjbaaa

set_option linter.unusedVariables false
set_option linter.unusedSimpArgs false
set_option maxRecDepth 100000
set_option maxHeartbeats 2000000
namespace Go.Proofs.Ytihfgpfofmjbaaa
open Go Ev
def kp199_a34 (i : Nat) : Option (List Nat) := Ev.look i [(200003, [0])]
noncomputable def Gg199_a34 (f : Nat) : Option Ev.Spec := Ev.look f []
noncomputable def G199_a34 (fuel : Nat) : Nat → Option Ev.Spec := Gg199_a34
noncomputable def J199_a34 (fuel : Nat) (i : Nat) : Option Ev.Blk := Ev.look i []
noncomputable def F_generic_plane_at_a34 (fuel : Nat) (x0 x1 : Int) (x2 x3 : Int) (x4 : (List Int)) (x5 : (List (Int × Int))) (k0 : (Int × Int × Int × (List Int) × (List (Int × Int))) → Option Ans) : Option Ans :=
  bif decide (x0 < (0 : Int)) then
  k0 ((0 : Int), x2, x3, x4, x5)
  else
  bif decide (x1 < (0 : Int)) then
  k0 ((0 : Int), x2, x3, x4, x5)
  else
  bif decide (x0 ≥ x2) then
  k0 ((0 : Int), x2, x3, x4, x5)
  else
  bif decide (x1 ≥ x3) then
  k0 ((0 : Int), x2, x3, x4, x5)
  else
  bif decide ((0 : Int) ≤ IntKind.i64.wrap (IntKind.i64.wrap (x1 * x2) + x0) ∧ IntKind.i64.wrap (IntKind.i64.wrap (x1 * x2) + x0) < (↑x4.length : Int)) then
  k0 (x4.getD (IntKind.i64.wrap (IntKind.i64.wrap (x1 * x2) + x0)).toNat (0 : Int), x2, x3, x4, x5)
  else none
abbrev YF199_a34 : Type := (Int) → (Int) → (Int) → (Int) → ((List Int)) → ((List (Int × Int))) → ((Int × Int × Int × (List Int) × (List (Int × Int))) → Option Ans) → Option Ans
theorem F199_a34_eq (fuel : Nat) (x0 x1 : Int) (x2 x3 : Int) (x4 : (List Int)) (x5 : (List (Int × Int))) (k : Ev.Cont) : evalFn tab (G199_a34 fuel) (J199_a34 fuel) kp199_a34 fuel Try.f199 [.c (.ptr 0 0), .c (.int .i64 x0), .c (.int .i64 x1)] [.cells 137 [.int .i64 x2, .int .i64 x3, .sl (.int .u8) x4, .own 1], .vec 44 (.pair (.int .i64) (.int .i64)) x5 false] k = F_generic_plane_at_a34 fuel x0 x1 x2 x3 x4 x5 (fun r => match r with | (r0, r1, r2, r3, r4) => k (.c (.int .u8 r0), [.cells 137 [.int .i64 r1, .int .i64 r2, .sl (.int .u8) r3, .own 1], .vec 44 (.pair (.int .i64) (.int .i64)) r4 false])) := by
  kernel_rfl
theorem hG199_a34 (fuel : Nat) : GOK Try.prog (G199_a34 fuel) :=
  gok_nil
theorem fok199_a34 (fuel : Nat) : FnOK Try.prog 199 (evalFn tab (G199_a34 fuel) (J199_a34 fuel) kp199_a34 fuel Try.f199) :=
  fn_ok tab_ok (hG199_a34 fuel) mixed Try.func199 (c := (Try.f199.body).getD .skip) rfl (fun q hq => by
    rw [(by kernel_rfl : obl (J199_a34 fuel) ((Try.f199.body).getD .skip) = [])] at hq
    cases hq)
noncomputable def mt199_a34 : List Ev.SV → List Ev.Ob → Bool := fun args objs => match args, objs with
 | [.c (.ptr q0 q1), .c (.int .i64 _), .c (.int .i64 _)], [.cells q2 [.int .i64 _, .int .i64 _, .sl (.int .u8) _, .own q3], .vec q4 (.pair (.int .i64) (.int .i64)) _ false] => Nat.beq q0 0 && Nat.beq q1 0 && Nat.beq q2 137 && Nat.beq q3 1 && Nat.beq q4 44
 | _, _ => false
noncomputable def spg199_a34 (F : YF199_a34) : Ev.Spec := fun args objs k => match args, objs with
 | [.c (.ptr q0 q1), .c (.int .i64 x0), .c (.int .i64 x1)], [.cells q2 [.int .i64 x2, .int .i64 x3, .sl (.int .u8) x4, .own q3], .vec q4 (.pair (.int .i64) (.int .i64)) x5 false] => bif Nat.beq q0 0 && Nat.beq q1 0 && Nat.beq q2 137 && Nat.beq q3 1 && Nat.beq q4 44 then F x0 x1 x2 x3 x4 x5 (fun r => match r with | (r0, r1, r2, r3, r4) => k (.c (.int .u8 r0), [.cells 137 [.int .i64 r1, .int .i64 r2, .sl (.int .u8) r3, .own 1], .vec 44 (.pair (.int .i64) (.int .i64)) r4 false])) else none
 | _, _ => none
noncomputable def spec199_a34 (fuel : Nat) : Ev.Spec := spg199_a34 (F_generic_plane_at_a34 fuel)
theorem ok199_a34 (fuel : Nat) : FnOK Try.prog 199 (spec199_a34 fuel) := by
  intro args objs kk r h
  unfold spec199_a34 spg199_a34 at h
  split at h
  · skip
    obtain ⟨hb, h⟩ := cond_some' h
    simp only [Bool.and_eq_true, Nat.beq_eq, decide_eq_true_eq] at hb
    obtain ⟨⟨⟨⟨rfl, rfl⟩, rfl⟩, rfl⟩, rfl⟩ := hb
    exact fok199_a34 fuel _ _ kk r ((F199_a34_eq fuel _ _ _ _ _ _ kk).trans h)
  · cases h
end Go.Proofs.Ytihfgpfofmjbaaa

set_option linter.unusedVariables false
set_option linter.unusedSimpArgs false
set_option maxRecDepth 100000
set_option maxHeartbeats 2000000
namespace Go.Proofs.Ytihfgpfofmjbaaa
open Go Ev
def kp158_a34 (i : Nat) : Option (List Nat) := Ev.look i [(3, [0, 1, 2, 7, 13, 14, 15]), (100000, [7]), (400000, [6])]
noncomputable def Gg158_a34 (f199_a34 : YF199_a34) (f : Nat) : Option Ev.Spec := Ev.look f [(199, spg199_a34 f199_a34)]
noncomputable def G158_a34 (fuel : Nat) : Nat → Option Ev.Spec := Gg158_a34 (F_generic_plane_at_a34 fuel)
noncomputable def Sg_generic_plane_context_a34_0 (fuel : Nat) (f199_a34 : YF199_a34) (x0 x1 : Int) (x2 x3 : Int) (x4 x5 x6 : Int) (x7 : (List Int)) (x8 : (List (Int × Int))) (c : (Int × Int × Int × Int × Int × Int × Int × (List Int) × (List (Int × Int))) → Option Ans) (B : (Int × Int × Int × (List Int) × (List (Int × Int)) → Option Ans)) : Option Ans := match B with
 | b =>
  bif decide (x4 < x3) then
  bif decide ((0 : Int) ≤ x4 ∧ x4 < (↑x8.length : Int)) then
  (f199_a34 (IntKind.i64.wrap (x0 + (x8.getD x4.toNat ((0 : Int), (0 : Int))).fst)) (IntKind.i64.wrap (x1 + (x8.getD x4.toNat ((0 : Int), (0 : Int))).snd)) (x5) (x6) (x7) (x8)
  (fun (y4_0, y4_1, y4_2, y4_3, y4_4) =>
  c (x0, x1, IntKind.i64.wrap (IntKind.i64.wrap ((2 : Int) * x2) + IntKind.i64.wrap y4_0), x3, IntKind.i64.wrap (x4 + (1 : Int)), y4_1, y4_2, y4_3, y4_4)))
  else none
  else
  b (x2, x5, x6, x7, x8)
noncomputable def S_generic_plane_context_a34_0 (fuel : Nat) (v : Int × Int × Int × Int × Int × Int × Int × (List Int) × (List (Int × Int))) (c : (Int × Int × Int × Int × Int × Int × Int × (List Int) × (List (Int × Int))) → Option Ans) (B : (Int × Int × Int × (List Int) × (List (Int × Int)) → Option Ans)) : Option Ans := match v with
 | (x0, x1, x2, x3, x4, x5, x6, x7, x8) => Sg_generic_plane_context_a34_0 fuel (F_generic_plane_at_a34 fuel) x0 x1 x2 x3 x4 x5 x6 x7 x8 c B
noncomputable def L_generic_plane_context_a34_0 (fuel : Nat) (v : Int × Int × Int × Int × Int × Int × Int × (List Int) × (List (Int × Int))) (b : (Int × Int × Int × (List Int) × (List (Int × Int)) → Option Ans)) : Option Ans := iter (S_generic_plane_context_a34_0 fuel) fuel v b
noncomputable def J158_a34_0 (fuel : Nat) (i : Nat) : Option Ev.Blk := Ev.look i []
noncomputable def T158_a34_0 (v : Int × Int × Int × Int × Int × Int × Int × (List Int) × (List (Int × Int))) : Ev.St := match v with | (x0, x1, x2, x3, x4, x5, x6, x7, x8) => ⟨[(0, .c (.ptr 0 0)), (1, .c (.int .i64 x0)), (2, .c (.int .i64 x1)), (7, .c (.int .i64 x2)), (13, .c (.own 1)), (14, .c (.int .i64 x3)), (15, .c (.int .i64 x4))], [(0, .cells 137 [.int .i64 x5, .int .i64 x6, .sl (.int .u8) x7, .own 1]), (1, .vec 44 (.pair (.int .i64) (.int .i64)) x8 false)], 2, 2⟩
noncomputable def E158_a34_0 (K : Ev.Ex → Ev.St → Option Ans) : (Int × Int × Int × (List Int) × (List (Int × Int)) → Option Ans) := (fun v => match v with | (x0, x1, x2, x3, x4) => K .normal ⟨[(7, .c (.int .i64 x0))], [(0, .cells 137 [.int .i64 x1, .int .i64 x2, .sl (.int .u8) x3, .own 1]), (1, .vec 44 (.pair (.int .i64) (.int .i64)) x4 false)], 2, 2⟩)
theorem S158_a34_0_okg (fuel : Nat) (f199_a34 : YF199_a34) (R : Ev.St → Option Ans) (K : Ev.Ex → Ev.St → Option Ans) (x0 x1 : Int) (x2 x3 : Int) (x4 x5 x6 : Int) (x7 : (List Int)) (x8 : (List (Int × Int))) : evalCode tab (Gg158_a34 f199_a34) (J158_a34_0 fuel) kp158_a34 fuel (bodyOf 0 Try.f158) (T158_a34_0 (x0, x1, x2, x3, x4, x5, x6, x7, x8)) (lc kp158_a34 3 0 R K) = Sg_generic_plane_context_a34_0 fuel f199_a34 x0 x1 x2 x3 x4 x5 x6 x7 x8 (fun v => R (T158_a34_0 v)) (E158_a34_0 K) := by
  kernel_rfl
theorem S158_a34_0_ok (fuel : Nat) (R : Ev.St → Option Ans) (K : Ev.Ex → Ev.St → Option Ans) (x0 x1 : Int) (x2 x3 : Int) (x4 x5 x6 : Int) (x7 : (List Int)) (x8 : (List (Int × Int))) : evalCode tab (G158_a34 fuel) (J158_a34_0 fuel) kp158_a34 fuel (bodyOf 0 Try.f158) (T158_a34_0 (x0, x1, x2, x3, x4, x5, x6, x7, x8)) (lc kp158_a34 3 0 R K) = S_generic_plane_context_a34_0 fuel (x0, x1, x2, x3, x4, x5, x6, x7, x8) (fun v => R (T158_a34_0 v)) (E158_a34_0 K) :=
  S158_a34_0_okg fuel (F_generic_plane_at_a34 fuel) R K x0 x1 x2 x3 x4 x5 x6 x7 x8
noncomputable def B158_a34_0 (fuel : Nat) : Ev.Blk := fun st K => match canonO (kp158_a34 3) st with
 | some s => (match s with
 | ⟨[(q0, .c (.ptr q1 q2)), (q3, .c (.int .i64 x0)), (q4, .c (.int .i64 x1)), (q5, .c (.int .i64 x2)), (q6, .c (.own q7)), (q8, .c (.int .i64 x3)), (q9, .c (.int .i64 x4))], [(q10, .cells q11 [.int .i64 x5, .int .i64 x6, .sl (.int .u8) x7, .own q12]), (q13, .vec q14 (.pair (.int .i64) (.int .i64)) x8 false)], q15, q16⟩ => bif Nat.beq q0 0 && Nat.beq q1 0 && Nat.beq q2 0 && Nat.beq q3 1 && Nat.beq q4 2 && Nat.beq q5 7 && Nat.beq q6 13 && Nat.beq q7 1 && Nat.beq q8 14 && Nat.beq q9 15 && Nat.beq q10 0 && Nat.beq q11 137 && Nat.beq q12 1 && Nat.beq q13 1 && Nat.beq q14 44 && Nat.beq q15 2 && Nat.beq q16 2 then iter (S_generic_plane_context_a34_0 fuel) fuel (x0, x1, x2, x3, x4, x5, x6, x7, x8) (E158_a34_0 K) else none
 | _ => none)
 | none => none
theorem B158_a34_0_ok (fuel : Nat) (st : Ev.St) (K : Ev.Ex → Ev.St → Option Ans) (r : Ans) (h : B158_a34_0 fuel st K = some r) : evalCode tab (G158_a34 fuel) (J158_a34_0 fuel) kp158_a34 fuel (.block 0 (.loop (bodyOf 0 Try.f158))) st K = some r := by
  unfold B158_a34_0 at h
  split at h
  · rename_i s hs
    split at h
    · skip
      obtain ⟨hb, h⟩ := cond_some' h
      simp only [Bool.and_eq_true, Nat.beq_eq, decide_eq_true_eq] at hb
      obtain ⟨⟨⟨⟨⟨⟨⟨⟨⟨⟨⟨⟨⟨⟨⟨⟨rfl, rfl⟩, rfl⟩, rfl⟩, rfl⟩, rfl⟩, rfl⟩, rfl⟩, rfl⟩, rfl⟩, rfl⟩, rfl⟩, rfl⟩, rfl⟩, rfl⟩, rfl⟩, rfl⟩ := hb
      exact blk_loop (S := T158_a34_0) (ks := E158_a34_0) (step := S_generic_plane_context_a34_0 fuel) (v := (_, _, _, _, _, _, _, _, _)) (by kernel_rfl) (by kernel_rfl) (fun R K v => by obtain ⟨x0, x1, x2, x3, x4, x5, x6, x7, x8⟩ := v; exact S158_a34_0_ok fuel R K x0 x1 x2 x3 x4 x5 x6 x7 x8) hs h
    · cases h
  · cases h
noncomputable def J158_a34 (fuel : Nat) (i : Nat) : Option Ev.Blk := Ev.look i [(100000, B158_a34_0 fuel)]
noncomputable def Fg_generic_plane_context_a34 (fuel : Nat) (f199_a34 : YF199_a34) (x0 x1 : Int) (x2 x3 : Int) (x4 : (List Int)) (x5 : (List (Int × Int))) (k0 : (Int × Int × Int × (List Int) × (List (Int × Int))) → Option Ans) : Option Ans :=
  (L_generic_plane_context_a34_0 fuel (x0, x1, (0 : Int), (↑x5.length : Int), (0 : Int), x2, x3, x4, x5)
  (fun (b0_0, b0_1, b0_2, b0_3, b0_4) =>
  k0 (b0_0, b0_1, b0_2, b0_3, b0_4)))
noncomputable def F_generic_plane_context_a34 (fuel : Nat) (x0 x1 : Int) (x2 x3 : Int) (x4 : (List Int)) (x5 : (List (Int × Int))) (k0 : (Int × Int × Int × (List Int) × (List (Int × Int))) → Option Ans) : Option Ans := Fg_generic_plane_context_a34 fuel (F_generic_plane_at_a34 fuel) x0 x1 x2 x3 x4 x5 k0
abbrev YF158_a34 : Type := (Int) → (Int) → (Int) → (Int) → ((List Int)) → ((List (Int × Int))) → ((Int × Int × Int × (List Int) × (List (Int × Int))) → Option Ans) → Option Ans
theorem F158_a34_eqg (fuel : Nat) (f199_a34 : YF199_a34) (x0 x1 : Int) (x2 x3 : Int) (x4 : (List Int)) (x5 : (List (Int × Int))) (k : Ev.Cont) : evalFn tab (Gg158_a34 f199_a34) (J158_a34 fuel) kp158_a34 fuel Try.f158 [.c (.ptr 0 0), .c (.int .i64 x0), .c (.int .i64 x1)] [.cells 137 [.int .i64 x2, .int .i64 x3, .sl (.int .u8) x4, .own 1], .vec 44 (.pair (.int .i64) (.int .i64)) x5 false] k = Fg_generic_plane_context_a34 fuel f199_a34 x0 x1 x2 x3 x4 x5 (fun r => match r with | (r0, r1, r2, r3, r4) => k (.c (.int .i64 r0), [.cells 137 [.int .i64 r1, .int .i64 r2, .sl (.int .u8) r3, .own 1], .vec 44 (.pair (.int .i64) (.int .i64)) r4 false])) := by
  kernel_rfl
theorem F158_a34_eq (fuel : Nat) (x0 x1 : Int) (x2 x3 : Int) (x4 : (List Int)) (x5 : (List (Int × Int))) (k : Ev.Cont) : evalFn tab (G158_a34 fuel) (J158_a34 fuel) kp158_a34 fuel Try.f158 [.c (.ptr 0 0), .c (.int .i64 x0), .c (.int .i64 x1)] [.cells 137 [.int .i64 x2, .int .i64 x3, .sl (.int .u8) x4, .own 1], .vec 44 (.pair (.int .i64) (.int .i64)) x5 false] k = F_generic_plane_context_a34 fuel x0 x1 x2 x3 x4 x5 (fun r => match r with | (r0, r1, r2, r3, r4) => k (.c (.int .i64 r0), [.cells 137 [.int .i64 r1, .int .i64 r2, .sl (.int .u8) r3, .own 1], .vec 44 (.pair (.int .i64) (.int .i64)) r4 false])) :=
  F158_a34_eqg fuel (F_generic_plane_at_a34 fuel) x0 x1 x2 x3 x4 x5 k
theorem hG158_a34 (fuel : Nat) : GOK Try.prog (G158_a34 fuel) :=
  gok_cons ⟨ok199_a34 fuel, enters_of Try.func199 (by kernel_rfl) rfl⟩ <|
  gok_nil
theorem B158_a34_0_blk (fuel : Nat) : BlkOK Try.prog Try.f158.ntmps (.block 0 (.loop (bodyOf 0 Try.f158))) (B158_a34_0 fuel) :=
  blk_of (blk_of_code tab_ok (hG158_a34 fuel) mixed (J := J158_a34_0 fuel) (kp := kp158_a34) (fuel := fuel) (by kernel_rfl) (fun q hq => by
    rw [(by kernel_rfl : obl (J158_a34_0 fuel) (.block 0 (.loop (bodyOf 0 Try.f158))) = [])] at hq
    cases hq)) (B158_a34_0_ok fuel)
theorem fok158_a34 (fuel : Nat) : FnOK Try.prog 158 (evalFn tab (G158_a34 fuel) (J158_a34 fuel) kp158_a34 fuel Try.f158) :=
  fn_ok tab_ok (hG158_a34 fuel) mixed Try.func158 (c := (Try.f158.body).getD .skip) rfl (fun q hq => by
    rw [(by kernel_rfl : obl (J158_a34 fuel) ((Try.f158.body).getD .skip) = [(.block 0 (.loop (bodyOf 0 Try.f158)), B158_a34_0 fuel)])] at hq
    simp only [List.mem_cons, List.not_mem_nil, or_false] at hq
    subst hq
    · exact B158_a34_0_blk fuel)
noncomputable def mt158_a34 : List Ev.SV → List Ev.Ob → Bool := fun args objs => match args, objs with
 | [.c (.ptr q0 q1), .c (.int .i64 _), .c (.int .i64 _)], [.cells q2 [.int .i64 _, .int .i64 _, .sl (.int .u8) _, .own q3], .vec q4 (.pair (.int .i64) (.int .i64)) _ false] => Nat.beq q0 0 && Nat.beq q1 0 && Nat.beq q2 137 && Nat.beq q3 1 && Nat.beq q4 44
 | _, _ => false
noncomputable def spg158_a34 (F : YF158_a34) : Ev.Spec := fun args objs k => match args, objs with
 | [.c (.ptr q0 q1), .c (.int .i64 x0), .c (.int .i64 x1)], [.cells q2 [.int .i64 x2, .int .i64 x3, .sl (.int .u8) x4, .own q3], .vec q4 (.pair (.int .i64) (.int .i64)) x5 false] => bif Nat.beq q0 0 && Nat.beq q1 0 && Nat.beq q2 137 && Nat.beq q3 1 && Nat.beq q4 44 then F x0 x1 x2 x3 x4 x5 (fun r => match r with | (r0, r1, r2, r3, r4) => k (.c (.int .i64 r0), [.cells 137 [.int .i64 r1, .int .i64 r2, .sl (.int .u8) r3, .own 1], .vec 44 (.pair (.int .i64) (.int .i64)) r4 false])) else none
 | _, _ => none
noncomputable def spec158_a34 (fuel : Nat) : Ev.Spec := spg158_a34 (F_generic_plane_context_a34 fuel)
theorem ok158_a34 (fuel : Nat) : FnOK Try.prog 158 (spec158_a34 fuel) := by
  intro args objs kk r h
  unfold spec158_a34 spg158_a34 at h
  split at h
  · skip
    obtain ⟨hb, h⟩ := cond_some' h
    simp only [Bool.and_eq_true, Nat.beq_eq, decide_eq_true_eq] at hb
    obtain ⟨⟨⟨⟨rfl, rfl⟩, rfl⟩, rfl⟩, rfl⟩ := hb
    exact fok158_a34 fuel _ _ kk r ((F158_a34_eq fuel _ _ _ _ _ _ kk).trans h)
  · cases h
end Go.Proofs.Ytihfgpfofmjbaaa

set_option linter.unusedVariables false
set_option linter.unusedSimpArgs false
set_option maxRecDepth 100000
set_option maxHeartbeats 2000000
namespace Go.Proofs.Ytihfgpfofmjbaaa
open Go Ev
def kp85 (i : Nat) : Option (List Nat) := Ev.look i []
noncomputable def Gg85 (f88 : YF88) (f89 : YF89) (f97 : YF97) (f158_a34 : YF158_a34) (f : Nat) : Option Ev.Spec := Ev.look f [(88, spg88 f88), (89, spg89 f89), (97, spg97 f97), (158, spg158_a34 f158_a34)]
noncomputable def G85 (fuel : Nat) : Nat → Option Ev.Spec := Gg85 (F_generic_Valid fuel) (F_bitmap_Valid fuel) (F_generic_newPlane fuel) (F_generic_plane_context_a34 fuel)
noncomputable def J85 (fuel : Nat) (i : Nat) : Option Ev.Blk := Ev.look i []
noncomputable def Fg_generic_Context (fuel : Nat) (f88 : YF88) (f89 : YF89) (f97 : YF97) (f158_a34 : YF158_a34) (x0 x1 x2 : Int) (x3 : Bool) (x4 x5 x6 : Int) (x7 : (List Int)) (x8 x9 : Int) (k0 : (Int × Int) → Option Ans) : Option Ans :=
  (f88 (x0) (x1) (x2) (x3) (x4)
  (fun y2 =>
  bif !y2 then
  k0 ((0 : Int), (2 : Int))
  else
  (f89 (x5) (x6) (x7)
  (fun y7 =>
  bif !y7 then
  k0 ((0 : Int), (30 : Int))
  else
  bif decide (x8 < (0 : Int)) then
  k0 ((0 : Int), (2 : Int))
  else
  bif decide (x9 < (0 : Int)) then
  k0 ((0 : Int), (2 : Int))
  else
  bif decide (x8 ≥ x5) then
  k0 ((0 : Int), (2 : Int))
  else
  bif decide (x9 ≥ x6) then
  k0 ((0 : Int), (2 : Int))
  else
  (f97 (x0) (x1) (x2) (x3) (x4) (x5) (x6)
  (fun (y16_0, y16_1, y16_2, y16_3) =>
  (f158_a34 (x8) (x9) (y16_0) (y16_1) (x7) (y16_3)
  (fun (y20_0, y20_1, y20_2, y20_3, y20_4) =>
  k0 (y20_0, (0 : Int))))))))))
noncomputable def F_generic_Context (fuel : Nat) (x0 x1 x2 : Int) (x3 : Bool) (x4 x5 x6 : Int) (x7 : (List Int)) (x8 x9 : Int) (k0 : (Int × Int) → Option Ans) : Option Ans := Fg_generic_Context fuel (F_generic_Valid fuel) (F_bitmap_Valid fuel) (F_generic_newPlane fuel) (F_generic_plane_context_a34 fuel) x0 x1 x2 x3 x4 x5 x6 x7 x8 x9 k0
abbrev YF85 : Type := (Int) → (Int) → (Int) → (Bool) → (Int) → (Int) → (Int) → ((List Int)) → (Int) → (Int) → ((Int × Int) → Option Ans) → Option Ans
theorem F85_eqg (fuel : Nat) (f88 : YF88) (f89 : YF89) (f97 : YF97) (f158_a34 : YF158_a34) (x0 x1 x2 : Int) (x3 : Bool) (x4 x5 x6 : Int) (x7 : (List Int)) (x8 x9 : Int) (k : Ev.Cont) : evalFn tab (Gg85 f88 f89 f97 f158_a34) (J85 fuel) kp85 fuel Try.f85 [.agg [.int .i64 x0, .int .i64 x1, .int .i64 x2, .bool x3, .int .i64 x4], .agg [.int .i64 x5, .int .i64 x6, .sl (.int .u8) x7], .c (.int .i64 x8), .c (.int .i64 x9)] [] k = Fg_generic_Context fuel f88 f89 f97 f158_a34 x0 x1 x2 x3 x4 x5 x6 x7 x8 x9 (fun r => match r with | (r0, r1) => k (.tup [(false, [.int .i64 r0]), (false, [.int .i64 r1])], [])) := by
  kernel_rfl
theorem F85_eq (fuel : Nat) (x0 x1 x2 : Int) (x3 : Bool) (x4 x5 x6 : Int) (x7 : (List Int)) (x8 x9 : Int) (k : Ev.Cont) : evalFn tab (G85 fuel) (J85 fuel) kp85 fuel Try.f85 [.agg [.int .i64 x0, .int .i64 x1, .int .i64 x2, .bool x3, .int .i64 x4], .agg [.int .i64 x5, .int .i64 x6, .sl (.int .u8) x7], .c (.int .i64 x8), .c (.int .i64 x9)] [] k = F_generic_Context fuel x0 x1 x2 x3 x4 x5 x6 x7 x8 x9 (fun r => match r with | (r0, r1) => k (.tup [(false, [.int .i64 r0]), (false, [.int .i64 r1])], [])) :=
  F85_eqg fuel (F_generic_Valid fuel) (F_bitmap_Valid fuel) (F_generic_newPlane fuel) (F_generic_plane_context_a34 fuel) x0 x1 x2 x3 x4 x5 x6 x7 x8 x9 k
theorem hG85 (fuel : Nat) : GOK Try.prog (G85 fuel) :=
  gok_cons ⟨ok88 fuel, enters_of Try.func88 (by kernel_rfl) rfl⟩ <|
  gok_cons ⟨ok89 fuel, enters_of Try.func89 (by kernel_rfl) rfl⟩ <|
  gok_cons ⟨ok97 fuel, enters_of Try.func97 (by kernel_rfl) rfl⟩ <|
  gok_cons ⟨ok158_a34 fuel, enters_of Try.func158 (by kernel_rfl) rfl⟩ <|
  gok_nil
theorem fok85 (fuel : Nat) : FnOK Try.prog 85 (evalFn tab (G85 fuel) (J85 fuel) kp85 fuel Try.f85) :=
  fn_ok tab_ok (hG85 fuel) mixed Try.func85 (c := (Try.f85.body).getD .skip) rfl (fun q hq => by
    rw [(by kernel_rfl : obl (J85 fuel) ((Try.f85.body).getD .skip) = [])] at hq
    cases hq)
noncomputable def mt85 : List Ev.SV → List Ev.Ob → Bool := fun args objs => match args, objs with
 | [.agg [.int .i64 _, .int .i64 _, .int .i64 _, .bool _, .int .i64 _], .agg [.int .i64 _, .int .i64 _, .sl (.int .u8) _], .c (.int .i64 _), .c (.int .i64 _)], [] => true
 | _, _ => false
noncomputable def spg85 (F : YF85) : Ev.Spec := fun args objs k => match args, objs with
 | [.agg [.int .i64 x0, .int .i64 x1, .int .i64 x2, .bool x3, .int .i64 x4], .agg [.int .i64 x5, .int .i64 x6, .sl (.int .u8) x7], .c (.int .i64 x8), .c (.int .i64 x9)], [] => bif true then F x0 x1 x2 x3 x4 x5 x6 x7 x8 x9 (fun r => match r with | (r0, r1) => k (.tup [(false, [.int .i64 r0]), (false, [.int .i64 r1])], [])) else none
 | _, _ => none
noncomputable def spec85 (fuel : Nat) : Ev.Spec := spg85 (F_generic_Context fuel)
theorem ok85 (fuel : Nat) : FnOK Try.prog 85 (spec85 fuel) := by
  intro args objs kk r h
  unfold spec85 spg85 at h
  split at h
  · skip
    obtain ⟨hb, h⟩ := cond_some' h
    simp only [Bool.and_eq_true, Nat.beq_eq, decide_eq_true_eq] at hb
    clear hb
    exact fok85 fuel _ _ kk r ((F85_eq fuel _ _ _ _ _ _ _ _ _ _ kk).trans h)
  · cases h
end Go.Proofs.Ytihfgpfofmjbaaa

set_option linter.unusedVariables false
set_option linter.unusedSimpArgs false
set_option maxRecDepth 100000
set_option maxHeartbeats 2000000
namespace Go.Proofs.Ytihfgpfofmjbaaa
open Go Ev
def kp27 (i : Nat) : Option (List Nat) := Ev.look i []
noncomputable def Gg27 (f84 : YF84) (f85 : YF85) (f : Nat) : Option Ev.Spec := Ev.look f [(84, spg84 f84), (85, spg85 f85)]
noncomputable def G27 (fuel : Nat) : Nat → Option Ev.Spec := Gg27 (F_generic_Size fuel) (F_generic_Context fuel)
noncomputable def J27 (fuel : Nat) (i : Nat) : Option Ev.Blk := Ev.look i []
noncomputable def Fg_law07_Sane (fuel : Nat) (f84 : YF84) (f85 : YF85)  (k0 : (Bool) → Option Ans) : Option Ans :=
  (f84 ((3 : Int)) ((2 : Int)) ((-1 : Int)) (false) ((0 : Int))
  (fun (y2_0, y2_1) =>
  (f85 ((3 : Int)) ((-2 : Int)) ((0 : Int)) (false) ((0 : Int)) ((4 : Int)) ((1 : Int)) ([(1 : Int), (0 : Int), (1 : Int), (1 : Int)]) ((2 : Int)) ((0 : Int))
  (fun (y6_0, y6_1) =>
  bif y2_1 == (0 : Int) then
  bif y2_0 == (33 : Int) then
  bif y6_1 == (0 : Int) then
  k0 (y6_0 == (1 : Int))
  else
  k0 false
  else
  k0 false
  else
  k0 false))))
noncomputable def F_law07_Sane (fuel : Nat)  (k0 : (Bool) → Option Ans) : Option Ans := Fg_law07_Sane fuel (F_generic_Size fuel) (F_generic_Context fuel) k0
abbrev YF27 : Type := ((Bool) → Option Ans) → Option Ans
theorem F27_eqg (fuel : Nat) (f84 : YF84) (f85 : YF85)  (k : Ev.Cont) : evalFn tab (Gg27 f84 f85) (J27 fuel) kp27 fuel Try.f27 [] [] k = Fg_law07_Sane fuel f84 f85 (fun r => match r with | r0 => k (.c (.bool r0), [])) := by
  kernel_rfl
theorem F27_eq (fuel : Nat)  (k : Ev.Cont) : evalFn tab (G27 fuel) (J27 fuel) kp27 fuel Try.f27 [] [] k = F_law07_Sane fuel  (fun r => match r with | r0 => k (.c (.bool r0), [])) :=
  F27_eqg fuel (F_generic_Size fuel) (F_generic_Context fuel)  k
theorem hG27 (fuel : Nat) : GOK Try.prog (G27 fuel) :=
  gok_cons ⟨ok84 fuel, enters_of Try.func84 (by kernel_rfl) rfl⟩ <|
  gok_cons ⟨ok85 fuel, enters_of Try.func85 (by kernel_rfl) rfl⟩ <|
  gok_nil
theorem fok27 (fuel : Nat) : FnOK Try.prog 27 (evalFn tab (G27 fuel) (J27 fuel) kp27 fuel Try.f27) :=
  fn_ok tab_ok (hG27 fuel) mixed Try.func27 (c := (Try.f27.body).getD .skip) rfl (fun q hq => by
    rw [(by kernel_rfl : obl (J27 fuel) ((Try.f27.body).getD .skip) = [])] at hq
    cases hq)
noncomputable def mt27 : List Ev.SV → List Ev.Ob → Bool := fun args objs => match args, objs with
 | [], [] => true
 | _, _ => false
noncomputable def spg27 (F : YF27) : Ev.Spec := fun args objs k => match args, objs with
 | [], [] => bif true then F  (fun r => match r with | r0 => k (.c (.bool r0), [])) else none
 | _, _ => none
noncomputable def spec27 (fuel : Nat) : Ev.Spec := spg27 (F_law07_Sane fuel)
theorem ok27 (fuel : Nat) : FnOK Try.prog 27 (spec27 fuel) := by
  intro args objs kk r h
  unfold spec27 spg27 at h
  split at h
  · skip
    obtain ⟨hb, h⟩ := cond_some' h
    simp only [Bool.and_eq_true, Nat.beq_eq, decide_eq_true_eq] at hb
    clear hb
    exact fok27 fuel _ _ kk r ((F27_eq fuel kk).trans h)
  · cases h
end Go.Proofs.Ytihfgpfofmjbaaa

set_option linter.unusedVariables false
set_option linter.unusedSimpArgs false
set_option maxRecDepth 100000
set_option maxHeartbeats 2000000
namespace Go.Proofs.Ytihfgpfofmjbaaa
open Go Ev
def kp164_a20 (i : Nat) : Option (List Nat) := Ev.look i []
noncomputable def Gg164_a20 (f : Nat) : Option Ev.Spec := Ev.look f []
noncomputable def G164_a20 (fuel : Nat) : Nat → Option Ev.Spec := Gg164_a20
noncomputable def J164_a20 (fuel : Nat) (i : Nat) : Option Ev.Blk := Ev.look i []
noncomputable def F_coder_Encoder_none_a20 (fuel : Nat) (x0 x1 x2 : Int) (x3 : Bool) (x4 x5 : (List Int)) (k0 : (Bool × Int × Int × Int × Bool × (List Int) × (List Int)) → Option Ans) : Option Ans :=
  k0 (!x3, x0, x1, x2, x3, x4, x5)
abbrev YF164_a20 : Type := (Int) → (Int) → (Int) → (Bool) → ((List Int)) → ((List Int)) → ((Bool × Int × Int × Int × Bool × (List Int) × (List Int)) → Option Ans) → Option Ans
theorem F164_a20_eq (fuel : Nat) (x0 x1 x2 : Int) (x3 : Bool) (x4 x5 : (List Int)) (k : Ev.Cont) : evalFn tab (G164_a20 fuel) (J164_a20 fuel) kp164_a20 fuel Try.f164 [.c (.ptr 0 0)] [.cells 172 (.int .i64 x0 :: .own 1 :: ctb (.int .u64 x1 :: .int .u64 x2 :: .own 2 :: .bool x3 :: [])), .vec 3 (.int .i64) x4 false, .vec 5 (.int .u8) x5 false] k = F_coder_Encoder_none_a20 fuel x0 x1 x2 x3 x4 x5 (fun r => match r with | (r0, r1, r2, r3, r4, r5, r6) => k (.c (.bool r0), [.cells 172 (.int .i64 r1 :: .own 1 :: ctb (.int .u64 r2 :: .int .u64 r3 :: .own 2 :: .bool r4 :: [])), .vec 3 (.int .i64) r5 false, .vec 5 (.int .u8) r6 false])) := by
  kernel_rfl
theorem hG164_a20 (fuel : Nat) : GOK Try.prog (G164_a20 fuel) :=
  gok_nil
theorem fok164_a20 (fuel : Nat) : FnOK Try.prog 164 (evalFn tab (G164_a20 fuel) (J164_a20 fuel) kp164_a20 fuel Try.f164) :=
  fn_ok tab_ok (hG164_a20 fuel) mixed Try.func164 (c := (Try.f164.body).getD .skip) rfl (fun q hq => by
    rw [(by kernel_rfl : obl (J164_a20 fuel) ((Try.f164.body).getD .skip) = [])] at hq
    cases hq)
noncomputable def mt164_a20 : List Ev.SV → List Ev.Ob → Bool := fun args objs => match args, objs with
 | [.c (.ptr q0 q1)], [.cells q2 cs0, .vec q3 (.int .i64) _ false, .vec q4 (.int .u8) _ false] => (match splitRun 2 ctn cs0 with | some ([.int .i64 _, .own q5], [.int .u64 _, .int .u64 _, .own q6, .bool _]) => Nat.beq q0 0 && Nat.beq q1 0 && Nat.beq q2 172 && Nat.beq q3 3 && Nat.beq q4 5 && Nat.beq q5 1 && Nat.beq q6 2 | _ => false)
 | _, _ => false
noncomputable def spg164_a20 (F : YF164_a20) : Ev.Spec := fun args objs k => match args, objs with
 | [.c (.ptr q0 q1)], [.cells q2 cs0, .vec q3 (.int .i64) x4 false, .vec q4 (.int .u8) x5 false] => (match splitRun 2 ctn cs0 with | some ([.int .i64 x0, .own q5], [.int .u64 x1, .int .u64 x2, .own q6, .bool x3]) => bif Nat.beq q0 0 && Nat.beq q1 0 && Nat.beq q2 172 && Nat.beq q3 3 && Nat.beq q4 5 && Nat.beq q5 1 && Nat.beq q6 2 then F x0 x1 x2 x3 x4 x5 (fun r => match r with | (r0, r1, r2, r3, r4, r5, r6) => k (.c (.bool r0), [.cells 172 (.int .i64 r1 :: .own 1 :: ctb (.int .u64 r2 :: .int .u64 r3 :: .own 2 :: .bool r4 :: [])), .vec 3 (.int .i64) r5 false, .vec 5 (.int .u8) r6 false])) else none | _ => none)
 | _, _ => none
noncomputable def spec164_a20 (fuel : Nat) : Ev.Spec := spg164_a20 (F_coder_Encoder_none_a20 fuel)
theorem ok164_a20 (fuel : Nat) : FnOK Try.prog 164 (spec164_a20 fuel) := by
  intro args objs kk r h
  unfold spec164_a20 spg164_a20 at h
  split at h
  · skip
    split at h
    rotate_left 1
    · cases h
    rename_i hsp
    have esp := splitRun_eq hsp
    subst esp
    obtain ⟨hb, h⟩ := cond_some' h
    simp only [Bool.and_eq_true, Nat.beq_eq, decide_eq_true_eq] at hb
    obtain ⟨⟨⟨⟨⟨⟨rfl, rfl⟩, rfl⟩, rfl⟩, rfl⟩, rfl⟩, rfl⟩ := hb
    exact fok164_a20 fuel _ _ kk r ((F164_a20_eq fuel _ _ _ _ _ _ kk).trans h)
  · cases h
end Go.Proofs.Ytihfgpfofmjbaaa

set_option linter.unusedVariables false
set_option linter.unusedSimpArgs false
set_option maxRecDepth 100000
set_option maxHeartbeats 2000000
namespace Go.Proofs.Ytihfgpfofmjbaaa
open Go Ev
def kp169_a20 (i : Nat) : Option (List Nat) := Ev.look i []
noncomputable def Gg169_a20 (f : Nat) : Option Ev.Spec := Ev.look f []
noncomputable def G169_a20 (fuel : Nat) : Nat → Option Ev.Spec := Gg169_a20
noncomputable def J169_a20 (fuel : Nat) (i : Nat) : Option Ev.Blk := Ev.look i []
noncomputable def F_coder_interval_lose_a20 (fuel : Nat) (x0 x1 x2 : Int) (x3 : Bool) (x4 x5 : (List Int)) (k0 : (Int × Int × Int × Int × Bool × (List Int) × (List Int)) → Option Ans) : Option Ans :=
  k0 (IntKind.u8.wrap (Ev.ishr IntKind.u64 x1 (24 : Int)), x0, Ev.iand IntKind.u64 (Ev.ishl IntKind.u64 x1 (8 : Int)) (4294967295 : Int), Ev.ior IntKind.u64 (Ev.iand IntKind.u64 (Ev.ishl IntKind.u64 x2 (8 : Int)) (4294967295 : Int)) (255 : Int), x3, x4, x5)
abbrev YF169_a20 : Type := (Int) → (Int) → (Int) → (Bool) → ((List Int)) → ((List Int)) → ((Int × Int × Int × Int × Bool × (List Int) × (List Int)) → Option Ans) → Option Ans
theorem F169_a20_eq (fuel : Nat) (x0 x1 x2 : Int) (x3 : Bool) (x4 x5 : (List Int)) (k : Ev.Cont) : evalFn tab (G169_a20 fuel) (J169_a20 fuel) kp169_a20 fuel Try.f169 [.c (.ptr 0 0)] [.cells 172 (.int .i64 x0 :: .own 1 :: ctb (.int .u64 x1 :: .int .u64 x2 :: .own 2 :: .bool x3 :: [])), .vec 3 (.int .i64) x4 false, .vec 5 (.int .u8) x5 false] k = F_coder_interval_lose_a20 fuel x0 x1 x2 x3 x4 x5 (fun r => match r with | (r0, r1, r2, r3, r4, r5, r6) => k (.c (.int .u8 r0), [.cells 172 (.int .i64 r1 :: .own 1 :: ctb (.int .u64 r2 :: .int .u64 r3 :: .own 2 :: .bool r4 :: [])), .vec 3 (.int .i64) r5 false, .vec 5 (.int .u8) r6 false])) := by
  kernel_rfl
theorem hG169_a20 (fuel : Nat) : GOK Try.prog (G169_a20 fuel) :=
  gok_nil
theorem fok169_a20 (fuel : Nat) : FnOK Try.prog 169 (evalFn tab (G169_a20 fuel) (J169_a20 fuel) kp169_a20 fuel Try.f169) :=
  fn_ok tab_ok (hG169_a20 fuel) mixed Try.func169 (c := (Try.f169.body).getD .skip) rfl (fun q hq => by
    rw [(by kernel_rfl : obl (J169_a20 fuel) ((Try.f169.body).getD .skip) = [])] at hq
    cases hq)
noncomputable def mt169_a20 : List Ev.SV → List Ev.Ob → Bool := fun args objs => match args, objs with
 | [.c (.ptr q0 q1)], [.cells q2 cs0, .vec q3 (.int .i64) _ false, .vec q4 (.int .u8) _ false] => (match splitRun 2 ctn cs0 with | some ([.int .i64 _, .own q5], [.int .u64 _, .int .u64 _, .own q6, .bool _]) => Nat.beq q0 0 && Nat.beq q1 0 && Nat.beq q2 172 && Nat.beq q3 3 && Nat.beq q4 5 && Nat.beq q5 1 && Nat.beq q6 2 | _ => false)
 | _, _ => false
noncomputable def spg169_a20 (F : YF169_a20) : Ev.Spec := fun args objs k => match args, objs with
 | [.c (.ptr q0 q1)], [.cells q2 cs0, .vec q3 (.int .i64) x4 false, .vec q4 (.int .u8) x5 false] => (match splitRun 2 ctn cs0 with | some ([.int .i64 x0, .own q5], [.int .u64 x1, .int .u64 x2, .own q6, .bool x3]) => bif Nat.beq q0 0 && Nat.beq q1 0 && Nat.beq q2 172 && Nat.beq q3 3 && Nat.beq q4 5 && Nat.beq q5 1 && Nat.beq q6 2 then F x0 x1 x2 x3 x4 x5 (fun r => match r with | (r0, r1, r2, r3, r4, r5, r6) => k (.c (.int .u8 r0), [.cells 172 (.int .i64 r1 :: .own 1 :: ctb (.int .u64 r2 :: .int .u64 r3 :: .own 2 :: .bool r4 :: [])), .vec 3 (.int .i64) r5 false, .vec 5 (.int .u8) r6 false])) else none | _ => none)
 | _, _ => none
noncomputable def spec169_a20 (fuel : Nat) : Ev.Spec := spg169_a20 (F_coder_interval_lose_a20 fuel)
theorem ok169_a20 (fuel : Nat) : FnOK Try.prog 169 (spec169_a20 fuel) := by
  intro args objs kk r h
  unfold spec169_a20 spg169_a20 at h
  split at h
  · skip
    split at h
    rotate_left 1
    · cases h
    rename_i hsp
    have esp := splitRun_eq hsp
    subst esp
    obtain ⟨hb, h⟩ := cond_some' h
    simp only [Bool.and_eq_true, Nat.beq_eq, decide_eq_true_eq] at hb
    obtain ⟨⟨⟨⟨⟨⟨rfl, rfl⟩, rfl⟩, rfl⟩, rfl⟩, rfl⟩, rfl⟩ := hb
    exact fok169_a20 fuel _ _ kk r ((F169_a20_eq fuel _ _ _ _ _ _ kk).trans h)
  · cases h
end Go.Proofs.Ytihfgpfofmjbaaa

set_option linter.unusedVariables false
set_option linter.unusedSimpArgs false
set_option maxRecDepth 100000
set_option maxHeartbeats 2000000
namespace Go.Proofs.Ytihfgpfofmjbaaa
open Go Ev
def kp166_402 (i : Nat) : Option (List Nat) := Ev.look i [(200001, [0])]
noncomputable def Gg166_402 (f200_bb9 : YF200_bb9) (f : Nat) : Option Ev.Spec := Ev.look f [(200, spg200_bb9 f200_bb9)]
noncomputable def G166_402 (fuel : Nat) : Nat → Option Ev.Spec := Gg166_402 (F_coder_table_chance_bb9 fuel)
noncomputable def J166_402 (fuel : Nat) (i : Nat) : Option Ev.Blk := Ev.look i []
noncomputable def Fg_coder_interval_mid_402 (fuel : Nat) (f200_bb9 : YF200_bb9) (x0 x1 : Int) (x2 x3 : Int) (x4 : Bool) (x5 x6 : (List Int)) (k0 : (Int × Int × Int × Int × Bool × (List Int) × (List Int)) → Option Ans) : Option Ans :=
  bif decide ((0 : Int) ≤ x0 ∧ x0 < (↑x5.length : Int)) then
  (f200_bb9 (x1) (x5.getD x0.toNat (0 : Int))
  (fun y3 =>
  k0 (IntKind.u64.wrap (IntKind.u64.wrap (x2 + IntKind.u64.wrap (IntKind.u64.wrap ((IntKind.u64.wrap (x3 - x2)).tdiv (4096 : Int)) * IntKind.u64.wrap y3)) + IntKind.u64.wrap ((IntKind.u64.wrap ((IntKind.u64.wrap (x3 - x2)).tmod (4096 : Int) * IntKind.u64.wrap y3)).tdiv (4096 : Int))), x1, x2, x3, x4, x5, x6)))
  else none
noncomputable def F_coder_interval_mid_402 (fuel : Nat) (x0 x1 : Int) (x2 x3 : Int) (x4 : Bool) (x5 x6 : (List Int)) (k0 : (Int × Int × Int × Int × Bool × (List Int) × (List Int)) → Option Ans) : Option Ans := Fg_coder_interval_mid_402 fuel (F_coder_table_chance_bb9 fuel) x0 x1 x2 x3 x4 x5 x6 k0
abbrev YF166_402 : Type := (Int) → (Int) → (Int) → (Int) → (Bool) → ((List Int)) → ((List Int)) → ((Int × Int × Int × Int × Bool × (List Int) × (List Int)) → Option Ans) → Option Ans
theorem F166_402_eqg (fuel : Nat) (f200_bb9 : YF200_bb9) (x0 x1 : Int) (x2 x3 : Int) (x4 : Bool) (x5 x6 : (List Int)) (k : Ev.Cont) : evalFn tab (Gg166_402 f200_bb9) (J166_402 fuel) kp166_402 fuel Try.f166 [.c (.ptr 0 0), .c (.int .i64 x0)] [.cells 172 (.int .i64 x1 :: .own 1 :: ctb (.int .u64 x2 :: .int .u64 x3 :: .own 2 :: .bool x4 :: [])), .vec 3 (.int .i64) x5 false, .vec 5 (.int .u8) x6 false] k = Fg_coder_interval_mid_402 fuel f200_bb9 x0 x1 x2 x3 x4 x5 x6 (fun r => match r with | (r0, r1, r2, r3, r4, r5, r6) => k (.c (.int .u64 r0), [.cells 172 (.int .i64 r1 :: .own 1 :: ctb (.int .u64 r2 :: .int .u64 r3 :: .own 2 :: .bool r4 :: [])), .vec 3 (.int .i64) r5 false, .vec 5 (.int .u8) r6 false])) := by
  kernel_rfl
theorem F166_402_eq (fuel : Nat) (x0 x1 : Int) (x2 x3 : Int) (x4 : Bool) (x5 x6 : (List Int)) (k : Ev.Cont) : evalFn tab (G166_402 fuel) (J166_402 fuel) kp166_402 fuel Try.f166 [.c (.ptr 0 0), .c (.int .i64 x0)] [.cells 172 (.int .i64 x1 :: .own 1 :: ctb (.int .u64 x2 :: .int .u64 x3 :: .own 2 :: .bool x4 :: [])), .vec 3 (.int .i64) x5 false, .vec 5 (.int .u8) x6 false] k = F_coder_interval_mid_402 fuel x0 x1 x2 x3 x4 x5 x6 (fun r => match r with | (r0, r1, r2, r3, r4, r5, r6) => k (.c (.int .u64 r0), [.cells 172 (.int .i64 r1 :: .own 1 :: ctb (.int .u64 r2 :: .int .u64 r3 :: .own 2 :: .bool r4 :: [])), .vec 3 (.int .i64) r5 false, .vec 5 (.int .u8) r6 false])) :=
  F166_402_eqg fuel (F_coder_table_chance_bb9 fuel) x0 x1 x2 x3 x4 x5 x6 k
theorem hG166_402 (fuel : Nat) : GOK Try.prog (G166_402 fuel) :=
  gok_cons ⟨ok200_bb9 fuel, enters_of Try.func200 (by kernel_rfl) rfl⟩ <|
  gok_nil
theorem fok166_402 (fuel : Nat) : FnOK Try.prog 166 (evalFn tab (G166_402 fuel) (J166_402 fuel) kp166_402 fuel Try.f166) :=
  fn_ok tab_ok (hG166_402 fuel) mixed Try.func166 (c := (Try.f166.body).getD .skip) rfl (fun q hq => by
    rw [(by kernel_rfl : obl (J166_402 fuel) ((Try.f166.body).getD .skip) = [])] at hq
    cases hq)
noncomputable def mt166_402 : List Ev.SV → List Ev.Ob → Bool := fun args objs => match args, objs with
 | [.c (.ptr q0 q1), .c (.int .i64 _)], [.cells q2 cs0, .vec q3 (.int .i64) _ false, .vec q4 (.int .u8) _ false] => (match splitRun 2 ctn cs0 with | some ([.int .i64 _, .own q5], [.int .u64 _, .int .u64 _, .own q6, .bool _]) => Nat.beq q0 0 && Nat.beq q1 0 && Nat.beq q2 172 && Nat.beq q3 3 && Nat.beq q4 5 && Nat.beq q5 1 && Nat.beq q6 2 | _ => false)
 | _, _ => false
noncomputable def spg166_402 (F : YF166_402) : Ev.Spec := fun args objs k => match args, objs with
 | [.c (.ptr q0 q1), .c (.int .i64 x0)], [.cells q2 cs0, .vec q3 (.int .i64) x5 false, .vec q4 (.int .u8) x6 false] => (match splitRun 2 ctn cs0 with | some ([.int .i64 x1, .own q5], [.int .u64 x2, .int .u64 x3, .own q6, .bool x4]) => bif Nat.beq q0 0 && Nat.beq q1 0 && Nat.beq q2 172 && Nat.beq q3 3 && Nat.beq q4 5 && Nat.beq q5 1 && Nat.beq q6 2 then F x0 x1 x2 x3 x4 x5 x6 (fun r => match r with | (r0, r1, r2, r3, r4, r5, r6) => k (.c (.int .u64 r0), [.cells 172 (.int .i64 r1 :: .own 1 :: ctb (.int .u64 r2 :: .int .u64 r3 :: .own 2 :: .bool r4 :: [])), .vec 3 (.int .i64) r5 false, .vec 5 (.int .u8) r6 false])) else none | _ => none)
 | _, _ => none
noncomputable def spec166_402 (fuel : Nat) : Ev.Spec := spg166_402 (F_coder_interval_mid_402 fuel)
theorem ok166_402 (fuel : Nat) : FnOK Try.prog 166 (spec166_402 fuel) := by
  intro args objs kk r h
  unfold spec166_402 spg166_402 at h
  split at h
  · skip
    split at h
    rotate_left 1
    · cases h
    rename_i hsp
    have esp := splitRun_eq hsp
    subst esp
    obtain ⟨hb, h⟩ := cond_some' h
    simp only [Bool.and_eq_true, Nat.beq_eq, decide_eq_true_eq] at hb
    obtain ⟨⟨⟨⟨⟨⟨rfl, rfl⟩, rfl⟩, rfl⟩, rfl⟩, rfl⟩, rfl⟩ := hb
    exact fok166_402 fuel _ _ kk r ((F166_402_eq fuel _ _ _ _ _ _ _ kk).trans h)
  · cases h
end Go.Proofs.Ytihfgpfofmjbaaa

set_option linter.unusedVariables false
set_option linter.unusedSimpArgs false
set_option maxRecDepth 100000
set_option maxHeartbeats 2000000
namespace Go.Proofs.Ytihfgpfofmjbaaa
open Go Ev
def kp168_a20 (i : Nat) : Option (List Nat) := Ev.look i [(200001, [0])]
noncomputable def Gg168_a20 (f : Nat) : Option Ev.Spec := Ev.look f []
noncomputable def G168_a20 (fuel : Nat) : Nat → Option Ev.Spec := Gg168_a20
noncomputable def J168_a20 (fuel : Nat) (i : Nat) : Option Ev.Blk := Ev.look i []
noncomputable def F_coder_interval_same_a20 (fuel : Nat) (x0 x1 x2 : Int) (x3 : Bool) (x4 x5 : (List Int)) (k0 : (Bool × Int × Int × Int × Bool × (List Int) × (List Int)) → Option Ans) : Option Ans :=
  k0 (Ev.ishr IntKind.u64 x1 (24 : Int) == Ev.ishr IntKind.u64 x2 (24 : Int), x0, x1, x2, x3, x4, x5)
abbrev YF168_a20 : Type := (Int) → (Int) → (Int) → (Bool) → ((List Int)) → ((List Int)) → ((Bool × Int × Int × Int × Bool × (List Int) × (List Int)) → Option Ans) → Option Ans
theorem F168_a20_eq (fuel : Nat) (x0 x1 x2 : Int) (x3 : Bool) (x4 x5 : (List Int)) (k : Ev.Cont) : evalFn tab (G168_a20 fuel) (J168_a20 fuel) kp168_a20 fuel Try.f168 [.c (.ptr 0 0)] [.cells 172 (.int .i64 x0 :: .own 1 :: ctb (.int .u64 x1 :: .int .u64 x2 :: .own 2 :: .bool x3 :: [])), .vec 3 (.int .i64) x4 false, .vec 5 (.int .u8) x5 false] k = F_coder_interval_same_a20 fuel x0 x1 x2 x3 x4 x5 (fun r => match r with | (r0, r1, r2, r3, r4, r5, r6) => k (.c (.bool r0), [.cells 172 (.int .i64 r1 :: .own 1 :: ctb (.int .u64 r2 :: .int .u64 r3 :: .own 2 :: .bool r4 :: [])), .vec 3 (.int .i64) r5 false, .vec 5 (.int .u8) r6 false])) := by
  kernel_rfl
theorem hG168_a20 (fuel : Nat) : GOK Try.prog (G168_a20 fuel) :=
  gok_nil
theorem fok168_a20 (fuel : Nat) : FnOK Try.prog 168 (evalFn tab (G168_a20 fuel) (J168_a20 fuel) kp168_a20 fuel Try.f168) :=
  fn_ok tab_ok (hG168_a20 fuel) mixed Try.func168 (c := (Try.f168.body).getD .skip) rfl (fun q hq => by
    rw [(by kernel_rfl : obl (J168_a20 fuel) ((Try.f168.body).getD .skip) = [])] at hq
    cases hq)
noncomputable def mt168_a20 : List Ev.SV → List Ev.Ob → Bool := fun args objs => match args, objs with
 | [.c (.ptr q0 q1)], [.cells q2 cs0, .vec q3 (.int .i64) _ false, .vec q4 (.int .u8) _ false] => (match splitRun 2 ctn cs0 with | some ([.int .i64 _, .own q5], [.int .u64 _, .int .u64 _, .own q6, .bool _]) => Nat.beq q0 0 && Nat.beq q1 0 && Nat.beq q2 172 && Nat.beq q3 3 && Nat.beq q4 5 && Nat.beq q5 1 && Nat.beq q6 2 | _ => false)
 | _, _ => false
noncomputable def spg168_a20 (F : YF168_a20) : Ev.Spec := fun args objs k => match args, objs with
 | [.c (.ptr q0 q1)], [.cells q2 cs0, .vec q3 (.int .i64) x4 false, .vec q4 (.int .u8) x5 false] => (match splitRun 2 ctn cs0 with | some ([.int .i64 x0, .own q5], [.int .u64 x1, .int .u64 x2, .own q6, .bool x3]) => bif Nat.beq q0 0 && Nat.beq q1 0 && Nat.beq q2 172 && Nat.beq q3 3 && Nat.beq q4 5 && Nat.beq q5 1 && Nat.beq q6 2 then F x0 x1 x2 x3 x4 x5 (fun r => match r with | (r0, r1, r2, r3, r4, r5, r6) => k (.c (.bool r0), [.cells 172 (.int .i64 r1 :: .own 1 :: ctb (.int .u64 r2 :: .int .u64 r3 :: .own 2 :: .bool r4 :: [])), .vec 3 (.int .i64) r5 false, .vec 5 (.int .u8) r6 false])) else none | _ => none)
 | _, _ => none
noncomputable def spec168_a20 (fuel : Nat) : Ev.Spec := spg168_a20 (F_coder_interval_same_a20 fuel)
theorem ok168_a20 (fuel : Nat) : FnOK Try.prog 168 (spec168_a20 fuel) := by
  intro args objs kk r h
  unfold spec168_a20 spg168_a20 at h
  split at h
  · skip
    split at h
    rotate_left 1
    · cases h
    rename_i hsp
    have esp := splitRun_eq hsp
    subst esp
    obtain ⟨hb, h⟩ := cond_some' h
    simp only [Bool.and_eq_true, Nat.beq_eq, decide_eq_true_eq] at hb
    obtain ⟨⟨⟨⟨⟨⟨rfl, rfl⟩, rfl⟩, rfl⟩, rfl⟩, rfl⟩, rfl⟩ := hb
    exact fok168_a20 fuel _ _ kk r ((F168_a20_eq fuel _ _ _ _ _ _ kk).trans h)
  · cases h
end Go.Proofs.Ytihfgpfofmjbaaa

set_option linter.unusedVariables false
set_option linter.unusedSimpArgs false
set_option maxRecDepth 100000
set_option maxHeartbeats 2000000
namespace Go.Proofs.Ytihfgpfofmjbaaa
open Go Ev
def kp167_546 (i : Nat) : Option (List Nat) := Ev.look i [(200003, [0])]
noncomputable def Gg167_546 (f201 : YF201) (f : Nat) : Option Ev.Spec := Ev.look f [(201, spg201 f201)]
noncomputable def G167_546 (fuel : Nat) : Nat → Option Ev.Spec := Gg167_546 (F_coder_next fuel)
noncomputable def J167_546 (fuel : Nat) (i : Nat) : Option Ev.Blk := Ev.look i []
noncomputable def Fg_coder_interval_take_546 (fuel : Nat) (f201 : YF201) (x0 x1 : Int) (x2 x3 : Int) (x4 x5 : Int) (x6 : Bool) (x7 x8 : (List Int)) (k0 : (Int × Int × Int × Bool × (List Int) × (List Int)) → Option Ans) : Option Ans :=
  bif x1 == (1 : Int) then
  bif decide ((0 : Int) ≤ x0 ∧ x0 < (↑x7.length : Int)) then
  (f201 (x3) (x7.getD x0.toNat (0 : Int)) (x1)
  (fun y4 =>
  bif decide ((0 : Int) ≤ x0 ∧ x0 < (↑x7.length : Int)) then
  k0 (x3, x4, x2, x6, x7.set x0.toNat y4, x8)
  else none))
  else none
  else
  bif decide ((0 : Int) ≤ x0 ∧ x0 < (↑x7.length : Int)) then
  (f201 (x3) (x7.getD x0.toNat (0 : Int)) (x1)
  (fun y4 =>
  bif decide ((0 : Int) ≤ x0 ∧ x0 < (↑x7.length : Int)) then
  k0 (x3, IntKind.u64.wrap (x2 + (1 : Int)), x5, x6, x7.set x0.toNat y4, x8)
  else none))
  else none
noncomputable def F_coder_interval_take_546 (fuel : Nat) (x0 x1 : Int) (x2 x3 : Int) (x4 x5 : Int) (x6 : Bool) (x7 x8 : (List Int)) (k0 : (Int × Int × Int × Bool × (List Int) × (List Int)) → Option Ans) : Option Ans := Fg_coder_interval_take_546 fuel (F_coder_next fuel) x0 x1 x2 x3 x4 x5 x6 x7 x8 k0
abbrev YF167_546 : Type := (Int) → (Int) → (Int) → (Int) → (Int) → (Int) → (Bool) → ((List Int)) → ((List Int)) → ((Int × Int × Int × Bool × (List Int) × (List Int)) → Option Ans) → Option Ans
theorem F167_546_eqg (fuel : Nat) (f201 : YF201) (x0 x1 : Int) (x2 x3 : Int) (x4 x5 : Int) (x6 : Bool) (x7 x8 : (List Int)) (k : Ev.Cont) : evalFn tab (Gg167_546 f201) (J167_546 fuel) kp167_546 fuel Try.f167 [.c (.ptr 0 0), .c (.int .i64 x0), .c (.int .i64 x1), .c (.int .u64 x2)] [.cells 172 (.int .i64 x3 :: .own 1 :: ctb (.int .u64 x4 :: .int .u64 x5 :: .own 2 :: .bool x6 :: [])), .vec 3 (.int .i64) x7 false, .vec 5 (.int .u8) x8 false] k = Fg_coder_interval_take_546 fuel f201 x0 x1 x2 x3 x4 x5 x6 x7 x8 (fun r => match r with | (r0, r1, r2, r3, r4, r5) => k (.tup [], [.cells 172 (.int .i64 r0 :: .own 1 :: ctb (.int .u64 r1 :: .int .u64 r2 :: .own 2 :: .bool r3 :: [])), .vec 3 (.int .i64) r4 false, .vec 5 (.int .u8) r5 false])) := by
  kernel_rfl
theorem F167_546_eq (fuel : Nat) (x0 x1 : Int) (x2 x3 : Int) (x4 x5 : Int) (x6 : Bool) (x7 x8 : (List Int)) (k : Ev.Cont) : evalFn tab (G167_546 fuel) (J167_546 fuel) kp167_546 fuel Try.f167 [.c (.ptr 0 0), .c (.int .i64 x0), .c (.int .i64 x1), .c (.int .u64 x2)] [.cells 172 (.int .i64 x3 :: .own 1 :: ctb (.int .u64 x4 :: .int .u64 x5 :: .own 2 :: .bool x6 :: [])), .vec 3 (.int .i64) x7 false, .vec 5 (.int .u8) x8 false] k = F_coder_interval_take_546 fuel x0 x1 x2 x3 x4 x5 x6 x7 x8 (fun r => match r with | (r0, r1, r2, r3, r4, r5) => k (.tup [], [.cells 172 (.int .i64 r0 :: .own 1 :: ctb (.int .u64 r1 :: .int .u64 r2 :: .own 2 :: .bool r3 :: [])), .vec 3 (.int .i64) r4 false, .vec 5 (.int .u8) r5 false])) :=
  F167_546_eqg fuel (F_coder_next fuel) x0 x1 x2 x3 x4 x5 x6 x7 x8 k
theorem hG167_546 (fuel : Nat) : GOK Try.prog (G167_546 fuel) :=
  gok_cons ⟨ok201 fuel, enters_of Try.func201 (by kernel_rfl) rfl⟩ <|
  gok_nil
theorem fok167_546 (fuel : Nat) : FnOK Try.prog 167 (evalFn tab (G167_546 fuel) (J167_546 fuel) kp167_546 fuel Try.f167) :=
  fn_ok tab_ok (hG167_546 fuel) mixed Try.func167 (c := (Try.f167.body).getD .skip) rfl (fun q hq => by
    rw [(by kernel_rfl : obl (J167_546 fuel) ((Try.f167.body).getD .skip) = [])] at hq
    cases hq)
noncomputable def mt167_546 : List Ev.SV → List Ev.Ob → Bool := fun args objs => match args, objs with
 | [.c (.ptr q0 q1), .c (.int .i64 _), .c (.int .i64 _), .c (.int .u64 _)], [.cells q2 cs0, .vec q3 (.int .i64) _ false, .vec q4 (.int .u8) _ false] => (match splitRun 2 ctn cs0 with | some ([.int .i64 _, .own q5], [.int .u64 _, .int .u64 _, .own q6, .bool _]) => Nat.beq q0 0 && Nat.beq q1 0 && Nat.beq q2 172 && Nat.beq q3 3 && Nat.beq q4 5 && Nat.beq q5 1 && Nat.beq q6 2 | _ => false)
 | _, _ => false
noncomputable def spg167_546 (F : YF167_546) : Ev.Spec := fun args objs k => match args, objs with
 | [.c (.ptr q0 q1), .c (.int .i64 x0), .c (.int .i64 x1), .c (.int .u64 x2)], [.cells q2 cs0, .vec q3 (.int .i64) x7 false, .vec q4 (.int .u8) x8 false] => (match splitRun 2 ctn cs0 with | some ([.int .i64 x3, .own q5], [.int .u64 x4, .int .u64 x5, .own q6, .bool x6]) => bif Nat.beq q0 0 && Nat.beq q1 0 && Nat.beq q2 172 && Nat.beq q3 3 && Nat.beq q4 5 && Nat.beq q5 1 && Nat.beq q6 2 then F x0 x1 x2 x3 x4 x5 x6 x7 x8 (fun r => match r with | (r0, r1, r2, r3, r4, r5) => k (.tup [], [.cells 172 (.int .i64 r0 :: .own 1 :: ctb (.int .u64 r1 :: .int .u64 r2 :: .own 2 :: .bool r3 :: [])), .vec 3 (.int .i64) r4 false, .vec 5 (.int .u8) r5 false])) else none | _ => none)
 | _, _ => none
noncomputable def spec167_546 (fuel : Nat) : Ev.Spec := spg167_546 (F_coder_interval_take_546 fuel)
theorem ok167_546 (fuel : Nat) : FnOK Try.prog 167 (spec167_546 fuel) := by
  intro args objs kk r h
  unfold spec167_546 spg167_546 at h
  split at h
  · skip
    split at h
    rotate_left 1
    · cases h
    rename_i hsp
    have esp := splitRun_eq hsp
    subst esp
    obtain ⟨hb, h⟩ := cond_some' h
    simp only [Bool.and_eq_true, Nat.beq_eq, decide_eq_true_eq] at hb
    obtain ⟨⟨⟨⟨⟨⟨rfl, rfl⟩, rfl⟩, rfl⟩, rfl⟩, rfl⟩, rfl⟩ := hb
    exact fok167_546 fuel _ _ kk r ((F167_546_eq fuel _ _ _ _ _ _ _ _ _ kk).trans h)
  · cases h
end Go.Proofs.Ytihfgpfofmjbaaa

set_option linter.unusedVariables false
set_option linter.unusedSimpArgs false
set_option maxRecDepth 100000
set_option maxHeartbeats 2000000
namespace Go.Proofs.Ytihfgpfofmjbaaa
open Go Ev
def kp99_cf0 (i : Nat) : Option (List Nat) := Ev.look i [(6, [0, 1000002]), (100001, []), (400001, [6]), (600000, [])]
noncomputable def Gg99_cf0 (f164_a20 : YF164_a20) (f166_402 : YF166_402) (f167_546 : YF167_546) (f168_a20 : YF168_a20) (f169_a20 : YF169_a20) (f : Nat) : Option Ev.Spec := Ev.look f [(164, spg164_a20 f164_a20), (166, spg166_402 f166_402), (167, spg167_546 f167_546), (168, spg168_a20 f168_a20), (169, spg169_a20 f169_a20)]
noncomputable def G99_cf0 (fuel : Nat) : Nat → Option Ev.Spec := Gg99_cf0 (F_coder_Encoder_none_a20 fuel) (F_coder_interval_mid_402 fuel) (F_coder_interval_take_546 fuel) (F_coder_interval_same_a20 fuel) (F_coder_interval_lose_a20 fuel)
noncomputable def Sg_coder_Encoder_Put_cf0_1 (fuel : Nat) (f164_a20 : YF164_a20) (f166_402 : YF166_402) (f167_546 : YF167_546) (f168_a20 : YF168_a20) (f169_a20 : YF169_a20) (x0 x1 x2 : Int) (x3 : Bool) (x4 x5 : (List Int)) (c : (Int × Int × Int × Bool × (List Int) × (List Int)) → Option Ans) (B : (Int × Int × Int × Bool × (List Int) × (List Int) → Option Ans)) : Option Ans := match B with
 | b =>
  (f168_a20 (x0) (x1) (x2) (x3) (x4) (x5)
  (fun (y2_0, y2_1, y2_2, y2_3, y2_4, y2_5, y2_6) =>
  bif y2_0 then
  both ((f169_a20 (y2_1) (y2_2) (y2_3) (y2_4) (y2_5) (y2_6)
  (fun (y9_0, y9_1, y9_2, y9_3, y9_4, y9_5, y9_6) =>
  bif decide ((y9_6.length + [y9_0].length) * (1 : Nat) ≤ (140737488355328 : Nat) ∧ y9_6.length + [y9_0].length ≤ (140737488355328 : Nat)) then
  c (y9_1, y9_2, y9_3, y9_4, y9_5, y9_6 ++ [y9_0])
  else none)))
  ((f169_a20 (y2_1) (y2_2) (y2_3) (y2_4) (y2_5) (y2_6)
  (fun (y9_0, y9_1, y9_2, y9_3, y9_4, y9_5, y9_6) =>
  both (bif decide ((y9_6.length + [y9_0].length) * (1 : Nat) ≤ (140737488355328 : Nat) ∧ y9_6.length + [y9_0].length ≤ (140737488355328 : Nat)) then
  c (y9_1, y9_2, y9_3, y9_4, y9_5, y9_6 ++ [y9_0])
  else none)
  (bif decide ((y9_6.length + [y9_0].length) * (1 : Nat) ≤ (140737488355328 : Nat) ∧ y9_6.length + [y9_0].length ≤ (140737488355328 : Nat)) then
  c (y9_1, y9_2, y9_3, y9_4, y9_5, y9_6 ++ [y9_0])
  else none))))
  else
  b (y2_1, y2_2, y2_3, y2_4, y2_5, y2_6)))
noncomputable def S_coder_Encoder_Put_cf0_1 (fuel : Nat) (v : Int × Int × Int × Bool × (List Int) × (List Int)) (c : (Int × Int × Int × Bool × (List Int) × (List Int)) → Option Ans) (B : (Int × Int × Int × Bool × (List Int) × (List Int) → Option Ans)) : Option Ans := match v with
 | (x0, x1, x2, x3, x4, x5) => Sg_coder_Encoder_Put_cf0_1 fuel (F_coder_Encoder_none_a20 fuel) (F_coder_interval_mid_402 fuel) (F_coder_interval_take_546 fuel) (F_coder_interval_same_a20 fuel) (F_coder_interval_lose_a20 fuel) x0 x1 x2 x3 x4 x5 c B
noncomputable def L_coder_Encoder_Put_cf0_1 (fuel : Nat) (v : Int × Int × Int × Bool × (List Int) × (List Int)) (b : (Int × Int × Int × Bool × (List Int) × (List Int) → Option Ans)) : Option Ans := iter (S_coder_Encoder_Put_cf0_1 fuel) fuel v b
noncomputable def J99_cf0_1 (fuel : Nat) (i : Nat) : Option Ev.Blk := Ev.look i []
noncomputable def T99_cf0_1 (v : Int × Int × Int × Bool × (List Int) × (List Int)) : Ev.St := match v with | (x0, x1, x2, x3, x4, x5) => ⟨[(0, .c (.ptr 0 0))], [(0, .cells 172 (.int .i64 x0 :: .own 1 :: ctb (.int .u64 x1 :: .int .u64 x2 :: .own 2 :: .bool x3 :: []))), (1, .vec 3 (.int .i64) x4 false), (2, .vec 5 (.int .u8) x5 true)], 3, 3⟩
noncomputable def E99_cf0_1 (K : Ev.Ex → Ev.St → Option Ans) : (Int × Int × Int × Bool × (List Int) × (List Int) → Option Ans) := (fun v => match v with | (x0, x1, x2, x3, x4, x5) => K .normal ⟨[], [(0, .cells 172 (.int .i64 x0 :: .own 1 :: ctb (.int .u64 x1 :: .int .u64 x2 :: .own 2 :: .bool x3 :: []))), (1, .vec 3 (.int .i64) x4 false), (2, .vec 5 (.int .u8) x5 true)], 3, 3⟩)
theorem S99_cf0_1_okg (fuel : Nat) (f164_a20 : YF164_a20) (f166_402 : YF166_402) (f167_546 : YF167_546) (f168_a20 : YF168_a20) (f169_a20 : YF169_a20) (R : Ev.St → Option Ans) (K : Ev.Ex → Ev.St → Option Ans) (x0 x1 x2 : Int) (x3 : Bool) (x4 x5 : (List Int)) : evalCode tab (Gg99_cf0 f164_a20 f166_402 f167_546 f168_a20 f169_a20) (J99_cf0_1 fuel) kp99_cf0 fuel (bodyOf 1 Try.f99) (T99_cf0_1 (x0, x1, x2, x3, x4, x5)) (lc kp99_cf0 6 1 R K) = Sg_coder_Encoder_Put_cf0_1 fuel f164_a20 f166_402 f167_546 f168_a20 f169_a20 x0 x1 x2 x3 x4 x5 (fun v => R (T99_cf0_1 v)) (E99_cf0_1 K) := by
  kernel_rfl
theorem S99_cf0_1_ok (fuel : Nat) (R : Ev.St → Option Ans) (K : Ev.Ex → Ev.St → Option Ans) (x0 x1 x2 : Int) (x3 : Bool) (x4 x5 : (List Int)) : evalCode tab (G99_cf0 fuel) (J99_cf0_1 fuel) kp99_cf0 fuel (bodyOf 1 Try.f99) (T99_cf0_1 (x0, x1, x2, x3, x4, x5)) (lc kp99_cf0 6 1 R K) = S_coder_Encoder_Put_cf0_1 fuel (x0, x1, x2, x3, x4, x5) (fun v => R (T99_cf0_1 v)) (E99_cf0_1 K) :=
  S99_cf0_1_okg fuel (F_coder_Encoder_none_a20 fuel) (F_coder_interval_mid_402 fuel) (F_coder_interval_take_546 fuel) (F_coder_interval_same_a20 fuel) (F_coder_interval_lose_a20 fuel) R K x0 x1 x2 x3 x4 x5
noncomputable def B99_cf0_1 (fuel : Nat) : Ev.Blk := fun st K => match canonO (kp99_cf0 6) st with
 | some s => (match s with
 | ⟨[(q0, .c (.ptr q1 q2))], [(q3, .cells q4 cs0), (q5, .vec q6 (.int .i64) x4 false), (q7, .vec q8 (.int .u8) x5 true)], q9, q10⟩ => (match splitRun 2 ctn cs0 with | some ([.int .i64 x0, .own q11], [.int .u64 x1, .int .u64 x2, .own q12, .bool x3]) => bif Nat.beq q0 0 && Nat.beq q1 0 && Nat.beq q2 0 && Nat.beq q3 0 && Nat.beq q4 172 && Nat.beq q5 1 && Nat.beq q6 3 && Nat.beq q7 2 && Nat.beq q8 5 && Nat.beq q9 3 && Nat.beq q10 3 && Nat.beq q11 1 && Nat.beq q12 2 then iter (S_coder_Encoder_Put_cf0_1 fuel) fuel (x0, x1, x2, x3, x4, x5) (E99_cf0_1 K) else none | _ => none)
 | _ => none)
 | none => none
theorem B99_cf0_1_ok (fuel : Nat) (st : Ev.St) (K : Ev.Ex → Ev.St → Option Ans) (r : Ans) (h : B99_cf0_1 fuel st K = some r) : evalCode tab (G99_cf0 fuel) (J99_cf0_1 fuel) kp99_cf0 fuel (.block 1 (.loop (bodyOf 1 Try.f99))) st K = some r := by
  unfold B99_cf0_1 at h
  split at h
  · rename_i s hs
    split at h
    · skip
      split at h
      rotate_left 1
      · cases h
      rename_i hsp
      have esp := splitRun_eq hsp
      subst esp
      obtain ⟨hb, h⟩ := cond_some' h
      simp only [Bool.and_eq_true, Nat.beq_eq, decide_eq_true_eq] at hb
      obtain ⟨⟨⟨⟨⟨⟨⟨⟨⟨⟨⟨⟨rfl, rfl⟩, rfl⟩, rfl⟩, rfl⟩, rfl⟩, rfl⟩, rfl⟩, rfl⟩, rfl⟩, rfl⟩, rfl⟩, rfl⟩ := hb
      exact blk_loop (S := T99_cf0_1) (ks := E99_cf0_1) (step := S_coder_Encoder_Put_cf0_1 fuel) (v := (_, _, _, _, _, _)) (by kernel_rfl) (by kernel_rfl) (fun R K v => by obtain ⟨x0, x1, x2, x3, x4, x5⟩ := v; exact S99_cf0_1_ok fuel R K x0 x1 x2 x3 x4 x5) hs h
    · cases h
  · cases h
noncomputable def J99_cf0 (fuel : Nat) (i : Nat) : Option Ev.Blk := Ev.look i [(100001, B99_cf0_1 fuel)]
noncomputable def Fg_coder_Encoder_Put_cf0 (fuel : Nat) (f164_a20 : YF164_a20) (f166_402 : YF166_402) (f167_546 : YF167_546) (f168_a20 : YF168_a20) (f169_a20 : YF169_a20) (x0 x1 : Int) (x2 x3 x4 : Int) (x5 : Bool) (x6 x7 : (List Int)) (k0 : (Int × Int × Int × Int × Bool × (List Int) × (List Int)) → Option Ans) (k1 : (Int × Int × Int × Int × Bool × (List Int) × (List Int)) → Option Ans) : Option Ans :=
  (f164_a20 (x2) (x3) (x4) (x5) (x6) (x7)
  (fun (y2_0, y2_1, y2_2, y2_3, y2_4, y2_5, y2_6) =>
  bif y2_0 then
  k0 ((7 : Int), y2_1, y2_2, y2_3, y2_4, y2_5, y2_6)
  else
  bif decide (x0 < (0 : Int)) then
  k0 ((2 : Int), y2_1, y2_2, y2_3, y2_4, y2_5, y2_6)
  else
  bif decide (x0 ≥ (↑y2_5.length : Int)) then
  k0 ((2 : Int), y2_1, y2_2, y2_3, y2_4, y2_5, y2_6)
  else
  bif x1 != (0 : Int) then
  bif x1 != (1 : Int) then
  k0 ((2 : Int), y2_1, y2_2, y2_3, y2_4, y2_5, y2_6)
  else
  (f166_402 (x0) (y2_1) (y2_2) (y2_3) (y2_4) (y2_5) (y2_6)
  (fun (y11_0, y11_1, y11_2, y11_3, y11_4, y11_5, y11_6) =>
  (f167_546 (x0) (x1) (y11_0) (y11_1) (y11_2) (y11_3) (y11_4) (y11_5) (y11_6)
  (fun (y15_0, y15_1, y15_2, y15_3, y15_4, y15_5) =>
  (L_coder_Encoder_Put_cf0_1 fuel (y15_0, y15_1, y15_2, y15_3, y15_4, y15_5)
  (fun (b1_0, b1_1, b1_2, b1_3, b1_4, b1_5) =>
  k1 ((0 : Int), b1_0, b1_1, b1_2, b1_3, b1_4, b1_5)))))))
  else
  (f166_402 (x0) (y2_1) (y2_2) (y2_3) (y2_4) (y2_5) (y2_6)
  (fun (y10_0, y10_1, y10_2, y10_3, y10_4, y10_5, y10_6) =>
  (f167_546 (x0) (x1) (y10_0) (y10_1) (y10_2) (y10_3) (y10_4) (y10_5) (y10_6)
  (fun (y14_0, y14_1, y14_2, y14_3, y14_4, y14_5) =>
  (L_coder_Encoder_Put_cf0_1 fuel (y14_0, y14_1, y14_2, y14_3, y14_4, y14_5)
  (fun (b1_0, b1_1, b1_2, b1_3, b1_4, b1_5) =>
  k1 ((0 : Int), b1_0, b1_1, b1_2, b1_3, b1_4, b1_5)))))))))
noncomputable def F_coder_Encoder_Put_cf0 (fuel : Nat) (x0 x1 : Int) (x2 x3 x4 : Int) (x5 : Bool) (x6 x7 : (List Int)) (k0 : (Int × Int × Int × Int × Bool × (List Int) × (List Int)) → Option Ans) (k1 : (Int × Int × Int × Int × Bool × (List Int) × (List Int)) → Option Ans) : Option Ans := Fg_coder_Encoder_Put_cf0 fuel (F_coder_Encoder_none_a20 fuel) (F_coder_interval_mid_402 fuel) (F_coder_interval_take_546 fuel) (F_coder_interval_same_a20 fuel) (F_coder_interval_lose_a20 fuel) x0 x1 x2 x3 x4 x5 x6 x7 k0 k1
abbrev YF99_cf0 : Type := (Int) → (Int) → (Int) → (Int) → (Int) → (Bool) → ((List Int)) → ((List Int)) → ((Int × Int × Int × Int × Bool × (List Int) × (List Int)) → Option Ans) → ((Int × Int × Int × Int × Bool × (List Int) × (List Int)) → Option Ans) → Option Ans
theorem F99_cf0_eqg (fuel : Nat) (f164_a20 : YF164_a20) (f166_402 : YF166_402) (f167_546 : YF167_546) (f168_a20 : YF168_a20) (f169_a20 : YF169_a20) (x0 x1 : Int) (x2 x3 x4 : Int) (x5 : Bool) (x6 x7 : (List Int)) (k : Ev.Cont) : evalFn tab (Gg99_cf0 f164_a20 f166_402 f167_546 f168_a20 f169_a20) (J99_cf0 fuel) kp99_cf0 fuel Try.f99 [.c (.ptr 0 0), .c (.int .i64 x0), .c (.int .i64 x1)] [.cells 172 (.int .i64 x2 :: .own 1 :: ctb (.int .u64 x3 :: .int .u64 x4 :: .own 2 :: .bool x5 :: [])), .vec 3 (.int .i64) x6 false, .vec 5 (.int .u8) x7 false] k = Fg_coder_Encoder_Put_cf0 fuel f164_a20 f166_402 f167_546 f168_a20 f169_a20 x0 x1 x2 x3 x4 x5 x6 x7 (fun r => match r with | (r0, r1, r2, r3, r4, r5, r6) => k (.c (.int .i64 r0), [.cells 172 (.int .i64 r1 :: .own 1 :: ctb (.int .u64 r2 :: .int .u64 r3 :: .own 2 :: .bool r4 :: [])), .vec 3 (.int .i64) r5 false, .vec 5 (.int .u8) r6 false])) (fun r => match r with | (r0, r1, r2, r3, r4, r5, r6) => k (.c (.int .i64 r0), [.cells 172 (.int .i64 r1 :: .own 1 :: ctb (.int .u64 r2 :: .int .u64 r3 :: .own 2 :: .bool r4 :: [])), .vec 3 (.int .i64) r5 false, .vec 5 (.int .u8) r6 true])) := by
  kernel_rfl
theorem F99_cf0_eq (fuel : Nat) (x0 x1 : Int) (x2 x3 x4 : Int) (x5 : Bool) (x6 x7 : (List Int)) (k : Ev.Cont) : evalFn tab (G99_cf0 fuel) (J99_cf0 fuel) kp99_cf0 fuel Try.f99 [.c (.ptr 0 0), .c (.int .i64 x0), .c (.int .i64 x1)] [.cells 172 (.int .i64 x2 :: .own 1 :: ctb (.int .u64 x3 :: .int .u64 x4 :: .own 2 :: .bool x5 :: [])), .vec 3 (.int .i64) x6 false, .vec 5 (.int .u8) x7 false] k = F_coder_Encoder_Put_cf0 fuel x0 x1 x2 x3 x4 x5 x6 x7 (fun r => match r with | (r0, r1, r2, r3, r4, r5, r6) => k (.c (.int .i64 r0), [.cells 172 (.int .i64 r1 :: .own 1 :: ctb (.int .u64 r2 :: .int .u64 r3 :: .own 2 :: .bool r4 :: [])), .vec 3 (.int .i64) r5 false, .vec 5 (.int .u8) r6 false])) (fun r => match r with | (r0, r1, r2, r3, r4, r5, r6) => k (.c (.int .i64 r0), [.cells 172 (.int .i64 r1 :: .own 1 :: ctb (.int .u64 r2 :: .int .u64 r3 :: .own 2 :: .bool r4 :: [])), .vec 3 (.int .i64) r5 false, .vec 5 (.int .u8) r6 true])) :=
  F99_cf0_eqg fuel (F_coder_Encoder_none_a20 fuel) (F_coder_interval_mid_402 fuel) (F_coder_interval_take_546 fuel) (F_coder_interval_same_a20 fuel) (F_coder_interval_lose_a20 fuel) x0 x1 x2 x3 x4 x5 x6 x7 k
theorem hG99_cf0 (fuel : Nat) : GOK Try.prog (G99_cf0 fuel) :=
  gok_cons ⟨ok164_a20 fuel, enters_of Try.func164 (by kernel_rfl) rfl⟩ <|
  gok_cons ⟨ok166_402 fuel, enters_of Try.func166 (by kernel_rfl) rfl⟩ <|
  gok_cons ⟨ok167_546 fuel, enters_of Try.func167 (by kernel_rfl) rfl⟩ <|
  gok_cons ⟨ok168_a20 fuel, enters_of Try.func168 (by kernel_rfl) rfl⟩ <|
  gok_cons ⟨ok169_a20 fuel, enters_of Try.func169 (by kernel_rfl) rfl⟩ <|
  gok_nil
theorem B99_cf0_1_blk (fuel : Nat) : BlkOK Try.prog Try.f99.ntmps (.block 1 (.loop (bodyOf 1 Try.f99))) (B99_cf0_1 fuel) :=
  blk_of (blk_of_code tab_ok (hG99_cf0 fuel) mixed (J := J99_cf0_1 fuel) (kp := kp99_cf0) (fuel := fuel) (by kernel_rfl) (fun q hq => by
    rw [(by kernel_rfl : obl (J99_cf0_1 fuel) (.block 1 (.loop (bodyOf 1 Try.f99))) = [])] at hq
    cases hq)) (B99_cf0_1_ok fuel)
theorem fok99_cf0 (fuel : Nat) : FnOK Try.prog 99 (evalFn tab (G99_cf0 fuel) (J99_cf0 fuel) kp99_cf0 fuel Try.f99) :=
  fn_ok tab_ok (hG99_cf0 fuel) mixed Try.func99 (c := (Try.f99.body).getD .skip) rfl (fun q hq => by
    rw [(by kernel_rfl : obl (J99_cf0 fuel) ((Try.f99.body).getD .skip) = [(.block 1 (.loop (bodyOf 1 Try.f99)), B99_cf0_1 fuel)])] at hq
    simp only [List.mem_cons, List.not_mem_nil, or_false] at hq
    subst hq
    · exact B99_cf0_1_blk fuel)
noncomputable def mt99_cf0 : List Ev.SV → List Ev.Ob → Bool := fun args objs => match args, objs with
 | [.c (.ptr q0 q1), .c (.int .i64 _), .c (.int .i64 _)], [.cells q2 cs0, .vec q3 (.int .i64) _ false, .vec q4 (.int .u8) _ false] => (match splitRun 2 ctn cs0 with | some ([.int .i64 _, .own q5], [.int .u64 _, .int .u64 _, .own q6, .bool _]) => Nat.beq q0 0 && Nat.beq q1 0 && Nat.beq q2 172 && Nat.beq q3 3 && Nat.beq q4 5 && Nat.beq q5 1 && Nat.beq q6 2 | _ => false)
 | _, _ => false
noncomputable def spg99_cf0 (F : YF99_cf0) : Ev.Spec := fun args objs k => match args, objs with
 | [.c (.ptr q0 q1), .c (.int .i64 x0), .c (.int .i64 x1)], [.cells q2 cs0, .vec q3 (.int .i64) x6 false, .vec q4 (.int .u8) x7 false] => (match splitRun 2 ctn cs0 with | some ([.int .i64 x2, .own q5], [.int .u64 x3, .int .u64 x4, .own q6, .bool x5]) => bif Nat.beq q0 0 && Nat.beq q1 0 && Nat.beq q2 172 && Nat.beq q3 3 && Nat.beq q4 5 && Nat.beq q5 1 && Nat.beq q6 2 then F x0 x1 x2 x3 x4 x5 x6 x7 (fun r => match r with | (r0, r1, r2, r3, r4, r5, r6) => k (.c (.int .i64 r0), [.cells 172 (.int .i64 r1 :: .own 1 :: ctb (.int .u64 r2 :: .int .u64 r3 :: .own 2 :: .bool r4 :: [])), .vec 3 (.int .i64) r5 false, .vec 5 (.int .u8) r6 false])) (fun r => match r with | (r0, r1, r2, r3, r4, r5, r6) => k (.c (.int .i64 r0), [.cells 172 (.int .i64 r1 :: .own 1 :: ctb (.int .u64 r2 :: .int .u64 r3 :: .own 2 :: .bool r4 :: [])), .vec 3 (.int .i64) r5 false, .vec 5 (.int .u8) r6 true])) else none | _ => none)
 | _, _ => none
noncomputable def spec99_cf0 (fuel : Nat) : Ev.Spec := spg99_cf0 (F_coder_Encoder_Put_cf0 fuel)
theorem ok99_cf0 (fuel : Nat) : FnOK Try.prog 99 (spec99_cf0 fuel) := by
  intro args objs kk r h
  unfold spec99_cf0 spg99_cf0 at h
  split at h
  · skip
    split at h
    rotate_left 1
    · cases h
    rename_i hsp
    have esp := splitRun_eq hsp
    subst esp
    obtain ⟨hb, h⟩ := cond_some' h
    simp only [Bool.and_eq_true, Nat.beq_eq, decide_eq_true_eq] at hb
    obtain ⟨⟨⟨⟨⟨⟨rfl, rfl⟩, rfl⟩, rfl⟩, rfl⟩, rfl⟩, rfl⟩ := hb
    exact fok99_cf0 fuel _ _ kk r ((F99_cf0_eq fuel _ _ _ _ _ _ _ _ kk).trans h)
  · cases h
end Go.Proofs.Ytihfgpfofmjbaaa

set_option linter.unusedVariables false
set_option linter.unusedSimpArgs false
set_option maxRecDepth 100000
set_option maxHeartbeats 2000000
namespace Go.Proofs.Ytihfgpfofmjbaaa
open Go Ev
def kp46 (i : Nat) : Option (List Nat) := Ev.look i [(600000, [])]
noncomputable def Gg46 (f113 : YF113) (f114 : YF114) (f : Nat) : Option Ev.Spec := Ev.look f [(113, spg113 f113), (114, spg114 f114)]
noncomputable def G46 (fuel : Nat) : Nat → Option Ev.Spec := Gg46 (F_coder_Valid fuel) (F_coder_begin fuel)
noncomputable def J46 (fuel : Nat) (i : Nat) : Option Ev.Blk := Ev.look i []
noncomputable def Fg_coder_NewEncoder (fuel : Nat) (f113 : YF113) (f114 : YF114) (x0 : Int) (x1 : (List Int)) (k0 : (Int) → Option Ans) (k1 : (Int × Int × Int × Int × Bool × (List Int) × (List Int)) → Option Ans) : Option Ans :=
  (f113 (x0) (x1)
  (fun y2 =>
  bif !y2 then
  k0 ((10 : Int))
  else
  (f114 (x0) (x1)
  (fun (y7_0, y7_1, y7_2, y7_3) =>
  k1 ((0 : Int), y7_0, y7_1, y7_2, true, y7_3, [])))))
noncomputable def F_coder_NewEncoder (fuel : Nat) (x0 : Int) (x1 : (List Int)) (k0 : (Int) → Option Ans) (k1 : (Int × Int × Int × Int × Bool × (List Int) × (List Int)) → Option Ans) : Option Ans := Fg_coder_NewEncoder fuel (F_coder_Valid fuel) (F_coder_begin fuel) x0 x1 k0 k1
abbrev YF46 : Type := (Int) → ((List Int)) → ((Int) → Option Ans) → ((Int × Int × Int × Int × Bool × (List Int) × (List Int)) → Option Ans) → Option Ans
theorem F46_eqg (fuel : Nat) (f113 : YF113) (f114 : YF114) (x0 : Int) (x1 : (List Int)) (k : Ev.Cont) : evalFn tab (Gg46 f113 f114) (J46 fuel) kp46 fuel Try.f46 [.agg [.int .i64 x0, .sl (.int .i64) x1]] [] k = Fg_coder_NewEncoder fuel f113 f114 x0 x1 (fun r => match r with | r0 => k (.tup [(false, [.nilptr]), (false, [.int .i64 r0])], [])) (fun r => match r with | (r0, r1, r2, r3, r4, r5, r6) => k (.tup [(false, [.ptr 0 0]), (false, [.int .i64 r0])], [.cells 172 (.int .i64 r1 :: .own 1 :: ctb (.int .u64 r2 :: .int .u64 r3 :: .own 2 :: .bool r4 :: [])), .vec 3 (.int .i64) r5 true, .vec 5 (.int .u8) r6 true])) := by
  kernel_rfl
theorem F46_eq (fuel : Nat) (x0 : Int) (x1 : (List Int)) (k : Ev.Cont) : evalFn tab (G46 fuel) (J46 fuel) kp46 fuel Try.f46 [.agg [.int .i64 x0, .sl (.int .i64) x1]] [] k = F_coder_NewEncoder fuel x0 x1 (fun r => match r with | r0 => k (.tup [(false, [.nilptr]), (false, [.int .i64 r0])], [])) (fun r => match r with | (r0, r1, r2, r3, r4, r5, r6) => k (.tup [(false, [.ptr 0 0]), (false, [.int .i64 r0])], [.cells 172 (.int .i64 r1 :: .own 1 :: ctb (.int .u64 r2 :: .int .u64 r3 :: .own 2 :: .bool r4 :: [])), .vec 3 (.int .i64) r5 true, .vec 5 (.int .u8) r6 true])) :=
  F46_eqg fuel (F_coder_Valid fuel) (F_coder_begin fuel) x0 x1 k
theorem hG46 (fuel : Nat) : GOK Try.prog (G46 fuel) :=
  gok_cons ⟨ok113 fuel, enters_of Try.func113 (by kernel_rfl) rfl⟩ <|
  gok_cons ⟨ok114 fuel, enters_of Try.func114 (by kernel_rfl) rfl⟩ <|
  gok_nil
theorem fok46 (fuel : Nat) : FnOK Try.prog 46 (evalFn tab (G46 fuel) (J46 fuel) kp46 fuel Try.f46) :=
  fn_ok tab_ok (hG46 fuel) mixed Try.func46 (c := (Try.f46.body).getD .skip) rfl (fun q hq => by
    rw [(by kernel_rfl : obl (J46 fuel) ((Try.f46.body).getD .skip) = [])] at hq
    cases hq)
noncomputable def mt46 : List Ev.SV → List Ev.Ob → Bool := fun args objs => match args, objs with
 | [.agg [.int .i64 _, .sl (.int .i64) _]], [] => true
 | _, _ => false
noncomputable def spg46 (F : YF46) : Ev.Spec := fun args objs k => match args, objs with
 | [.agg [.int .i64 x0, .sl (.int .i64) x1]], [] => bif true then F x0 x1 (fun r => match r with | r0 => k (.tup [(false, [.nilptr]), (false, [.int .i64 r0])], [])) (fun r => match r with | (r0, r1, r2, r3, r4, r5, r6) => k (.tup [(false, [.ptr 0 0]), (false, [.int .i64 r0])], [.cells 172 (.int .i64 r1 :: .own 1 :: ctb (.int .u64 r2 :: .int .u64 r3 :: .own 2 :: .bool r4 :: [])), .vec 3 (.int .i64) r5 true, .vec 5 (.int .u8) r6 true])) else none
 | _, _ => none
noncomputable def spec46 (fuel : Nat) : Ev.Spec := spg46 (F_coder_NewEncoder fuel)
theorem ok46 (fuel : Nat) : FnOK Try.prog 46 (spec46 fuel) := by
  intro args objs kk r h
  unfold spec46 spg46 at h
  split at h
  · skip
    obtain ⟨hb, h⟩ := cond_some' h
    simp only [Bool.and_eq_true, Nat.beq_eq, decide_eq_true_eq] at hb
    clear hb
    exact fok46 fuel _ _ kk r ((F46_eq fuel _ _ kk).trans h)
  · cases h
end Go.Proofs.Ytihfgpfofmjbaaa

set_option linter.unusedVariables false
set_option linter.unusedSimpArgs false
set_option maxRecDepth 100000
set_option maxHeartbeats 2000000
namespace Go.Proofs.Ytihfgpfofmjbaaa
open Go Ev
def kp92_a20 (i : Nat) : Option (List Nat) := Ev.look i [(5, [0, 3, 15]), (10, [0, 3, 37, 38]), (100000, [3]), (100002, [3]), (200008, [0]), (400000, [2]), (400002, [2])]
noncomputable def Gg92_a20 (f164_a20 : YF164_a20) (f : Nat) : Option Ev.Spec := Ev.look f [(164, spg164_a20 f164_a20)]
noncomputable def G92_a20 (fuel : Nat) : Nat → Option Ev.Spec := Gg92_a20 (F_coder_Encoder_none_a20 fuel)
noncomputable def Sg_coder_Encoder_End_a20_2 (fuel : Nat) (f164_a20 : YF164_a20) (x0 x1 : Int) (x2 x3 x4 : Int) (x5 : Bool) (x6 x7 x8 : (List Int)) (c : (Int × Int × Int × Int × Int × Bool × (List Int) × (List Int) × (List Int)) → Option Ans) (B : (Int × Int × Int × Bool × (List Int) × (List Int) × (List Int) → Option Ans)) : Option Ans := match B with
 | b =>
  bif decide (x1 < x0) then
  bif decide (IntKind.i64.wrap ((24 : Int) - IntKind.i64.wrap ((8 : Int) * x1)) < (0 : Int)) then
  none
  else
  bif decide ((x8.length + [IntKind.u8.wrap (Ev.ishr IntKind.u64 x4 (IntKind.i64.wrap ((24 : Int) - IntKind.i64.wrap ((8 : Int) * x1))))].length) * (1 : Nat) ≤ (140737488355328 : Nat) ∧ x8.length + [IntKind.u8.wrap (Ev.ishr IntKind.u64 x4 (IntKind.i64.wrap ((24 : Int) - IntKind.i64.wrap ((8 : Int) * x1))))].length ≤ (140737488355328 : Nat)) then
  c (x0, IntKind.i64.wrap (x1 + (1 : Int)), x2, x3, x4, x5, x6, x7, x8 ++ [IntKind.u8.wrap (Ev.ishr IntKind.u64 x4 (IntKind.i64.wrap ((24 : Int) - IntKind.i64.wrap ((8 : Int) * x1))))])
  else none
  else
  b (x2, x3, x4, x5, x6, x7, x8)
noncomputable def S_coder_Encoder_End_a20_2 (fuel : Nat) (v : Int × Int × Int × Int × Int × Bool × (List Int) × (List Int) × (List Int)) (c : (Int × Int × Int × Int × Int × Bool × (List Int) × (List Int) × (List Int)) → Option Ans) (B : (Int × Int × Int × Bool × (List Int) × (List Int) × (List Int) → Option Ans)) : Option Ans := match v with
 | (x0, x1, x2, x3, x4, x5, x6, x7, x8) => Sg_coder_Encoder_End_a20_2 fuel (F_coder_Encoder_none_a20 fuel) x0 x1 x2 x3 x4 x5 x6 x7 x8 c B
noncomputable def L_coder_Encoder_End_a20_2 (fuel : Nat) (v : Int × Int × Int × Int × Int × Bool × (List Int) × (List Int) × (List Int)) (b : (Int × Int × Int × Bool × (List Int) × (List Int) × (List Int) → Option Ans)) : Option Ans := iter (S_coder_Encoder_End_a20_2 fuel) fuel v b
noncomputable def J92_a20_2 (fuel : Nat) (i : Nat) : Option Ev.Blk := Ev.look i []
noncomputable def T92_a20_2 (v : Int × Int × Int × Int × Int × Bool × (List Int) × (List Int) × (List Int)) : Ev.St := match v with | (x0, x1, x2, x3, x4, x5, x6, x7, x8) => ⟨[(0, .c (.ptr 0 0)), (3, .c (.own 3)), (37, .c (.int .i64 x0)), (38, .c (.int .i64 x1))], [(0, .cells 172 (.int .i64 x2 :: .own 1 :: ctb (.int .u64 x3 :: .int .u64 x4 :: .own 2 :: .bool x5 :: []))), (1, .vec 3 (.int .i64) x6 false), (2, .vec 5 (.int .u8) x7 false), (3, .vec 5 (.int .u8) x8 true)], 4, 3⟩
noncomputable def E92_a20_2 (K : Ev.Ex → Ev.St → Option Ans) : (Int × Int × Int × Bool × (List Int) × (List Int) × (List Int) → Option Ans) := (fun v => match v with | (x0, x1, x2, x3, x4, x5, x6) => K .normal ⟨[(3, .c (.own 3))], [(0, .cells 172 (.int .i64 x0 :: .own 1 :: ctb (.int .u64 x1 :: .int .u64 x2 :: .own 2 :: .bool x3 :: []))), (1, .vec 3 (.int .i64) x4 false), (2, .vec 5 (.int .u8) x5 false), (3, .vec 5 (.int .u8) x6 true)], 4, 3⟩)
theorem S92_a20_2_okg (fuel : Nat) (f164_a20 : YF164_a20) (R : Ev.St → Option Ans) (K : Ev.Ex → Ev.St → Option Ans) (x0 x1 : Int) (x2 x3 x4 : Int) (x5 : Bool) (x6 x7 x8 : (List Int)) : evalCode tab (Gg92_a20 f164_a20) (J92_a20_2 fuel) kp92_a20 fuel (bodyOf 2 Try.f92) (T92_a20_2 (x0, x1, x2, x3, x4, x5, x6, x7, x8)) (lc kp92_a20 10 2 R K) = Sg_coder_Encoder_End_a20_2 fuel f164_a20 x0 x1 x2 x3 x4 x5 x6 x7 x8 (fun v => R (T92_a20_2 v)) (E92_a20_2 K) := by
  kernel_rfl
theorem S92_a20_2_ok (fuel : Nat) (R : Ev.St → Option Ans) (K : Ev.Ex → Ev.St → Option Ans) (x0 x1 : Int) (x2 x3 x4 : Int) (x5 : Bool) (x6 x7 x8 : (List Int)) : evalCode tab (G92_a20 fuel) (J92_a20_2 fuel) kp92_a20 fuel (bodyOf 2 Try.f92) (T92_a20_2 (x0, x1, x2, x3, x4, x5, x6, x7, x8)) (lc kp92_a20 10 2 R K) = S_coder_Encoder_End_a20_2 fuel (x0, x1, x2, x3, x4, x5, x6, x7, x8) (fun v => R (T92_a20_2 v)) (E92_a20_2 K) :=
  S92_a20_2_okg fuel (F_coder_Encoder_none_a20 fuel) R K x0 x1 x2 x3 x4 x5 x6 x7 x8
noncomputable def B92_a20_2 (fuel : Nat) : Ev.Blk := fun st K => match canonO (kp92_a20 10) st with
 | some s => (match s with
 | ⟨[(q0, .c (.ptr q1 q2)), (q3, .c (.own q4)), (q5, .c (.int .i64 x0)), (q6, .c (.int .i64 x1))], [(q7, .cells q8 cs0), (q9, .vec q10 (.int .i64) x6 false), (q11, .vec q12 (.int .u8) x7 false), (q13, .vec q14 (.int .u8) x8 true)], q15, q16⟩ => (match splitRun 2 ctn cs0 with | some ([.int .i64 x2, .own q17], [.int .u64 x3, .int .u64 x4, .own q18, .bool x5]) => bif Nat.beq q0 0 && Nat.beq q1 0 && Nat.beq q2 0 && Nat.beq q3 3 && Nat.beq q4 3 && Nat.beq q5 37 && Nat.beq q6 38 && Nat.beq q7 0 && Nat.beq q8 172 && Nat.beq q9 1 && Nat.beq q10 3 && Nat.beq q11 2 && Nat.beq q12 5 && Nat.beq q13 3 && Nat.beq q14 5 && Nat.beq q15 4 && Nat.beq q16 3 && Nat.beq q17 1 && Nat.beq q18 2 then iter (S_coder_Encoder_End_a20_2 fuel) fuel (x0, x1, x2, x3, x4, x5, x6, x7, x8) (E92_a20_2 K) else none | _ => none)
 | _ => none)
 | none => none
theorem B92_a20_2_ok (fuel : Nat) (st : Ev.St) (K : Ev.Ex → Ev.St → Option Ans) (r : Ans) (h : B92_a20_2 fuel st K = some r) : evalCode tab (G92_a20 fuel) (J92_a20_2 fuel) kp92_a20 fuel (.block 2 (.loop (bodyOf 2 Try.f92))) st K = some r := by
  unfold B92_a20_2 at h
  split at h
  · rename_i s hs
    split at h
    · skip
      split at h
      rotate_left 1
      · cases h
      rename_i hsp
      have esp := splitRun_eq hsp
      subst esp
      obtain ⟨hb, h⟩ := cond_some' h
      simp only [Bool.and_eq_true, Nat.beq_eq, decide_eq_true_eq] at hb
      obtain ⟨⟨⟨⟨⟨⟨⟨⟨⟨⟨⟨⟨⟨⟨⟨⟨⟨⟨rfl, rfl⟩, rfl⟩, rfl⟩, rfl⟩, rfl⟩, rfl⟩, rfl⟩, rfl⟩, rfl⟩, rfl⟩, rfl⟩, rfl⟩, rfl⟩, rfl⟩, rfl⟩, rfl⟩, rfl⟩, rfl⟩ := hb
      exact blk_loop (S := T92_a20_2) (ks := E92_a20_2) (step := S_coder_Encoder_End_a20_2 fuel) (v := (_, _, _, _, _, _, _, _, _)) (by kernel_rfl) (by kernel_rfl) (fun R K v => by obtain ⟨x0, x1, x2, x3, x4, x5, x6, x7, x8⟩ := v; exact S92_a20_2_ok fuel R K x0 x1 x2 x3 x4 x5 x6 x7 x8) hs h
    · cases h
  · cases h
noncomputable def Sg_coder_Encoder_End_a20_0 (fuel : Nat) (f164_a20 : YF164_a20) (x0 x1 : Int) (x2 x3 : Int) (x4 : Bool) (x5 x6 x7 : (List Int)) (c : (Int × Int × Int × Int × Bool × (List Int) × (List Int) × (List Int)) → Option Ans) (B : (Int × Int × Int × Bool × (List Int) × (List Int) × (List Int) → Option Ans) × (Int × Int × Int × Bool × (List Int) × (List Int) × (List Int) → Option Ans)) : Option Ans := match B with
 | (ret, b) =>
  bif decide (x0 < (5 : Int)) then
  bif decide (IntKind.u64.wrap (IntKind.i64.wrap ((32 : Int) - IntKind.i64.wrap ((8 : Int) * x0))) < (0 : Int)) then
  none
  else
  bif decide (IntKind.u64.wrap (IntKind.i64.wrap ((32 : Int) - IntKind.i64.wrap ((8 : Int) * x0))) < (0 : Int)) then
  none
  else
  bif decide (Ev.ishl IntKind.u64 (Ev.ishr IntKind.u64 x3 (IntKind.u64.wrap (IntKind.i64.wrap ((32 : Int) - IntKind.i64.wrap ((8 : Int) * x0))))) (IntKind.u64.wrap (IntKind.i64.wrap ((32 : Int) - IntKind.i64.wrap ((8 : Int) * x0)))) ≥ x2) then
  (L_coder_Encoder_End_a20_2 fuel (x0, (0 : Int), x1, x2, x3, x4, x5, x6, x7)
  (fun (b2_0, b2_1, b2_2, b2_3, b2_4, b2_5, b2_6) =>
  ret (b2_0, b2_1, b2_2, b2_3, b2_4, b2_5, b2_6)))
  else
  c (IntKind.i64.wrap (x0 + (1 : Int)), x1, x2, x3, x4, x5, x6, x7)
  else
  b (x1, x2, x3, x4, x5, x6, x7)
noncomputable def S_coder_Encoder_End_a20_0 (fuel : Nat) (v : Int × Int × Int × Int × Bool × (List Int) × (List Int) × (List Int)) (c : (Int × Int × Int × Int × Bool × (List Int) × (List Int) × (List Int)) → Option Ans) (B : (Int × Int × Int × Bool × (List Int) × (List Int) × (List Int) → Option Ans) × (Int × Int × Int × Bool × (List Int) × (List Int) × (List Int) → Option Ans)) : Option Ans := match v with
 | (x0, x1, x2, x3, x4, x5, x6, x7) => Sg_coder_Encoder_End_a20_0 fuel (F_coder_Encoder_none_a20 fuel) x0 x1 x2 x3 x4 x5 x6 x7 c B
noncomputable def L_coder_Encoder_End_a20_0 (fuel : Nat) (v : Int × Int × Int × Int × Bool × (List Int) × (List Int) × (List Int)) (ret : (Int × Int × Int × Bool × (List Int) × (List Int) × (List Int) → Option Ans)) (b : (Int × Int × Int × Bool × (List Int) × (List Int) × (List Int) → Option Ans)) : Option Ans := iter (S_coder_Encoder_End_a20_0 fuel) fuel v (ret, b)
noncomputable def J92_a20_0 (fuel : Nat) (i : Nat) : Option Ev.Blk := Ev.look i [(100002, B92_a20_2 fuel)]
noncomputable def T92_a20_0 (v : Int × Int × Int × Int × Bool × (List Int) × (List Int) × (List Int)) : Ev.St := match v with | (x0, x1, x2, x3, x4, x5, x6, x7) => ⟨[(0, .c (.ptr 0 0)), (3, .c (.own 3)), (15, .c (.int .i64 x0))], [(0, .cells 172 (.int .i64 x1 :: .own 1 :: ctb (.int .u64 x2 :: .int .u64 x3 :: .own 2 :: .bool x4 :: []))), (1, .vec 3 (.int .i64) x5 false), (2, .vec 5 (.int .u8) x6 false), (3, .vec 5 (.int .u8) x7 true)], 4, 3⟩
noncomputable def E92_a20_0 (K : Ev.Ex → Ev.St → Option Ans) : (Int × Int × Int × Bool × (List Int) × (List Int) × (List Int) → Option Ans) × (Int × Int × Int × Bool × (List Int) × (List Int) × (List Int) → Option Ans) := ((fun v => match v with | (x0, x1, x2, x3, x4, x5, x6) => K .ret ⟨[(2, .c (.own 3))], [(0, .cells 172 (.int .i64 x0 :: .own 1 :: ctb (.int .u64 x1 :: .int .u64 x2 :: .own 2 :: .bool x3 :: []))), (1, .vec 3 (.int .i64) x4 false), (2, .vec 5 (.int .u8) x5 false), (3, .vec 5 (.int .u8) x6 true)], 4, 3⟩), (fun v => match v with | (x0, x1, x2, x3, x4, x5, x6) => K .normal ⟨[(3, .c (.own 3))], [(0, .cells 172 (.int .i64 x0 :: .own 1 :: ctb (.int .u64 x1 :: .int .u64 x2 :: .own 2 :: .bool x3 :: []))), (1, .vec 3 (.int .i64) x4 false), (2, .vec 5 (.int .u8) x5 false), (3, .vec 5 (.int .u8) x6 true)], 4, 3⟩))
theorem S92_a20_0_okg (fuel : Nat) (f164_a20 : YF164_a20) (R : Ev.St → Option Ans) (K : Ev.Ex → Ev.St → Option Ans) (x0 x1 : Int) (x2 x3 : Int) (x4 : Bool) (x5 x6 x7 : (List Int)) : evalCode tab (Gg92_a20 f164_a20) (J92_a20_0 fuel) kp92_a20 fuel (bodyOf 0 Try.f92) (T92_a20_0 (x0, x1, x2, x3, x4, x5, x6, x7)) (lc kp92_a20 5 0 R K) = Sg_coder_Encoder_End_a20_0 fuel f164_a20 x0 x1 x2 x3 x4 x5 x6 x7 (fun v => R (T92_a20_0 v)) (E92_a20_0 K) := by
  kernel_rfl
theorem S92_a20_0_ok (fuel : Nat) (R : Ev.St → Option Ans) (K : Ev.Ex → Ev.St → Option Ans) (x0 x1 : Int) (x2 x3 : Int) (x4 : Bool) (x5 x6 x7 : (List Int)) : evalCode tab (G92_a20 fuel) (J92_a20_0 fuel) kp92_a20 fuel (bodyOf 0 Try.f92) (T92_a20_0 (x0, x1, x2, x3, x4, x5, x6, x7)) (lc kp92_a20 5 0 R K) = S_coder_Encoder_End_a20_0 fuel (x0, x1, x2, x3, x4, x5, x6, x7) (fun v => R (T92_a20_0 v)) (E92_a20_0 K) :=
  S92_a20_0_okg fuel (F_coder_Encoder_none_a20 fuel) R K x0 x1 x2 x3 x4 x5 x6 x7
noncomputable def B92_a20_0 (fuel : Nat) : Ev.Blk := fun st K => match canonO (kp92_a20 5) st with
 | some s => (match s with
 | ⟨[(q0, .c (.ptr q1 q2)), (q3, .c (.own q4)), (q5, .c (.int .i64 x0))], [(q6, .cells q7 cs0), (q8, .vec q9 (.int .i64) x5 false), (q10, .vec q11 (.int .u8) x6 false), (q12, .vec q13 (.int .u8) x7 true)], q14, q15⟩ => (match splitRun 2 ctn cs0 with | some ([.int .i64 x1, .own q16], [.int .u64 x2, .int .u64 x3, .own q17, .bool x4]) => bif Nat.beq q0 0 && Nat.beq q1 0 && Nat.beq q2 0 && Nat.beq q3 3 && Nat.beq q4 3 && Nat.beq q5 15 && Nat.beq q6 0 && Nat.beq q7 172 && Nat.beq q8 1 && Nat.beq q9 3 && Nat.beq q10 2 && Nat.beq q11 5 && Nat.beq q12 3 && Nat.beq q13 5 && Nat.beq q14 4 && Nat.beq q15 3 && Nat.beq q16 1 && Nat.beq q17 2 then iter (S_coder_Encoder_End_a20_0 fuel) fuel (x0, x1, x2, x3, x4, x5, x6, x7) (E92_a20_0 K) else none | _ => none)
 | _ => none)
 | none => none
theorem B92_a20_0_ok (fuel : Nat) (st : Ev.St) (K : Ev.Ex → Ev.St → Option Ans) (r : Ans) (h : B92_a20_0 fuel st K = some r) : evalCode tab (G92_a20 fuel) (J92_a20_0 fuel) kp92_a20 fuel (.block 0 (.loop (bodyOf 0 Try.f92))) st K = some r := by
  unfold B92_a20_0 at h
  split at h
  · rename_i s hs
    split at h
    · skip
      split at h
      rotate_left 1
      · cases h
      rename_i hsp
      have esp := splitRun_eq hsp
      subst esp
      obtain ⟨hb, h⟩ := cond_some' h
      simp only [Bool.and_eq_true, Nat.beq_eq, decide_eq_true_eq] at hb
      obtain ⟨⟨⟨⟨⟨⟨⟨⟨⟨⟨⟨⟨⟨⟨⟨⟨⟨rfl, rfl⟩, rfl⟩, rfl⟩, rfl⟩, rfl⟩, rfl⟩, rfl⟩, rfl⟩, rfl⟩, rfl⟩, rfl⟩, rfl⟩, rfl⟩, rfl⟩, rfl⟩, rfl⟩, rfl⟩ := hb
      exact blk_loop (S := T92_a20_0) (ks := E92_a20_0) (step := S_coder_Encoder_End_a20_0 fuel) (v := (_, _, _, _, _, _, _, _)) (by kernel_rfl) (by kernel_rfl) (fun R K v => by obtain ⟨x0, x1, x2, x3, x4, x5, x6, x7⟩ := v; exact S92_a20_0_ok fuel R K x0 x1 x2 x3 x4 x5 x6 x7) hs h
    · cases h
  · cases h
noncomputable def J92_a20 (fuel : Nat) (i : Nat) : Option Ev.Blk := Ev.look i [(100002, B92_a20_2 fuel), (100000, B92_a20_0 fuel)]
noncomputable def Fg_coder_Encoder_End_a20 (fuel : Nat) (f164_a20 : YF164_a20) (x0 x1 x2 : Int) (x3 : Bool) (x4 x5 : (List Int)) (k0 : (Int × Int × Int × Bool × (List Int) × (List Int) × (List Int)) → Option Ans) : Option Ans :=
  (f164_a20 (x0) (x1) (x2) (x3) (x4) (x5)
  (fun (y2_0, y2_1, y2_2, y2_3, y2_4, y2_5, y2_6) =>
  bif y2_0 then
  k0 (y2_1, y2_2, y2_3, y2_4, y2_5, y2_6, [])
  else
  bif decide (((0 : Nat) + y2_6.length) * (1 : Nat) ≤ (140737488355328 : Nat) ∧ (0 : Nat) + y2_6.length ≤ (140737488355328 : Nat)) then
  (L_coder_Encoder_End_a20_0 fuel ((0 : Int), y2_1, y2_2, y2_3, y2_4, y2_5, y2_6, [] ++ y2_6)
  (fun (ret0_0, ret0_1, ret0_2, ret0_3, ret0_4, ret0_5, ret0_6) =>
  k0 (ret0_0, ret0_1, ret0_2, ret0_3, ret0_4, ret0_5, ret0_6))
  (fun (b0_0, b0_1, b0_2, b0_3, b0_4, b0_5, b0_6) =>
  k0 (b0_0, b0_1, b0_2, b0_3, b0_4, b0_5, b0_6)))
  else none))
noncomputable def F_coder_Encoder_End_a20 (fuel : Nat) (x0 x1 x2 : Int) (x3 : Bool) (x4 x5 : (List Int)) (k0 : (Int × Int × Int × Bool × (List Int) × (List Int) × (List Int)) → Option Ans) : Option Ans := Fg_coder_Encoder_End_a20 fuel (F_coder_Encoder_none_a20 fuel) x0 x1 x2 x3 x4 x5 k0
abbrev YF92_a20 : Type := (Int) → (Int) → (Int) → (Bool) → ((List Int)) → ((List Int)) → ((Int × Int × Int × Bool × (List Int) × (List Int) × (List Int)) → Option Ans) → Option Ans
theorem F92_a20_eqg (fuel : Nat) (f164_a20 : YF164_a20) (x0 x1 x2 : Int) (x3 : Bool) (x4 x5 : (List Int)) (k : Ev.Cont) : evalFn tab (Gg92_a20 f164_a20) (J92_a20 fuel) kp92_a20 fuel Try.f92 [.c (.ptr 0 0)] [.cells 172 (.int .i64 x0 :: .own 1 :: ctb (.int .u64 x1 :: .int .u64 x2 :: .own 2 :: .bool x3 :: [])), .vec 3 (.int .i64) x4 false, .vec 5 (.int .u8) x5 false] k = Fg_coder_Encoder_End_a20 fuel f164_a20 x0 x1 x2 x3 x4 x5 (fun r => match r with | (r0, r1, r2, r3, r4, r5, r6) => k (.c (.own 3), [.cells 172 (.int .i64 r0 :: .own 1 :: ctb (.int .u64 r1 :: .int .u64 r2 :: .own 2 :: .bool r3 :: [])), .vec 3 (.int .i64) r4 false, .vec 5 (.int .u8) r5 false, .vec 5 (.int .u8) r6 true])) := by
  kernel_rfl
theorem F92_a20_eq (fuel : Nat) (x0 x1 x2 : Int) (x3 : Bool) (x4 x5 : (List Int)) (k : Ev.Cont) : evalFn tab (G92_a20 fuel) (J92_a20 fuel) kp92_a20 fuel Try.f92 [.c (.ptr 0 0)] [.cells 172 (.int .i64 x0 :: .own 1 :: ctb (.int .u64 x1 :: .int .u64 x2 :: .own 2 :: .bool x3 :: [])), .vec 3 (.int .i64) x4 false, .vec 5 (.int .u8) x5 false] k = F_coder_Encoder_End_a20 fuel x0 x1 x2 x3 x4 x5 (fun r => match r with | (r0, r1, r2, r3, r4, r5, r6) => k (.c (.own 3), [.cells 172 (.int .i64 r0 :: .own 1 :: ctb (.int .u64 r1 :: .int .u64 r2 :: .own 2 :: .bool r3 :: [])), .vec 3 (.int .i64) r4 false, .vec 5 (.int .u8) r5 false, .vec 5 (.int .u8) r6 true])) :=
  F92_a20_eqg fuel (F_coder_Encoder_none_a20 fuel) x0 x1 x2 x3 x4 x5 k
theorem hG92_a20 (fuel : Nat) : GOK Try.prog (G92_a20 fuel) :=
  gok_cons ⟨ok164_a20 fuel, enters_of Try.func164 (by kernel_rfl) rfl⟩ <|
  gok_nil
theorem B92_a20_2_blk (fuel : Nat) : BlkOK Try.prog Try.f92.ntmps (.block 2 (.loop (bodyOf 2 Try.f92))) (B92_a20_2 fuel) :=
  blk_of (blk_of_code tab_ok (hG92_a20 fuel) mixed (J := J92_a20_2 fuel) (kp := kp92_a20) (fuel := fuel) (by kernel_rfl) (fun q hq => by
    rw [(by kernel_rfl : obl (J92_a20_2 fuel) (.block 2 (.loop (bodyOf 2 Try.f92))) = [])] at hq
    cases hq)) (B92_a20_2_ok fuel)
theorem B92_a20_0_blk (fuel : Nat) : BlkOK Try.prog Try.f92.ntmps (.block 0 (.loop (bodyOf 0 Try.f92))) (B92_a20_0 fuel) :=
  blk_of (blk_of_code tab_ok (hG92_a20 fuel) mixed (J := J92_a20_0 fuel) (kp := kp92_a20) (fuel := fuel) (by kernel_rfl) (fun q hq => by
    rw [(by kernel_rfl : obl (J92_a20_0 fuel) (.block 0 (.loop (bodyOf 0 Try.f92))) = [(.block 2 (.loop (bodyOf 2 Try.f92)), B92_a20_2 fuel)])] at hq
    simp only [List.mem_cons, List.not_mem_nil, or_false] at hq
    subst hq
    · exact B92_a20_2_blk fuel)) (B92_a20_0_ok fuel)
theorem fok92_a20 (fuel : Nat) : FnOK Try.prog 92 (evalFn tab (G92_a20 fuel) (J92_a20 fuel) kp92_a20 fuel Try.f92) :=
  fn_ok tab_ok (hG92_a20 fuel) mixed Try.func92 (c := (Try.f92.body).getD .skip) rfl (fun q hq => by
    rw [(by kernel_rfl : obl (J92_a20 fuel) ((Try.f92.body).getD .skip) = [(.block 0 (.loop (bodyOf 0 Try.f92)), B92_a20_0 fuel)])] at hq
    simp only [List.mem_cons, List.not_mem_nil, or_false] at hq
    subst hq
    · exact B92_a20_0_blk fuel)
noncomputable def mt92_a20 : List Ev.SV → List Ev.Ob → Bool := fun args objs => match args, objs with
 | [.c (.ptr q0 q1)], [.cells q2 cs0, .vec q3 (.int .i64) _ false, .vec q4 (.int .u8) _ false] => (match splitRun 2 ctn cs0 with | some ([.int .i64 _, .own q5], [.int .u64 _, .int .u64 _, .own q6, .bool _]) => Nat.beq q0 0 && Nat.beq q1 0 && Nat.beq q2 172 && Nat.beq q3 3 && Nat.beq q4 5 && Nat.beq q5 1 && Nat.beq q6 2 | _ => false)
 | _, _ => false
noncomputable def spg92_a20 (F : YF92_a20) : Ev.Spec := fun args objs k => match args, objs with
 | [.c (.ptr q0 q1)], [.cells q2 cs0, .vec q3 (.int .i64) x4 false, .vec q4 (.int .u8) x5 false] => (match splitRun 2 ctn cs0 with | some ([.int .i64 x0, .own q5], [.int .u64 x1, .int .u64 x2, .own q6, .bool x3]) => bif Nat.beq q0 0 && Nat.beq q1 0 && Nat.beq q2 172 && Nat.beq q3 3 && Nat.beq q4 5 && Nat.beq q5 1 && Nat.beq q6 2 then F x0 x1 x2 x3 x4 x5 (fun r => match r with | (r0, r1, r2, r3, r4, r5, r6) => k (.c (.own 3), [.cells 172 (.int .i64 r0 :: .own 1 :: ctb (.int .u64 r1 :: .int .u64 r2 :: .own 2 :: .bool r3 :: [])), .vec 3 (.int .i64) r4 false, .vec 5 (.int .u8) r5 false, .vec 5 (.int .u8) r6 true])) else none | _ => none)
 | _, _ => none
noncomputable def spec92_a20 (fuel : Nat) : Ev.Spec := spg92_a20 (F_coder_Encoder_End_a20 fuel)
theorem ok92_a20 (fuel : Nat) : FnOK Try.prog 92 (spec92_a20 fuel) := by
  intro args objs kk r h
  unfold spec92_a20 spg92_a20 at h
  split at h
  · skip
    split at h
    rotate_left 1
    · cases h
    rename_i hsp
    have esp := splitRun_eq hsp
    subst esp
    obtain ⟨hb, h⟩ := cond_some' h
    simp only [Bool.and_eq_true, Nat.beq_eq, decide_eq_true_eq] at hb
    obtain ⟨⟨⟨⟨⟨⟨rfl, rfl⟩, rfl⟩, rfl⟩, rfl⟩, rfl⟩, rfl⟩ := hb
    exact fok92_a20 fuel _ _ kk r ((F92_a20_eq fuel _ _ _ _ _ _ kk).trans h)
  · cases h
end Go.Proofs.Ytihfgpfofmjbaaa

set_option linter.unusedVariables false
set_option linter.unusedSimpArgs false
set_option maxRecDepth 100000
set_option maxHeartbeats 2000000
namespace Go.Proofs.Ytihfgpfofmjbaaa
open Go Ev
def kp101_a20 (i : Nat) : Option (List Nat) := Ev.look i []
noncomputable def Gg101_a20 (f164_a20 : YF164_a20) (f170 : YF170) (f : Nat) : Option Ev.Spec := Ev.look f [(164, spg164_a20 f164_a20), (170, spg170 f170)]
noncomputable def G101_a20 (fuel : Nat) : Nat → Option Ev.Spec := Gg101_a20 (F_coder_Encoder_none_a20 fuel) (F_coder_clone fuel)
noncomputable def J101_a20 (fuel : Nat) (i : Nat) : Option Ev.Blk := Ev.look i []
noncomputable def Fg_coder_Encoder_Model_a20 (fuel : Nat) (f164_a20 : YF164_a20) (f170 : YF170) (x0 x1 x2 : Int) (x3 : Bool) (x4 x5 : (List Int)) (k0 : (Int × Int × Int × Int × Bool × (List Int) × (List Int) × (List Int)) → Option Ans) : Option Ans :=
  (f164_a20 (x0) (x1) (x2) (x3) (x4) (x5)
  (fun (y2_0, y2_1, y2_2, y2_3, y2_4, y2_5, y2_6) =>
  bif y2_0 then
  k0 ((0 : Int), y2_1, y2_2, y2_3, y2_4, y2_5, y2_6, [])
  else
  (f170 (y2_1) (y2_5)
  (fun (y7_0, y7_1) =>
  k0 (y7_0, y2_1, y2_2, y2_3, y2_4, y2_5, y2_6, y7_1)))))
noncomputable def F_coder_Encoder_Model_a20 (fuel : Nat) (x0 x1 x2 : Int) (x3 : Bool) (x4 x5 : (List Int)) (k0 : (Int × Int × Int × Int × Bool × (List Int) × (List Int) × (List Int)) → Option Ans) : Option Ans := Fg_coder_Encoder_Model_a20 fuel (F_coder_Encoder_none_a20 fuel) (F_coder_clone fuel) x0 x1 x2 x3 x4 x5 k0
abbrev YF101_a20 : Type := (Int) → (Int) → (Int) → (Bool) → ((List Int)) → ((List Int)) → ((Int × Int × Int × Int × Bool × (List Int) × (List Int) × (List Int)) → Option Ans) → Option Ans
theorem F101_a20_eqg (fuel : Nat) (f164_a20 : YF164_a20) (f170 : YF170) (x0 x1 x2 : Int) (x3 : Bool) (x4 x5 : (List Int)) (k : Ev.Cont) : evalFn tab (Gg101_a20 f164_a20 f170) (J101_a20 fuel) kp101_a20 fuel Try.f101 [.c (.ptr 0 0)] [.cells 172 (.int .i64 x0 :: .own 1 :: ctb (.int .u64 x1 :: .int .u64 x2 :: .own 2 :: .bool x3 :: [])), .vec 3 (.int .i64) x4 false, .vec 5 (.int .u8) x5 false] k = Fg_coder_Encoder_Model_a20 fuel f164_a20 f170 x0 x1 x2 x3 x4 x5 (fun r => match r with | (r0, r1, r2, r3, r4, r5, r6, r7) => k (.agg [.int .i64 r0, .own 3], [.cells 172 (.int .i64 r1 :: .own 1 :: ctb (.int .u64 r2 :: .int .u64 r3 :: .own 2 :: .bool r4 :: [])), .vec 3 (.int .i64) r5 false, .vec 5 (.int .u8) r6 false, .vec 3 (.int .i64) r7 true])) := by
  kernel_rfl
theorem F101_a20_eq (fuel : Nat) (x0 x1 x2 : Int) (x3 : Bool) (x4 x5 : (List Int)) (k : Ev.Cont) : evalFn tab (G101_a20 fuel) (J101_a20 fuel) kp101_a20 fuel Try.f101 [.c (.ptr 0 0)] [.cells 172 (.int .i64 x0 :: .own 1 :: ctb (.int .u64 x1 :: .int .u64 x2 :: .own 2 :: .bool x3 :: [])), .vec 3 (.int .i64) x4 false, .vec 5 (.int .u8) x5 false] k = F_coder_Encoder_Model_a20 fuel x0 x1 x2 x3 x4 x5 (fun r => match r with | (r0, r1, r2, r3, r4, r5, r6, r7) => k (.agg [.int .i64 r0, .own 3], [.cells 172 (.int .i64 r1 :: .own 1 :: ctb (.int .u64 r2 :: .int .u64 r3 :: .own 2 :: .bool r4 :: [])), .vec 3 (.int .i64) r5 false, .vec 5 (.int .u8) r6 false, .vec 3 (.int .i64) r7 true])) :=
  F101_a20_eqg fuel (F_coder_Encoder_none_a20 fuel) (F_coder_clone fuel) x0 x1 x2 x3 x4 x5 k
theorem hG101_a20 (fuel : Nat) : GOK Try.prog (G101_a20 fuel) :=
  gok_cons ⟨ok164_a20 fuel, enters_of Try.func164 (by kernel_rfl) rfl⟩ <|
  gok_cons ⟨ok170 fuel, enters_of Try.func170 (by kernel_rfl) rfl⟩ <|
  gok_nil
theorem fok101_a20 (fuel : Nat) : FnOK Try.prog 101 (evalFn tab (G101_a20 fuel) (J101_a20 fuel) kp101_a20 fuel Try.f101) :=
  fn_ok tab_ok (hG101_a20 fuel) mixed Try.func101 (c := (Try.f101.body).getD .skip) rfl (fun q hq => by
    rw [(by kernel_rfl : obl (J101_a20 fuel) ((Try.f101.body).getD .skip) = [])] at hq
    cases hq)
noncomputable def mt101_a20 : List Ev.SV → List Ev.Ob → Bool := fun args objs => match args, objs with
 | [.c (.ptr q0 q1)], [.cells q2 cs0, .vec q3 (.int .i64) _ false, .vec q4 (.int .u8) _ false] => (match splitRun 2 ctn cs0 with | some ([.int .i64 _, .own q5], [.int .u64 _, .int .u64 _, .own q6, .bool _]) => Nat.beq q0 0 && Nat.beq q1 0 && Nat.beq q2 172 && Nat.beq q3 3 && Nat.beq q4 5 && Nat.beq q5 1 && Nat.beq q6 2 | _ => false)
 | _, _ => false
noncomputable def spg101_a20 (F : YF101_a20) : Ev.Spec := fun args objs k => match args, objs with
 | [.c (.ptr q0 q1)], [.cells q2 cs0, .vec q3 (.int .i64) x4 false, .vec q4 (.int .u8) x5 false] => (match splitRun 2 ctn cs0 with | some ([.int .i64 x0, .own q5], [.int .u64 x1, .int .u64 x2, .own q6, .bool x3]) => bif Nat.beq q0 0 && Nat.beq q1 0 && Nat.beq q2 172 && Nat.beq q3 3 && Nat.beq q4 5 && Nat.beq q5 1 && Nat.beq q6 2 then F x0 x1 x2 x3 x4 x5 (fun r => match r with | (r0, r1, r2, r3, r4, r5, r6, r7) => k (.agg [.int .i64 r0, .own 3], [.cells 172 (.int .i64 r1 :: .own 1 :: ctb (.int .u64 r2 :: .int .u64 r3 :: .own 2 :: .bool r4 :: [])), .vec 3 (.int .i64) r5 false, .vec 5 (.int .u8) r6 false, .vec 3 (.int .i64) r7 true])) else none | _ => none)
 | _, _ => none
noncomputable def spec101_a20 (fuel : Nat) : Ev.Spec := spg101_a20 (F_coder_Encoder_Model_a20 fuel)
theorem ok101_a20 (fuel : Nat) : FnOK Try.prog 101 (spec101_a20 fuel) := by
  intro args objs kk r h
  unfold spec101_a20 spg101_a20 at h
  split at h
  · skip
    split at h
    rotate_left 1
    · cases h
    rename_i hsp
    have esp := splitRun_eq hsp
    subst esp
    obtain ⟨hb, h⟩ := cond_some' h
    simp only [Bool.and_eq_true, Nat.beq_eq, decide_eq_true_eq] at hb
    obtain ⟨⟨⟨⟨⟨⟨rfl, rfl⟩, rfl⟩, rfl⟩, rfl⟩, rfl⟩, rfl⟩ := hb
    exact fok101_a20 fuel _ _ kk r ((F101_a20_eq fuel _ _ _ _ _ _ kk).trans h)
  · cases h
end Go.Proofs.Ytihfgpfofmjbaaa

set_option linter.unusedVariables false
set_option linter.unusedSimpArgs false
set_option maxRecDepth 100000
set_option maxHeartbeats 2000000
namespace Go.Proofs.Ytihfgpfofmjbaaa
open Go Ev
def kp188_e89 (i : Nat) : Option (List Nat) := Ev.look i [(8, [0, 1000002]), (100000, []), (200005, [0]), (200007, [0]), (400000, [6]), (600000, [])]
noncomputable def Gg188_e89 (f181 : YF181) (f183 : YF183) (f184 : YF184) (f185 : YF185) (f186 : YF186) (f : Nat) : Option Ev.Spec := Ev.look f [(181, spg181 f181), (183, spg183 f183), (184, spg184 f184), (185, spg185 f185), (186, spg186 f186)]
noncomputable def G188_e89 (fuel : Nat) : Nat → Option Ev.Spec := Gg188_e89 (F_ref02_Likely fuel) (F_ref02_Interval_Part fuel) (F_ref02_Interval_Fixed fuel) (F_ref02_Interval_Shifted fuel) (F_ref02_After fuel)
noncomputable def Sg_ref02_Encoder_Put_e89_0 (fuel : Nat) (f181 : YF181) (f183 : YF183) (f184 : YF184) (f185 : YF185) (f186 : YF186) (x0 x1 x2 : Int) (x3 x4 : (List Int)) (c : (Int × Int × Int × (List Int) × (List Int)) → Option Ans) (B : (Int × Int × Int × (List Int) × (List Int) → Option Ans)) : Option Ans := match B with
 | b =>
  (f184 (x1) (x2)
  (fun y2 =>
  bif y2 then
  both (bif decide ((x4.length + [IntKind.u8.wrap (Ev.ishr IntKind.u64 x2 (24 : Int))].length) * (1 : Nat) ≤ (140737488355328 : Nat) ∧ x4.length + [IntKind.u8.wrap (Ev.ishr IntKind.u64 x2 (24 : Int))].length ≤ (140737488355328 : Nat)) then
  (f185 (x1) (x2)
  (fun (y10_0, y10_1) =>
  c (x0, y10_0, y10_1, x3, x4 ++ [IntKind.u8.wrap (Ev.ishr IntKind.u64 x2 (24 : Int))])))
  else none)
  (both (bif decide ((x4.length + [IntKind.u8.wrap (Ev.ishr IntKind.u64 x2 (24 : Int))].length) * (1 : Nat) ≤ (140737488355328 : Nat) ∧ x4.length + [IntKind.u8.wrap (Ev.ishr IntKind.u64 x2 (24 : Int))].length ≤ (140737488355328 : Nat)) then
  (f185 (x1) (x2)
  (fun (y12_0, y12_1) =>
  c (x0, y12_0, y12_1, x3, x4 ++ [IntKind.u8.wrap (Ev.ishr IntKind.u64 x2 (24 : Int))])))
  else none)
  (bif decide ((x4.length + [IntKind.u8.wrap (Ev.ishr IntKind.u64 x2 (24 : Int))].length) * (1 : Nat) ≤ (140737488355328 : Nat) ∧ x4.length + [IntKind.u8.wrap (Ev.ishr IntKind.u64 x2 (24 : Int))].length ≤ (140737488355328 : Nat)) then
  (f185 (x1) (x2)
  (fun (y12_0, y12_1) =>
  c (x0, y12_0, y12_1, x3, x4 ++ [IntKind.u8.wrap (Ev.ishr IntKind.u64 x2 (24 : Int))])))
  else none))
  else
  b (x0, x1, x2, x3, x4)))
noncomputable def S_ref02_Encoder_Put_e89_0 (fuel : Nat) (v : Int × Int × Int × (List Int) × (List Int)) (c : (Int × Int × Int × (List Int) × (List Int)) → Option Ans) (B : (Int × Int × Int × (List Int) × (List Int) → Option Ans)) : Option Ans := match v with
 | (x0, x1, x2, x3, x4) => Sg_ref02_Encoder_Put_e89_0 fuel (F_ref02_Likely fuel) (F_ref02_Interval_Part fuel) (F_ref02_Interval_Fixed fuel) (F_ref02_Interval_Shifted fuel) (F_ref02_After fuel) x0 x1 x2 x3 x4 c B
noncomputable def L_ref02_Encoder_Put_e89_0 (fuel : Nat) (v : Int × Int × Int × (List Int) × (List Int)) (b : (Int × Int × Int × (List Int) × (List Int) → Option Ans)) : Option Ans := iter (S_ref02_Encoder_Put_e89_0 fuel) fuel v b
noncomputable def J188_e89_0 (fuel : Nat) (i : Nat) : Option Ev.Blk := Ev.look i []
noncomputable def T188_e89_0 (v : Int × Int × Int × (List Int) × (List Int)) : Ev.St := match v with | (x0, x1, x2, x3, x4) => ⟨[(0, .c (.ptr 0 0))], [(0, .cells 225 [.int .i64 x0, .own 1, .int .u64 x1, .int .u64 x2, .own 2]), (1, .vec 3 (.int .i64) x3 false), (2, .vec 5 (.int .u8) x4 true)], 3, 3⟩
noncomputable def E188_e89_0 (K : Ev.Ex → Ev.St → Option Ans) : (Int × Int × Int × (List Int) × (List Int) → Option Ans) := (fun v => match v with | (x0, x1, x2, x3, x4) => K .normal ⟨[], [(0, .cells 225 [.int .i64 x0, .own 1, .int .u64 x1, .int .u64 x2, .own 2]), (1, .vec 3 (.int .i64) x3 false), (2, .vec 5 (.int .u8) x4 true)], 3, 3⟩)
theorem S188_e89_0_okg (fuel : Nat) (f181 : YF181) (f183 : YF183) (f184 : YF184) (f185 : YF185) (f186 : YF186) (R : Ev.St → Option Ans) (K : Ev.Ex → Ev.St → Option Ans) (x0 x1 x2 : Int) (x3 x4 : (List Int)) : evalCode tab (Gg188_e89 f181 f183 f184 f185 f186) (J188_e89_0 fuel) kp188_e89 fuel (bodyOf 0 Try.f188) (T188_e89_0 (x0, x1, x2, x3, x4)) (lc kp188_e89 8 0 R K) = Sg_ref02_Encoder_Put_e89_0 fuel f181 f183 f184 f185 f186 x0 x1 x2 x3 x4 (fun v => R (T188_e89_0 v)) (E188_e89_0 K) := by
  kernel_rfl
theorem S188_e89_0_ok (fuel : Nat) (R : Ev.St → Option Ans) (K : Ev.Ex → Ev.St → Option Ans) (x0 x1 x2 : Int) (x3 x4 : (List Int)) : evalCode tab (G188_e89 fuel) (J188_e89_0 fuel) kp188_e89 fuel (bodyOf 0 Try.f188) (T188_e89_0 (x0, x1, x2, x3, x4)) (lc kp188_e89 8 0 R K) = S_ref02_Encoder_Put_e89_0 fuel (x0, x1, x2, x3, x4) (fun v => R (T188_e89_0 v)) (E188_e89_0 K) :=
  S188_e89_0_okg fuel (F_ref02_Likely fuel) (F_ref02_Interval_Part fuel) (F_ref02_Interval_Fixed fuel) (F_ref02_Interval_Shifted fuel) (F_ref02_After fuel) R K x0 x1 x2 x3 x4
noncomputable def B188_e89_0 (fuel : Nat) : Ev.Blk := fun st K => match canonO (kp188_e89 8) st with
 | some s => (match s with
 | ⟨[(q0, .c (.ptr q1 q2))], [(q3, .cells q4 [.int .i64 x0, .own q5, .int .u64 x1, .int .u64 x2, .own q6]), (q7, .vec q8 (.int .i64) x3 false), (q9, .vec q10 (.int .u8) x4 true)], q11, q12⟩ => bif Nat.beq q0 0 && Nat.beq q1 0 && Nat.beq q2 0 && Nat.beq q3 0 && Nat.beq q4 225 && Nat.beq q5 1 && Nat.beq q6 2 && Nat.beq q7 1 && Nat.beq q8 3 && Nat.beq q9 2 && Nat.beq q10 5 && Nat.beq q11 3 && Nat.beq q12 3 then iter (S_ref02_Encoder_Put_e89_0 fuel) fuel (x0, x1, x2, x3, x4) (E188_e89_0 K) else none
 | _ => none)
 | none => none
theorem B188_e89_0_ok (fuel : Nat) (st : Ev.St) (K : Ev.Ex → Ev.St → Option Ans) (r : Ans) (h : B188_e89_0 fuel st K = some r) : evalCode tab (G188_e89 fuel) (J188_e89_0 fuel) kp188_e89 fuel (.block 0 (.loop (bodyOf 0 Try.f188))) st K = some r := by
  unfold B188_e89_0 at h
  split at h
  · rename_i s hs
    split at h
    · skip
      obtain ⟨hb, h⟩ := cond_some' h
      simp only [Bool.and_eq_true, Nat.beq_eq, decide_eq_true_eq] at hb
      obtain ⟨⟨⟨⟨⟨⟨⟨⟨⟨⟨⟨⟨rfl, rfl⟩, rfl⟩, rfl⟩, rfl⟩, rfl⟩, rfl⟩, rfl⟩, rfl⟩, rfl⟩, rfl⟩, rfl⟩, rfl⟩ := hb
      exact blk_loop (S := T188_e89_0) (ks := E188_e89_0) (step := S_ref02_Encoder_Put_e89_0 fuel) (v := (_, _, _, _, _)) (by kernel_rfl) (by kernel_rfl) (fun R K v => by obtain ⟨x0, x1, x2, x3, x4⟩ := v; exact S188_e89_0_ok fuel R K x0 x1 x2 x3 x4) hs h
    · cases h
  · cases h
noncomputable def J188_e89 (fuel : Nat) (i : Nat) : Option Ev.Blk := Ev.look i [(100000, B188_e89_0 fuel)]
noncomputable def Fg_ref02_Encoder_Put_e89 (fuel : Nat) (f181 : YF181) (f183 : YF183) (f184 : YF184) (f185 : YF185) (f186 : YF186) (x0 x1 : Int) (x2 x3 x4 : Int) (x5 x6 : (List Int)) (k0 : (Int × Int × Int × Int × (List Int) × (List Int)) → Option Ans) (k1 : (Int × Int × Int × Int × (List Int) × (List Int)) → Option Ans) : Option Ans :=
  bif decide (x0 < (0 : Int)) then
  k0 ((2 : Int), x2, x3, x4, x5, x6)
  else
  bif decide (x0 ≥ (↑x5.length : Int)) then
  k0 ((2 : Int), x2, x3, x4, x5, x6)
  else
  bif x1 != (0 : Int) then
  bif x1 != (1 : Int) then
  k0 ((2 : Int), x2, x3, x4, x5, x6)
  else
  bif decide ((0 : Int) ≤ x0 ∧ x0 < (↑x5.length : Int)) then
  (f181 (x2) (x5.getD x0.toNat (0 : Int))
  (fun y7 =>
  (f183 (x3) (x4) (y7) (x1)
  (fun (y11_0, y11_1) =>
  bif decide ((0 : Int) ≤ x0 ∧ x0 < (↑x5.length : Int)) then
  (f186 (x2) (x5.getD x0.toNat (0 : Int)) (x1)
  (fun y16 =>
  bif decide ((0 : Int) ≤ x0 ∧ x0 < (↑x5.length : Int)) then
  (L_ref02_Encoder_Put_e89_0 fuel (x2, y11_0, y11_1, x5.set x0.toNat y16, x6)
  (fun (b0_0, b0_1, b0_2, b0_3, b0_4) =>
  k1 ((0 : Int), b0_0, b0_1, b0_2, b0_3, b0_4)))
  else none))
  else none))))
  else none
  else
  bif decide ((0 : Int) ≤ x0 ∧ x0 < (↑x5.length : Int)) then
  (f181 (x2) (x5.getD x0.toNat (0 : Int))
  (fun y6 =>
  (f183 (x3) (x4) (y6) (x1)
  (fun (y10_0, y10_1) =>
  bif decide ((0 : Int) ≤ x0 ∧ x0 < (↑x5.length : Int)) then
  (f186 (x2) (x5.getD x0.toNat (0 : Int)) (x1)
  (fun y15 =>
  bif decide ((0 : Int) ≤ x0 ∧ x0 < (↑x5.length : Int)) then
  (L_ref02_Encoder_Put_e89_0 fuel (x2, y10_0, y10_1, x5.set x0.toNat y15, x6)
  (fun (b0_0, b0_1, b0_2, b0_3, b0_4) =>
  k1 ((0 : Int), b0_0, b0_1, b0_2, b0_3, b0_4)))
  else none))
  else none))))
  else none
noncomputable def F_ref02_Encoder_Put_e89 (fuel : Nat) (x0 x1 : Int) (x2 x3 x4 : Int) (x5 x6 : (List Int)) (k0 : (Int × Int × Int × Int × (List Int) × (List Int)) → Option Ans) (k1 : (Int × Int × Int × Int × (List Int) × (List Int)) → Option Ans) : Option Ans := Fg_ref02_Encoder_Put_e89 fuel (F_ref02_Likely fuel) (F_ref02_Interval_Part fuel) (F_ref02_Interval_Fixed fuel) (F_ref02_Interval_Shifted fuel) (F_ref02_After fuel) x0 x1 x2 x3 x4 x5 x6 k0 k1
abbrev YF188_e89 : Type := (Int) → (Int) → (Int) → (Int) → (Int) → ((List Int)) → ((List Int)) → ((Int × Int × Int × Int × (List Int) × (List Int)) → Option Ans) → ((Int × Int × Int × Int × (List Int) × (List Int)) → Option Ans) → Option Ans
theorem F188_e89_eqg (fuel : Nat) (f181 : YF181) (f183 : YF183) (f184 : YF184) (f185 : YF185) (f186 : YF186) (x0 x1 : Int) (x2 x3 x4 : Int) (x5 x6 : (List Int)) (k : Ev.Cont) : evalFn tab (Gg188_e89 f181 f183 f184 f185 f186) (J188_e89 fuel) kp188_e89 fuel Try.f188 [.c (.ptr 0 0), .c (.int .i64 x0), .c (.int .i64 x1)] [.cells 225 [.int .i64 x2, .own 1, .int .u64 x3, .int .u64 x4, .own 2], .vec 3 (.int .i64) x5 false, .vec 5 (.int .u8) x6 false] k = Fg_ref02_Encoder_Put_e89 fuel f181 f183 f184 f185 f186 x0 x1 x2 x3 x4 x5 x6 (fun r => match r with | (r0, r1, r2, r3, r4, r5) => k (.c (.int .i64 r0), [.cells 225 [.int .i64 r1, .own 1, .int .u64 r2, .int .u64 r3, .own 2], .vec 3 (.int .i64) r4 false, .vec 5 (.int .u8) r5 false])) (fun r => match r with | (r0, r1, r2, r3, r4, r5) => k (.c (.int .i64 r0), [.cells 225 [.int .i64 r1, .own 1, .int .u64 r2, .int .u64 r3, .own 2], .vec 3 (.int .i64) r4 false, .vec 5 (.int .u8) r5 true])) := by
  kernel_rfl
theorem F188_e89_eq (fuel : Nat) (x0 x1 : Int) (x2 x3 x4 : Int) (x5 x6 : (List Int)) (k : Ev.Cont) : evalFn tab (G188_e89 fuel) (J188_e89 fuel) kp188_e89 fuel Try.f188 [.c (.ptr 0 0), .c (.int .i64 x0), .c (.int .i64 x1)] [.cells 225 [.int .i64 x2, .own 1, .int .u64 x3, .int .u64 x4, .own 2], .vec 3 (.int .i64) x5 false, .vec 5 (.int .u8) x6 false] k = F_ref02_Encoder_Put_e89 fuel x0 x1 x2 x3 x4 x5 x6 (fun r => match r with | (r0, r1, r2, r3, r4, r5) => k (.c (.int .i64 r0), [.cells 225 [.int .i64 r1, .own 1, .int .u64 r2, .int .u64 r3, .own 2], .vec 3 (.int .i64) r4 false, .vec 5 (.int .u8) r5 false])) (fun r => match r with | (r0, r1, r2, r3, r4, r5) => k (.c (.int .i64 r0), [.cells 225 [.int .i64 r1, .own 1, .int .u64 r2, .int .u64 r3, .own 2], .vec 3 (.int .i64) r4 false, .vec 5 (.int .u8) r5 true])) :=
  F188_e89_eqg fuel (F_ref02_Likely fuel) (F_ref02_Interval_Part fuel) (F_ref02_Interval_Fixed fuel) (F_ref02_Interval_Shifted fuel) (F_ref02_After fuel) x0 x1 x2 x3 x4 x5 x6 k
theorem hG188_e89 (fuel : Nat) : GOK Try.prog (G188_e89 fuel) :=
  gok_cons ⟨ok181 fuel, enters_of Try.func181 (by kernel_rfl) rfl⟩ <|
  gok_cons ⟨ok183 fuel, enters_of Try.func183 (by kernel_rfl) rfl⟩ <|
  gok_cons ⟨ok184 fuel, enters_of Try.func184 (by kernel_rfl) rfl⟩ <|
  gok_cons ⟨ok185 fuel, enters_of Try.func185 (by kernel_rfl) rfl⟩ <|
  gok_cons ⟨ok186 fuel, enters_of Try.func186 (by kernel_rfl) rfl⟩ <|
  gok_nil
theorem B188_e89_0_blk (fuel : Nat) : BlkOK Try.prog Try.f188.ntmps (.block 0 (.loop (bodyOf 0 Try.f188))) (B188_e89_0 fuel) :=
  blk_of (blk_of_code tab_ok (hG188_e89 fuel) mixed (J := J188_e89_0 fuel) (kp := kp188_e89) (fuel := fuel) (by kernel_rfl) (fun q hq => by
    rw [(by kernel_rfl : obl (J188_e89_0 fuel) (.block 0 (.loop (bodyOf 0 Try.f188))) = [])] at hq
    cases hq)) (B188_e89_0_ok fuel)
theorem fok188_e89 (fuel : Nat) : FnOK Try.prog 188 (evalFn tab (G188_e89 fuel) (J188_e89 fuel) kp188_e89 fuel Try.f188) :=
  fn_ok tab_ok (hG188_e89 fuel) mixed Try.func188 (c := (Try.f188.body).getD .skip) rfl (fun q hq => by
    rw [(by kernel_rfl : obl (J188_e89 fuel) ((Try.f188.body).getD .skip) = [(.block 0 (.loop (bodyOf 0 Try.f188)), B188_e89_0 fuel)])] at hq
    simp only [List.mem_cons, List.not_mem_nil, or_false] at hq
    subst hq
    · exact B188_e89_0_blk fuel)
noncomputable def mt188_e89 : List Ev.SV → List Ev.Ob → Bool := fun args objs => match args, objs with
 | [.c (.ptr q0 q1), .c (.int .i64 _), .c (.int .i64 _)], [.cells q2 [.int .i64 _, .own q3, .int .u64 _, .int .u64 _, .own q4], .vec q5 (.int .i64) _ false, .vec q6 (.int .u8) _ false] => Nat.beq q0 0 && Nat.beq q1 0 && Nat.beq q2 225 && Nat.beq q3 1 && Nat.beq q4 2 && Nat.beq q5 3 && Nat.beq q6 5
 | _, _ => false
noncomputable def spg188_e89 (F : YF188_e89) : Ev.Spec := fun args objs k => match args, objs with
 | [.c (.ptr q0 q1), .c (.int .i64 x0), .c (.int .i64 x1)], [.cells q2 [.int .i64 x2, .own q3, .int .u64 x3, .int .u64 x4, .own q4], .vec q5 (.int .i64) x5 false, .vec q6 (.int .u8) x6 false] => bif Nat.beq q0 0 && Nat.beq q1 0 && Nat.beq q2 225 && Nat.beq q3 1 && Nat.beq q4 2 && Nat.beq q5 3 && Nat.beq q6 5 then F x0 x1 x2 x3 x4 x5 x6 (fun r => match r with | (r0, r1, r2, r3, r4, r5) => k (.c (.int .i64 r0), [.cells 225 [.int .i64 r1, .own 1, .int .u64 r2, .int .u64 r3, .own 2], .vec 3 (.int .i64) r4 false, .vec 5 (.int .u8) r5 false])) (fun r => match r with | (r0, r1, r2, r3, r4, r5) => k (.c (.int .i64 r0), [.cells 225 [.int .i64 r1, .own 1, .int .u64 r2, .int .u64 r3, .own 2], .vec 3 (.int .i64) r4 false, .vec 5 (.int .u8) r5 true])) else none
 | _, _ => none
noncomputable def spec188_e89 (fuel : Nat) : Ev.Spec := spg188_e89 (F_ref02_Encoder_Put_e89 fuel)
theorem ok188_e89 (fuel : Nat) : FnOK Try.prog 188 (spec188_e89 fuel) := by
  intro args objs kk r h
  unfold spec188_e89 spg188_e89 at h
  split at h
  · skip
    obtain ⟨hb, h⟩ := cond_some' h
    simp only [Bool.and_eq_true, Nat.beq_eq, decide_eq_true_eq] at hb
    obtain ⟨⟨⟨⟨⟨⟨rfl, rfl⟩, rfl⟩, rfl⟩, rfl⟩, rfl⟩, rfl⟩ := hb
    exact fok188_e89 fuel _ _ kk r ((F188_e89_eq fuel _ _ _ _ _ _ _ kk).trans h)
  · cases h
end Go.Proofs.Ytihfgpfofmjbaaa

set_option linter.unusedVariables false
set_option linter.unusedSimpArgs false
set_option maxRecDepth 100000
set_option maxHeartbeats 2000000
namespace Go.Proofs.Ytihfgpfofmjbaaa
open Go Ev
def kp189 (i : Nat) : Option (List Nat) := Ev.look i [(3, [1, 3, 4]), (100000, [3]), (400000, [2])]
noncomputable def Gg189 (f : Nat) : Option Ev.Spec := Ev.look f []
noncomputable def G189 (fuel : Nat) : Nat → Option Ev.Spec := Gg189
noncomputable def S_ref02_Interval_End_0 (fuel : Nat) (v : Int × Int × Int × (List Int)) (c : (Int × Int × Int × (List Int)) → Option Ans) (B : ((List Int) → Option Ans)) : Option Ans := match v, B with
 | (x0, x1, x2, x3), b =>
  bif decide (x0 < x1) then
  bif decide (IntKind.i64.wrap ((24 : Int) - IntKind.i64.wrap ((8 : Int) * (↑x3.length : Int))) < (0 : Int)) then
  none
  else
  bif decide ((x3.length + [IntKind.u8.wrap (Ev.ishr IntKind.u64 x2 (IntKind.i64.wrap ((24 : Int) - IntKind.i64.wrap ((8 : Int) * (↑x3.length : Int)))))].length) * (1 : Nat) ≤ (140737488355328 : Nat) ∧ x3.length + [IntKind.u8.wrap (Ev.ishr IntKind.u64 x2 (IntKind.i64.wrap ((24 : Int) - IntKind.i64.wrap ((8 : Int) * (↑x3.length : Int)))))].length ≤ (140737488355328 : Nat)) then
  bif decide (IntKind.i64.wrap ((24 : Int) - IntKind.i64.wrap ((8 : Int) * (↑x3.length : Int))) < (0 : Int)) then
  none
  else
  bif decide (IntKind.i64.wrap ((24 : Int) - IntKind.i64.wrap ((8 : Int) * (↑x3.length : Int))) < (0 : Int)) then
  none
  else
  c (IntKind.u64.wrap (x0 + Ev.ishl IntKind.u64 ((Ev.ishr IntKind.u64 x2 (IntKind.i64.wrap ((24 : Int) - IntKind.i64.wrap ((8 : Int) * (↑x3.length : Int))))).tmod (256 : Int)) (IntKind.i64.wrap ((24 : Int) - IntKind.i64.wrap ((8 : Int) * (↑x3.length : Int))))), x1, x2, x3 ++ [IntKind.u8.wrap (Ev.ishr IntKind.u64 x2 (IntKind.i64.wrap ((24 : Int) - IntKind.i64.wrap ((8 : Int) * (↑x3.length : Int)))))])
  else none
  else
  b x3
noncomputable def L_ref02_Interval_End_0 (fuel : Nat) (v : Int × Int × Int × (List Int)) (b : ((List Int) → Option Ans)) : Option Ans := iter (S_ref02_Interval_End_0 fuel) fuel v b
noncomputable def J189_0 (fuel : Nat) (i : Nat) : Option Ev.Blk := Ev.look i []
noncomputable def T189_0 (v : Int × Int × Int × (List Int)) : Ev.St := match v with | (x0, x1, x2, x3) => ⟨[(1, .c (.ptr 0 0)), (3, .c (.own 1)), (4, .c (.int .u64 x0))], [(0, .cells 161 [.int .u64 x1, .int .u64 x2]), (1, .vec 5 (.int .u8) x3 true)], 2, 0⟩
noncomputable def E189_0 (K : Ev.Ex → Ev.St → Option Ans) : ((List Int) → Option Ans) := (fun v => match v with | x0 => K .normal ⟨[(3, .c (.own 0))], [(0, .vec 5 (.int .u8) x0 true)], 1, 0⟩)
theorem S189_0_ok (fuel : Nat) (R : Ev.St → Option Ans) (K : Ev.Ex → Ev.St → Option Ans) (x0 x1 x2 : Int) (x3 : (List Int)) : evalCode tab (G189 fuel) (J189_0 fuel) kp189 fuel (bodyOf 0 Try.f189) (T189_0 (x0, x1, x2, x3)) (lc kp189 3 0 R K) = S_ref02_Interval_End_0 fuel (x0, x1, x2, x3) (fun v => R (T189_0 v)) (E189_0 K) := by
  kernel_rfl
noncomputable def B189_0 (fuel : Nat) : Ev.Blk := fun st K => match canonO (kp189 3) st with
 | some s => (match s with
 | ⟨[(q0, .c (.ptr q1 q2)), (q3, .c (.own q4)), (q5, .c (.int .u64 x0))], [(q6, .cells q7 [.int .u64 x1, .int .u64 x2]), (q8, .vec q9 (.int .u8) x3 true)], q10, q11⟩ => bif Nat.beq q0 1 && Nat.beq q1 0 && Nat.beq q2 0 && Nat.beq q3 3 && Nat.beq q4 1 && Nat.beq q5 4 && Nat.beq q6 0 && Nat.beq q7 161 && Nat.beq q8 1 && Nat.beq q9 5 && Nat.beq q10 2 && Nat.beq q11 0 then iter (S_ref02_Interval_End_0 fuel) fuel (x0, x1, x2, x3) (E189_0 K) else none
 | _ => none)
 | none => none
theorem B189_0_ok (fuel : Nat) (st : Ev.St) (K : Ev.Ex → Ev.St → Option Ans) (r : Ans) (h : B189_0 fuel st K = some r) : evalCode tab (G189 fuel) (J189_0 fuel) kp189 fuel (.block 0 (.loop (bodyOf 0 Try.f189))) st K = some r := by
  unfold B189_0 at h
  split at h
  · rename_i s hs
    split at h
    · skip
      obtain ⟨hb, h⟩ := cond_some' h
      simp only [Bool.and_eq_true, Nat.beq_eq, decide_eq_true_eq] at hb
      obtain ⟨⟨⟨⟨⟨⟨⟨⟨⟨⟨⟨rfl, rfl⟩, rfl⟩, rfl⟩, rfl⟩, rfl⟩, rfl⟩, rfl⟩, rfl⟩, rfl⟩, rfl⟩, rfl⟩ := hb
      exact blk_loop (S := T189_0) (ks := E189_0) (step := S_ref02_Interval_End_0 fuel) (v := (_, _, _, _)) (by kernel_rfl) (by kernel_rfl) (fun R K v => by obtain ⟨x0, x1, x2, x3⟩ := v; exact S189_0_ok fuel R K x0 x1 x2 x3) hs h
    · cases h
  · cases h
noncomputable def J189 (fuel : Nat) (i : Nat) : Option Ev.Blk := Ev.look i [(100000, B189_0 fuel)]
noncomputable def F_ref02_Interval_End (fuel : Nat) (x0 x1 : Int) (k0 : ((List Int)) → Option Ans) : Option Ans :=
  (L_ref02_Interval_End_0 fuel ((0 : Int), x0, x1, [])
  (fun b0_0 =>
  k0 b0_0))
abbrev YF189 : Type := (Int) → (Int) → (((List Int)) → Option Ans) → Option Ans
theorem F189_eq (fuel : Nat) (x0 x1 : Int) (k : Ev.Cont) : evalFn tab (G189 fuel) (J189 fuel) kp189 fuel Try.f189 [.agg [.int .u64 x0, .int .u64 x1]] [] k = F_ref02_Interval_End fuel x0 x1 (fun r => match r with | r0 => k (.c (.own 0), [.vec 5 (.int .u8) r0 true])) := by
  kernel_rfl
theorem hG189 (fuel : Nat) : GOK Try.prog (G189 fuel) :=
  gok_nil
theorem B189_0_blk (fuel : Nat) : BlkOK Try.prog Try.f189.ntmps (.block 0 (.loop (bodyOf 0 Try.f189))) (B189_0 fuel) :=
  blk_of (blk_of_code tab_ok (hG189 fuel) mixed (J := J189_0 fuel) (kp := kp189) (fuel := fuel) (by kernel_rfl) (fun q hq => by
    rw [(by kernel_rfl : obl (J189_0 fuel) (.block 0 (.loop (bodyOf 0 Try.f189))) = [])] at hq
    cases hq)) (B189_0_ok fuel)
theorem fok189 (fuel : Nat) : FnOK Try.prog 189 (evalFn tab (G189 fuel) (J189 fuel) kp189 fuel Try.f189) :=
  fn_ok tab_ok (hG189 fuel) mixed Try.func189 (c := (Try.f189.body).getD .skip) rfl (fun q hq => by
    rw [(by kernel_rfl : obl (J189 fuel) ((Try.f189.body).getD .skip) = [(.block 0 (.loop (bodyOf 0 Try.f189)), B189_0 fuel)])] at hq
    simp only [List.mem_cons, List.not_mem_nil, or_false] at hq
    subst hq
    · exact B189_0_blk fuel)
noncomputable def mt189 : List Ev.SV → List Ev.Ob → Bool := fun args objs => match args, objs with
 | [.agg [.int .u64 _, .int .u64 _]], [] => true
 | _, _ => false
noncomputable def spg189 (F : YF189) : Ev.Spec := fun args objs k => match args, objs with
 | [.agg [.int .u64 x0, .int .u64 x1]], [] => bif true then F x0 x1 (fun r => match r with | r0 => k (.c (.own 0), [.vec 5 (.int .u8) r0 true])) else none
 | _, _ => none
noncomputable def spec189 (fuel : Nat) : Ev.Spec := spg189 (F_ref02_Interval_End fuel)
theorem ok189 (fuel : Nat) : FnOK Try.prog 189 (spec189 fuel) := by
  intro args objs kk r h
  unfold spec189 spg189 at h
  split at h
  · skip
    obtain ⟨hb, h⟩ := cond_some' h
    simp only [Bool.and_eq_true, Nat.beq_eq, decide_eq_true_eq] at hb
    clear hb
    exact fok189 fuel _ _ kk r ((F189_eq fuel _ _ kk).trans h)
  · cases h
end Go.Proofs.Ytihfgpfofmjbaaa

set_option linter.unusedVariables false
set_option linter.unusedSimpArgs false
set_option maxRecDepth 100000
set_option maxHeartbeats 2000000
namespace Go.Proofs.Ytihfgpfofmjbaaa
open Go Ev
def kp130_2fe (i : Nat) : Option (List Nat) := Ev.look i [(200003, [0])]
noncomputable def Gg130_2fe (f189 : YF189) (f : Nat) : Option Ev.Spec := Ev.look f [(189, spg189 f189)]
noncomputable def G130_2fe (fuel : Nat) : Nat → Option Ev.Spec := Gg130_2fe (F_ref02_Interval_End fuel)
noncomputable def J130_2fe (fuel : Nat) (i : Nat) : Option Ev.Blk := Ev.look i []
noncomputable def Fg_ref02_Encoder_End_2fe (fuel : Nat) (f189 : YF189) (x0 x1 x2 : Int) (x3 x4 : (List Int)) (k0 : (Int × Int × Int × (List Int) × (List Int) × (List Int)) → Option Ans) : Option Ans :=
  bif decide (((0 : Nat) + x4.length) * (1 : Nat) ≤ (140737488355328 : Nat) ∧ (0 : Nat) + x4.length ≤ (140737488355328 : Nat)) then
  (f189 (x1) (x2)
  (fun y3 =>
  bif decide ((([] ++ x4).length + y3.length) * (1 : Nat) ≤ (140737488355328 : Nat) ∧ ([] ++ x4).length + y3.length ≤ (140737488355328 : Nat)) then
  k0 (x0, x1, x2, x3, x4, [] ++ x4 ++ y3)
  else none))
  else none
noncomputable def F_ref02_Encoder_End_2fe (fuel : Nat) (x0 x1 x2 : Int) (x3 x4 : (List Int)) (k0 : (Int × Int × Int × (List Int) × (List Int) × (List Int)) → Option Ans) : Option Ans := Fg_ref02_Encoder_End_2fe fuel (F_ref02_Interval_End fuel) x0 x1 x2 x3 x4 k0
abbrev YF130_2fe : Type := (Int) → (Int) → (Int) → ((List Int)) → ((List Int)) → ((Int × Int × Int × (List Int) × (List Int) × (List Int)) → Option Ans) → Option Ans
theorem F130_2fe_eqg (fuel : Nat) (f189 : YF189) (x0 x1 x2 : Int) (x3 x4 : (List Int)) (k : Ev.Cont) : evalFn tab (Gg130_2fe f189) (J130_2fe fuel) kp130_2fe fuel Try.f130 [.c (.ptr 0 0)] [.cells 225 [.int .i64 x0, .own 1, .int .u64 x1, .int .u64 x2, .own 2], .vec 3 (.int .i64) x3 false, .vec 5 (.int .u8) x4 false] k = Fg_ref02_Encoder_End_2fe fuel f189 x0 x1 x2 x3 x4 (fun r => match r with | (r0, r1, r2, r3, r4, r5) => k (.c (.own 3), [.cells 225 [.int .i64 r0, .own 1, .int .u64 r1, .int .u64 r2, .own 2], .vec 3 (.int .i64) r3 false, .vec 5 (.int .u8) r4 false, .vec 5 (.int .u8) r5 true])) := by
  kernel_rfl
theorem F130_2fe_eq (fuel : Nat) (x0 x1 x2 : Int) (x3 x4 : (List Int)) (k : Ev.Cont) : evalFn tab (G130_2fe fuel) (J130_2fe fuel) kp130_2fe fuel Try.f130 [.c (.ptr 0 0)] [.cells 225 [.int .i64 x0, .own 1, .int .u64 x1, .int .u64 x2, .own 2], .vec 3 (.int .i64) x3 false, .vec 5 (.int .u8) x4 false] k = F_ref02_Encoder_End_2fe fuel x0 x1 x2 x3 x4 (fun r => match r with | (r0, r1, r2, r3, r4, r5) => k (.c (.own 3), [.cells 225 [.int .i64 r0, .own 1, .int .u64 r1, .int .u64 r2, .own 2], .vec 3 (.int .i64) r3 false, .vec 5 (.int .u8) r4 false, .vec 5 (.int .u8) r5 true])) :=
  F130_2fe_eqg fuel (F_ref02_Interval_End fuel) x0 x1 x2 x3 x4 k
theorem hG130_2fe (fuel : Nat) : GOK Try.prog (G130_2fe fuel) :=
  gok_cons ⟨ok189 fuel, enters_of Try.func189 (by kernel_rfl) rfl⟩ <|
  gok_nil
theorem fok130_2fe (fuel : Nat) : FnOK Try.prog 130 (evalFn tab (G130_2fe fuel) (J130_2fe fuel) kp130_2fe fuel Try.f130) :=
  fn_ok tab_ok (hG130_2fe fuel) mixed Try.func130 (c := (Try.f130.body).getD .skip) rfl (fun q hq => by
    rw [(by kernel_rfl : obl (J130_2fe fuel) ((Try.f130.body).getD .skip) = [])] at hq
    cases hq)
noncomputable def mt130_2fe : List Ev.SV → List Ev.Ob → Bool := fun args objs => match args, objs with
 | [.c (.ptr q0 q1)], [.cells q2 [.int .i64 _, .own q3, .int .u64 _, .int .u64 _, .own q4], .vec q5 (.int .i64) _ false, .vec q6 (.int .u8) _ false] => Nat.beq q0 0 && Nat.beq q1 0 && Nat.beq q2 225 && Nat.beq q3 1 && Nat.beq q4 2 && Nat.beq q5 3 && Nat.beq q6 5
 | _, _ => false
noncomputable def spg130_2fe (F : YF130_2fe) : Ev.Spec := fun args objs k => match args, objs with
 | [.c (.ptr q0 q1)], [.cells q2 [.int .i64 x0, .own q3, .int .u64 x1, .int .u64 x2, .own q4], .vec q5 (.int .i64) x3 false, .vec q6 (.int .u8) x4 false] => bif Nat.beq q0 0 && Nat.beq q1 0 && Nat.beq q2 225 && Nat.beq q3 1 && Nat.beq q4 2 && Nat.beq q5 3 && Nat.beq q6 5 then F x0 x1 x2 x3 x4 (fun r => match r with | (r0, r1, r2, r3, r4, r5) => k (.c (.own 3), [.cells 225 [.int .i64 r0, .own 1, .int .u64 r1, .int .u64 r2, .own 2], .vec 3 (.int .i64) r3 false, .vec 5 (.int .u8) r4 false, .vec 5 (.int .u8) r5 true])) else none
 | _, _ => none
noncomputable def spec130_2fe (fuel : Nat) : Ev.Spec := spg130_2fe (F_ref02_Encoder_End_2fe fuel)
theorem ok130_2fe (fuel : Nat) : FnOK Try.prog 130 (spec130_2fe fuel) := by
  intro args objs kk r h
  unfold spec130_2fe spg130_2fe at h
  split at h
  · skip
    obtain ⟨hb, h⟩ := cond_some' h
    simp only [Bool.and_eq_true, Nat.beq_eq, decide_eq_true_eq] at hb
    obtain ⟨⟨⟨⟨⟨⟨rfl, rfl⟩, rfl⟩, rfl⟩, rfl⟩, rfl⟩, rfl⟩ := hb
    exact fok130_2fe fuel _ _ kk r ((F130_2fe_eq fuel _ _ _ _ _ kk).trans h)
  · cases h
end Go.Proofs.Ytihfgpfofmjbaaa

set_option linter.unusedVariables false
set_option linter.unusedSimpArgs false
set_option maxRecDepth 100000
set_option maxHeartbeats 2000000
namespace Go.Proofs.Ytihfgpfofmjbaaa
open Go Ev
def kp187_2fe (i : Nat) : Option (List Nat) := Ev.look i []
noncomputable def Gg187_2fe (f117 : YF117) (f : Nat) : Option Ev.Spec := Ev.look f [(117, spg117 f117)]
noncomputable def G187_2fe (fuel : Nat) : Nat → Option Ev.Spec := Gg187_2fe (F_ref02_Copy fuel)
noncomputable def J187_2fe (fuel : Nat) (i : Nat) : Option Ev.Blk := Ev.look i []
noncomputable def Fg_ref02_Encoder_Model_2fe (fuel : Nat) (f117 : YF117) (x0 x1 x2 : Int) (x3 x4 : (List Int)) (k0 : (Int × Int × Int × Int × (List Int) × (List Int) × (List Int)) → Option Ans) : Option Ans :=
  (f117 (x0) (x3)
  (fun (y2_0, y2_1) =>
  k0 (y2_0, x0, x1, x2, x3, x4, y2_1)))
noncomputable def F_ref02_Encoder_Model_2fe (fuel : Nat) (x0 x1 x2 : Int) (x3 x4 : (List Int)) (k0 : (Int × Int × Int × Int × (List Int) × (List Int) × (List Int)) → Option Ans) : Option Ans := Fg_ref02_Encoder_Model_2fe fuel (F_ref02_Copy fuel) x0 x1 x2 x3 x4 k0
abbrev YF187_2fe : Type := (Int) → (Int) → (Int) → ((List Int)) → ((List Int)) → ((Int × Int × Int × Int × (List Int) × (List Int) × (List Int)) → Option Ans) → Option Ans
theorem F187_2fe_eqg (fuel : Nat) (f117 : YF117) (x0 x1 x2 : Int) (x3 x4 : (List Int)) (k : Ev.Cont) : evalFn tab (Gg187_2fe f117) (J187_2fe fuel) kp187_2fe fuel Try.f187 [.c (.ptr 0 0)] [.cells 225 [.int .i64 x0, .own 1, .int .u64 x1, .int .u64 x2, .own 2], .vec 3 (.int .i64) x3 false, .vec 5 (.int .u8) x4 false] k = Fg_ref02_Encoder_Model_2fe fuel f117 x0 x1 x2 x3 x4 (fun r => match r with | (r0, r1, r2, r3, r4, r5, r6) => k (.agg [.int .i64 r0, .own 3], [.cells 225 [.int .i64 r1, .own 1, .int .u64 r2, .int .u64 r3, .own 2], .vec 3 (.int .i64) r4 false, .vec 5 (.int .u8) r5 false, .vec 3 (.int .i64) r6 true])) := by
  kernel_rfl
theorem F187_2fe_eq (fuel : Nat) (x0 x1 x2 : Int) (x3 x4 : (List Int)) (k : Ev.Cont) : evalFn tab (G187_2fe fuel) (J187_2fe fuel) kp187_2fe fuel Try.f187 [.c (.ptr 0 0)] [.cells 225 [.int .i64 x0, .own 1, .int .u64 x1, .int .u64 x2, .own 2], .vec 3 (.int .i64) x3 false, .vec 5 (.int .u8) x4 false] k = F_ref02_Encoder_Model_2fe fuel x0 x1 x2 x3 x4 (fun r => match r with | (r0, r1, r2, r3, r4, r5, r6) => k (.agg [.int .i64 r0, .own 3], [.cells 225 [.int .i64 r1, .own 1, .int .u64 r2, .int .u64 r3, .own 2], .vec 3 (.int .i64) r4 false, .vec 5 (.int .u8) r5 false, .vec 3 (.int .i64) r6 true])) :=
  F187_2fe_eqg fuel (F_ref02_Copy fuel) x0 x1 x2 x3 x4 k
theorem hG187_2fe (fuel : Nat) : GOK Try.prog (G187_2fe fuel) :=
  gok_cons ⟨ok117 fuel, enters_of Try.func117 (by kernel_rfl) rfl⟩ <|
  gok_nil
theorem fok187_2fe (fuel : Nat) : FnOK Try.prog 187 (evalFn tab (G187_2fe fuel) (J187_2fe fuel) kp187_2fe fuel Try.f187) :=
  fn_ok tab_ok (hG187_2fe fuel) mixed Try.func187 (c := (Try.f187.body).getD .skip) rfl (fun q hq => by
    rw [(by kernel_rfl : obl (J187_2fe fuel) ((Try.f187.body).getD .skip) = [])] at hq
    cases hq)
noncomputable def mt187_2fe : List Ev.SV → List Ev.Ob → Bool := fun args objs => match args, objs with
 | [.c (.ptr q0 q1)], [.cells q2 [.int .i64 _, .own q3, .int .u64 _, .int .u64 _, .own q4], .vec q5 (.int .i64) _ false, .vec q6 (.int .u8) _ false] => Nat.beq q0 0 && Nat.beq q1 0 && Nat.beq q2 225 && Nat.beq q3 1 && Nat.beq q4 2 && Nat.beq q5 3 && Nat.beq q6 5
 | _, _ => false
noncomputable def spg187_2fe (F : YF187_2fe) : Ev.Spec := fun args objs k => match args, objs with
 | [.c (.ptr q0 q1)], [.cells q2 [.int .i64 x0, .own q3, .int .u64 x1, .int .u64 x2, .own q4], .vec q5 (.int .i64) x3 false, .vec q6 (.int .u8) x4 false] => bif Nat.beq q0 0 && Nat.beq q1 0 && Nat.beq q2 225 && Nat.beq q3 1 && Nat.beq q4 2 && Nat.beq q5 3 && Nat.beq q6 5 then F x0 x1 x2 x3 x4 (fun r => match r with | (r0, r1, r2, r3, r4, r5, r6) => k (.agg [.int .i64 r0, .own 3], [.cells 225 [.int .i64 r1, .own 1, .int .u64 r2, .int .u64 r3, .own 2], .vec 3 (.int .i64) r4 false, .vec 5 (.int .u8) r5 false, .vec 3 (.int .i64) r6 true])) else none
 | _, _ => none
noncomputable def spec187_2fe (fuel : Nat) : Ev.Spec := spg187_2fe (F_ref02_Encoder_Model_2fe fuel)
theorem ok187_2fe (fuel : Nat) : FnOK Try.prog 187 (spec187_2fe fuel) := by
  intro args objs kk r h
  unfold spec187_2fe spg187_2fe at h
  split at h
  · skip
    obtain ⟨hb, h⟩ := cond_some' h
    simp only [Bool.and_eq_true, Nat.beq_eq, decide_eq_true_eq] at hb
    obtain ⟨⟨⟨⟨⟨⟨rfl, rfl⟩, rfl⟩, rfl⟩, rfl⟩, rfl⟩, rfl⟩ := hb
    exact fok187_2fe fuel _ _ kk r ((F187_2fe_eq fuel _ _ _ _ _ kk).trans h)
  · cases h
end Go.Proofs.Ytihfgpfofmjbaaa

set_option linter.unusedVariables false
set_option linter.unusedSimpArgs false
set_option maxRecDepth 100000
set_option maxHeartbeats 2000000
namespace Go.Proofs.Ytihfgpfofmjbaaa
open Go Ev
def kp128 (i : Nat) : Option (List Nat) := Ev.look i [(600000, [])]
noncomputable def Gg128 (f116 : YF116) (f117 : YF117) (f118 : YF118) (f : Nat) : Option Ev.Spec := Ev.look f [(116, spg116 f116), (117, spg117 f117), (118, spg118 f118)]
noncomputable def G128 (fuel : Nat) : Nat → Option Ev.Spec := Gg128 (F_ref02_Valid fuel) (F_ref02_Copy fuel) (F_ref02_Whole fuel)
noncomputable def J128 (fuel : Nat) (i : Nat) : Option Ev.Blk := Ev.look i []
noncomputable def Fg_ref02_NewEncoder (fuel : Nat) (f116 : YF116) (f117 : YF117) (f118 : YF118) (x0 : Int) (x1 : (List Int)) (k0 : (Int) → Option Ans) (k1 : (Int × Int × Int × Int × (List Int) × (List Int)) → Option Ans) : Option Ans :=
  (f116 (x0) (x1)
  (fun y2 =>
  bif !y2 then
  k0 ((10 : Int))
  else
  (f117 (x0) (x1)
  (fun (y7_0, y7_1) =>
  (f118
  (fun (y11_0, y11_1) =>
  k1 ((0 : Int), y7_0, y11_0, y11_1, y7_1, [])))))))
noncomputable def F_ref02_NewEncoder (fuel : Nat) (x0 : Int) (x1 : (List Int)) (k0 : (Int) → Option Ans) (k1 : (Int × Int × Int × Int × (List Int) × (List Int)) → Option Ans) : Option Ans := Fg_ref02_NewEncoder fuel (F_ref02_Valid fuel) (F_ref02_Copy fuel) (F_ref02_Whole fuel) x0 x1 k0 k1
abbrev YF128 : Type := (Int) → ((List Int)) → ((Int) → Option Ans) → ((Int × Int × Int × Int × (List Int) × (List Int)) → Option Ans) → Option Ans
theorem F128_eqg (fuel : Nat) (f116 : YF116) (f117 : YF117) (f118 : YF118) (x0 : Int) (x1 : (List Int)) (k : Ev.Cont) : evalFn tab (Gg128 f116 f117 f118) (J128 fuel) kp128 fuel Try.f128 [.agg [.int .i64 x0, .sl (.int .i64) x1]] [] k = Fg_ref02_NewEncoder fuel f116 f117 f118 x0 x1 (fun r => match r with | r0 => k (.tup [(false, [.nilptr]), (false, [.int .i64 r0])], [])) (fun r => match r with | (r0, r1, r2, r3, r4, r5) => k (.tup [(false, [.ptr 0 0]), (false, [.int .i64 r0])], [.cells 225 [.int .i64 r1, .own 1, .int .u64 r2, .int .u64 r3, .own 2], .vec 3 (.int .i64) r4 true, .vec 5 (.int .u8) r5 true])) := by
  kernel_rfl
theorem F128_eq (fuel : Nat) (x0 : Int) (x1 : (List Int)) (k : Ev.Cont) : evalFn tab (G128 fuel) (J128 fuel) kp128 fuel Try.f128 [.agg [.int .i64 x0, .sl (.int .i64) x1]] [] k = F_ref02_NewEncoder fuel x0 x1 (fun r => match r with | r0 => k (.tup [(false, [.nilptr]), (false, [.int .i64 r0])], [])) (fun r => match r with | (r0, r1, r2, r3, r4, r5) => k (.tup [(false, [.ptr 0 0]), (false, [.int .i64 r0])], [.cells 225 [.int .i64 r1, .own 1, .int .u64 r2, .int .u64 r3, .own 2], .vec 3 (.int .i64) r4 true, .vec 5 (.int .u8) r5 true])) :=
  F128_eqg fuel (F_ref02_Valid fuel) (F_ref02_Copy fuel) (F_ref02_Whole fuel) x0 x1 k
theorem hG128 (fuel : Nat) : GOK Try.prog (G128 fuel) :=
  gok_cons ⟨ok116 fuel, enters_of Try.func116 (by kernel_rfl) rfl⟩ <|
  gok_cons ⟨ok117 fuel, enters_of Try.func117 (by kernel_rfl) rfl⟩ <|
  gok_cons ⟨ok118 fuel, enters_of Try.func118 (by kernel_rfl) rfl⟩ <|
  gok_nil
theorem fok128 (fuel : Nat) : FnOK Try.prog 128 (evalFn tab (G128 fuel) (J128 fuel) kp128 fuel Try.f128) :=
  fn_ok tab_ok (hG128 fuel) mixed Try.func128 (c := (Try.f128.body).getD .skip) rfl (fun q hq => by
    rw [(by kernel_rfl : obl (J128 fuel) ((Try.f128.body).getD .skip) = [])] at hq
    cases hq)
noncomputable def mt128 : List Ev.SV → List Ev.Ob → Bool := fun args objs => match args, objs with
 | [.agg [.int .i64 _, .sl (.int .i64) _]], [] => true
 | _, _ => false
noncomputable def spg128 (F : YF128) : Ev.Spec := fun args objs k => match args, objs with
 | [.agg [.int .i64 x0, .sl (.int .i64) x1]], [] => bif true then F x0 x1 (fun r => match r with | r0 => k (.tup [(false, [.nilptr]), (false, [.int .i64 r0])], [])) (fun r => match r with | (r0, r1, r2, r3, r4, r5) => k (.tup [(false, [.ptr 0 0]), (false, [.int .i64 r0])], [.cells 225 [.int .i64 r1, .own 1, .int .u64 r2, .int .u64 r3, .own 2], .vec 3 (.int .i64) r4 true, .vec 5 (.int .u8) r5 true])) else none
 | _, _ => none
noncomputable def spec128 (fuel : Nat) : Ev.Spec := spg128 (F_ref02_NewEncoder fuel)
theorem ok128 (fuel : Nat) : FnOK Try.prog 128 (spec128 fuel) := by
  intro args objs kk r h
  unfold spec128 spg128 at h
  split at h
  · skip
    obtain ⟨hb, h⟩ := cond_some' h
    simp only [Bool.and_eq_true, Nat.beq_eq, decide_eq_true_eq] at hb
    clear hb
    exact fok128 fuel _ _ kk r ((F128_eq fuel _ _ kk).trans h)
  · cases h
end Go.Proofs.Ytihfgpfofmjbaaa

set_option linter.unusedVariables false
set_option linter.unusedSimpArgs false
set_option maxRecDepth 100000
set_option maxHeartbeats 2000000
namespace Go.Proofs.Ytihfgpfofmjbaaa
open Go Ev
def kp161 (i : Nat) : Option (List Nat) := Ev.look i []
noncomputable def Gg161 (f : Nat) : Option Ev.Spec := Ev.look f []
noncomputable def G161 (fuel : Nat) : Nat → Option Ev.Spec := Gg161
noncomputable def J161 (fuel : Nat) (i : Nat) : Option Ev.Blk := Ev.look i []
noncomputable def F_bytes_Equal (fuel : Nat) (x0 x1 : (List Int)) (k0 : (Bool) → Option Ans) : Option Ans :=
  k0 ((Go.strOfNums x0).toList == (Go.strOfNums x1).toList)
abbrev YF161 : Type := ((List Int)) → ((List Int)) → ((Bool) → Option Ans) → Option Ans
theorem F161_eq (fuel : Nat) (x0 x1 : (List Int)) (k : Ev.Cont) : evalFn tab (G161 fuel) (J161 fuel) kp161 fuel Try.f161 [.c (.sl (.int .u8) x0), .c (.sl (.int .u8) x1)] [] k = F_bytes_Equal fuel x0 x1 (fun r => match r with | r0 => k (.c (.bool r0), [])) := by
  kernel_rfl
theorem hG161 (fuel : Nat) : GOK Try.prog (G161 fuel) :=
  gok_nil
theorem fok161 (fuel : Nat) : FnOK Try.prog 161 (evalFn tab (G161 fuel) (J161 fuel) kp161 fuel Try.f161) :=
  fn_ok tab_ok (hG161 fuel) mixed Try.func161 (c := (Try.f161.body).getD .skip) rfl (fun q hq => by
    rw [(by kernel_rfl : obl (J161 fuel) ((Try.f161.body).getD .skip) = [])] at hq
    cases hq)
noncomputable def mt161 : List Ev.SV → List Ev.Ob → Bool := fun args objs => match args, objs with
 | [.c (.sl (.int .u8) _), .c (.sl (.int .u8) _)], [] => true
 | _, _ => false
noncomputable def spg161 (F : YF161) : Ev.Spec := fun args objs k => match args, objs with
 | [.c (.sl (.int .u8) x0), .c (.sl (.int .u8) x1)], [] => bif true then F x0 x1 (fun r => match r with | r0 => k (.c (.bool r0), [])) else none
 | _, _ => none
noncomputable def spec161 (fuel : Nat) : Ev.Spec := spg161 (F_bytes_Equal fuel)
theorem ok161 (fuel : Nat) : FnOK Try.prog 161 (spec161 fuel) := by
  intro args objs kk r h
  unfold spec161 spg161 at h
  split at h
  · skip
    obtain ⟨hb, h⟩ := cond_some' h
    simp only [Bool.and_eq_true, Nat.beq_eq, decide_eq_true_eq] at hb
    clear hb
    exact fok161 fuel _ _ kk r ((F161_eq fuel _ _ kk).trans h)
  · cases h
end Go.Proofs.Ytihfgpfofmjbaaa

set_option linter.unusedVariables false
set_option linter.unusedSimpArgs false
set_option maxRecDepth 100000
set_option maxHeartbeats 2000000
namespace Go.Proofs.Ytihfgpfofmjbaaa
open Go Ev
def kp162_b9e (i : Nat) : Option (List Nat) := Ev.look i [(3, [0, 1, 5, 7, 15, 16]), (100000, [7]), (200005, [0, 5]), (400000, [6])]
noncomputable def Gg162_b9e (f163 : YF163) (f199_a34 : YF199_a34) (f : Nat) : Option Ev.Spec := Ev.look f [(163, spg163 f163), (199, spg199_a34 f199_a34)]
noncomputable def G162_b9e (fuel : Nat) : Nat → Option Ev.Spec := Gg162_b9e (F_generic_skips fuel) (F_generic_plane_at_a34 fuel)
noncomputable def Sg_generic_plane_above_b9e_0 (fuel : Nat) (f163 : YF163) (f199_a34 : YF199_a34) (x0 x1 : Int) (x2 x3 x4 : Int) (x5 : (List Int)) (x6 : (List (Int × Int))) (x7 x8 : Int) (x9 x10 : (List Int)) (c : (Int × Int × Int × Int × Int × (List Int) × (List (Int × Int)) × Int × Int × (List Int) × (List Int)) → Option Ans) (B : (Int × Int × (List Int) × (List (Int × Int)) × (List Int) → Option Ans)) : Option Ans := match B with
 | b =>
  bif decide (x2 < x1) then
  (f163 (x7) (x8) (x9) (IntKind.i64.wrap (IntKind.i64.wrap (x0 * x3) + x2))
  (fun y3 =>
  bif !y3 then
  (f199_a34 (x2) (IntKind.i64.wrap (x0 - (1 : Int))) (x3) (x4) (x5) (x6)
  (fun (y8_0, y8_1, y8_2, y8_3, y8_4) =>
  bif decide ((0 : Int) ≤ x2 ∧ x2 < (↑x10.length : Int)) then
  c (x0, x1, IntKind.i64.wrap (x2 + (1 : Int)), y8_1, y8_2, y8_3, y8_4, x7, x8, x9, x10.set x2.toNat y8_0)
  else none))
  else
  c (x0, x1, IntKind.i64.wrap (x2 + (1 : Int)), x3, x4, x5, x6, x7, x8, x9, x10)))
  else
  b (x3, x4, x5, x6, x10)
noncomputable def S_generic_plane_above_b9e_0 (fuel : Nat) (v : Int × Int × Int × Int × Int × (List Int) × (List (Int × Int)) × Int × Int × (List Int) × (List Int)) (c : (Int × Int × Int × Int × Int × (List Int) × (List (Int × Int)) × Int × Int × (List Int) × (List Int)) → Option Ans) (B : (Int × Int × (List Int) × (List (Int × Int)) × (List Int) → Option Ans)) : Option Ans := match v with
 | (x0, x1, x2, x3, x4, x5, x6, x7, x8, x9, x10) => Sg_generic_plane_above_b9e_0 fuel (F_generic_skips fuel) (F_generic_plane_at_a34 fuel) x0 x1 x2 x3 x4 x5 x6 x7 x8 x9 x10 c B
noncomputable def L_generic_plane_above_b9e_0 (fuel : Nat) (v : Int × Int × Int × Int × Int × (List Int) × (List (Int × Int)) × Int × Int × (List Int) × (List Int)) (b : (Int × Int × (List Int) × (List (Int × Int)) × (List Int) → Option Ans)) : Option Ans := iter (S_generic_plane_above_b9e_0 fuel) fuel v b
noncomputable def J162_b9e_0 (fuel : Nat) (i : Nat) : Option Ev.Blk := Ev.look i []
noncomputable def T162_b9e_0 (v : Int × Int × Int × Int × Int × (List Int) × (List (Int × Int)) × Int × Int × (List Int) × (List Int)) : Ev.St := match v with | (x0, x1, x2, x3, x4, x5, x6, x7, x8, x9, x10) => ⟨[(0, .c (.ptr 0 0)), (1, .c (.int .i64 x0)), (5, .c (.ptr 2 0)), (7, .c (.own 3)), (15, .c (.int .i64 x1)), (16, .c (.int .i64 x2))], [(0, .cells 137 [.int .i64 x3, .int .i64 x4, .sl (.int .u8) x5, .own 1]), (1, .vec 44 (.pair (.int .i64) (.int .i64)) x6 false), (2, .cells 39 [.int .i64 x7, .int .i64 x8, .sl (.int .u8) x9]), (3, .vec 5 (.int .u8) x10 true)], 4, 2⟩
noncomputable def E162_b9e_0 (K : Ev.Ex → Ev.St → Option Ans) : (Int × Int × (List Int) × (List (Int × Int)) × (List Int) → Option Ans) := (fun v => match v with | (x0, x1, x2, x3, x4) => K .normal ⟨[(7, .c (.own 2))], [(0, .cells 137 [.int .i64 x0, .int .i64 x1, .sl (.int .u8) x2, .own 1]), (1, .vec 44 (.pair (.int .i64) (.int .i64)) x3 false), (2, .vec 5 (.int .u8) x4 true)], 3, 2⟩)
theorem S162_b9e_0_okg (fuel : Nat) (f163 : YF163) (f199_a34 : YF199_a34) (R : Ev.St → Option Ans) (K : Ev.Ex → Ev.St → Option Ans) (x0 x1 : Int) (x2 x3 x4 : Int) (x5 : (List Int)) (x6 : (List (Int × Int))) (x7 x8 : Int) (x9 x10 : (List Int)) : evalCode tab (Gg162_b9e f163 f199_a34) (J162_b9e_0 fuel) kp162_b9e fuel (bodyOf 0 Try.f162) (T162_b9e_0 (x0, x1, x2, x3, x4, x5, x6, x7, x8, x9, x10)) (lc kp162_b9e 3 0 R K) = Sg_generic_plane_above_b9e_0 fuel f163 f199_a34 x0 x1 x2 x3 x4 x5 x6 x7 x8 x9 x10 (fun v => R (T162_b9e_0 v)) (E162_b9e_0 K) := by
  kernel_rfl
theorem S162_b9e_0_ok (fuel : Nat) (R : Ev.St → Option Ans) (K : Ev.Ex → Ev.St → Option Ans) (x0 x1 : Int) (x2 x3 x4 : Int) (x5 : (List Int)) (x6 : (List (Int × Int))) (x7 x8 : Int) (x9 x10 : (List Int)) : evalCode tab (G162_b9e fuel) (J162_b9e_0 fuel) kp162_b9e fuel (bodyOf 0 Try.f162) (T162_b9e_0 (x0, x1, x2, x3, x4, x5, x6, x7, x8, x9, x10)) (lc kp162_b9e 3 0 R K) = S_generic_plane_above_b9e_0 fuel (x0, x1, x2, x3, x4, x5, x6, x7, x8, x9, x10) (fun v => R (T162_b9e_0 v)) (E162_b9e_0 K) :=
  S162_b9e_0_okg fuel (F_generic_skips fuel) (F_generic_plane_at_a34 fuel) R K x0 x1 x2 x3 x4 x5 x6 x7 x8 x9 x10
noncomputable def B162_b9e_0 (fuel : Nat) : Ev.Blk := fun st K => match canonO (kp162_b9e 3) st with
 | some s => (match s with
 | ⟨[(q0, .c (.ptr q1 q2)), (q3, .c (.int .i64 x0)), (q4, .c (.ptr q5 q6)), (q7, .c (.own q8)), (q9, .c (.int .i64 x1)), (q10, .c (.int .i64 x2))], [(q11, .cells q12 [.int .i64 x3, .int .i64 x4, .sl (.int .u8) x5, .own q13]), (q14, .vec q15 (.pair (.int .i64) (.int .i64)) x6 false), (q16, .cells q17 [.int .i64 x7, .int .i64 x8, .sl (.int .u8) x9]), (q18, .vec q19 (.int .u8) x10 true)], q20, q21⟩ => bif Nat.beq q0 0 && Nat.beq q1 0 && Nat.beq q2 0 && Nat.beq q3 1 && Nat.beq q4 5 && Nat.beq q5 2 && Nat.beq q6 0 && Nat.beq q7 7 && Nat.beq q8 3 && Nat.beq q9 15 && Nat.beq q10 16 && Nat.beq q11 0 && Nat.beq q12 137 && Nat.beq q13 1 && Nat.beq q14 1 && Nat.beq q15 44 && Nat.beq q16 2 && Nat.beq q17 39 && Nat.beq q18 3 && Nat.beq q19 5 && Nat.beq q20 4 && Nat.beq q21 2 then iter (S_generic_plane_above_b9e_0 fuel) fuel (x0, x1, x2, x3, x4, x5, x6, x7, x8, x9, x10) (E162_b9e_0 K) else none
 | _ => none)
 | none => none
theorem B162_b9e_0_ok (fuel : Nat) (st : Ev.St) (K : Ev.Ex → Ev.St → Option Ans) (r : Ans) (h : B162_b9e_0 fuel st K = some r) : evalCode tab (G162_b9e fuel) (J162_b9e_0 fuel) kp162_b9e fuel (.block 0 (.loop (bodyOf 0 Try.f162))) st K = some r := by
  unfold B162_b9e_0 at h
  split at h
  · rename_i s hs
    split at h
    · skip
      obtain ⟨hb, h⟩ := cond_some' h
      simp only [Bool.and_eq_true, Nat.beq_eq, decide_eq_true_eq] at hb
      obtain ⟨⟨⟨⟨⟨⟨⟨⟨⟨⟨⟨⟨⟨⟨⟨⟨⟨⟨⟨⟨⟨rfl, rfl⟩, rfl⟩, rfl⟩, rfl⟩, rfl⟩, rfl⟩, rfl⟩, rfl⟩, rfl⟩, rfl⟩, rfl⟩, rfl⟩, rfl⟩, rfl⟩, rfl⟩, rfl⟩, rfl⟩, rfl⟩, rfl⟩, rfl⟩, rfl⟩ := hb
      exact blk_loop (S := T162_b9e_0) (ks := E162_b9e_0) (step := S_generic_plane_above_b9e_0 fuel) (v := (_, _, _, _, _, _, _, _, _, _, _)) (by kernel_rfl) (by kernel_rfl) (fun R K v => by obtain ⟨x0, x1, x2, x3, x4, x5, x6, x7, x8, x9, x10⟩ := v; exact S162_b9e_0_ok fuel R K x0 x1 x2 x3 x4 x5 x6 x7 x8 x9 x10) hs h
    · cases h
  · cases h
noncomputable def J162_b9e (fuel : Nat) (i : Nat) : Option Ev.Blk := Ev.look i [(100000, B162_b9e_0 fuel)]
noncomputable def Fg_generic_plane_above_b9e (fuel : Nat) (f163 : YF163) (f199_a34 : YF199_a34) (x0 x1 x2 : Int) (x3 : (List Int)) (x4 x5 : Int) (x6 : (List Int)) (x7 : (List (Int × Int))) (k0 : (Int × Int × (List Int) × (List (Int × Int)) × (List Int)) → Option Ans) : Option Ans :=
  bif decide ((0 : Int) ≤ x4 ∧ x4 = x4 ∧ (↑(1 : Nat) : Int) * x4 ≤ (281474976710656 : Int) ∧ x4 ≤ (281474976710656 : Int)) then
  (L_generic_plane_above_b9e_0 fuel (x0, (↑(List.replicate x4.toNat (0 : Int)).length : Int), (0 : Int), x4, x5, x6, x7, x1, x2, x3, List.replicate x4.toNat (0 : Int))
  (fun (b0_0, b0_1, b0_2, b0_3, b0_4) =>
  k0 (b0_0, b0_1, b0_2, b0_3, b0_4)))
  else none
noncomputable def F_generic_plane_above_b9e (fuel : Nat) (x0 x1 x2 : Int) (x3 : (List Int)) (x4 x5 : Int) (x6 : (List Int)) (x7 : (List (Int × Int))) (k0 : (Int × Int × (List Int) × (List (Int × Int)) × (List Int)) → Option Ans) : Option Ans := Fg_generic_plane_above_b9e fuel (F_generic_skips fuel) (F_generic_plane_at_a34 fuel) x0 x1 x2 x3 x4 x5 x6 x7 k0
abbrev YF162_b9e : Type := (Int) → (Int) → (Int) → ((List Int)) → (Int) → (Int) → ((List Int)) → ((List (Int × Int))) → ((Int × Int × (List Int) × (List (Int × Int)) × (List Int)) → Option Ans) → Option Ans
theorem F162_b9e_eqg (fuel : Nat) (f163 : YF163) (f199_a34 : YF199_a34) (x0 x1 x2 : Int) (x3 : (List Int)) (x4 x5 : Int) (x6 : (List Int)) (x7 : (List (Int × Int))) (k : Ev.Cont) : evalFn tab (Gg162_b9e f163 f199_a34) (J162_b9e fuel) kp162_b9e fuel Try.f162 [.c (.ptr 0 0), .c (.int .i64 x0), .agg [.int .i64 x1, .int .i64 x2, .sl (.int .u8) x3]] [.cells 137 [.int .i64 x4, .int .i64 x5, .sl (.int .u8) x6, .own 1], .vec 44 (.pair (.int .i64) (.int .i64)) x7 false] k = Fg_generic_plane_above_b9e fuel f163 f199_a34 x0 x1 x2 x3 x4 x5 x6 x7 (fun r => match r with | (r0, r1, r2, r3, r4) => k (.c (.own 2), [.cells 137 [.int .i64 r0, .int .i64 r1, .sl (.int .u8) r2, .own 1], .vec 44 (.pair (.int .i64) (.int .i64)) r3 false, .vec 5 (.int .u8) r4 true])) := by
  kernel_rfl
theorem F162_b9e_eq (fuel : Nat) (x0 x1 x2 : Int) (x3 : (List Int)) (x4 x5 : Int) (x6 : (List Int)) (x7 : (List (Int × Int))) (k : Ev.Cont) : evalFn tab (G162_b9e fuel) (J162_b9e fuel) kp162_b9e fuel Try.f162 [.c (.ptr 0 0), .c (.int .i64 x0), .agg [.int .i64 x1, .int .i64 x2, .sl (.int .u8) x3]] [.cells 137 [.int .i64 x4, .int .i64 x5, .sl (.int .u8) x6, .own 1], .vec 44 (.pair (.int .i64) (.int .i64)) x7 false] k = F_generic_plane_above_b9e fuel x0 x1 x2 x3 x4 x5 x6 x7 (fun r => match r with | (r0, r1, r2, r3, r4) => k (.c (.own 2), [.cells 137 [.int .i64 r0, .int .i64 r1, .sl (.int .u8) r2, .own 1], .vec 44 (.pair (.int .i64) (.int .i64)) r3 false, .vec 5 (.int .u8) r4 true])) :=
  F162_b9e_eqg fuel (F_generic_skips fuel) (F_generic_plane_at_a34 fuel) x0 x1 x2 x3 x4 x5 x6 x7 k
theorem hG162_b9e (fuel : Nat) : GOK Try.prog (G162_b9e fuel) :=
  gok_cons ⟨ok163 fuel, enters_of Try.func163 (by kernel_rfl) rfl⟩ <|
  gok_cons ⟨ok199_a34 fuel, enters_of Try.func199 (by kernel_rfl) rfl⟩ <|
  gok_nil
theorem B162_b9e_0_blk (fuel : Nat) : BlkOK Try.prog Try.f162.ntmps (.block 0 (.loop (bodyOf 0 Try.f162))) (B162_b9e_0 fuel) :=
  blk_of (blk_of_code tab_ok (hG162_b9e fuel) mixed (J := J162_b9e_0 fuel) (kp := kp162_b9e) (fuel := fuel) (by kernel_rfl) (fun q hq => by
    rw [(by kernel_rfl : obl (J162_b9e_0 fuel) (.block 0 (.loop (bodyOf 0 Try.f162))) = [])] at hq
    cases hq)) (B162_b9e_0_ok fuel)
theorem fok162_b9e (fuel : Nat) : FnOK Try.prog 162 (evalFn tab (G162_b9e fuel) (J162_b9e fuel) kp162_b9e fuel Try.f162) :=
  fn_ok tab_ok (hG162_b9e fuel) mixed Try.func162 (c := (Try.f162.body).getD .skip) rfl (fun q hq => by
    rw [(by kernel_rfl : obl (J162_b9e fuel) ((Try.f162.body).getD .skip) = [(.block 0 (.loop (bodyOf 0 Try.f162)), B162_b9e_0 fuel)])] at hq
    simp only [List.mem_cons, List.not_mem_nil, or_false] at hq
    subst hq
    · exact B162_b9e_0_blk fuel)
noncomputable def mt162_b9e : List Ev.SV → List Ev.Ob → Bool := fun args objs => match args, objs with
 | [.c (.ptr q0 q1), .c (.int .i64 _), .agg [.int .i64 _, .int .i64 _, .sl (.int .u8) _]], [.cells q2 [.int .i64 _, .int .i64 _, .sl (.int .u8) _, .own q3], .vec q4 (.pair (.int .i64) (.int .i64)) _ false] => Nat.beq q0 0 && Nat.beq q1 0 && Nat.beq q2 137 && Nat.beq q3 1 && Nat.beq q4 44
 | _, _ => false
noncomputable def spg162_b9e (F : YF162_b9e) : Ev.Spec := fun args objs k => match args, objs with
 | [.c (.ptr q0 q1), .c (.int .i64 x0), .agg [.int .i64 x1, .int .i64 x2, .sl (.int .u8) x3]], [.cells q2 [.int .i64 x4, .int .i64 x5, .sl (.int .u8) x6, .own q3], .vec q4 (.pair (.int .i64) (.int .i64)) x7 false] => bif Nat.beq q0 0 && Nat.beq q1 0 && Nat.beq q2 137 && Nat.beq q3 1 && Nat.beq q4 44 then F x0 x1 x2 x3 x4 x5 x6 x7 (fun r => match r with | (r0, r1, r2, r3, r4) => k (.c (.own 2), [.cells 137 [.int .i64 r0, .int .i64 r1, .sl (.int .u8) r2, .own 1], .vec 44 (.pair (.int .i64) (.int .i64)) r3 false, .vec 5 (.int .u8) r4 true])) else none
 | _, _ => none
noncomputable def spec162_b9e (fuel : Nat) : Ev.Spec := spg162_b9e (F_generic_plane_above_b9e fuel)
theorem ok162_b9e (fuel : Nat) : FnOK Try.prog 162 (spec162_b9e fuel) := by
  intro args objs kk r h
  unfold spec162_b9e spg162_b9e at h
  split at h
  · skip
    obtain ⟨hb, h⟩ := cond_some' h
    simp only [Bool.and_eq_true, Nat.beq_eq, decide_eq_true_eq] at hb
    obtain ⟨⟨⟨⟨rfl, rfl⟩, rfl⟩, rfl⟩, rfl⟩ := hb
    exact fok162_b9e fuel _ _ kk r ((F162_b9e_eq fuel _ _ _ _ _ _ _ _ kk).trans h)
  · cases h
end Go.Proofs.Ytihfgpfofmjbaaa

