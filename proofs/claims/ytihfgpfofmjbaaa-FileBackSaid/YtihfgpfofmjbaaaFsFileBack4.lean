/- What the functions that FileBack reaches do: their typed texts, each with the proof that the machine does it. No condition. -/
import Derived.Test.YtihfgpfofmjbaaaEvX
import Derived.Test.YtihfgpfofmjbaaaFsFileBack3
import Derived.Test.YtihfgpfofmjbaaaFsFileBack2
import Derived.Test.YtihfgpfofmjbaaaFsFileBack1
set_option linter.unusedVariables false
set_option linter.unusedSimpArgs false
set_option linter.unusedVariables false
set_option linter.unusedSimpArgs false
set_option maxRecDepth 100000
set_option maxHeartbeats 2000000
namespace Go.Proofs.Ytihfgpfofmjbaaa
open Go Ev
def kp104 (i : Nat) : Option (List Nat) := Ev.look i [(6, [0, 3, 5, 6]), (100000, [3]), (400000, [2])]
noncomputable def Gg104 (f174_6fe : YF174_6fe) (f175_bb9 : YF175_bb9) (f176_4ba : YF176_4ba) (f177_775 : YF177_775) (f : Nat) : Option Ev.Spec := Ev.look f [(174, spg174_6fe f174_6fe), (175, spg175_bb9 f175_bb9), (176, spg176_4ba f176_4ba), (177, spg177_775 f177_775)]
noncomputable def G104 (fuel : Nat) : Nat → Option Ev.Spec := Gg104 (F_ref14_Parsed_failed_6fe fuel) (F_ref14_Parsed_header_bb9 fuel) (F_ref14_Parsed_data_4ba fuel) (F_ref14_Parsed_ordered_775 fuel)
noncomputable def Sg_ref14_Embedded_0 (fuel : Nat) (f174_6fe : YF174_6fe) (f175_bb9 : YF175_bb9) (f176_4ba : YF176_4ba) (f177_775 : YF177_775) (x0 : (List Int)) (x1 x2 : Int) (x3 x4 x5 : Int) (x6 : (List (Int × (Int × (Int × ((List Int) × ((List Bool) × (List Int)))))))) (x7 : (List Int)) (x8 : (List (Int × Int))) (c : ((List Int) × Int × Int × Int × Int × Int × (List (Int × (Int × (Int × ((List Int) × ((List Bool) × (List Int))))))) × (List Int) × (List (Int × Int))) → Option Ans) (B : (Int × Int × Int × (List (Int × (Int × (Int × ((List Int) × ((List Bool) × (List Int))))))) × (List Int) × (List (Int × Int)) → Option Ans) × (Int × Int × Int × (List (Int × (Int × (Int × ((List Int) × ((List Bool) × (List Int))))))) × (List Int) × (List (Int × Int)) → Option Ans)) : Option Ans := match B with
 | (ret, b) =>
  bif decide (x2 < (↑x0.length : Int)) then
  (f175_bb9 (x0) (x2) (x3) (x4) (x5) (x6) (x7) (x8)
  (fun (y3_0, y3_1, y3_2, y3_3, y3_4, y3_5, y3_6) =>
  bif y3_0 == (0 : Int) then
  ret (y3_1, y3_2, y3_3, y3_4, y3_5, y3_6)
  else
  bif decide ((0 : Int) ≤ x1 ∧ x1 < (↑y3_4.length : Int)) then
  bif (y3_4.getD x1.toNat ((0 : Int), (0 : Int), (0 : Int), [], [], [])).snd.fst == (9 : Int) then
  (f174_6fe (x2) ((60 : Int)) (y3_1) (y3_2) (y3_3) (y3_4) (y3_5) (y3_6)
  (fun (y10_0, y10_1, y10_2, y10_3, y10_4, y10_5) =>
  ret (y10_0, y10_1, y10_2, y10_3, y10_4, y10_5)))
  else
  (f176_4ba (x0) (x1) (y3_0) (y3_1) (y3_2) (y3_3) (y3_4) (y3_5) (y3_6)
  (fun (y10_0, y10_1, y10_2, y10_3, y10_4, y10_5, y10_6, y10_7) =>
  bif !y10_1 then
  ret (y10_2, y10_3, y10_4, y10_5, y10_6, y10_7)
  else
  c (x0, IntKind.i64.wrap (x1 + (1 : Int)), y10_0, y10_2, y10_3, y10_4, y10_5, y10_6, y10_7)))
  else none)
  (fun (y3_0, y3_1, y3_2, y3_3, y3_4, y3_5, y3_6) =>
  bif y3_0 == (0 : Int) then
  ret (y3_1, y3_2, y3_3, y3_4, y3_5, y3_6)
  else
  bif decide ((0 : Int) ≤ x1 ∧ x1 < (↑y3_4.length : Int)) then
  bif (y3_4.getD x1.toNat ((0 : Int), (0 : Int), (0 : Int), [], [], [])).snd.fst == (9 : Int) then
  (f174_6fe (x2) ((60 : Int)) (y3_1) (y3_2) (y3_3) (y3_4) (y3_5) (y3_6)
  (fun (y10_0, y10_1, y10_2, y10_3, y10_4, y10_5) =>
  ret (y10_0, y10_1, y10_2, y10_3, y10_4, y10_5)))
  else
  (f176_4ba (x0) (x1) (y3_0) (y3_1) (y3_2) (y3_3) (y3_4) (y3_5) (y3_6)
  (fun (y10_0, y10_1, y10_2, y10_3, y10_4, y10_5, y10_6, y10_7) =>
  bif !y10_1 then
  ret (y10_2, y10_3, y10_4, y10_5, y10_6, y10_7)
  else
  c (x0, IntKind.i64.wrap (x1 + (1 : Int)), y10_0, y10_2, y10_3, y10_4, y10_5, y10_6, y10_7)))
  else none))
  else
  b (x3, x4, x5, x6, x7, x8)
noncomputable def S_ref14_Embedded_0 (fuel : Nat) (v : (List Int) × Int × Int × Int × Int × Int × (List (Int × (Int × (Int × ((List Int) × ((List Bool) × (List Int))))))) × (List Int) × (List (Int × Int))) (c : ((List Int) × Int × Int × Int × Int × Int × (List (Int × (Int × (Int × ((List Int) × ((List Bool) × (List Int))))))) × (List Int) × (List (Int × Int))) → Option Ans) (B : (Int × Int × Int × (List (Int × (Int × (Int × ((List Int) × ((List Bool) × (List Int))))))) × (List Int) × (List (Int × Int)) → Option Ans) × (Int × Int × Int × (List (Int × (Int × (Int × ((List Int) × ((List Bool) × (List Int))))))) × (List Int) × (List (Int × Int)) → Option Ans)) : Option Ans := match v with
 | (x0, x1, x2, x3, x4, x5, x6, x7, x8) => Sg_ref14_Embedded_0 fuel (F_ref14_Parsed_failed_6fe fuel) (F_ref14_Parsed_header_bb9 fuel) (F_ref14_Parsed_data_4ba fuel) (F_ref14_Parsed_ordered_775 fuel) x0 x1 x2 x3 x4 x5 x6 x7 x8 c B
noncomputable def L_ref14_Embedded_0 (fuel : Nat) (v : (List Int) × Int × Int × Int × Int × Int × (List (Int × (Int × (Int × ((List Int) × ((List Bool) × (List Int))))))) × (List Int) × (List (Int × Int))) (ret : (Int × Int × Int × (List (Int × (Int × (Int × ((List Int) × ((List Bool) × (List Int))))))) × (List Int) × (List (Int × Int)) → Option Ans)) (b : (Int × Int × Int × (List (Int × (Int × (Int × ((List Int) × ((List Bool) × (List Int))))))) × (List Int) × (List (Int × Int)) → Option Ans)) : Option Ans := iter (S_ref14_Embedded_0 fuel) fuel v (ret, b)
noncomputable def J104_0 (fuel : Nat) (i : Nat) : Option Ev.Blk := Ev.look i []
noncomputable def T104_0 (v : (List Int) × Int × Int × Int × Int × Int × (List (Int × (Int × (Int × ((List Int) × ((List Bool) × (List Int))))))) × (List Int) × (List (Int × Int))) : Ev.St := match v with | (x0, x1, x2, x3, x4, x5, x6, x7, x8) => ⟨[(0, .c (.sl (.int .u8) x0)), (3, .c (.ptr 0 0)), (5, .c (.int .i64 x1)), (6, .c (.int .i64 x2))], [(0, .cells 145 [.int .i64 x3, .own 1, .own 2, .own 3, .int .i64 x4, .int .i64 x5]), (1, .vec 103 (.pair (.int .i64) (.pair (.int .i64) (.pair (.int .i64) (.pair (.sl (.int .i64)) (.pair (.sl .bool) (.sl (.int .u8))))))) x6 true), (2, .vec 3 (.int .i64) x7 true), (3, .vec 44 (.pair (.int .i64) (.int .i64)) x8 true)], 4, 0⟩
noncomputable def E104_0 (K : Ev.Ex → Ev.St → Option Ans) : (Int × Int × Int × (List (Int × (Int × (Int × ((List Int) × ((List Bool) × (List Int))))))) × (List Int) × (List (Int × Int)) → Option Ans) × (Int × Int × Int × (List (Int × (Int × (Int × ((List Int) × ((List Bool) × (List Int))))))) × (List Int) × (List (Int × Int)) → Option Ans) := ((fun v => match v with | (x0, x1, x2, x3, x4, x5) => K .ret ⟨[(2, .c (.ptr 0 0))], [(0, .cells 145 [.int .i64 x0, .own 1, .own 2, .own 3, .int .i64 x1, .int .i64 x2]), (1, .vec 103 (.pair (.int .i64) (.pair (.int .i64) (.pair (.int .i64) (.pair (.sl (.int .i64)) (.pair (.sl .bool) (.sl (.int .u8))))))) x3 true), (2, .vec 3 (.int .i64) x4 true), (3, .vec 44 (.pair (.int .i64) (.int .i64)) x5 true)], 4, 0⟩), (fun v => match v with | (x0, x1, x2, x3, x4, x5) => K .normal ⟨[(3, .c (.ptr 0 0))], [(0, .cells 145 [.int .i64 x0, .own 1, .own 2, .own 3, .int .i64 x1, .int .i64 x2]), (1, .vec 103 (.pair (.int .i64) (.pair (.int .i64) (.pair (.int .i64) (.pair (.sl (.int .i64)) (.pair (.sl .bool) (.sl (.int .u8))))))) x3 true), (2, .vec 3 (.int .i64) x4 true), (3, .vec 44 (.pair (.int .i64) (.int .i64)) x5 true)], 4, 0⟩))
theorem S104_0_okg (fuel : Nat) (f174_6fe : YF174_6fe) (f175_bb9 : YF175_bb9) (f176_4ba : YF176_4ba) (f177_775 : YF177_775) (R : Ev.St → Option Ans) (K : Ev.Ex → Ev.St → Option Ans) (x0 : (List Int)) (x1 x2 : Int) (x3 x4 x5 : Int) (x6 : (List (Int × (Int × (Int × ((List Int) × ((List Bool) × (List Int)))))))) (x7 : (List Int)) (x8 : (List (Int × Int))) : evalCode tab (Gg104 f174_6fe f175_bb9 f176_4ba f177_775) (J104_0 fuel) kp104 fuel (bodyOf 0 Try.f104) (T104_0 (x0, x1, x2, x3, x4, x5, x6, x7, x8)) (lc kp104 6 0 R K) = Sg_ref14_Embedded_0 fuel f174_6fe f175_bb9 f176_4ba f177_775 x0 x1 x2 x3 x4 x5 x6 x7 x8 (fun v => R (T104_0 v)) (E104_0 K) := by
  kernel_rfl
theorem S104_0_ok (fuel : Nat) (R : Ev.St → Option Ans) (K : Ev.Ex → Ev.St → Option Ans) (x0 : (List Int)) (x1 x2 : Int) (x3 x4 x5 : Int) (x6 : (List (Int × (Int × (Int × ((List Int) × ((List Bool) × (List Int)))))))) (x7 : (List Int)) (x8 : (List (Int × Int))) : evalCode tab (G104 fuel) (J104_0 fuel) kp104 fuel (bodyOf 0 Try.f104) (T104_0 (x0, x1, x2, x3, x4, x5, x6, x7, x8)) (lc kp104 6 0 R K) = S_ref14_Embedded_0 fuel (x0, x1, x2, x3, x4, x5, x6, x7, x8) (fun v => R (T104_0 v)) (E104_0 K) :=
  S104_0_okg fuel (F_ref14_Parsed_failed_6fe fuel) (F_ref14_Parsed_header_bb9 fuel) (F_ref14_Parsed_data_4ba fuel) (F_ref14_Parsed_ordered_775 fuel) R K x0 x1 x2 x3 x4 x5 x6 x7 x8
noncomputable def B104_0 (fuel : Nat) : Ev.Blk := fun st K => match canonO (kp104 6) st with
 | some s => (match s with
 | ⟨[(q0, .c (.sl (.int .u8) x0)), (q1, .c (.ptr q2 q3)), (q4, .c (.int .i64 x1)), (q5, .c (.int .i64 x2))], [(q6, .cells q7 [.int .i64 x3, .own q8, .own q9, .own q10, .int .i64 x4, .int .i64 x5]), (q11, .vec q12 (.pair (.int .i64) (.pair (.int .i64) (.pair (.int .i64) (.pair (.sl (.int .i64)) (.pair (.sl .bool) (.sl (.int .u8))))))) x6 true), (q13, .vec q14 (.int .i64) x7 true), (q15, .vec q16 (.pair (.int .i64) (.int .i64)) x8 true)], q17, q18⟩ => bif Nat.beq q0 0 && Nat.beq q1 3 && Nat.beq q2 0 && Nat.beq q3 0 && Nat.beq q4 5 && Nat.beq q5 6 && Nat.beq q6 0 && Nat.beq q7 145 && Nat.beq q8 1 && Nat.beq q9 2 && Nat.beq q10 3 && Nat.beq q11 1 && Nat.beq q12 103 && Nat.beq q13 2 && Nat.beq q14 3 && Nat.beq q15 3 && Nat.beq q16 44 && Nat.beq q17 4 && Nat.beq q18 0 then iter (S_ref14_Embedded_0 fuel) fuel (x0, x1, x2, x3, x4, x5, x6, x7, x8) (E104_0 K) else none
 | _ => none)
 | none => none
theorem B104_0_ok (fuel : Nat) (st : Ev.St) (K : Ev.Ex → Ev.St → Option Ans) (r : Ans) (h : B104_0 fuel st K = some r) : evalCode tab (G104 fuel) (J104_0 fuel) kp104 fuel (.block 0 (.loop (bodyOf 0 Try.f104))) st K = some r := by
  unfold B104_0 at h
  split at h
  · rename_i s hs
    split at h
    · skip
      obtain ⟨hb, h⟩ := cond_some' h
      simp only [Bool.and_eq_true, Nat.beq_eq, decide_eq_true_eq] at hb
      obtain ⟨⟨⟨⟨⟨⟨⟨⟨⟨⟨⟨⟨⟨⟨⟨⟨⟨⟨rfl, rfl⟩, rfl⟩, rfl⟩, rfl⟩, rfl⟩, rfl⟩, rfl⟩, rfl⟩, rfl⟩, rfl⟩, rfl⟩, rfl⟩, rfl⟩, rfl⟩, rfl⟩, rfl⟩, rfl⟩, rfl⟩ := hb
      exact blk_loop (S := T104_0) (ks := E104_0) (step := S_ref14_Embedded_0 fuel) (v := (_, _, _, _, _, _, _, _, _)) (by kernel_rfl) (by kernel_rfl) (fun R K v => by obtain ⟨x0, x1, x2, x3, x4, x5, x6, x7, x8⟩ := v; exact S104_0_ok fuel R K x0 x1 x2 x3 x4 x5 x6 x7 x8) hs h
    · cases h
  · cases h
noncomputable def J104 (fuel : Nat) (i : Nat) : Option Ev.Blk := Ev.look i [(100000, B104_0 fuel)]
noncomputable def Fg_ref14_Embedded (fuel : Nat) (f174_6fe : YF174_6fe) (f175_bb9 : YF175_bb9) (f176_4ba : YF176_4ba) (f177_775 : YF177_775) (x0 : (List Int)) (k0 : (Int × Int × Int × (List (Int × (Int × (Int × ((List Int) × ((List Bool) × (List Int))))))) × (List Int) × (List (Int × Int))) → Option Ans) : Option Ans :=
  bif decide ((↑x0.length : Int) > (40000 : Int)) then
  (f174_6fe ((0 : Int)) ((4 : Int)) ((2 : Int)) ((0 : Int)) ((0 : Int)) ([]) ([]) ([])
  (fun (y3_0, y3_1, y3_2, y3_3, y3_4, y3_5) =>
  k0 (y3_0, y3_1, y3_2, y3_3, y3_4, y3_5)))
  else
  (L_ref14_Embedded_0 fuel (x0, (0 : Int), (0 : Int), (2 : Int), (0 : Int), (0 : Int), [], [], [])
  (fun (ret0_0, ret0_1, ret0_2, ret0_3, ret0_4, ret0_5) =>
  k0 (ret0_0, ret0_1, ret0_2, ret0_3, ret0_4, ret0_5))
  (fun (b0_0, b0_1, b0_2, b0_3, b0_4, b0_5) =>
  (f177_775 (b0_0) (b0_1) (b0_2) (b0_3) (b0_4) (b0_5)
  (fun (y7_0, y7_1, y7_2, y7_3, y7_4, y7_5) =>
  k0 (y7_0, y7_1, y7_2, y7_3, y7_4, y7_5)))))
noncomputable def F_ref14_Embedded (fuel : Nat) (x0 : (List Int)) (k0 : (Int × Int × Int × (List (Int × (Int × (Int × ((List Int) × ((List Bool) × (List Int))))))) × (List Int) × (List (Int × Int))) → Option Ans) : Option Ans := Fg_ref14_Embedded fuel (F_ref14_Parsed_failed_6fe fuel) (F_ref14_Parsed_header_bb9 fuel) (F_ref14_Parsed_data_4ba fuel) (F_ref14_Parsed_ordered_775 fuel) x0 k0
abbrev YF104 : Type := ((List Int)) → ((Int × Int × Int × (List (Int × (Int × (Int × ((List Int) × ((List Bool) × (List Int))))))) × (List Int) × (List (Int × Int))) → Option Ans) → Option Ans
theorem F104_eqg (fuel : Nat) (f174_6fe : YF174_6fe) (f175_bb9 : YF175_bb9) (f176_4ba : YF176_4ba) (f177_775 : YF177_775) (x0 : (List Int)) (k : Ev.Cont) : evalFn tab (Gg104 f174_6fe f175_bb9 f176_4ba f177_775) (J104 fuel) kp104 fuel Try.f104 [.c (.sl (.int .u8) x0)] [] k = Fg_ref14_Embedded fuel f174_6fe f175_bb9 f176_4ba f177_775 x0 (fun r => match r with | (r0, r1, r2, r3, r4, r5) => k (.c (.ptr 0 0), [.cells 145 [.int .i64 r0, .own 1, .own 2, .own 3, .int .i64 r1, .int .i64 r2], .vec 103 (.pair (.int .i64) (.pair (.int .i64) (.pair (.int .i64) (.pair (.sl (.int .i64)) (.pair (.sl .bool) (.sl (.int .u8))))))) r3 true, .vec 3 (.int .i64) r4 true, .vec 44 (.pair (.int .i64) (.int .i64)) r5 true])) := by
  kernel_rfl
theorem F104_eq (fuel : Nat) (x0 : (List Int)) (k : Ev.Cont) : evalFn tab (G104 fuel) (J104 fuel) kp104 fuel Try.f104 [.c (.sl (.int .u8) x0)] [] k = F_ref14_Embedded fuel x0 (fun r => match r with | (r0, r1, r2, r3, r4, r5) => k (.c (.ptr 0 0), [.cells 145 [.int .i64 r0, .own 1, .own 2, .own 3, .int .i64 r1, .int .i64 r2], .vec 103 (.pair (.int .i64) (.pair (.int .i64) (.pair (.int .i64) (.pair (.sl (.int .i64)) (.pair (.sl .bool) (.sl (.int .u8))))))) r3 true, .vec 3 (.int .i64) r4 true, .vec 44 (.pair (.int .i64) (.int .i64)) r5 true])) :=
  F104_eqg fuel (F_ref14_Parsed_failed_6fe fuel) (F_ref14_Parsed_header_bb9 fuel) (F_ref14_Parsed_data_4ba fuel) (F_ref14_Parsed_ordered_775 fuel) x0 k
theorem hG104 (fuel : Nat) : GOK Try.prog (G104 fuel) :=
  gok_cons ⟨ok174_6fe fuel, enters_of Try.func174 (by kernel_rfl) rfl⟩ <|
  gok_cons ⟨ok175_bb9 fuel, enters_of Try.func175 (by kernel_rfl) rfl⟩ <|
  gok_cons ⟨ok176_4ba fuel, enters_of Try.func176 (by kernel_rfl) rfl⟩ <|
  gok_cons ⟨ok177_775 fuel, enters_of Try.func177 (by kernel_rfl) rfl⟩ <|
  gok_nil
theorem B104_0_blk (fuel : Nat) : BlkOK Try.prog Try.f104.ntmps (.block 0 (.loop (bodyOf 0 Try.f104))) (B104_0 fuel) :=
  blk_of (blk_of_code tab_ok (hG104 fuel) mixed (J := J104_0 fuel) (kp := kp104) (fuel := fuel) (by kernel_rfl) (fun q hq => by
    rw [(by kernel_rfl : obl (J104_0 fuel) (.block 0 (.loop (bodyOf 0 Try.f104))) = [])] at hq
    cases hq)) (B104_0_ok fuel)
theorem fok104 (fuel : Nat) : FnOK Try.prog 104 (evalFn tab (G104 fuel) (J104 fuel) kp104 fuel Try.f104) :=
  fn_ok tab_ok (hG104 fuel) mixed Try.func104 (c := (Try.f104.body).getD .skip) rfl (fun q hq => by
    rw [(by kernel_rfl : obl (J104 fuel) ((Try.f104.body).getD .skip) = [(.block 0 (.loop (bodyOf 0 Try.f104)), B104_0 fuel)])] at hq
    simp only [List.mem_cons, List.not_mem_nil, or_false] at hq
    subst hq
    · exact B104_0_blk fuel)
noncomputable def mt104 : List Ev.SV → List Ev.Ob → Bool := fun args objs => match args, objs with
 | [.c (.sl (.int .u8) _)], [] => true
 | _, _ => false
noncomputable def spg104 (F : YF104) : Ev.Spec := fun args objs k => match args, objs with
 | [.c (.sl (.int .u8) x0)], [] => bif true then F x0 (fun r => match r with | (r0, r1, r2, r3, r4, r5) => k (.c (.ptr 0 0), [.cells 145 [.int .i64 r0, .own 1, .own 2, .own 3, .int .i64 r1, .int .i64 r2], .vec 103 (.pair (.int .i64) (.pair (.int .i64) (.pair (.int .i64) (.pair (.sl (.int .i64)) (.pair (.sl .bool) (.sl (.int .u8))))))) r3 true, .vec 3 (.int .i64) r4 true, .vec 44 (.pair (.int .i64) (.int .i64)) r5 true])) else none
 | _, _ => none
noncomputable def spec104 (fuel : Nat) : Ev.Spec := spg104 (F_ref14_Embedded fuel)
theorem ok104 (fuel : Nat) : FnOK Try.prog 104 (spec104 fuel) := by
  intro args objs kk r h
  unfold spec104 spg104 at h
  split at h
  · skip
    obtain ⟨hb, h⟩ := cond_some' h
    simp only [Bool.and_eq_true, Nat.beq_eq, decide_eq_true_eq] at hb
    clear hb
    exact fok104 fuel _ _ kk r ((F104_eq fuel _ kk).trans h)
  · cases h
end Go.Proofs.Ytihfgpfofmjbaaa

set_option linter.unusedVariables false
set_option linter.unusedSimpArgs false
set_option maxRecDepth 100000
set_option maxHeartbeats 2000000
namespace Go.Proofs.Ytihfgpfofmjbaaa
open Go Ev
def kp35 (i : Nat) : Option (List Nat) := Ev.look i [(200003, [4])]
noncomputable def Gg35 (f104 : YF104) (f : Nat) : Option Ev.Spec := Ev.look f [(104, spg104 f104)]
noncomputable def G35 (fuel : Nat) : Nat → Option Ev.Spec := Gg35 (F_ref14_Embedded fuel)
noncomputable def J35 (fuel : Nat) (i : Nat) : Option Ev.Blk := Ev.look i []
noncomputable def Fg_ref14_ReadEmbedded (fuel : Nat) (f104 : YF104) (x0 : (List Int)) (k0 : (Int × (List (Int × (Int × (Int × ((List Int) × ((List Bool) × (List Int)))))))) → Option Ans) : Option Ans :=
  (f104 (x0)
  (fun (y2_0, y2_1, y2_2, y2_3, y2_4, y2_5) =>
  bif y2_1 != (0 : Int) then
  k0 (y2_1, [])
  else
  k0 ((0 : Int), y2_3)))
noncomputable def F_ref14_ReadEmbedded (fuel : Nat) (x0 : (List Int)) (k0 : (Int × (List (Int × (Int × (Int × ((List Int) × ((List Bool) × (List Int)))))))) → Option Ans) : Option Ans := Fg_ref14_ReadEmbedded fuel (F_ref14_Embedded fuel) x0 k0
abbrev YF35 : Type := ((List Int)) → ((Int × (List (Int × (Int × (Int × ((List Int) × ((List Bool) × (List Int)))))))) → Option Ans) → Option Ans
theorem F35_eqg (fuel : Nat) (f104 : YF104) (x0 : (List Int)) (k : Ev.Cont) : evalFn tab (Gg35 f104) (J35 fuel) kp35 fuel Try.f35 [.c (.sl (.int .u8) x0)] [] k = Fg_ref14_ReadEmbedded fuel f104 x0 (fun r => match r with | (r0, r1) => k (.tup [(false, [.own 0]), (false, [.int .i64 r0])], [.vec 103 (.pair (.int .i64) (.pair (.int .i64) (.pair (.int .i64) (.pair (.sl (.int .i64)) (.pair (.sl .bool) (.sl (.int .u8))))))) r1 true])) := by
  kernel_rfl
theorem F35_eq (fuel : Nat) (x0 : (List Int)) (k : Ev.Cont) : evalFn tab (G35 fuel) (J35 fuel) kp35 fuel Try.f35 [.c (.sl (.int .u8) x0)] [] k = F_ref14_ReadEmbedded fuel x0 (fun r => match r with | (r0, r1) => k (.tup [(false, [.own 0]), (false, [.int .i64 r0])], [.vec 103 (.pair (.int .i64) (.pair (.int .i64) (.pair (.int .i64) (.pair (.sl (.int .i64)) (.pair (.sl .bool) (.sl (.int .u8))))))) r1 true])) :=
  F35_eqg fuel (F_ref14_Embedded fuel) x0 k
theorem hG35 (fuel : Nat) : GOK Try.prog (G35 fuel) :=
  gok_cons ⟨ok104 fuel, enters_of Try.func104 (by kernel_rfl) rfl⟩ <|
  gok_nil
theorem fok35 (fuel : Nat) : FnOK Try.prog 35 (evalFn tab (G35 fuel) (J35 fuel) kp35 fuel Try.f35) :=
  fn_ok tab_ok (hG35 fuel) mixed Try.func35 (c := (Try.f35.body).getD .skip) rfl (fun q hq => by
    rw [(by kernel_rfl : obl (J35 fuel) ((Try.f35.body).getD .skip) = [])] at hq
    cases hq)
noncomputable def mt35 : List Ev.SV → List Ev.Ob → Bool := fun args objs => match args, objs with
 | [.c (.sl (.int .u8) _)], [] => true
 | _, _ => false
noncomputable def spg35 (F : YF35) : Ev.Spec := fun args objs k => match args, objs with
 | [.c (.sl (.int .u8) x0)], [] => bif true then F x0 (fun r => match r with | (r0, r1) => k (.tup [(false, [.own 0]), (false, [.int .i64 r0])], [.vec 103 (.pair (.int .i64) (.pair (.int .i64) (.pair (.int .i64) (.pair (.sl (.int .i64)) (.pair (.sl .bool) (.sl (.int .u8))))))) r1 true])) else none
 | _, _ => none
noncomputable def spec35 (fuel : Nat) : Ev.Spec := spg35 (F_ref14_ReadEmbedded fuel)
theorem ok35 (fuel : Nat) : FnOK Try.prog 35 (spec35 fuel) := by
  intro args objs kk r h
  unfold spec35 spg35 at h
  split at h
  · skip
    obtain ⟨hb, h⟩ := cond_some' h
    simp only [Bool.and_eq_true, Nat.beq_eq, decide_eq_true_eq] at hb
    clear hb
    exact fok35 fuel _ _ kk r ((F35_eq fuel _ kk).trans h)
  · cases h
end Go.Proofs.Ytihfgpfofmjbaaa

set_option linter.unusedVariables false
set_option linter.unusedSimpArgs false
set_option maxRecDepth 100000
set_option maxHeartbeats 2000000
namespace Go.Proofs.Ytihfgpfofmjbaaa
open Go Ev
def kp131 (i : Nat) : Option (List Nat) := Ev.look i [(10, [0, 3, 4, 6]), (19, [0, 3, 4, 7]), (100001, [0, 3, 4]), (100003, [0, 3, 4]), (400001, [2]), (400003, [2])]
noncomputable def Gg131 (f174_6fe : YF174_6fe) (f175_bb9 : YF175_bb9) (f176_4ba : YF176_4ba) (f177_775 : YF177_775) (f : Nat) : Option Ev.Spec := Ev.look f [(174, spg174_6fe f174_6fe), (175, spg175_bb9 f175_bb9), (176, spg176_4ba f176_4ba), (177, spg177_775 f177_775)]
noncomputable def G131 (fuel : Nat) : Nat → Option Ev.Spec := Gg131 (F_ref14_Parsed_failed_6fe fuel) (F_ref14_Parsed_header_bb9 fuel) (F_ref14_Parsed_data_4ba fuel) (F_ref14_Parsed_ordered_775 fuel)
noncomputable def Sg_ref14_Parse_1 (fuel : Nat) (f174_6fe : YF174_6fe) (f175_bb9 : YF175_bb9) (f176_4ba : YF176_4ba) (f177_775 : YF177_775) (x0 : (List Int)) (x1 x2 : Int) (x3 x4 x5 : Int) (x6 : (List (Int × (Int × (Int × ((List Int) × ((List Bool) × (List Int)))))))) (x7 : (List Int)) (x8 : (List (Int × Int))) (c : ((List Int) × Int × Int × Int × Int × Int × (List (Int × (Int × (Int × ((List Int) × ((List Bool) × (List Int))))))) × (List Int) × (List (Int × Int))) → Option Ans) (B : (Int × Int × Int × (List (Int × (Int × (Int × ((List Int) × ((List Bool) × (List Int))))))) × (List Int) × (List (Int × Int)) → Option Ans) × ((List Int) × Int × Int × Int × Int × (List (Int × (Int × (Int × ((List Int) × ((List Bool) × (List Int))))))) × (List Int) × (List (Int × Int)) → Option Ans)) : Option Ans := match B with
 | (ret, b) =>
  (f175_bb9 (x0) (x1) (x3) (x4) (x5) (x6) (x7) (x8)
  (fun (y2_0, y2_1, y2_2, y2_3, y2_4, y2_5, y2_6) =>
  bif y2_0 == (0 : Int) then
  ret (y2_1, y2_2, y2_3, y2_4, y2_5, y2_6)
  else
  bif y2_1 == (0 : Int) then
  (f176_4ba (x0) (x2) (y2_0) (y2_1) (y2_2) (y2_3) (y2_4) (y2_5) (y2_6)
  (fun (y8_0, y8_1, y8_2, y8_3, y8_4, y8_5, y8_6, y8_7) =>
  bif !y8_1 then
  ret (y8_2, y8_3, y8_4, y8_5, y8_6, y8_7)
  else
  bif decide ((0 : Int) ≤ x2 ∧ x2 < (↑y8_5.length : Int)) then
  bif (y8_5.getD x2.toNat ((0 : Int), (0 : Int), (0 : Int), [], [], [])).snd.fst == (9 : Int) then
  b (x0, y8_0, y8_2, y8_3, y8_4, y8_5, y8_6, y8_7)
  else
  c (x0, y8_0, IntKind.i64.wrap (x2 + (1 : Int)), y8_2, y8_3, y8_4, y8_5, y8_6, y8_7)
  else none))
  else
  bif decide ((0 : Int) ≤ x2 ∧ x2 < (↑y2_4.length : Int)) then
  bif (y2_4.getD x2.toNat ((0 : Int), (0 : Int), (0 : Int), [], [], [])).snd.fst == (9 : Int) then
  b (x0, y2_0, y2_1, y2_2, y2_3, y2_4, y2_5, y2_6)
  else
  c (x0, y2_0, IntKind.i64.wrap (x2 + (1 : Int)), y2_1, y2_2, y2_3, y2_4, y2_5, y2_6)
  else none)
  (fun (y2_0, y2_1, y2_2, y2_3, y2_4, y2_5, y2_6) =>
  bif y2_0 == (0 : Int) then
  ret (y2_1, y2_2, y2_3, y2_4, y2_5, y2_6)
  else
  bif y2_1 == (0 : Int) then
  (f176_4ba (x0) (x2) (y2_0) (y2_1) (y2_2) (y2_3) (y2_4) (y2_5) (y2_6)
  (fun (y8_0, y8_1, y8_2, y8_3, y8_4, y8_5, y8_6, y8_7) =>
  bif !y8_1 then
  ret (y8_2, y8_3, y8_4, y8_5, y8_6, y8_7)
  else
  bif decide ((0 : Int) ≤ x2 ∧ x2 < (↑y8_5.length : Int)) then
  bif (y8_5.getD x2.toNat ((0 : Int), (0 : Int), (0 : Int), [], [], [])).snd.fst == (9 : Int) then
  b (x0, y8_0, y8_2, y8_3, y8_4, y8_5, y8_6, y8_7)
  else
  c (x0, y8_0, IntKind.i64.wrap (x2 + (1 : Int)), y8_2, y8_3, y8_4, y8_5, y8_6, y8_7)
  else none))
  else
  bif decide ((0 : Int) ≤ x2 ∧ x2 < (↑y2_4.length : Int)) then
  bif (y2_4.getD x2.toNat ((0 : Int), (0 : Int), (0 : Int), [], [], [])).snd.fst == (9 : Int) then
  b (x0, y2_0, y2_1, y2_2, y2_3, y2_4, y2_5, y2_6)
  else
  c (x0, y2_0, IntKind.i64.wrap (x2 + (1 : Int)), y2_1, y2_2, y2_3, y2_4, y2_5, y2_6)
  else none))
noncomputable def S_ref14_Parse_1 (fuel : Nat) (v : (List Int) × Int × Int × Int × Int × Int × (List (Int × (Int × (Int × ((List Int) × ((List Bool) × (List Int))))))) × (List Int) × (List (Int × Int))) (c : ((List Int) × Int × Int × Int × Int × Int × (List (Int × (Int × (Int × ((List Int) × ((List Bool) × (List Int))))))) × (List Int) × (List (Int × Int))) → Option Ans) (B : (Int × Int × Int × (List (Int × (Int × (Int × ((List Int) × ((List Bool) × (List Int))))))) × (List Int) × (List (Int × Int)) → Option Ans) × ((List Int) × Int × Int × Int × Int × (List (Int × (Int × (Int × ((List Int) × ((List Bool) × (List Int))))))) × (List Int) × (List (Int × Int)) → Option Ans)) : Option Ans := match v with
 | (x0, x1, x2, x3, x4, x5, x6, x7, x8) => Sg_ref14_Parse_1 fuel (F_ref14_Parsed_failed_6fe fuel) (F_ref14_Parsed_header_bb9 fuel) (F_ref14_Parsed_data_4ba fuel) (F_ref14_Parsed_ordered_775 fuel) x0 x1 x2 x3 x4 x5 x6 x7 x8 c B
noncomputable def L_ref14_Parse_1 (fuel : Nat) (v : (List Int) × Int × Int × Int × Int × Int × (List (Int × (Int × (Int × ((List Int) × ((List Bool) × (List Int))))))) × (List Int) × (List (Int × Int))) (ret : (Int × Int × Int × (List (Int × (Int × (Int × ((List Int) × ((List Bool) × (List Int))))))) × (List Int) × (List (Int × Int)) → Option Ans)) (b : ((List Int) × Int × Int × Int × Int × (List (Int × (Int × (Int × ((List Int) × ((List Bool) × (List Int))))))) × (List Int) × (List (Int × Int)) → Option Ans)) : Option Ans := iter (S_ref14_Parse_1 fuel) fuel v (ret, b)
noncomputable def J131_1 (fuel : Nat) (i : Nat) : Option Ev.Blk := Ev.look i []
noncomputable def T131_1 (v : (List Int) × Int × Int × Int × Int × Int × (List (Int × (Int × (Int × ((List Int) × ((List Bool) × (List Int))))))) × (List Int) × (List (Int × Int))) : Ev.St := match v with | (x0, x1, x2, x3, x4, x5, x6, x7, x8) => ⟨[(0, .c (.sl (.int .u8) x0)), (3, .c (.ptr 0 0)), (4, .c (.int .i64 x1)), (6, .c (.int .i64 x2))], [(0, .cells 145 [.int .i64 x3, .own 1, .own 2, .own 3, .int .i64 x4, .int .i64 x5]), (1, .vec 103 (.pair (.int .i64) (.pair (.int .i64) (.pair (.int .i64) (.pair (.sl (.int .i64)) (.pair (.sl .bool) (.sl (.int .u8))))))) x6 true), (2, .vec 3 (.int .i64) x7 true), (3, .vec 44 (.pair (.int .i64) (.int .i64)) x8 true)], 4, 0⟩
noncomputable def E131_1 (K : Ev.Ex → Ev.St → Option Ans) : (Int × Int × Int × (List (Int × (Int × (Int × ((List Int) × ((List Bool) × (List Int))))))) × (List Int) × (List (Int × Int)) → Option Ans) × ((List Int) × Int × Int × Int × Int × (List (Int × (Int × (Int × ((List Int) × ((List Bool) × (List Int))))))) × (List Int) × (List (Int × Int)) → Option Ans) := ((fun v => match v with | (x0, x1, x2, x3, x4, x5) => K .ret ⟨[(2, .c (.ptr 0 0))], [(0, .cells 145 [.int .i64 x0, .own 1, .own 2, .own 3, .int .i64 x1, .int .i64 x2]), (1, .vec 103 (.pair (.int .i64) (.pair (.int .i64) (.pair (.int .i64) (.pair (.sl (.int .i64)) (.pair (.sl .bool) (.sl (.int .u8))))))) x3 true), (2, .vec 3 (.int .i64) x4 true), (3, .vec 44 (.pair (.int .i64) (.int .i64)) x5 true)], 4, 0⟩), (fun v => match v with | (x0, x1, x2, x3, x4, x5, x6, x7) => K .normal ⟨[(0, .c (.sl (.int .u8) x0)), (3, .c (.ptr 0 0)), (4, .c (.int .i64 x1))], [(0, .cells 145 [.int .i64 x2, .own 1, .own 2, .own 3, .int .i64 x3, .int .i64 x4]), (1, .vec 103 (.pair (.int .i64) (.pair (.int .i64) (.pair (.int .i64) (.pair (.sl (.int .i64)) (.pair (.sl .bool) (.sl (.int .u8))))))) x5 true), (2, .vec 3 (.int .i64) x6 true), (3, .vec 44 (.pair (.int .i64) (.int .i64)) x7 true)], 4, 0⟩))
theorem S131_1_okg (fuel : Nat) (f174_6fe : YF174_6fe) (f175_bb9 : YF175_bb9) (f176_4ba : YF176_4ba) (f177_775 : YF177_775) (R : Ev.St → Option Ans) (K : Ev.Ex → Ev.St → Option Ans) (x0 : (List Int)) (x1 x2 : Int) (x3 x4 x5 : Int) (x6 : (List (Int × (Int × (Int × ((List Int) × ((List Bool) × (List Int)))))))) (x7 : (List Int)) (x8 : (List (Int × Int))) : evalCode tab (Gg131 f174_6fe f175_bb9 f176_4ba f177_775) (J131_1 fuel) kp131 fuel (bodyOf 1 Try.f131) (T131_1 (x0, x1, x2, x3, x4, x5, x6, x7, x8)) (lc kp131 10 1 R K) = Sg_ref14_Parse_1 fuel f174_6fe f175_bb9 f176_4ba f177_775 x0 x1 x2 x3 x4 x5 x6 x7 x8 (fun v => R (T131_1 v)) (E131_1 K) := by
  kernel_rfl
theorem S131_1_ok (fuel : Nat) (R : Ev.St → Option Ans) (K : Ev.Ex → Ev.St → Option Ans) (x0 : (List Int)) (x1 x2 : Int) (x3 x4 x5 : Int) (x6 : (List (Int × (Int × (Int × ((List Int) × ((List Bool) × (List Int)))))))) (x7 : (List Int)) (x8 : (List (Int × Int))) : evalCode tab (G131 fuel) (J131_1 fuel) kp131 fuel (bodyOf 1 Try.f131) (T131_1 (x0, x1, x2, x3, x4, x5, x6, x7, x8)) (lc kp131 10 1 R K) = S_ref14_Parse_1 fuel (x0, x1, x2, x3, x4, x5, x6, x7, x8) (fun v => R (T131_1 v)) (E131_1 K) :=
  S131_1_okg fuel (F_ref14_Parsed_failed_6fe fuel) (F_ref14_Parsed_header_bb9 fuel) (F_ref14_Parsed_data_4ba fuel) (F_ref14_Parsed_ordered_775 fuel) R K x0 x1 x2 x3 x4 x5 x6 x7 x8
noncomputable def B131_1 (fuel : Nat) : Ev.Blk := fun st K => match canonO (kp131 10) st with
 | some s => (match s with
 | ⟨[(q0, .c (.sl (.int .u8) x0)), (q1, .c (.ptr q2 q3)), (q4, .c (.int .i64 x1)), (q5, .c (.int .i64 x2))], [(q6, .cells q7 [.int .i64 x3, .own q8, .own q9, .own q10, .int .i64 x4, .int .i64 x5]), (q11, .vec q12 (.pair (.int .i64) (.pair (.int .i64) (.pair (.int .i64) (.pair (.sl (.int .i64)) (.pair (.sl .bool) (.sl (.int .u8))))))) x6 true), (q13, .vec q14 (.int .i64) x7 true), (q15, .vec q16 (.pair (.int .i64) (.int .i64)) x8 true)], q17, q18⟩ => bif Nat.beq q0 0 && Nat.beq q1 3 && Nat.beq q2 0 && Nat.beq q3 0 && Nat.beq q4 4 && Nat.beq q5 6 && Nat.beq q6 0 && Nat.beq q7 145 && Nat.beq q8 1 && Nat.beq q9 2 && Nat.beq q10 3 && Nat.beq q11 1 && Nat.beq q12 103 && Nat.beq q13 2 && Nat.beq q14 3 && Nat.beq q15 3 && Nat.beq q16 44 && Nat.beq q17 4 && Nat.beq q18 0 then iter (S_ref14_Parse_1 fuel) fuel (x0, x1, x2, x3, x4, x5, x6, x7, x8) (E131_1 K) else none
 | _ => none)
 | none => none
theorem B131_1_ok (fuel : Nat) (st : Ev.St) (K : Ev.Ex → Ev.St → Option Ans) (r : Ans) (h : B131_1 fuel st K = some r) : evalCode tab (G131 fuel) (J131_1 fuel) kp131 fuel (.block 1 (.loop (bodyOf 1 Try.f131))) st K = some r := by
  unfold B131_1 at h
  split at h
  · rename_i s hs
    split at h
    · skip
      obtain ⟨hb, h⟩ := cond_some' h
      simp only [Bool.and_eq_true, Nat.beq_eq, decide_eq_true_eq] at hb
      obtain ⟨⟨⟨⟨⟨⟨⟨⟨⟨⟨⟨⟨⟨⟨⟨⟨⟨⟨rfl, rfl⟩, rfl⟩, rfl⟩, rfl⟩, rfl⟩, rfl⟩, rfl⟩, rfl⟩, rfl⟩, rfl⟩, rfl⟩, rfl⟩, rfl⟩, rfl⟩, rfl⟩, rfl⟩, rfl⟩, rfl⟩ := hb
      exact blk_loop (S := T131_1) (ks := E131_1) (step := S_ref14_Parse_1 fuel) (v := (_, _, _, _, _, _, _, _, _)) (by kernel_rfl) (by kernel_rfl) (fun R K v => by obtain ⟨x0, x1, x2, x3, x4, x5, x6, x7, x8⟩ := v; exact S131_1_ok fuel R K x0 x1 x2 x3 x4 x5 x6 x7 x8) hs h
    · cases h
  · cases h
noncomputable def Sg_ref14_Parse_3 (fuel : Nat) (f174_6fe : YF174_6fe) (f175_bb9 : YF175_bb9) (f176_4ba : YF176_4ba) (f177_775 : YF177_775) (x0 : (List Int)) (x1 x2 : Int) (x3 x4 x5 : Int) (x6 : (List (Int × (Int × (Int × ((List Int) × ((List Bool) × (List Int)))))))) (x7 : (List Int)) (x8 : (List (Int × Int))) (c : ((List Int) × Int × Int × Int × Int × Int × (List (Int × (Int × (Int × ((List Int) × ((List Bool) × (List Int))))))) × (List Int) × (List (Int × Int))) → Option Ans) (B : (Int × Int × Int × (List (Int × (Int × (Int × ((List Int) × ((List Bool) × (List Int))))))) × (List Int) × (List (Int × Int)) → Option Ans) × ((List Int) × Int × Int × Int × Int × (List (Int × (Int × (Int × ((List Int) × ((List Bool) × (List Int))))))) × (List Int) × (List (Int × Int)) → Option Ans)) : Option Ans := match B with
 | (ret, b) =>
  bif x3 == (1 : Int) then
  bif decide (x2 < (↑x6.length : Int)) then
  (f176_4ba (x0) (x2) (x1) (x3) (x4) (x5) (x6) (x7) (x8)
  (fun (y4_0, y4_1, y4_2, y4_3, y4_4, y4_5, y4_6, y4_7) =>
  bif !y4_1 then
  ret (y4_2, y4_3, y4_4, y4_5, y4_6, y4_7)
  else
  c (x0, y4_0, IntKind.i64.wrap (x2 + (1 : Int)), y4_2, y4_3, y4_4, y4_5, y4_6, y4_7)))
  else
  b (x0, x1, x3, x4, x5, x6, x7, x8)
  else
  b (x0, x1, x3, x4, x5, x6, x7, x8)
noncomputable def S_ref14_Parse_3 (fuel : Nat) (v : (List Int) × Int × Int × Int × Int × Int × (List (Int × (Int × (Int × ((List Int) × ((List Bool) × (List Int))))))) × (List Int) × (List (Int × Int))) (c : ((List Int) × Int × Int × Int × Int × Int × (List (Int × (Int × (Int × ((List Int) × ((List Bool) × (List Int))))))) × (List Int) × (List (Int × Int))) → Option Ans) (B : (Int × Int × Int × (List (Int × (Int × (Int × ((List Int) × ((List Bool) × (List Int))))))) × (List Int) × (List (Int × Int)) → Option Ans) × ((List Int) × Int × Int × Int × Int × (List (Int × (Int × (Int × ((List Int) × ((List Bool) × (List Int))))))) × (List Int) × (List (Int × Int)) → Option Ans)) : Option Ans := match v with
 | (x0, x1, x2, x3, x4, x5, x6, x7, x8) => Sg_ref14_Parse_3 fuel (F_ref14_Parsed_failed_6fe fuel) (F_ref14_Parsed_header_bb9 fuel) (F_ref14_Parsed_data_4ba fuel) (F_ref14_Parsed_ordered_775 fuel) x0 x1 x2 x3 x4 x5 x6 x7 x8 c B
noncomputable def L_ref14_Parse_3 (fuel : Nat) (v : (List Int) × Int × Int × Int × Int × Int × (List (Int × (Int × (Int × ((List Int) × ((List Bool) × (List Int))))))) × (List Int) × (List (Int × Int))) (ret : (Int × Int × Int × (List (Int × (Int × (Int × ((List Int) × ((List Bool) × (List Int))))))) × (List Int) × (List (Int × Int)) → Option Ans)) (b : ((List Int) × Int × Int × Int × Int × (List (Int × (Int × (Int × ((List Int) × ((List Bool) × (List Int))))))) × (List Int) × (List (Int × Int)) → Option Ans)) : Option Ans := iter (S_ref14_Parse_3 fuel) fuel v (ret, b)
noncomputable def J131_3 (fuel : Nat) (i : Nat) : Option Ev.Blk := Ev.look i [(100001, B131_1 fuel)]
noncomputable def T131_3 (v : (List Int) × Int × Int × Int × Int × Int × (List (Int × (Int × (Int × ((List Int) × ((List Bool) × (List Int))))))) × (List Int) × (List (Int × Int))) : Ev.St := match v with | (x0, x1, x2, x3, x4, x5, x6, x7, x8) => ⟨[(0, .c (.sl (.int .u8) x0)), (3, .c (.ptr 0 0)), (4, .c (.int .i64 x1)), (7, .c (.int .i64 x2))], [(0, .cells 145 [.int .i64 x3, .own 1, .own 2, .own 3, .int .i64 x4, .int .i64 x5]), (1, .vec 103 (.pair (.int .i64) (.pair (.int .i64) (.pair (.int .i64) (.pair (.sl (.int .i64)) (.pair (.sl .bool) (.sl (.int .u8))))))) x6 true), (2, .vec 3 (.int .i64) x7 true), (3, .vec 44 (.pair (.int .i64) (.int .i64)) x8 true)], 4, 0⟩
noncomputable def E131_3 (K : Ev.Ex → Ev.St → Option Ans) : (Int × Int × Int × (List (Int × (Int × (Int × ((List Int) × ((List Bool) × (List Int))))))) × (List Int) × (List (Int × Int)) → Option Ans) × ((List Int) × Int × Int × Int × Int × (List (Int × (Int × (Int × ((List Int) × ((List Bool) × (List Int))))))) × (List Int) × (List (Int × Int)) → Option Ans) := ((fun v => match v with | (x0, x1, x2, x3, x4, x5) => K .ret ⟨[(2, .c (.ptr 0 0))], [(0, .cells 145 [.int .i64 x0, .own 1, .own 2, .own 3, .int .i64 x1, .int .i64 x2]), (1, .vec 103 (.pair (.int .i64) (.pair (.int .i64) (.pair (.int .i64) (.pair (.sl (.int .i64)) (.pair (.sl .bool) (.sl (.int .u8))))))) x3 true), (2, .vec 3 (.int .i64) x4 true), (3, .vec 44 (.pair (.int .i64) (.int .i64)) x5 true)], 4, 0⟩), (fun v => match v with | (x0, x1, x2, x3, x4, x5, x6, x7) => K .normal ⟨[(0, .c (.sl (.int .u8) x0)), (3, .c (.ptr 0 0)), (4, .c (.int .i64 x1))], [(0, .cells 145 [.int .i64 x2, .own 1, .own 2, .own 3, .int .i64 x3, .int .i64 x4]), (1, .vec 103 (.pair (.int .i64) (.pair (.int .i64) (.pair (.int .i64) (.pair (.sl (.int .i64)) (.pair (.sl .bool) (.sl (.int .u8))))))) x5 true), (2, .vec 3 (.int .i64) x6 true), (3, .vec 44 (.pair (.int .i64) (.int .i64)) x7 true)], 4, 0⟩))
theorem S131_3_okg (fuel : Nat) (f174_6fe : YF174_6fe) (f175_bb9 : YF175_bb9) (f176_4ba : YF176_4ba) (f177_775 : YF177_775) (R : Ev.St → Option Ans) (K : Ev.Ex → Ev.St → Option Ans) (x0 : (List Int)) (x1 x2 : Int) (x3 x4 x5 : Int) (x6 : (List (Int × (Int × (Int × ((List Int) × ((List Bool) × (List Int)))))))) (x7 : (List Int)) (x8 : (List (Int × Int))) : evalCode tab (Gg131 f174_6fe f175_bb9 f176_4ba f177_775) (J131_3 fuel) kp131 fuel (bodyOf 3 Try.f131) (T131_3 (x0, x1, x2, x3, x4, x5, x6, x7, x8)) (lc kp131 19 3 R K) = Sg_ref14_Parse_3 fuel f174_6fe f175_bb9 f176_4ba f177_775 x0 x1 x2 x3 x4 x5 x6 x7 x8 (fun v => R (T131_3 v)) (E131_3 K) := by
  kernel_rfl
theorem S131_3_ok (fuel : Nat) (R : Ev.St → Option Ans) (K : Ev.Ex → Ev.St → Option Ans) (x0 : (List Int)) (x1 x2 : Int) (x3 x4 x5 : Int) (x6 : (List (Int × (Int × (Int × ((List Int) × ((List Bool) × (List Int)))))))) (x7 : (List Int)) (x8 : (List (Int × Int))) : evalCode tab (G131 fuel) (J131_3 fuel) kp131 fuel (bodyOf 3 Try.f131) (T131_3 (x0, x1, x2, x3, x4, x5, x6, x7, x8)) (lc kp131 19 3 R K) = S_ref14_Parse_3 fuel (x0, x1, x2, x3, x4, x5, x6, x7, x8) (fun v => R (T131_3 v)) (E131_3 K) :=
  S131_3_okg fuel (F_ref14_Parsed_failed_6fe fuel) (F_ref14_Parsed_header_bb9 fuel) (F_ref14_Parsed_data_4ba fuel) (F_ref14_Parsed_ordered_775 fuel) R K x0 x1 x2 x3 x4 x5 x6 x7 x8
noncomputable def B131_3 (fuel : Nat) : Ev.Blk := fun st K => match canonO (kp131 19) st with
 | some s => (match s with
 | ⟨[(q0, .c (.sl (.int .u8) x0)), (q1, .c (.ptr q2 q3)), (q4, .c (.int .i64 x1)), (q5, .c (.int .i64 x2))], [(q6, .cells q7 [.int .i64 x3, .own q8, .own q9, .own q10, .int .i64 x4, .int .i64 x5]), (q11, .vec q12 (.pair (.int .i64) (.pair (.int .i64) (.pair (.int .i64) (.pair (.sl (.int .i64)) (.pair (.sl .bool) (.sl (.int .u8))))))) x6 true), (q13, .vec q14 (.int .i64) x7 true), (q15, .vec q16 (.pair (.int .i64) (.int .i64)) x8 true)], q17, q18⟩ => bif Nat.beq q0 0 && Nat.beq q1 3 && Nat.beq q2 0 && Nat.beq q3 0 && Nat.beq q4 4 && Nat.beq q5 7 && Nat.beq q6 0 && Nat.beq q7 145 && Nat.beq q8 1 && Nat.beq q9 2 && Nat.beq q10 3 && Nat.beq q11 1 && Nat.beq q12 103 && Nat.beq q13 2 && Nat.beq q14 3 && Nat.beq q15 3 && Nat.beq q16 44 && Nat.beq q17 4 && Nat.beq q18 0 then iter (S_ref14_Parse_3 fuel) fuel (x0, x1, x2, x3, x4, x5, x6, x7, x8) (E131_3 K) else none
 | _ => none)
 | none => none
theorem B131_3_ok (fuel : Nat) (st : Ev.St) (K : Ev.Ex → Ev.St → Option Ans) (r : Ans) (h : B131_3 fuel st K = some r) : evalCode tab (G131 fuel) (J131_3 fuel) kp131 fuel (.block 3 (.loop (bodyOf 3 Try.f131))) st K = some r := by
  unfold B131_3 at h
  split at h
  · rename_i s hs
    split at h
    · skip
      obtain ⟨hb, h⟩ := cond_some' h
      simp only [Bool.and_eq_true, Nat.beq_eq, decide_eq_true_eq] at hb
      obtain ⟨⟨⟨⟨⟨⟨⟨⟨⟨⟨⟨⟨⟨⟨⟨⟨⟨⟨rfl, rfl⟩, rfl⟩, rfl⟩, rfl⟩, rfl⟩, rfl⟩, rfl⟩, rfl⟩, rfl⟩, rfl⟩, rfl⟩, rfl⟩, rfl⟩, rfl⟩, rfl⟩, rfl⟩, rfl⟩, rfl⟩ := hb
      exact blk_loop (S := T131_3) (ks := E131_3) (step := S_ref14_Parse_3 fuel) (v := (_, _, _, _, _, _, _, _, _)) (by kernel_rfl) (by kernel_rfl) (fun R K v => by obtain ⟨x0, x1, x2, x3, x4, x5, x6, x7, x8⟩ := v; exact S131_3_ok fuel R K x0 x1 x2 x3 x4 x5 x6 x7 x8) hs h
    · cases h
  · cases h
noncomputable def J131 (fuel : Nat) (i : Nat) : Option Ev.Blk := Ev.look i [(100001, B131_1 fuel), (100003, B131_3 fuel)]
noncomputable def Fg_ref14_Parse (fuel : Nat) (f174_6fe : YF174_6fe) (f175_bb9 : YF175_bb9) (f176_4ba : YF176_4ba) (f177_775 : YF177_775) (x0 : (List Int)) (k0 : (Int × Int × Int × (List (Int × (Int × (Int × ((List Int) × ((List Bool) × (List Int))))))) × (List Int) × (List (Int × Int))) → Option Ans) : Option Ans :=
  bif decide ((↑x0.length : Int) > (40000 : Int)) then
  (f174_6fe ((0 : Int)) ((4 : Int)) ((0 : Int)) ((0 : Int)) ((0 : Int)) ([]) ([]) ([])
  (fun (y3_0, y3_1, y3_2, y3_3, y3_4, y3_5) =>
  k0 (y3_0, y3_1, y3_2, y3_3, y3_4, y3_5)))
  else
  bif decide ((↑x0.length : Int) < (5 : Int)) then
  (f174_6fe ((0 : Int)) ((3 : Int)) ((0 : Int)) ((0 : Int)) ((0 : Int)) ([]) ([]) ([])
  (fun (y4_0, y4_1, y4_2, y4_3, y4_4, y4_5) =>
  k0 (y4_0, y4_1, y4_2, y4_3, y4_4, y4_5)))
  else
  bif decide ((0 : Int) ≤ Ev.loOf Option.none ∧ Ev.loOf Option.none ≤ Ev.hiOf (some (4 : Int)) (↑x0.length : Int) ∧ Ev.hiOf (some (4 : Int)) (↑x0.length : Int) ≤ (↑x0.length : Int)) then
  bif !(Go.strOfNums (List.take (Ev.hiOf (some (4 : Int)) (↑x0.length : Int) - Ev.loOf Option.none).toNat (List.drop (Ev.loOf Option.none).toNat x0))).toList == (ByteArray.mk #[(73 : UInt8), (78 : UInt8), (67 : UInt8), (49 : UInt8)]).toList then
  (f174_6fe ((0 : Int)) ((3 : Int)) ((0 : Int)) ((0 : Int)) ((0 : Int)) ([]) ([]) ([])
  (fun (y6_0, y6_1, y6_2, y6_3, y6_4, y6_5) =>
  k0 (y6_0, y6_1, y6_2, y6_3, y6_4, y6_5)))
  else
  bif decide ((0 : Int) ≤ (4 : Int) ∧ (4 : Int) < (↑x0.length : Int)) then
  bif decide (x0.getD (Int.toNat (4 : Int)) (0 : Int) > (1 : Int)) then
  (f174_6fe ((0 : Int)) ((3 : Int)) ((0 : Int)) ((0 : Int)) ((0 : Int)) ([]) ([]) ([])
  (fun (y8_0, y8_1, y8_2, y8_3, y8_4, y8_5) =>
  k0 (y8_0, y8_1, y8_2, y8_3, y8_4, y8_5)))
  else
  bif decide ((0 : Int) ≤ (4 : Int) ∧ (4 : Int) < (↑x0.length : Int)) then
  (L_ref14_Parse_1 fuel (x0, (5 : Int), (0 : Int), IntKind.i64.wrap (x0.getD (Int.toNat (4 : Int)) (0 : Int)), (0 : Int), (0 : Int), [], [], [])
  (fun (ret1_0, ret1_1, ret1_2, ret1_3, ret1_4, ret1_5) =>
  k0 (ret1_0, ret1_1, ret1_2, ret1_3, ret1_4, ret1_5))
  (fun (b1_0, b1_1, b1_2, b1_3, b1_4, b1_5, b1_6, b1_7) =>
  (L_ref14_Parse_3 fuel (b1_0, b1_1, (0 : Int), b1_2, b1_3, b1_4, b1_5, b1_6, b1_7)
  (fun (ret3_0, ret3_1, ret3_2, ret3_3, ret3_4, ret3_5) =>
  k0 (ret3_0, ret3_1, ret3_2, ret3_3, ret3_4, ret3_5))
  (fun (b3_0, b3_1, b3_2, b3_3, b3_4, b3_5, b3_6, b3_7) =>
  bif decide (b3_1 < (↑b3_0.length : Int)) then
  (f174_6fe (b3_1) ((60 : Int)) (b3_2) (b3_3) (b3_4) (b3_5) (b3_6) (b3_7)
  (fun (y18_0, y18_1, y18_2, y18_3, y18_4, y18_5) =>
  k0 (y18_0, y18_1, y18_2, y18_3, y18_4, y18_5)))
  else
  (f177_775 (b3_2) (b3_3) (b3_4) (b3_5) (b3_6) (b3_7)
  (fun (y18_0, y18_1, y18_2, y18_3, y18_4, y18_5) =>
  k0 (y18_0, y18_1, y18_2, y18_3, y18_4, y18_5)))))))
  else none
  else none
  else none
noncomputable def F_ref14_Parse (fuel : Nat) (x0 : (List Int)) (k0 : (Int × Int × Int × (List (Int × (Int × (Int × ((List Int) × ((List Bool) × (List Int))))))) × (List Int) × (List (Int × Int))) → Option Ans) : Option Ans := Fg_ref14_Parse fuel (F_ref14_Parsed_failed_6fe fuel) (F_ref14_Parsed_header_bb9 fuel) (F_ref14_Parsed_data_4ba fuel) (F_ref14_Parsed_ordered_775 fuel) x0 k0
abbrev YF131 : Type := ((List Int)) → ((Int × Int × Int × (List (Int × (Int × (Int × ((List Int) × ((List Bool) × (List Int))))))) × (List Int) × (List (Int × Int))) → Option Ans) → Option Ans
theorem F131_eqg (fuel : Nat) (f174_6fe : YF174_6fe) (f175_bb9 : YF175_bb9) (f176_4ba : YF176_4ba) (f177_775 : YF177_775) (x0 : (List Int)) (k : Ev.Cont) : evalFn tab (Gg131 f174_6fe f175_bb9 f176_4ba f177_775) (J131 fuel) kp131 fuel Try.f131 [.c (.sl (.int .u8) x0)] [] k = Fg_ref14_Parse fuel f174_6fe f175_bb9 f176_4ba f177_775 x0 (fun r => match r with | (r0, r1, r2, r3, r4, r5) => k (.c (.ptr 0 0), [.cells 145 [.int .i64 r0, .own 1, .own 2, .own 3, .int .i64 r1, .int .i64 r2], .vec 103 (.pair (.int .i64) (.pair (.int .i64) (.pair (.int .i64) (.pair (.sl (.int .i64)) (.pair (.sl .bool) (.sl (.int .u8))))))) r3 true, .vec 3 (.int .i64) r4 true, .vec 44 (.pair (.int .i64) (.int .i64)) r5 true])) := by
  kernel_rfl
theorem F131_eq (fuel : Nat) (x0 : (List Int)) (k : Ev.Cont) : evalFn tab (G131 fuel) (J131 fuel) kp131 fuel Try.f131 [.c (.sl (.int .u8) x0)] [] k = F_ref14_Parse fuel x0 (fun r => match r with | (r0, r1, r2, r3, r4, r5) => k (.c (.ptr 0 0), [.cells 145 [.int .i64 r0, .own 1, .own 2, .own 3, .int .i64 r1, .int .i64 r2], .vec 103 (.pair (.int .i64) (.pair (.int .i64) (.pair (.int .i64) (.pair (.sl (.int .i64)) (.pair (.sl .bool) (.sl (.int .u8))))))) r3 true, .vec 3 (.int .i64) r4 true, .vec 44 (.pair (.int .i64) (.int .i64)) r5 true])) :=
  F131_eqg fuel (F_ref14_Parsed_failed_6fe fuel) (F_ref14_Parsed_header_bb9 fuel) (F_ref14_Parsed_data_4ba fuel) (F_ref14_Parsed_ordered_775 fuel) x0 k
theorem hG131 (fuel : Nat) : GOK Try.prog (G131 fuel) :=
  gok_cons ⟨ok174_6fe fuel, enters_of Try.func174 (by kernel_rfl) rfl⟩ <|
  gok_cons ⟨ok175_bb9 fuel, enters_of Try.func175 (by kernel_rfl) rfl⟩ <|
  gok_cons ⟨ok176_4ba fuel, enters_of Try.func176 (by kernel_rfl) rfl⟩ <|
  gok_cons ⟨ok177_775 fuel, enters_of Try.func177 (by kernel_rfl) rfl⟩ <|
  gok_nil
theorem B131_1_blk (fuel : Nat) : BlkOK Try.prog Try.f131.ntmps (.block 1 (.loop (bodyOf 1 Try.f131))) (B131_1 fuel) :=
  blk_of (blk_of_code tab_ok (hG131 fuel) mixed (J := J131_1 fuel) (kp := kp131) (fuel := fuel) (by kernel_rfl) (fun q hq => by
    rw [(by kernel_rfl : obl (J131_1 fuel) (.block 1 (.loop (bodyOf 1 Try.f131))) = [])] at hq
    cases hq)) (B131_1_ok fuel)
theorem B131_3_blk (fuel : Nat) : BlkOK Try.prog Try.f131.ntmps (.block 3 (.loop (bodyOf 3 Try.f131))) (B131_3 fuel) :=
  blk_of (blk_of_code tab_ok (hG131 fuel) mixed (J := J131_3 fuel) (kp := kp131) (fuel := fuel) (by kernel_rfl) (fun q hq => by
    rw [(by kernel_rfl : obl (J131_3 fuel) (.block 3 (.loop (bodyOf 3 Try.f131))) = [])] at hq
    cases hq)) (B131_3_ok fuel)
theorem fok131 (fuel : Nat) : FnOK Try.prog 131 (evalFn tab (G131 fuel) (J131 fuel) kp131 fuel Try.f131) :=
  fn_ok tab_ok (hG131 fuel) mixed Try.func131 (c := (Try.f131.body).getD .skip) rfl (fun q hq => by
    rw [(by kernel_rfl : obl (J131 fuel) ((Try.f131.body).getD .skip) = [(.block 1 (.loop (bodyOf 1 Try.f131)), B131_1 fuel), (.block 3 (.loop (bodyOf 3 Try.f131)), B131_3 fuel)])] at hq
    simp only [List.mem_cons, List.not_mem_nil, or_false] at hq
    rcases hq with rfl | rfl
    · exact B131_1_blk fuel
    · exact B131_3_blk fuel)
noncomputable def mt131 : List Ev.SV → List Ev.Ob → Bool := fun args objs => match args, objs with
 | [.c (.sl (.int .u8) _)], [] => true
 | _, _ => false
noncomputable def spg131 (F : YF131) : Ev.Spec := fun args objs k => match args, objs with
 | [.c (.sl (.int .u8) x0)], [] => bif true then F x0 (fun r => match r with | (r0, r1, r2, r3, r4, r5) => k (.c (.ptr 0 0), [.cells 145 [.int .i64 r0, .own 1, .own 2, .own 3, .int .i64 r1, .int .i64 r2], .vec 103 (.pair (.int .i64) (.pair (.int .i64) (.pair (.int .i64) (.pair (.sl (.int .i64)) (.pair (.sl .bool) (.sl (.int .u8))))))) r3 true, .vec 3 (.int .i64) r4 true, .vec 44 (.pair (.int .i64) (.int .i64)) r5 true])) else none
 | _, _ => none
noncomputable def spec131 (fuel : Nat) : Ev.Spec := spg131 (F_ref14_Parse fuel)
theorem ok131 (fuel : Nat) : FnOK Try.prog 131 (spec131 fuel) := by
  intro args objs kk r h
  unfold spec131 spg131 at h
  split at h
  · skip
    obtain ⟨hb, h⟩ := cond_some' h
    simp only [Bool.and_eq_true, Nat.beq_eq, decide_eq_true_eq] at hb
    clear hb
    exact fok131 fuel _ _ kk r ((F131_eq fuel _ kk).trans h)
  · cases h
end Go.Proofs.Ytihfgpfofmjbaaa

set_option linter.unusedVariables false
set_option linter.unusedSimpArgs false
set_option maxRecDepth 100000
set_option maxHeartbeats 2000000
namespace Go.Proofs.Ytihfgpfofmjbaaa
open Go Ev
def kp54 (i : Nat) : Option (List Nat) := Ev.look i [(6, [4, 6, 26, 27, 28]), (100000, [6]), (200003, [4]), (200008, [4, 8]), (400000, [2, 3])]
noncomputable def Gg54 (f132 : YF132) (f : Nat) : Option Ev.Spec := Ev.look f [(132, spg132 f132)]
noncomputable def G54 (fuel : Nat) : Nat → Option Ev.Spec := Gg54 (F_file_read fuel)
noncomputable def Sg_file_Places_0 (fuel : Nat) (f132 : YF132) (x0 x1 : Int) (x2 : (List Int)) (x3 x4 x5 : Int) (x6 : (List (Int × Int))) (x7 : (List (Int × (Int × (Int × ((List Int) × ((List Bool) × (List Int)))))))) (x8 x9 : (List Int)) (c : (Int × Int × (List Int) × Int × Int × Int × (List (Int × Int)) × (List (Int × (Int × (Int × ((List Int) × ((List Bool) × (List Int))))))) × (List Int) × (List Int)) → Option Ans) (B : ((List (Int × Int)) → Option Ans)) : Option Ans := match B with
 | b =>
  bif decide (x1 < x0) then
  bif decide ((0 : Int) ≤ x1 ∧ x1 < (↑x7.length : Int)) then
  bif decide ((0 : Int) ≤ x1 ∧ x1 < (↑x9.length : Int)) then
  bif decide ((x6.length + [(x9.getD x1.toNat (0 : Int), (↑(List.length (x7.getD x1.toNat ((0 : Int), (0 : Int), (0 : Int), [], [], [])).snd.snd.snd.snd.snd) : Int))].length) * (16 : Nat) ≤ (140737488355328 : Nat) ∧ x6.length + [(x9.getD x1.toNat (0 : Int), (↑(List.length (x7.getD x1.toNat ((0 : Int), (0 : Int), (0 : Int), [], [], [])).snd.snd.snd.snd.snd) : Int))].length ≤ (140737488355328 : Nat)) then
  c (x0, IntKind.i64.wrap (x1 + (1 : Int)), x2, x3, x4, x5, x6 ++ [(x9.getD x1.toNat (0 : Int), (↑(List.length (x7.getD x1.toNat ((0 : Int), (0 : Int), (0 : Int), [], [], [])).snd.snd.snd.snd.snd) : Int))], x7, x8, x9)
  else none
  else none
  else none
  else
  b x6
noncomputable def S_file_Places_0 (fuel : Nat) (v : Int × Int × (List Int) × Int × Int × Int × (List (Int × Int)) × (List (Int × (Int × (Int × ((List Int) × ((List Bool) × (List Int))))))) × (List Int) × (List Int)) (c : (Int × Int × (List Int) × Int × Int × Int × (List (Int × Int)) × (List (Int × (Int × (Int × ((List Int) × ((List Bool) × (List Int))))))) × (List Int) × (List Int)) → Option Ans) (B : ((List (Int × Int)) → Option Ans)) : Option Ans := match v with
 | (x0, x1, x2, x3, x4, x5, x6, x7, x8, x9) => Sg_file_Places_0 fuel (F_file_read fuel) x0 x1 x2 x3 x4 x5 x6 x7 x8 x9 c B
noncomputable def L_file_Places_0 (fuel : Nat) (v : Int × Int × (List Int) × Int × Int × Int × (List (Int × Int)) × (List (Int × (Int × (Int × ((List Int) × ((List Bool) × (List Int))))))) × (List Int) × (List Int)) (b : ((List (Int × Int)) → Option Ans)) : Option Ans := iter (S_file_Places_0 fuel) fuel v b
noncomputable def J54_0 (fuel : Nat) (i : Nat) : Option Ev.Blk := Ev.look i []
noncomputable def T54_0 (v : Int × Int × (List Int) × Int × Int × Int × (List (Int × Int)) × (List (Int × (Int × (Int × ((List Int) × ((List Bool) × (List Int))))))) × (List Int) × (List Int)) : Ev.St := match v with | (x0, x1, x2, x3, x4, x5, x6, x7, x8, x9) => ⟨[(4, .c (.ptr 0 0)), (6, .c (.own 1)), (26, .c (.own 2)), (27, .c (.int .i64 x0)), (28, .c (.int .i64 x1))], [(0, .cells 141 [.sl (.int .u8) x2, .int .i64 x3, .own 2, .own 3, .own 4, .int .i64 x4, .int .i64 x5]), (1, .vec 44 (.pair (.int .i64) (.int .i64)) x6 true), (2, .vec 103 (.pair (.int .i64) (.pair (.int .i64) (.pair (.int .i64) (.pair (.sl (.int .i64)) (.pair (.sl .bool) (.sl (.int .u8))))))) x7 true), (3, .vec 3 (.int .i64) x8 true), (4, .vec 3 (.int .i64) x9 true)], 5, 0⟩
noncomputable def E54_0 (K : Ev.Ex → Ev.St → Option Ans) : ((List (Int × Int)) → Option Ans) := (fun v => match v with | x0 => K .normal ⟨[(6, .c (.own 0))], [(0, .vec 44 (.pair (.int .i64) (.int .i64)) x0 true)], 1, 0⟩)
theorem S54_0_okg (fuel : Nat) (f132 : YF132) (R : Ev.St → Option Ans) (K : Ev.Ex → Ev.St → Option Ans) (x0 x1 : Int) (x2 : (List Int)) (x3 x4 x5 : Int) (x6 : (List (Int × Int))) (x7 : (List (Int × (Int × (Int × ((List Int) × ((List Bool) × (List Int)))))))) (x8 x9 : (List Int)) : evalCode tab (Gg54 f132) (J54_0 fuel) kp54 fuel (bodyOf 0 Try.f54) (T54_0 (x0, x1, x2, x3, x4, x5, x6, x7, x8, x9)) (lc kp54 6 0 R K) = Sg_file_Places_0 fuel f132 x0 x1 x2 x3 x4 x5 x6 x7 x8 x9 (fun v => R (T54_0 v)) (E54_0 K) := by
  kernel_rfl
theorem S54_0_ok (fuel : Nat) (R : Ev.St → Option Ans) (K : Ev.Ex → Ev.St → Option Ans) (x0 x1 : Int) (x2 : (List Int)) (x3 x4 x5 : Int) (x6 : (List (Int × Int))) (x7 : (List (Int × (Int × (Int × ((List Int) × ((List Bool) × (List Int)))))))) (x8 x9 : (List Int)) : evalCode tab (G54 fuel) (J54_0 fuel) kp54 fuel (bodyOf 0 Try.f54) (T54_0 (x0, x1, x2, x3, x4, x5, x6, x7, x8, x9)) (lc kp54 6 0 R K) = S_file_Places_0 fuel (x0, x1, x2, x3, x4, x5, x6, x7, x8, x9) (fun v => R (T54_0 v)) (E54_0 K) :=
  S54_0_okg fuel (F_file_read fuel) R K x0 x1 x2 x3 x4 x5 x6 x7 x8 x9
noncomputable def B54_0 (fuel : Nat) : Ev.Blk := fun st K => match canonO (kp54 6) st with
 | some s => (match s with
 | ⟨[(q0, .c (.ptr q1 q2)), (q3, .c (.own q4)), (q5, .c (.own q6)), (q7, .c (.int .i64 x0)), (q8, .c (.int .i64 x1))], [(q9, .cells q10 [.sl (.int .u8) x2, .int .i64 x3, .own q11, .own q12, .own q13, .int .i64 x4, .int .i64 x5]), (q14, .vec q15 (.pair (.int .i64) (.int .i64)) x6 true), (q16, .vec q17 (.pair (.int .i64) (.pair (.int .i64) (.pair (.int .i64) (.pair (.sl (.int .i64)) (.pair (.sl .bool) (.sl (.int .u8))))))) x7 true), (q18, .vec q19 (.int .i64) x8 true), (q20, .vec q21 (.int .i64) x9 true)], q22, q23⟩ => bif Nat.beq q0 4 && Nat.beq q1 0 && Nat.beq q2 0 && Nat.beq q3 6 && Nat.beq q4 1 && Nat.beq q5 26 && Nat.beq q6 2 && Nat.beq q7 27 && Nat.beq q8 28 && Nat.beq q9 0 && Nat.beq q10 141 && Nat.beq q11 2 && Nat.beq q12 3 && Nat.beq q13 4 && Nat.beq q14 1 && Nat.beq q15 44 && Nat.beq q16 2 && Nat.beq q17 103 && Nat.beq q18 3 && Nat.beq q19 3 && Nat.beq q20 4 && Nat.beq q21 3 && Nat.beq q22 5 && Nat.beq q23 0 then iter (S_file_Places_0 fuel) fuel (x0, x1, x2, x3, x4, x5, x6, x7, x8, x9) (E54_0 K) else none
 | _ => none)
 | none => none
theorem B54_0_ok (fuel : Nat) (st : Ev.St) (K : Ev.Ex → Ev.St → Option Ans) (r : Ans) (h : B54_0 fuel st K = some r) : evalCode tab (G54 fuel) (J54_0 fuel) kp54 fuel (.block 0 (.loop (bodyOf 0 Try.f54))) st K = some r := by
  unfold B54_0 at h
  split at h
  · rename_i s hs
    split at h
    · skip
      obtain ⟨hb, h⟩ := cond_some' h
      simp only [Bool.and_eq_true, Nat.beq_eq, decide_eq_true_eq] at hb
      obtain ⟨⟨⟨⟨⟨⟨⟨⟨⟨⟨⟨⟨⟨⟨⟨⟨⟨⟨⟨⟨⟨⟨⟨rfl, rfl⟩, rfl⟩, rfl⟩, rfl⟩, rfl⟩, rfl⟩, rfl⟩, rfl⟩, rfl⟩, rfl⟩, rfl⟩, rfl⟩, rfl⟩, rfl⟩, rfl⟩, rfl⟩, rfl⟩, rfl⟩, rfl⟩, rfl⟩, rfl⟩, rfl⟩, rfl⟩ := hb
      exact blk_loop (S := T54_0) (ks := E54_0) (step := S_file_Places_0 fuel) (v := (_, _, _, _, _, _, _, _, _, _)) (by kernel_rfl) (by kernel_rfl) (fun R K v => by obtain ⟨x0, x1, x2, x3, x4, x5, x6, x7, x8, x9⟩ := v; exact S54_0_ok fuel R K x0 x1 x2 x3 x4 x5 x6 x7 x8 x9) hs h
    · cases h
  · cases h
noncomputable def J54 (fuel : Nat) (i : Nat) : Option Ev.Blk := Ev.look i [(100000, B54_0 fuel)]
noncomputable def Fg_file_Places (fuel : Nat) (f132 : YF132) (x0 : (List Int)) (k0 : (Int × (List (Int × Int))) → Option Ans) : Option Ans :=
  (f132 (x0)
  (fun (y2_0, y2_1, y2_2, y2_3, y2_4, y2_5, y2_6, y2_7) =>
  bif y2_4 != (0 : Int) then
  k0 (y2_4, [])
  else
  (L_file_Places_0 fuel ((↑y2_5.length : Int), (0 : Int), y2_1, y2_2, y2_3, y2_4, [], y2_5, y2_6, y2_7)
  (fun b0_0 =>
  k0 ((0 : Int), b0_0)))))
noncomputable def F_file_Places (fuel : Nat) (x0 : (List Int)) (k0 : (Int × (List (Int × Int))) → Option Ans) : Option Ans := Fg_file_Places fuel (F_file_read fuel) x0 k0
abbrev YF54 : Type := ((List Int)) → ((Int × (List (Int × Int))) → Option Ans) → Option Ans
theorem F54_eqg (fuel : Nat) (f132 : YF132) (x0 : (List Int)) (k : Ev.Cont) : evalFn tab (Gg54 f132) (J54 fuel) kp54 fuel Try.f54 [.c (.sl (.int .u8) x0)] [] k = Fg_file_Places fuel f132 x0 (fun r => match r with | (r0, r1) => k (.tup [(false, [.own 0]), (false, [.int .i64 r0])], [.vec 44 (.pair (.int .i64) (.int .i64)) r1 true])) := by
  kernel_rfl
theorem F54_eq (fuel : Nat) (x0 : (List Int)) (k : Ev.Cont) : evalFn tab (G54 fuel) (J54 fuel) kp54 fuel Try.f54 [.c (.sl (.int .u8) x0)] [] k = F_file_Places fuel x0 (fun r => match r with | (r0, r1) => k (.tup [(false, [.own 0]), (false, [.int .i64 r0])], [.vec 44 (.pair (.int .i64) (.int .i64)) r1 true])) :=
  F54_eqg fuel (F_file_read fuel) x0 k
theorem hG54 (fuel : Nat) : GOK Try.prog (G54 fuel) :=
  gok_cons ⟨ok132 fuel, enters_of Try.func132 (by kernel_rfl) rfl⟩ <|
  gok_nil
theorem B54_0_blk (fuel : Nat) : BlkOK Try.prog Try.f54.ntmps (.block 0 (.loop (bodyOf 0 Try.f54))) (B54_0 fuel) :=
  blk_of (blk_of_code tab_ok (hG54 fuel) mixed (J := J54_0 fuel) (kp := kp54) (fuel := fuel) (by kernel_rfl) (fun q hq => by
    rw [(by kernel_rfl : obl (J54_0 fuel) (.block 0 (.loop (bodyOf 0 Try.f54))) = [])] at hq
    cases hq)) (B54_0_ok fuel)
theorem fok54 (fuel : Nat) : FnOK Try.prog 54 (evalFn tab (G54 fuel) (J54 fuel) kp54 fuel Try.f54) :=
  fn_ok tab_ok (hG54 fuel) mixed Try.func54 (c := (Try.f54.body).getD .skip) rfl (fun q hq => by
    rw [(by kernel_rfl : obl (J54 fuel) ((Try.f54.body).getD .skip) = [(.block 0 (.loop (bodyOf 0 Try.f54)), B54_0 fuel)])] at hq
    simp only [List.mem_cons, List.not_mem_nil, or_false] at hq
    subst hq
    · exact B54_0_blk fuel)
noncomputable def mt54 : List Ev.SV → List Ev.Ob → Bool := fun args objs => match args, objs with
 | [.c (.sl (.int .u8) _)], [] => true
 | _, _ => false
noncomputable def spg54 (F : YF54) : Ev.Spec := fun args objs k => match args, objs with
 | [.c (.sl (.int .u8) x0)], [] => bif true then F x0 (fun r => match r with | (r0, r1) => k (.tup [(false, [.own 0]), (false, [.int .i64 r0])], [.vec 44 (.pair (.int .i64) (.int .i64)) r1 true])) else none
 | _, _ => none
noncomputable def spec54 (fuel : Nat) : Ev.Spec := spg54 (F_file_Places fuel)
theorem ok54 (fuel : Nat) : FnOK Try.prog 54 (spec54 fuel) := by
  intro args objs kk r h
  unfold spec54 spg54 at h
  split at h
  · skip
    obtain ⟨hb, h⟩ := cond_some' h
    simp only [Bool.and_eq_true, Nat.beq_eq, decide_eq_true_eq] at hb
    clear hb
    exact fok54 fuel _ _ kk r ((F54_eq fuel _ kk).trans h)
  · cases h
end Go.Proofs.Ytihfgpfofmjbaaa

set_option linter.unusedVariables false
set_option linter.unusedSimpArgs false
set_option maxRecDepth 100000
set_option maxHeartbeats 2000000
namespace Go.Proofs.Ytihfgpfofmjbaaa
open Go Ev
def kp53 (i : Nat) : Option (List Nat) := Ev.look i [(200003, [5]), (200004, [5])]
noncomputable def Gg53 (f131 : YF131) (f : Nat) : Option Ev.Spec := Ev.look f [(131, spg131 f131)]
noncomputable def G53 (fuel : Nat) : Nat → Option Ev.Spec := Gg53 (F_ref14_Parse fuel)
noncomputable def J53 (fuel : Nat) (i : Nat) : Option Ev.Blk := Ev.look i []
noncomputable def Fg_ref14_Read (fuel : Nat) (f131 : YF131) (x0 : (List Int)) (k0 : (Int × Int × (List (Int × (Int × (Int × ((List Int) × ((List Bool) × (List Int)))))))) → Option Ans) : Option Ans :=
  (f131 (x0)
  (fun (y2_0, y2_1, y2_2, y2_3, y2_4, y2_5) =>
  bif y2_1 != (0 : Int) then
  k0 ((0 : Int), y2_1, [])
  else
  k0 (y2_0, (0 : Int), y2_3)))
noncomputable def F_ref14_Read (fuel : Nat) (x0 : (List Int)) (k0 : (Int × Int × (List (Int × (Int × (Int × ((List Int) × ((List Bool) × (List Int)))))))) → Option Ans) : Option Ans := Fg_ref14_Read fuel (F_ref14_Parse fuel) x0 k0
abbrev YF53 : Type := ((List Int)) → ((Int × Int × (List (Int × (Int × (Int × ((List Int) × ((List Bool) × (List Int)))))))) → Option Ans) → Option Ans
theorem F53_eqg (fuel : Nat) (f131 : YF131) (x0 : (List Int)) (k : Ev.Cont) : evalFn tab (Gg53 f131) (J53 fuel) kp53 fuel Try.f53 [.c (.sl (.int .u8) x0)] [] k = Fg_ref14_Read fuel f131 x0 (fun r => match r with | (r0, r1, r2) => k (.tup [(false, [.int .i64 r0]), (false, [.own 0]), (false, [.int .i64 r1])], [.vec 103 (.pair (.int .i64) (.pair (.int .i64) (.pair (.int .i64) (.pair (.sl (.int .i64)) (.pair (.sl .bool) (.sl (.int .u8))))))) r2 true])) := by
  kernel_rfl
theorem F53_eq (fuel : Nat) (x0 : (List Int)) (k : Ev.Cont) : evalFn tab (G53 fuel) (J53 fuel) kp53 fuel Try.f53 [.c (.sl (.int .u8) x0)] [] k = F_ref14_Read fuel x0 (fun r => match r with | (r0, r1, r2) => k (.tup [(false, [.int .i64 r0]), (false, [.own 0]), (false, [.int .i64 r1])], [.vec 103 (.pair (.int .i64) (.pair (.int .i64) (.pair (.int .i64) (.pair (.sl (.int .i64)) (.pair (.sl .bool) (.sl (.int .u8))))))) r2 true])) :=
  F53_eqg fuel (F_ref14_Parse fuel) x0 k
theorem hG53 (fuel : Nat) : GOK Try.prog (G53 fuel) :=
  gok_cons ⟨ok131 fuel, enters_of Try.func131 (by kernel_rfl) rfl⟩ <|
  gok_nil
theorem fok53 (fuel : Nat) : FnOK Try.prog 53 (evalFn tab (G53 fuel) (J53 fuel) kp53 fuel Try.f53) :=
  fn_ok tab_ok (hG53 fuel) mixed Try.func53 (c := (Try.f53.body).getD .skip) rfl (fun q hq => by
    rw [(by kernel_rfl : obl (J53 fuel) ((Try.f53.body).getD .skip) = [])] at hq
    cases hq)
noncomputable def mt53 : List Ev.SV → List Ev.Ob → Bool := fun args objs => match args, objs with
 | [.c (.sl (.int .u8) _)], [] => true
 | _, _ => false
noncomputable def spg53 (F : YF53) : Ev.Spec := fun args objs k => match args, objs with
 | [.c (.sl (.int .u8) x0)], [] => bif true then F x0 (fun r => match r with | (r0, r1, r2) => k (.tup [(false, [.int .i64 r0]), (false, [.own 0]), (false, [.int .i64 r1])], [.vec 103 (.pair (.int .i64) (.pair (.int .i64) (.pair (.int .i64) (.pair (.sl (.int .i64)) (.pair (.sl .bool) (.sl (.int .u8))))))) r2 true])) else none
 | _, _ => none
noncomputable def spec53 (fuel : Nat) : Ev.Spec := spg53 (F_ref14_Read fuel)
theorem ok53 (fuel : Nat) : FnOK Try.prog 53 (spec53 fuel) := by
  intro args objs kk r h
  unfold spec53 spg53 at h
  split at h
  · skip
    obtain ⟨hb, h⟩ := cond_some' h
    simp only [Bool.and_eq_true, Nat.beq_eq, decide_eq_true_eq] at hb
    clear hb
    exact fok53 fuel _ _ kk r ((F53_eq fuel _ kk).trans h)
  · cases h
end Go.Proofs.Ytihfgpfofmjbaaa

set_option linter.unusedVariables false
set_option linter.unusedSimpArgs false
set_option maxRecDepth 100000
set_option maxHeartbeats 2000000
namespace Go.Proofs.Ytihfgpfofmjbaaa
open Go Ev
def kp55 (i : Nat) : Option (List Nat) := Ev.look i [(200003, [4])]
noncomputable def Gg55 (f131 : YF131) (f : Nat) : Option Ev.Spec := Ev.look f [(131, spg131 f131)]
noncomputable def G55 (fuel : Nat) : Nat → Option Ev.Spec := Gg55 (F_ref14_Parse fuel)
noncomputable def J55 (fuel : Nat) (i : Nat) : Option Ev.Blk := Ev.look i []
noncomputable def Fg_ref14_Places (fuel : Nat) (f131 : YF131) (x0 : (List Int)) (k0 : (Int × (List (Int × Int))) → Option Ans) : Option Ans :=
  (f131 (x0)
  (fun (y2_0, y2_1, y2_2, y2_3, y2_4, y2_5) =>
  bif y2_1 != (0 : Int) then
  k0 (y2_1, [])
  else
  k0 ((0 : Int), y2_5)))
noncomputable def F_ref14_Places (fuel : Nat) (x0 : (List Int)) (k0 : (Int × (List (Int × Int))) → Option Ans) : Option Ans := Fg_ref14_Places fuel (F_ref14_Parse fuel) x0 k0
abbrev YF55 : Type := ((List Int)) → ((Int × (List (Int × Int))) → Option Ans) → Option Ans
theorem F55_eqg (fuel : Nat) (f131 : YF131) (x0 : (List Int)) (k : Ev.Cont) : evalFn tab (Gg55 f131) (J55 fuel) kp55 fuel Try.f55 [.c (.sl (.int .u8) x0)] [] k = Fg_ref14_Places fuel f131 x0 (fun r => match r with | (r0, r1) => k (.tup [(false, [.own 0]), (false, [.int .i64 r0])], [.vec 44 (.pair (.int .i64) (.int .i64)) r1 true])) := by
  kernel_rfl
theorem F55_eq (fuel : Nat) (x0 : (List Int)) (k : Ev.Cont) : evalFn tab (G55 fuel) (J55 fuel) kp55 fuel Try.f55 [.c (.sl (.int .u8) x0)] [] k = F_ref14_Places fuel x0 (fun r => match r with | (r0, r1) => k (.tup [(false, [.own 0]), (false, [.int .i64 r0])], [.vec 44 (.pair (.int .i64) (.int .i64)) r1 true])) :=
  F55_eqg fuel (F_ref14_Parse fuel) x0 k
theorem hG55 (fuel : Nat) : GOK Try.prog (G55 fuel) :=
  gok_cons ⟨ok131 fuel, enters_of Try.func131 (by kernel_rfl) rfl⟩ <|
  gok_nil
theorem fok55 (fuel : Nat) : FnOK Try.prog 55 (evalFn tab (G55 fuel) (J55 fuel) kp55 fuel Try.f55) :=
  fn_ok tab_ok (hG55 fuel) mixed Try.func55 (c := (Try.f55.body).getD .skip) rfl (fun q hq => by
    rw [(by kernel_rfl : obl (J55 fuel) ((Try.f55.body).getD .skip) = [])] at hq
    cases hq)
noncomputable def mt55 : List Ev.SV → List Ev.Ob → Bool := fun args objs => match args, objs with
 | [.c (.sl (.int .u8) _)], [] => true
 | _, _ => false
noncomputable def spg55 (F : YF55) : Ev.Spec := fun args objs k => match args, objs with
 | [.c (.sl (.int .u8) x0)], [] => bif true then F x0 (fun r => match r with | (r0, r1) => k (.tup [(false, [.own 0]), (false, [.int .i64 r0])], [.vec 44 (.pair (.int .i64) (.int .i64)) r1 true])) else none
 | _, _ => none
noncomputable def spec55 (fuel : Nat) : Ev.Spec := spg55 (F_ref14_Places fuel)
theorem ok55 (fuel : Nat) : FnOK Try.prog 55 (spec55 fuel) := by
  intro args objs kk r h
  unfold spec55 spg55 at h
  split at h
  · skip
    obtain ⟨hb, h⟩ := cond_some' h
    simp only [Bool.and_eq_true, Nat.beq_eq, decide_eq_true_eq] at hb
    clear hb
    exact fok55 fuel _ _ kk r ((F55_eq fuel _ kk).trans h)
  · cases h
end Go.Proofs.Ytihfgpfofmjbaaa

set_option linter.unusedVariables false
set_option linter.unusedSimpArgs false
set_option maxRecDepth 100000
set_option maxHeartbeats 2000000
namespace Go.Proofs.Ytihfgpfofmjbaaa
open Go Ev
def kp50 (i : Nat) : Option (List Nat) := Ev.look i []
noncomputable def Gg50 (f17 : YF17) (f52 : YF52) (f : Nat) : Option Ev.Spec := Ev.look f [(17, spg17 f17), (52, spg52 f52)]
noncomputable def G50 (fuel : Nat) : Nat → Option Ev.Spec := Gg50 (F_file_Write fuel) (F_file_Read fuel)
noncomputable def J50 (fuel : Nat) (i : Nat) : Option Ev.Blk := Ev.look i []
noncomputable def Fg_file_Turn (fuel : Nat) (f17 : YF17) (f52 : YF52) (x0 : (List Int)) (x1 : Int) (k0 : (Int × (List Int)) → Option Ans) : Option Ans :=
  (f52 (x0)
  (fun (y2_0, y2_1, y2_2) =>
  bif y2_1 != (0 : Int) then
  k0 (y2_1, [])
  else
  bif x1 != (0 : Int) then
  bif x1 != (1 : Int) then
  k0 ((2 : Int), [])
  else
  (f17 (x1) (y2_2)
  (fun (y9_0, y9_1) =>
  k0 (y9_0, y9_1)))
  else
  (f17 (x1) (y2_2)
  (fun (y8_0, y8_1) =>
  k0 (y8_0, y8_1)))))
noncomputable def F_file_Turn (fuel : Nat) (x0 : (List Int)) (x1 : Int) (k0 : (Int × (List Int)) → Option Ans) : Option Ans := Fg_file_Turn fuel (F_file_Write fuel) (F_file_Read fuel) x0 x1 k0
abbrev YF50 : Type := ((List Int)) → (Int) → ((Int × (List Int)) → Option Ans) → Option Ans
theorem F50_eqg (fuel : Nat) (f17 : YF17) (f52 : YF52) (x0 : (List Int)) (x1 : Int) (k : Ev.Cont) : evalFn tab (Gg50 f17 f52) (J50 fuel) kp50 fuel Try.f50 [.c (.sl (.int .u8) x0), .c (.int .i64 x1)] [] k = Fg_file_Turn fuel f17 f52 x0 x1 (fun r => match r with | (r0, r1) => k (.tup [(false, [.own 0]), (false, [.int .i64 r0])], [.vec 5 (.int .u8) r1 true])) := by
  kernel_rfl
theorem F50_eq (fuel : Nat) (x0 : (List Int)) (x1 : Int) (k : Ev.Cont) : evalFn tab (G50 fuel) (J50 fuel) kp50 fuel Try.f50 [.c (.sl (.int .u8) x0), .c (.int .i64 x1)] [] k = F_file_Turn fuel x0 x1 (fun r => match r with | (r0, r1) => k (.tup [(false, [.own 0]), (false, [.int .i64 r0])], [.vec 5 (.int .u8) r1 true])) :=
  F50_eqg fuel (F_file_Write fuel) (F_file_Read fuel) x0 x1 k
theorem hG50 (fuel : Nat) : GOK Try.prog (G50 fuel) :=
  gok_cons ⟨ok17 fuel, enters_of Try.func17 (by kernel_rfl) rfl⟩ <|
  gok_cons ⟨ok52 fuel, enters_of Try.func52 (by kernel_rfl) rfl⟩ <|
  gok_nil
theorem fok50 (fuel : Nat) : FnOK Try.prog 50 (evalFn tab (G50 fuel) (J50 fuel) kp50 fuel Try.f50) :=
  fn_ok tab_ok (hG50 fuel) mixed Try.func50 (c := (Try.f50.body).getD .skip) rfl (fun q hq => by
    rw [(by kernel_rfl : obl (J50 fuel) ((Try.f50.body).getD .skip) = [])] at hq
    cases hq)
noncomputable def mt50 : List Ev.SV → List Ev.Ob → Bool := fun args objs => match args, objs with
 | [.c (.sl (.int .u8) _), .c (.int .i64 _)], [] => true
 | _, _ => false
noncomputable def spg50 (F : YF50) : Ev.Spec := fun args objs k => match args, objs with
 | [.c (.sl (.int .u8) x0), .c (.int .i64 x1)], [] => bif true then F x0 x1 (fun r => match r with | (r0, r1) => k (.tup [(false, [.own 0]), (false, [.int .i64 r0])], [.vec 5 (.int .u8) r1 true])) else none
 | _, _ => none
noncomputable def spec50 (fuel : Nat) : Ev.Spec := spg50 (F_file_Turn fuel)
theorem ok50 (fuel : Nat) : FnOK Try.prog 50 (spec50 fuel) := by
  intro args objs kk r h
  unfold spec50 spg50 at h
  split at h
  · skip
    obtain ⟨hb, h⟩ := cond_some' h
    simp only [Bool.and_eq_true, Nat.beq_eq, decide_eq_true_eq] at hb
    clear hb
    exact fok50 fuel _ _ kk r ((F50_eq fuel _ _ kk).trans h)
  · cases h
end Go.Proofs.Ytihfgpfofmjbaaa

set_option linter.unusedVariables false
set_option linter.unusedSimpArgs false
set_option maxRecDepth 100000
set_option maxHeartbeats 2000000
namespace Go.Proofs.Ytihfgpfofmjbaaa
open Go Ev
def kp51 (i : Nat) : Option (List Nat) := Ev.look i [(200003, [6])]
noncomputable def Gg51 (f18 : YF18) (f131 : YF131) (f : Nat) : Option Ev.Spec := Ev.look f [(18, spg18 f18), (131, spg131 f131)]
noncomputable def G51 (fuel : Nat) : Nat → Option Ev.Spec := Gg51 (F_ref14_Write fuel) (F_ref14_Parse fuel)
noncomputable def J51 (fuel : Nat) (i : Nat) : Option Ev.Blk := Ev.look i []
noncomputable def Fg_ref14_Turn (fuel : Nat) (f18 : YF18) (f131 : YF131) (x0 : (List Int)) (x1 : Int) (k0 : (Int × (List Int)) → Option Ans) : Option Ans :=
  (f131 (x0)
  (fun (y2_0, y2_1, y2_2, y2_3, y2_4, y2_5) =>
  bif y2_1 != (0 : Int) then
  k0 (y2_1, [])
  else
  bif x1 != (0 : Int) then
  bif x1 != (1 : Int) then
  k0 ((2 : Int), [])
  else
  (f18 (x1) (y2_3)
  (fun (y9_0, y9_1) =>
  k0 (y9_0, y9_1)))
  else
  (f18 (x1) (y2_3)
  (fun (y8_0, y8_1) =>
  k0 (y8_0, y8_1)))))
noncomputable def F_ref14_Turn (fuel : Nat) (x0 : (List Int)) (x1 : Int) (k0 : (Int × (List Int)) → Option Ans) : Option Ans := Fg_ref14_Turn fuel (F_ref14_Write fuel) (F_ref14_Parse fuel) x0 x1 k0
abbrev YF51 : Type := ((List Int)) → (Int) → ((Int × (List Int)) → Option Ans) → Option Ans
theorem F51_eqg (fuel : Nat) (f18 : YF18) (f131 : YF131) (x0 : (List Int)) (x1 : Int) (k : Ev.Cont) : evalFn tab (Gg51 f18 f131) (J51 fuel) kp51 fuel Try.f51 [.c (.sl (.int .u8) x0), .c (.int .i64 x1)] [] k = Fg_ref14_Turn fuel f18 f131 x0 x1 (fun r => match r with | (r0, r1) => k (.tup [(false, [.own 0]), (false, [.int .i64 r0])], [.vec 5 (.int .u8) r1 true])) := by
  kernel_rfl
theorem F51_eq (fuel : Nat) (x0 : (List Int)) (x1 : Int) (k : Ev.Cont) : evalFn tab (G51 fuel) (J51 fuel) kp51 fuel Try.f51 [.c (.sl (.int .u8) x0), .c (.int .i64 x1)] [] k = F_ref14_Turn fuel x0 x1 (fun r => match r with | (r0, r1) => k (.tup [(false, [.own 0]), (false, [.int .i64 r0])], [.vec 5 (.int .u8) r1 true])) :=
  F51_eqg fuel (F_ref14_Write fuel) (F_ref14_Parse fuel) x0 x1 k
theorem hG51 (fuel : Nat) : GOK Try.prog (G51 fuel) :=
  gok_cons ⟨ok18 fuel, enters_of Try.func18 (by kernel_rfl) rfl⟩ <|
  gok_cons ⟨ok131 fuel, enters_of Try.func131 (by kernel_rfl) rfl⟩ <|
  gok_nil
theorem fok51 (fuel : Nat) : FnOK Try.prog 51 (evalFn tab (G51 fuel) (J51 fuel) kp51 fuel Try.f51) :=
  fn_ok tab_ok (hG51 fuel) mixed Try.func51 (c := (Try.f51.body).getD .skip) rfl (fun q hq => by
    rw [(by kernel_rfl : obl (J51 fuel) ((Try.f51.body).getD .skip) = [])] at hq
    cases hq)
noncomputable def mt51 : List Ev.SV → List Ev.Ob → Bool := fun args objs => match args, objs with
 | [.c (.sl (.int .u8) _), .c (.int .i64 _)], [] => true
 | _, _ => false
noncomputable def spg51 (F : YF51) : Ev.Spec := fun args objs k => match args, objs with
 | [.c (.sl (.int .u8) x0), .c (.int .i64 x1)], [] => bif true then F x0 x1 (fun r => match r with | (r0, r1) => k (.tup [(false, [.own 0]), (false, [.int .i64 r0])], [.vec 5 (.int .u8) r1 true])) else none
 | _, _ => none
noncomputable def spec51 (fuel : Nat) : Ev.Spec := spg51 (F_ref14_Turn fuel)
theorem ok51 (fuel : Nat) : FnOK Try.prog 51 (spec51 fuel) := by
  intro args objs kk r h
  unfold spec51 spg51 at h
  split at h
  · skip
    obtain ⟨hb, h⟩ := cond_some' h
    simp only [Bool.and_eq_true, Nat.beq_eq, decide_eq_true_eq] at hb
    clear hb
    exact fok51 fuel _ _ kk r ((F51_eq fuel _ _ kk).trans h)
  · cases h
end Go.Proofs.Ytihfgpfofmjbaaa

