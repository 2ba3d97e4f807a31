/- What the functions that FileEmbedded reaches do: their typed texts, each with the proof that the machine does it. No condition. -/
import Derived.Test.YtihfgpfofmjbaaaEvX
import Derived.Test.YtihfgpfofmjbaaaFsFileEmbedded2
import Derived.Test.YtihfgpfofmjbaaaFsFileEmbedded1
set_option linter.unusedVariables false
set_option linter.unusedSimpArgs false
set_option linter.unusedVariables false
set_option linter.unusedSimpArgs false
set_option maxRecDepth 100000
set_option maxHeartbeats 2000000
namespace Go.Proofs.Ytihfgpfofmjbaaa
open Go Ev
def kp104 (i : Nat) : Option (List Nat) := Ev.look i [(6, [0, 3, 5, 6]), (100000, [3]), (400000, [2])]
noncomputable def Gg104 (f174_6fe : YF174_6fe) (f175_bb9 : YF175_bb9) (f176_4ba : YF176_4ba) (f177_775 : YF177_775) (f : Nat) : Option Ev.Spec := Ev.look f [(174, spg174_6fe f174_6fe), (175, spg175_bb9 f175_bb9), (176, spg176_4ba f176_4ba), (177, spg177_775 f177_775)]
noncomputable def G104 (fuel : Nat) : Nat → Option Ev.Spec := Gg104 (F_ref14_Parsed_failed_6fe fuel) (F_ref14_Parsed_header_bb9 fuel) (F_ref14_Parsed_data_4ba fuel) (F_ref14_Parsed_ordered_775 fuel)
noncomputable def S_ref14_Embedded_0 (fuel : Nat) (v : (List Int) × Int × Int × Int × Int × Int × (List (Int × (Int × (Int × ((List Int) × ((List Bool) × (List Int))))))) × (List Int) × (List (Int × Int))) (c : ((List Int) × Int × Int × Int × Int × Int × (List (Int × (Int × (Int × ((List Int) × ((List Bool) × (List Int))))))) × (List Int) × (List (Int × Int))) → Option Ans) (B : (Int × Int × Int × (List (Int × (Int × (Int × ((List Int) × ((List Bool) × (List Int))))))) × (List Int) × (List (Int × Int)) → Option Ans) × (Int × Int × Int × (List (Int × (Int × (Int × ((List Int) × ((List Bool) × (List Int))))))) × (List Int) × (List (Int × Int)) → Option Ans)) : Option Ans := match v, B with
  | (x0, x1, x2, x3, x4, x5, x6, x7, x8), (ret, b) =>
   bif Decidable.decide (x2 < (↑x0.length : Int)) then
      (F_ref14_Parsed_header_bb9 fuel (x0) (x2) (x3) (x4) (x5) (x6) (x7) (x8)
        (fun (y3_0, y3_1, y3_2, y3_3, y3_4, y3_5, y3_6) =>
          bif y3_0 == (0 : Int) then
           ret (y3_1, y3_2, y3_3, y3_4, y3_5, y3_6)
          else
           bif Decidable.decide ((0 : Int) ≤ x1 ∧ x1 < (↑y3_4.length : Int)) then
           bif (y3_4.getD x1.toNat ((0 : Int), (0 : Int), (0 : Int), [], [], [])).snd.fst == (9 : Int) then
             (F_ref14_Parsed_failed_6fe fuel (x2) ((60 : Int)) (y3_1) (y3_2) (y3_3) (y3_4) (y3_5) (y3_6)
               (fun (y10_0, y10_1, y10_2, y10_3, y10_4, y10_5) =>
                 ret (y10_0, y10_1, y10_2, y10_3, y10_4, y10_5)))
            else
             (F_ref14_Parsed_data_4ba fuel (x0) (x1) (y3_0) (y3_1) (y3_2) (y3_3) (y3_4) (y3_5) (y3_6)
               (fun (y10_0, y10_1, y10_2, y10_3, y10_4, y10_5, y10_6, y10_7) =>
                 bif !y10_1 then
                  ret (y10_2, y10_3, y10_4, y10_5, y10_6, y10_7)
                 else
                  c (x0, Go.IntKind.i64.wrap (x1 + (1 : Int)), y10_0, y10_2, y10_3, y10_4, y10_5, y10_6, y10_7)))
           else none)
        (fun (y3_0, y3_1, y3_2, y3_3, y3_4, y3_5, y3_6) =>
          bif y3_0 == (0 : Int) then
           ret (y3_1, y3_2, y3_3, y3_4, y3_5, y3_6)
          else
           bif Decidable.decide ((0 : Int) ≤ x1 ∧ x1 < (↑y3_4.length : Int)) then
           bif (y3_4.getD x1.toNat ((0 : Int), (0 : Int), (0 : Int), [], [], [])).snd.fst == (9 : Int) then
             (F_ref14_Parsed_failed_6fe fuel (x2) ((60 : Int)) (y3_1) (y3_2) (y3_3) (y3_4) (y3_5) (y3_6)
               (fun (y10_0, y10_1, y10_2, y10_3, y10_4, y10_5) =>
                 ret (y10_0, y10_1, y10_2, y10_3, y10_4, y10_5)))
            else
             (F_ref14_Parsed_data_4ba fuel (x0) (x1) (y3_0) (y3_1) (y3_2) (y3_3) (y3_4) (y3_5) (y3_6)
               (fun (y10_0, y10_1, y10_2, y10_3, y10_4, y10_5, y10_6, y10_7) =>
                 bif !y10_1 then
                  ret (y10_2, y10_3, y10_4, y10_5, y10_6, y10_7)
                 else
                  c (x0, Go.IntKind.i64.wrap (x1 + (1 : Int)), y10_0, y10_2, y10_3, y10_4, y10_5, y10_6, y10_7)))
           else none))
     else
      b (x3, x4, x5, x6, x7, x8)
noncomputable def L_ref14_Embedded_0 (fuel : Nat) (v : (List Int) × Int × Int × Int × Int × Int × (List (Int × (Int × (Int × ((List Int) × ((List Bool) × (List Int))))))) × (List Int) × (List (Int × Int))) (ret : (Int × Int × Int × (List (Int × (Int × (Int × ((List Int) × ((List Bool) × (List Int))))))) × (List Int) × (List (Int × Int)) → Option Ans)) (b : (Int × Int × Int × (List (Int × (Int × (Int × ((List Int) × ((List Bool) × (List Int))))))) × (List Int) × (List (Int × Int)) → Option Ans)) : Option Ans := iter (S_ref14_Embedded_0 fuel) fuel v (ret, b)
noncomputable def J104_0 (fuel : Nat) (i : Nat) : Option Ev.Blk := Ev.look i []
noncomputable def T104_0 (v : (List Int) × Int × Int × Int × Int × Int × (List (Int × (Int × (Int × ((List Int) × ((List Bool) × (List Int))))))) × (List Int) × (List (Int × Int))) : Ev.St := match v with | (x0, x1, x2, x3, x4, x5, x6, x7, x8) => ⟨[(0, .c (.sl (.int .u8) x0)), (3, .c (.ptr 0 0)), (5, .c (.int .i64 x1)), (6, .c (.int .i64 x2))], [(0, .cells 145 [.int .i64 x3, .own 1, .own 2, .own 3, .int .i64 x4, .int .i64 x5]), (1, .vec 103 (.pair (.int .i64) (.pair (.int .i64) (.pair (.int .i64) (.pair (.sl (.int .i64)) (.pair (.sl .bool) (.sl (.int .u8))))))) x6 true), (2, .vec 3 (.int .i64) x7 true), (3, .vec 44 (.pair (.int .i64) (.int .i64)) x8 true)], 4, 0⟩
noncomputable def E104_0 (K : Ev.Ex → Ev.St → Option Ans) : (Int × Int × Int × (List (Int × (Int × (Int × ((List Int) × ((List Bool) × (List Int))))))) × (List Int) × (List (Int × Int)) → Option Ans) × (Int × Int × Int × (List (Int × (Int × (Int × ((List Int) × ((List Bool) × (List Int))))))) × (List Int) × (List (Int × Int)) → Option Ans) := ((fun v => match v with | (x0, x1, x2, x3, x4, x5) => K .ret ⟨[(2, .c (.ptr 0 0))], [(0, .cells 145 [.int .i64 x0, .own 1, .own 2, .own 3, .int .i64 x1, .int .i64 x2]), (1, .vec 103 (.pair (.int .i64) (.pair (.int .i64) (.pair (.int .i64) (.pair (.sl (.int .i64)) (.pair (.sl .bool) (.sl (.int .u8))))))) x3 true), (2, .vec 3 (.int .i64) x4 true), (3, .vec 44 (.pair (.int .i64) (.int .i64)) x5 true)], 4, 0⟩), (fun v => match v with | (x0, x1, x2, x3, x4, x5) => K .normal ⟨[(3, .c (.ptr 0 0))], [(0, .cells 145 [.int .i64 x0, .own 1, .own 2, .own 3, .int .i64 x1, .int .i64 x2]), (1, .vec 103 (.pair (.int .i64) (.pair (.int .i64) (.pair (.int .i64) (.pair (.sl (.int .i64)) (.pair (.sl .bool) (.sl (.int .u8))))))) x3 true), (2, .vec 3 (.int .i64) x4 true), (3, .vec 44 (.pair (.int .i64) (.int .i64)) x5 true)], 4, 0⟩))
theorem S104_0_okg (fuel : Nat) (f174_6fe : YF174_6fe) (f175_bb9 : YF175_bb9) (f176_4ba : YF176_4ba) (f177_775 : YF177_775) (R : Ev.St → Option Ans) (K : Ev.Ex → Ev.St → Option Ans) (x0 : (List Int)) (x1 : Int) (x2 : Int) (x3 : Int) (x4 : Int) (x5 : Int) (x6 : (List (Int × (Int × (Int × ((List Int) × ((List Bool) × (List Int)))))))) (x7 : (List Int)) (x8 : (List (Int × Int))) : evalCode tab (Gg104 f174_6fe f175_bb9 f176_4ba f177_775) (J104_0 fuel) kp104 fuel (bodyOf 0 Try.f104) (T104_0 (x0, x1, x2, x3, x4, x5, x6, x7, x8)) (lc kp104 6 0 R K) = (fun (c : ((List Int) × Int × Int × Int × Int × Int × (List (Int × (Int × (Int × ((List Int) × ((List Bool) × (List Int))))))) × (List Int) × (List (Int × Int))) → Option Ans) (B : (Int × Int × Int × (List (Int × (Int × (Int × ((List Int) × ((List Bool) × (List Int))))))) × (List Int) × (List (Int × Int)) → Option Ans) × (Int × Int × Int × (List (Int × (Int × (Int × ((List Int) × ((List Bool) × (List Int))))))) × (List Int) × (List (Int × Int)) → Option Ans)) => match B with
  | (ret, b) =>
   bif Decidable.decide (x2 < (↑x0.length : Int)) then
      (f175_bb9 (x0) (x2) (x3) (x4) (x5) (x6) (x7) (x8)
        (fun (y3_0, y3_1, y3_2, y3_3, y3_4, y3_5, y3_6) =>
          bif y3_0 == (0 : Int) then
           ret (y3_1, y3_2, y3_3, y3_4, y3_5, y3_6)
          else
           bif Decidable.decide ((0 : Int) ≤ x1 ∧ x1 < (↑y3_4.length : Int)) then
           bif (y3_4.getD x1.toNat ((0 : Int), (0 : Int), (0 : Int), [], [], [])).snd.fst == (9 : Int) then
             (f174_6fe (x2) ((60 : Int)) (y3_1) (y3_2) (y3_3) (y3_4) (y3_5) (y3_6)
               (fun (y10_0, y10_1, y10_2, y10_3, y10_4, y10_5) =>
                 ret (y10_0, y10_1, y10_2, y10_3, y10_4, y10_5)))
            else
             (f176_4ba (x0) (x1) (y3_0) (y3_1) (y3_2) (y3_3) (y3_4) (y3_5) (y3_6)
               (fun (y10_0, y10_1, y10_2, y10_3, y10_4, y10_5, y10_6, y10_7) =>
                 bif !y10_1 then
                  ret (y10_2, y10_3, y10_4, y10_5, y10_6, y10_7)
                 else
                  c (x0, Go.IntKind.i64.wrap (x1 + (1 : Int)), y10_0, y10_2, y10_3, y10_4, y10_5, y10_6, y10_7)))
           else none)
        (fun (y3_0, y3_1, y3_2, y3_3, y3_4, y3_5, y3_6) =>
          bif y3_0 == (0 : Int) then
           ret (y3_1, y3_2, y3_3, y3_4, y3_5, y3_6)
          else
           bif Decidable.decide ((0 : Int) ≤ x1 ∧ x1 < (↑y3_4.length : Int)) then
           bif (y3_4.getD x1.toNat ((0 : Int), (0 : Int), (0 : Int), [], [], [])).snd.fst == (9 : Int) then
             (f174_6fe (x2) ((60 : Int)) (y3_1) (y3_2) (y3_3) (y3_4) (y3_5) (y3_6)
               (fun (y10_0, y10_1, y10_2, y10_3, y10_4, y10_5) =>
                 ret (y10_0, y10_1, y10_2, y10_3, y10_4, y10_5)))
            else
             (f176_4ba (x0) (x1) (y3_0) (y3_1) (y3_2) (y3_3) (y3_4) (y3_5) (y3_6)
               (fun (y10_0, y10_1, y10_2, y10_3, y10_4, y10_5, y10_6, y10_7) =>
                 bif !y10_1 then
                  ret (y10_2, y10_3, y10_4, y10_5, y10_6, y10_7)
                 else
                  c (x0, Go.IntKind.i64.wrap (x1 + (1 : Int)), y10_0, y10_2, y10_3, y10_4, y10_5, y10_6, y10_7)))
           else none))
     else
      b (x3, x4, x5, x6, x7, x8)) (fun v => R (T104_0 v)) (E104_0 K) := by
  kernel_rfl
theorem S104_0_ok (fuel : Nat) (R : Ev.St → Option Ans) (K : Ev.Ex → Ev.St → Option Ans) (x0 : (List Int)) (x1 : Int) (x2 : Int) (x3 : Int) (x4 : Int) (x5 : Int) (x6 : (List (Int × (Int × (Int × ((List Int) × ((List Bool) × (List Int)))))))) (x7 : (List Int)) (x8 : (List (Int × Int))) : evalCode tab (G104 fuel) (J104_0 fuel) kp104 fuel (bodyOf 0 Try.f104) (T104_0 (x0, x1, x2, x3, x4, x5, x6, x7, x8)) (lc kp104 6 0 R K) = S_ref14_Embedded_0 fuel (x0, x1, x2, x3, x4, x5, x6, x7, x8) (fun v => R (T104_0 v)) (E104_0 K) :=
  S104_0_okg fuel (F_ref14_Parsed_failed_6fe fuel) (F_ref14_Parsed_header_bb9 fuel) (F_ref14_Parsed_data_4ba fuel) (F_ref14_Parsed_ordered_775 fuel) R K x0 x1 x2 x3 x4 x5 x6 x7 x8
noncomputable def B104_0 (fuel : Nat) : Ev.Blk := fun st K => match canonO (kp104 6) st with
  | some s => (match s with
    | ⟨[(q0, .c (.sl (.int .u8) x0)), (q1, .c (.ptr q2 q3)), (q4, .c (.int .i64 x1)), (q5, .c (.int .i64 x2))], [(q6, .cells q7 [.int .i64 x3, .own q8, .own q9, .own q10, .int .i64 x4, .int .i64 x5]), (q11, .vec q12 (.pair (.int .i64) (.pair (.int .i64) (.pair (.int .i64) (.pair (.sl (.int .i64)) (.pair (.sl .bool) (.sl (.int .u8))))))) x6 true), (q13, .vec q14 (.int .i64) x7 true), (q15, .vec q16 (.pair (.int .i64) (.int .i64)) x8 true)], q17, q18⟩ => bif Nat.beq q0 0 && Nat.beq q1 3 && Nat.beq q2 0 && Nat.beq q3 0 && Nat.beq q4 5 && Nat.beq q5 6 && Nat.beq q6 0 && Nat.beq q7 145 && Nat.beq q8 1 && Nat.beq q9 2 && Nat.beq q10 3 && Nat.beq q11 1 && Nat.beq q12 103 && Nat.beq q13 2 && Nat.beq q14 3 && Nat.beq q15 3 && Nat.beq q16 44 && Nat.beq q17 4 && Nat.beq q18 0 then iter (S_ref14_Embedded_0 fuel) fuel (x0, x1, x2, x3, x4, x5, x6, x7, x8) (E104_0 K) else none
    | _ => none)
  | none => none
theorem B104_0_ok (fuel : Nat) (st : Ev.St) (K : Ev.Ex → Ev.St → Option Ans) (r : Ans) (h : B104_0 fuel st K = some r) : evalCode tab (G104 fuel) (J104_0 fuel) kp104 fuel (.block 0 (.loop (bodyOf 0 Try.f104))) st K = some r := by
  unfold B104_0 at h
  split at h
  · rename_i s hs
    split at h
    · skip
      obtain ⟨hb, h⟩ := cond_some' h
      simp only [Bool.and_eq_true, Nat.beq_eq, decide_eq_true_eq] at hb
      obtain ⟨⟨⟨⟨⟨⟨⟨⟨⟨⟨⟨⟨⟨⟨⟨⟨⟨⟨rfl, rfl⟩, rfl⟩, rfl⟩, rfl⟩, rfl⟩, rfl⟩, rfl⟩, rfl⟩, rfl⟩, rfl⟩, rfl⟩, rfl⟩, rfl⟩, rfl⟩, rfl⟩, rfl⟩, rfl⟩, rfl⟩ := hb
      exact blk_loop (S := T104_0) (ks := E104_0) (step := S_ref14_Embedded_0 fuel) (v := (_, _, _, _, _, _, _, _, _)) (by kernel_rfl) (by kernel_rfl) (fun R K v => by obtain ⟨x0, x1, x2, x3, x4, x5, x6, x7, x8⟩ := v; exact S104_0_ok fuel R K x0 x1 x2 x3 x4 x5 x6 x7 x8) hs h
    · cases h
  · cases h
noncomputable def J104 (fuel : Nat) (i : Nat) : Option Ev.Blk := Ev.look i [(100000, B104_0 fuel)]
noncomputable def F_ref14_Embedded (fuel : Nat) (x0 : (List Int)) (k0 : (Int × Int × Int × (List (Int × (Int × (Int × ((List Int) × ((List Bool) × (List Int))))))) × (List Int) × (List (Int × Int))) → Option Ans) : Option Ans :=
  bif Decidable.decide ((↑x0.length : Int) > (40000 : Int)) then
   (F_ref14_Parsed_failed_6fe fuel ((0 : Int)) ((4 : Int)) ((2 : Int)) ((0 : Int)) ((0 : Int)) ([]) ([]) ([])
     (fun (y3_0, y3_1, y3_2, y3_3, y3_4, y3_5) =>
       k0 (y3_0, y3_1, y3_2, y3_3, y3_4, y3_5)))
  else
   (L_ref14_Embedded_0 fuel (x0, (0 : Int), (0 : Int), (2 : Int), (0 : Int), (0 : Int), [], [], [])
     (fun (ret0_0, ret0_1, ret0_2, ret0_3, ret0_4, ret0_5) =>
       k0 (ret0_0, ret0_1, ret0_2, ret0_3, ret0_4, ret0_5))
     (fun (b0_0, b0_1, b0_2, b0_3, b0_4, b0_5) =>
       (F_ref14_Parsed_ordered_775 fuel (b0_0) (b0_1) (b0_2) (b0_3) (b0_4) (b0_5)
         (fun (y7_0, y7_1, y7_2, y7_3, y7_4, y7_5) =>
           k0 (y7_0, y7_1, y7_2, y7_3, y7_4, y7_5)))))
abbrev YF104 : Type := ((List Int)) → ((Int × Int × Int × (List (Int × (Int × (Int × ((List Int) × ((List Bool) × (List Int))))))) × (List Int) × (List (Int × Int))) → Option Ans) → Option Ans
theorem F104_eqg (fuel : Nat) (f174_6fe : YF174_6fe) (f175_bb9 : YF175_bb9) (f176_4ba : YF176_4ba) (f177_775 : YF177_775) (x0 : (List Int)) (k : Ev.Cont) : evalFn tab (Gg104 f174_6fe f175_bb9 f176_4ba f177_775) (J104 fuel) kp104 fuel Try.f104 [.c (.sl (.int .u8) x0)] [] k = (fun  (k0 : (Int × Int × Int × (List (Int × (Int × (Int × ((List Int) × ((List Bool) × (List Int))))))) × (List Int) × (List (Int × Int))) → Option Ans) =>
  bif Decidable.decide ((↑x0.length : Int) > (40000 : Int)) then
   (f174_6fe ((0 : Int)) ((4 : Int)) ((2 : Int)) ((0 : Int)) ((0 : Int)) ([]) ([]) ([])
     (fun (y3_0, y3_1, y3_2, y3_3, y3_4, y3_5) =>
       k0 (y3_0, y3_1, y3_2, y3_3, y3_4, y3_5)))
  else
   (L_ref14_Embedded_0 fuel (x0, (0 : Int), (0 : Int), (2 : Int), (0 : Int), (0 : Int), [], [], [])
     (fun (ret0_0, ret0_1, ret0_2, ret0_3, ret0_4, ret0_5) =>
       k0 (ret0_0, ret0_1, ret0_2, ret0_3, ret0_4, ret0_5))
     (fun (b0_0, b0_1, b0_2, b0_3, b0_4, b0_5) =>
       (f177_775 (b0_0) (b0_1) (b0_2) (b0_3) (b0_4) (b0_5)
         (fun (y7_0, y7_1, y7_2, y7_3, y7_4, y7_5) =>
           k0 (y7_0, y7_1, y7_2, y7_3, y7_4, y7_5)))))) (fun r => match r with | (r0, r1, r2, r3, r4, r5) => k (.c (.ptr 0 0), [.cells 145 [.int .i64 r0, .own 1, .own 2, .own 3, .int .i64 r1, .int .i64 r2], .vec 103 (.pair (.int .i64) (.pair (.int .i64) (.pair (.int .i64) (.pair (.sl (.int .i64)) (.pair (.sl .bool) (.sl (.int .u8))))))) r3 true, .vec 3 (.int .i64) r4 true, .vec 44 (.pair (.int .i64) (.int .i64)) r5 true])) := by
  kernel_rfl
theorem F104_eq (fuel : Nat) (x0 : (List Int)) (k : Ev.Cont) : evalFn tab (G104 fuel) (J104 fuel) kp104 fuel Try.f104 [.c (.sl (.int .u8) x0)] [] k = F_ref14_Embedded fuel x0 (fun r => match r with | (r0, r1, r2, r3, r4, r5) => k (.c (.ptr 0 0), [.cells 145 [.int .i64 r0, .own 1, .own 2, .own 3, .int .i64 r1, .int .i64 r2], .vec 103 (.pair (.int .i64) (.pair (.int .i64) (.pair (.int .i64) (.pair (.sl (.int .i64)) (.pair (.sl .bool) (.sl (.int .u8))))))) r3 true, .vec 3 (.int .i64) r4 true, .vec 44 (.pair (.int .i64) (.int .i64)) r5 true])) :=
  F104_eqg fuel (F_ref14_Parsed_failed_6fe fuel) (F_ref14_Parsed_header_bb9 fuel) (F_ref14_Parsed_data_4ba fuel) (F_ref14_Parsed_ordered_775 fuel) x0 k
theorem hG104 (fuel : Nat) : GOK Try.prog (G104 fuel) :=
  gok_cons ⟨ok174_6fe fuel, enters_of Try.func174 (by kernel_rfl) rfl⟩ <|
  gok_cons ⟨ok175_bb9 fuel, enters_of Try.func175 (by kernel_rfl) rfl⟩ <|
  gok_cons ⟨ok176_4ba fuel, enters_of Try.func176 (by kernel_rfl) rfl⟩ <|
  gok_cons ⟨ok177_775 fuel, enters_of Try.func177 (by kernel_rfl) rfl⟩ <|
  gok_nil
theorem B104_0_blk (fuel : Nat) : BlkOK Try.prog Try.f104.ntmps (.block 0 (.loop (bodyOf 0 Try.f104))) (B104_0 fuel) :=
  blk_of (blk_of_code tab_ok (hG104 fuel) mixed (J := J104_0 fuel) (kp := kp104) (fuel := fuel) (by kernel_rfl) (fun q hq => by
    rw [(by kernel_rfl : obl (J104_0 fuel) (.block 0 (.loop (bodyOf 0 Try.f104))) = [])] at hq
    cases hq)) (B104_0_ok fuel)
theorem fok104 (fuel : Nat) : FnOK Try.prog 104 (evalFn tab (G104 fuel) (J104 fuel) kp104 fuel Try.f104) :=
  fn_ok tab_ok (hG104 fuel) mixed Try.func104 (c := (Try.f104.body).getD .skip) rfl (fun q hq => by
    rw [(by kernel_rfl : obl (J104 fuel) ((Try.f104.body).getD .skip) = [(.block 0 (.loop (bodyOf 0 Try.f104)), B104_0 fuel)])] at hq
    simp only [List.mem_cons, List.not_mem_nil, or_false] at hq
    subst hq
    · exact B104_0_blk fuel)
noncomputable def mt104 : List Ev.SV → List Ev.Ob → Bool := fun args objs => match args, objs with
  | [.c (.sl (.int .u8) _)], [] => true
  | _, _ => false
noncomputable def spg104 (F : YF104) : Ev.Spec := fun args objs k => match args, objs with
  | [.c (.sl (.int .u8) x0)], [] => bif true then F x0 (fun r => match r with | (r0, r1, r2, r3, r4, r5) => k (.c (.ptr 0 0), [.cells 145 [.int .i64 r0, .own 1, .own 2, .own 3, .int .i64 r1, .int .i64 r2], .vec 103 (.pair (.int .i64) (.pair (.int .i64) (.pair (.int .i64) (.pair (.sl (.int .i64)) (.pair (.sl .bool) (.sl (.int .u8))))))) r3 true, .vec 3 (.int .i64) r4 true, .vec 44 (.pair (.int .i64) (.int .i64)) r5 true])) else none
  | _, _ => none
noncomputable def spec104 (fuel : Nat) : Ev.Spec := spg104 (F_ref14_Embedded fuel)
theorem ok104 (fuel : Nat) : FnOK Try.prog 104 (spec104 fuel) := by
  intro args objs kk r h
  unfold spec104 spg104 at h
  split at h
  · skip
    obtain ⟨hb, h⟩ := cond_some' h
    simp only [Bool.and_eq_true, Nat.beq_eq, decide_eq_true_eq] at hb
    clear hb
    exact fok104 fuel _ _ kk r ((F104_eq fuel _ kk).trans h)
  · cases h
end Go.Proofs.Ytihfgpfofmjbaaa

set_option linter.unusedVariables false
set_option linter.unusedSimpArgs false
set_option maxRecDepth 100000
set_option maxHeartbeats 2000000
namespace Go.Proofs.Ytihfgpfofmjbaaa
open Go Ev
def kp35 (i : Nat) : Option (List Nat) := Ev.look i [(200003, [4])]
noncomputable def Gg35 (f104 : YF104) (f : Nat) : Option Ev.Spec := Ev.look f [(104, spg104 f104)]
noncomputable def G35 (fuel : Nat) : Nat → Option Ev.Spec := Gg35 (F_ref14_Embedded fuel)
noncomputable def J35 (fuel : Nat) (i : Nat) : Option Ev.Blk := Ev.look i []
noncomputable def F_ref14_ReadEmbedded (fuel : Nat) (x0 : (List Int)) (k0 : (Int × (List (Int × (Int × (Int × ((List Int) × ((List Bool) × (List Int)))))))) → Option Ans) : Option Ans :=
  (F_ref14_Embedded fuel (x0)
    (fun (y2_0, y2_1, y2_2, y2_3, y2_4, y2_5) =>
      bif y2_1 != (0 : Int) then
       k0 (y2_1, [])
      else
       k0 ((0 : Int), y2_3)))
abbrev YF35 : Type := ((List Int)) → ((Int × (List (Int × (Int × (Int × ((List Int) × ((List Bool) × (List Int)))))))) → Option Ans) → Option Ans
theorem F35_eqg (fuel : Nat) (f104 : YF104) (x0 : (List Int)) (k : Ev.Cont) : evalFn tab (Gg35 f104) (J35 fuel) kp35 fuel Try.f35 [.c (.sl (.int .u8) x0)] [] k = (fun  (k0 : (Int × (List (Int × (Int × (Int × ((List Int) × ((List Bool) × (List Int)))))))) → Option Ans) =>
  (f104 (x0)
    (fun (y2_0, y2_1, y2_2, y2_3, y2_4, y2_5) =>
      bif y2_1 != (0 : Int) then
       k0 (y2_1, [])
      else
       k0 ((0 : Int), y2_3)))) (fun r => match r with | (r0, r1) => k (.tup [(false, [.own 0]), (false, [.int .i64 r0])], [.vec 103 (.pair (.int .i64) (.pair (.int .i64) (.pair (.int .i64) (.pair (.sl (.int .i64)) (.pair (.sl .bool) (.sl (.int .u8))))))) r1 true])) := by
  kernel_rfl
theorem F35_eq (fuel : Nat) (x0 : (List Int)) (k : Ev.Cont) : evalFn tab (G35 fuel) (J35 fuel) kp35 fuel Try.f35 [.c (.sl (.int .u8) x0)] [] k = F_ref14_ReadEmbedded fuel x0 (fun r => match r with | (r0, r1) => k (.tup [(false, [.own 0]), (false, [.int .i64 r0])], [.vec 103 (.pair (.int .i64) (.pair (.int .i64) (.pair (.int .i64) (.pair (.sl (.int .i64)) (.pair (.sl .bool) (.sl (.int .u8))))))) r1 true])) :=
  F35_eqg fuel (F_ref14_Embedded fuel) x0 k
theorem hG35 (fuel : Nat) : GOK Try.prog (G35 fuel) :=
  gok_cons ⟨ok104 fuel, enters_of Try.func104 (by kernel_rfl) rfl⟩ <|
  gok_nil
theorem fok35 (fuel : Nat) : FnOK Try.prog 35 (evalFn tab (G35 fuel) (J35 fuel) kp35 fuel Try.f35) :=
  fn_ok tab_ok (hG35 fuel) mixed Try.func35 (c := (Try.f35.body).getD .skip) rfl (fun q hq => by
    rw [(by kernel_rfl : obl (J35 fuel) ((Try.f35.body).getD .skip) = [])] at hq
    cases hq)
noncomputable def mt35 : List Ev.SV → List Ev.Ob → Bool := fun args objs => match args, objs with
  | [.c (.sl (.int .u8) _)], [] => true
  | _, _ => false
noncomputable def spg35 (F : YF35) : Ev.Spec := fun args objs k => match args, objs with
  | [.c (.sl (.int .u8) x0)], [] => bif true then F x0 (fun r => match r with | (r0, r1) => k (.tup [(false, [.own 0]), (false, [.int .i64 r0])], [.vec 103 (.pair (.int .i64) (.pair (.int .i64) (.pair (.int .i64) (.pair (.sl (.int .i64)) (.pair (.sl .bool) (.sl (.int .u8))))))) r1 true])) else none
  | _, _ => none
noncomputable def spec35 (fuel : Nat) : Ev.Spec := spg35 (F_ref14_ReadEmbedded fuel)
theorem ok35 (fuel : Nat) : FnOK Try.prog 35 (spec35 fuel) := by
  intro args objs kk r h
  unfold spec35 spg35 at h
  split at h
  · skip
    obtain ⟨hb, h⟩ := cond_some' h
    simp only [Bool.and_eq_true, Nat.beq_eq, decide_eq_true_eq] at hb
    clear hb
    exact fok35 fuel _ _ kk r ((F35_eq fuel _ kk).trans h)
  · cases h
end Go.Proofs.Ytihfgpfofmjbaaa

set_option linter.unusedVariables false
set_option linter.unusedSimpArgs false
set_option maxRecDepth 100000
set_option maxHeartbeats 2000000
namespace Go.Proofs.Ytihfgpfofmjbaaa
open Go Ev
def kp7 (i : Nat) : Option (List Nat) := Ev.look i []
noncomputable def Gg7 (f16 : YF16) (f34 : YF34) (f35 : YF35) (f36 : YF36) (f : Nat) : Option Ev.Spec := Ev.look f [(16, spg16 f16), (34, spg34 f34), (35, spg35 f35), (36, spg36 f36)]
noncomputable def G7 (fuel : Nat) : Nat → Option Ev.Spec := Gg7 (F_law14_Awake fuel) (F_file_ReadEmbedded fuel) (F_ref14_ReadEmbedded fuel) (F_ref12_SameList fuel)
noncomputable def J7 (fuel : Nat) (i : Nat) : Option Ev.Blk := Ev.look i []
noncomputable def F_law14_FileEmbedded (fuel : Nat) (x0 : (List Int)) (k0 : (Bool) → Option Ans) : Option Ans :=
  bif Decidable.decide ((↑x0.length : Int) > (80000 : Int)) then
   (F_law14_Awake fuel
     (fun y3 =>
       k0 y3))
  else
   (F_file_ReadEmbedded fuel (x0)
     (fun (y3_0, y3_1) =>
       (F_ref14_ReadEmbedded fuel (x0)
         (fun (y7_0, y7_1) =>
           bif y3_0 == y7_0 then
            (F_ref12_SameList fuel (y3_1) (y7_1)
              (fun y12 =>
                bif y12 then
                 (F_law14_Awake fuel
                   (fun y17 =>
                     k0 y17))
                else
                 k0 Bool.false))
           else
            k0 Bool.false))))
abbrev YF7 : Type := ((List Int)) → ((Bool) → Option Ans) → Option Ans
theorem F7_eqg (fuel : Nat) (f16 : YF16) (f34 : YF34) (f35 : YF35) (f36 : YF36) (x0 : (List Int)) (k : Ev.Cont) : evalFn tab (Gg7 f16 f34 f35 f36) (J7 fuel) kp7 fuel Try.f7 [.c (.sl (.int .u8) x0)] [] k = (fun  (k0 : (Bool) → Option Ans) =>
  bif Decidable.decide ((↑x0.length : Int) > (80000 : Int)) then
   (f16
     (fun y3 =>
       k0 y3))
  else
   (f34 (x0)
     (fun (y3_0, y3_1) =>
       (f35 (x0)
         (fun (y7_0, y7_1) =>
           bif y3_0 == y7_0 then
            (f36 (y3_1) (y7_1)
              (fun y12 =>
                bif y12 then
                 (f16
                   (fun y17 =>
                     k0 y17))
                else
                 k0 Bool.false))
           else
            k0 Bool.false))))) (fun r => match r with | r0 => k (.c (.bool r0), [])) := by
  kernel_rfl
theorem F7_eq (fuel : Nat) (x0 : (List Int)) (k : Ev.Cont) : evalFn tab (G7 fuel) (J7 fuel) kp7 fuel Try.f7 [.c (.sl (.int .u8) x0)] [] k = F_law14_FileEmbedded fuel x0 (fun r => match r with | r0 => k (.c (.bool r0), [])) :=
  F7_eqg fuel (F_law14_Awake fuel) (F_file_ReadEmbedded fuel) (F_ref14_ReadEmbedded fuel) (F_ref12_SameList fuel) x0 k
theorem hG7 (fuel : Nat) : GOK Try.prog (G7 fuel) :=
  gok_cons ⟨ok16 fuel, enters_of Try.func16 (by kernel_rfl) rfl⟩ <|
  gok_cons ⟨ok34 fuel, enters_of Try.func34 (by kernel_rfl) rfl⟩ <|
  gok_cons ⟨ok35 fuel, enters_of Try.func35 (by kernel_rfl) rfl⟩ <|
  gok_cons ⟨ok36 fuel, enters_of Try.func36 (by kernel_rfl) rfl⟩ <|
  gok_nil
theorem fok7 (fuel : Nat) : FnOK Try.prog 7 (evalFn tab (G7 fuel) (J7 fuel) kp7 fuel Try.f7) :=
  fn_ok tab_ok (hG7 fuel) mixed Try.func7 (c := (Try.f7.body).getD .skip) rfl (fun q hq => by
    rw [(by kernel_rfl : obl (J7 fuel) ((Try.f7.body).getD .skip) = [])] at hq
    cases hq)
noncomputable def mt7 : List Ev.SV → List Ev.Ob → Bool := fun args objs => match args, objs with
  | [.c (.sl (.int .u8) _)], [] => true
  | _, _ => false
noncomputable def spg7 (F : YF7) : Ev.Spec := fun args objs k => match args, objs with
  | [.c (.sl (.int .u8) x0)], [] => bif true then F x0 (fun r => match r with | r0 => k (.c (.bool r0), [])) else none
  | _, _ => none
noncomputable def spec7 (fuel : Nat) : Ev.Spec := spg7 (F_law14_FileEmbedded fuel)
theorem ok7 (fuel : Nat) : FnOK Try.prog 7 (spec7 fuel) := by
  intro args objs kk r h
  unfold spec7 spg7 at h
  split at h
  · skip
    obtain ⟨hb, h⟩ := cond_some' h
    simp only [Bool.and_eq_true, Nat.beq_eq, decide_eq_true_eq] at hb
    clear hb
    exact fok7 fuel _ _ kk r ((F7_eq fuel _ kk).trans h)
  · cases h
end Go.Proofs.Ytihfgpfofmjbaaa

set_option linter.unusedVariables false
set_option linter.unusedSimpArgs false
set_option maxRecDepth 100000
set_option maxHeartbeats 2000000
namespace Go.Proofs.Ytihfgpfofmjbaaa
open Go Ev
def kp159 (i : Nat) : Option (List Nat) := Ev.look i []
noncomputable def Gg159 (f : Nat) : Option Ev.Spec := Ev.look f []
noncomputable def G159 (fuel : Nat) : Nat → Option Ev.Spec := Gg159
noncomputable def J159 (fuel : Nat) (i : Nat) : Option Ev.Blk := Ev.look i []
noncomputable def F_bitmap_fits (fuel : Nat) (x0 : Int) (x1 : Int) (k0 : (Bool) → Option Ans) : Option Ans :=
  bif Decidable.decide (x0 ≥ (0 : Int)) then
   bif Decidable.decide (x1 ≥ (0 : Int)) then
    bif Decidable.decide (x0 ≤ (200 : Int)) then
     bif Decidable.decide (x1 ≤ (200 : Int)) then
      k0 (Decidable.decide (Go.IntKind.i64.wrap (x0 * x1) ≤ (8192 : Int)))
     else
      k0 Bool.false
    else
     k0 Bool.false
   else
    k0 Bool.false
  else
   k0 Bool.false
abbrev YF159 : Type := (Int) → (Int) → ((Bool) → Option Ans) → Option Ans
theorem F159_eq (fuel : Nat) (x0 : Int) (x1 : Int) (k : Ev.Cont) : evalFn tab (G159 fuel) (J159 fuel) kp159 fuel Try.f159 [.c (.int .i64 x0), .c (.int .i64 x1)] [] k = F_bitmap_fits fuel x0 x1 (fun r => match r with | r0 => k (.c (.bool r0), [])) := by
  kernel_rfl
theorem hG159 (fuel : Nat) : GOK Try.prog (G159 fuel) :=
  gok_nil
theorem fok159 (fuel : Nat) : FnOK Try.prog 159 (evalFn tab (G159 fuel) (J159 fuel) kp159 fuel Try.f159) :=
  fn_ok tab_ok (hG159 fuel) mixed Try.func159 (c := (Try.f159.body).getD .skip) rfl (fun q hq => by
    rw [(by kernel_rfl : obl (J159 fuel) ((Try.f159.body).getD .skip) = [])] at hq
    cases hq)
noncomputable def mt159 : List Ev.SV → List Ev.Ob → Bool := fun args objs => match args, objs with
  | [.c (.int .i64 _), .c (.int .i64 _)], [] => true
  | _, _ => false
noncomputable def spg159 (F : YF159) : Ev.Spec := fun args objs k => match args, objs with
  | [.c (.int .i64 x0), .c (.int .i64 x1)], [] => bif true then F x0 x1 (fun r => match r with | r0 => k (.c (.bool r0), [])) else none
  | _, _ => none
noncomputable def spec159 (fuel : Nat) : Ev.Spec := spg159 (F_bitmap_fits fuel)
theorem ok159 (fuel : Nat) : FnOK Try.prog 159 (spec159 fuel) := by
  intro args objs kk r h
  unfold spec159 spg159 at h
  split at h
  · skip
    obtain ⟨hb, h⟩ := cond_some' h
    simp only [Bool.and_eq_true, Nat.beq_eq, decide_eq_true_eq] at hb
    clear hb
    exact fok159 fuel _ _ kk r ((F159_eq fuel _ _ kk).trans h)
  · cases h
end Go.Proofs.Ytihfgpfofmjbaaa

set_option linter.unusedVariables false
set_option linter.unusedSimpArgs false
set_option maxRecDepth 100000
set_option maxHeartbeats 2000000
namespace Go.Proofs.Ytihfgpfofmjbaaa
open Go Ev
def kp89 (i : Nat) : Option (List Nat) := Ev.look i [(4, [23, 24, 25]), (100000, []), (400000, [2])]
noncomputable def Gg89 (f159 : YF159) (f : Nat) : Option Ev.Spec := Ev.look f [(159, spg159 f159)]
noncomputable def G89 (fuel : Nat) : Nat → Option Ev.Spec := Gg89 (F_bitmap_fits fuel)
noncomputable def S_bitmap_Valid_0 (fuel : Nat) (v : (List Int) × Int × Int) (c : ((List Int) × Int × Int) → Option Ans) (B : (Bool → Option Ans) × (Unit → Option Ans)) : Option Ans := match v, B with
  | (x0, x1, x2), (ret, b) =>
   bif Decidable.decide (x2 < x1) then
      bif Decidable.decide ((0 : Int) ≤ x2 ∧ x2 < (↑x0.length : Int)) then
      bif Decidable.decide (x0.getD x2.toNat (0 : Int) > (1 : Int)) then
        ret Bool.false
       else
        c (x0, x1, Go.IntKind.i64.wrap (x2 + (1 : Int)))
      else none
     else
      b ()
noncomputable def L_bitmap_Valid_0 (fuel : Nat) (v : (List Int) × Int × Int) (ret : (Bool → Option Ans)) (b : (Unit → Option Ans)) : Option Ans := iter (S_bitmap_Valid_0 fuel) fuel v (ret, b)
noncomputable def J89_0 (fuel : Nat) (i : Nat) : Option Ev.Blk := Ev.look i []
noncomputable def T89_0 (v : (List Int) × Int × Int) : Ev.St := match v with | (x0, x1, x2) => ⟨[(23, .c (.sl (.int .u8) x0)), (24, .c (.int .i64 x1)), (25, .c (.int .i64 x2))], [], 0, 0⟩
noncomputable def E89_0 (K : Ev.Ex → Ev.St → Option Ans) : (Bool → Option Ans) × (Unit → Option Ans) := ((fun v => match v with | x0 => K .ret ⟨[(2, .c (.bool x0))], [], 0, 0⟩), (fun v => match v with | () => K .normal ⟨[], [], 0, 0⟩))
theorem S89_0_okg (fuel : Nat) (f159 : YF159) (R : Ev.St → Option Ans) (K : Ev.Ex → Ev.St → Option Ans) (x0 : (List Int)) (x1 : Int) (x2 : Int) : evalCode tab (Gg89 f159) (J89_0 fuel) kp89 fuel (bodyOf 0 Try.f89) (T89_0 (x0, x1, x2)) (lc kp89 4 0 R K) = (fun (c : ((List Int) × Int × Int) → Option Ans) (B : (Bool → Option Ans) × (Unit → Option Ans)) => match B with
  | (ret, b) =>
   bif Decidable.decide (x2 < x1) then
      bif Decidable.decide ((0 : Int) ≤ x2 ∧ x2 < (↑x0.length : Int)) then
      bif Decidable.decide (x0.getD x2.toNat (0 : Int) > (1 : Int)) then
        ret Bool.false
       else
        c (x0, x1, Go.IntKind.i64.wrap (x2 + (1 : Int)))
      else none
     else
      b ()) (fun v => R (T89_0 v)) (E89_0 K) := by
  kernel_rfl
theorem S89_0_ok (fuel : Nat) (R : Ev.St → Option Ans) (K : Ev.Ex → Ev.St → Option Ans) (x0 : (List Int)) (x1 : Int) (x2 : Int) : evalCode tab (G89 fuel) (J89_0 fuel) kp89 fuel (bodyOf 0 Try.f89) (T89_0 (x0, x1, x2)) (lc kp89 4 0 R K) = S_bitmap_Valid_0 fuel (x0, x1, x2) (fun v => R (T89_0 v)) (E89_0 K) :=
  S89_0_okg fuel (F_bitmap_fits fuel) R K x0 x1 x2
noncomputable def B89_0 (fuel : Nat) : Ev.Blk := fun st K => match canonO (kp89 4) st with
  | some s => (match s with
    | ⟨[(q0, .c (.sl (.int .u8) x0)), (q1, .c (.int .i64 x1)), (q2, .c (.int .i64 x2))], [], q3, q4⟩ => bif Nat.beq q0 23 && Nat.beq q1 24 && Nat.beq q2 25 && Nat.beq q3 0 && Nat.beq q4 0 then iter (S_bitmap_Valid_0 fuel) fuel (x0, x1, x2) (E89_0 K) else none
    | _ => none)
  | none => none
theorem B89_0_ok (fuel : Nat) (st : Ev.St) (K : Ev.Ex → Ev.St → Option Ans) (r : Ans) (h : B89_0 fuel st K = some r) : evalCode tab (G89 fuel) (J89_0 fuel) kp89 fuel (.block 0 (.loop (bodyOf 0 Try.f89))) st K = some r := by
  unfold B89_0 at h
  split at h
  · rename_i s hs
    split at h
    · skip
      obtain ⟨hb, h⟩ := cond_some' h
      simp only [Bool.and_eq_true, Nat.beq_eq, decide_eq_true_eq] at hb
      obtain ⟨⟨⟨⟨rfl, rfl⟩, rfl⟩, rfl⟩, rfl⟩ := hb
      exact blk_loop (S := T89_0) (ks := E89_0) (step := S_bitmap_Valid_0 fuel) (v := (_, _, _)) (by kernel_rfl) (by kernel_rfl) (fun R K v => by obtain ⟨x0, x1, x2⟩ := v; exact S89_0_ok fuel R K x0 x1 x2) hs h
    · cases h
  · cases h
noncomputable def J89 (fuel : Nat) (i : Nat) : Option Ev.Blk := Ev.look i [(100000, B89_0 fuel)]
noncomputable def F_bitmap_Valid (fuel : Nat) (x0 : Int) (x1 : Int) (x2 : (List Int)) (k0 : (Bool) → Option Ans) : Option Ans :=
  (F_bitmap_fits fuel (x0) (x1)
    (fun y2 =>
      bif !y2 then
       k0 Bool.false
      else
       bif (↑x2.length : Int) != Go.IntKind.i64.wrap (x0 * x1) then
        k0 Bool.false
       else
        (L_bitmap_Valid_0 fuel (x2, (↑x2.length : Int), (0 : Int))
          (fun ret0_0 =>
            k0 ret0_0)
          (fun () =>
            k0 Bool.true))))
abbrev YF89 : Type := (Int) → (Int) → ((List Int)) → ((Bool) → Option Ans) → Option Ans
theorem F89_eqg (fuel : Nat) (f159 : YF159) (x0 : Int) (x1 : Int) (x2 : (List Int)) (k : Ev.Cont) : evalFn tab (Gg89 f159) (J89 fuel) kp89 fuel Try.f89 [.agg [.int .i64 x0, .int .i64 x1, .sl (.int .u8) x2]] [] k = (fun  (k0 : (Bool) → Option Ans) =>
  (f159 (x0) (x1)
    (fun y2 =>
      bif !y2 then
       k0 Bool.false
      else
       bif (↑x2.length : Int) != Go.IntKind.i64.wrap (x0 * x1) then
        k0 Bool.false
       else
        (L_bitmap_Valid_0 fuel (x2, (↑x2.length : Int), (0 : Int))
          (fun ret0_0 =>
            k0 ret0_0)
          (fun () =>
            k0 Bool.true))))) (fun r => match r with | r0 => k (.c (.bool r0), [])) := by
  kernel_rfl
theorem F89_eq (fuel : Nat) (x0 : Int) (x1 : Int) (x2 : (List Int)) (k : Ev.Cont) : evalFn tab (G89 fuel) (J89 fuel) kp89 fuel Try.f89 [.agg [.int .i64 x0, .int .i64 x1, .sl (.int .u8) x2]] [] k = F_bitmap_Valid fuel x0 x1 x2 (fun r => match r with | r0 => k (.c (.bool r0), [])) :=
  F89_eqg fuel (F_bitmap_fits fuel) x0 x1 x2 k
theorem hG89 (fuel : Nat) : GOK Try.prog (G89 fuel) :=
  gok_cons ⟨ok159 fuel, enters_of Try.func159 (by kernel_rfl) rfl⟩ <|
  gok_nil
theorem B89_0_blk (fuel : Nat) : BlkOK Try.prog Try.f89.ntmps (.block 0 (.loop (bodyOf 0 Try.f89))) (B89_0 fuel) :=
  blk_of (blk_of_code tab_ok (hG89 fuel) mixed (J := J89_0 fuel) (kp := kp89) (fuel := fuel) (by kernel_rfl) (fun q hq => by
    rw [(by kernel_rfl : obl (J89_0 fuel) (.block 0 (.loop (bodyOf 0 Try.f89))) = [])] at hq
    cases hq)) (B89_0_ok fuel)
theorem fok89 (fuel : Nat) : FnOK Try.prog 89 (evalFn tab (G89 fuel) (J89 fuel) kp89 fuel Try.f89) :=
  fn_ok tab_ok (hG89 fuel) mixed Try.func89 (c := (Try.f89.body).getD .skip) rfl (fun q hq => by
    rw [(by kernel_rfl : obl (J89 fuel) ((Try.f89.body).getD .skip) = [(.block 0 (.loop (bodyOf 0 Try.f89)), B89_0 fuel)])] at hq
    simp only [List.mem_cons, List.not_mem_nil, or_false] at hq
    subst hq
    · exact B89_0_blk fuel)
noncomputable def mt89 : List Ev.SV → List Ev.Ob → Bool := fun args objs => match args, objs with
  | [.agg [.int .i64 _, .int .i64 _, .sl (.int .u8) _]], [] => true
  | _, _ => false
noncomputable def spg89 (F : YF89) : Ev.Spec := fun args objs k => match args, objs with
  | [.agg [.int .i64 x0, .int .i64 x1, .sl (.int .u8) x2]], [] => bif true then F x0 x1 x2 (fun r => match r with | r0 => k (.c (.bool r0), [])) else none
  | _, _ => none
noncomputable def spec89 (fuel : Nat) : Ev.Spec := spg89 (F_bitmap_Valid fuel)
theorem ok89 (fuel : Nat) : FnOK Try.prog 89 (spec89 fuel) := by
  intro args objs kk r h
  unfold spec89 spg89 at h
  split at h
  · skip
    obtain ⟨hb, h⟩ := cond_some' h
    simp only [Bool.and_eq_true, Nat.beq_eq, decide_eq_true_eq] at hb
    clear hb
    exact fok89 fuel _ _ kk r ((F89_eq fuel _ _ _ kk).trans h)
  · cases h
end Go.Proofs.Ytihfgpfofmjbaaa

set_option linter.unusedVariables false
set_option linter.unusedSimpArgs false
set_option maxRecDepth 100000
set_option maxHeartbeats 2000000
namespace Go.Proofs.Ytihfgpfofmjbaaa
open Go Ev
def kp112 (i : Nat) : Option (List Nat) := Ev.look i []
noncomputable def Gg112 (f : Nat) : Option Ev.Spec := Ev.look f []
noncomputable def G112 (fuel : Nat) : Nat → Option Ev.Spec := Gg112
noncomputable def J112 (fuel : Nat) (i : Nat) : Option Ev.Blk := Ev.look i []
noncomputable def F_ref05_Sides (fuel : Nat) (x0 : Int) (x1 : Int) (k0 : (Bool) → Option Ans) : Option Ans :=
  bif Decidable.decide (x0 ≥ (0 : Int)) then
   bif Decidable.decide (x1 ≥ (0 : Int)) then
    bif Decidable.decide (x0 ≤ (200 : Int)) then
     bif Decidable.decide (x1 ≤ (200 : Int)) then
      k0 (Decidable.decide (Go.IntKind.i64.wrap (x0 * x1) ≤ (8192 : Int)))
     else
      k0 Bool.false
    else
     k0 Bool.false
   else
    k0 Bool.false
  else
   k0 Bool.false
abbrev YF112 : Type := (Int) → (Int) → ((Bool) → Option Ans) → Option Ans
theorem F112_eq (fuel : Nat) (x0 : Int) (x1 : Int) (k : Ev.Cont) : evalFn tab (G112 fuel) (J112 fuel) kp112 fuel Try.f112 [.c (.int .i64 x0), .c (.int .i64 x1)] [] k = F_ref05_Sides fuel x0 x1 (fun r => match r with | r0 => k (.c (.bool r0), [])) := by
  kernel_rfl
theorem hG112 (fuel : Nat) : GOK Try.prog (G112 fuel) :=
  gok_nil
theorem fok112 (fuel : Nat) : FnOK Try.prog 112 (evalFn tab (G112 fuel) (J112 fuel) kp112 fuel Try.f112) :=
  fn_ok tab_ok (hG112 fuel) mixed Try.func112 (c := (Try.f112.body).getD .skip) rfl (fun q hq => by
    rw [(by kernel_rfl : obl (J112 fuel) ((Try.f112.body).getD .skip) = [])] at hq
    cases hq)
noncomputable def mt112 : List Ev.SV → List Ev.Ob → Bool := fun args objs => match args, objs with
  | [.c (.int .i64 _), .c (.int .i64 _)], [] => true
  | _, _ => false
noncomputable def spg112 (F : YF112) : Ev.Spec := fun args objs k => match args, objs with
  | [.c (.int .i64 x0), .c (.int .i64 x1)], [] => bif true then F x0 x1 (fun r => match r with | r0 => k (.c (.bool r0), [])) else none
  | _, _ => none
noncomputable def spec112 (fuel : Nat) : Ev.Spec := spg112 (F_ref05_Sides fuel)
theorem ok112 (fuel : Nat) : FnOK Try.prog 112 (spec112 fuel) := by
  intro args objs kk r h
  unfold spec112 spg112 at h
  split at h
  · skip
    obtain ⟨hb, h⟩ := cond_some' h
    simp only [Bool.and_eq_true, Nat.beq_eq, decide_eq_true_eq] at hb
    clear hb
    exact fok112 fuel _ _ kk r ((F112_eq fuel _ _ kk).trans h)
  · cases h
end Go.Proofs.Ytihfgpfofmjbaaa

set_option linter.unusedVariables false
set_option linter.unusedSimpArgs false
set_option maxRecDepth 100000
set_option maxHeartbeats 2000000
namespace Go.Proofs.Ytihfgpfofmjbaaa
open Go Ev
def kp86 (i : Nat) : Option (List Nat) := Ev.look i [(4, [1, 3]), (100000, []), (400000, [2])]
noncomputable def Gg86 (f112 : YF112) (f : Nat) : Option Ev.Spec := Ev.look f [(112, spg112 f112)]
noncomputable def G86 (fuel : Nat) : Nat → Option Ev.Spec := Gg86 (F_ref05_Sides fuel)
noncomputable def S_ref05_Valid_0 (fuel : Nat) (v : Int × Int × Int × (List Int)) (c : (Int × Int × Int × (List Int)) → Option Ans) (B : (Bool → Option Ans) × (Unit → Option Ans)) : Option Ans := match v, B with
  | (x0, x1, x2, x3), (ret, b) =>
   bif Decidable.decide (x0 < (↑x3.length : Int)) then
      bif Decidable.decide ((0 : Int) ≤ x0 ∧ x0 < (↑x3.length : Int)) then
      bif Decidable.decide (x3.getD x0.toNat (0 : Int) > (1 : Int)) then
        ret Bool.false
       else
        c (Go.IntKind.i64.wrap (x0 + (1 : Int)), x1, x2, x3)
      else none
     else
      b ()
noncomputable def L_ref05_Valid_0 (fuel : Nat) (v : Int × Int × Int × (List Int)) (ret : (Bool → Option Ans)) (b : (Unit → Option Ans)) : Option Ans := iter (S_ref05_Valid_0 fuel) fuel v (ret, b)
noncomputable def J86_0 (fuel : Nat) (i : Nat) : Option Ev.Blk := Ev.look i []
noncomputable def T86_0 (v : Int × Int × Int × (List Int)) : Ev.St := match v with | (x0, x1, x2, x3) => ⟨[(1, .c (.ptr 0 0)), (3, .c (.int .i64 x0))], [(0, .cells 39 [.int .i64 x1, .int .i64 x2, .sl (.int .u8) x3])], 1, 0⟩
noncomputable def E86_0 (K : Ev.Ex → Ev.St → Option Ans) : (Bool → Option Ans) × (Unit → Option Ans) := ((fun v => match v with | x0 => K .ret ⟨[(2, .c (.bool x0))], [], 0, 0⟩), (fun v => match v with | () => K .normal ⟨[], [], 0, 0⟩))
theorem S86_0_okg (fuel : Nat) (f112 : YF112) (R : Ev.St → Option Ans) (K : Ev.Ex → Ev.St → Option Ans) (x0 : Int) (x1 : Int) (x2 : Int) (x3 : (List Int)) : evalCode tab (Gg86 f112) (J86_0 fuel) kp86 fuel (bodyOf 0 Try.f86) (T86_0 (x0, x1, x2, x3)) (lc kp86 4 0 R K) = (fun (c : (Int × Int × Int × (List Int)) → Option Ans) (B : (Bool → Option Ans) × (Unit → Option Ans)) => match B with
  | (ret, b) =>
   bif Decidable.decide (x0 < (↑x3.length : Int)) then
      bif Decidable.decide ((0 : Int) ≤ x0 ∧ x0 < (↑x3.length : Int)) then
      bif Decidable.decide (x3.getD x0.toNat (0 : Int) > (1 : Int)) then
        ret Bool.false
       else
        c (Go.IntKind.i64.wrap (x0 + (1 : Int)), x1, x2, x3)
      else none
     else
      b ()) (fun v => R (T86_0 v)) (E86_0 K) := by
  kernel_rfl
theorem S86_0_ok (fuel : Nat) (R : Ev.St → Option Ans) (K : Ev.Ex → Ev.St → Option Ans) (x0 : Int) (x1 : Int) (x2 : Int) (x3 : (List Int)) : evalCode tab (G86 fuel) (J86_0 fuel) kp86 fuel (bodyOf 0 Try.f86) (T86_0 (x0, x1, x2, x3)) (lc kp86 4 0 R K) = S_ref05_Valid_0 fuel (x0, x1, x2, x3) (fun v => R (T86_0 v)) (E86_0 K) :=
  S86_0_okg fuel (F_ref05_Sides fuel) R K x0 x1 x2 x3
noncomputable def B86_0 (fuel : Nat) : Ev.Blk := fun st K => match canonO (kp86 4) st with
  | some s => (match s with
    | ⟨[(q0, .c (.ptr q1 q2)), (q3, .c (.int .i64 x0))], [(q4, .cells q5 [.int .i64 x1, .int .i64 x2, .sl (.int .u8) x3])], q6, q7⟩ => bif Nat.beq q0 1 && Nat.beq q1 0 && Nat.beq q2 0 && Nat.beq q3 3 && Nat.beq q4 0 && Nat.beq q5 39 && Nat.beq q6 1 && Nat.beq q7 0 then iter (S_ref05_Valid_0 fuel) fuel (x0, x1, x2, x3) (E86_0 K) else none
    | _ => none)
  | none => none
theorem B86_0_ok (fuel : Nat) (st : Ev.St) (K : Ev.Ex → Ev.St → Option Ans) (r : Ans) (h : B86_0 fuel st K = some r) : evalCode tab (G86 fuel) (J86_0 fuel) kp86 fuel (.block 0 (.loop (bodyOf 0 Try.f86))) st K = some r := by
  unfold B86_0 at h
  split at h
  · rename_i s hs
    split at h
    · skip
      obtain ⟨hb, h⟩ := cond_some' h
      simp only [Bool.and_eq_true, Nat.beq_eq, decide_eq_true_eq] at hb
      obtain ⟨⟨⟨⟨⟨⟨⟨rfl, rfl⟩, rfl⟩, rfl⟩, rfl⟩, rfl⟩, rfl⟩, rfl⟩ := hb
      exact blk_loop (S := T86_0) (ks := E86_0) (step := S_ref05_Valid_0 fuel) (v := (_, _, _, _)) (by kernel_rfl) (by kernel_rfl) (fun R K v => by obtain ⟨x0, x1, x2, x3⟩ := v; exact S86_0_ok fuel R K x0 x1 x2 x3) hs h
    · cases h
  · cases h
noncomputable def J86 (fuel : Nat) (i : Nat) : Option Ev.Blk := Ev.look i [(100000, B86_0 fuel)]
noncomputable def F_ref05_Valid (fuel : Nat) (x0 : Int) (x1 : Int) (x2 : (List Int)) (k0 : (Bool) → Option Ans) : Option Ans :=
  (F_ref05_Sides fuel (x0) (x1)
    (fun y2 =>
      bif !y2 then
       k0 Bool.false
      else
       bif (↑x2.length : Int) != Go.IntKind.i64.wrap (x0 * x1) then
        k0 Bool.false
       else
        (L_ref05_Valid_0 fuel ((0 : Int), x0, x1, x2)
          (fun ret0_0 =>
            k0 ret0_0)
          (fun () =>
            k0 Bool.true))))
abbrev YF86 : Type := (Int) → (Int) → ((List Int)) → ((Bool) → Option Ans) → Option Ans
theorem F86_eqg (fuel : Nat) (f112 : YF112) (x0 : Int) (x1 : Int) (x2 : (List Int)) (k : Ev.Cont) : evalFn tab (Gg86 f112) (J86 fuel) kp86 fuel Try.f86 [.agg [.int .i64 x0, .int .i64 x1, .sl (.int .u8) x2]] [] k = (fun  (k0 : (Bool) → Option Ans) =>
  (f112 (x0) (x1)
    (fun y2 =>
      bif !y2 then
       k0 Bool.false
      else
       bif (↑x2.length : Int) != Go.IntKind.i64.wrap (x0 * x1) then
        k0 Bool.false
       else
        (L_ref05_Valid_0 fuel ((0 : Int), x0, x1, x2)
          (fun ret0_0 =>
            k0 ret0_0)
          (fun () =>
            k0 Bool.true))))) (fun r => match r with | r0 => k (.c (.bool r0), [])) := by
  kernel_rfl
theorem F86_eq (fuel : Nat) (x0 : Int) (x1 : Int) (x2 : (List Int)) (k : Ev.Cont) : evalFn tab (G86 fuel) (J86 fuel) kp86 fuel Try.f86 [.agg [.int .i64 x0, .int .i64 x1, .sl (.int .u8) x2]] [] k = F_ref05_Valid fuel x0 x1 x2 (fun r => match r with | r0 => k (.c (.bool r0), [])) :=
  F86_eqg fuel (F_ref05_Sides fuel) x0 x1 x2 k
theorem hG86 (fuel : Nat) : GOK Try.prog (G86 fuel) :=
  gok_cons ⟨ok112 fuel, enters_of Try.func112 (by kernel_rfl) rfl⟩ <|
  gok_nil
theorem B86_0_blk (fuel : Nat) : BlkOK Try.prog Try.f86.ntmps (.block 0 (.loop (bodyOf 0 Try.f86))) (B86_0 fuel) :=
  blk_of (blk_of_code tab_ok (hG86 fuel) mixed (J := J86_0 fuel) (kp := kp86) (fuel := fuel) (by kernel_rfl) (fun q hq => by
    rw [(by kernel_rfl : obl (J86_0 fuel) (.block 0 (.loop (bodyOf 0 Try.f86))) = [])] at hq
    cases hq)) (B86_0_ok fuel)
theorem fok86 (fuel : Nat) : FnOK Try.prog 86 (evalFn tab (G86 fuel) (J86 fuel) kp86 fuel Try.f86) :=
  fn_ok tab_ok (hG86 fuel) mixed Try.func86 (c := (Try.f86.body).getD .skip) rfl (fun q hq => by
    rw [(by kernel_rfl : obl (J86 fuel) ((Try.f86.body).getD .skip) = [(.block 0 (.loop (bodyOf 0 Try.f86)), B86_0 fuel)])] at hq
    simp only [List.mem_cons, List.not_mem_nil, or_false] at hq
    subst hq
    · exact B86_0_blk fuel)
noncomputable def mt86 : List Ev.SV → List Ev.Ob → Bool := fun args objs => match args, objs with
  | [.agg [.int .i64 _, .int .i64 _, .sl (.int .u8) _]], [] => true
  | _, _ => false
noncomputable def spg86 (F : YF86) : Ev.Spec := fun args objs k => match args, objs with
  | [.agg [.int .i64 x0, .int .i64 x1, .sl (.int .u8) x2]], [] => bif true then F x0 x1 x2 (fun r => match r with | r0 => k (.c (.bool r0), [])) else none
  | _, _ => none
noncomputable def spec86 (fuel : Nat) : Ev.Spec := spg86 (F_ref05_Valid fuel)
theorem ok86 (fuel : Nat) : FnOK Try.prog 86 (spec86 fuel) := by
  intro args objs kk r h
  unfold spec86 spg86 at h
  split at h
  · skip
    obtain ⟨hb, h⟩ := cond_some' h
    simp only [Bool.and_eq_true, Nat.beq_eq, decide_eq_true_eq] at hb
    clear hb
    exact fok86 fuel _ _ kk r ((F86_eq fuel _ _ _ kk).trans h)
  · cases h
end Go.Proofs.Ytihfgpfofmjbaaa

set_option linter.unusedVariables false
set_option linter.unusedSimpArgs false
set_option maxRecDepth 100000
set_option maxHeartbeats 2000000
namespace Go.Proofs.Ytihfgpfofmjbaaa
open Go Ev
def kp156 (i : Nat) : Option (List Nat) := Ev.look i []
noncomputable def Gg156 (f : Nat) : Option Ev.Spec := Ev.look f []
noncomputable def G156 (fuel : Nat) : Nat → Option Ev.Spec := Gg156
noncomputable def J156 (fuel : Nat) (i : Nat) : Option Ev.Blk := Ev.look i []
noncomputable def F_ref05_inside (fuel : Nat) (x0 : Int) (x1 : Int) (x2 : (List Int)) (x3 : Int) (x4 : Int) (k0 : (Bool) → Option Ans) : Option Ans :=
  bif Decidable.decide (x3 ≥ (0 : Int)) then
   bif Decidable.decide (x4 ≥ (0 : Int)) then
    bif Decidable.decide (x3 < x0) then
     k0 (Decidable.decide (x4 < x1))
    else
     k0 Bool.false
   else
    k0 Bool.false
  else
   k0 Bool.false
abbrev YF156 : Type := (Int) → (Int) → ((List Int)) → (Int) → (Int) → ((Bool) → Option Ans) → Option Ans
theorem F156_eq (fuel : Nat) (x0 : Int) (x1 : Int) (x2 : (List Int)) (x3 : Int) (x4 : Int) (k : Ev.Cont) : evalFn tab (G156 fuel) (J156 fuel) kp156 fuel Try.f156 [.agg [.int .i64 x0, .int .i64 x1, .sl (.int .u8) x2], .c (.int .i64 x3), .c (.int .i64 x4)] [] k = F_ref05_inside fuel x0 x1 x2 x3 x4 (fun r => match r with | r0 => k (.c (.bool r0), [])) := by
  kernel_rfl
theorem hG156 (fuel : Nat) : GOK Try.prog (G156 fuel) :=
  gok_nil
theorem fok156 (fuel : Nat) : FnOK Try.prog 156 (evalFn tab (G156 fuel) (J156 fuel) kp156 fuel Try.f156) :=
  fn_ok tab_ok (hG156 fuel) mixed Try.func156 (c := (Try.f156.body).getD .skip) rfl (fun q hq => by
    rw [(by kernel_rfl : obl (J156 fuel) ((Try.f156.body).getD .skip) = [])] at hq
    cases hq)
noncomputable def mt156 : List Ev.SV → List Ev.Ob → Bool := fun args objs => match args, objs with
  | [.agg [.int .i64 _, .int .i64 _, .sl (.int .u8) _], .c (.int .i64 _), .c (.int .i64 _)], [] => true
  | _, _ => false
noncomputable def spg156 (F : YF156) : Ev.Spec := fun args objs k => match args, objs with
  | [.agg [.int .i64 x0, .int .i64 x1, .sl (.int .u8) x2], .c (.int .i64 x3), .c (.int .i64 x4)], [] => bif true then F x0 x1 x2 x3 x4 (fun r => match r with | r0 => k (.c (.bool r0), [])) else none
  | _, _ => none
noncomputable def spec156 (fuel : Nat) : Ev.Spec := spg156 (F_ref05_inside fuel)
theorem ok156 (fuel : Nat) : FnOK Try.prog 156 (spec156 fuel) := by
  intro args objs kk r h
  unfold spec156 spg156 at h
  split at h
  · skip
    obtain ⟨hb, h⟩ := cond_some' h
    simp only [Bool.and_eq_true, Nat.beq_eq, decide_eq_true_eq] at hb
    clear hb
    exact fok156 fuel _ _ kk r ((F156_eq fuel _ _ _ _ _ kk).trans h)
  · cases h
end Go.Proofs.Ytihfgpfofmjbaaa

set_option linter.unusedVariables false
set_option linter.unusedSimpArgs false
set_option maxRecDepth 100000
set_option maxHeartbeats 2000000
namespace Go.Proofs.Ytihfgpfofmjbaaa
open Go Ev
def kp125 (i : Nat) : Option (List Nat) := Ev.look i []
noncomputable def Gg125 (f156 : YF156) (f : Nat) : Option Ev.Spec := Ev.look f [(156, spg156 f156)]
noncomputable def G125 (fuel : Nat) : Nat → Option Ev.Spec := Gg125 (F_ref05_inside fuel)
noncomputable def J125 (fuel : Nat) (i : Nat) : Option Ev.Blk := Ev.look i []
noncomputable def F_ref05_At (fuel : Nat) (x0 : Int) (x1 : Int) (x2 : (List Int)) (x3 : Int) (x4 : Int) (k0 : (Int) → Option Ans) : Option Ans :=
  (F_ref05_inside fuel (x0) (x1) (x2) (x3) (x4)
    (fun y2 =>
      bif !y2 then
       k0 ((0 : Int))
      else
       bif Decidable.decide ((0 : Int) ≤ Go.IntKind.i64.wrap (Go.IntKind.i64.wrap (x4 * x0) + x3) ∧ Go.IntKind.i64.wrap (Go.IntKind.i64.wrap (x4 * x0) + x3) < (↑x2.length : Int)) then
       k0 (Go.IntKind.i64.wrap (x2.getD (Go.IntKind.i64.wrap (Go.IntKind.i64.wrap (x4 * x0) + x3)).toNat (0 : Int)))
       else none))
abbrev YF125 : Type := (Int) → (Int) → ((List Int)) → (Int) → (Int) → ((Int) → Option Ans) → Option Ans
theorem F125_eqg (fuel : Nat) (f156 : YF156) (x0 : Int) (x1 : Int) (x2 : (List Int)) (x3 : Int) (x4 : Int) (k : Ev.Cont) : evalFn tab (Gg125 f156) (J125 fuel) kp125 fuel Try.f125 [.agg [.int .i64 x0, .int .i64 x1, .sl (.int .u8) x2], .c (.int .i64 x3), .c (.int .i64 x4)] [] k = (fun  (k0 : (Int) → Option Ans) =>
  (f156 (x0) (x1) (x2) (x3) (x4)
    (fun y2 =>
      bif !y2 then
       k0 ((0 : Int))
      else
       bif Decidable.decide ((0 : Int) ≤ Go.IntKind.i64.wrap (Go.IntKind.i64.wrap (x4 * x0) + x3) ∧ Go.IntKind.i64.wrap (Go.IntKind.i64.wrap (x4 * x0) + x3) < (↑x2.length : Int)) then
       k0 (Go.IntKind.i64.wrap (x2.getD (Go.IntKind.i64.wrap (Go.IntKind.i64.wrap (x4 * x0) + x3)).toNat (0 : Int)))
       else none))) (fun r => match r with | r0 => k (.c (.int .i64 r0), [])) := by
  kernel_rfl
theorem F125_eq (fuel : Nat) (x0 : Int) (x1 : Int) (x2 : (List Int)) (x3 : Int) (x4 : Int) (k : Ev.Cont) : evalFn tab (G125 fuel) (J125 fuel) kp125 fuel Try.f125 [.agg [.int .i64 x0, .int .i64 x1, .sl (.int .u8) x2], .c (.int .i64 x3), .c (.int .i64 x4)] [] k = F_ref05_At fuel x0 x1 x2 x3 x4 (fun r => match r with | r0 => k (.c (.int .i64 r0), [])) :=
  F125_eqg fuel (F_ref05_inside fuel) x0 x1 x2 x3 x4 k
theorem hG125 (fuel : Nat) : GOK Try.prog (G125 fuel) :=
  gok_cons ⟨ok156 fuel, enters_of Try.func156 (by kernel_rfl) rfl⟩ <|
  gok_nil
theorem fok125 (fuel : Nat) : FnOK Try.prog 125 (evalFn tab (G125 fuel) (J125 fuel) kp125 fuel Try.f125) :=
  fn_ok tab_ok (hG125 fuel) mixed Try.func125 (c := (Try.f125.body).getD .skip) rfl (fun q hq => by
    rw [(by kernel_rfl : obl (J125 fuel) ((Try.f125.body).getD .skip) = [])] at hq
    cases hq)
noncomputable def mt125 : List Ev.SV → List Ev.Ob → Bool := fun args objs => match args, objs with
  | [.agg [.int .i64 _, .int .i64 _, .sl (.int .u8) _], .c (.int .i64 _), .c (.int .i64 _)], [] => true
  | _, _ => false
noncomputable def spg125 (F : YF125) : Ev.Spec := fun args objs k => match args, objs with
  | [.agg [.int .i64 x0, .int .i64 x1, .sl (.int .u8) x2], .c (.int .i64 x3), .c (.int .i64 x4)], [] => bif true then F x0 x1 x2 x3 x4 (fun r => match r with | r0 => k (.c (.int .i64 r0), [])) else none
  | _, _ => none
noncomputable def spec125 (fuel : Nat) : Ev.Spec := spg125 (F_ref05_At fuel)
theorem ok125 (fuel : Nat) : FnOK Try.prog 125 (spec125 fuel) := by
  intro args objs kk r h
  unfold spec125 spg125 at h
  split at h
  · skip
    obtain ⟨hb, h⟩ := cond_some' h
    simp only [Bool.and_eq_true, Nat.beq_eq, decide_eq_true_eq] at hb
    clear hb
    exact fok125 fuel _ _ kk r ((F125_eq fuel _ _ _ _ _ kk).trans h)
  · cases h
end Go.Proofs.Ytihfgpfofmjbaaa

set_option linter.unusedVariables false
set_option linter.unusedSimpArgs false
set_option maxRecDepth 100000
set_option maxHeartbeats 2000000
namespace Go.Proofs.Ytihfgpfofmjbaaa
open Go Ev
def kp195 (i : Nat) : Option (List Nat) := Ev.look i [(5, [0, 4]), (100000, [4]), (400000, [2, 3])]
noncomputable def Gg195 (f : Nat) : Option Ev.Spec := Ev.look f []
noncomputable def G195 (fuel : Nat) : Nat → Option Ev.Spec := Gg195
noncomputable def S_ref01_Size_0 (fuel : Nat) (v : Int × (List Int)) (c : (Int × (List Int)) → Option Ans) (B : ((List Int) → Option Ans)) : Option Ans := match v, B with
  | (x0, x1), b =>
   bif Decidable.decide (x0 > (0 : Int)) then
      bif Decidable.decide (([Go.IntKind.u8.wrap (Go.IntKind.i64.wrap ((128 : Int) + x0.tmod (128 : Int)))].length + x1.length) * (1 : Nat) ≤ (140737488355328 : Nat) ∧ [Go.IntKind.u8.wrap (Go.IntKind.i64.wrap ((128 : Int) + x0.tmod (128 : Int)))].length + x1.length ≤ (140737488355328 : Nat)) then
      c (Go.IntKind.i64.wrap (x0.tdiv (128 : Int)), [Go.IntKind.u8.wrap (Go.IntKind.i64.wrap ((128 : Int) + x0.tmod (128 : Int)))] ++ x1)
      else none
     else
      b x1
noncomputable def L_ref01_Size_0 (fuel : Nat) (v : Int × (List Int)) (b : ((List Int) → Option Ans)) : Option Ans := iter (S_ref01_Size_0 fuel) fuel v b
noncomputable def J195_0 (fuel : Nat) (i : Nat) : Option Ev.Blk := Ev.look i []
noncomputable def T195_0 (v : Int × (List Int)) : Ev.St := match v with | (x0, x1) => ⟨[(0, .c (.int .i64 x0)), (4, .c (.own 0))], [(0, .vec 5 (.int .u8) x1 true)], 1, 0⟩
noncomputable def E195_0 (K : Ev.Ex → Ev.St → Option Ans) : ((List Int) → Option Ans) := (fun v => match v with | x0 => K .normal ⟨[(4, .c (.own 0))], [(0, .vec 5 (.int .u8) x0 true)], 1, 0⟩)
theorem S195_0_ok (fuel : Nat) (R : Ev.St → Option Ans) (K : Ev.Ex → Ev.St → Option Ans) (x0 : Int) (x1 : (List Int)) : evalCode tab (G195 fuel) (J195_0 fuel) kp195 fuel (bodyOf 0 Try.f195) (T195_0 (x0, x1)) (lc kp195 5 0 R K) = S_ref01_Size_0 fuel (x0, x1) (fun v => R (T195_0 v)) (E195_0 K) := by
  kernel_rfl
noncomputable def B195_0 (fuel : Nat) : Ev.Blk := fun st K => match canonO (kp195 5) st with
  | some s => (match s with
    | ⟨[(q0, .c (.int .i64 x0)), (q1, .c (.own q2))], [(q3, .vec q4 (.int .u8) x1 true)], q5, q6⟩ => bif Nat.beq q0 0 && Nat.beq q1 4 && Nat.beq q2 0 && Nat.beq q3 0 && Nat.beq q4 5 && Nat.beq q5 1 && Nat.beq q6 0 then iter (S_ref01_Size_0 fuel) fuel (x0, x1) (E195_0 K) else none
    | _ => none)
  | none => none
theorem B195_0_ok (fuel : Nat) (st : Ev.St) (K : Ev.Ex → Ev.St → Option Ans) (r : Ans) (h : B195_0 fuel st K = some r) : evalCode tab (G195 fuel) (J195_0 fuel) kp195 fuel (.block 0 (.loop (bodyOf 0 Try.f195))) st K = some r := by
  unfold B195_0 at h
  split at h
  · rename_i s hs
    split at h
    · skip
      obtain ⟨hb, h⟩ := cond_some' h
      simp only [Bool.and_eq_true, Nat.beq_eq, decide_eq_true_eq] at hb
      obtain ⟨⟨⟨⟨⟨⟨rfl, rfl⟩, rfl⟩, rfl⟩, rfl⟩, rfl⟩, rfl⟩ := hb
      exact blk_loop (S := T195_0) (ks := E195_0) (step := S_ref01_Size_0 fuel) (v := (_, _)) (by kernel_rfl) (by kernel_rfl) (fun R K v => by obtain ⟨x0, x1⟩ := v; exact S195_0_ok fuel R K x0 x1) hs h
    · cases h
  · cases h
noncomputable def J195 (fuel : Nat) (i : Nat) : Option Ev.Blk := Ev.look i [(100000, B195_0 fuel)]
noncomputable def F_ref01_Size (fuel : Nat) (x0 : Int) (k0 : (Int × (List Int)) → Option Ans) : Option Ans :=
  bif Decidable.decide (x0 < (0 : Int)) then
   k0 ((2 : Int), [])
  else
   bif Decidable.decide (x0 > (2147483647 : Int)) then
    k0 ((2 : Int), [])
   else
    (L_ref01_Size_0 fuel (Go.IntKind.i64.wrap (x0.tdiv (128 : Int)), [Go.IntKind.u8.wrap (x0.tmod (128 : Int))])
      (fun b0_0 =>
        k0 ((0 : Int), b0_0)))
abbrev YF195 : Type := (Int) → ((Int × (List Int)) → Option Ans) → Option Ans
theorem F195_eq (fuel : Nat) (x0 : Int) (k : Ev.Cont) : evalFn tab (G195 fuel) (J195 fuel) kp195 fuel Try.f195 [.c (.int .i64 x0)] [] k = F_ref01_Size fuel x0 (fun r => match r with | (r0, r1) => k (.tup [(false, [.own 0]), (false, [.int .i64 r0])], [.vec 5 (.int .u8) r1 true])) := by
  kernel_rfl
theorem hG195 (fuel : Nat) : GOK Try.prog (G195 fuel) :=
  gok_nil
theorem B195_0_blk (fuel : Nat) : BlkOK Try.prog Try.f195.ntmps (.block 0 (.loop (bodyOf 0 Try.f195))) (B195_0 fuel) :=
  blk_of (blk_of_code tab_ok (hG195 fuel) mixed (J := J195_0 fuel) (kp := kp195) (fuel := fuel) (by kernel_rfl) (fun q hq => by
    rw [(by kernel_rfl : obl (J195_0 fuel) (.block 0 (.loop (bodyOf 0 Try.f195))) = [])] at hq
    cases hq)) (B195_0_ok fuel)
theorem fok195 (fuel : Nat) : FnOK Try.prog 195 (evalFn tab (G195 fuel) (J195 fuel) kp195 fuel Try.f195) :=
  fn_ok tab_ok (hG195 fuel) mixed Try.func195 (c := (Try.f195.body).getD .skip) rfl (fun q hq => by
    rw [(by kernel_rfl : obl (J195 fuel) ((Try.f195.body).getD .skip) = [(.block 0 (.loop (bodyOf 0 Try.f195)), B195_0 fuel)])] at hq
    simp only [List.mem_cons, List.not_mem_nil, or_false] at hq
    subst hq
    · exact B195_0_blk fuel)
noncomputable def mt195 : List Ev.SV → List Ev.Ob → Bool := fun args objs => match args, objs with
  | [.c (.int .i64 _)], [] => true
  | _, _ => false
noncomputable def spg195 (F : YF195) : Ev.Spec := fun args objs k => match args, objs with
  | [.c (.int .i64 x0)], [] => bif true then F x0 (fun r => match r with | (r0, r1) => k (.tup [(false, [.own 0]), (false, [.int .i64 r0])], [.vec 5 (.int .u8) r1 true])) else none
  | _, _ => none
noncomputable def spec195 (fuel : Nat) : Ev.Spec := spg195 (F_ref01_Size fuel)
theorem ok195 (fuel : Nat) : FnOK Try.prog 195 (spec195 fuel) := by
  intro args objs kk r h
  unfold spec195 spg195 at h
  split at h
  · skip
    obtain ⟨hb, h⟩ := cond_some' h
    simp only [Bool.and_eq_true, Nat.beq_eq, decide_eq_true_eq] at hb
    clear hb
    exact fok195 fuel _ _ kk r ((F195_eq fuel _ kk).trans h)
  · cases h
end Go.Proofs.Ytihfgpfofmjbaaa

set_option linter.unusedVariables false
set_option linter.unusedSimpArgs false
set_option maxRecDepth 100000
set_option maxHeartbeats 2000000
namespace Go.Proofs.Ytihfgpfofmjbaaa
open Go Ev
def kp141 (i : Nat) : Option (List Nat) := Ev.look i []
noncomputable def Gg141 (f195 : YF195) (f : Nat) : Option Ev.Spec := Ev.look f [(195, spg195 f195)]
noncomputable def G141 (fuel : Nat) : Nat → Option Ev.Spec := Gg141 (F_ref01_Size fuel)
noncomputable def J141 (fuel : Nat) (i : Nat) : Option Ev.Blk := Ev.look i []
noncomputable def F_ref12_size (fuel : Nat) (x0 : Int) (k0 : ((List Int)) → Option Ans) : Option Ans :=
  (F_ref01_Size fuel (x0)
    (fun (y2_0, y2_1) =>
      k0 y2_1))
abbrev YF141 : Type := (Int) → (((List Int)) → Option Ans) → Option Ans
theorem F141_eqg (fuel : Nat) (f195 : YF195) (x0 : Int) (k : Ev.Cont) : evalFn tab (Gg141 f195) (J141 fuel) kp141 fuel Try.f141 [.c (.int .i64 x0)] [] k = (fun  (k0 : ((List Int)) → Option Ans) =>
  (f195 (x0)
    (fun (y2_0, y2_1) =>
      k0 y2_1))) (fun r => match r with | r0 => k (.c (.own 0), [.vec 5 (.int .u8) r0 true])) := by
  kernel_rfl
theorem F141_eq (fuel : Nat) (x0 : Int) (k : Ev.Cont) : evalFn tab (G141 fuel) (J141 fuel) kp141 fuel Try.f141 [.c (.int .i64 x0)] [] k = F_ref12_size fuel x0 (fun r => match r with | r0 => k (.c (.own 0), [.vec 5 (.int .u8) r0 true])) :=
  F141_eqg fuel (F_ref01_Size fuel) x0 k
theorem hG141 (fuel : Nat) : GOK Try.prog (G141 fuel) :=
  gok_cons ⟨ok195 fuel, enters_of Try.func195 (by kernel_rfl) rfl⟩ <|
  gok_nil
theorem fok141 (fuel : Nat) : FnOK Try.prog 141 (evalFn tab (G141 fuel) (J141 fuel) kp141 fuel Try.f141) :=
  fn_ok tab_ok (hG141 fuel) mixed Try.func141 (c := (Try.f141.body).getD .skip) rfl (fun q hq => by
    rw [(by kernel_rfl : obl (J141 fuel) ((Try.f141.body).getD .skip) = [])] at hq
    cases hq)
noncomputable def mt141 : List Ev.SV → List Ev.Ob → Bool := fun args objs => match args, objs with
  | [.c (.int .i64 _)], [] => true
  | _, _ => false
noncomputable def spg141 (F : YF141) : Ev.Spec := fun args objs k => match args, objs with
  | [.c (.int .i64 x0)], [] => bif true then F x0 (fun r => match r with | r0 => k (.c (.own 0), [.vec 5 (.int .u8) r0 true])) else none
  | _, _ => none
noncomputable def spec141 (fuel : Nat) : Ev.Spec := spg141 (F_ref12_size fuel)
theorem ok141 (fuel : Nat) : FnOK Try.prog 141 (spec141 fuel) := by
  intro args objs kk r h
  unfold spec141 spg141 at h
  split at h
  · skip
    obtain ⟨hb, h⟩ := cond_some' h
    simp only [Bool.and_eq_true, Nat.beq_eq, decide_eq_true_eq] at hb
    clear hb
    exact fok141 fuel _ _ kk r ((F141_eq fuel _ kk).trans h)
  · cases h
end Go.Proofs.Ytihfgpfofmjbaaa

set_option linter.unusedVariables false
set_option linter.unusedSimpArgs false
set_option maxRecDepth 100000
set_option maxHeartbeats 2000000
namespace Go.Proofs.Ytihfgpfofmjbaaa
open Go Ev
def kp68 (i : Nat) : Option (List Nat) := Ev.look i [(9, [1, 4, 40, 41, 42]), (15, [1, 4, 7, 61, 62, 63]), (100000, [1, 4]), (100002, [1, 4, 7]), (400000, [2, 3]), (400002, [2, 3])]
noncomputable def Gg68 (f64 : YF64) (f141 : YF141) (f : Nat) : Option Ev.Spec := Ev.look f [(64, spg64 f64), (141, spg141 f141)]
noncomputable def G68 (fuel : Nat) : Nat → Option Ev.Spec := Gg68 (F_ref12_Valid fuel) (F_ref12_size fuel)
noncomputable def S_ref12_Header_2 (fuel : Nat) (v : (List Bool) × Int × Int × Int × Int × Int × (List Int) × (List Bool) × (List Int) × (List Int) × (List Int)) (c : ((List Bool) × Int × Int × Int × Int × Int × (List Int) × (List Bool) × (List Int) × (List Int) × (List Int)) → Option Ans) (B : (Int × Int × Int × (List Int) × (List Bool) × (List Int) × (List Int) × (List Int) → Option Ans)) : Option Ans := match v, B with
  | (x0, x1, x2, x3, x4, x5, x6, x7, x8, x9, x10), b =>
   bif Decidable.decide (x2 < x1) then
      bif Decidable.decide ((0 : Int) ≤ x2 ∧ x2 < (↑x0.length : Int)) then
      bif x0.getD x2.toNat Bool.false then
        bif Decidable.decide ((0 : Int) ≤ Go.IntKind.i64.wrap (x2.tdiv (8 : Int)) ∧ Go.IntKind.i64.wrap (x2.tdiv (8 : Int)) < (↑x10.length : Int)) then
        bif Decidable.decide (x2.tmod (8 : Int) < (0 : Int)) then
          none
         else
          bif Decidable.decide ((0 : Int) ≤ Go.IntKind.i64.wrap (x2.tdiv (8 : Int)) ∧ Go.IntKind.i64.wrap (x2.tdiv (8 : Int)) < (↑x10.length : Int)) then
          c (x0, x1, Go.IntKind.i64.wrap (x2 + (1 : Int)), x3, x4, x5, x6, x7, x8, x9, x10.set (Go.IntKind.i64.wrap (x2.tdiv (8 : Int))).toNat (Go.IntKind.u8.wrap (x10.getD (Go.IntKind.i64.wrap (x2.tdiv (8 : Int))).toNat (0 : Int) + Ev.ishr Go.IntKind.u8 (128 : Int) (x2.tmod (8 : Int)))))
          else none
        else none
       else
        c (x0, x1, Go.IntKind.i64.wrap (x2 + (1 : Int)), x3, x4, x5, x6, x7, x8, x9, x10)
      else none
     else
      b (x3, x4, x5, x6, x7, x8, x9, x10)
noncomputable def L_ref12_Header_2 (fuel : Nat) (v : (List Bool) × Int × Int × Int × Int × Int × (List Int) × (List Bool) × (List Int) × (List Int) × (List Int)) (b : (Int × Int × Int × (List Int) × (List Bool) × (List Int) × (List Int) × (List Int) → Option Ans)) : Option Ans := iter (S_ref12_Header_2 fuel) fuel v b
noncomputable def J68_2 (fuel : Nat) (i : Nat) : Option Ev.Blk := Ev.look i []
noncomputable def T68_2 (v : (List Bool) × Int × Int × Int × Int × Int × (List Int) × (List Bool) × (List Int) × (List Int) × (List Int)) : Ev.St := match v with | (x0, x1, x2, x3, x4, x5, x6, x7, x8, x9, x10) => ⟨[(1, .c (.ptr 0 0)), (4, .c (.own 1)), (7, .c (.own 2)), (61, .c (.sl .bool x0)), (62, .c (.int .i64 x1)), (63, .c (.int .i64 x2))], [(0, .cells 103 [.int .i64 x3, .int .i64 x4, .int .i64 x5, .sl (.int .i64) x6, .sl .bool x7, .sl (.int .u8) x8]), (1, .vec 5 (.int .u8) x9 true), (2, .vec 5 (.int .u8) x10 true)], 3, 0⟩
noncomputable def E68_2 (K : Ev.Ex → Ev.St → Option Ans) : (Int × Int × Int × (List Int) × (List Bool) × (List Int) × (List Int) × (List Int) → Option Ans) := (fun v => match v with | (x0, x1, x2, x3, x4, x5, x6, x7) => K .normal ⟨[(1, .c (.ptr 0 0)), (4, .c (.own 1)), (7, .c (.own 2))], [(0, .cells 103 [.int .i64 x0, .int .i64 x1, .int .i64 x2, .sl (.int .i64) x3, .sl .bool x4, .sl (.int .u8) x5]), (1, .vec 5 (.int .u8) x6 true), (2, .vec 5 (.int .u8) x7 true)], 3, 0⟩)
theorem S68_2_okg (fuel : Nat) (f64 : YF64) (f141 : YF141) (R : Ev.St → Option Ans) (K : Ev.Ex → Ev.St → Option Ans) (x0 : (List Bool)) (x1 : Int) (x2 : Int) (x3 : Int) (x4 : Int) (x5 : Int) (x6 : (List Int)) (x7 : (List Bool)) (x8 : (List Int)) (x9 : (List Int)) (x10 : (List Int)) : evalCode tab (Gg68 f64 f141) (J68_2 fuel) kp68 fuel (bodyOf 2 Try.f68) (T68_2 (x0, x1, x2, x3, x4, x5, x6, x7, x8, x9, x10)) (lc kp68 15 2 R K) = (fun (c : ((List Bool) × Int × Int × Int × Int × Int × (List Int) × (List Bool) × (List Int) × (List Int) × (List Int)) → Option Ans) (B : (Int × Int × Int × (List Int) × (List Bool) × (List Int) × (List Int) × (List Int) → Option Ans)) => match B with
  | b =>
   bif Decidable.decide (x2 < x1) then
      bif Decidable.decide ((0 : Int) ≤ x2 ∧ x2 < (↑x0.length : Int)) then
      bif x0.getD x2.toNat Bool.false then
        bif Decidable.decide ((0 : Int) ≤ Go.IntKind.i64.wrap (x2.tdiv (8 : Int)) ∧ Go.IntKind.i64.wrap (x2.tdiv (8 : Int)) < (↑x10.length : Int)) then
        bif Decidable.decide (x2.tmod (8 : Int) < (0 : Int)) then
          none
         else
          bif Decidable.decide ((0 : Int) ≤ Go.IntKind.i64.wrap (x2.tdiv (8 : Int)) ∧ Go.IntKind.i64.wrap (x2.tdiv (8 : Int)) < (↑x10.length : Int)) then
          c (x0, x1, Go.IntKind.i64.wrap (x2 + (1 : Int)), x3, x4, x5, x6, x7, x8, x9, x10.set (Go.IntKind.i64.wrap (x2.tdiv (8 : Int))).toNat (Go.IntKind.u8.wrap (x10.getD (Go.IntKind.i64.wrap (x2.tdiv (8 : Int))).toNat (0 : Int) + Ev.ishr Go.IntKind.u8 (128 : Int) (x2.tmod (8 : Int)))))
          else none
        else none
       else
        c (x0, x1, Go.IntKind.i64.wrap (x2 + (1 : Int)), x3, x4, x5, x6, x7, x8, x9, x10)
      else none
     else
      b (x3, x4, x5, x6, x7, x8, x9, x10)) (fun v => R (T68_2 v)) (E68_2 K) := by
  kernel_rfl
theorem S68_2_ok (fuel : Nat) (R : Ev.St → Option Ans) (K : Ev.Ex → Ev.St → Option Ans) (x0 : (List Bool)) (x1 : Int) (x2 : Int) (x3 : Int) (x4 : Int) (x5 : Int) (x6 : (List Int)) (x7 : (List Bool)) (x8 : (List Int)) (x9 : (List Int)) (x10 : (List Int)) : evalCode tab (G68 fuel) (J68_2 fuel) kp68 fuel (bodyOf 2 Try.f68) (T68_2 (x0, x1, x2, x3, x4, x5, x6, x7, x8, x9, x10)) (lc kp68 15 2 R K) = S_ref12_Header_2 fuel (x0, x1, x2, x3, x4, x5, x6, x7, x8, x9, x10) (fun v => R (T68_2 v)) (E68_2 K) :=
  S68_2_okg fuel (F_ref12_Valid fuel) (F_ref12_size fuel) R K x0 x1 x2 x3 x4 x5 x6 x7 x8 x9 x10
noncomputable def B68_2 (fuel : Nat) : Ev.Blk := fun st K => match canonO (kp68 15) st with
  | some s => (match s with
    | ⟨[(q0, .c (.ptr q1 q2)), (q3, .c (.own q4)), (q5, .c (.own q6)), (q7, .c (.sl .bool x0)), (q8, .c (.int .i64 x1)), (q9, .c (.int .i64 x2))], [(q10, .cells q11 [.int .i64 x3, .int .i64 x4, .int .i64 x5, .sl (.int .i64) x6, .sl .bool x7, .sl (.int .u8) x8]), (q12, .vec q13 (.int .u8) x9 true), (q14, .vec q15 (.int .u8) x10 true)], q16, q17⟩ => bif Nat.beq q0 1 && Nat.beq q1 0 && Nat.beq q2 0 && Nat.beq q3 4 && Nat.beq q4 1 && Nat.beq q5 7 && Nat.beq q6 2 && Nat.beq q7 61 && Nat.beq q8 62 && Nat.beq q9 63 && Nat.beq q10 0 && Nat.beq q11 103 && Nat.beq q12 1 && Nat.beq q13 5 && Nat.beq q14 2 && Nat.beq q15 5 && Nat.beq q16 3 && Nat.beq q17 0 then iter (S_ref12_Header_2 fuel) fuel (x0, x1, x2, x3, x4, x5, x6, x7, x8, x9, x10) (E68_2 K) else none
    | _ => none)
  | none => none
theorem B68_2_ok (fuel : Nat) (st : Ev.St) (K : Ev.Ex → Ev.St → Option Ans) (r : Ans) (h : B68_2 fuel st K = some r) : evalCode tab (G68 fuel) (J68_2 fuel) kp68 fuel (.block 2 (.loop (bodyOf 2 Try.f68))) st K = some r := by
  unfold B68_2 at h
  split at h
  · rename_i s hs
    split at h
    · skip
      obtain ⟨hb, h⟩ := cond_some' h
      simp only [Bool.and_eq_true, Nat.beq_eq, decide_eq_true_eq] at hb
      obtain ⟨⟨⟨⟨⟨⟨⟨⟨⟨⟨⟨⟨⟨⟨⟨⟨⟨rfl, rfl⟩, rfl⟩, rfl⟩, rfl⟩, rfl⟩, rfl⟩, rfl⟩, rfl⟩, rfl⟩, rfl⟩, rfl⟩, rfl⟩, rfl⟩, rfl⟩, rfl⟩, rfl⟩, rfl⟩ := hb
      exact blk_loop (S := T68_2) (ks := E68_2) (step := S_ref12_Header_2 fuel) (v := (_, _, _, _, _, _, _, _, _, _, _)) (by kernel_rfl) (by kernel_rfl) (fun R K v => by obtain ⟨x0, x1, x2, x3, x4, x5, x6, x7, x8, x9, x10⟩ := v; exact S68_2_ok fuel R K x0 x1 x2 x3 x4 x5 x6 x7 x8 x9 x10) hs h
    · cases h
  · cases h
noncomputable def S_ref12_Header_0 (fuel : Nat) (v : (List Int) × Int × Int × Int × Int × Int × (List Int) × (List Bool) × (List Int) × (List Int)) (c : ((List Int) × Int × Int × Int × Int × Int × (List Int) × (List Bool) × (List Int) × (List Int)) → Option Ans) (B : (Int × Int × Int × (List Int) × (List Bool) × (List Int) × (List Int) → Option Ans)) : Option Ans := match v, B with
  | (x0, x1, x2, x3, x4, x5, x6, x7, x8, x9), b =>
   bif Decidable.decide (x2 < x1) then
      bif Decidable.decide ((0 : Int) ≤ x2 ∧ x2 < (↑x0.length : Int)) then
      (F_ref12_size fuel (Go.IntKind.i64.wrap (x3 - x0.getD x2.toNat (0 : Int)))
         (fun y4 =>
           bif Decidable.decide ((x9.length + y4.length) * (1 : Nat) ≤ (140737488355328 : Nat) ∧ x9.length + y4.length ≤ (140737488355328 : Nat)) then
           c (x0, x1, Go.IntKind.i64.wrap (x2 + (1 : Int)), x3, x4, x5, x6, x7, x8, x9 ++ y4)
           else none))
      else none
     else
      b (x3, x4, x5, x6, x7, x8, x9)
noncomputable def L_ref12_Header_0 (fuel : Nat) (v : (List Int) × Int × Int × Int × Int × Int × (List Int) × (List Bool) × (List Int) × (List Int)) (b : (Int × Int × Int × (List Int) × (List Bool) × (List Int) × (List Int) → Option Ans)) : Option Ans := iter (S_ref12_Header_0 fuel) fuel v b
noncomputable def J68_0 (fuel : Nat) (i : Nat) : Option Ev.Blk := Ev.look i [(100002, B68_2 fuel)]
noncomputable def T68_0 (v : (List Int) × Int × Int × Int × Int × Int × (List Int) × (List Bool) × (List Int) × (List Int)) : Ev.St := match v with | (x0, x1, x2, x3, x4, x5, x6, x7, x8, x9) => ⟨[(1, .c (.ptr 0 0)), (4, .c (.own 1)), (40, .c (.sl (.int .i64) x0)), (41, .c (.int .i64 x1)), (42, .c (.int .i64 x2))], [(0, .cells 103 [.int .i64 x3, .int .i64 x4, .int .i64 x5, .sl (.int .i64) x6, .sl .bool x7, .sl (.int .u8) x8]), (1, .vec 5 (.int .u8) x9 true)], 2, 0⟩
noncomputable def E68_0 (K : Ev.Ex → Ev.St → Option Ans) : (Int × Int × Int × (List Int) × (List Bool) × (List Int) × (List Int) → Option Ans) := (fun v => match v with | (x0, x1, x2, x3, x4, x5, x6) => K .normal ⟨[(1, .c (.ptr 0 0)), (4, .c (.own 1))], [(0, .cells 103 [.int .i64 x0, .int .i64 x1, .int .i64 x2, .sl (.int .i64) x3, .sl .bool x4, .sl (.int .u8) x5]), (1, .vec 5 (.int .u8) x6 true)], 2, 0⟩)
theorem S68_0_okg (fuel : Nat) (f64 : YF64) (f141 : YF141) (R : Ev.St → Option Ans) (K : Ev.Ex → Ev.St → Option Ans) (x0 : (List Int)) (x1 : Int) (x2 : Int) (x3 : Int) (x4 : Int) (x5 : Int) (x6 : (List Int)) (x7 : (List Bool)) (x8 : (List Int)) (x9 : (List Int)) : evalCode tab (Gg68 f64 f141) (J68_0 fuel) kp68 fuel (bodyOf 0 Try.f68) (T68_0 (x0, x1, x2, x3, x4, x5, x6, x7, x8, x9)) (lc kp68 9 0 R K) = (fun (c : ((List Int) × Int × Int × Int × Int × Int × (List Int) × (List Bool) × (List Int) × (List Int)) → Option Ans) (B : (Int × Int × Int × (List Int) × (List Bool) × (List Int) × (List Int) → Option Ans)) => match B with
  | b =>
   bif Decidable.decide (x2 < x1) then
      bif Decidable.decide ((0 : Int) ≤ x2 ∧ x2 < (↑x0.length : Int)) then
      (f141 (Go.IntKind.i64.wrap (x3 - x0.getD x2.toNat (0 : Int)))
         (fun y4 =>
           bif Decidable.decide ((x9.length + y4.length) * (1 : Nat) ≤ (140737488355328 : Nat) ∧ x9.length + y4.length ≤ (140737488355328 : Nat)) then
           c (x0, x1, Go.IntKind.i64.wrap (x2 + (1 : Int)), x3, x4, x5, x6, x7, x8, x9 ++ y4)
           else none))
      else none
     else
      b (x3, x4, x5, x6, x7, x8, x9)) (fun v => R (T68_0 v)) (E68_0 K) := by
  kernel_rfl
theorem S68_0_ok (fuel : Nat) (R : Ev.St → Option Ans) (K : Ev.Ex → Ev.St → Option Ans) (x0 : (List Int)) (x1 : Int) (x2 : Int) (x3 : Int) (x4 : Int) (x5 : Int) (x6 : (List Int)) (x7 : (List Bool)) (x8 : (List Int)) (x9 : (List Int)) : evalCode tab (G68 fuel) (J68_0 fuel) kp68 fuel (bodyOf 0 Try.f68) (T68_0 (x0, x1, x2, x3, x4, x5, x6, x7, x8, x9)) (lc kp68 9 0 R K) = S_ref12_Header_0 fuel (x0, x1, x2, x3, x4, x5, x6, x7, x8, x9) (fun v => R (T68_0 v)) (E68_0 K) :=
  S68_0_okg fuel (F_ref12_Valid fuel) (F_ref12_size fuel) R K x0 x1 x2 x3 x4 x5 x6 x7 x8 x9
noncomputable def B68_0 (fuel : Nat) : Ev.Blk := fun st K => match canonO (kp68 9) st with
  | some s => (match s with
    | ⟨[(q0, .c (.ptr q1 q2)), (q3, .c (.own q4)), (q5, .c (.sl (.int .i64) x0)), (q6, .c (.int .i64 x1)), (q7, .c (.int .i64 x2))], [(q8, .cells q9 [.int .i64 x3, .int .i64 x4, .int .i64 x5, .sl (.int .i64) x6, .sl .bool x7, .sl (.int .u8) x8]), (q10, .vec q11 (.int .u8) x9 true)], q12, q13⟩ => bif Nat.beq q0 1 && Nat.beq q1 0 && Nat.beq q2 0 && Nat.beq q3 4 && Nat.beq q4 1 && Nat.beq q5 40 && Nat.beq q6 41 && Nat.beq q7 42 && Nat.beq q8 0 && Nat.beq q9 103 && Nat.beq q10 1 && Nat.beq q11 5 && Nat.beq q12 2 && Nat.beq q13 0 then iter (S_ref12_Header_0 fuel) fuel (x0, x1, x2, x3, x4, x5, x6, x7, x8, x9) (E68_0 K) else none
    | _ => none)
  | none => none
theorem B68_0_ok (fuel : Nat) (st : Ev.St) (K : Ev.Ex → Ev.St → Option Ans) (r : Ans) (h : B68_0 fuel st K = some r) : evalCode tab (G68 fuel) (J68_0 fuel) kp68 fuel (.block 0 (.loop (bodyOf 0 Try.f68))) st K = some r := by
  unfold B68_0 at h
  split at h
  · rename_i s hs
    split at h
    · skip
      obtain ⟨hb, h⟩ := cond_some' h
      simp only [Bool.and_eq_true, Nat.beq_eq, decide_eq_true_eq] at hb
      obtain ⟨⟨⟨⟨⟨⟨⟨⟨⟨⟨⟨⟨⟨rfl, rfl⟩, rfl⟩, rfl⟩, rfl⟩, rfl⟩, rfl⟩, rfl⟩, rfl⟩, rfl⟩, rfl⟩, rfl⟩, rfl⟩, rfl⟩ := hb
      exact blk_loop (S := T68_0) (ks := E68_0) (step := S_ref12_Header_0 fuel) (v := (_, _, _, _, _, _, _, _, _, _)) (by kernel_rfl) (by kernel_rfl) (fun R K v => by obtain ⟨x0, x1, x2, x3, x4, x5, x6, x7, x8, x9⟩ := v; exact S68_0_ok fuel R K x0 x1 x2 x3 x4 x5 x6 x7 x8 x9) hs h
    · cases h
  · cases h
noncomputable def J68 (fuel : Nat) (i : Nat) : Option Ev.Blk := Ev.look i [(100002, B68_2 fuel), (100000, B68_0 fuel)]
noncomputable def F_ref12_Header (fuel : Nat) (x0 : Int) (x1 : Int) (x2 : Int) (x3 : (List Int)) (x4 : (List Bool)) (x5 : (List Int)) (k0 : (Int × (List Int)) → Option Ans) : Option Ans :=
  (F_ref12_Valid fuel (x0) (x1) (x2) (x3) (x4) (x5)
    (fun y2 =>
      bif !y2 then
       k0 ((2 : Int), [])
      else
       (F_ref12_size fuel (x0)
         (fun y7 =>
           bif (↑x3.length : Int) == (0 : Int) then
            bif Decidable.decide ((y7.length + [Go.IntKind.u8.wrap x1].length) * (1 : Nat) ≤ (140737488355328 : Nat) ∧ y7.length + [Go.IntKind.u8.wrap x1].length ≤ (140737488355328 : Nat)) then
            bif Decidable.decide ((0 : Int) ≤ Go.IntKind.i64.wrap ((Go.IntKind.i64.wrap ((↑x4.length : Int) + (7 : Int))).tdiv (8 : Int)) ∧ Go.IntKind.i64.wrap ((Go.IntKind.i64.wrap ((↑x4.length : Int) + (7 : Int))).tdiv (8 : Int)) = Go.IntKind.i64.wrap ((Go.IntKind.i64.wrap ((↑x4.length : Int) + (7 : Int))).tdiv (8 : Int)) ∧ (↑(1 : Nat) : Int) * Go.IntKind.i64.wrap ((Go.IntKind.i64.wrap ((↑x4.length : Int) + (7 : Int))).tdiv (8 : Int)) ≤ (281474976710656 : Int) ∧ Go.IntKind.i64.wrap ((Go.IntKind.i64.wrap ((↑x4.length : Int) + (7 : Int))).tdiv (8 : Int)) ≤ (281474976710656 : Int)) then
             (L_ref12_Header_2 fuel (x4, (↑x4.length : Int), (0 : Int), x0, x1, x2, x3, x4, x5, y7 ++ [Go.IntKind.u8.wrap x1], List.replicate (Go.IntKind.i64.wrap ((Go.IntKind.i64.wrap ((↑x4.length : Int) + (7 : Int))).tdiv (8 : Int))).toNat (0 : Int))
                (fun (b2_0, b2_1, b2_2, b2_3, b2_4, b2_5, b2_6, b2_7) =>
                  bif Decidable.decide ((b2_6.length + b2_7.length) * (1 : Nat) ≤ (140737488355328 : Nat) ∧ b2_6.length + b2_7.length ≤ (140737488355328 : Nat)) then
                  (F_ref12_size fuel (b2_2)
                     (fun y19 =>
                       bif Decidable.decide (((b2_6 ++ b2_7).length + y19.length) * (1 : Nat) ≤ (140737488355328 : Nat) ∧ (b2_6 ++ b2_7).length + y19.length ≤ (140737488355328 : Nat)) then
                       (F_ref12_size fuel ((↑b2_5.length : Int))
                          (fun y24 =>
                            bif Decidable.decide (((b2_6 ++ b2_7 ++ y19).length + y24.length) * (1 : Nat) ≤ (140737488355328 : Nat) ∧ (b2_6 ++ b2_7 ++ y19).length + y24.length ≤ (140737488355328 : Nat)) then
                            k0 ((0 : Int), b2_6 ++ b2_7 ++ y19 ++ y24)
                            else none))
                       else none))
                  else none))
             else none
            else none
           else
            bif Decidable.decide ((y7.length + [Go.IntKind.u8.wrap (Go.IntKind.i64.wrap (x1 + (16 : Int)))].length) * (1 : Nat) ≤ (140737488355328 : Nat) ∧ y7.length + [Go.IntKind.u8.wrap (Go.IntKind.i64.wrap (x1 + (16 : Int)))].length ≤ (140737488355328 : Nat)) then
            (F_ref12_size fuel ((↑x3.length : Int))
               (fun y13 =>
                 bif Decidable.decide (((y7 ++ [Go.IntKind.u8.wrap (Go.IntKind.i64.wrap (x1 + (16 : Int)))]).length + y13.length) * (1 : Nat) ≤ (140737488355328 : Nat) ∧ (y7 ++ [Go.IntKind.u8.wrap (Go.IntKind.i64.wrap (x1 + (16 : Int)))]).length + y13.length ≤ (140737488355328 : Nat)) then
                 (L_ref12_Header_0 fuel (x3, (↑x3.length : Int), (0 : Int), x0, x1, x2, x3, x4, x5, y7 ++ [Go.IntKind.u8.wrap (Go.IntKind.i64.wrap (x1 + (16 : Int)))] ++ y13)
                    (fun (b0_0, b0_1, b0_2, b0_3, b0_4, b0_5, b0_6) =>
                      bif Decidable.decide ((0 : Int) ≤ Go.IntKind.i64.wrap ((Go.IntKind.i64.wrap ((↑b0_4.length : Int) + (7 : Int))).tdiv (8 : Int)) ∧ Go.IntKind.i64.wrap ((Go.IntKind.i64.wrap ((↑b0_4.length : Int) + (7 : Int))).tdiv (8 : Int)) = Go.IntKind.i64.wrap ((Go.IntKind.i64.wrap ((↑b0_4.length : Int) + (7 : Int))).tdiv (8 : Int)) ∧ (↑(1 : Nat) : Int) * Go.IntKind.i64.wrap ((Go.IntKind.i64.wrap ((↑b0_4.length : Int) + (7 : Int))).tdiv (8 : Int)) ≤ (281474976710656 : Int) ∧ Go.IntKind.i64.wrap ((Go.IntKind.i64.wrap ((↑b0_4.length : Int) + (7 : Int))).tdiv (8 : Int)) ≤ (281474976710656 : Int)) then
                      (L_ref12_Header_2 fuel (b0_4, (↑b0_4.length : Int), (0 : Int), b0_0, b0_1, b0_2, b0_3, b0_4, b0_5, b0_6, List.replicate (Go.IntKind.i64.wrap ((Go.IntKind.i64.wrap ((↑b0_4.length : Int) + (7 : Int))).tdiv (8 : Int))).toNat (0 : Int))
                         (fun (b2_0, b2_1, b2_2, b2_3, b2_4, b2_5, b2_6, b2_7) =>
                           bif Decidable.decide ((b2_6.length + b2_7.length) * (1 : Nat) ≤ (140737488355328 : Nat) ∧ b2_6.length + b2_7.length ≤ (140737488355328 : Nat)) then
                           (F_ref12_size fuel (b2_2)
                              (fun y28 =>
                                bif Decidable.decide (((b2_6 ++ b2_7).length + y28.length) * (1 : Nat) ≤ (140737488355328 : Nat) ∧ (b2_6 ++ b2_7).length + y28.length ≤ (140737488355328 : Nat)) then
                                (F_ref12_size fuel ((↑b2_5.length : Int))
                                   (fun y33 =>
                                     bif Decidable.decide (((b2_6 ++ b2_7 ++ y28).length + y33.length) * (1 : Nat) ≤ (140737488355328 : Nat) ∧ (b2_6 ++ b2_7 ++ y28).length + y33.length ≤ (140737488355328 : Nat)) then
                                     k0 ((0 : Int), b2_6 ++ b2_7 ++ y28 ++ y33)
                                     else none))
                                else none))
                           else none))
                      else none))
                 else none))
            else none))))
abbrev YF68 : Type := (Int) → (Int) → (Int) → ((List Int)) → ((List Bool)) → ((List Int)) → ((Int × (List Int)) → Option Ans) → Option Ans
theorem F68_eqg (fuel : Nat) (f64 : YF64) (f141 : YF141) (x0 : Int) (x1 : Int) (x2 : Int) (x3 : (List Int)) (x4 : (List Bool)) (x5 : (List Int)) (k : Ev.Cont) : evalFn tab (Gg68 f64 f141) (J68 fuel) kp68 fuel Try.f68 [.agg [.int .i64 x0, .int .i64 x1, .int .i64 x2, .sl (.int .i64) x3, .sl .bool x4, .sl (.int .u8) x5]] [] k = (fun  (k0 : (Int × (List Int)) → Option Ans) =>
  (f64 (x0) (x1) (x2) (x3) (x4) (x5)
    (fun y2 =>
      bif !y2 then
       k0 ((2 : Int), [])
      else
       (f141 (x0)
         (fun y7 =>
           bif (↑x3.length : Int) == (0 : Int) then
            bif Decidable.decide ((y7.length + [Go.IntKind.u8.wrap x1].length) * (1 : Nat) ≤ (140737488355328 : Nat) ∧ y7.length + [Go.IntKind.u8.wrap x1].length ≤ (140737488355328 : Nat)) then
            bif Decidable.decide ((0 : Int) ≤ Go.IntKind.i64.wrap ((Go.IntKind.i64.wrap ((↑x4.length : Int) + (7 : Int))).tdiv (8 : Int)) ∧ Go.IntKind.i64.wrap ((Go.IntKind.i64.wrap ((↑x4.length : Int) + (7 : Int))).tdiv (8 : Int)) = Go.IntKind.i64.wrap ((Go.IntKind.i64.wrap ((↑x4.length : Int) + (7 : Int))).tdiv (8 : Int)) ∧ (↑(1 : Nat) : Int) * Go.IntKind.i64.wrap ((Go.IntKind.i64.wrap ((↑x4.length : Int) + (7 : Int))).tdiv (8 : Int)) ≤ (281474976710656 : Int) ∧ Go.IntKind.i64.wrap ((Go.IntKind.i64.wrap ((↑x4.length : Int) + (7 : Int))).tdiv (8 : Int)) ≤ (281474976710656 : Int)) then
             (L_ref12_Header_2 fuel (x4, (↑x4.length : Int), (0 : Int), x0, x1, x2, x3, x4, x5, y7 ++ [Go.IntKind.u8.wrap x1], List.replicate (Go.IntKind.i64.wrap ((Go.IntKind.i64.wrap ((↑x4.length : Int) + (7 : Int))).tdiv (8 : Int))).toNat (0 : Int))
                (fun (b2_0, b2_1, b2_2, b2_3, b2_4, b2_5, b2_6, b2_7) =>
                  bif Decidable.decide ((b2_6.length + b2_7.length) * (1 : Nat) ≤ (140737488355328 : Nat) ∧ b2_6.length + b2_7.length ≤ (140737488355328 : Nat)) then
                  (f141 (b2_2)
                     (fun y19 =>
                       bif Decidable.decide (((b2_6 ++ b2_7).length + y19.length) * (1 : Nat) ≤ (140737488355328 : Nat) ∧ (b2_6 ++ b2_7).length + y19.length ≤ (140737488355328 : Nat)) then
                       (f141 ((↑b2_5.length : Int))
                          (fun y24 =>
                            bif Decidable.decide (((b2_6 ++ b2_7 ++ y19).length + y24.length) * (1 : Nat) ≤ (140737488355328 : Nat) ∧ (b2_6 ++ b2_7 ++ y19).length + y24.length ≤ (140737488355328 : Nat)) then
                            k0 ((0 : Int), b2_6 ++ b2_7 ++ y19 ++ y24)
                            else none))
                       else none))
                  else none))
             else none
            else none
           else
            bif Decidable.decide ((y7.length + [Go.IntKind.u8.wrap (Go.IntKind.i64.wrap (x1 + (16 : Int)))].length) * (1 : Nat) ≤ (140737488355328 : Nat) ∧ y7.length + [Go.IntKind.u8.wrap (Go.IntKind.i64.wrap (x1 + (16 : Int)))].length ≤ (140737488355328 : Nat)) then
            (f141 ((↑x3.length : Int))
               (fun y13 =>
                 bif Decidable.decide (((y7 ++ [Go.IntKind.u8.wrap (Go.IntKind.i64.wrap (x1 + (16 : Int)))]).length + y13.length) * (1 : Nat) ≤ (140737488355328 : Nat) ∧ (y7 ++ [Go.IntKind.u8.wrap (Go.IntKind.i64.wrap (x1 + (16 : Int)))]).length + y13.length ≤ (140737488355328 : Nat)) then
                 (L_ref12_Header_0 fuel (x3, (↑x3.length : Int), (0 : Int), x0, x1, x2, x3, x4, x5, y7 ++ [Go.IntKind.u8.wrap (Go.IntKind.i64.wrap (x1 + (16 : Int)))] ++ y13)
                    (fun (b0_0, b0_1, b0_2, b0_3, b0_4, b0_5, b0_6) =>
                      bif Decidable.decide ((0 : Int) ≤ Go.IntKind.i64.wrap ((Go.IntKind.i64.wrap ((↑b0_4.length : Int) + (7 : Int))).tdiv (8 : Int)) ∧ Go.IntKind.i64.wrap ((Go.IntKind.i64.wrap ((↑b0_4.length : Int) + (7 : Int))).tdiv (8 : Int)) = Go.IntKind.i64.wrap ((Go.IntKind.i64.wrap ((↑b0_4.length : Int) + (7 : Int))).tdiv (8 : Int)) ∧ (↑(1 : Nat) : Int) * Go.IntKind.i64.wrap ((Go.IntKind.i64.wrap ((↑b0_4.length : Int) + (7 : Int))).tdiv (8 : Int)) ≤ (281474976710656 : Int) ∧ Go.IntKind.i64.wrap ((Go.IntKind.i64.wrap ((↑b0_4.length : Int) + (7 : Int))).tdiv (8 : Int)) ≤ (281474976710656 : Int)) then
                      (L_ref12_Header_2 fuel (b0_4, (↑b0_4.length : Int), (0 : Int), b0_0, b0_1, b0_2, b0_3, b0_4, b0_5, b0_6, List.replicate (Go.IntKind.i64.wrap ((Go.IntKind.i64.wrap ((↑b0_4.length : Int) + (7 : Int))).tdiv (8 : Int))).toNat (0 : Int))
                         (fun (b2_0, b2_1, b2_2, b2_3, b2_4, b2_5, b2_6, b2_7) =>
                           bif Decidable.decide ((b2_6.length + b2_7.length) * (1 : Nat) ≤ (140737488355328 : Nat) ∧ b2_6.length + b2_7.length ≤ (140737488355328 : Nat)) then
                           (f141 (b2_2)
                              (fun y28 =>
                                bif Decidable.decide (((b2_6 ++ b2_7).length + y28.length) * (1 : Nat) ≤ (140737488355328 : Nat) ∧ (b2_6 ++ b2_7).length + y28.length ≤ (140737488355328 : Nat)) then
                                (f141 ((↑b2_5.length : Int))
                                   (fun y33 =>
                                     bif Decidable.decide (((b2_6 ++ b2_7 ++ y28).length + y33.length) * (1 : Nat) ≤ (140737488355328 : Nat) ∧ (b2_6 ++ b2_7 ++ y28).length + y33.length ≤ (140737488355328 : Nat)) then
                                     k0 ((0 : Int), b2_6 ++ b2_7 ++ y28 ++ y33)
                                     else none))
                                else none))
                           else none))
                      else none))
                 else none))
            else none))))) (fun r => match r with | (r0, r1) => k (.tup [(false, [.own 0]), (false, [.int .i64 r0])], [.vec 5 (.int .u8) r1 true])) := by
  kernel_rfl
theorem F68_eq (fuel : Nat) (x0 : Int) (x1 : Int) (x2 : Int) (x3 : (List Int)) (x4 : (List Bool)) (x5 : (List Int)) (k : Ev.Cont) : evalFn tab (G68 fuel) (J68 fuel) kp68 fuel Try.f68 [.agg [.int .i64 x0, .int .i64 x1, .int .i64 x2, .sl (.int .i64) x3, .sl .bool x4, .sl (.int .u8) x5]] [] k = F_ref12_Header fuel x0 x1 x2 x3 x4 x5 (fun r => match r with | (r0, r1) => k (.tup [(false, [.own 0]), (false, [.int .i64 r0])], [.vec 5 (.int .u8) r1 true])) :=
  F68_eqg fuel (F_ref12_Valid fuel) (F_ref12_size fuel) x0 x1 x2 x3 x4 x5 k
theorem hG68 (fuel : Nat) : GOK Try.prog (G68 fuel) :=
  gok_cons ⟨ok64 fuel, enters_of Try.func64 (by kernel_rfl) rfl⟩ <|
  gok_cons ⟨ok141 fuel, enters_of Try.func141 (by kernel_rfl) rfl⟩ <|
  gok_nil
theorem B68_2_blk (fuel : Nat) : BlkOK Try.prog Try.f68.ntmps (.block 2 (.loop (bodyOf 2 Try.f68))) (B68_2 fuel) :=
  blk_of (blk_of_code tab_ok (hG68 fuel) mixed (J := J68_2 fuel) (kp := kp68) (fuel := fuel) (by kernel_rfl) (fun q hq => by
    rw [(by kernel_rfl : obl (J68_2 fuel) (.block 2 (.loop (bodyOf 2 Try.f68))) = [])] at hq
    cases hq)) (B68_2_ok fuel)
theorem B68_0_blk (fuel : Nat) : BlkOK Try.prog Try.f68.ntmps (.block 0 (.loop (bodyOf 0 Try.f68))) (B68_0 fuel) :=
  blk_of (blk_of_code tab_ok (hG68 fuel) mixed (J := J68_0 fuel) (kp := kp68) (fuel := fuel) (by kernel_rfl) (fun q hq => by
    rw [(by kernel_rfl : obl (J68_0 fuel) (.block 0 (.loop (bodyOf 0 Try.f68))) = [])] at hq
    cases hq)) (B68_0_ok fuel)
theorem fok68 (fuel : Nat) : FnOK Try.prog 68 (evalFn tab (G68 fuel) (J68 fuel) kp68 fuel Try.f68) :=
  fn_ok tab_ok (hG68 fuel) mixed Try.func68 (c := (Try.f68.body).getD .skip) rfl (fun q hq => by
    rw [(by kernel_rfl : obl (J68 fuel) ((Try.f68.body).getD .skip) = [(.block 0 (.loop (bodyOf 0 Try.f68)), B68_0 fuel), (.block 2 (.loop (bodyOf 2 Try.f68)), B68_2 fuel)])] at hq
    simp only [List.mem_cons, List.not_mem_nil, or_false] at hq
    rcases hq with rfl | rfl
    · exact B68_0_blk fuel
    · exact B68_2_blk fuel)
noncomputable def mt68 : List Ev.SV → List Ev.Ob → Bool := fun args objs => match args, objs with
  | [.agg [.int .i64 _, .int .i64 _, .int .i64 _, .sl (.int .i64) _, .sl .bool _, .sl (.int .u8) _]], [] => true
  | _, _ => false
noncomputable def spg68 (F : YF68) : Ev.Spec := fun args objs k => match args, objs with
  | [.agg [.int .i64 x0, .int .i64 x1, .int .i64 x2, .sl (.int .i64) x3, .sl .bool x4, .sl (.int .u8) x5]], [] => bif true then F x0 x1 x2 x3 x4 x5 (fun r => match r with | (r0, r1) => k (.tup [(false, [.own 0]), (false, [.int .i64 r0])], [.vec 5 (.int .u8) r1 true])) else none
  | _, _ => none
noncomputable def spec68 (fuel : Nat) : Ev.Spec := spg68 (F_ref12_Header fuel)
theorem ok68 (fuel : Nat) : FnOK Try.prog 68 (spec68 fuel) := by
  intro args objs kk r h
  unfold spec68 spg68 at h
  split at h
  · skip
    obtain ⟨hb, h⟩ := cond_some' h
    simp only [Bool.and_eq_true, Nat.beq_eq, decide_eq_true_eq] at hb
    clear hb
    exact fok68 fuel _ _ kk r ((F68_eq fuel _ _ _ _ _ _ kk).trans h)
  · cases h
end Go.Proofs.Ytihfgpfofmjbaaa

set_option linter.unusedVariables false
set_option linter.unusedSimpArgs false
set_option maxRecDepth 100000
set_option maxHeartbeats 2000000
namespace Go.Proofs.Ytihfgpfofmjbaaa
open Go Ev
def kp19 (i : Nat) : Option (List Nat) := Ev.look i [(4, [0, 1, 12, 13]), (100000, []), (200006, [0, 1]), (400000, [4])]
noncomputable def Gg19 (f : Nat) : Option Ev.Spec := Ev.look f []
noncomputable def G19 (fuel : Nat) : Nat → Option Ev.Spec := Gg19
noncomputable def S_ref02_SameBytes_0 (fuel : Nat) (v : (List Int) × (List Int) × Int × Int) (c : ((List Int) × (List Int) × Int × Int) → Option Ans) (B : (Bool → Option Ans) × (Unit → Option Ans)) : Option Ans := match v, B with
  | (x0, x1, x2, x3), (ret, b) =>
   bif Decidable.decide (x3 < x2) then
      bif Decidable.decide ((0 : Int) ≤ x3 ∧ x3 < (↑x0.length : Int)) then
      bif Decidable.decide ((0 : Int) ≤ x3 ∧ x3 < (↑x1.length : Int)) then
       bif x0.getD x3.toNat (0 : Int) != x1.getD x3.toNat (0 : Int) then
         ret Bool.false
        else
         c (x0, x1, x2, Go.IntKind.i64.wrap (x3 + (1 : Int)))
       else none
      else none
     else
      b ()
noncomputable def L_ref02_SameBytes_0 (fuel : Nat) (v : (List Int) × (List Int) × Int × Int) (ret : (Bool → Option Ans)) (b : (Unit → Option Ans)) : Option Ans := iter (S_ref02_SameBytes_0 fuel) fuel v (ret, b)
noncomputable def J19_0 (fuel : Nat) (i : Nat) : Option Ev.Blk := Ev.look i []
noncomputable def T19_0 (v : (List Int) × (List Int) × Int × Int) : Ev.St := match v with | (x0, x1, x2, x3) => ⟨[(0, .c (.sl (.int .u8) x0)), (1, .c (.sl (.int .u8) x1)), (12, .c (.int .i64 x2)), (13, .c (.int .i64 x3))], [], 0, 0⟩
noncomputable def E19_0 (K : Ev.Ex → Ev.St → Option Ans) : (Bool → Option Ans) × (Unit → Option Ans) := ((fun v => match v with | x0 => K .ret ⟨[(4, .c (.bool x0))], [], 0, 0⟩), (fun v => match v with | () => K .normal ⟨[], [], 0, 0⟩))
theorem S19_0_ok (fuel : Nat) (R : Ev.St → Option Ans) (K : Ev.Ex → Ev.St → Option Ans) (x0 : (List Int)) (x1 : (List Int)) (x2 : Int) (x3 : Int) : evalCode tab (G19 fuel) (J19_0 fuel) kp19 fuel (bodyOf 0 Try.f19) (T19_0 (x0, x1, x2, x3)) (lc kp19 4 0 R K) = S_ref02_SameBytes_0 fuel (x0, x1, x2, x3) (fun v => R (T19_0 v)) (E19_0 K) := by
  kernel_rfl
noncomputable def B19_0 (fuel : Nat) : Ev.Blk := fun st K => match canonO (kp19 4) st with
  | some s => (match s with
    | ⟨[(q0, .c (.sl (.int .u8) x0)), (q1, .c (.sl (.int .u8) x1)), (q2, .c (.int .i64 x2)), (q3, .c (.int .i64 x3))], [], q4, q5⟩ => bif Nat.beq q0 0 && Nat.beq q1 1 && Nat.beq q2 12 && Nat.beq q3 13 && Nat.beq q4 0 && Nat.beq q5 0 then iter (S_ref02_SameBytes_0 fuel) fuel (x0, x1, x2, x3) (E19_0 K) else none
    | _ => none)
  | none => none
theorem B19_0_ok (fuel : Nat) (st : Ev.St) (K : Ev.Ex → Ev.St → Option Ans) (r : Ans) (h : B19_0 fuel st K = some r) : evalCode tab (G19 fuel) (J19_0 fuel) kp19 fuel (.block 0 (.loop (bodyOf 0 Try.f19))) st K = some r := by
  unfold B19_0 at h
  split at h
  · rename_i s hs
    split at h
    · skip
      obtain ⟨hb, h⟩ := cond_some' h
      simp only [Bool.and_eq_true, Nat.beq_eq, decide_eq_true_eq] at hb
      obtain ⟨⟨⟨⟨⟨rfl, rfl⟩, rfl⟩, rfl⟩, rfl⟩, rfl⟩ := hb
      exact blk_loop (S := T19_0) (ks := E19_0) (step := S_ref02_SameBytes_0 fuel) (v := (_, _, _, _)) (by kernel_rfl) (by kernel_rfl) (fun R K v => by obtain ⟨x0, x1, x2, x3⟩ := v; exact S19_0_ok fuel R K x0 x1 x2 x3) hs h
    · cases h
  · cases h
noncomputable def J19 (fuel : Nat) (i : Nat) : Option Ev.Blk := Ev.look i [(100000, B19_0 fuel)]
noncomputable def F_ref02_SameBytes (fuel : Nat) (x0 : (List Int)) (x1 : (List Int)) (k0 : (Bool) → Option Ans) : Option Ans :=
  bif (↑x0.length : Int) != (↑x1.length : Int) then
   k0 Bool.false
  else
   (L_ref02_SameBytes_0 fuel (x0, x1, (↑x0.length : Int), (0 : Int))
     (fun ret0_0 =>
       k0 ret0_0)
     (fun () =>
       k0 Bool.true))
abbrev YF19 : Type := ((List Int)) → ((List Int)) → ((Bool) → Option Ans) → Option Ans
theorem F19_eq (fuel : Nat) (x0 : (List Int)) (x1 : (List Int)) (k : Ev.Cont) : evalFn tab (G19 fuel) (J19 fuel) kp19 fuel Try.f19 [.c (.sl (.int .u8) x0), .c (.sl (.int .u8) x1)] [] k = F_ref02_SameBytes fuel x0 x1 (fun r => match r with | r0 => k (.c (.bool r0), [])) := by
  kernel_rfl
theorem hG19 (fuel : Nat) : GOK Try.prog (G19 fuel) :=
  gok_nil
theorem B19_0_blk (fuel : Nat) : BlkOK Try.prog Try.f19.ntmps (.block 0 (.loop (bodyOf 0 Try.f19))) (B19_0 fuel) :=
  blk_of (blk_of_code tab_ok (hG19 fuel) mixed (J := J19_0 fuel) (kp := kp19) (fuel := fuel) (by kernel_rfl) (fun q hq => by
    rw [(by kernel_rfl : obl (J19_0 fuel) (.block 0 (.loop (bodyOf 0 Try.f19))) = [])] at hq
    cases hq)) (B19_0_ok fuel)
theorem fok19 (fuel : Nat) : FnOK Try.prog 19 (evalFn tab (G19 fuel) (J19 fuel) kp19 fuel Try.f19) :=
  fn_ok tab_ok (hG19 fuel) mixed Try.func19 (c := (Try.f19.body).getD .skip) rfl (fun q hq => by
    rw [(by kernel_rfl : obl (J19 fuel) ((Try.f19.body).getD .skip) = [(.block 0 (.loop (bodyOf 0 Try.f19)), B19_0 fuel)])] at hq
    simp only [List.mem_cons, List.not_mem_nil, or_false] at hq
    subst hq
    · exact B19_0_blk fuel)
noncomputable def mt19 : List Ev.SV → List Ev.Ob → Bool := fun args objs => match args, objs with
  | [.c (.sl (.int .u8) _), .c (.sl (.int .u8) _)], [] => true
  | _, _ => false
noncomputable def spg19 (F : YF19) : Ev.Spec := fun args objs k => match args, objs with
  | [.c (.sl (.int .u8) x0), .c (.sl (.int .u8) x1)], [] => bif true then F x0 x1 (fun r => match r with | r0 => k (.c (.bool r0), [])) else none
  | _, _ => none
noncomputable def spec19 (fuel : Nat) : Ev.Spec := spg19 (F_ref02_SameBytes fuel)
theorem ok19 (fuel : Nat) : FnOK Try.prog 19 (spec19 fuel) := by
  intro args objs kk r h
  unfold spec19 spg19 at h
  split at h
  · skip
    obtain ⟨hb, h⟩ := cond_some' h
    simp only [Bool.and_eq_true, Nat.beq_eq, decide_eq_true_eq] at hb
    clear hb
    exact fok19 fuel _ _ kk r ((F19_eq fuel _ _ kk).trans h)
  · cases h
end Go.Proofs.Ytihfgpfofmjbaaa

set_option linter.unusedVariables false
set_option linter.unusedSimpArgs false
set_option maxRecDepth 100000
set_option maxHeartbeats 2000000
namespace Go.Proofs.Ytihfgpfofmjbaaa
open Go Ev
def kp66 (i : Nat) : Option (List Nat) := Ev.look i [(2, [0, 1, 7, 8, 9]), (100000, [0, 1]), (400000, [4])]
noncomputable def Gg66 (f : Nat) : Option Ev.Spec := Ev.look f []
noncomputable def G66 (fuel : Nat) : Nat → Option Ev.Spec := Gg66
noncomputable def S_ref14_ends_0 (fuel : Nat) (v : Int × (List (Int × (Int × (Int × ((List Int) × ((List Bool) × (List Int))))))) × (List (Int × (Int × (Int × ((List Int) × ((List Bool) × (List Int))))))) × Int × Int) (c : (Int × (List (Int × (Int × (Int × ((List Int) × ((List Bool) × (List Int))))))) × (List (Int × (Int × (Int × ((List Int) × ((List Bool) × (List Int))))))) × Int × Int) → Option Ans) (B : (Bool → Option Ans) × (Int × (List (Int × (Int × (Int × ((List Int) × ((List Bool) × (List Int))))))) → Option Ans)) : Option Ans := match v, B with
  | (x0, x1, x2, x3, x4), (ret, b) =>
   bif Decidable.decide (x4 < x3) then
      bif Decidable.decide ((0 : Int) ≤ x4 ∧ x4 < (↑x2.length : Int)) then
      bif Decidable.decide (x0 < (2 : Int)) then
        bif !((x2.getD x4.toNat ((0 : Int), (0 : Int), (0 : Int), [], [], [])).snd.fst == (9 : Int)) == (x4 == Go.IntKind.i64.wrap ((↑x1.length : Int) - (1 : Int))) then
         ret Bool.false
        else
         c (x0, x1, x2, x3, Go.IntKind.i64.wrap (x4 + (1 : Int)))
       else
        bif !((x2.getD x4.toNat ((0 : Int), (0 : Int), (0 : Int), [], [], [])).snd.fst == (9 : Int)) == Bool.false then
         ret Bool.false
        else
         c (x0, x1, x2, x3, Go.IntKind.i64.wrap (x4 + (1 : Int)))
      else none
     else
      b (x0, x1)
noncomputable def L_ref14_ends_0 (fuel : Nat) (v : Int × (List (Int × (Int × (Int × ((List Int) × ((List Bool) × (List Int))))))) × (List (Int × (Int × (Int × ((List Int) × ((List Bool) × (List Int))))))) × Int × Int) (ret : (Bool → Option Ans)) (b : (Int × (List (Int × (Int × (Int × ((List Int) × ((List Bool) × (List Int))))))) → Option Ans)) : Option Ans := iter (S_ref14_ends_0 fuel) fuel v (ret, b)
noncomputable def J66_0 (fuel : Nat) (i : Nat) : Option Ev.Blk := Ev.look i []
noncomputable def T66_0 (v : Int × (List (Int × (Int × (Int × ((List Int) × ((List Bool) × (List Int))))))) × (List (Int × (Int × (Int × ((List Int) × ((List Bool) × (List Int))))))) × Int × Int) : Ev.St := match v with | (x0, x1, x2, x3, x4) => ⟨[(0, .c (.int .i64 x0)), (1, .c (.sl (.pair (.int .i64) (.pair (.int .i64) (.pair (.int .i64) (.pair (.sl (.int .i64)) (.pair (.sl .bool) (.sl (.int .u8))))))) x1)), (7, .c (.sl (.pair (.int .i64) (.pair (.int .i64) (.pair (.int .i64) (.pair (.sl (.int .i64)) (.pair (.sl .bool) (.sl (.int .u8))))))) x2)), (8, .c (.int .i64 x3)), (9, .c (.int .i64 x4))], [], 0, 0⟩
noncomputable def E66_0 (K : Ev.Ex → Ev.St → Option Ans) : (Bool → Option Ans) × (Int × (List (Int × (Int × (Int × ((List Int) × ((List Bool) × (List Int))))))) → Option Ans) := ((fun v => match v with | x0 => K .ret ⟨[(4, .c (.bool x0))], [], 0, 0⟩), (fun v => match v with | (x0, x1) => K .normal ⟨[(0, .c (.int .i64 x0)), (1, .c (.sl (.pair (.int .i64) (.pair (.int .i64) (.pair (.int .i64) (.pair (.sl (.int .i64)) (.pair (.sl .bool) (.sl (.int .u8))))))) x1))], [], 0, 0⟩))
theorem S66_0_ok (fuel : Nat) (R : Ev.St → Option Ans) (K : Ev.Ex → Ev.St → Option Ans) (x0 : Int) (x1 : (List (Int × (Int × (Int × ((List Int) × ((List Bool) × (List Int)))))))) (x2 : (List (Int × (Int × (Int × ((List Int) × ((List Bool) × (List Int)))))))) (x3 : Int) (x4 : Int) : evalCode tab (G66 fuel) (J66_0 fuel) kp66 fuel (bodyOf 0 Try.f66) (T66_0 (x0, x1, x2, x3, x4)) (lc kp66 2 0 R K) = S_ref14_ends_0 fuel (x0, x1, x2, x3, x4) (fun v => R (T66_0 v)) (E66_0 K) := by
  kernel_rfl
noncomputable def B66_0 (fuel : Nat) : Ev.Blk := fun st K => match canonO (kp66 2) st with
  | some s => (match s with
    | ⟨[(q0, .c (.int .i64 x0)), (q1, .c (.sl (.pair (.int .i64) (.pair (.int .i64) (.pair (.int .i64) (.pair (.sl (.int .i64)) (.pair (.sl .bool) (.sl (.int .u8))))))) x1)), (q2, .c (.sl (.pair (.int .i64) (.pair (.int .i64) (.pair (.int .i64) (.pair (.sl (.int .i64)) (.pair (.sl .bool) (.sl (.int .u8))))))) x2)), (q3, .c (.int .i64 x3)), (q4, .c (.int .i64 x4))], [], q5, q6⟩ => bif Nat.beq q0 0 && Nat.beq q1 1 && Nat.beq q2 7 && Nat.beq q3 8 && Nat.beq q4 9 && Nat.beq q5 0 && Nat.beq q6 0 then iter (S_ref14_ends_0 fuel) fuel (x0, x1, x2, x3, x4) (E66_0 K) else none
    | _ => none)
  | none => none
theorem B66_0_ok (fuel : Nat) (st : Ev.St) (K : Ev.Ex → Ev.St → Option Ans) (r : Ans) (h : B66_0 fuel st K = some r) : evalCode tab (G66 fuel) (J66_0 fuel) kp66 fuel (.block 0 (.loop (bodyOf 0 Try.f66))) st K = some r := by
  unfold B66_0 at h
  split at h
  · rename_i s hs
    split at h
    · skip
      obtain ⟨hb, h⟩ := cond_some' h
      simp only [Bool.and_eq_true, Nat.beq_eq, decide_eq_true_eq] at hb
      obtain ⟨⟨⟨⟨⟨⟨rfl, rfl⟩, rfl⟩, rfl⟩, rfl⟩, rfl⟩, rfl⟩ := hb
      exact blk_loop (S := T66_0) (ks := E66_0) (step := S_ref14_ends_0 fuel) (v := (_, _, _, _, _)) (by kernel_rfl) (by kernel_rfl) (fun R K v => by obtain ⟨x0, x1, x2, x3, x4⟩ := v; exact S66_0_ok fuel R K x0 x1 x2 x3 x4) hs h
    · cases h
  · cases h
noncomputable def J66 (fuel : Nat) (i : Nat) : Option Ev.Blk := Ev.look i [(100000, B66_0 fuel)]
noncomputable def F_ref14_ends (fuel : Nat) (x0 : Int) (x1 : (List (Int × Int × Int × (List Int) × (List Bool) × (List Int)))) (k0 : (Bool) → Option Ans) : Option Ans :=
  (L_ref14_ends_0 fuel (x0, x1, x1, (↑x1.length : Int), (0 : Int))
    (fun ret0_0 =>
      k0 ret0_0)
    (fun (b0_0, b0_1) =>
      bif b0_0 == (2 : Int) then
       k0 Bool.true
      else
       k0 (Decidable.decide ((↑b0_1.length : Int) > (0 : Int)))))
abbrev YF66 : Type := (Int) → ((List (Int × Int × Int × (List Int) × (List Bool) × (List Int)))) → ((Bool) → Option Ans) → Option Ans
theorem F66_eq (fuel : Nat) (x0 : Int) (x1 : (List (Int × Int × Int × (List Int) × (List Bool) × (List Int)))) (k : Ev.Cont) : evalFn tab (G66 fuel) (J66 fuel) kp66 fuel Try.f66 [.c (.int .i64 x0), .c (.sl (.pair (.int .i64) (.pair (.int .i64) (.pair (.int .i64) (.pair (.sl (.int .i64)) (.pair (.sl .bool) (.sl (.int .u8))))))) x1)] [] k = F_ref14_ends fuel x0 x1 (fun r => match r with | r0 => k (.c (.bool r0), [])) := by
  kernel_rfl
theorem hG66 (fuel : Nat) : GOK Try.prog (G66 fuel) :=
  gok_nil
theorem B66_0_blk (fuel : Nat) : BlkOK Try.prog Try.f66.ntmps (.block 0 (.loop (bodyOf 0 Try.f66))) (B66_0 fuel) :=
  blk_of (blk_of_code tab_ok (hG66 fuel) mixed (J := J66_0 fuel) (kp := kp66) (fuel := fuel) (by kernel_rfl) (fun q hq => by
    rw [(by kernel_rfl : obl (J66_0 fuel) (.block 0 (.loop (bodyOf 0 Try.f66))) = [])] at hq
    cases hq)) (B66_0_ok fuel)
theorem fok66 (fuel : Nat) : FnOK Try.prog 66 (evalFn tab (G66 fuel) (J66 fuel) kp66 fuel Try.f66) :=
  fn_ok tab_ok (hG66 fuel) mixed Try.func66 (c := (Try.f66.body).getD .skip) rfl (fun q hq => by
    rw [(by kernel_rfl : obl (J66 fuel) ((Try.f66.body).getD .skip) = [(.block 0 (.loop (bodyOf 0 Try.f66)), B66_0 fuel)])] at hq
    simp only [List.mem_cons, List.not_mem_nil, or_false] at hq
    subst hq
    · exact B66_0_blk fuel)
noncomputable def mt66 : List Ev.SV → List Ev.Ob → Bool := fun args objs => match args, objs with
  | [.c (.int .i64 _), .c (.sl (.pair (.int .i64) (.pair (.int .i64) (.pair (.int .i64) (.pair (.sl (.int .i64)) (.pair (.sl .bool) (.sl (.int .u8))))))) _)], [] => true
  | _, _ => false
noncomputable def spg66 (F : YF66) : Ev.Spec := fun args objs k => match args, objs with
  | [.c (.int .i64 x0), .c (.sl (.pair (.int .i64) (.pair (.int .i64) (.pair (.int .i64) (.pair (.sl (.int .i64)) (.pair (.sl .bool) (.sl (.int .u8))))))) x1)], [] => bif true then F x0 x1 (fun r => match r with | r0 => k (.c (.bool r0), [])) else none
  | _, _ => none
noncomputable def spec66 (fuel : Nat) : Ev.Spec := spg66 (F_ref14_ends fuel)
theorem ok66 (fuel : Nat) : FnOK Try.prog 66 (spec66 fuel) := by
  intro args objs kk r h
  unfold spec66 spg66 at h
  split at h
  · skip
    obtain ⟨hb, h⟩ := cond_some' h
    simp only [Bool.and_eq_true, Nat.beq_eq, decide_eq_true_eq] at hb
    clear hb
    exact fok66 fuel _ _ kk r ((F66_eq fuel _ _ kk).trans h)
  · cases h
end Go.Proofs.Ytihfgpfofmjbaaa

set_option linter.unusedVariables false
set_option linter.unusedSimpArgs false
set_option maxRecDepth 100000
set_option maxHeartbeats 2000000
namespace Go.Proofs.Ytihfgpfofmjbaaa
open Go Ev
def kp67 (i : Nat) : Option (List Nat) := Ev.look i []
noncomputable def Gg67 (f : Nat) : Option Ev.Spec := Ev.look f []
noncomputable def G67 (fuel : Nat) : Nat → Option Ev.Spec := Gg67
noncomputable def J67 (fuel : Nat) (i : Nat) : Option Ev.Blk := Ev.look i []
noncomputable def F_ref14_lead (fuel : Nat) (x0 : Int) (k0 : ((List Int)) → Option Ans) : Option Ans :=
  k0 ([(73 : Int), (78 : Int), (67 : Int), (49 : Int), Go.IntKind.u8.wrap x0])
abbrev YF67 : Type := (Int) → (((List Int)) → Option Ans) → Option Ans
theorem F67_eq (fuel : Nat) (x0 : Int) (k : Ev.Cont) : evalFn tab (G67 fuel) (J67 fuel) kp67 fuel Try.f67 [.c (.int .i64 x0)] [] k = F_ref14_lead fuel x0 (fun r => match r with | r0 => k (.c (.own 0), [.vec 5 (.int .u8) r0 true])) := by
  kernel_rfl
theorem hG67 (fuel : Nat) : GOK Try.prog (G67 fuel) :=
  gok_nil
theorem fok67 (fuel : Nat) : FnOK Try.prog 67 (evalFn tab (G67 fuel) (J67 fuel) kp67 fuel Try.f67) :=
  fn_ok tab_ok (hG67 fuel) mixed Try.func67 (c := (Try.f67.body).getD .skip) rfl (fun q hq => by
    rw [(by kernel_rfl : obl (J67 fuel) ((Try.f67.body).getD .skip) = [])] at hq
    cases hq)
noncomputable def mt67 : List Ev.SV → List Ev.Ob → Bool := fun args objs => match args, objs with
  | [.c (.int .i64 _)], [] => true
  | _, _ => false
noncomputable def spg67 (F : YF67) : Ev.Spec := fun args objs k => match args, objs with
  | [.c (.int .i64 x0)], [] => bif true then F x0 (fun r => match r with | r0 => k (.c (.own 0), [.vec 5 (.int .u8) r0 true])) else none
  | _, _ => none
noncomputable def spec67 (fuel : Nat) : Ev.Spec := spg67 (F_ref14_lead fuel)
theorem ok67 (fuel : Nat) : FnOK Try.prog 67 (spec67 fuel) := by
  intro args objs kk r h
  unfold spec67 spg67 at h
  split at h
  · skip
    obtain ⟨hb, h⟩ := cond_some' h
    simp only [Bool.and_eq_true, Nat.beq_eq, decide_eq_true_eq] at hb
    clear hb
    exact fok67 fuel _ _ kk r ((F67_eq fuel _ kk).trans h)
  · cases h
end Go.Proofs.Ytihfgpfofmjbaaa

set_option linter.unusedVariables false
set_option linter.unusedSimpArgs false
set_option maxRecDepth 100000
set_option maxHeartbeats 2000000
namespace Go.Proofs.Ytihfgpfofmjbaaa
open Go Ev
def kp18 (i : Nat) : Option (List Nat) := Ev.look i [(4, [0, 1, 22, 23, 24]), (19, [0, 1, 10, 11, 47, 48, 49]), (100000, [0, 1]), (100002, [1, 10, 11]), (400000, [4, 5]), (400002, [4, 5])]
noncomputable def Gg18 (f64 : YF64) (f65 : YF65) (f66 : YF66) (f67 : YF67) (f68 : YF68) (f : Nat) : Option Ev.Spec := Ev.look f [(64, spg64 f64), (65, spg65 f65), (66, spg66 f66), (67, spg67 f67), (68, spg68 f68)]
noncomputable def G18 (fuel : Nat) : Nat → Option Ev.Spec := Gg18 (F_ref12_Valid fuel) (F_ref12_InOrder fuel) (F_ref14_ends fuel) (F_ref14_lead fuel) (F_ref12_Header fuel)
noncomputable def S_ref14_Write_0 (fuel : Nat) (v : Int × (List (Int × (Int × (Int × ((List Int) × ((List Bool) × (List Int))))))) × (List (Int × (Int × (Int × ((List Int) × ((List Bool) × (List Int))))))) × Int × Int) (c : (Int × (List (Int × (Int × (Int × ((List Int) × ((List Bool) × (List Int))))))) × (List (Int × (Int × (Int × ((List Int) × ((List Bool) × (List Int))))))) × Int × Int) → Option Ans) (B : (Int × (List Int) → Option Ans) × (Int × (List (Int × (Int × (Int × ((List Int) × ((List Bool) × (List Int))))))) → Option Ans)) : Option Ans := match v, B with
  | (x0, x1, x2, x3, x4), (ret, b) =>
   bif Decidable.decide (x4 < x3) then
      bif Decidable.decide ((0 : Int) ≤ x4 ∧ x4 < (↑x2.length : Int)) then
      (F_ref12_Valid fuel ((x2.getD x4.toNat ((0 : Int), (0 : Int), (0 : Int), [], [], [])).fst) ((x2.getD x4.toNat ((0 : Int), (0 : Int), (0 : Int), [], [], [])).snd.fst) ((x2.getD x4.toNat ((0 : Int), (0 : Int), (0 : Int), [], [], [])).snd.snd.fst) ((x2.getD x4.toNat ((0 : Int), (0 : Int), (0 : Int), [], [], [])).snd.snd.snd.fst) ((x2.getD x4.toNat ((0 : Int), (0 : Int), (0 : Int), [], [], [])).snd.snd.snd.snd.fst) ((x2.getD x4.toNat ((0 : Int), (0 : Int), (0 : Int), [], [], [])).snd.snd.snd.snd.snd)
         (fun y4 =>
           bif !y4 then
            ret ((2 : Int), [])
           else
            c (x0, x1, x2, x3, Go.IntKind.i64.wrap (x4 + (1 : Int)))))
      else none
     else
      b (x0, x1)
noncomputable def L_ref14_Write_0 (fuel : Nat) (v : Int × (List (Int × (Int × (Int × ((List Int) × ((List Bool) × (List Int))))))) × (List (Int × (Int × (Int × ((List Int) × ((List Bool) × (List Int))))))) × Int × Int) (ret : (Int × (List Int) → Option Ans)) (b : (Int × (List (Int × (Int × (Int × ((List Int) × ((List Bool) × (List Int))))))) → Option Ans)) : Option Ans := iter (S_ref14_Write_0 fuel) fuel v (ret, b)
noncomputable def J18_0 (fuel : Nat) (i : Nat) : Option Ev.Blk := Ev.look i []
noncomputable def T18_0 (v : Int × (List (Int × (Int × (Int × ((List Int) × ((List Bool) × (List Int))))))) × (List (Int × (Int × (Int × ((List Int) × ((List Bool) × (List Int))))))) × Int × Int) : Ev.St := match v with | (x0, x1, x2, x3, x4) => ⟨[(0, .c (.int .i64 x0)), (1, .c (.sl (.pair (.int .i64) (.pair (.int .i64) (.pair (.int .i64) (.pair (.sl (.int .i64)) (.pair (.sl .bool) (.sl (.int .u8))))))) x1)), (22, .c (.sl (.pair (.int .i64) (.pair (.int .i64) (.pair (.int .i64) (.pair (.sl (.int .i64)) (.pair (.sl .bool) (.sl (.int .u8))))))) x2)), (23, .c (.int .i64 x3)), (24, .c (.int .i64 x4))], [], 0, 0⟩
noncomputable def E18_0 (K : Ev.Ex → Ev.St → Option Ans) : (Int × (List Int) → Option Ans) × (Int × (List (Int × (Int × (Int × ((List Int) × ((List Bool) × (List Int))))))) → Option Ans) := ((fun v => match v with | (x0, x1) => K .ret ⟨[(4, .c (.own 0)), (5, .c (.int .i64 x0))], [(0, .vec 5 (.int .u8) x1 true)], 1, 0⟩), (fun v => match v with | (x0, x1) => K .normal ⟨[(0, .c (.int .i64 x0)), (1, .c (.sl (.pair (.int .i64) (.pair (.int .i64) (.pair (.int .i64) (.pair (.sl (.int .i64)) (.pair (.sl .bool) (.sl (.int .u8))))))) x1))], [], 0, 0⟩))
theorem S18_0_okg (fuel : Nat) (f64 : YF64) (f65 : YF65) (f66 : YF66) (f67 : YF67) (f68 : YF68) (R : Ev.St → Option Ans) (K : Ev.Ex → Ev.St → Option Ans) (x0 : Int) (x1 : (List (Int × (Int × (Int × ((List Int) × ((List Bool) × (List Int)))))))) (x2 : (List (Int × (Int × (Int × ((List Int) × ((List Bool) × (List Int)))))))) (x3 : Int) (x4 : Int) : evalCode tab (Gg18 f64 f65 f66 f67 f68) (J18_0 fuel) kp18 fuel (bodyOf 0 Try.f18) (T18_0 (x0, x1, x2, x3, x4)) (lc kp18 4 0 R K) = (fun (c : (Int × (List (Int × (Int × (Int × ((List Int) × ((List Bool) × (List Int))))))) × (List (Int × (Int × (Int × ((List Int) × ((List Bool) × (List Int))))))) × Int × Int) → Option Ans) (B : (Int × (List Int) → Option Ans) × (Int × (List (Int × (Int × (Int × ((List Int) × ((List Bool) × (List Int))))))) → Option Ans)) => match B with
  | (ret, b) =>
   bif Decidable.decide (x4 < x3) then
      bif Decidable.decide ((0 : Int) ≤ x4 ∧ x4 < (↑x2.length : Int)) then
      (f64 ((x2.getD x4.toNat ((0 : Int), (0 : Int), (0 : Int), [], [], [])).fst) ((x2.getD x4.toNat ((0 : Int), (0 : Int), (0 : Int), [], [], [])).snd.fst) ((x2.getD x4.toNat ((0 : Int), (0 : Int), (0 : Int), [], [], [])).snd.snd.fst) ((x2.getD x4.toNat ((0 : Int), (0 : Int), (0 : Int), [], [], [])).snd.snd.snd.fst) ((x2.getD x4.toNat ((0 : Int), (0 : Int), (0 : Int), [], [], [])).snd.snd.snd.snd.fst) ((x2.getD x4.toNat ((0 : Int), (0 : Int), (0 : Int), [], [], [])).snd.snd.snd.snd.snd)
         (fun y4 =>
           bif !y4 then
            ret ((2 : Int), [])
           else
            c (x0, x1, x2, x3, Go.IntKind.i64.wrap (x4 + (1 : Int)))))
      else none
     else
      b (x0, x1)) (fun v => R (T18_0 v)) (E18_0 K) := by
  kernel_rfl
theorem S18_0_ok (fuel : Nat) (R : Ev.St → Option Ans) (K : Ev.Ex → Ev.St → Option Ans) (x0 : Int) (x1 : (List (Int × (Int × (Int × ((List Int) × ((List Bool) × (List Int)))))))) (x2 : (List (Int × (Int × (Int × ((List Int) × ((List Bool) × (List Int)))))))) (x3 : Int) (x4 : Int) : evalCode tab (G18 fuel) (J18_0 fuel) kp18 fuel (bodyOf 0 Try.f18) (T18_0 (x0, x1, x2, x3, x4)) (lc kp18 4 0 R K) = S_ref14_Write_0 fuel (x0, x1, x2, x3, x4) (fun v => R (T18_0 v)) (E18_0 K) :=
  S18_0_okg fuel (F_ref12_Valid fuel) (F_ref12_InOrder fuel) (F_ref14_ends fuel) (F_ref14_lead fuel) (F_ref12_Header fuel) R K x0 x1 x2 x3 x4
noncomputable def B18_0 (fuel : Nat) : Ev.Blk := fun st K => match canonO (kp18 4) st with
  | some s => (match s with
    | ⟨[(q0, .c (.int .i64 x0)), (q1, .c (.sl (.pair (.int .i64) (.pair (.int .i64) (.pair (.int .i64) (.pair (.sl (.int .i64)) (.pair (.sl .bool) (.sl (.int .u8))))))) x1)), (q2, .c (.sl (.pair (.int .i64) (.pair (.int .i64) (.pair (.int .i64) (.pair (.sl (.int .i64)) (.pair (.sl .bool) (.sl (.int .u8))))))) x2)), (q3, .c (.int .i64 x3)), (q4, .c (.int .i64 x4))], [], q5, q6⟩ => bif Nat.beq q0 0 && Nat.beq q1 1 && Nat.beq q2 22 && Nat.beq q3 23 && Nat.beq q4 24 && Nat.beq q5 0 && Nat.beq q6 0 then iter (S_ref14_Write_0 fuel) fuel (x0, x1, x2, x3, x4) (E18_0 K) else none
    | _ => none)
  | none => none
theorem B18_0_ok (fuel : Nat) (st : Ev.St) (K : Ev.Ex → Ev.St → Option Ans) (r : Ans) (h : B18_0 fuel st K = some r) : evalCode tab (G18 fuel) (J18_0 fuel) kp18 fuel (.block 0 (.loop (bodyOf 0 Try.f18))) st K = some r := by
  unfold B18_0 at h
  split at h
  · rename_i s hs
    split at h
    · skip
      obtain ⟨hb, h⟩ := cond_some' h
      simp only [Bool.and_eq_true, Nat.beq_eq, decide_eq_true_eq] at hb
      obtain ⟨⟨⟨⟨⟨⟨rfl, rfl⟩, rfl⟩, rfl⟩, rfl⟩, rfl⟩, rfl⟩ := hb
      exact blk_loop (S := T18_0) (ks := E18_0) (step := S_ref14_Write_0 fuel) (v := (_, _, _, _, _)) (by kernel_rfl) (by kernel_rfl) (fun R K v => by obtain ⟨x0, x1, x2, x3, x4⟩ := v; exact S18_0_ok fuel R K x0 x1 x2 x3 x4) hs h
    · cases h
  · cases h
noncomputable def S_ref14_Write_2 (fuel : Nat) (v : Int × (List (Int × (Int × (Int × ((List Int) × ((List Bool) × (List Int))))))) × (List (Int × (Int × (Int × ((List Int) × ((List Bool) × (List Int))))))) × Int × Int × (List Int) × (List Int)) (c : (Int × (List (Int × (Int × (Int × ((List Int) × ((List Bool) × (List Int))))))) × (List (Int × (Int × (Int × ((List Int) × ((List Bool) × (List Int))))))) × Int × Int × (List Int) × (List Int)) → Option Ans) (B : ((List (Int × (Int × (Int × ((List Int) × ((List Bool) × (List Int))))))) × (List Int) × (List Int) → Option Ans)) : Option Ans := match v, B with
  | (x0, x1, x2, x3, x4, x5, x6), b =>
   bif Decidable.decide (x4 < x3) then
      bif Decidable.decide ((0 : Int) ≤ x4 ∧ x4 < (↑x2.length : Int)) then
      (F_ref12_Header fuel ((x2.getD x4.toNat ((0 : Int), (0 : Int), (0 : Int), [], [], [])).fst) ((x2.getD x4.toNat ((0 : Int), (0 : Int), (0 : Int), [], [], [])).snd.fst) ((x2.getD x4.toNat ((0 : Int), (0 : Int), (0 : Int), [], [], [])).snd.snd.fst) ((x2.getD x4.toNat ((0 : Int), (0 : Int), (0 : Int), [], [], [])).snd.snd.snd.fst) ((x2.getD x4.toNat ((0 : Int), (0 : Int), (0 : Int), [], [], [])).snd.snd.snd.snd.fst) ((x2.getD x4.toNat ((0 : Int), (0 : Int), (0 : Int), [], [], [])).snd.snd.snd.snd.snd)
         (fun (y4_0, y4_1) =>
           bif Decidable.decide ((x5.length + y4_1.length) * (1 : Nat) ≤ (140737488355328 : Nat) ∧ x5.length + y4_1.length ≤ (140737488355328 : Nat)) then
           bif x0 == (1 : Int) then
             bif Decidable.decide ((x6.length + List.length (x2.getD x4.toNat ((0 : Int), (0 : Int), (0 : Int), [], [], [])).snd.snd.snd.snd.snd) * (1 : Nat) ≤ (140737488355328 : Nat) ∧ x6.length + List.length (x2.getD x4.toNat ((0 : Int), (0 : Int), (0 : Int), [], [], [])).snd.snd.snd.snd.snd ≤ (140737488355328 : Nat)) then
             c (x0, x1, x2, x3, Go.IntKind.i64.wrap (x4 + (1 : Int)), x5 ++ y4_1, x6 ++ (x2.getD x4.toNat ((0 : Int), (0 : Int), (0 : Int), [], [], [])).snd.snd.snd.snd.snd)
             else none
            else
             bif Decidable.decide (((x5 ++ y4_1).length + List.length (x2.getD x4.toNat ((0 : Int), (0 : Int), (0 : Int), [], [], [])).snd.snd.snd.snd.snd) * (1 : Nat) ≤ (140737488355328 : Nat) ∧ (x5 ++ y4_1).length + List.length (x2.getD x4.toNat ((0 : Int), (0 : Int), (0 : Int), [], [], [])).snd.snd.snd.snd.snd ≤ (140737488355328 : Nat)) then
             c (x0, x1, x2, x3, Go.IntKind.i64.wrap (x4 + (1 : Int)), x5 ++ y4_1 ++ (x2.getD x4.toNat ((0 : Int), (0 : Int), (0 : Int), [], [], [])).snd.snd.snd.snd.snd, x6)
             else none
           else none))
      else none
     else
      b (x1, x5, x6)
noncomputable def L_ref14_Write_2 (fuel : Nat) (v : Int × (List (Int × (Int × (Int × ((List Int) × ((List Bool) × (List Int))))))) × (List (Int × (Int × (Int × ((List Int) × ((List Bool) × (List Int))))))) × Int × Int × (List Int) × (List Int)) (b : ((List (Int × (Int × (Int × ((List Int) × ((List Bool) × (List Int))))))) × (List Int) × (List Int) → Option Ans)) : Option Ans := iter (S_ref14_Write_2 fuel) fuel v b
noncomputable def J18_2 (fuel : Nat) (i : Nat) : Option Ev.Blk := Ev.look i [(100000, B18_0 fuel)]
noncomputable def T18_2 (v : Int × (List (Int × (Int × (Int × ((List Int) × ((List Bool) × (List Int))))))) × (List (Int × (Int × (Int × ((List Int) × ((List Bool) × (List Int))))))) × Int × Int × (List Int) × (List Int)) : Ev.St := match v with | (x0, x1, x2, x3, x4, x5, x6) => ⟨[(0, .c (.int .i64 x0)), (1, .c (.sl (.pair (.int .i64) (.pair (.int .i64) (.pair (.int .i64) (.pair (.sl (.int .i64)) (.pair (.sl .bool) (.sl (.int .u8))))))) x1)), (10, .c (.own 0)), (11, .c (.own 1)), (47, .c (.sl (.pair (.int .i64) (.pair (.int .i64) (.pair (.int .i64) (.pair (.sl (.int .i64)) (.pair (.sl .bool) (.sl (.int .u8))))))) x2)), (48, .c (.int .i64 x3)), (49, .c (.int .i64 x4))], [(0, .vec 5 (.int .u8) x5 true), (1, .vec 5 (.int .u8) x6 true)], 2, 0⟩
noncomputable def E18_2 (K : Ev.Ex → Ev.St → Option Ans) : ((List (Int × (Int × (Int × ((List Int) × ((List Bool) × (List Int))))))) × (List Int) × (List Int) → Option Ans) := (fun v => match v with | (x0, x1, x2) => K .normal ⟨[(1, .c (.sl (.pair (.int .i64) (.pair (.int .i64) (.pair (.int .i64) (.pair (.sl (.int .i64)) (.pair (.sl .bool) (.sl (.int .u8))))))) x0)), (10, .c (.own 0)), (11, .c (.own 1))], [(0, .vec 5 (.int .u8) x1 true), (1, .vec 5 (.int .u8) x2 true)], 2, 0⟩)
theorem S18_2_okg (fuel : Nat) (f64 : YF64) (f65 : YF65) (f66 : YF66) (f67 : YF67) (f68 : YF68) (R : Ev.St → Option Ans) (K : Ev.Ex → Ev.St → Option Ans) (x0 : Int) (x1 : (List (Int × (Int × (Int × ((List Int) × ((List Bool) × (List Int)))))))) (x2 : (List (Int × (Int × (Int × ((List Int) × ((List Bool) × (List Int)))))))) (x3 : Int) (x4 : Int) (x5 : (List Int)) (x6 : (List Int)) : evalCode tab (Gg18 f64 f65 f66 f67 f68) (J18_2 fuel) kp18 fuel (bodyOf 2 Try.f18) (T18_2 (x0, x1, x2, x3, x4, x5, x6)) (lc kp18 19 2 R K) = (fun (c : (Int × (List (Int × (Int × (Int × ((List Int) × ((List Bool) × (List Int))))))) × (List (Int × (Int × (Int × ((List Int) × ((List Bool) × (List Int))))))) × Int × Int × (List Int) × (List Int)) → Option Ans) (B : ((List (Int × (Int × (Int × ((List Int) × ((List Bool) × (List Int))))))) × (List Int) × (List Int) → Option Ans)) => match B with
  | b =>
   bif Decidable.decide (x4 < x3) then
      bif Decidable.decide ((0 : Int) ≤ x4 ∧ x4 < (↑x2.length : Int)) then
      (f68 ((x2.getD x4.toNat ((0 : Int), (0 : Int), (0 : Int), [], [], [])).fst) ((x2.getD x4.toNat ((0 : Int), (0 : Int), (0 : Int), [], [], [])).snd.fst) ((x2.getD x4.toNat ((0 : Int), (0 : Int), (0 : Int), [], [], [])).snd.snd.fst) ((x2.getD x4.toNat ((0 : Int), (0 : Int), (0 : Int), [], [], [])).snd.snd.snd.fst) ((x2.getD x4.toNat ((0 : Int), (0 : Int), (0 : Int), [], [], [])).snd.snd.snd.snd.fst) ((x2.getD x4.toNat ((0 : Int), (0 : Int), (0 : Int), [], [], [])).snd.snd.snd.snd.snd)
         (fun (y4_0, y4_1) =>
           bif Decidable.decide ((x5.length + y4_1.length) * (1 : Nat) ≤ (140737488355328 : Nat) ∧ x5.length + y4_1.length ≤ (140737488355328 : Nat)) then
           bif x0 == (1 : Int) then
             bif Decidable.decide ((x6.length + List.length (x2.getD x4.toNat ((0 : Int), (0 : Int), (0 : Int), [], [], [])).snd.snd.snd.snd.snd) * (1 : Nat) ≤ (140737488355328 : Nat) ∧ x6.length + List.length (x2.getD x4.toNat ((0 : Int), (0 : Int), (0 : Int), [], [], [])).snd.snd.snd.snd.snd ≤ (140737488355328 : Nat)) then
             c (x0, x1, x2, x3, Go.IntKind.i64.wrap (x4 + (1 : Int)), x5 ++ y4_1, x6 ++ (x2.getD x4.toNat ((0 : Int), (0 : Int), (0 : Int), [], [], [])).snd.snd.snd.snd.snd)
             else none
            else
             bif Decidable.decide (((x5 ++ y4_1).length + List.length (x2.getD x4.toNat ((0 : Int), (0 : Int), (0 : Int), [], [], [])).snd.snd.snd.snd.snd) * (1 : Nat) ≤ (140737488355328 : Nat) ∧ (x5 ++ y4_1).length + List.length (x2.getD x4.toNat ((0 : Int), (0 : Int), (0 : Int), [], [], [])).snd.snd.snd.snd.snd ≤ (140737488355328 : Nat)) then
             c (x0, x1, x2, x3, Go.IntKind.i64.wrap (x4 + (1 : Int)), x5 ++ y4_1 ++ (x2.getD x4.toNat ((0 : Int), (0 : Int), (0 : Int), [], [], [])).snd.snd.snd.snd.snd, x6)
             else none
           else none))
      else none
     else
      b (x1, x5, x6)) (fun v => R (T18_2 v)) (E18_2 K) := by
  kernel_rfl
theorem S18_2_ok (fuel : Nat) (R : Ev.St → Option Ans) (K : Ev.Ex → Ev.St → Option Ans) (x0 : Int) (x1 : (List (Int × (Int × (Int × ((List Int) × ((List Bool) × (List Int)))))))) (x2 : (List (Int × (Int × (Int × ((List Int) × ((List Bool) × (List Int)))))))) (x3 : Int) (x4 : Int) (x5 : (List Int)) (x6 : (List Int)) : evalCode tab (G18 fuel) (J18_2 fuel) kp18 fuel (bodyOf 2 Try.f18) (T18_2 (x0, x1, x2, x3, x4, x5, x6)) (lc kp18 19 2 R K) = S_ref14_Write_2 fuel (x0, x1, x2, x3, x4, x5, x6) (fun v => R (T18_2 v)) (E18_2 K) :=
  S18_2_okg fuel (F_ref12_Valid fuel) (F_ref12_InOrder fuel) (F_ref14_ends fuel) (F_ref14_lead fuel) (F_ref12_Header fuel) R K x0 x1 x2 x3 x4 x5 x6
noncomputable def B18_2 (fuel : Nat) : Ev.Blk := fun st K => match canonO (kp18 19) st with
  | some s => (match s with
    | ⟨[(q0, .c (.int .i64 x0)), (q1, .c (.sl (.pair (.int .i64) (.pair (.int .i64) (.pair (.int .i64) (.pair (.sl (.int .i64)) (.pair (.sl .bool) (.sl (.int .u8))))))) x1)), (q2, .c (.own q3)), (q4, .c (.own q5)), (q6, .c (.sl (.pair (.int .i64) (.pair (.int .i64) (.pair (.int .i64) (.pair (.sl (.int .i64)) (.pair (.sl .bool) (.sl (.int .u8))))))) x2)), (q7, .c (.int .i64 x3)), (q8, .c (.int .i64 x4))], [(q9, .vec q10 (.int .u8) x5 true), (q11, .vec q12 (.int .u8) x6 true)], q13, q14⟩ => bif Nat.beq q0 0 && Nat.beq q1 1 && Nat.beq q2 10 && Nat.beq q3 0 && Nat.beq q4 11 && Nat.beq q5 1 && Nat.beq q6 47 && Nat.beq q7 48 && Nat.beq q8 49 && Nat.beq q9 0 && Nat.beq q10 5 && Nat.beq q11 1 && Nat.beq q12 5 && Nat.beq q13 2 && Nat.beq q14 0 then iter (S_ref14_Write_2 fuel) fuel (x0, x1, x2, x3, x4, x5, x6) (E18_2 K) else none
    | _ => none)
  | none => none
theorem B18_2_ok (fuel : Nat) (st : Ev.St) (K : Ev.Ex → Ev.St → Option Ans) (r : Ans) (h : B18_2 fuel st K = some r) : evalCode tab (G18 fuel) (J18_2 fuel) kp18 fuel (.block 2 (.loop (bodyOf 2 Try.f18))) st K = some r := by
  unfold B18_2 at h
  split at h
  · rename_i s hs
    split at h
    · skip
      obtain ⟨hb, h⟩ := cond_some' h
      simp only [Bool.and_eq_true, Nat.beq_eq, decide_eq_true_eq] at hb
      obtain ⟨⟨⟨⟨⟨⟨⟨⟨⟨⟨⟨⟨⟨⟨rfl, rfl⟩, rfl⟩, rfl⟩, rfl⟩, rfl⟩, rfl⟩, rfl⟩, rfl⟩, rfl⟩, rfl⟩, rfl⟩, rfl⟩, rfl⟩, rfl⟩ := hb
      exact blk_loop (S := T18_2) (ks := E18_2) (step := S_ref14_Write_2 fuel) (v := (_, _, _, _, _, _, _)) (by kernel_rfl) (by kernel_rfl) (fun R K v => by obtain ⟨x0, x1, x2, x3, x4, x5, x6⟩ := v; exact S18_2_ok fuel R K x0 x1 x2 x3 x4 x5 x6) hs h
    · cases h
  · cases h
noncomputable def J18 (fuel : Nat) (i : Nat) : Option Ev.Blk := Ev.look i [(100000, B18_0 fuel), (100002, B18_2 fuel)]
noncomputable def F_ref14_Write (fuel : Nat) (x0 : Int) (x1 : (List (Int × Int × Int × (List Int) × (List Bool) × (List Int)))) (k0 : (Int × (List Int)) → Option Ans) : Option Ans :=
  bif Decidable.decide (x0 < (0 : Int)) then
   k0 ((2 : Int), [])
  else
   bif Decidable.decide (x0 > (2 : Int)) then
    k0 ((2 : Int), [])
   else
    (L_ref14_Write_0 fuel (x0, x1, x1, (↑x1.length : Int), (0 : Int))
      (fun (ret0_0, ret0_1) =>
        k0 (ret0_0, ret0_1))
      (fun (b0_0, b0_1) =>
        (F_ref12_InOrder fuel (b0_1)
          (fun (y8_0, y8_1) =>
            bif y8_1 != (0 : Int) then
             k0 ((40 : Int), [])
            else
             (F_ref14_ends fuel (b0_0) (b0_1)
               (fun y13 =>
                 bif !y13 then
                  k0 ((60 : Int), [])
                 else
                  (F_ref14_lead fuel (b0_0)
                    (fun y18 =>
                      bif b0_0 == (2 : Int) then
                       (L_ref14_Write_2 fuel (b0_0, b0_1, b0_1, (↑b0_1.length : Int), (0 : Int), [], [])
                         (fun (b2_0, b2_1, b2_2) =>
                           bif Decidable.decide ((b2_1.length + b2_2.length) * (1 : Nat) ≤ (140737488355328 : Nat) ∧ b2_1.length + b2_2.length ≤ (140737488355328 : Nat)) then
                           bif Decidable.decide ((↑(b2_1 ++ b2_2).length : Int) > (40000 : Int)) then
                             k0 ((4 : Int), [])
                            else
                             bif Decidable.decide ((↑b2_0.length : Int) > (100 : Int)) then
                              k0 ((4 : Int), [])
                             else
                              k0 ((0 : Int), b2_1 ++ b2_2)
                           else none))
                      else
                       (L_ref14_Write_2 fuel (b0_0, b0_1, b0_1, (↑b0_1.length : Int), (0 : Int), y18, [])
                         (fun (b2_0, b2_1, b2_2) =>
                           bif Decidable.decide ((b2_1.length + b2_2.length) * (1 : Nat) ≤ (140737488355328 : Nat) ∧ b2_1.length + b2_2.length ≤ (140737488355328 : Nat)) then
                           bif Decidable.decide ((↑(b2_1 ++ b2_2).length : Int) > (40000 : Int)) then
                             k0 ((4 : Int), [])
                            else
                             bif Decidable.decide ((↑b2_0.length : Int) > (100 : Int)) then
                              k0 ((4 : Int), [])
                             else
                              k0 ((0 : Int), b2_1 ++ b2_2)
                           else none))))))))))
abbrev YF18 : Type := (Int) → ((List (Int × Int × Int × (List Int) × (List Bool) × (List Int)))) → ((Int × (List Int)) → Option Ans) → Option Ans
theorem F18_eqg (fuel : Nat) (f64 : YF64) (f65 : YF65) (f66 : YF66) (f67 : YF67) (f68 : YF68) (x0 : Int) (x1 : (List (Int × Int × Int × (List Int) × (List Bool) × (List Int)))) (k : Ev.Cont) : evalFn tab (Gg18 f64 f65 f66 f67 f68) (J18 fuel) kp18 fuel Try.f18 [.c (.int .i64 x0), .c (.sl (.pair (.int .i64) (.pair (.int .i64) (.pair (.int .i64) (.pair (.sl (.int .i64)) (.pair (.sl .bool) (.sl (.int .u8))))))) x1)] [] k = (fun  (k0 : (Int × (List Int)) → Option Ans) =>
  bif Decidable.decide (x0 < (0 : Int)) then
   k0 ((2 : Int), [])
  else
   bif Decidable.decide (x0 > (2 : Int)) then
    k0 ((2 : Int), [])
   else
    (L_ref14_Write_0 fuel (x0, x1, x1, (↑x1.length : Int), (0 : Int))
      (fun (ret0_0, ret0_1) =>
        k0 (ret0_0, ret0_1))
      (fun (b0_0, b0_1) =>
        (f65 (b0_1)
          (fun (y8_0, y8_1) =>
            bif y8_1 != (0 : Int) then
             k0 ((40 : Int), [])
            else
             (f66 (b0_0) (b0_1)
               (fun y13 =>
                 bif !y13 then
                  k0 ((60 : Int), [])
                 else
                  (f67 (b0_0)
                    (fun y18 =>
                      bif b0_0 == (2 : Int) then
                       (L_ref14_Write_2 fuel (b0_0, b0_1, b0_1, (↑b0_1.length : Int), (0 : Int), [], [])
                         (fun (b2_0, b2_1, b2_2) =>
                           bif Decidable.decide ((b2_1.length + b2_2.length) * (1 : Nat) ≤ (140737488355328 : Nat) ∧ b2_1.length + b2_2.length ≤ (140737488355328 : Nat)) then
                           bif Decidable.decide ((↑(b2_1 ++ b2_2).length : Int) > (40000 : Int)) then
                             k0 ((4 : Int), [])
                            else
                             bif Decidable.decide ((↑b2_0.length : Int) > (100 : Int)) then
                              k0 ((4 : Int), [])
                             else
                              k0 ((0 : Int), b2_1 ++ b2_2)
                           else none))
                      else
                       (L_ref14_Write_2 fuel (b0_0, b0_1, b0_1, (↑b0_1.length : Int), (0 : Int), y18, [])
                         (fun (b2_0, b2_1, b2_2) =>
                           bif Decidable.decide ((b2_1.length + b2_2.length) * (1 : Nat) ≤ (140737488355328 : Nat) ∧ b2_1.length + b2_2.length ≤ (140737488355328 : Nat)) then
                           bif Decidable.decide ((↑(b2_1 ++ b2_2).length : Int) > (40000 : Int)) then
                             k0 ((4 : Int), [])
                            else
                             bif Decidable.decide ((↑b2_0.length : Int) > (100 : Int)) then
                              k0 ((4 : Int), [])
                             else
                              k0 ((0 : Int), b2_1 ++ b2_2)
                           else none))))))))))) (fun r => match r with | (r0, r1) => k (.tup [(false, [.own 0]), (false, [.int .i64 r0])], [.vec 5 (.int .u8) r1 true])) := by
  kernel_rfl
theorem F18_eq (fuel : Nat) (x0 : Int) (x1 : (List (Int × Int × Int × (List Int) × (List Bool) × (List Int)))) (k : Ev.Cont) : evalFn tab (G18 fuel) (J18 fuel) kp18 fuel Try.f18 [.c (.int .i64 x0), .c (.sl (.pair (.int .i64) (.pair (.int .i64) (.pair (.int .i64) (.pair (.sl (.int .i64)) (.pair (.sl .bool) (.sl (.int .u8))))))) x1)] [] k = F_ref14_Write fuel x0 x1 (fun r => match r with | (r0, r1) => k (.tup [(false, [.own 0]), (false, [.int .i64 r0])], [.vec 5 (.int .u8) r1 true])) :=
  F18_eqg fuel (F_ref12_Valid fuel) (F_ref12_InOrder fuel) (F_ref14_ends fuel) (F_ref14_lead fuel) (F_ref12_Header fuel) x0 x1 k
theorem hG18 (fuel : Nat) : GOK Try.prog (G18 fuel) :=
  gok_cons ⟨ok64 fuel, enters_of Try.func64 (by kernel_rfl) rfl⟩ <|
  gok_cons ⟨ok65 fuel, enters_of Try.func65 (by kernel_rfl) rfl⟩ <|
  gok_cons ⟨ok66 fuel, enters_of Try.func66 (by kernel_rfl) rfl⟩ <|
  gok_cons ⟨ok67 fuel, enters_of Try.func67 (by kernel_rfl) rfl⟩ <|
  gok_cons ⟨ok68 fuel, enters_of Try.func68 (by kernel_rfl) rfl⟩ <|
  gok_nil
theorem B18_0_blk (fuel : Nat) : BlkOK Try.prog Try.f18.ntmps (.block 0 (.loop (bodyOf 0 Try.f18))) (B18_0 fuel) :=
  blk_of (blk_of_code tab_ok (hG18 fuel) mixed (J := J18_0 fuel) (kp := kp18) (fuel := fuel) (by kernel_rfl) (fun q hq => by
    rw [(by kernel_rfl : obl (J18_0 fuel) (.block 0 (.loop (bodyOf 0 Try.f18))) = [])] at hq
    cases hq)) (B18_0_ok fuel)
theorem B18_2_blk (fuel : Nat) : BlkOK Try.prog Try.f18.ntmps (.block 2 (.loop (bodyOf 2 Try.f18))) (B18_2 fuel) :=
  blk_of (blk_of_code tab_ok (hG18 fuel) mixed (J := J18_2 fuel) (kp := kp18) (fuel := fuel) (by kernel_rfl) (fun q hq => by
    rw [(by kernel_rfl : obl (J18_2 fuel) (.block 2 (.loop (bodyOf 2 Try.f18))) = [])] at hq
    cases hq)) (B18_2_ok fuel)
theorem fok18 (fuel : Nat) : FnOK Try.prog 18 (evalFn tab (G18 fuel) (J18 fuel) kp18 fuel Try.f18) :=
  fn_ok tab_ok (hG18 fuel) mixed Try.func18 (c := (Try.f18.body).getD .skip) rfl (fun q hq => by
    rw [(by kernel_rfl : obl (J18 fuel) ((Try.f18.body).getD .skip) = [(.block 0 (.loop (bodyOf 0 Try.f18)), B18_0 fuel), (.block 2 (.loop (bodyOf 2 Try.f18)), B18_2 fuel)])] at hq
    simp only [List.mem_cons, List.not_mem_nil, or_false] at hq
    rcases hq with rfl | rfl
    · exact B18_0_blk fuel
    · exact B18_2_blk fuel)
noncomputable def mt18 : List Ev.SV → List Ev.Ob → Bool := fun args objs => match args, objs with
  | [.c (.int .i64 _), .c (.sl (.pair (.int .i64) (.pair (.int .i64) (.pair (.int .i64) (.pair (.sl (.int .i64)) (.pair (.sl .bool) (.sl (.int .u8))))))) _)], [] => true
  | _, _ => false
noncomputable def spg18 (F : YF18) : Ev.Spec := fun args objs k => match args, objs with
  | [.c (.int .i64 x0), .c (.sl (.pair (.int .i64) (.pair (.int .i64) (.pair (.int .i64) (.pair (.sl (.int .i64)) (.pair (.sl .bool) (.sl (.int .u8))))))) x1)], [] => bif true then F x0 x1 (fun r => match r with | (r0, r1) => k (.tup [(false, [.own 0]), (false, [.int .i64 r0])], [.vec 5 (.int .u8) r1 true])) else none
  | _, _ => none
noncomputable def spec18 (fuel : Nat) : Ev.Spec := spg18 (F_ref14_Write fuel)
theorem ok18 (fuel : Nat) : FnOK Try.prog 18 (spec18 fuel) := by
  intro args objs kk r h
  unfold spec18 spg18 at h
  split at h
  · skip
    obtain ⟨hb, h⟩ := cond_some' h
    simp only [Bool.and_eq_true, Nat.beq_eq, decide_eq_true_eq] at hb
    clear hb
    exact fok18 fuel _ _ kk r ((F18_eq fuel _ _ kk).trans h)
  · cases h
end Go.Proofs.Ytihfgpfofmjbaaa

set_option linter.unusedVariables false
set_option linter.unusedSimpArgs false
set_option maxRecDepth 100000
set_option maxHeartbeats 2000000
namespace Go.Proofs.Ytihfgpfofmjbaaa
open Go Ev
def kp15 (i : Nat) : Option (List Nat) := Ev.look i [(3, [0, 3, 6, 7, 8]), (100000, [0, 3]), (400000, [2])]
noncomputable def Gg15 (f : Nat) : Option Ev.Spec := Ev.look f []
noncomputable def G15 (fuel : Nat) : Nat → Option Ev.Spec := Gg15
noncomputable def S_law14_large_0 (fuel : Nat) (v : (List (Int × (Int × (Int × ((List Int) × ((List Bool) × (List Int))))))) × Int × (List (Int × (Int × (Int × ((List Int) × ((List Bool) × (List Int))))))) × Int × Int) (c : ((List (Int × (Int × (Int × ((List Int) × ((List Bool) × (List Int))))))) × Int × (List (Int × (Int × (Int × ((List Int) × ((List Bool) × (List Int))))))) × Int × Int) → Option Ans) (B : ((List (Int × (Int × (Int × ((List Int) × ((List Bool) × (List Int))))))) × Int → Option Ans)) : Option Ans := match v, B with
  | (x0, x1, x2, x3, x4), b =>
   bif Decidable.decide (x4 < x3) then
      bif Decidable.decide ((0 : Int) ≤ x4 ∧ x4 < (↑x2.length : Int)) then
      c (x0, Go.IntKind.i64.wrap (x1 + Go.IntKind.i64.wrap ((↑(List.length (x2.getD x4.toNat ((0 : Int), (0 : Int), (0 : Int), [], [], [])).snd.snd.snd.snd.snd) : Int) + (↑(List.length (x2.getD x4.toNat ((0 : Int), (0 : Int), (0 : Int), [], [], [])).snd.snd.snd.fst) : Int))), x2, x3, Go.IntKind.i64.wrap (x4 + (1 : Int)))
      else none
     else
      b (x0, x1)
noncomputable def L_law14_large_0 (fuel : Nat) (v : (List (Int × (Int × (Int × ((List Int) × ((List Bool) × (List Int))))))) × Int × (List (Int × (Int × (Int × ((List Int) × ((List Bool) × (List Int))))))) × Int × Int) (b : ((List (Int × (Int × (Int × ((List Int) × ((List Bool) × (List Int))))))) × Int → Option Ans)) : Option Ans := iter (S_law14_large_0 fuel) fuel v b
noncomputable def J15_0 (fuel : Nat) (i : Nat) : Option Ev.Blk := Ev.look i []
noncomputable def T15_0 (v : (List (Int × (Int × (Int × ((List Int) × ((List Bool) × (List Int))))))) × Int × (List (Int × (Int × (Int × ((List Int) × ((List Bool) × (List Int))))))) × Int × Int) : Ev.St := match v with | (x0, x1, x2, x3, x4) => ⟨[(0, .c (.sl (.pair (.int .i64) (.pair (.int .i64) (.pair (.int .i64) (.pair (.sl (.int .i64)) (.pair (.sl .bool) (.sl (.int .u8))))))) x0)), (3, .c (.int .i64 x1)), (6, .c (.sl (.pair (.int .i64) (.pair (.int .i64) (.pair (.int .i64) (.pair (.sl (.int .i64)) (.pair (.sl .bool) (.sl (.int .u8))))))) x2)), (7, .c (.int .i64 x3)), (8, .c (.int .i64 x4))], [], 0, 0⟩
noncomputable def E15_0 (K : Ev.Ex → Ev.St → Option Ans) : ((List (Int × (Int × (Int × ((List Int) × ((List Bool) × (List Int))))))) × Int → Option Ans) := (fun v => match v with | (x0, x1) => K .normal ⟨[(0, .c (.sl (.pair (.int .i64) (.pair (.int .i64) (.pair (.int .i64) (.pair (.sl (.int .i64)) (.pair (.sl .bool) (.sl (.int .u8))))))) x0)), (3, .c (.int .i64 x1))], [], 0, 0⟩)
theorem S15_0_ok (fuel : Nat) (R : Ev.St → Option Ans) (K : Ev.Ex → Ev.St → Option Ans) (x0 : (List (Int × (Int × (Int × ((List Int) × ((List Bool) × (List Int)))))))) (x1 : Int) (x2 : (List (Int × (Int × (Int × ((List Int) × ((List Bool) × (List Int)))))))) (x3 : Int) (x4 : Int) : evalCode tab (G15 fuel) (J15_0 fuel) kp15 fuel (bodyOf 0 Try.f15) (T15_0 (x0, x1, x2, x3, x4)) (lc kp15 3 0 R K) = S_law14_large_0 fuel (x0, x1, x2, x3, x4) (fun v => R (T15_0 v)) (E15_0 K) := by
  kernel_rfl
noncomputable def B15_0 (fuel : Nat) : Ev.Blk := fun st K => match canonO (kp15 3) st with
  | some s => (match s with
    | ⟨[(q0, .c (.sl (.pair (.int .i64) (.pair (.int .i64) (.pair (.int .i64) (.pair (.sl (.int .i64)) (.pair (.sl .bool) (.sl (.int .u8))))))) x0)), (q1, .c (.int .i64 x1)), (q2, .c (.sl (.pair (.int .i64) (.pair (.int .i64) (.pair (.int .i64) (.pair (.sl (.int .i64)) (.pair (.sl .bool) (.sl (.int .u8))))))) x2)), (q3, .c (.int .i64 x3)), (q4, .c (.int .i64 x4))], [], q5, q6⟩ => bif Nat.beq q0 0 && Nat.beq q1 3 && Nat.beq q2 6 && Nat.beq q3 7 && Nat.beq q4 8 && Nat.beq q5 0 && Nat.beq q6 0 then iter (S_law14_large_0 fuel) fuel (x0, x1, x2, x3, x4) (E15_0 K) else none
    | _ => none)
  | none => none
theorem B15_0_ok (fuel : Nat) (st : Ev.St) (K : Ev.Ex → Ev.St → Option Ans) (r : Ans) (h : B15_0 fuel st K = some r) : evalCode tab (G15 fuel) (J15_0 fuel) kp15 fuel (.block 0 (.loop (bodyOf 0 Try.f15))) st K = some r := by
  unfold B15_0 at h
  split at h
  · rename_i s hs
    split at h
    · skip
      obtain ⟨hb, h⟩ := cond_some' h
      simp only [Bool.and_eq_true, Nat.beq_eq, decide_eq_true_eq] at hb
      obtain ⟨⟨⟨⟨⟨⟨rfl, rfl⟩, rfl⟩, rfl⟩, rfl⟩, rfl⟩, rfl⟩ := hb
      exact blk_loop (S := T15_0) (ks := E15_0) (step := S_law14_large_0 fuel) (v := (_, _, _, _, _)) (by kernel_rfl) (by kernel_rfl) (fun R K v => by obtain ⟨x0, x1, x2, x3, x4⟩ := v; exact S15_0_ok fuel R K x0 x1 x2 x3 x4) hs h
    · cases h
  · cases h
noncomputable def J15 (fuel : Nat) (i : Nat) : Option Ev.Blk := Ev.look i [(100000, B15_0 fuel)]
noncomputable def F_law14_large (fuel : Nat) (x0 : (List (Int × Int × Int × (List Int) × (List Bool) × (List Int)))) (k0 : (Bool) → Option Ans) : Option Ans :=
  (L_law14_large_0 fuel (x0, (0 : Int), x0, (↑x0.length : Int), (0 : Int))
    (fun (b0_0, b0_1) =>
      bif Decidable.decide ((↑b0_0.length : Int) > (300 : Int)) then
       k0 Bool.true
      else
       k0 (Decidable.decide (b0_1 > (100000 : Int)))))
abbrev YF15 : Type := ((List (Int × Int × Int × (List Int) × (List Bool) × (List Int)))) → ((Bool) → Option Ans) → Option Ans
theorem F15_eq (fuel : Nat) (x0 : (List (Int × Int × Int × (List Int) × (List Bool) × (List Int)))) (k : Ev.Cont) : evalFn tab (G15 fuel) (J15 fuel) kp15 fuel Try.f15 [.c (.sl (.pair (.int .i64) (.pair (.int .i64) (.pair (.int .i64) (.pair (.sl (.int .i64)) (.pair (.sl .bool) (.sl (.int .u8))))))) x0)] [] k = F_law14_large fuel x0 (fun r => match r with | r0 => k (.c (.bool r0), [])) := by
  kernel_rfl
theorem hG15 (fuel : Nat) : GOK Try.prog (G15 fuel) :=
  gok_nil
theorem B15_0_blk (fuel : Nat) : BlkOK Try.prog Try.f15.ntmps (.block 0 (.loop (bodyOf 0 Try.f15))) (B15_0 fuel) :=
  blk_of (blk_of_code tab_ok (hG15 fuel) mixed (J := J15_0 fuel) (kp := kp15) (fuel := fuel) (by kernel_rfl) (fun q hq => by
    rw [(by kernel_rfl : obl (J15_0 fuel) (.block 0 (.loop (bodyOf 0 Try.f15))) = [])] at hq
    cases hq)) (B15_0_ok fuel)
theorem fok15 (fuel : Nat) : FnOK Try.prog 15 (evalFn tab (G15 fuel) (J15 fuel) kp15 fuel Try.f15) :=
  fn_ok tab_ok (hG15 fuel) mixed Try.func15 (c := (Try.f15.body).getD .skip) rfl (fun q hq => by
    rw [(by kernel_rfl : obl (J15 fuel) ((Try.f15.body).getD .skip) = [(.block 0 (.loop (bodyOf 0 Try.f15)), B15_0 fuel)])] at hq
    simp only [List.mem_cons, List.not_mem_nil, or_false] at hq
    subst hq
    · exact B15_0_blk fuel)
noncomputable def mt15 : List Ev.SV → List Ev.Ob → Bool := fun args objs => match args, objs with
  | [.c (.sl (.pair (.int .i64) (.pair (.int .i64) (.pair (.int .i64) (.pair (.sl (.int .i64)) (.pair (.sl .bool) (.sl (.int .u8))))))) _)], [] => true
  | _, _ => false
noncomputable def spg15 (F : YF15) : Ev.Spec := fun args objs k => match args, objs with
  | [.c (.sl (.pair (.int .i64) (.pair (.int .i64) (.pair (.int .i64) (.pair (.sl (.int .i64)) (.pair (.sl .bool) (.sl (.int .u8))))))) x0)], [] => bif true then F x0 (fun r => match r with | r0 => k (.c (.bool r0), [])) else none
  | _, _ => none
noncomputable def spec15 (fuel : Nat) : Ev.Spec := spg15 (F_law14_large fuel)
theorem ok15 (fuel : Nat) : FnOK Try.prog 15 (spec15 fuel) := by
  intro args objs kk r h
  unfold spec15 spg15 at h
  split at h
  · skip
    obtain ⟨hb, h⟩ := cond_some' h
    simp only [Bool.and_eq_true, Nat.beq_eq, decide_eq_true_eq] at hb
    clear hb
    exact fok15 fuel _ _ kk r ((F15_eq fuel _ kk).trans h)
  · cases h
end Go.Proofs.Ytihfgpfofmjbaaa

