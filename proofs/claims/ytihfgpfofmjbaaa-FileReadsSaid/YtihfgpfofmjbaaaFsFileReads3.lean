/- What the functions that FileReads reaches do: their typed texts, each with the proof that the machine does it. No condition. -/
import Derived.Test.YtihfgpfofmjbaaaEvX
import Derived.Test.YtihfgpfofmjbaaaFsFileReads2
import Derived.Test.YtihfgpfofmjbaaaFsFileReads1
set_option linter.unusedVariables false
set_option linter.unusedSimpArgs false
set_option linter.unusedVariables false
set_option linter.unusedSimpArgs false
set_option maxRecDepth 100000
set_option maxHeartbeats 2000000
namespace Go.Proofs.Ytihfgpfofmjbaaa
open Go Ev
def kp217 (i : Nat) : Option (List Nat) := Ev.look i [(9, [0, 1, 2, 9, 11, 12, 13]), (100000, [1, 11]), (400000, [6, 7, 8])]
noncomputable def Gg217 (f216 : YF216) (f : Nat) : Option Ev.Spec := Ev.look f [(216, spg216 f216)]
noncomputable def G217 (fuel : Nat) : Nat → Option Ev.Spec := Gg217 (F_ref12_number fuel)
noncomputable def Sg_ref12_refs_0 (fuel : Nat) (f216 : YF216) (x0 : (List Int)) (x1 x2 : Int) (x3 x4 x5 : Int) (x6 : (List Int)) (c : ((List Int) × Int × Int × Int × Int × Int × (List Int)) → Option Ans) (B : (Int × Int × (List Int) → Option Ans) × (Int × (List Int) → Option Ans)) : Option Ans := match B with
 | (ret, b) =>
  bif decide (x5 < x3) then
  (f216 (x0) (x1) (x2)
  (fun (y3_0, y3_1, y3_2) =>
  bif y3_2 != (0 : Int) then
  ret ((0 : Int), y3_2, [])
  else
  bif y3_0 == (0 : Int) then
  ret ((0 : Int), (3 : Int), [])
  else
  bif decide (y3_0 ≥ x4) then
  ret ((0 : Int), (3 : Int), [])
  else
  bif decide ((x6.length + [IntKind.i64.wrap (x2 - y3_0)].length) * (8 : Nat) ≤ (140737488355328 : Nat) ∧ x6.length + [IntKind.i64.wrap (x2 - y3_0)].length ≤ (140737488355328 : Nat)) then
  c (x0, y3_1, x2, x3, y3_0, IntKind.i64.wrap (x5 + (1 : Int)), x6 ++ [IntKind.i64.wrap (x2 - y3_0)])
  else none))
  else
  b (x1, x6)
noncomputable def S_ref12_refs_0 (fuel : Nat) (v : (List Int) × Int × Int × Int × Int × Int × (List Int)) (c : ((List Int) × Int × Int × Int × Int × Int × (List Int)) → Option Ans) (B : (Int × Int × (List Int) → Option Ans) × (Int × (List Int) → Option Ans)) : Option Ans := match v with
 | (x0, x1, x2, x3, x4, x5, x6) => Sg_ref12_refs_0 fuel (F_ref12_number fuel) x0 x1 x2 x3 x4 x5 x6 c B
noncomputable def L_ref12_refs_0 (fuel : Nat) (v : (List Int) × Int × Int × Int × Int × Int × (List Int)) (ret : (Int × Int × (List Int) → Option Ans)) (b : (Int × (List Int) → Option Ans)) : Option Ans := iter (S_ref12_refs_0 fuel) fuel v (ret, b)
noncomputable def J217_0 (fuel : Nat) (i : Nat) : Option Ev.Blk := Ev.look i []
noncomputable def T217_0 (v : (List Int) × Int × Int × Int × Int × Int × (List Int)) : Ev.St := match v with | (x0, x1, x2, x3, x4, x5, x6) => ⟨[(0, .c (.sl (.int .u8) x0)), (1, .c (.int .i64 x1)), (2, .c (.int .i64 x2)), (9, .c (.int .i64 x3)), (11, .c (.own 0)), (12, .c (.int .i64 x4)), (13, .c (.int .i64 x5))], [(0, .vec 3 (.int .i64) x6 true)], 1, 0⟩
noncomputable def E217_0 (K : Ev.Ex → Ev.St → Option Ans) : (Int × Int × (List Int) → Option Ans) × (Int × (List Int) → Option Ans) := ((fun v => match v with | (x0, x1, x2) => K .ret ⟨[(6, .c (.own 0)), (7, .c (.int .i64 x0)), (8, .c (.int .i64 x1))], [(0, .vec 3 (.int .i64) x2 true)], 1, 0⟩), (fun v => match v with | (x0, x1) => K .normal ⟨[(1, .c (.int .i64 x0)), (11, .c (.own 0))], [(0, .vec 3 (.int .i64) x1 true)], 1, 0⟩))
theorem S217_0_okg (fuel : Nat) (f216 : YF216) (R : Ev.St → Option Ans) (K : Ev.Ex → Ev.St → Option Ans) (x0 : (List Int)) (x1 x2 : Int) (x3 x4 x5 : Int) (x6 : (List Int)) : evalCode tab (Gg217 f216) (J217_0 fuel) kp217 fuel (bodyOf 0 Try.f217) (T217_0 (x0, x1, x2, x3, x4, x5, x6)) (lc kp217 9 0 R K) = Sg_ref12_refs_0 fuel f216 x0 x1 x2 x3 x4 x5 x6 (fun v => R (T217_0 v)) (E217_0 K) := by
  kernel_rfl
theorem S217_0_ok (fuel : Nat) (R : Ev.St → Option Ans) (K : Ev.Ex → Ev.St → Option Ans) (x0 : (List Int)) (x1 x2 : Int) (x3 x4 x5 : Int) (x6 : (List Int)) : evalCode tab (G217 fuel) (J217_0 fuel) kp217 fuel (bodyOf 0 Try.f217) (T217_0 (x0, x1, x2, x3, x4, x5, x6)) (lc kp217 9 0 R K) = S_ref12_refs_0 fuel (x0, x1, x2, x3, x4, x5, x6) (fun v => R (T217_0 v)) (E217_0 K) :=
  S217_0_okg fuel (F_ref12_number fuel) R K x0 x1 x2 x3 x4 x5 x6
noncomputable def B217_0 (fuel : Nat) : Ev.Blk := fun st K => match canonO (kp217 9) st with
 | some s => (match s with
 | ⟨[(q0, .c (.sl (.int .u8) x0)), (q1, .c (.int .i64 x1)), (q2, .c (.int .i64 x2)), (q3, .c (.int .i64 x3)), (q4, .c (.own q5)), (q6, .c (.int .i64 x4)), (q7, .c (.int .i64 x5))], [(q8, .vec q9 (.int .i64) x6 true)], q10, q11⟩ => bif Nat.beq q0 0 && Nat.beq q1 1 && Nat.beq q2 2 && Nat.beq q3 9 && Nat.beq q4 11 && Nat.beq q5 0 && Nat.beq q6 12 && Nat.beq q7 13 && Nat.beq q8 0 && Nat.beq q9 3 && Nat.beq q10 1 && Nat.beq q11 0 then iter (S_ref12_refs_0 fuel) fuel (x0, x1, x2, x3, x4, x5, x6) (E217_0 K) else none
 | _ => none)
 | none => none
theorem B217_0_ok (fuel : Nat) (st : Ev.St) (K : Ev.Ex → Ev.St → Option Ans) (r : Ans) (h : B217_0 fuel st K = some r) : evalCode tab (G217 fuel) (J217_0 fuel) kp217 fuel (.block 0 (.loop (bodyOf 0 Try.f217))) st K = some r := by
  unfold B217_0 at h
  split at h
  · rename_i s hs
    split at h
    · skip
      obtain ⟨hb, h⟩ := cond_some' h
      simp only [Bool.and_eq_true, Nat.beq_eq, decide_eq_true_eq] at hb
      obtain ⟨⟨⟨⟨⟨⟨⟨⟨⟨⟨⟨rfl, rfl⟩, rfl⟩, rfl⟩, rfl⟩, rfl⟩, rfl⟩, rfl⟩, rfl⟩, rfl⟩, rfl⟩, rfl⟩ := hb
      exact blk_loop (S := T217_0) (ks := E217_0) (step := S_ref12_refs_0 fuel) (v := (_, _, _, _, _, _, _)) (by kernel_rfl) (by kernel_rfl) (fun R K v => by obtain ⟨x0, x1, x2, x3, x4, x5, x6⟩ := v; exact S217_0_ok fuel R K x0 x1 x2 x3 x4 x5 x6) hs h
    · cases h
  · cases h
noncomputable def J217 (fuel : Nat) (i : Nat) : Option Ev.Blk := Ev.look i [(100000, B217_0 fuel)]
noncomputable def Fg_ref12_refs (fuel : Nat) (f216 : YF216) (x0 : (List Int)) (x1 x2 : Int) (k0 : (Int × Int × (List Int)) → Option Ans) : Option Ans :=
  (f216 (x0) (x1) ((20 : Int))
  (fun (y2_0, y2_1, y2_2) =>
  bif y2_2 != (0 : Int) then
  k0 ((0 : Int), y2_2, [])
  else
  bif y2_0 == (0 : Int) then
  k0 ((0 : Int), (3 : Int), [])
  else
  (L_ref12_refs_0 fuel (x0, y2_1, x2, y2_0, IntKind.i64.wrap (x2 + (1 : Int)), (0 : Int), [])
  (fun (ret0_0, ret0_1, ret0_2) =>
  k0 (ret0_0, ret0_1, ret0_2))
  (fun (b0_0, b0_1) =>
  k0 (b0_0, (0 : Int), b0_1)))))
noncomputable def F_ref12_refs (fuel : Nat) (x0 : (List Int)) (x1 x2 : Int) (k0 : (Int × Int × (List Int)) → Option Ans) : Option Ans := Fg_ref12_refs fuel (F_ref12_number fuel) x0 x1 x2 k0
abbrev YF217 : Type := ((List Int)) → (Int) → (Int) → ((Int × Int × (List Int)) → Option Ans) → Option Ans
theorem F217_eqg (fuel : Nat) (f216 : YF216) (x0 : (List Int)) (x1 x2 : Int) (k : Ev.Cont) : evalFn tab (Gg217 f216) (J217 fuel) kp217 fuel Try.f217 [.c (.sl (.int .u8) x0), .c (.int .i64 x1), .c (.int .i64 x2)] [] k = Fg_ref12_refs fuel f216 x0 x1 x2 (fun r => match r with | (r0, r1, r2) => k (.tup [(false, [.own 0]), (false, [.int .i64 r0]), (false, [.int .i64 r1])], [.vec 3 (.int .i64) r2 true])) := by
  kernel_rfl
theorem F217_eq (fuel : Nat) (x0 : (List Int)) (x1 x2 : Int) (k : Ev.Cont) : evalFn tab (G217 fuel) (J217 fuel) kp217 fuel Try.f217 [.c (.sl (.int .u8) x0), .c (.int .i64 x1), .c (.int .i64 x2)] [] k = F_ref12_refs fuel x0 x1 x2 (fun r => match r with | (r0, r1, r2) => k (.tup [(false, [.own 0]), (false, [.int .i64 r0]), (false, [.int .i64 r1])], [.vec 3 (.int .i64) r2 true])) :=
  F217_eqg fuel (F_ref12_number fuel) x0 x1 x2 k
theorem hG217 (fuel : Nat) : GOK Try.prog (G217 fuel) :=
  gok_cons ⟨ok216 fuel, enters_of Try.func216 (by kernel_rfl) rfl⟩ <|
  gok_nil
theorem B217_0_blk (fuel : Nat) : BlkOK Try.prog Try.f217.ntmps (.block 0 (.loop (bodyOf 0 Try.f217))) (B217_0 fuel) :=
  blk_of (blk_of_code tab_ok (hG217 fuel) mixed (J := J217_0 fuel) (kp := kp217) (fuel := fuel) (by kernel_rfl) (fun q hq => by
    rw [(by kernel_rfl : obl (J217_0 fuel) (.block 0 (.loop (bodyOf 0 Try.f217))) = [])] at hq
    cases hq)) (B217_0_ok fuel)
theorem fok217 (fuel : Nat) : FnOK Try.prog 217 (evalFn tab (G217 fuel) (J217 fuel) kp217 fuel Try.f217) :=
  fn_ok tab_ok (hG217 fuel) mixed Try.func217 (c := (Try.f217.body).getD .skip) rfl (fun q hq => by
    rw [(by kernel_rfl : obl (J217 fuel) ((Try.f217.body).getD .skip) = [(.block 0 (.loop (bodyOf 0 Try.f217)), B217_0 fuel)])] at hq
    simp only [List.mem_cons, List.not_mem_nil, or_false] at hq
    subst hq
    · exact B217_0_blk fuel)
noncomputable def mt217 : List Ev.SV → List Ev.Ob → Bool := fun args objs => match args, objs with
 | [.c (.sl (.int .u8) _), .c (.int .i64 _), .c (.int .i64 _)], [] => true
 | _, _ => false
noncomputable def spg217 (F : YF217) : Ev.Spec := fun args objs k => match args, objs with
 | [.c (.sl (.int .u8) x0), .c (.int .i64 x1), .c (.int .i64 x2)], [] => bif true then F x0 x1 x2 (fun r => match r with | (r0, r1, r2) => k (.tup [(false, [.own 0]), (false, [.int .i64 r0]), (false, [.int .i64 r1])], [.vec 3 (.int .i64) r2 true])) else none
 | _, _ => none
noncomputable def spec217 (fuel : Nat) : Ev.Spec := spg217 (F_ref12_refs fuel)
theorem ok217 (fuel : Nat) : FnOK Try.prog 217 (spec217 fuel) := by
  intro args objs kk r h
  unfold spec217 spg217 at h
  split at h
  · skip
    obtain ⟨hb, h⟩ := cond_some' h
    simp only [Bool.and_eq_true, Nat.beq_eq, decide_eq_true_eq] at hb
    clear hb
    exact fok217 fuel _ _ kk r ((F217_eq fuel _ _ _ kk).trans h)
  · cases h
end Go.Proofs.Ytihfgpfofmjbaaa

set_option linter.unusedVariables false
set_option linter.unusedSimpArgs false
set_option maxRecDepth 100000
set_option maxHeartbeats 2000000
namespace Go.Proofs.Ytihfgpfofmjbaaa
open Go Ev
def kp214 (i : Nat) : Option (List Nat) := Ev.look i []
noncomputable def Gg214 (f216 : YF216) (f217 : YF217) (f218 : YF218) (f : Nat) : Option Ev.Spec := Ev.look f [(216, spg216 f216), (217, spg217 f217), (218, spg218 f218)]
noncomputable def G214 (fuel : Nat) : Nat → Option Ev.Spec := Gg214 (F_ref12_number fuel) (F_ref12_refs fuel) (F_ref12_keeps fuel)
noncomputable def J214 (fuel : Nat) (i : Nat) : Option Ev.Blk := Ev.look i []
noncomputable def Fg_ref12_header (fuel : Nat) (f216 : YF216) (f217 : YF217) (f218 : YF218) (x0 : (List Int)) (x1 : Int) (k0 : (Int × Int × Int × Int × Int × Int × (List Int) × (List Bool) × (List Int)) → Option Ans) : Option Ans :=
  (f216 (x0) (x1) ((10000 : Int))
  (fun (y2_0, y2_1, y2_2) =>
  bif y2_2 != (0 : Int) then
  k0 (y2_0, (0 : Int), (0 : Int), (0 : Int), (0 : Int), y2_2, [], [], [])
  else
  bif decide (y2_1 ≥ (↑x0.length : Int)) then
  k0 (y2_0, (0 : Int), (0 : Int), (0 : Int), (0 : Int), (6 : Int), [], [], [])
  else
  bif decide ((0 : Int) ≤ y2_1 ∧ y2_1 < (↑x0.length : Int)) then
  bif decide (IntKind.i64.wrap (x0.getD y2_1.toNat (0 : Int)) > (31 : Int)) then
  k0 (y2_0, (0 : Int), (0 : Int), (0 : Int), (0 : Int), (3 : Int), [], [], [])
  else
  bif decide (IntKind.i64.wrap (x0.getD y2_1.toNat (0 : Int)) ≥ (16 : Int)) then
  (f217 (x0) (IntKind.i64.wrap (y2_1 + (1 : Int))) (y2_0)
  (fun (y11_0, y11_1, y11_2) =>
  bif y11_1 != (0 : Int) then
  k0 (y2_0, (IntKind.i64.wrap (x0.getD y2_1.toNat (0 : Int))).tmod (16 : Int), (0 : Int), (0 : Int), (0 : Int), y11_1, y11_2, [], [])
  else
  (f218 (x0) (y11_0) (IntKind.i64.wrap ((↑y11_2.length : Int) + (1 : Int)))
  (fun (y16_0, y16_1, y16_2) =>
  bif y16_1 != (0 : Int) then
  k0 (y2_0, (IntKind.i64.wrap (x0.getD y2_1.toNat (0 : Int))).tmod (16 : Int), (0 : Int), (0 : Int), (0 : Int), y16_1, y11_2, y16_2, [])
  else
  (f216 (x0) (y16_0) ((1000 : Int))
  (fun (y21_0, y21_1, y21_2) =>
  bif y21_2 != (0 : Int) then
  k0 (y2_0, (IntKind.i64.wrap (x0.getD y2_1.toNat (0 : Int))).tmod (16 : Int), y21_0, (0 : Int), (0 : Int), y21_2, y11_2, y16_2, [])
  else
  (f216 (x0) (y21_1) ((20000 : Int))
  (fun (y26_0, y26_1, y26_2) =>
  k0 (y2_0, (IntKind.i64.wrap (x0.getD y2_1.toNat (0 : Int))).tmod (16 : Int), y21_0, y26_0, y26_1, y26_2, y11_2, y16_2, [])))))))))
  else
  (f218 (x0) (IntKind.i64.wrap (y2_1 + (1 : Int))) (IntKind.i64.wrap ((↑(0 : Nat) : Int) + (1 : Int)))
  (fun (y11_0, y11_1, y11_2) =>
  bif y11_1 != (0 : Int) then
  k0 (y2_0, (IntKind.i64.wrap (x0.getD y2_1.toNat (0 : Int))).tmod (16 : Int), (0 : Int), (0 : Int), (0 : Int), y11_1, [], y11_2, [])
  else
  (f216 (x0) (y11_0) ((1000 : Int))
  (fun (y16_0, y16_1, y16_2) =>
  bif y16_2 != (0 : Int) then
  k0 (y2_0, (IntKind.i64.wrap (x0.getD y2_1.toNat (0 : Int))).tmod (16 : Int), y16_0, (0 : Int), (0 : Int), y16_2, [], y11_2, [])
  else
  (f216 (x0) (y16_1) ((20000 : Int))
  (fun (y21_0, y21_1, y21_2) =>
  k0 (y2_0, (IntKind.i64.wrap (x0.getD y2_1.toNat (0 : Int))).tmod (16 : Int), y16_0, y21_0, y21_1, y21_2, [], y11_2, [])))))))
  else none))
noncomputable def F_ref12_header (fuel : Nat) (x0 : (List Int)) (x1 : Int) (k0 : (Int × Int × Int × Int × Int × Int × (List Int) × (List Bool) × (List Int)) → Option Ans) : Option Ans := Fg_ref12_header fuel (F_ref12_number fuel) (F_ref12_refs fuel) (F_ref12_keeps fuel) x0 x1 k0
abbrev YF214 : Type := ((List Int)) → (Int) → ((Int × Int × Int × Int × Int × Int × (List Int) × (List Bool) × (List Int)) → Option Ans) → Option Ans
theorem F214_eqg (fuel : Nat) (f216 : YF216) (f217 : YF217) (f218 : YF218) (x0 : (List Int)) (x1 : Int) (k : Ev.Cont) : evalFn tab (Gg214 f216 f217 f218) (J214 fuel) kp214 fuel Try.f214 [.c (.sl (.int .u8) x0), .c (.int .i64 x1)] [] k = Fg_ref12_header fuel f216 f217 f218 x0 x1 (fun r => match r with | (r0, r1, r2, r3, r4, r5, r6, r7, r8) => k (.tup [(true, [.int .i64 r0, .int .i64 r1, .int .i64 r2, .own 0, .own 1, .own 2]), (false, [.int .i64 r3]), (false, [.int .i64 r4]), (false, [.int .i64 r5])], [.vec 3 (.int .i64) r6 true, .vec 4 .bool r7 true, .vec 5 (.int .u8) r8 true])) := by
  kernel_rfl
theorem F214_eq (fuel : Nat) (x0 : (List Int)) (x1 : Int) (k : Ev.Cont) : evalFn tab (G214 fuel) (J214 fuel) kp214 fuel Try.f214 [.c (.sl (.int .u8) x0), .c (.int .i64 x1)] [] k = F_ref12_header fuel x0 x1 (fun r => match r with | (r0, r1, r2, r3, r4, r5, r6, r7, r8) => k (.tup [(true, [.int .i64 r0, .int .i64 r1, .int .i64 r2, .own 0, .own 1, .own 2]), (false, [.int .i64 r3]), (false, [.int .i64 r4]), (false, [.int .i64 r5])], [.vec 3 (.int .i64) r6 true, .vec 4 .bool r7 true, .vec 5 (.int .u8) r8 true])) :=
  F214_eqg fuel (F_ref12_number fuel) (F_ref12_refs fuel) (F_ref12_keeps fuel) x0 x1 k
theorem hG214 (fuel : Nat) : GOK Try.prog (G214 fuel) :=
  gok_cons ⟨ok216 fuel, enters_of Try.func216 (by kernel_rfl) rfl⟩ <|
  gok_cons ⟨ok217 fuel, enters_of Try.func217 (by kernel_rfl) rfl⟩ <|
  gok_cons ⟨ok218 fuel, enters_of Try.func218 (by kernel_rfl) rfl⟩ <|
  gok_nil
theorem fok214 (fuel : Nat) : FnOK Try.prog 214 (evalFn tab (G214 fuel) (J214 fuel) kp214 fuel Try.f214) :=
  fn_ok tab_ok (hG214 fuel) mixed Try.func214 (c := (Try.f214.body).getD .skip) rfl (fun q hq => by
    rw [(by kernel_rfl : obl (J214 fuel) ((Try.f214.body).getD .skip) = [])] at hq
    cases hq)
noncomputable def mt214 : List Ev.SV → List Ev.Ob → Bool := fun args objs => match args, objs with
 | [.c (.sl (.int .u8) _), .c (.int .i64 _)], [] => true
 | _, _ => false
noncomputable def spg214 (F : YF214) : Ev.Spec := fun args objs k => match args, objs with
 | [.c (.sl (.int .u8) x0), .c (.int .i64 x1)], [] => bif true then F x0 x1 (fun r => match r with | (r0, r1, r2, r3, r4, r5, r6, r7, r8) => k (.tup [(true, [.int .i64 r0, .int .i64 r1, .int .i64 r2, .own 0, .own 1, .own 2]), (false, [.int .i64 r3]), (false, [.int .i64 r4]), (false, [.int .i64 r5])], [.vec 3 (.int .i64) r6 true, .vec 4 .bool r7 true, .vec 5 (.int .u8) r8 true])) else none
 | _, _ => none
noncomputable def spec214 (fuel : Nat) : Ev.Spec := spg214 (F_ref12_header fuel)
theorem ok214 (fuel : Nat) : FnOK Try.prog 214 (spec214 fuel) := by
  intro args objs kk r h
  unfold spec214 spg214 at h
  split at h
  · skip
    obtain ⟨hb, h⟩ := cond_some' h
    simp only [Bool.and_eq_true, Nat.beq_eq, decide_eq_true_eq] at hb
    clear hb
    exact fok214 fuel _ _ kk r ((F214_eq fuel _ _ kk).trans h)
  · cases h
end Go.Proofs.Ytihfgpfofmjbaaa

set_option linter.unusedVariables false
set_option linter.unusedSimpArgs false
set_option maxRecDepth 100000
set_option maxHeartbeats 2000000
namespace Go.Proofs.Ytihfgpfofmjbaaa
open Go Ev
def kp204 (i : Nat) : Option (List Nat) := Ev.look i []
noncomputable def Gg204 (f214 : YF214) (f : Nat) : Option Ev.Spec := Ev.look f [(214, spg214 f214)]
noncomputable def G204 (fuel : Nat) : Nat → Option Ev.Spec := Gg204 (F_ref12_header fuel)
noncomputable def J204 (fuel : Nat) (i : Nat) : Option Ev.Blk := Ev.look i []
noncomputable def Fg_ref12_GetHeader (fuel : Nat) (f214 : YF214) (x0 : (List Int)) (x1 : Int) (k0 : (Int × Int × Int × Int × Int × Int × (List Int) × (List Bool) × (List Int)) → Option Ans) : Option Ans :=
  bif decide (x1 < (0 : Int)) then
  k0 ((0 : Int), (0 : Int), (0 : Int), (0 : Int), (0 : Int), (2 : Int), [], [], [])
  else
  bif decide (x1 > (↑x0.length : Int)) then
  k0 ((0 : Int), (0 : Int), (0 : Int), (0 : Int), (0 : Int), (2 : Int), [], [], [])
  else
  (f214 (x0) (x1)
  (fun (y4_0, y4_1, y4_2, y4_3, y4_4, y4_5, y4_6, y4_7, y4_8) =>
  bif y4_5 != (0 : Int) then
  k0 ((0 : Int), (0 : Int), (0 : Int), (0 : Int), (0 : Int), y4_5, [], [], [])
  else
  k0 (y4_0, y4_1, y4_2, y4_3, y4_4, (0 : Int), y4_6, y4_7, y4_8)))
noncomputable def F_ref12_GetHeader (fuel : Nat) (x0 : (List Int)) (x1 : Int) (k0 : (Int × Int × Int × Int × Int × Int × (List Int) × (List Bool) × (List Int)) → Option Ans) : Option Ans := Fg_ref12_GetHeader fuel (F_ref12_header fuel) x0 x1 k0
abbrev YF204 : Type := ((List Int)) → (Int) → ((Int × Int × Int × Int × Int × Int × (List Int) × (List Bool) × (List Int)) → Option Ans) → Option Ans
theorem F204_eqg (fuel : Nat) (f214 : YF214) (x0 : (List Int)) (x1 : Int) (k : Ev.Cont) : evalFn tab (Gg204 f214) (J204 fuel) kp204 fuel Try.f204 [.c (.sl (.int .u8) x0), .c (.int .i64 x1)] [] k = Fg_ref12_GetHeader fuel f214 x0 x1 (fun r => match r with | (r0, r1, r2, r3, r4, r5, r6, r7, r8) => k (.tup [(true, [.int .i64 r0, .int .i64 r1, .int .i64 r2, .own 0, .own 1, .own 2]), (false, [.int .i64 r3]), (false, [.int .i64 r4]), (false, [.int .i64 r5])], [.vec 3 (.int .i64) r6 true, .vec 4 .bool r7 true, .vec 5 (.int .u8) r8 true])) := by
  kernel_rfl
theorem F204_eq (fuel : Nat) (x0 : (List Int)) (x1 : Int) (k : Ev.Cont) : evalFn tab (G204 fuel) (J204 fuel) kp204 fuel Try.f204 [.c (.sl (.int .u8) x0), .c (.int .i64 x1)] [] k = F_ref12_GetHeader fuel x0 x1 (fun r => match r with | (r0, r1, r2, r3, r4, r5, r6, r7, r8) => k (.tup [(true, [.int .i64 r0, .int .i64 r1, .int .i64 r2, .own 0, .own 1, .own 2]), (false, [.int .i64 r3]), (false, [.int .i64 r4]), (false, [.int .i64 r5])], [.vec 3 (.int .i64) r6 true, .vec 4 .bool r7 true, .vec 5 (.int .u8) r8 true])) :=
  F204_eqg fuel (F_ref12_header fuel) x0 x1 k
theorem hG204 (fuel : Nat) : GOK Try.prog (G204 fuel) :=
  gok_cons ⟨ok214 fuel, enters_of Try.func214 (by kernel_rfl) rfl⟩ <|
  gok_nil
theorem fok204 (fuel : Nat) : FnOK Try.prog 204 (evalFn tab (G204 fuel) (J204 fuel) kp204 fuel Try.f204) :=
  fn_ok tab_ok (hG204 fuel) mixed Try.func204 (c := (Try.f204.body).getD .skip) rfl (fun q hq => by
    rw [(by kernel_rfl : obl (J204 fuel) ((Try.f204.body).getD .skip) = [])] at hq
    cases hq)
noncomputable def mt204 : List Ev.SV → List Ev.Ob → Bool := fun args objs => match args, objs with
 | [.c (.sl (.int .u8) _), .c (.int .i64 _)], [] => true
 | _, _ => false
noncomputable def spg204 (F : YF204) : Ev.Spec := fun args objs k => match args, objs with
 | [.c (.sl (.int .u8) x0), .c (.int .i64 x1)], [] => bif true then F x0 x1 (fun r => match r with | (r0, r1, r2, r3, r4, r5, r6, r7, r8) => k (.tup [(true, [.int .i64 r0, .int .i64 r1, .int .i64 r2, .own 0, .own 1, .own 2]), (false, [.int .i64 r3]), (false, [.int .i64 r4]), (false, [.int .i64 r5])], [.vec 3 (.int .i64) r6 true, .vec 4 .bool r7 true, .vec 5 (.int .u8) r8 true])) else none
 | _, _ => none
noncomputable def spec204 (fuel : Nat) : Ev.Spec := spg204 (F_ref12_GetHeader fuel)
theorem ok204 (fuel : Nat) : FnOK Try.prog 204 (spec204 fuel) := by
  intro args objs kk r h
  unfold spec204 spg204 at h
  split at h
  · skip
    obtain ⟨hb, h⟩ := cond_some' h
    simp only [Bool.and_eq_true, Nat.beq_eq, decide_eq_true_eq] at hb
    clear hb
    exact fok204 fuel _ _ kk r ((F204_eq fuel _ _ kk).trans h)
  · cases h
end Go.Proofs.Ytihfgpfofmjbaaa

set_option linter.unusedVariables false
set_option linter.unusedSimpArgs false
set_option maxRecDepth 100000
set_option maxHeartbeats 2000000
namespace Go.Proofs.Ytihfgpfofmjbaaa
open Go Ev
def kp175_bb9 (i : Nat) : Option (List Nat) := Ev.look i [(200011, []), (600000, [])]
noncomputable def Gg175_bb9 (f174_6fe : YF174_6fe) (f204 : YF204) (f : Nat) : Option Ev.Spec := Ev.look f [(174, spg174_6fe f174_6fe), (204, spg204 f204)]
noncomputable def G175_bb9 (fuel : Nat) : Nat → Option Ev.Spec := Gg175_bb9 (F_ref14_Parsed_failed_6fe fuel) (F_ref12_GetHeader fuel)
noncomputable def J175_bb9 (fuel : Nat) (i : Nat) : Option Ev.Blk := Ev.look i []
noncomputable def Fg_ref14_Parsed_header_bb9 (fuel : Nat) (f174_6fe : YF174_6fe) (f204 : YF204) (x0 : (List Int)) (x1 x2 : Int) (x3 x4 : Int) (x5 : (List (Int × (Int × (Int × ((List Int) × ((List Bool) × (List Int)))))))) (x6 : (List Int)) (x7 : (List (Int × Int))) (k0 : (Int × Int × Int × Int × (List (Int × (Int × (Int × ((List Int) × ((List Bool) × (List Int))))))) × (List Int) × (List (Int × Int))) → Option Ans) (k1 : (Int × Int × Int × Int × (List (Int × (Int × (Int × ((List Int) × ((List Bool) × (List Int))))))) × (List Int) × (List (Int × Int))) → Option Ans) : Option Ans :=
  bif (↑x5.length : Int) == (100 : Int) then
  (f174_6fe ((0 : Int)) ((4 : Int)) (x2) (x3) (x4) (x5) (x6) (x7)
  (fun (y3_0, y3_1, y3_2, y3_3, y3_4, y3_5) =>
  k0 ((0 : Int), y3_0, y3_1, y3_2, y3_3, y3_4, y3_5)))
  else
  bif x1 == (↑x0.length : Int) then
  (f174_6fe (x1) ((60 : Int)) (x2) (x3) (x4) (x5) (x6) (x7)
  (fun (y4_0, y4_1, y4_2, y4_3, y4_4, y4_5) =>
  k0 ((0 : Int), y4_0, y4_1, y4_2, y4_3, y4_4, y4_5)))
  else
  (f204 (x0) (x1)
  (fun (y4_0, y4_1, y4_2, y4_3, y4_4, y4_5, y4_6, y4_7, y4_8) =>
  bif y4_5 != (0 : Int) then
  (f174_6fe (x1) (y4_5) (x2) (x3) (x4) (x5) (x6) (x7)
  (fun (y9_0, y9_1, y9_2, y9_3, y9_4, y9_5) =>
  k0 ((0 : Int), y9_0, y9_1, y9_2, y9_3, y9_4, y9_5)))
  else
  both (bif decide ((x5.length + [(y4_0, y4_1, y4_2, y4_6, y4_7, y4_8)].length) * (96 : Nat) ≤ (140737488355328 : Nat) ∧ x5.length + [(y4_0, y4_1, y4_2, y4_6, y4_7, y4_8)].length ≤ (140737488355328 : Nat)) then
  bif decide ((x6.length + [x1].length) * (8 : Nat) ≤ (140737488355328 : Nat) ∧ x6.length + [x1].length ≤ (140737488355328 : Nat)) then
  bif decide ((x7.length + [((0 : Int), y4_3)].length) * (16 : Nat) ≤ (140737488355328 : Nat) ∧ x7.length + [((0 : Int), y4_3)].length ≤ (140737488355328 : Nat)) then
  k1 (y4_4, x2, x3, x4, x5 ++ [(y4_0, y4_1, y4_2, y4_6, y4_7, y4_8)], x6 ++ [x1], x7 ++ [((0 : Int), y4_3)])
  else none
  else none
  else none)
  (both (bif decide ((x5.length + [(y4_0, y4_1, y4_2, y4_6, y4_7, y4_8)].length) * (96 : Nat) ≤ (140737488355328 : Nat) ∧ x5.length + [(y4_0, y4_1, y4_2, y4_6, y4_7, y4_8)].length ≤ (140737488355328 : Nat)) then
  bif decide ((x6.length + [x1].length) * (8 : Nat) ≤ (140737488355328 : Nat) ∧ x6.length + [x1].length ≤ (140737488355328 : Nat)) then
  bif decide ((x7.length + [((0 : Int), y4_3)].length) * (16 : Nat) ≤ (140737488355328 : Nat) ∧ x7.length + [((0 : Int), y4_3)].length ≤ (140737488355328 : Nat)) then
  k1 (y4_4, x2, x3, x4, x5 ++ [(y4_0, y4_1, y4_2, y4_6, y4_7, y4_8)], x6 ++ [x1], x7 ++ [((0 : Int), y4_3)])
  else none
  else none
  else none)
  (bif decide ((x5.length + [(y4_0, y4_1, y4_2, y4_6, y4_7, y4_8)].length) * (96 : Nat) ≤ (140737488355328 : Nat) ∧ x5.length + [(y4_0, y4_1, y4_2, y4_6, y4_7, y4_8)].length ≤ (140737488355328 : Nat)) then
  bif decide ((x6.length + [x1].length) * (8 : Nat) ≤ (140737488355328 : Nat) ∧ x6.length + [x1].length ≤ (140737488355328 : Nat)) then
  bif decide ((x7.length + [((0 : Int), y4_3)].length) * (16 : Nat) ≤ (140737488355328 : Nat) ∧ x7.length + [((0 : Int), y4_3)].length ≤ (140737488355328 : Nat)) then
  k1 (y4_4, x2, x3, x4, x5 ++ [(y4_0, y4_1, y4_2, y4_6, y4_7, y4_8)], x6 ++ [x1], x7 ++ [((0 : Int), y4_3)])
  else none
  else none
  else none))))
noncomputable def F_ref14_Parsed_header_bb9 (fuel : Nat) (x0 : (List Int)) (x1 x2 : Int) (x3 x4 : Int) (x5 : (List (Int × (Int × (Int × ((List Int) × ((List Bool) × (List Int)))))))) (x6 : (List Int)) (x7 : (List (Int × Int))) (k0 : (Int × Int × Int × Int × (List (Int × (Int × (Int × ((List Int) × ((List Bool) × (List Int))))))) × (List Int) × (List (Int × Int))) → Option Ans) (k1 : (Int × Int × Int × Int × (List (Int × (Int × (Int × ((List Int) × ((List Bool) × (List Int))))))) × (List Int) × (List (Int × Int))) → Option Ans) : Option Ans := Fg_ref14_Parsed_header_bb9 fuel (F_ref14_Parsed_failed_6fe fuel) (F_ref12_GetHeader fuel) x0 x1 x2 x3 x4 x5 x6 x7 k0 k1
abbrev YF175_bb9 : Type := ((List Int)) → (Int) → (Int) → (Int) → (Int) → ((List (Int × (Int × (Int × ((List Int) × ((List Bool) × (List Int)))))))) → ((List Int)) → ((List (Int × Int))) → ((Int × Int × Int × Int × (List (Int × (Int × (Int × ((List Int) × ((List Bool) × (List Int))))))) × (List Int) × (List (Int × Int))) → Option Ans) → ((Int × Int × Int × Int × (List (Int × (Int × (Int × ((List Int) × ((List Bool) × (List Int))))))) × (List Int) × (List (Int × Int))) → Option Ans) → Option Ans
theorem F175_bb9_eqg (fuel : Nat) (f174_6fe : YF174_6fe) (f204 : YF204) (x0 : (List Int)) (x1 x2 : Int) (x3 x4 : Int) (x5 : (List (Int × (Int × (Int × ((List Int) × ((List Bool) × (List Int)))))))) (x6 : (List Int)) (x7 : (List (Int × Int))) (k : Ev.Cont) : evalFn tab (Gg175_bb9 f174_6fe f204) (J175_bb9 fuel) kp175_bb9 fuel Try.f175 [.c (.ptr 0 0), .c (.sl (.int .u8) x0), .c (.int .i64 x1)] [.cells 145 [.int .i64 x2, .own 1, .own 2, .own 3, .int .i64 x3, .int .i64 x4], .vec 103 (.pair (.int .i64) (.pair (.int .i64) (.pair (.int .i64) (.pair (.sl (.int .i64)) (.pair (.sl .bool) (.sl (.int .u8))))))) x5 false, .vec 3 (.int .i64) x6 false, .vec 44 (.pair (.int .i64) (.int .i64)) x7 false] k = Fg_ref14_Parsed_header_bb9 fuel f174_6fe f204 x0 x1 x2 x3 x4 x5 x6 x7 (fun r => match r with | (r0, r1, r2, r3, r4, r5, r6) => k (.c (.int .i64 r0), [.cells 145 [.int .i64 r1, .own 1, .own 2, .own 3, .int .i64 r2, .int .i64 r3], .vec 103 (.pair (.int .i64) (.pair (.int .i64) (.pair (.int .i64) (.pair (.sl (.int .i64)) (.pair (.sl .bool) (.sl (.int .u8))))))) r4 false, .vec 3 (.int .i64) r5 false, .vec 44 (.pair (.int .i64) (.int .i64)) r6 false])) (fun r => match r with | (r0, r1, r2, r3, r4, r5, r6) => k (.c (.int .i64 r0), [.cells 145 [.int .i64 r1, .own 1, .own 2, .own 3, .int .i64 r2, .int .i64 r3], .vec 103 (.pair (.int .i64) (.pair (.int .i64) (.pair (.int .i64) (.pair (.sl (.int .i64)) (.pair (.sl .bool) (.sl (.int .u8))))))) r4 true, .vec 3 (.int .i64) r5 true, .vec 44 (.pair (.int .i64) (.int .i64)) r6 true])) := by
  kernel_rfl
theorem F175_bb9_eq (fuel : Nat) (x0 : (List Int)) (x1 x2 : Int) (x3 x4 : Int) (x5 : (List (Int × (Int × (Int × ((List Int) × ((List Bool) × (List Int)))))))) (x6 : (List Int)) (x7 : (List (Int × Int))) (k : Ev.Cont) : evalFn tab (G175_bb9 fuel) (J175_bb9 fuel) kp175_bb9 fuel Try.f175 [.c (.ptr 0 0), .c (.sl (.int .u8) x0), .c (.int .i64 x1)] [.cells 145 [.int .i64 x2, .own 1, .own 2, .own 3, .int .i64 x3, .int .i64 x4], .vec 103 (.pair (.int .i64) (.pair (.int .i64) (.pair (.int .i64) (.pair (.sl (.int .i64)) (.pair (.sl .bool) (.sl (.int .u8))))))) x5 false, .vec 3 (.int .i64) x6 false, .vec 44 (.pair (.int .i64) (.int .i64)) x7 false] k = F_ref14_Parsed_header_bb9 fuel x0 x1 x2 x3 x4 x5 x6 x7 (fun r => match r with | (r0, r1, r2, r3, r4, r5, r6) => k (.c (.int .i64 r0), [.cells 145 [.int .i64 r1, .own 1, .own 2, .own 3, .int .i64 r2, .int .i64 r3], .vec 103 (.pair (.int .i64) (.pair (.int .i64) (.pair (.int .i64) (.pair (.sl (.int .i64)) (.pair (.sl .bool) (.sl (.int .u8))))))) r4 false, .vec 3 (.int .i64) r5 false, .vec 44 (.pair (.int .i64) (.int .i64)) r6 false])) (fun r => match r with | (r0, r1, r2, r3, r4, r5, r6) => k (.c (.int .i64 r0), [.cells 145 [.int .i64 r1, .own 1, .own 2, .own 3, .int .i64 r2, .int .i64 r3], .vec 103 (.pair (.int .i64) (.pair (.int .i64) (.pair (.int .i64) (.pair (.sl (.int .i64)) (.pair (.sl .bool) (.sl (.int .u8))))))) r4 true, .vec 3 (.int .i64) r5 true, .vec 44 (.pair (.int .i64) (.int .i64)) r6 true])) :=
  F175_bb9_eqg fuel (F_ref14_Parsed_failed_6fe fuel) (F_ref12_GetHeader fuel) x0 x1 x2 x3 x4 x5 x6 x7 k
theorem hG175_bb9 (fuel : Nat) : GOK Try.prog (G175_bb9 fuel) :=
  gok_cons ⟨ok174_6fe fuel, enters_of Try.func174 (by kernel_rfl) rfl⟩ <|
  gok_cons ⟨ok204 fuel, enters_of Try.func204 (by kernel_rfl) rfl⟩ <|
  gok_nil
theorem fok175_bb9 (fuel : Nat) : FnOK Try.prog 175 (evalFn tab (G175_bb9 fuel) (J175_bb9 fuel) kp175_bb9 fuel Try.f175) :=
  fn_ok tab_ok (hG175_bb9 fuel) mixed Try.func175 (c := (Try.f175.body).getD .skip) rfl (fun q hq => by
    rw [(by kernel_rfl : obl (J175_bb9 fuel) ((Try.f175.body).getD .skip) = [])] at hq
    cases hq)
noncomputable def mt175_bb9 : List Ev.SV → List Ev.Ob → Bool := fun args objs => match args, objs with
 | [.c (.ptr q0 q1), .c (.sl (.int .u8) _), .c (.int .i64 _)], [.cells q2 [.int .i64 _, .own q3, .own q4, .own q5, .int .i64 _, .int .i64 _], .vec q6 (.pair (.int .i64) (.pair (.int .i64) (.pair (.int .i64) (.pair (.sl (.int .i64)) (.pair (.sl .bool) (.sl (.int .u8))))))) _ false, .vec q7 (.int .i64) _ false, .vec q8 (.pair (.int .i64) (.int .i64)) _ false] => Nat.beq q0 0 && Nat.beq q1 0 && Nat.beq q2 145 && Nat.beq q3 1 && Nat.beq q4 2 && Nat.beq q5 3 && Nat.beq q6 103 && Nat.beq q7 3 && Nat.beq q8 44
 | _, _ => false
noncomputable def spg175_bb9 (F : YF175_bb9) : Ev.Spec := fun args objs k => match args, objs with
 | [.c (.ptr q0 q1), .c (.sl (.int .u8) x0), .c (.int .i64 x1)], [.cells q2 [.int .i64 x2, .own q3, .own q4, .own q5, .int .i64 x3, .int .i64 x4], .vec q6 (.pair (.int .i64) (.pair (.int .i64) (.pair (.int .i64) (.pair (.sl (.int .i64)) (.pair (.sl .bool) (.sl (.int .u8))))))) x5 false, .vec q7 (.int .i64) x6 false, .vec q8 (.pair (.int .i64) (.int .i64)) x7 false] => bif Nat.beq q0 0 && Nat.beq q1 0 && Nat.beq q2 145 && Nat.beq q3 1 && Nat.beq q4 2 && Nat.beq q5 3 && Nat.beq q6 103 && Nat.beq q7 3 && Nat.beq q8 44 then F x0 x1 x2 x3 x4 x5 x6 x7 (fun r => match r with | (r0, r1, r2, r3, r4, r5, r6) => k (.c (.int .i64 r0), [.cells 145 [.int .i64 r1, .own 1, .own 2, .own 3, .int .i64 r2, .int .i64 r3], .vec 103 (.pair (.int .i64) (.pair (.int .i64) (.pair (.int .i64) (.pair (.sl (.int .i64)) (.pair (.sl .bool) (.sl (.int .u8))))))) r4 false, .vec 3 (.int .i64) r5 false, .vec 44 (.pair (.int .i64) (.int .i64)) r6 false])) (fun r => match r with | (r0, r1, r2, r3, r4, r5, r6) => k (.c (.int .i64 r0), [.cells 145 [.int .i64 r1, .own 1, .own 2, .own 3, .int .i64 r2, .int .i64 r3], .vec 103 (.pair (.int .i64) (.pair (.int .i64) (.pair (.int .i64) (.pair (.sl (.int .i64)) (.pair (.sl .bool) (.sl (.int .u8))))))) r4 true, .vec 3 (.int .i64) r5 true, .vec 44 (.pair (.int .i64) (.int .i64)) r6 true])) else none
 | _, _ => none
noncomputable def spec175_bb9 (fuel : Nat) : Ev.Spec := spg175_bb9 (F_ref14_Parsed_header_bb9 fuel)
theorem ok175_bb9 (fuel : Nat) : FnOK Try.prog 175 (spec175_bb9 fuel) := by
  intro args objs kk r h
  unfold spec175_bb9 spg175_bb9 at h
  split at h
  · skip
    obtain ⟨hb, h⟩ := cond_some' h
    simp only [Bool.and_eq_true, Nat.beq_eq, decide_eq_true_eq] at hb
    obtain ⟨⟨⟨⟨⟨⟨⟨⟨rfl, rfl⟩, rfl⟩, rfl⟩, rfl⟩, rfl⟩, rfl⟩, rfl⟩, rfl⟩ := hb
    exact fok175_bb9 fuel _ _ kk r ((F175_bb9_eq fuel _ _ _ _ _ _ _ _ kk).trans h)
  · cases h
end Go.Proofs.Ytihfgpfofmjbaaa

set_option linter.unusedVariables false
set_option linter.unusedSimpArgs false
set_option maxRecDepth 100000
set_option maxHeartbeats 2000000
namespace Go.Proofs.Ytihfgpfofmjbaaa
open Go Ev
def kp64 (i : Nat) : Option (List Nat) := Ev.look i [(7, [1, 3, 55, 56, 57]), (100000, []), (400000, [2])]
noncomputable def Gg64 (f : Nat) : Option Ev.Spec := Ev.look f []
noncomputable def G64 (fuel : Nat) : Nat → Option Ev.Spec := Gg64
noncomputable def S_ref12_Valid_0 (fuel : Nat) (v : Int × (List Int) × Int × Int × Int × Int × Int × (List Int) × (List Bool) × (List Int)) (c : (Int × (List Int) × Int × Int × Int × Int × Int × (List Int) × (List Bool) × (List Int)) → Option Ans) (B : (Bool → Option Ans) × (Unit → Option Ans)) : Option Ans := match v, B with
 | (x0, x1, x2, x3, x4, x5, x6, x7, x8, x9), (ret, b) =>
  bif decide (x3 < x2) then
  bif decide ((0 : Int) ≤ x3 ∧ x3 < (↑x1.length : Int)) then
  bif decide (x1.getD x3.toNat (0 : Int) ≤ x0) then
  ret false
  else
  bif decide (x1.getD x3.toNat (0 : Int) ≥ x4) then
  ret false
  else
  c (x1.getD x3.toNat (0 : Int), x1, x2, IntKind.i64.wrap (x3 + (1 : Int)), x4, x5, x6, x7, x8, x9)
  else none
  else
  b ()
noncomputable def L_ref12_Valid_0 (fuel : Nat) (v : Int × (List Int) × Int × Int × Int × Int × Int × (List Int) × (List Bool) × (List Int)) (ret : (Bool → Option Ans)) (b : (Unit → Option Ans)) : Option Ans := iter (S_ref12_Valid_0 fuel) fuel v (ret, b)
noncomputable def J64_0 (fuel : Nat) (i : Nat) : Option Ev.Blk := Ev.look i []
noncomputable def T64_0 (v : Int × (List Int) × Int × Int × Int × Int × Int × (List Int) × (List Bool) × (List Int)) : Ev.St := match v with | (x0, x1, x2, x3, x4, x5, x6, x7, x8, x9) => ⟨[(1, .c (.ptr 0 0)), (3, .c (.int .i64 x0)), (55, .c (.sl (.int .i64) x1)), (56, .c (.int .i64 x2)), (57, .c (.int .i64 x3))], [(0, .cells 103 [.int .i64 x4, .int .i64 x5, .int .i64 x6, .sl (.int .i64) x7, .sl .bool x8, .sl (.int .u8) x9])], 1, 0⟩
noncomputable def E64_0 (K : Ev.Ex → Ev.St → Option Ans) : (Bool → Option Ans) × (Unit → Option Ans) := ((fun v => match v with | x0 => K .ret ⟨[(2, .c (.bool x0))], [], 0, 0⟩), (fun v => match v with | () => K .normal ⟨[], [], 0, 0⟩))
theorem S64_0_ok (fuel : Nat) (R : Ev.St → Option Ans) (K : Ev.Ex → Ev.St → Option Ans) (x0 : Int) (x1 : (List Int)) (x2 x3 : Int) (x4 x5 x6 : Int) (x7 : (List Int)) (x8 : (List Bool)) (x9 : (List Int)) : evalCode tab (G64 fuel) (J64_0 fuel) kp64 fuel (bodyOf 0 Try.f64) (T64_0 (x0, x1, x2, x3, x4, x5, x6, x7, x8, x9)) (lc kp64 7 0 R K) = S_ref12_Valid_0 fuel (x0, x1, x2, x3, x4, x5, x6, x7, x8, x9) (fun v => R (T64_0 v)) (E64_0 K) := by
  kernel_rfl
noncomputable def B64_0 (fuel : Nat) : Ev.Blk := fun st K => match canonO (kp64 7) st with
 | some s => (match s with
 | ⟨[(q0, .c (.ptr q1 q2)), (q3, .c (.int .i64 x0)), (q4, .c (.sl (.int .i64) x1)), (q5, .c (.int .i64 x2)), (q6, .c (.int .i64 x3))], [(q7, .cells q8 [.int .i64 x4, .int .i64 x5, .int .i64 x6, .sl (.int .i64) x7, .sl .bool x8, .sl (.int .u8) x9])], q9, q10⟩ => bif Nat.beq q0 1 && Nat.beq q1 0 && Nat.beq q2 0 && Nat.beq q3 3 && Nat.beq q4 55 && Nat.beq q5 56 && Nat.beq q6 57 && Nat.beq q7 0 && Nat.beq q8 103 && Nat.beq q9 1 && Nat.beq q10 0 then iter (S_ref12_Valid_0 fuel) fuel (x0, x1, x2, x3, x4, x5, x6, x7, x8, x9) (E64_0 K) else none
 | _ => none)
 | none => none
theorem B64_0_ok (fuel : Nat) (st : Ev.St) (K : Ev.Ex → Ev.St → Option Ans) (r : Ans) (h : B64_0 fuel st K = some r) : evalCode tab (G64 fuel) (J64_0 fuel) kp64 fuel (.block 0 (.loop (bodyOf 0 Try.f64))) st K = some r := by
  unfold B64_0 at h
  split at h
  · rename_i s hs
    split at h
    · skip
      obtain ⟨hb, h⟩ := cond_some' h
      simp only [Bool.and_eq_true, Nat.beq_eq, decide_eq_true_eq] at hb
      obtain ⟨⟨⟨⟨⟨⟨⟨⟨⟨⟨rfl, rfl⟩, rfl⟩, rfl⟩, rfl⟩, rfl⟩, rfl⟩, rfl⟩, rfl⟩, rfl⟩, rfl⟩ := hb
      exact blk_loop (S := T64_0) (ks := E64_0) (step := S_ref12_Valid_0 fuel) (v := (_, _, _, _, _, _, _, _, _, _)) (by kernel_rfl) (by kernel_rfl) (fun R K v => by obtain ⟨x0, x1, x2, x3, x4, x5, x6, x7, x8, x9⟩ := v; exact S64_0_ok fuel R K x0 x1 x2 x3 x4 x5 x6 x7 x8 x9) hs h
    · cases h
  · cases h
noncomputable def J64 (fuel : Nat) (i : Nat) : Option Ev.Blk := Ev.look i [(100000, B64_0 fuel)]
noncomputable def F_ref12_Valid (fuel : Nat) (x0 x1 x2 : Int) (x3 : (List Int)) (x4 : (List Bool)) (x5 : (List Int)) (k0 : (Bool) → Option Ans) : Option Ans :=
  bif decide (x0 < (0 : Int)) then
  k0 false
  else
  bif decide (x0 > (10000 : Int)) then
  k0 false
  else
  bif decide (x1 < (0 : Int)) then
  k0 false
  else
  bif decide (x1 > (15 : Int)) then
  k0 false
  else
  bif decide (x2 < (0 : Int)) then
  k0 false
  else
  bif decide (x2 > (1000 : Int)) then
  k0 false
  else
  bif decide ((↑x3.length : Int) > (20 : Int)) then
  k0 false
  else
  bif (↑x4.length : Int) != IntKind.i64.wrap ((↑x3.length : Int) + (1 : Int)) then
  k0 false
  else
  bif decide ((↑x5.length : Int) > (20000 : Int)) then
  k0 false
  else
  (L_ref12_Valid_0 fuel ((-1 : Int), x3, (↑x3.length : Int), (0 : Int), x0, x1, x2, x3, x4, x5)
  (fun ret0_0 =>
  k0 ret0_0)
  (fun () =>
  k0 true))
abbrev YF64 : Type := (Int) → (Int) → (Int) → ((List Int)) → ((List Bool)) → ((List Int)) → ((Bool) → Option Ans) → Option Ans
theorem F64_eq (fuel : Nat) (x0 x1 x2 : Int) (x3 : (List Int)) (x4 : (List Bool)) (x5 : (List Int)) (k : Ev.Cont) : evalFn tab (G64 fuel) (J64 fuel) kp64 fuel Try.f64 [.agg [.int .i64 x0, .int .i64 x1, .int .i64 x2, .sl (.int .i64) x3, .sl .bool x4, .sl (.int .u8) x5]] [] k = F_ref12_Valid fuel x0 x1 x2 x3 x4 x5 (fun r => match r with | r0 => k (.c (.bool r0), [])) := by
  kernel_rfl
theorem hG64 (fuel : Nat) : GOK Try.prog (G64 fuel) :=
  gok_nil
theorem B64_0_blk (fuel : Nat) : BlkOK Try.prog Try.f64.ntmps (.block 0 (.loop (bodyOf 0 Try.f64))) (B64_0 fuel) :=
  blk_of (blk_of_code tab_ok (hG64 fuel) mixed (J := J64_0 fuel) (kp := kp64) (fuel := fuel) (by kernel_rfl) (fun q hq => by
    rw [(by kernel_rfl : obl (J64_0 fuel) (.block 0 (.loop (bodyOf 0 Try.f64))) = [])] at hq
    cases hq)) (B64_0_ok fuel)
theorem fok64 (fuel : Nat) : FnOK Try.prog 64 (evalFn tab (G64 fuel) (J64 fuel) kp64 fuel Try.f64) :=
  fn_ok tab_ok (hG64 fuel) mixed Try.func64 (c := (Try.f64.body).getD .skip) rfl (fun q hq => by
    rw [(by kernel_rfl : obl (J64 fuel) ((Try.f64.body).getD .skip) = [(.block 0 (.loop (bodyOf 0 Try.f64)), B64_0 fuel)])] at hq
    simp only [List.mem_cons, List.not_mem_nil, or_false] at hq
    subst hq
    · exact B64_0_blk fuel)
noncomputable def mt64 : List Ev.SV → List Ev.Ob → Bool := fun args objs => match args, objs with
 | [.agg [.int .i64 _, .int .i64 _, .int .i64 _, .sl (.int .i64) _, .sl .bool _, .sl (.int .u8) _]], [] => true
 | _, _ => false
noncomputable def spg64 (F : YF64) : Ev.Spec := fun args objs k => match args, objs with
 | [.agg [.int .i64 x0, .int .i64 x1, .int .i64 x2, .sl (.int .i64) x3, .sl .bool x4, .sl (.int .u8) x5]], [] => bif true then F x0 x1 x2 x3 x4 x5 (fun r => match r with | r0 => k (.c (.bool r0), [])) else none
 | _, _ => none
noncomputable def spec64 (fuel : Nat) : Ev.Spec := spg64 (F_ref12_Valid fuel)
theorem ok64 (fuel : Nat) : FnOK Try.prog 64 (spec64 fuel) := by
  intro args objs kk r h
  unfold spec64 spg64 at h
  split at h
  · skip
    obtain ⟨hb, h⟩ := cond_some' h
    simp only [Bool.and_eq_true, Nat.beq_eq, decide_eq_true_eq] at hb
    clear hb
    exact fok64 fuel _ _ kk r ((F64_eq fuel _ _ _ _ _ _ kk).trans h)
  · cases h
end Go.Proofs.Ytihfgpfofmjbaaa

set_option linter.unusedVariables false
set_option linter.unusedSimpArgs false
set_option maxRecDepth 100000
set_option maxHeartbeats 2000000
namespace Go.Proofs.Ytihfgpfofmjbaaa
open Go Ev
def kp194 (i : Nat) : Option (List Nat) := Ev.look i [(2, [1, 7, 8, 9]), (100000, []), (400000, [4])]
noncomputable def Gg194 (f : Nat) : Option Ev.Spec := Ev.look f []
noncomputable def G194 (fuel : Nat) : Nat → Option Ev.Spec := Gg194
noncomputable def S_ref12_find_0 (fuel : Nat) (v : Int × (List (Int × (Int × (Int × ((List Int) × ((List Bool) × (List Int))))))) × Int × Int) (c : (Int × (List (Int × (Int × (Int × ((List Int) × ((List Bool) × (List Int))))))) × Int × Int) → Option Ans) (B : (Int → Option Ans) × (Unit → Option Ans)) : Option Ans := match v, B with
 | (x0, x1, x2, x3), (ret, b) =>
  bif decide (x3 < x2) then
  bif decide ((0 : Int) ≤ x3 ∧ x3 < (↑x1.length : Int)) then
  bif (x1.getD x3.toNat ((0 : Int), (0 : Int), (0 : Int), [], [], [])).fst == x0 then
  ret x3
  else
  c (x0, x1, x2, IntKind.i64.wrap (x3 + (1 : Int)))
  else none
  else
  b ()
noncomputable def L_ref12_find_0 (fuel : Nat) (v : Int × (List (Int × (Int × (Int × ((List Int) × ((List Bool) × (List Int))))))) × Int × Int) (ret : (Int → Option Ans)) (b : (Unit → Option Ans)) : Option Ans := iter (S_ref12_find_0 fuel) fuel v (ret, b)
noncomputable def J194_0 (fuel : Nat) (i : Nat) : Option Ev.Blk := Ev.look i []
noncomputable def T194_0 (v : Int × (List (Int × (Int × (Int × ((List Int) × ((List Bool) × (List Int))))))) × Int × Int) : Ev.St := match v with | (x0, x1, x2, x3) => ⟨[(1, .c (.int .i64 x0)), (7, .c (.sl (.pair (.int .i64) (.pair (.int .i64) (.pair (.int .i64) (.pair (.sl (.int .i64)) (.pair (.sl .bool) (.sl (.int .u8))))))) x1)), (8, .c (.int .i64 x2)), (9, .c (.int .i64 x3))], [], 0, 0⟩
noncomputable def E194_0 (K : Ev.Ex → Ev.St → Option Ans) : (Int → Option Ans) × (Unit → Option Ans) := ((fun v => match v with | x0 => K .ret ⟨[(4, .c (.int .i64 x0))], [], 0, 0⟩), (fun v => match v with | () => K .normal ⟨[], [], 0, 0⟩))
theorem S194_0_ok (fuel : Nat) (R : Ev.St → Option Ans) (K : Ev.Ex → Ev.St → Option Ans) (x0 : Int) (x1 : (List (Int × (Int × (Int × ((List Int) × ((List Bool) × (List Int)))))))) (x2 x3 : Int) : evalCode tab (G194 fuel) (J194_0 fuel) kp194 fuel (bodyOf 0 Try.f194) (T194_0 (x0, x1, x2, x3)) (lc kp194 2 0 R K) = S_ref12_find_0 fuel (x0, x1, x2, x3) (fun v => R (T194_0 v)) (E194_0 K) := by
  kernel_rfl
noncomputable def B194_0 (fuel : Nat) : Ev.Blk := fun st K => match canonO (kp194 2) st with
 | some s => (match s with
 | ⟨[(q0, .c (.int .i64 x0)), (q1, .c (.sl (.pair (.int .i64) (.pair (.int .i64) (.pair (.int .i64) (.pair (.sl (.int .i64)) (.pair (.sl .bool) (.sl (.int .u8))))))) x1)), (q2, .c (.int .i64 x2)), (q3, .c (.int .i64 x3))], [], q4, q5⟩ => bif Nat.beq q0 1 && Nat.beq q1 7 && Nat.beq q2 8 && Nat.beq q3 9 && Nat.beq q4 0 && Nat.beq q5 0 then iter (S_ref12_find_0 fuel) fuel (x0, x1, x2, x3) (E194_0 K) else none
 | _ => none)
 | none => none
theorem B194_0_ok (fuel : Nat) (st : Ev.St) (K : Ev.Ex → Ev.St → Option Ans) (r : Ans) (h : B194_0 fuel st K = some r) : evalCode tab (G194 fuel) (J194_0 fuel) kp194 fuel (.block 0 (.loop (bodyOf 0 Try.f194))) st K = some r := by
  unfold B194_0 at h
  split at h
  · rename_i s hs
    split at h
    · skip
      obtain ⟨hb, h⟩ := cond_some' h
      simp only [Bool.and_eq_true, Nat.beq_eq, decide_eq_true_eq] at hb
      obtain ⟨⟨⟨⟨⟨rfl, rfl⟩, rfl⟩, rfl⟩, rfl⟩, rfl⟩ := hb
      exact blk_loop (S := T194_0) (ks := E194_0) (step := S_ref12_find_0 fuel) (v := (_, _, _, _)) (by kernel_rfl) (by kernel_rfl) (fun R K v => by obtain ⟨x0, x1, x2, x3⟩ := v; exact S194_0_ok fuel R K x0 x1 x2 x3) hs h
    · cases h
  · cases h
noncomputable def J194 (fuel : Nat) (i : Nat) : Option Ev.Blk := Ev.look i [(100000, B194_0 fuel)]
noncomputable def F_ref12_find (fuel : Nat) (x0 : (List (Int × Int × Int × (List Int) × (List Bool) × (List Int)))) (x1 : Int) (k0 : (Int) → Option Ans) : Option Ans :=
  (L_ref12_find_0 fuel (x1, x0, (↑x0.length : Int), (0 : Int))
  (fun ret0_0 =>
  k0 ret0_0)
  (fun () =>
  k0 ((-1 : Int))))
abbrev YF194 : Type := ((List (Int × Int × Int × (List Int) × (List Bool) × (List Int)))) → (Int) → ((Int) → Option Ans) → Option Ans
theorem F194_eq (fuel : Nat) (x0 : (List (Int × Int × Int × (List Int) × (List Bool) × (List Int)))) (x1 : Int) (k : Ev.Cont) : evalFn tab (G194 fuel) (J194 fuel) kp194 fuel Try.f194 [.c (.sl (.pair (.int .i64) (.pair (.int .i64) (.pair (.int .i64) (.pair (.sl (.int .i64)) (.pair (.sl .bool) (.sl (.int .u8))))))) x0), .c (.int .i64 x1)] [] k = F_ref12_find fuel x0 x1 (fun r => match r with | r0 => k (.c (.int .i64 r0), [])) := by
  kernel_rfl
theorem hG194 (fuel : Nat) : GOK Try.prog (G194 fuel) :=
  gok_nil
theorem B194_0_blk (fuel : Nat) : BlkOK Try.prog Try.f194.ntmps (.block 0 (.loop (bodyOf 0 Try.f194))) (B194_0 fuel) :=
  blk_of (blk_of_code tab_ok (hG194 fuel) mixed (J := J194_0 fuel) (kp := kp194) (fuel := fuel) (by kernel_rfl) (fun q hq => by
    rw [(by kernel_rfl : obl (J194_0 fuel) (.block 0 (.loop (bodyOf 0 Try.f194))) = [])] at hq
    cases hq)) (B194_0_ok fuel)
theorem fok194 (fuel : Nat) : FnOK Try.prog 194 (evalFn tab (G194 fuel) (J194 fuel) kp194 fuel Try.f194) :=
  fn_ok tab_ok (hG194 fuel) mixed Try.func194 (c := (Try.f194.body).getD .skip) rfl (fun q hq => by
    rw [(by kernel_rfl : obl (J194 fuel) ((Try.f194.body).getD .skip) = [(.block 0 (.loop (bodyOf 0 Try.f194)), B194_0 fuel)])] at hq
    simp only [List.mem_cons, List.not_mem_nil, or_false] at hq
    subst hq
    · exact B194_0_blk fuel)
noncomputable def mt194 : List Ev.SV → List Ev.Ob → Bool := fun args objs => match args, objs with
 | [.c (.sl (.pair (.int .i64) (.pair (.int .i64) (.pair (.int .i64) (.pair (.sl (.int .i64)) (.pair (.sl .bool) (.sl (.int .u8))))))) _), .c (.int .i64 _)], [] => true
 | _, _ => false
noncomputable def spg194 (F : YF194) : Ev.Spec := fun args objs k => match args, objs with
 | [.c (.sl (.pair (.int .i64) (.pair (.int .i64) (.pair (.int .i64) (.pair (.sl (.int .i64)) (.pair (.sl .bool) (.sl (.int .u8))))))) x0), .c (.int .i64 x1)], [] => bif true then F x0 x1 (fun r => match r with | r0 => k (.c (.int .i64 r0), [])) else none
 | _, _ => none
noncomputable def spec194 (fuel : Nat) : Ev.Spec := spg194 (F_ref12_find fuel)
theorem ok194 (fuel : Nat) : FnOK Try.prog 194 (spec194 fuel) := by
  intro args objs kk r h
  unfold spec194 spg194 at h
  split at h
  · skip
    obtain ⟨hb, h⟩ := cond_some' h
    simp only [Bool.and_eq_true, Nat.beq_eq, decide_eq_true_eq] at hb
    clear hb
    exact fok194 fuel _ _ kk r ((F194_eq fuel _ _ kk).trans h)
  · cases h
end Go.Proofs.Ytihfgpfofmjbaaa

set_option linter.unusedVariables false
set_option linter.unusedSimpArgs false
set_option maxRecDepth 100000
set_option maxHeartbeats 2000000
namespace Go.Proofs.Ytihfgpfofmjbaaa
open Go Ev
def kp140 (i : Nat) : Option (List Nat) := Ev.look i [(3, [0, 4, 13, 14, 15]), (8, [0, 4, 5, 6, 13, 14, 15, 40, 41, 42]), (100000, [4]), (100002, [0, 4, 5, 6, 13, 14, 15]), (200005, [0, 6]), (200011, [0, 4, 6]), (400000, [2, 3]), (400002, [2, 3])]
noncomputable def Gg140 (f64 : YF64) (f194 : YF194) (f : Nat) : Option Ev.Spec := Ev.look f [(64, spg64 f64), (194, spg194 f194)]
noncomputable def G140 (fuel : Nat) : Nat → Option Ev.Spec := Gg140 (F_ref12_Valid fuel) (F_ref12_find fuel)
noncomputable def Sg_ref12_kept_2 (fuel : Nat) (f64 : YF64) (f194 : YF194) (x0 : (List (Int × (Int × (Int × ((List Int) × ((List Bool) × (List Int)))))))) (x1 : Int) (x2 : (List (Int × (Int × (Int × ((List Int) × ((List Bool) × (List Int)))))))) (x3 x4 : Int) (x5 : (List Int)) (x6 x7 : Int) (x8 : (List Bool)) (x9 x10 x11 : Int) (x12 : (List Int)) (x13 : (List Bool)) (x14 : (List Int)) (c : ((List (Int × (Int × (Int × ((List Int) × ((List Bool) × (List Int))))))) × Int × (List (Int × (Int × (Int × ((List Int) × ((List Bool) × (List Int))))))) × Int × Int × (List Int) × Int × Int × (List Bool) × Int × Int × Int × (List Int) × (List Bool) × (List Int)) → Option Ans) (B : (Int × (List Bool) → Option Ans) × ((List (Int × (Int × (Int × ((List Int) × ((List Bool) × (List Int))))))) × Int × (List (Int × (Int × (Int × ((List Int) × ((List Bool) × (List Int))))))) × Int × Int × (List Bool) × Int × Int × Int × (List Int) × (List Bool) × (List Int) → Option Ans)) : Option Ans := match B with
 | (ret, b) =>
  bif decide (x7 < x6) then
  bif decide ((0 : Int) ≤ x7 ∧ x7 < (↑x5.length : Int)) then
  bif decide ((0 : Int) ≤ Ev.loOf Option.none ∧ Ev.loOf Option.none ≤ Ev.hiOf (some x1) (↑x0.length : Int) ∧ Ev.hiOf (some x1) (↑x0.length : Int) ≤ (↑x0.length : Int)) then
  (f194 (List.take (Ev.hiOf (some x1) (↑x0.length : Int) - Ev.loOf Option.none).toNat (List.drop (Ev.loOf Option.none).toNat x0)) (x5.getD x7.toNat (0 : Int))
  (fun y5 =>
  bif decide (y5 < (0 : Int)) then
  ret (x1, [])
  else
  bif decide ((0 : Int) ≤ y5 ∧ y5 < (↑x8.length : Int)) then
  bif !x8.getD y5.toNat false then
  ret (x1, [])
  else
  bif decide ((0 : Int) ≤ y5 ∧ y5 < (↑x0.length : Int)) then
  bif (x0.getD y5.toNat ((0 : Int), (0 : Int), (0 : Int), [], [], [])).snd.snd.fst != (0 : Int) then
  bif decide ((0 : Int) ≤ y5 ∧ y5 < (↑x0.length : Int)) then
  bif (x0.getD y5.toNat ((0 : Int), (0 : Int), (0 : Int), [], [], [])).snd.snd.fst != x11 then
  ret (x1, [])
  else
  bif decide ((0 : Int) ≤ x7 ∧ x7 < (↑x13.length : Int)) then
  bif decide ((0 : Int) ≤ y5 ∧ y5 < (↑x8.length : Int)) then
  c (x0, x1, x2, x3, x4, x5, x6, IntKind.i64.wrap (x7 + (1 : Int)), x8.set y5.toNat (x13.getD x7.toNat false), x9, x10, x11, x12, x13, x14)
  else none
  else none
  else none
  else
  bif decide ((0 : Int) ≤ x7 ∧ x7 < (↑x13.length : Int)) then
  bif decide ((0 : Int) ≤ y5 ∧ y5 < (↑x8.length : Int)) then
  c (x0, x1, x2, x3, x4, x5, x6, IntKind.i64.wrap (x7 + (1 : Int)), x8.set y5.toNat (x13.getD x7.toNat false), x9, x10, x11, x12, x13, x14)
  else none
  else none
  else none
  else none))
  else none
  else none
  else
  b (x0, x1, x2, x3, x4, x8, x9, x10, x11, x12, x13, x14)
noncomputable def S_ref12_kept_2 (fuel : Nat) (v : (List (Int × (Int × (Int × ((List Int) × ((List Bool) × (List Int))))))) × Int × (List (Int × (Int × (Int × ((List Int) × ((List Bool) × (List Int))))))) × Int × Int × (List Int) × Int × Int × (List Bool) × Int × Int × Int × (List Int) × (List Bool) × (List Int)) (c : ((List (Int × (Int × (Int × ((List Int) × ((List Bool) × (List Int))))))) × Int × (List (Int × (Int × (Int × ((List Int) × ((List Bool) × (List Int))))))) × Int × Int × (List Int) × Int × Int × (List Bool) × Int × Int × Int × (List Int) × (List Bool) × (List Int)) → Option Ans) (B : (Int × (List Bool) → Option Ans) × ((List (Int × (Int × (Int × ((List Int) × ((List Bool) × (List Int))))))) × Int × (List (Int × (Int × (Int × ((List Int) × ((List Bool) × (List Int))))))) × Int × Int × (List Bool) × Int × Int × Int × (List Int) × (List Bool) × (List Int) → Option Ans)) : Option Ans := match v with
 | (x0, x1, x2, x3, x4, x5, x6, x7, x8, x9, x10, x11, x12, x13, x14) => Sg_ref12_kept_2 fuel (F_ref12_Valid fuel) (F_ref12_find fuel) x0 x1 x2 x3 x4 x5 x6 x7 x8 x9 x10 x11 x12 x13 x14 c B
noncomputable def L_ref12_kept_2 (fuel : Nat) (v : (List (Int × (Int × (Int × ((List Int) × ((List Bool) × (List Int))))))) × Int × (List (Int × (Int × (Int × ((List Int) × ((List Bool) × (List Int))))))) × Int × Int × (List Int) × Int × Int × (List Bool) × Int × Int × Int × (List Int) × (List Bool) × (List Int)) (ret : (Int × (List Bool) → Option Ans)) (b : ((List (Int × (Int × (Int × ((List Int) × ((List Bool) × (List Int))))))) × Int × (List (Int × (Int × (Int × ((List Int) × ((List Bool) × (List Int))))))) × Int × Int × (List Bool) × Int × Int × Int × (List Int) × (List Bool) × (List Int) → Option Ans)) : Option Ans := iter (S_ref12_kept_2 fuel) fuel v (ret, b)
noncomputable def J140_2 (fuel : Nat) (i : Nat) : Option Ev.Blk := Ev.look i []
noncomputable def T140_2 (v : (List (Int × (Int × (Int × ((List Int) × ((List Bool) × (List Int))))))) × Int × (List (Int × (Int × (Int × ((List Int) × ((List Bool) × (List Int))))))) × Int × Int × (List Int) × Int × Int × (List Bool) × Int × Int × Int × (List Int) × (List Bool) × (List Int)) : Ev.St := match v with | (x0, x1, x2, x3, x4, x5, x6, x7, x8, x9, x10, x11, x12, x13, x14) => ⟨[(0, .c (.sl (.pair (.int .i64) (.pair (.int .i64) (.pair (.int .i64) (.pair (.sl (.int .i64)) (.pair (.sl .bool) (.sl (.int .u8))))))) x0)), (4, .c (.own 0)), (5, .c (.int .i64 x1)), (6, .c (.ptr 1 0)), (13, .c (.sl (.pair (.int .i64) (.pair (.int .i64) (.pair (.int .i64) (.pair (.sl (.int .i64)) (.pair (.sl .bool) (.sl (.int .u8))))))) x2)), (14, .c (.int .i64 x3)), (15, .c (.int .i64 x4)), (40, .c (.sl (.int .i64) x5)), (41, .c (.int .i64 x6)), (42, .c (.int .i64 x7))], [(0, .vec 4 .bool x8 true), (1, .cells 103 [.int .i64 x9, .int .i64 x10, .int .i64 x11, .sl (.int .i64) x12, .sl .bool x13, .sl (.int .u8) x14])], 2, 0⟩
noncomputable def E140_2 (K : Ev.Ex → Ev.St → Option Ans) : (Int × (List Bool) → Option Ans) × ((List (Int × (Int × (Int × ((List Int) × ((List Bool) × (List Int))))))) × Int × (List (Int × (Int × (Int × ((List Int) × ((List Bool) × (List Int))))))) × Int × Int × (List Bool) × Int × Int × Int × (List Int) × (List Bool) × (List Int) → Option Ans) := ((fun v => match v with | (x0, x1) => K .ret ⟨[(2, .c (.own 0)), (3, .c (.int .i64 x0))], [(0, .vec 4 .bool x1 true)], 1, 0⟩), (fun v => match v with | (x0, x1, x2, x3, x4, x5, x6, x7, x8, x9, x10, x11) => K .normal ⟨[(0, .c (.sl (.pair (.int .i64) (.pair (.int .i64) (.pair (.int .i64) (.pair (.sl (.int .i64)) (.pair (.sl .bool) (.sl (.int .u8))))))) x0)), (4, .c (.own 0)), (5, .c (.int .i64 x1)), (6, .c (.ptr 1 0)), (13, .c (.sl (.pair (.int .i64) (.pair (.int .i64) (.pair (.int .i64) (.pair (.sl (.int .i64)) (.pair (.sl .bool) (.sl (.int .u8))))))) x2)), (14, .c (.int .i64 x3)), (15, .c (.int .i64 x4))], [(0, .vec 4 .bool x5 true), (1, .cells 103 [.int .i64 x6, .int .i64 x7, .int .i64 x8, .sl (.int .i64) x9, .sl .bool x10, .sl (.int .u8) x11])], 2, 0⟩))
theorem S140_2_okg (fuel : Nat) (f64 : YF64) (f194 : YF194) (R : Ev.St → Option Ans) (K : Ev.Ex → Ev.St → Option Ans) (x0 : (List (Int × (Int × (Int × ((List Int) × ((List Bool) × (List Int)))))))) (x1 : Int) (x2 : (List (Int × (Int × (Int × ((List Int) × ((List Bool) × (List Int)))))))) (x3 x4 : Int) (x5 : (List Int)) (x6 x7 : Int) (x8 : (List Bool)) (x9 x10 x11 : Int) (x12 : (List Int)) (x13 : (List Bool)) (x14 : (List Int)) : evalCode tab (Gg140 f64 f194) (J140_2 fuel) kp140 fuel (bodyOf 2 Try.f140) (T140_2 (x0, x1, x2, x3, x4, x5, x6, x7, x8, x9, x10, x11, x12, x13, x14)) (lc kp140 8 2 R K) = Sg_ref12_kept_2 fuel f64 f194 x0 x1 x2 x3 x4 x5 x6 x7 x8 x9 x10 x11 x12 x13 x14 (fun v => R (T140_2 v)) (E140_2 K) := by
  kernel_rfl
theorem S140_2_ok (fuel : Nat) (R : Ev.St → Option Ans) (K : Ev.Ex → Ev.St → Option Ans) (x0 : (List (Int × (Int × (Int × ((List Int) × ((List Bool) × (List Int)))))))) (x1 : Int) (x2 : (List (Int × (Int × (Int × ((List Int) × ((List Bool) × (List Int)))))))) (x3 x4 : Int) (x5 : (List Int)) (x6 x7 : Int) (x8 : (List Bool)) (x9 x10 x11 : Int) (x12 : (List Int)) (x13 : (List Bool)) (x14 : (List Int)) : evalCode tab (G140 fuel) (J140_2 fuel) kp140 fuel (bodyOf 2 Try.f140) (T140_2 (x0, x1, x2, x3, x4, x5, x6, x7, x8, x9, x10, x11, x12, x13, x14)) (lc kp140 8 2 R K) = S_ref12_kept_2 fuel (x0, x1, x2, x3, x4, x5, x6, x7, x8, x9, x10, x11, x12, x13, x14) (fun v => R (T140_2 v)) (E140_2 K) :=
  S140_2_okg fuel (F_ref12_Valid fuel) (F_ref12_find fuel) R K x0 x1 x2 x3 x4 x5 x6 x7 x8 x9 x10 x11 x12 x13 x14
noncomputable def B140_2 (fuel : Nat) : Ev.Blk := fun st K => match canonO (kp140 8) st with
 | some s => (match s with
 | ⟨[(q0, .c (.sl (.pair (.int .i64) (.pair (.int .i64) (.pair (.int .i64) (.pair (.sl (.int .i64)) (.pair (.sl .bool) (.sl (.int .u8))))))) x0)), (q1, .c (.own q2)), (q3, .c (.int .i64 x1)), (q4, .c (.ptr q5 q6)), (q7, .c (.sl (.pair (.int .i64) (.pair (.int .i64) (.pair (.int .i64) (.pair (.sl (.int .i64)) (.pair (.sl .bool) (.sl (.int .u8))))))) x2)), (q8, .c (.int .i64 x3)), (q9, .c (.int .i64 x4)), (q10, .c (.sl (.int .i64) x5)), (q11, .c (.int .i64 x6)), (q12, .c (.int .i64 x7))], [(q13, .vec q14 .bool x8 true), (q15, .cells q16 [.int .i64 x9, .int .i64 x10, .int .i64 x11, .sl (.int .i64) x12, .sl .bool x13, .sl (.int .u8) x14])], q17, q18⟩ => bif Nat.beq q0 0 && Nat.beq q1 4 && Nat.beq q2 0 && Nat.beq q3 5 && Nat.beq q4 6 && Nat.beq q5 1 && Nat.beq q6 0 && Nat.beq q7 13 && Nat.beq q8 14 && Nat.beq q9 15 && Nat.beq q10 40 && Nat.beq q11 41 && Nat.beq q12 42 && Nat.beq q13 0 && Nat.beq q14 4 && Nat.beq q15 1 && Nat.beq q16 103 && Nat.beq q17 2 && Nat.beq q18 0 then iter (S_ref12_kept_2 fuel) fuel (x0, x1, x2, x3, x4, x5, x6, x7, x8, x9, x10, x11, x12, x13, x14) (E140_2 K) else none
 | _ => none)
 | none => none
theorem B140_2_ok (fuel : Nat) (st : Ev.St) (K : Ev.Ex → Ev.St → Option Ans) (r : Ans) (h : B140_2 fuel st K = some r) : evalCode tab (G140 fuel) (J140_2 fuel) kp140 fuel (.block 2 (.loop (bodyOf 2 Try.f140))) st K = some r := by
  unfold B140_2 at h
  split at h
  · rename_i s hs
    split at h
    · skip
      obtain ⟨hb, h⟩ := cond_some' h
      simp only [Bool.and_eq_true, Nat.beq_eq, decide_eq_true_eq] at hb
      obtain ⟨⟨⟨⟨⟨⟨⟨⟨⟨⟨⟨⟨⟨⟨⟨⟨⟨⟨rfl, rfl⟩, rfl⟩, rfl⟩, rfl⟩, rfl⟩, rfl⟩, rfl⟩, rfl⟩, rfl⟩, rfl⟩, rfl⟩, rfl⟩, rfl⟩, rfl⟩, rfl⟩, rfl⟩, rfl⟩, rfl⟩ := hb
      exact blk_loop (S := T140_2) (ks := E140_2) (step := S_ref12_kept_2 fuel) (v := (_, _, _, _, _, _, _, _, _, _, _, _, _, _, _)) (by kernel_rfl) (by kernel_rfl) (fun R K v => by obtain ⟨x0, x1, x2, x3, x4, x5, x6, x7, x8, x9, x10, x11, x12, x13, x14⟩ := v; exact S140_2_ok fuel R K x0 x1 x2 x3 x4 x5 x6 x7 x8 x9 x10 x11 x12 x13 x14) hs h
    · cases h
  · cases h
noncomputable def Sg_ref12_kept_0 (fuel : Nat) (f64 : YF64) (f194 : YF194) (x0 : (List (Int × (Int × (Int × ((List Int) × ((List Bool) × (List Int)))))))) (x1 : (List (Int × (Int × (Int × ((List Int) × ((List Bool) × (List Int)))))))) (x2 x3 : Int) (x4 : (List Bool)) (c : ((List (Int × (Int × (Int × ((List Int) × ((List Bool) × (List Int))))))) × (List (Int × (Int × (Int × ((List Int) × ((List Bool) × (List Int))))))) × Int × Int × (List Bool)) → Option Ans) (B : (Int × (List Bool) → Option Ans) × ((List Bool) → Option Ans)) : Option Ans := match B with
 | (ret, b) =>
  bif decide (x3 < x2) then
  bif decide ((0 : Int) ≤ x3 ∧ x3 < (↑x1.length : Int)) then
  (f64 ((x1.getD x3.toNat ((0 : Int), (0 : Int), (0 : Int), [], [], [])).fst) ((x1.getD x3.toNat ((0 : Int), (0 : Int), (0 : Int), [], [], [])).snd.fst) ((x1.getD x3.toNat ((0 : Int), (0 : Int), (0 : Int), [], [], [])).snd.snd.fst) ((x1.getD x3.toNat ((0 : Int), (0 : Int), (0 : Int), [], [], [])).snd.snd.snd.fst) ((x1.getD x3.toNat ((0 : Int), (0 : Int), (0 : Int), [], [], [])).snd.snd.snd.snd.fst) ((x1.getD x3.toNat ((0 : Int), (0 : Int), (0 : Int), [], [], [])).snd.snd.snd.snd.snd)
  (fun y4 =>
  bif !y4 then
  ret (x3, [])
  else
  bif decide (x3 > (0 : Int)) then
  bif decide ((0 : Int) ≤ IntKind.i64.wrap (x3 - (1 : Int)) ∧ IntKind.i64.wrap (x3 - (1 : Int)) < (↑x0.length : Int)) then
  bif decide ((x1.getD x3.toNat ((0 : Int), (0 : Int), (0 : Int), [], [], [])).fst ≤ (x0.getD (IntKind.i64.wrap (x3 - (1 : Int))).toNat ((0 : Int), (0 : Int), (0 : Int), [], [], [])).fst) then
  ret (x3, [])
  else
  (L_ref12_kept_2 fuel (x0, x3, x1, x2, x3, (x1.getD x3.toNat ((0 : Int), (0 : Int), (0 : Int), [], [], [])).snd.snd.snd.fst, (↑(List.length (x1.getD x3.toNat ((0 : Int), (0 : Int), (0 : Int), [], [], [])).snd.snd.snd.fst) : Int), (0 : Int), x4, (x1.getD x3.toNat ((0 : Int), (0 : Int), (0 : Int), [], [], [])).fst, (x1.getD x3.toNat ((0 : Int), (0 : Int), (0 : Int), [], [], [])).snd.fst, (x1.getD x3.toNat ((0 : Int), (0 : Int), (0 : Int), [], [], [])).snd.snd.fst, (x1.getD x3.toNat ((0 : Int), (0 : Int), (0 : Int), [], [], [])).snd.snd.snd.fst, (x1.getD x3.toNat ((0 : Int), (0 : Int), (0 : Int), [], [], [])).snd.snd.snd.snd.fst, (x1.getD x3.toNat ((0 : Int), (0 : Int), (0 : Int), [], [], [])).snd.snd.snd.snd.snd)
  (fun (ret2_0, ret2_1) =>
  ret (ret2_0, ret2_1))
  (fun (b2_0, b2_1, b2_2, b2_3, b2_4, b2_5, b2_6, b2_7, b2_8, b2_9, b2_10, b2_11) =>
  bif decide ((0 : Int) ≤ (↑b2_9.length : Int) ∧ (↑b2_9.length : Int) < (↑b2_10.length : Int)) then
  bif decide ((0 : Int) ≤ b2_1 ∧ b2_1 < (↑b2_5.length : Int)) then
  c (b2_0, b2_2, b2_3, IntKind.i64.wrap (b2_4 + (1 : Int)), b2_5.set b2_1.toNat (b2_10.getD (↑b2_9.length : Int).toNat false))
  else none
  else none))
  else none
  else
  (L_ref12_kept_2 fuel (x0, x3, x1, x2, x3, (x1.getD x3.toNat ((0 : Int), (0 : Int), (0 : Int), [], [], [])).snd.snd.snd.fst, (↑(List.length (x1.getD x3.toNat ((0 : Int), (0 : Int), (0 : Int), [], [], [])).snd.snd.snd.fst) : Int), (0 : Int), x4, (x1.getD x3.toNat ((0 : Int), (0 : Int), (0 : Int), [], [], [])).fst, (x1.getD x3.toNat ((0 : Int), (0 : Int), (0 : Int), [], [], [])).snd.fst, (x1.getD x3.toNat ((0 : Int), (0 : Int), (0 : Int), [], [], [])).snd.snd.fst, (x1.getD x3.toNat ((0 : Int), (0 : Int), (0 : Int), [], [], [])).snd.snd.snd.fst, (x1.getD x3.toNat ((0 : Int), (0 : Int), (0 : Int), [], [], [])).snd.snd.snd.snd.fst, (x1.getD x3.toNat ((0 : Int), (0 : Int), (0 : Int), [], [], [])).snd.snd.snd.snd.snd)
  (fun (ret2_0, ret2_1) =>
  ret (ret2_0, ret2_1))
  (fun (b2_0, b2_1, b2_2, b2_3, b2_4, b2_5, b2_6, b2_7, b2_8, b2_9, b2_10, b2_11) =>
  bif decide ((0 : Int) ≤ (↑b2_9.length : Int) ∧ (↑b2_9.length : Int) < (↑b2_10.length : Int)) then
  bif decide ((0 : Int) ≤ b2_1 ∧ b2_1 < (↑b2_5.length : Int)) then
  c (b2_0, b2_2, b2_3, IntKind.i64.wrap (b2_4 + (1 : Int)), b2_5.set b2_1.toNat (b2_10.getD (↑b2_9.length : Int).toNat false))
  else none
  else none))))
  else none
  else
  b x4
noncomputable def S_ref12_kept_0 (fuel : Nat) (v : (List (Int × (Int × (Int × ((List Int) × ((List Bool) × (List Int))))))) × (List (Int × (Int × (Int × ((List Int) × ((List Bool) × (List Int))))))) × Int × Int × (List Bool)) (c : ((List (Int × (Int × (Int × ((List Int) × ((List Bool) × (List Int))))))) × (List (Int × (Int × (Int × ((List Int) × ((List Bool) × (List Int))))))) × Int × Int × (List Bool)) → Option Ans) (B : (Int × (List Bool) → Option Ans) × ((List Bool) → Option Ans)) : Option Ans := match v with
 | (x0, x1, x2, x3, x4) => Sg_ref12_kept_0 fuel (F_ref12_Valid fuel) (F_ref12_find fuel) x0 x1 x2 x3 x4 c B
noncomputable def L_ref12_kept_0 (fuel : Nat) (v : (List (Int × (Int × (Int × ((List Int) × ((List Bool) × (List Int))))))) × (List (Int × (Int × (Int × ((List Int) × ((List Bool) × (List Int))))))) × Int × Int × (List Bool)) (ret : (Int × (List Bool) → Option Ans)) (b : ((List Bool) → Option Ans)) : Option Ans := iter (S_ref12_kept_0 fuel) fuel v (ret, b)
noncomputable def J140_0 (fuel : Nat) (i : Nat) : Option Ev.Blk := Ev.look i [(100002, B140_2 fuel)]
noncomputable def T140_0 (v : (List (Int × (Int × (Int × ((List Int) × ((List Bool) × (List Int))))))) × (List (Int × (Int × (Int × ((List Int) × ((List Bool) × (List Int))))))) × Int × Int × (List Bool)) : Ev.St := match v with | (x0, x1, x2, x3, x4) => ⟨[(0, .c (.sl (.pair (.int .i64) (.pair (.int .i64) (.pair (.int .i64) (.pair (.sl (.int .i64)) (.pair (.sl .bool) (.sl (.int .u8))))))) x0)), (4, .c (.own 0)), (13, .c (.sl (.pair (.int .i64) (.pair (.int .i64) (.pair (.int .i64) (.pair (.sl (.int .i64)) (.pair (.sl .bool) (.sl (.int .u8))))))) x1)), (14, .c (.int .i64 x2)), (15, .c (.int .i64 x3))], [(0, .vec 4 .bool x4 true)], 1, 0⟩
noncomputable def E140_0 (K : Ev.Ex → Ev.St → Option Ans) : (Int × (List Bool) → Option Ans) × ((List Bool) → Option Ans) := ((fun v => match v with | (x0, x1) => K .ret ⟨[(2, .c (.own 0)), (3, .c (.int .i64 x0))], [(0, .vec 4 .bool x1 true)], 1, 0⟩), (fun v => match v with | x0 => K .normal ⟨[(4, .c (.own 0))], [(0, .vec 4 .bool x0 true)], 1, 0⟩))
theorem S140_0_okg (fuel : Nat) (f64 : YF64) (f194 : YF194) (R : Ev.St → Option Ans) (K : Ev.Ex → Ev.St → Option Ans) (x0 : (List (Int × (Int × (Int × ((List Int) × ((List Bool) × (List Int)))))))) (x1 : (List (Int × (Int × (Int × ((List Int) × ((List Bool) × (List Int)))))))) (x2 x3 : Int) (x4 : (List Bool)) : evalCode tab (Gg140 f64 f194) (J140_0 fuel) kp140 fuel (bodyOf 0 Try.f140) (T140_0 (x0, x1, x2, x3, x4)) (lc kp140 3 0 R K) = Sg_ref12_kept_0 fuel f64 f194 x0 x1 x2 x3 x4 (fun v => R (T140_0 v)) (E140_0 K) := by
  kernel_rfl
theorem S140_0_ok (fuel : Nat) (R : Ev.St → Option Ans) (K : Ev.Ex → Ev.St → Option Ans) (x0 : (List (Int × (Int × (Int × ((List Int) × ((List Bool) × (List Int)))))))) (x1 : (List (Int × (Int × (Int × ((List Int) × ((List Bool) × (List Int)))))))) (x2 x3 : Int) (x4 : (List Bool)) : evalCode tab (G140 fuel) (J140_0 fuel) kp140 fuel (bodyOf 0 Try.f140) (T140_0 (x0, x1, x2, x3, x4)) (lc kp140 3 0 R K) = S_ref12_kept_0 fuel (x0, x1, x2, x3, x4) (fun v => R (T140_0 v)) (E140_0 K) :=
  S140_0_okg fuel (F_ref12_Valid fuel) (F_ref12_find fuel) R K x0 x1 x2 x3 x4
noncomputable def B140_0 (fuel : Nat) : Ev.Blk := fun st K => match canonO (kp140 3) st with
 | some s => (match s with
 | ⟨[(q0, .c (.sl (.pair (.int .i64) (.pair (.int .i64) (.pair (.int .i64) (.pair (.sl (.int .i64)) (.pair (.sl .bool) (.sl (.int .u8))))))) x0)), (q1, .c (.own q2)), (q3, .c (.sl (.pair (.int .i64) (.pair (.int .i64) (.pair (.int .i64) (.pair (.sl (.int .i64)) (.pair (.sl .bool) (.sl (.int .u8))))))) x1)), (q4, .c (.int .i64 x2)), (q5, .c (.int .i64 x3))], [(q6, .vec q7 .bool x4 true)], q8, q9⟩ => bif Nat.beq q0 0 && Nat.beq q1 4 && Nat.beq q2 0 && Nat.beq q3 13 && Nat.beq q4 14 && Nat.beq q5 15 && Nat.beq q6 0 && Nat.beq q7 4 && Nat.beq q8 1 && Nat.beq q9 0 then iter (S_ref12_kept_0 fuel) fuel (x0, x1, x2, x3, x4) (E140_0 K) else none
 | _ => none)
 | none => none
theorem B140_0_ok (fuel : Nat) (st : Ev.St) (K : Ev.Ex → Ev.St → Option Ans) (r : Ans) (h : B140_0 fuel st K = some r) : evalCode tab (G140 fuel) (J140_0 fuel) kp140 fuel (.block 0 (.loop (bodyOf 0 Try.f140))) st K = some r := by
  unfold B140_0 at h
  split at h
  · rename_i s hs
    split at h
    · skip
      obtain ⟨hb, h⟩ := cond_some' h
      simp only [Bool.and_eq_true, Nat.beq_eq, decide_eq_true_eq] at hb
      obtain ⟨⟨⟨⟨⟨⟨⟨⟨⟨rfl, rfl⟩, rfl⟩, rfl⟩, rfl⟩, rfl⟩, rfl⟩, rfl⟩, rfl⟩, rfl⟩ := hb
      exact blk_loop (S := T140_0) (ks := E140_0) (step := S_ref12_kept_0 fuel) (v := (_, _, _, _, _)) (by kernel_rfl) (by kernel_rfl) (fun R K v => by obtain ⟨x0, x1, x2, x3, x4⟩ := v; exact S140_0_ok fuel R K x0 x1 x2 x3 x4) hs h
    · cases h
  · cases h
noncomputable def J140 (fuel : Nat) (i : Nat) : Option Ev.Blk := Ev.look i [(100002, B140_2 fuel), (100000, B140_0 fuel)]
noncomputable def Fg_ref12_kept (fuel : Nat) (f64 : YF64) (f194 : YF194) (x0 : (List (Int × Int × Int × (List Int) × (List Bool) × (List Int)))) (k0 : (Int × (List Bool)) → Option Ans) : Option Ans :=
  bif decide ((0 : Int) ≤ (↑x0.length : Int) ∧ (↑x0.length : Int) = (↑x0.length : Int) ∧ (↑(1 : Nat) : Int) * (↑x0.length : Int) ≤ (281474976710656 : Int) ∧ (↑x0.length : Int) ≤ (281474976710656 : Int)) then
  (L_ref12_kept_0 fuel (x0, x0, (↑x0.length : Int), (0 : Int), List.replicate (↑x0.length : Int).toNat false)
  (fun (ret0_0, ret0_1) =>
  k0 (ret0_0, ret0_1))
  (fun b0_0 =>
  k0 ((-1 : Int), b0_0)))
  else none
noncomputable def F_ref12_kept (fuel : Nat) (x0 : (List (Int × Int × Int × (List Int) × (List Bool) × (List Int)))) (k0 : (Int × (List Bool)) → Option Ans) : Option Ans := Fg_ref12_kept fuel (F_ref12_Valid fuel) (F_ref12_find fuel) x0 k0
abbrev YF140 : Type := ((List (Int × Int × Int × (List Int) × (List Bool) × (List Int)))) → ((Int × (List Bool)) → Option Ans) → Option Ans
theorem F140_eqg (fuel : Nat) (f64 : YF64) (f194 : YF194) (x0 : (List (Int × Int × Int × (List Int) × (List Bool) × (List Int)))) (k : Ev.Cont) : evalFn tab (Gg140 f64 f194) (J140 fuel) kp140 fuel Try.f140 [.c (.sl (.pair (.int .i64) (.pair (.int .i64) (.pair (.int .i64) (.pair (.sl (.int .i64)) (.pair (.sl .bool) (.sl (.int .u8))))))) x0)] [] k = Fg_ref12_kept fuel f64 f194 x0 (fun r => match r with | (r0, r1) => k (.tup [(false, [.own 0]), (false, [.int .i64 r0])], [.vec 4 .bool r1 true])) := by
  kernel_rfl
theorem F140_eq (fuel : Nat) (x0 : (List (Int × Int × Int × (List Int) × (List Bool) × (List Int)))) (k : Ev.Cont) : evalFn tab (G140 fuel) (J140 fuel) kp140 fuel Try.f140 [.c (.sl (.pair (.int .i64) (.pair (.int .i64) (.pair (.int .i64) (.pair (.sl (.int .i64)) (.pair (.sl .bool) (.sl (.int .u8))))))) x0)] [] k = F_ref12_kept fuel x0 (fun r => match r with | (r0, r1) => k (.tup [(false, [.own 0]), (false, [.int .i64 r0])], [.vec 4 .bool r1 true])) :=
  F140_eqg fuel (F_ref12_Valid fuel) (F_ref12_find fuel) x0 k
theorem hG140 (fuel : Nat) : GOK Try.prog (G140 fuel) :=
  gok_cons ⟨ok64 fuel, enters_of Try.func64 (by kernel_rfl) rfl⟩ <|
  gok_cons ⟨ok194 fuel, enters_of Try.func194 (by kernel_rfl) rfl⟩ <|
  gok_nil
theorem B140_2_blk (fuel : Nat) : BlkOK Try.prog Try.f140.ntmps (.block 2 (.loop (bodyOf 2 Try.f140))) (B140_2 fuel) :=
  blk_of (blk_of_code tab_ok (hG140 fuel) mixed (J := J140_2 fuel) (kp := kp140) (fuel := fuel) (by kernel_rfl) (fun q hq => by
    rw [(by kernel_rfl : obl (J140_2 fuel) (.block 2 (.loop (bodyOf 2 Try.f140))) = [])] at hq
    cases hq)) (B140_2_ok fuel)
theorem B140_0_blk (fuel : Nat) : BlkOK Try.prog Try.f140.ntmps (.block 0 (.loop (bodyOf 0 Try.f140))) (B140_0 fuel) :=
  blk_of (blk_of_code tab_ok (hG140 fuel) mixed (J := J140_0 fuel) (kp := kp140) (fuel := fuel) (by kernel_rfl) (fun q hq => by
    rw [(by kernel_rfl : obl (J140_0 fuel) (.block 0 (.loop (bodyOf 0 Try.f140))) = [(.block 2 (.loop (bodyOf 2 Try.f140)), B140_2 fuel)])] at hq
    simp only [List.mem_cons, List.not_mem_nil, or_false] at hq
    subst hq
    · exact B140_2_blk fuel)) (B140_0_ok fuel)
theorem fok140 (fuel : Nat) : FnOK Try.prog 140 (evalFn tab (G140 fuel) (J140 fuel) kp140 fuel Try.f140) :=
  fn_ok tab_ok (hG140 fuel) mixed Try.func140 (c := (Try.f140.body).getD .skip) rfl (fun q hq => by
    rw [(by kernel_rfl : obl (J140 fuel) ((Try.f140.body).getD .skip) = [(.block 0 (.loop (bodyOf 0 Try.f140)), B140_0 fuel)])] at hq
    simp only [List.mem_cons, List.not_mem_nil, or_false] at hq
    subst hq
    · exact B140_0_blk fuel)
noncomputable def mt140 : List Ev.SV → List Ev.Ob → Bool := fun args objs => match args, objs with
 | [.c (.sl (.pair (.int .i64) (.pair (.int .i64) (.pair (.int .i64) (.pair (.sl (.int .i64)) (.pair (.sl .bool) (.sl (.int .u8))))))) _)], [] => true
 | _, _ => false
noncomputable def spg140 (F : YF140) : Ev.Spec := fun args objs k => match args, objs with
 | [.c (.sl (.pair (.int .i64) (.pair (.int .i64) (.pair (.int .i64) (.pair (.sl (.int .i64)) (.pair (.sl .bool) (.sl (.int .u8))))))) x0)], [] => bif true then F x0 (fun r => match r with | (r0, r1) => k (.tup [(false, [.own 0]), (false, [.int .i64 r0])], [.vec 4 .bool r1 true])) else none
 | _, _ => none
noncomputable def spec140 (fuel : Nat) : Ev.Spec := spg140 (F_ref12_kept fuel)
theorem ok140 (fuel : Nat) : FnOK Try.prog 140 (spec140 fuel) := by
  intro args objs kk r h
  unfold spec140 spg140 at h
  split at h
  · skip
    obtain ⟨hb, h⟩ := cond_some' h
    simp only [Bool.and_eq_true, Nat.beq_eq, decide_eq_true_eq] at hb
    clear hb
    exact fok140 fuel _ _ kk r ((F140_eq fuel _ kk).trans h)
  · cases h
end Go.Proofs.Ytihfgpfofmjbaaa

set_option linter.unusedVariables false
set_option linter.unusedSimpArgs false
set_option maxRecDepth 100000
set_option maxHeartbeats 2000000
namespace Go.Proofs.Ytihfgpfofmjbaaa
open Go Ev
def kp65 (i : Nat) : Option (List Nat) := Ev.look i []
noncomputable def Gg65 (f140 : YF140) (f : Nat) : Option Ev.Spec := Ev.look f [(140, spg140 f140)]
noncomputable def G65 (fuel : Nat) : Nat → Option Ev.Spec := Gg65 (F_ref12_kept fuel)
noncomputable def J65 (fuel : Nat) (i : Nat) : Option Ev.Blk := Ev.look i []
noncomputable def Fg_ref12_InOrder (fuel : Nat) (f140 : YF140) (x0 : (List (Int × Int × Int × (List Int) × (List Bool) × (List Int)))) (k0 : (Int × Int) → Option Ans) : Option Ans :=
  (f140 (x0)
  (fun (y2_0, y2_1) =>
  bif decide (y2_0 ≥ (0 : Int)) then
  k0 (y2_0, (40 : Int))
  else
  k0 ((-1 : Int), (0 : Int))))
noncomputable def F_ref12_InOrder (fuel : Nat) (x0 : (List (Int × Int × Int × (List Int) × (List Bool) × (List Int)))) (k0 : (Int × Int) → Option Ans) : Option Ans := Fg_ref12_InOrder fuel (F_ref12_kept fuel) x0 k0
abbrev YF65 : Type := ((List (Int × Int × Int × (List Int) × (List Bool) × (List Int)))) → ((Int × Int) → Option Ans) → Option Ans
theorem F65_eqg (fuel : Nat) (f140 : YF140) (x0 : (List (Int × Int × Int × (List Int) × (List Bool) × (List Int)))) (k : Ev.Cont) : evalFn tab (Gg65 f140) (J65 fuel) kp65 fuel Try.f65 [.c (.sl (.pair (.int .i64) (.pair (.int .i64) (.pair (.int .i64) (.pair (.sl (.int .i64)) (.pair (.sl .bool) (.sl (.int .u8))))))) x0)] [] k = Fg_ref12_InOrder fuel f140 x0 (fun r => match r with | (r0, r1) => k (.tup [(false, [.int .i64 r0]), (false, [.int .i64 r1])], [])) := by
  kernel_rfl
theorem F65_eq (fuel : Nat) (x0 : (List (Int × Int × Int × (List Int) × (List Bool) × (List Int)))) (k : Ev.Cont) : evalFn tab (G65 fuel) (J65 fuel) kp65 fuel Try.f65 [.c (.sl (.pair (.int .i64) (.pair (.int .i64) (.pair (.int .i64) (.pair (.sl (.int .i64)) (.pair (.sl .bool) (.sl (.int .u8))))))) x0)] [] k = F_ref12_InOrder fuel x0 (fun r => match r with | (r0, r1) => k (.tup [(false, [.int .i64 r0]), (false, [.int .i64 r1])], [])) :=
  F65_eqg fuel (F_ref12_kept fuel) x0 k
theorem hG65 (fuel : Nat) : GOK Try.prog (G65 fuel) :=
  gok_cons ⟨ok140 fuel, enters_of Try.func140 (by kernel_rfl) rfl⟩ <|
  gok_nil
theorem fok65 (fuel : Nat) : FnOK Try.prog 65 (evalFn tab (G65 fuel) (J65 fuel) kp65 fuel Try.f65) :=
  fn_ok tab_ok (hG65 fuel) mixed Try.func65 (c := (Try.f65.body).getD .skip) rfl (fun q hq => by
    rw [(by kernel_rfl : obl (J65 fuel) ((Try.f65.body).getD .skip) = [])] at hq
    cases hq)
noncomputable def mt65 : List Ev.SV → List Ev.Ob → Bool := fun args objs => match args, objs with
 | [.c (.sl (.pair (.int .i64) (.pair (.int .i64) (.pair (.int .i64) (.pair (.sl (.int .i64)) (.pair (.sl .bool) (.sl (.int .u8))))))) _)], [] => true
 | _, _ => false
noncomputable def spg65 (F : YF65) : Ev.Spec := fun args objs k => match args, objs with
 | [.c (.sl (.pair (.int .i64) (.pair (.int .i64) (.pair (.int .i64) (.pair (.sl (.int .i64)) (.pair (.sl .bool) (.sl (.int .u8))))))) x0)], [] => bif true then F x0 (fun r => match r with | (r0, r1) => k (.tup [(false, [.int .i64 r0]), (false, [.int .i64 r1])], [])) else none
 | _, _ => none
noncomputable def spec65 (fuel : Nat) : Ev.Spec := spg65 (F_ref12_InOrder fuel)
theorem ok65 (fuel : Nat) : FnOK Try.prog 65 (spec65 fuel) := by
  intro args objs kk r h
  unfold spec65 spg65 at h
  split at h
  · skip
    obtain ⟨hb, h⟩ := cond_some' h
    simp only [Bool.and_eq_true, Nat.beq_eq, decide_eq_true_eq] at hb
    clear hb
    exact fok65 fuel _ _ kk r ((F65_eq fuel _ kk).trans h)
  · cases h
end Go.Proofs.Ytihfgpfofmjbaaa

set_option linter.unusedVariables false
set_option linter.unusedSimpArgs false
set_option maxRecDepth 100000
set_option maxHeartbeats 2000000
namespace Go.Proofs.Ytihfgpfofmjbaaa
open Go Ev
def kp177_775 (i : Nat) : Option (List Nat) := Ev.look i []
noncomputable def Gg177_775 (f65 : YF65) (f174_6fe : YF174_6fe) (f : Nat) : Option Ev.Spec := Ev.look f [(65, spg65 f65), (174, spg174_6fe f174_6fe)]
noncomputable def G177_775 (fuel : Nat) : Nat → Option Ev.Spec := Gg177_775 (F_ref12_InOrder fuel) (F_ref14_Parsed_failed_6fe fuel)
noncomputable def J177_775 (fuel : Nat) (i : Nat) : Option Ev.Blk := Ev.look i []
noncomputable def Fg_ref14_Parsed_ordered_775 (fuel : Nat) (f65 : YF65) (f174_6fe : YF174_6fe) (x0 x1 x2 : Int) (x3 : (List (Int × (Int × (Int × ((List Int) × ((List Bool) × (List Int)))))))) (x4 : (List Int)) (x5 : (List (Int × Int))) (k0 : (Int × Int × Int × (List (Int × (Int × (Int × ((List Int) × ((List Bool) × (List Int))))))) × (List Int) × (List (Int × Int))) → Option Ans) : Option Ans :=
  (f65 (x3)
  (fun (y2_0, y2_1) =>
  bif y2_1 != (0 : Int) then
  bif decide ((0 : Int) ≤ y2_0 ∧ y2_0 < (↑x4.length : Int)) then
  (f174_6fe (x4.getD y2_0.toNat (0 : Int)) (y2_1) (x0) (x1) (x2) (x3) (x4) (x5)
  (fun (y8_0, y8_1, y8_2, y8_3, y8_4, y8_5) =>
  k0 (y8_0, y8_1, y8_2, y8_3, y8_4, y8_5)))
  else none
  else
  k0 (x0, x1, x2, x3, x4, x5)))
noncomputable def F_ref14_Parsed_ordered_775 (fuel : Nat) (x0 x1 x2 : Int) (x3 : (List (Int × (Int × (Int × ((List Int) × ((List Bool) × (List Int)))))))) (x4 : (List Int)) (x5 : (List (Int × Int))) (k0 : (Int × Int × Int × (List (Int × (Int × (Int × ((List Int) × ((List Bool) × (List Int))))))) × (List Int) × (List (Int × Int))) → Option Ans) : Option Ans := Fg_ref14_Parsed_ordered_775 fuel (F_ref12_InOrder fuel) (F_ref14_Parsed_failed_6fe fuel) x0 x1 x2 x3 x4 x5 k0
abbrev YF177_775 : Type := (Int) → (Int) → (Int) → ((List (Int × (Int × (Int × ((List Int) × ((List Bool) × (List Int)))))))) → ((List Int)) → ((List (Int × Int))) → ((Int × Int × Int × (List (Int × (Int × (Int × ((List Int) × ((List Bool) × (List Int))))))) × (List Int) × (List (Int × Int))) → Option Ans) → Option Ans
theorem F177_775_eqg (fuel : Nat) (f65 : YF65) (f174_6fe : YF174_6fe) (x0 x1 x2 : Int) (x3 : (List (Int × (Int × (Int × ((List Int) × ((List Bool) × (List Int)))))))) (x4 : (List Int)) (x5 : (List (Int × Int))) (k : Ev.Cont) : evalFn tab (Gg177_775 f65 f174_6fe) (J177_775 fuel) kp177_775 fuel Try.f177 [.c (.ptr 0 0)] [.cells 145 [.int .i64 x0, .own 1, .own 2, .own 3, .int .i64 x1, .int .i64 x2], .vec 103 (.pair (.int .i64) (.pair (.int .i64) (.pair (.int .i64) (.pair (.sl (.int .i64)) (.pair (.sl .bool) (.sl (.int .u8))))))) x3 false, .vec 3 (.int .i64) x4 false, .vec 44 (.pair (.int .i64) (.int .i64)) x5 false] k = Fg_ref14_Parsed_ordered_775 fuel f65 f174_6fe x0 x1 x2 x3 x4 x5 (fun r => match r with | (r0, r1, r2, r3, r4, r5) => k (.c (.ptr 0 0), [.cells 145 [.int .i64 r0, .own 1, .own 2, .own 3, .int .i64 r1, .int .i64 r2], .vec 103 (.pair (.int .i64) (.pair (.int .i64) (.pair (.int .i64) (.pair (.sl (.int .i64)) (.pair (.sl .bool) (.sl (.int .u8))))))) r3 false, .vec 3 (.int .i64) r4 false, .vec 44 (.pair (.int .i64) (.int .i64)) r5 false])) := by
  kernel_rfl
theorem F177_775_eq (fuel : Nat) (x0 x1 x2 : Int) (x3 : (List (Int × (Int × (Int × ((List Int) × ((List Bool) × (List Int)))))))) (x4 : (List Int)) (x5 : (List (Int × Int))) (k : Ev.Cont) : evalFn tab (G177_775 fuel) (J177_775 fuel) kp177_775 fuel Try.f177 [.c (.ptr 0 0)] [.cells 145 [.int .i64 x0, .own 1, .own 2, .own 3, .int .i64 x1, .int .i64 x2], .vec 103 (.pair (.int .i64) (.pair (.int .i64) (.pair (.int .i64) (.pair (.sl (.int .i64)) (.pair (.sl .bool) (.sl (.int .u8))))))) x3 false, .vec 3 (.int .i64) x4 false, .vec 44 (.pair (.int .i64) (.int .i64)) x5 false] k = F_ref14_Parsed_ordered_775 fuel x0 x1 x2 x3 x4 x5 (fun r => match r with | (r0, r1, r2, r3, r4, r5) => k (.c (.ptr 0 0), [.cells 145 [.int .i64 r0, .own 1, .own 2, .own 3, .int .i64 r1, .int .i64 r2], .vec 103 (.pair (.int .i64) (.pair (.int .i64) (.pair (.int .i64) (.pair (.sl (.int .i64)) (.pair (.sl .bool) (.sl (.int .u8))))))) r3 false, .vec 3 (.int .i64) r4 false, .vec 44 (.pair (.int .i64) (.int .i64)) r5 false])) :=
  F177_775_eqg fuel (F_ref12_InOrder fuel) (F_ref14_Parsed_failed_6fe fuel) x0 x1 x2 x3 x4 x5 k
theorem hG177_775 (fuel : Nat) : GOK Try.prog (G177_775 fuel) :=
  gok_cons ⟨ok65 fuel, enters_of Try.func65 (by kernel_rfl) rfl⟩ <|
  gok_cons ⟨ok174_6fe fuel, enters_of Try.func174 (by kernel_rfl) rfl⟩ <|
  gok_nil
theorem fok177_775 (fuel : Nat) : FnOK Try.prog 177 (evalFn tab (G177_775 fuel) (J177_775 fuel) kp177_775 fuel Try.f177) :=
  fn_ok tab_ok (hG177_775 fuel) mixed Try.func177 (c := (Try.f177.body).getD .skip) rfl (fun q hq => by
    rw [(by kernel_rfl : obl (J177_775 fuel) ((Try.f177.body).getD .skip) = [])] at hq
    cases hq)
noncomputable def mt177_775 : List Ev.SV → List Ev.Ob → Bool := fun args objs => match args, objs with
 | [.c (.ptr q0 q1)], [.cells q2 [.int .i64 _, .own q3, .own q4, .own q5, .int .i64 _, .int .i64 _], .vec q6 (.pair (.int .i64) (.pair (.int .i64) (.pair (.int .i64) (.pair (.sl (.int .i64)) (.pair (.sl .bool) (.sl (.int .u8))))))) _ false, .vec q7 (.int .i64) _ false, .vec q8 (.pair (.int .i64) (.int .i64)) _ false] => Nat.beq q0 0 && Nat.beq q1 0 && Nat.beq q2 145 && Nat.beq q3 1 && Nat.beq q4 2 && Nat.beq q5 3 && Nat.beq q6 103 && Nat.beq q7 3 && Nat.beq q8 44
 | _, _ => false
noncomputable def spg177_775 (F : YF177_775) : Ev.Spec := fun args objs k => match args, objs with
 | [.c (.ptr q0 q1)], [.cells q2 [.int .i64 x0, .own q3, .own q4, .own q5, .int .i64 x1, .int .i64 x2], .vec q6 (.pair (.int .i64) (.pair (.int .i64) (.pair (.int .i64) (.pair (.sl (.int .i64)) (.pair (.sl .bool) (.sl (.int .u8))))))) x3 false, .vec q7 (.int .i64) x4 false, .vec q8 (.pair (.int .i64) (.int .i64)) x5 false] => bif Nat.beq q0 0 && Nat.beq q1 0 && Nat.beq q2 145 && Nat.beq q3 1 && Nat.beq q4 2 && Nat.beq q5 3 && Nat.beq q6 103 && Nat.beq q7 3 && Nat.beq q8 44 then F x0 x1 x2 x3 x4 x5 (fun r => match r with | (r0, r1, r2, r3, r4, r5) => k (.c (.ptr 0 0), [.cells 145 [.int .i64 r0, .own 1, .own 2, .own 3, .int .i64 r1, .int .i64 r2], .vec 103 (.pair (.int .i64) (.pair (.int .i64) (.pair (.int .i64) (.pair (.sl (.int .i64)) (.pair (.sl .bool) (.sl (.int .u8))))))) r3 false, .vec 3 (.int .i64) r4 false, .vec 44 (.pair (.int .i64) (.int .i64)) r5 false])) else none
 | _, _ => none
noncomputable def spec177_775 (fuel : Nat) : Ev.Spec := spg177_775 (F_ref14_Parsed_ordered_775 fuel)
theorem ok177_775 (fuel : Nat) : FnOK Try.prog 177 (spec177_775 fuel) := by
  intro args objs kk r h
  unfold spec177_775 spg177_775 at h
  split at h
  · skip
    obtain ⟨hb, h⟩ := cond_some' h
    simp only [Bool.and_eq_true, Nat.beq_eq, decide_eq_true_eq] at hb
    obtain ⟨⟨⟨⟨⟨⟨⟨⟨rfl, rfl⟩, rfl⟩, rfl⟩, rfl⟩, rfl⟩, rfl⟩, rfl⟩, rfl⟩ := hb
    exact fok177_775 fuel _ _ kk r ((F177_775_eq fuel _ _ _ _ _ _ kk).trans h)
  · cases h
end Go.Proofs.Ytihfgpfofmjbaaa

set_option linter.unusedVariables false
set_option linter.unusedSimpArgs false
set_option maxRecDepth 100000
set_option maxHeartbeats 2000000
namespace Go.Proofs.Ytihfgpfofmjbaaa
open Go Ev
def kp131 (i : Nat) : Option (List Nat) := Ev.look i [(10, [0, 3, 4, 6]), (19, [0, 3, 4, 7]), (100001, [0, 3, 4]), (100003, [0, 3, 4]), (400001, [2]), (400003, [2])]
noncomputable def Gg131 (f174_6fe : YF174_6fe) (f175_bb9 : YF175_bb9) (f176_4ba : YF176_4ba) (f177_775 : YF177_775) (f : Nat) : Option Ev.Spec := Ev.look f [(174, spg174_6fe f174_6fe), (175, spg175_bb9 f175_bb9), (176, spg176_4ba f176_4ba), (177, spg177_775 f177_775)]
noncomputable def G131 (fuel : Nat) : Nat → Option Ev.Spec := Gg131 (F_ref14_Parsed_failed_6fe fuel) (F_ref14_Parsed_header_bb9 fuel) (F_ref14_Parsed_data_4ba fuel) (F_ref14_Parsed_ordered_775 fuel)
noncomputable def Sg_ref14_Parse_1 (fuel : Nat) (f174_6fe : YF174_6fe) (f175_bb9 : YF175_bb9) (f176_4ba : YF176_4ba) (f177_775 : YF177_775) (x0 : (List Int)) (x1 x2 : Int) (x3 x4 x5 : Int) (x6 : (List (Int × (Int × (Int × ((List Int) × ((List Bool) × (List Int)))))))) (x7 : (List Int)) (x8 : (List (Int × Int))) (c : ((List Int) × Int × Int × Int × Int × Int × (List (Int × (Int × (Int × ((List Int) × ((List Bool) × (List Int))))))) × (List Int) × (List (Int × Int))) → Option Ans) (B : (Int × Int × Int × (List (Int × (Int × (Int × ((List Int) × ((List Bool) × (List Int))))))) × (List Int) × (List (Int × Int)) → Option Ans) × ((List Int) × Int × Int × Int × Int × (List (Int × (Int × (Int × ((List Int) × ((List Bool) × (List Int))))))) × (List Int) × (List (Int × Int)) → Option Ans)) : Option Ans := match B with
 | (ret, b) =>
  (f175_bb9 (x0) (x1) (x3) (x4) (x5) (x6) (x7) (x8)
  (fun (y2_0, y2_1, y2_2, y2_3, y2_4, y2_5, y2_6) =>
  bif y2_0 == (0 : Int) then
  ret (y2_1, y2_2, y2_3, y2_4, y2_5, y2_6)
  else
  bif y2_1 == (0 : Int) then
  (f176_4ba (x0) (x2) (y2_0) (y2_1) (y2_2) (y2_3) (y2_4) (y2_5) (y2_6)
  (fun (y8_0, y8_1, y8_2, y8_3, y8_4, y8_5, y8_6, y8_7) =>
  bif !y8_1 then
  ret (y8_2, y8_3, y8_4, y8_5, y8_6, y8_7)
  else
  bif decide ((0 : Int) ≤ x2 ∧ x2 < (↑y8_5.length : Int)) then
  bif (y8_5.getD x2.toNat ((0 : Int), (0 : Int), (0 : Int), [], [], [])).snd.fst == (9 : Int) then
  b (x0, y8_0, y8_2, y8_3, y8_4, y8_5, y8_6, y8_7)
  else
  c (x0, y8_0, IntKind.i64.wrap (x2 + (1 : Int)), y8_2, y8_3, y8_4, y8_5, y8_6, y8_7)
  else none))
  else
  bif decide ((0 : Int) ≤ x2 ∧ x2 < (↑y2_4.length : Int)) then
  bif (y2_4.getD x2.toNat ((0 : Int), (0 : Int), (0 : Int), [], [], [])).snd.fst == (9 : Int) then
  b (x0, y2_0, y2_1, y2_2, y2_3, y2_4, y2_5, y2_6)
  else
  c (x0, y2_0, IntKind.i64.wrap (x2 + (1 : Int)), y2_1, y2_2, y2_3, y2_4, y2_5, y2_6)
  else none)
  (fun (y2_0, y2_1, y2_2, y2_3, y2_4, y2_5, y2_6) =>
  bif y2_0 == (0 : Int) then
  ret (y2_1, y2_2, y2_3, y2_4, y2_5, y2_6)
  else
  bif y2_1 == (0 : Int) then
  (f176_4ba (x0) (x2) (y2_0) (y2_1) (y2_2) (y2_3) (y2_4) (y2_5) (y2_6)
  (fun (y8_0, y8_1, y8_2, y8_3, y8_4, y8_5, y8_6, y8_7) =>
  bif !y8_1 then
  ret (y8_2, y8_3, y8_4, y8_5, y8_6, y8_7)
  else
  bif decide ((0 : Int) ≤ x2 ∧ x2 < (↑y8_5.length : Int)) then
  bif (y8_5.getD x2.toNat ((0 : Int), (0 : Int), (0 : Int), [], [], [])).snd.fst == (9 : Int) then
  b (x0, y8_0, y8_2, y8_3, y8_4, y8_5, y8_6, y8_7)
  else
  c (x0, y8_0, IntKind.i64.wrap (x2 + (1 : Int)), y8_2, y8_3, y8_4, y8_5, y8_6, y8_7)
  else none))
  else
  bif decide ((0 : Int) ≤ x2 ∧ x2 < (↑y2_4.length : Int)) then
  bif (y2_4.getD x2.toNat ((0 : Int), (0 : Int), (0 : Int), [], [], [])).snd.fst == (9 : Int) then
  b (x0, y2_0, y2_1, y2_2, y2_3, y2_4, y2_5, y2_6)
  else
  c (x0, y2_0, IntKind.i64.wrap (x2 + (1 : Int)), y2_1, y2_2, y2_3, y2_4, y2_5, y2_6)
  else none))
noncomputable def S_ref14_Parse_1 (fuel : Nat) (v : (List Int) × Int × Int × Int × Int × Int × (List (Int × (Int × (Int × ((List Int) × ((List Bool) × (List Int))))))) × (List Int) × (List (Int × Int))) (c : ((List Int) × Int × Int × Int × Int × Int × (List (Int × (Int × (Int × ((List Int) × ((List Bool) × (List Int))))))) × (List Int) × (List (Int × Int))) → Option Ans) (B : (Int × Int × Int × (List (Int × (Int × (Int × ((List Int) × ((List Bool) × (List Int))))))) × (List Int) × (List (Int × Int)) → Option Ans) × ((List Int) × Int × Int × Int × Int × (List (Int × (Int × (Int × ((List Int) × ((List Bool) × (List Int))))))) × (List Int) × (List (Int × Int)) → Option Ans)) : Option Ans := match v with
 | (x0, x1, x2, x3, x4, x5, x6, x7, x8) => Sg_ref14_Parse_1 fuel (F_ref14_Parsed_failed_6fe fuel) (F_ref14_Parsed_header_bb9 fuel) (F_ref14_Parsed_data_4ba fuel) (F_ref14_Parsed_ordered_775 fuel) x0 x1 x2 x3 x4 x5 x6 x7 x8 c B
noncomputable def L_ref14_Parse_1 (fuel : Nat) (v : (List Int) × Int × Int × Int × Int × Int × (List (Int × (Int × (Int × ((List Int) × ((List Bool) × (List Int))))))) × (List Int) × (List (Int × Int))) (ret : (Int × Int × Int × (List (Int × (Int × (Int × ((List Int) × ((List Bool) × (List Int))))))) × (List Int) × (List (Int × Int)) → Option Ans)) (b : ((List Int) × Int × Int × Int × Int × (List (Int × (Int × (Int × ((List Int) × ((List Bool) × (List Int))))))) × (List Int) × (List (Int × Int)) → Option Ans)) : Option Ans := iter (S_ref14_Parse_1 fuel) fuel v (ret, b)
noncomputable def J131_1 (fuel : Nat) (i : Nat) : Option Ev.Blk := Ev.look i []
noncomputable def T131_1 (v : (List Int) × Int × Int × Int × Int × Int × (List (Int × (Int × (Int × ((List Int) × ((List Bool) × (List Int))))))) × (List Int) × (List (Int × Int))) : Ev.St := match v with | (x0, x1, x2, x3, x4, x5, x6, x7, x8) => ⟨[(0, .c (.sl (.int .u8) x0)), (3, .c (.ptr 0 0)), (4, .c (.int .i64 x1)), (6, .c (.int .i64 x2))], [(0, .cells 145 [.int .i64 x3, .own 1, .own 2, .own 3, .int .i64 x4, .int .i64 x5]), (1, .vec 103 (.pair (.int .i64) (.pair (.int .i64) (.pair (.int .i64) (.pair (.sl (.int .i64)) (.pair (.sl .bool) (.sl (.int .u8))))))) x6 true), (2, .vec 3 (.int .i64) x7 true), (3, .vec 44 (.pair (.int .i64) (.int .i64)) x8 true)], 4, 0⟩
noncomputable def E131_1 (K : Ev.Ex → Ev.St → Option Ans) : (Int × Int × Int × (List (Int × (Int × (Int × ((List Int) × ((List Bool) × (List Int))))))) × (List Int) × (List (Int × Int)) → Option Ans) × ((List Int) × Int × Int × Int × Int × (List (Int × (Int × (Int × ((List Int) × ((List Bool) × (List Int))))))) × (List Int) × (List (Int × Int)) → Option Ans) := ((fun v => match v with | (x0, x1, x2, x3, x4, x5) => K .ret ⟨[(2, .c (.ptr 0 0))], [(0, .cells 145 [.int .i64 x0, .own 1, .own 2, .own 3, .int .i64 x1, .int .i64 x2]), (1, .vec 103 (.pair (.int .i64) (.pair (.int .i64) (.pair (.int .i64) (.pair (.sl (.int .i64)) (.pair (.sl .bool) (.sl (.int .u8))))))) x3 true), (2, .vec 3 (.int .i64) x4 true), (3, .vec 44 (.pair (.int .i64) (.int .i64)) x5 true)], 4, 0⟩), (fun v => match v with | (x0, x1, x2, x3, x4, x5, x6, x7) => K .normal ⟨[(0, .c (.sl (.int .u8) x0)), (3, .c (.ptr 0 0)), (4, .c (.int .i64 x1))], [(0, .cells 145 [.int .i64 x2, .own 1, .own 2, .own 3, .int .i64 x3, .int .i64 x4]), (1, .vec 103 (.pair (.int .i64) (.pair (.int .i64) (.pair (.int .i64) (.pair (.sl (.int .i64)) (.pair (.sl .bool) (.sl (.int .u8))))))) x5 true), (2, .vec 3 (.int .i64) x6 true), (3, .vec 44 (.pair (.int .i64) (.int .i64)) x7 true)], 4, 0⟩))
theorem S131_1_okg (fuel : Nat) (f174_6fe : YF174_6fe) (f175_bb9 : YF175_bb9) (f176_4ba : YF176_4ba) (f177_775 : YF177_775) (R : Ev.St → Option Ans) (K : Ev.Ex → Ev.St → Option Ans) (x0 : (List Int)) (x1 x2 : Int) (x3 x4 x5 : Int) (x6 : (List (Int × (Int × (Int × ((List Int) × ((List Bool) × (List Int)))))))) (x7 : (List Int)) (x8 : (List (Int × Int))) : evalCode tab (Gg131 f174_6fe f175_bb9 f176_4ba f177_775) (J131_1 fuel) kp131 fuel (bodyOf 1 Try.f131) (T131_1 (x0, x1, x2, x3, x4, x5, x6, x7, x8)) (lc kp131 10 1 R K) = Sg_ref14_Parse_1 fuel f174_6fe f175_bb9 f176_4ba f177_775 x0 x1 x2 x3 x4 x5 x6 x7 x8 (fun v => R (T131_1 v)) (E131_1 K) := by
  kernel_rfl
theorem S131_1_ok (fuel : Nat) (R : Ev.St → Option Ans) (K : Ev.Ex → Ev.St → Option Ans) (x0 : (List Int)) (x1 x2 : Int) (x3 x4 x5 : Int) (x6 : (List (Int × (Int × (Int × ((List Int) × ((List Bool) × (List Int)))))))) (x7 : (List Int)) (x8 : (List (Int × Int))) : evalCode tab (G131 fuel) (J131_1 fuel) kp131 fuel (bodyOf 1 Try.f131) (T131_1 (x0, x1, x2, x3, x4, x5, x6, x7, x8)) (lc kp131 10 1 R K) = S_ref14_Parse_1 fuel (x0, x1, x2, x3, x4, x5, x6, x7, x8) (fun v => R (T131_1 v)) (E131_1 K) :=
  S131_1_okg fuel (F_ref14_Parsed_failed_6fe fuel) (F_ref14_Parsed_header_bb9 fuel) (F_ref14_Parsed_data_4ba fuel) (F_ref14_Parsed_ordered_775 fuel) R K x0 x1 x2 x3 x4 x5 x6 x7 x8
noncomputable def B131_1 (fuel : Nat) : Ev.Blk := fun st K => match canonO (kp131 10) st with
 | some s => (match s with
 | ⟨[(q0, .c (.sl (.int .u8) x0)), (q1, .c (.ptr q2 q3)), (q4, .c (.int .i64 x1)), (q5, .c (.int .i64 x2))], [(q6, .cells q7 [.int .i64 x3, .own q8, .own q9, .own q10, .int .i64 x4, .int .i64 x5]), (q11, .vec q12 (.pair (.int .i64) (.pair (.int .i64) (.pair (.int .i64) (.pair (.sl (.int .i64)) (.pair (.sl .bool) (.sl (.int .u8))))))) x6 true), (q13, .vec q14 (.int .i64) x7 true), (q15, .vec q16 (.pair (.int .i64) (.int .i64)) x8 true)], q17, q18⟩ => bif Nat.beq q0 0 && Nat.beq q1 3 && Nat.beq q2 0 && Nat.beq q3 0 && Nat.beq q4 4 && Nat.beq q5 6 && Nat.beq q6 0 && Nat.beq q7 145 && Nat.beq q8 1 && Nat.beq q9 2 && Nat.beq q10 3 && Nat.beq q11 1 && Nat.beq q12 103 && Nat.beq q13 2 && Nat.beq q14 3 && Nat.beq q15 3 && Nat.beq q16 44 && Nat.beq q17 4 && Nat.beq q18 0 then iter (S_ref14_Parse_1 fuel) fuel (x0, x1, x2, x3, x4, x5, x6, x7, x8) (E131_1 K) else none
 | _ => none)
 | none => none
theorem B131_1_ok (fuel : Nat) (st : Ev.St) (K : Ev.Ex → Ev.St → Option Ans) (r : Ans) (h : B131_1 fuel st K = some r) : evalCode tab (G131 fuel) (J131_1 fuel) kp131 fuel (.block 1 (.loop (bodyOf 1 Try.f131))) st K = some r := by
  unfold B131_1 at h
  split at h
  · rename_i s hs
    split at h
    · skip
      obtain ⟨hb, h⟩ := cond_some' h
      simp only [Bool.and_eq_true, Nat.beq_eq, decide_eq_true_eq] at hb
      obtain ⟨⟨⟨⟨⟨⟨⟨⟨⟨⟨⟨⟨⟨⟨⟨⟨⟨⟨rfl, rfl⟩, rfl⟩, rfl⟩, rfl⟩, rfl⟩, rfl⟩, rfl⟩, rfl⟩, rfl⟩, rfl⟩, rfl⟩, rfl⟩, rfl⟩, rfl⟩, rfl⟩, rfl⟩, rfl⟩, rfl⟩ := hb
      exact blk_loop (S := T131_1) (ks := E131_1) (step := S_ref14_Parse_1 fuel) (v := (_, _, _, _, _, _, _, _, _)) (by kernel_rfl) (by kernel_rfl) (fun R K v => by obtain ⟨x0, x1, x2, x3, x4, x5, x6, x7, x8⟩ := v; exact S131_1_ok fuel R K x0 x1 x2 x3 x4 x5 x6 x7 x8) hs h
    · cases h
  · cases h
noncomputable def Sg_ref14_Parse_3 (fuel : Nat) (f174_6fe : YF174_6fe) (f175_bb9 : YF175_bb9) (f176_4ba : YF176_4ba) (f177_775 : YF177_775) (x0 : (List Int)) (x1 x2 : Int) (x3 x4 x5 : Int) (x6 : (List (Int × (Int × (Int × ((List Int) × ((List Bool) × (List Int)))))))) (x7 : (List Int)) (x8 : (List (Int × Int))) (c : ((List Int) × Int × Int × Int × Int × Int × (List (Int × (Int × (Int × ((List Int) × ((List Bool) × (List Int))))))) × (List Int) × (List (Int × Int))) → Option Ans) (B : (Int × Int × Int × (List (Int × (Int × (Int × ((List Int) × ((List Bool) × (List Int))))))) × (List Int) × (List (Int × Int)) → Option Ans) × ((List Int) × Int × Int × Int × Int × (List (Int × (Int × (Int × ((List Int) × ((List Bool) × (List Int))))))) × (List Int) × (List (Int × Int)) → Option Ans)) : Option Ans := match B with
 | (ret, b) =>
  bif x3 == (1 : Int) then
  bif decide (x2 < (↑x6.length : Int)) then
  (f176_4ba (x0) (x2) (x1) (x3) (x4) (x5) (x6) (x7) (x8)
  (fun (y4_0, y4_1, y4_2, y4_3, y4_4, y4_5, y4_6, y4_7) =>
  bif !y4_1 then
  ret (y4_2, y4_3, y4_4, y4_5, y4_6, y4_7)
  else
  c (x0, y4_0, IntKind.i64.wrap (x2 + (1 : Int)), y4_2, y4_3, y4_4, y4_5, y4_6, y4_7)))
  else
  b (x0, x1, x3, x4, x5, x6, x7, x8)
  else
  b (x0, x1, x3, x4, x5, x6, x7, x8)
noncomputable def S_ref14_Parse_3 (fuel : Nat) (v : (List Int) × Int × Int × Int × Int × Int × (List (Int × (Int × (Int × ((List Int) × ((List Bool) × (List Int))))))) × (List Int) × (List (Int × Int))) (c : ((List Int) × Int × Int × Int × Int × Int × (List (Int × (Int × (Int × ((List Int) × ((List Bool) × (List Int))))))) × (List Int) × (List (Int × Int))) → Option Ans) (B : (Int × Int × Int × (List (Int × (Int × (Int × ((List Int) × ((List Bool) × (List Int))))))) × (List Int) × (List (Int × Int)) → Option Ans) × ((List Int) × Int × Int × Int × Int × (List (Int × (Int × (Int × ((List Int) × ((List Bool) × (List Int))))))) × (List Int) × (List (Int × Int)) → Option Ans)) : Option Ans := match v with
 | (x0, x1, x2, x3, x4, x5, x6, x7, x8) => Sg_ref14_Parse_3 fuel (F_ref14_Parsed_failed_6fe fuel) (F_ref14_Parsed_header_bb9 fuel) (F_ref14_Parsed_data_4ba fuel) (F_ref14_Parsed_ordered_775 fuel) x0 x1 x2 x3 x4 x5 x6 x7 x8 c B
noncomputable def L_ref14_Parse_3 (fuel : Nat) (v : (List Int) × Int × Int × Int × Int × Int × (List (Int × (Int × (Int × ((List Int) × ((List Bool) × (List Int))))))) × (List Int) × (List (Int × Int))) (ret : (Int × Int × Int × (List (Int × (Int × (Int × ((List Int) × ((List Bool) × (List Int))))))) × (List Int) × (List (Int × Int)) → Option Ans)) (b : ((List Int) × Int × Int × Int × Int × (List (Int × (Int × (Int × ((List Int) × ((List Bool) × (List Int))))))) × (List Int) × (List (Int × Int)) → Option Ans)) : Option Ans := iter (S_ref14_Parse_3 fuel) fuel v (ret, b)
noncomputable def J131_3 (fuel : Nat) (i : Nat) : Option Ev.Blk := Ev.look i [(100001, B131_1 fuel)]
noncomputable def T131_3 (v : (List Int) × Int × Int × Int × Int × Int × (List (Int × (Int × (Int × ((List Int) × ((List Bool) × (List Int))))))) × (List Int) × (List (Int × Int))) : Ev.St := match v with | (x0, x1, x2, x3, x4, x5, x6, x7, x8) => ⟨[(0, .c (.sl (.int .u8) x0)), (3, .c (.ptr 0 0)), (4, .c (.int .i64 x1)), (7, .c (.int .i64 x2))], [(0, .cells 145 [.int .i64 x3, .own 1, .own 2, .own 3, .int .i64 x4, .int .i64 x5]), (1, .vec 103 (.pair (.int .i64) (.pair (.int .i64) (.pair (.int .i64) (.pair (.sl (.int .i64)) (.pair (.sl .bool) (.sl (.int .u8))))))) x6 true), (2, .vec 3 (.int .i64) x7 true), (3, .vec 44 (.pair (.int .i64) (.int .i64)) x8 true)], 4, 0⟩
noncomputable def E131_3 (K : Ev.Ex → Ev.St → Option Ans) : (Int × Int × Int × (List (Int × (Int × (Int × ((List Int) × ((List Bool) × (List Int))))))) × (List Int) × (List (Int × Int)) → Option Ans) × ((List Int) × Int × Int × Int × Int × (List (Int × (Int × (Int × ((List Int) × ((List Bool) × (List Int))))))) × (List Int) × (List (Int × Int)) → Option Ans) := ((fun v => match v with | (x0, x1, x2, x3, x4, x5) => K .ret ⟨[(2, .c (.ptr 0 0))], [(0, .cells 145 [.int .i64 x0, .own 1, .own 2, .own 3, .int .i64 x1, .int .i64 x2]), (1, .vec 103 (.pair (.int .i64) (.pair (.int .i64) (.pair (.int .i64) (.pair (.sl (.int .i64)) (.pair (.sl .bool) (.sl (.int .u8))))))) x3 true), (2, .vec 3 (.int .i64) x4 true), (3, .vec 44 (.pair (.int .i64) (.int .i64)) x5 true)], 4, 0⟩), (fun v => match v with | (x0, x1, x2, x3, x4, x5, x6, x7) => K .normal ⟨[(0, .c (.sl (.int .u8) x0)), (3, .c (.ptr 0 0)), (4, .c (.int .i64 x1))], [(0, .cells 145 [.int .i64 x2, .own 1, .own 2, .own 3, .int .i64 x3, .int .i64 x4]), (1, .vec 103 (.pair (.int .i64) (.pair (.int .i64) (.pair (.int .i64) (.pair (.sl (.int .i64)) (.pair (.sl .bool) (.sl (.int .u8))))))) x5 true), (2, .vec 3 (.int .i64) x6 true), (3, .vec 44 (.pair (.int .i64) (.int .i64)) x7 true)], 4, 0⟩))
theorem S131_3_okg (fuel : Nat) (f174_6fe : YF174_6fe) (f175_bb9 : YF175_bb9) (f176_4ba : YF176_4ba) (f177_775 : YF177_775) (R : Ev.St → Option Ans) (K : Ev.Ex → Ev.St → Option Ans) (x0 : (List Int)) (x1 x2 : Int) (x3 x4 x5 : Int) (x6 : (List (Int × (Int × (Int × ((List Int) × ((List Bool) × (List Int)))))))) (x7 : (List Int)) (x8 : (List (Int × Int))) : evalCode tab (Gg131 f174_6fe f175_bb9 f176_4ba f177_775) (J131_3 fuel) kp131 fuel (bodyOf 3 Try.f131) (T131_3 (x0, x1, x2, x3, x4, x5, x6, x7, x8)) (lc kp131 19 3 R K) = Sg_ref14_Parse_3 fuel f174_6fe f175_bb9 f176_4ba f177_775 x0 x1 x2 x3 x4 x5 x6 x7 x8 (fun v => R (T131_3 v)) (E131_3 K) := by
  kernel_rfl
theorem S131_3_ok (fuel : Nat) (R : Ev.St → Option Ans) (K : Ev.Ex → Ev.St → Option Ans) (x0 : (List Int)) (x1 x2 : Int) (x3 x4 x5 : Int) (x6 : (List (Int × (Int × (Int × ((List Int) × ((List Bool) × (List Int)))))))) (x7 : (List Int)) (x8 : (List (Int × Int))) : evalCode tab (G131 fuel) (J131_3 fuel) kp131 fuel (bodyOf 3 Try.f131) (T131_3 (x0, x1, x2, x3, x4, x5, x6, x7, x8)) (lc kp131 19 3 R K) = S_ref14_Parse_3 fuel (x0, x1, x2, x3, x4, x5, x6, x7, x8) (fun v => R (T131_3 v)) (E131_3 K) :=
  S131_3_okg fuel (F_ref14_Parsed_failed_6fe fuel) (F_ref14_Parsed_header_bb9 fuel) (F_ref14_Parsed_data_4ba fuel) (F_ref14_Parsed_ordered_775 fuel) R K x0 x1 x2 x3 x4 x5 x6 x7 x8
noncomputable def B131_3 (fuel : Nat) : Ev.Blk := fun st K => match canonO (kp131 19) st with
 | some s => (match s with
 | ⟨[(q0, .c (.sl (.int .u8) x0)), (q1, .c (.ptr q2 q3)), (q4, .c (.int .i64 x1)), (q5, .c (.int .i64 x2))], [(q6, .cells q7 [.int .i64 x3, .own q8, .own q9, .own q10, .int .i64 x4, .int .i64 x5]), (q11, .vec q12 (.pair (.int .i64) (.pair (.int .i64) (.pair (.int .i64) (.pair (.sl (.int .i64)) (.pair (.sl .bool) (.sl (.int .u8))))))) x6 true), (q13, .vec q14 (.int .i64) x7 true), (q15, .vec q16 (.pair (.int .i64) (.int .i64)) x8 true)], q17, q18⟩ => bif Nat.beq q0 0 && Nat.beq q1 3 && Nat.beq q2 0 && Nat.beq q3 0 && Nat.beq q4 4 && Nat.beq q5 7 && Nat.beq q6 0 && Nat.beq q7 145 && Nat.beq q8 1 && Nat.beq q9 2 && Nat.beq q10 3 && Nat.beq q11 1 && Nat.beq q12 103 && Nat.beq q13 2 && Nat.beq q14 3 && Nat.beq q15 3 && Nat.beq q16 44 && Nat.beq q17 4 && Nat.beq q18 0 then iter (S_ref14_Parse_3 fuel) fuel (x0, x1, x2, x3, x4, x5, x6, x7, x8) (E131_3 K) else none
 | _ => none)
 | none => none
theorem B131_3_ok (fuel : Nat) (st : Ev.St) (K : Ev.Ex → Ev.St → Option Ans) (r : Ans) (h : B131_3 fuel st K = some r) : evalCode tab (G131 fuel) (J131_3 fuel) kp131 fuel (.block 3 (.loop (bodyOf 3 Try.f131))) st K = some r := by
  unfold B131_3 at h
  split at h
  · rename_i s hs
    split at h
    · skip
      obtain ⟨hb, h⟩ := cond_some' h
      simp only [Bool.and_eq_true, Nat.beq_eq, decide_eq_true_eq] at hb
      obtain ⟨⟨⟨⟨⟨⟨⟨⟨⟨⟨⟨⟨⟨⟨⟨⟨⟨⟨rfl, rfl⟩, rfl⟩, rfl⟩, rfl⟩, rfl⟩, rfl⟩, rfl⟩, rfl⟩, rfl⟩, rfl⟩, rfl⟩, rfl⟩, rfl⟩, rfl⟩, rfl⟩, rfl⟩, rfl⟩, rfl⟩ := hb
      exact blk_loop (S := T131_3) (ks := E131_3) (step := S_ref14_Parse_3 fuel) (v := (_, _, _, _, _, _, _, _, _)) (by kernel_rfl) (by kernel_rfl) (fun R K v => by obtain ⟨x0, x1, x2, x3, x4, x5, x6, x7, x8⟩ := v; exact S131_3_ok fuel R K x0 x1 x2 x3 x4 x5 x6 x7 x8) hs h
    · cases h
  · cases h
noncomputable def J131 (fuel : Nat) (i : Nat) : Option Ev.Blk := Ev.look i [(100001, B131_1 fuel), (100003, B131_3 fuel)]
noncomputable def Fg_ref14_Parse (fuel : Nat) (f174_6fe : YF174_6fe) (f175_bb9 : YF175_bb9) (f176_4ba : YF176_4ba) (f177_775 : YF177_775) (x0 : (List Int)) (k0 : (Int × Int × Int × (List (Int × (Int × (Int × ((List Int) × ((List Bool) × (List Int))))))) × (List Int) × (List (Int × Int))) → Option Ans) : Option Ans :=
  bif decide ((↑x0.length : Int) > (40000 : Int)) then
  (f174_6fe ((0 : Int)) ((4 : Int)) ((0 : Int)) ((0 : Int)) ((0 : Int)) ([]) ([]) ([])
  (fun (y3_0, y3_1, y3_2, y3_3, y3_4, y3_5) =>
  k0 (y3_0, y3_1, y3_2, y3_3, y3_4, y3_5)))
  else
  bif decide ((↑x0.length : Int) < (5 : Int)) then
  (f174_6fe ((0 : Int)) ((3 : Int)) ((0 : Int)) ((0 : Int)) ((0 : Int)) ([]) ([]) ([])
  (fun (y4_0, y4_1, y4_2, y4_3, y4_4, y4_5) =>
  k0 (y4_0, y4_1, y4_2, y4_3, y4_4, y4_5)))
  else
  bif decide ((0 : Int) ≤ Ev.loOf Option.none ∧ Ev.loOf Option.none ≤ Ev.hiOf (some (4 : Int)) (↑x0.length : Int) ∧ Ev.hiOf (some (4 : Int)) (↑x0.length : Int) ≤ (↑x0.length : Int)) then
  bif !(Go.strOfNums (List.take (Ev.hiOf (some (4 : Int)) (↑x0.length : Int) - Ev.loOf Option.none).toNat (List.drop (Ev.loOf Option.none).toNat x0))).toList == (ByteArray.mk #[(73 : UInt8), (78 : UInt8), (67 : UInt8), (49 : UInt8)]).toList then
  (f174_6fe ((0 : Int)) ((3 : Int)) ((0 : Int)) ((0 : Int)) ((0 : Int)) ([]) ([]) ([])
  (fun (y6_0, y6_1, y6_2, y6_3, y6_4, y6_5) =>
  k0 (y6_0, y6_1, y6_2, y6_3, y6_4, y6_5)))
  else
  bif decide ((0 : Int) ≤ (4 : Int) ∧ (4 : Int) < (↑x0.length : Int)) then
  bif decide (x0.getD (Int.toNat (4 : Int)) (0 : Int) > (1 : Int)) then
  (f174_6fe ((0 : Int)) ((3 : Int)) ((0 : Int)) ((0 : Int)) ((0 : Int)) ([]) ([]) ([])
  (fun (y8_0, y8_1, y8_2, y8_3, y8_4, y8_5) =>
  k0 (y8_0, y8_1, y8_2, y8_3, y8_4, y8_5)))
  else
  bif decide ((0 : Int) ≤ (4 : Int) ∧ (4 : Int) < (↑x0.length : Int)) then
  (L_ref14_Parse_1 fuel (x0, (5 : Int), (0 : Int), IntKind.i64.wrap (x0.getD (Int.toNat (4 : Int)) (0 : Int)), (0 : Int), (0 : Int), [], [], [])
  (fun (ret1_0, ret1_1, ret1_2, ret1_3, ret1_4, ret1_5) =>
  k0 (ret1_0, ret1_1, ret1_2, ret1_3, ret1_4, ret1_5))
  (fun (b1_0, b1_1, b1_2, b1_3, b1_4, b1_5, b1_6, b1_7) =>
  (L_ref14_Parse_3 fuel (b1_0, b1_1, (0 : Int), b1_2, b1_3, b1_4, b1_5, b1_6, b1_7)
  (fun (ret3_0, ret3_1, ret3_2, ret3_3, ret3_4, ret3_5) =>
  k0 (ret3_0, ret3_1, ret3_2, ret3_3, ret3_4, ret3_5))
  (fun (b3_0, b3_1, b3_2, b3_3, b3_4, b3_5, b3_6, b3_7) =>
  bif decide (b3_1 < (↑b3_0.length : Int)) then
  (f174_6fe (b3_1) ((60 : Int)) (b3_2) (b3_3) (b3_4) (b3_5) (b3_6) (b3_7)
  (fun (y18_0, y18_1, y18_2, y18_3, y18_4, y18_5) =>
  k0 (y18_0, y18_1, y18_2, y18_3, y18_4, y18_5)))
  else
  (f177_775 (b3_2) (b3_3) (b3_4) (b3_5) (b3_6) (b3_7)
  (fun (y18_0, y18_1, y18_2, y18_3, y18_4, y18_5) =>
  k0 (y18_0, y18_1, y18_2, y18_3, y18_4, y18_5)))))))
  else none
  else none
  else none
noncomputable def F_ref14_Parse (fuel : Nat) (x0 : (List Int)) (k0 : (Int × Int × Int × (List (Int × (Int × (Int × ((List Int) × ((List Bool) × (List Int))))))) × (List Int) × (List (Int × Int))) → Option Ans) : Option Ans := Fg_ref14_Parse fuel (F_ref14_Parsed_failed_6fe fuel) (F_ref14_Parsed_header_bb9 fuel) (F_ref14_Parsed_data_4ba fuel) (F_ref14_Parsed_ordered_775 fuel) x0 k0
abbrev YF131 : Type := ((List Int)) → ((Int × Int × Int × (List (Int × (Int × (Int × ((List Int) × ((List Bool) × (List Int))))))) × (List Int) × (List (Int × Int))) → Option Ans) → Option Ans
theorem F131_eqg (fuel : Nat) (f174_6fe : YF174_6fe) (f175_bb9 : YF175_bb9) (f176_4ba : YF176_4ba) (f177_775 : YF177_775) (x0 : (List Int)) (k : Ev.Cont) : evalFn tab (Gg131 f174_6fe f175_bb9 f176_4ba f177_775) (J131 fuel) kp131 fuel Try.f131 [.c (.sl (.int .u8) x0)] [] k = Fg_ref14_Parse fuel f174_6fe f175_bb9 f176_4ba f177_775 x0 (fun r => match r with | (r0, r1, r2, r3, r4, r5) => k (.c (.ptr 0 0), [.cells 145 [.int .i64 r0, .own 1, .own 2, .own 3, .int .i64 r1, .int .i64 r2], .vec 103 (.pair (.int .i64) (.pair (.int .i64) (.pair (.int .i64) (.pair (.sl (.int .i64)) (.pair (.sl .bool) (.sl (.int .u8))))))) r3 true, .vec 3 (.int .i64) r4 true, .vec 44 (.pair (.int .i64) (.int .i64)) r5 true])) := by
  kernel_rfl
theorem F131_eq (fuel : Nat) (x0 : (List Int)) (k : Ev.Cont) : evalFn tab (G131 fuel) (J131 fuel) kp131 fuel Try.f131 [.c (.sl (.int .u8) x0)] [] k = F_ref14_Parse fuel x0 (fun r => match r with | (r0, r1, r2, r3, r4, r5) => k (.c (.ptr 0 0), [.cells 145 [.int .i64 r0, .own 1, .own 2, .own 3, .int .i64 r1, .int .i64 r2], .vec 103 (.pair (.int .i64) (.pair (.int .i64) (.pair (.int .i64) (.pair (.sl (.int .i64)) (.pair (.sl .bool) (.sl (.int .u8))))))) r3 true, .vec 3 (.int .i64) r4 true, .vec 44 (.pair (.int .i64) (.int .i64)) r5 true])) :=
  F131_eqg fuel (F_ref14_Parsed_failed_6fe fuel) (F_ref14_Parsed_header_bb9 fuel) (F_ref14_Parsed_data_4ba fuel) (F_ref14_Parsed_ordered_775 fuel) x0 k
theorem hG131 (fuel : Nat) : GOK Try.prog (G131 fuel) :=
  gok_cons ⟨ok174_6fe fuel, enters_of Try.func174 (by kernel_rfl) rfl⟩ <|
  gok_cons ⟨ok175_bb9 fuel, enters_of Try.func175 (by kernel_rfl) rfl⟩ <|
  gok_cons ⟨ok176_4ba fuel, enters_of Try.func176 (by kernel_rfl) rfl⟩ <|
  gok_cons ⟨ok177_775 fuel, enters_of Try.func177 (by kernel_rfl) rfl⟩ <|
  gok_nil
theorem B131_1_blk (fuel : Nat) : BlkOK Try.prog Try.f131.ntmps (.block 1 (.loop (bodyOf 1 Try.f131))) (B131_1 fuel) :=
  blk_of (blk_of_code tab_ok (hG131 fuel) mixed (J := J131_1 fuel) (kp := kp131) (fuel := fuel) (by kernel_rfl) (fun q hq => by
    rw [(by kernel_rfl : obl (J131_1 fuel) (.block 1 (.loop (bodyOf 1 Try.f131))) = [])] at hq
    cases hq)) (B131_1_ok fuel)
theorem B131_3_blk (fuel : Nat) : BlkOK Try.prog Try.f131.ntmps (.block 3 (.loop (bodyOf 3 Try.f131))) (B131_3 fuel) :=
  blk_of (blk_of_code tab_ok (hG131 fuel) mixed (J := J131_3 fuel) (kp := kp131) (fuel := fuel) (by kernel_rfl) (fun q hq => by
    rw [(by kernel_rfl : obl (J131_3 fuel) (.block 3 (.loop (bodyOf 3 Try.f131))) = [])] at hq
    cases hq)) (B131_3_ok fuel)
theorem fok131 (fuel : Nat) : FnOK Try.prog 131 (evalFn tab (G131 fuel) (J131 fuel) kp131 fuel Try.f131) :=
  fn_ok tab_ok (hG131 fuel) mixed Try.func131 (c := (Try.f131.body).getD .skip) rfl (fun q hq => by
    rw [(by kernel_rfl : obl (J131 fuel) ((Try.f131.body).getD .skip) = [(.block 1 (.loop (bodyOf 1 Try.f131)), B131_1 fuel), (.block 3 (.loop (bodyOf 3 Try.f131)), B131_3 fuel)])] at hq
    simp only [List.mem_cons, List.not_mem_nil, or_false] at hq
    rcases hq with rfl | rfl
    · exact B131_1_blk fuel
    · exact B131_3_blk fuel)
noncomputable def mt131 : List Ev.SV → List Ev.Ob → Bool := fun args objs => match args, objs with
 | [.c (.sl (.int .u8) _)], [] => true
 | _, _ => false
noncomputable def spg131 (F : YF131) : Ev.Spec := fun args objs k => match args, objs with
 | [.c (.sl (.int .u8) x0)], [] => bif true then F x0 (fun r => match r with | (r0, r1, r2, r3, r4, r5) => k (.c (.ptr 0 0), [.cells 145 [.int .i64 r0, .own 1, .own 2, .own 3, .int .i64 r1, .int .i64 r2], .vec 103 (.pair (.int .i64) (.pair (.int .i64) (.pair (.int .i64) (.pair (.sl (.int .i64)) (.pair (.sl .bool) (.sl (.int .u8))))))) r3 true, .vec 3 (.int .i64) r4 true, .vec 44 (.pair (.int .i64) (.int .i64)) r5 true])) else none
 | _, _ => none
noncomputable def spec131 (fuel : Nat) : Ev.Spec := spg131 (F_ref14_Parse fuel)
theorem ok131 (fuel : Nat) : FnOK Try.prog 131 (spec131 fuel) := by
  intro args objs kk r h
  unfold spec131 spg131 at h
  split at h
  · skip
    obtain ⟨hb, h⟩ := cond_some' h
    simp only [Bool.and_eq_true, Nat.beq_eq, decide_eq_true_eq] at hb
    clear hb
    exact fok131 fuel _ _ kk r ((F131_eq fuel _ kk).trans h)
  · cases h
end Go.Proofs.Ytihfgpfofmjbaaa

set_option linter.unusedVariables false
set_option linter.unusedSimpArgs false
set_option maxRecDepth 100000
set_option maxHeartbeats 2000000
namespace Go.Proofs.Ytihfgpfofmjbaaa
open Go Ev
def kp55 (i : Nat) : Option (List Nat) := Ev.look i [(200003, [4])]
noncomputable def Gg55 (f131 : YF131) (f : Nat) : Option Ev.Spec := Ev.look f [(131, spg131 f131)]
noncomputable def G55 (fuel : Nat) : Nat → Option Ev.Spec := Gg55 (F_ref14_Parse fuel)
noncomputable def J55 (fuel : Nat) (i : Nat) : Option Ev.Blk := Ev.look i []
noncomputable def Fg_ref14_Places (fuel : Nat) (f131 : YF131) (x0 : (List Int)) (k0 : (Int × (List (Int × Int))) → Option Ans) : Option Ans :=
  (f131 (x0)
  (fun (y2_0, y2_1, y2_2, y2_3, y2_4, y2_5) =>
  bif y2_1 != (0 : Int) then
  k0 (y2_1, [])
  else
  k0 ((0 : Int), y2_5)))
noncomputable def F_ref14_Places (fuel : Nat) (x0 : (List Int)) (k0 : (Int × (List (Int × Int))) → Option Ans) : Option Ans := Fg_ref14_Places fuel (F_ref14_Parse fuel) x0 k0
abbrev YF55 : Type := ((List Int)) → ((Int × (List (Int × Int))) → Option Ans) → Option Ans
theorem F55_eqg (fuel : Nat) (f131 : YF131) (x0 : (List Int)) (k : Ev.Cont) : evalFn tab (Gg55 f131) (J55 fuel) kp55 fuel Try.f55 [.c (.sl (.int .u8) x0)] [] k = Fg_ref14_Places fuel f131 x0 (fun r => match r with | (r0, r1) => k (.tup [(false, [.own 0]), (false, [.int .i64 r0])], [.vec 44 (.pair (.int .i64) (.int .i64)) r1 true])) := by
  kernel_rfl
theorem F55_eq (fuel : Nat) (x0 : (List Int)) (k : Ev.Cont) : evalFn tab (G55 fuel) (J55 fuel) kp55 fuel Try.f55 [.c (.sl (.int .u8) x0)] [] k = F_ref14_Places fuel x0 (fun r => match r with | (r0, r1) => k (.tup [(false, [.own 0]), (false, [.int .i64 r0])], [.vec 44 (.pair (.int .i64) (.int .i64)) r1 true])) :=
  F55_eqg fuel (F_ref14_Parse fuel) x0 k
theorem hG55 (fuel : Nat) : GOK Try.prog (G55 fuel) :=
  gok_cons ⟨ok131 fuel, enters_of Try.func131 (by kernel_rfl) rfl⟩ <|
  gok_nil
theorem fok55 (fuel : Nat) : FnOK Try.prog 55 (evalFn tab (G55 fuel) (J55 fuel) kp55 fuel Try.f55) :=
  fn_ok tab_ok (hG55 fuel) mixed Try.func55 (c := (Try.f55.body).getD .skip) rfl (fun q hq => by
    rw [(by kernel_rfl : obl (J55 fuel) ((Try.f55.body).getD .skip) = [])] at hq
    cases hq)
noncomputable def mt55 : List Ev.SV → List Ev.Ob → Bool := fun args objs => match args, objs with
 | [.c (.sl (.int .u8) _)], [] => true
 | _, _ => false
noncomputable def spg55 (F : YF55) : Ev.Spec := fun args objs k => match args, objs with
 | [.c (.sl (.int .u8) x0)], [] => bif true then F x0 (fun r => match r with | (r0, r1) => k (.tup [(false, [.own 0]), (false, [.int .i64 r0])], [.vec 44 (.pair (.int .i64) (.int .i64)) r1 true])) else none
 | _, _ => none
noncomputable def spec55 (fuel : Nat) : Ev.Spec := spg55 (F_ref14_Places fuel)
theorem ok55 (fuel : Nat) : FnOK Try.prog 55 (spec55 fuel) := by
  intro args objs kk r h
  unfold spec55 spg55 at h
  split at h
  · skip
    obtain ⟨hb, h⟩ := cond_some' h
    simp only [Bool.and_eq_true, Nat.beq_eq, decide_eq_true_eq] at hb
    clear hb
    exact fok55 fuel _ _ kk r ((F55_eq fuel _ kk).trans h)
  · cases h
end Go.Proofs.Ytihfgpfofmjbaaa

set_option linter.unusedVariables false
set_option linter.unusedSimpArgs false
set_option maxRecDepth 100000
set_option maxHeartbeats 2000000
namespace Go.Proofs.Ytihfgpfofmjbaaa
open Go Ev
def kp53 (i : Nat) : Option (List Nat) := Ev.look i [(200003, [5]), (200004, [5])]
noncomputable def Gg53 (f131 : YF131) (f : Nat) : Option Ev.Spec := Ev.look f [(131, spg131 f131)]
noncomputable def G53 (fuel : Nat) : Nat → Option Ev.Spec := Gg53 (F_ref14_Parse fuel)
noncomputable def J53 (fuel : Nat) (i : Nat) : Option Ev.Blk := Ev.look i []
noncomputable def Fg_ref14_Read (fuel : Nat) (f131 : YF131) (x0 : (List Int)) (k0 : (Int × Int × (List (Int × (Int × (Int × ((List Int) × ((List Bool) × (List Int)))))))) → Option Ans) : Option Ans :=
  (f131 (x0)
  (fun (y2_0, y2_1, y2_2, y2_3, y2_4, y2_5) =>
  bif y2_1 != (0 : Int) then
  k0 ((0 : Int), y2_1, [])
  else
  k0 (y2_0, (0 : Int), y2_3)))
noncomputable def F_ref14_Read (fuel : Nat) (x0 : (List Int)) (k0 : (Int × Int × (List (Int × (Int × (Int × ((List Int) × ((List Bool) × (List Int)))))))) → Option Ans) : Option Ans := Fg_ref14_Read fuel (F_ref14_Parse fuel) x0 k0
abbrev YF53 : Type := ((List Int)) → ((Int × Int × (List (Int × (Int × (Int × ((List Int) × ((List Bool) × (List Int)))))))) → Option Ans) → Option Ans
theorem F53_eqg (fuel : Nat) (f131 : YF131) (x0 : (List Int)) (k : Ev.Cont) : evalFn tab (Gg53 f131) (J53 fuel) kp53 fuel Try.f53 [.c (.sl (.int .u8) x0)] [] k = Fg_ref14_Read fuel f131 x0 (fun r => match r with | (r0, r1, r2) => k (.tup [(false, [.int .i64 r0]), (false, [.own 0]), (false, [.int .i64 r1])], [.vec 103 (.pair (.int .i64) (.pair (.int .i64) (.pair (.int .i64) (.pair (.sl (.int .i64)) (.pair (.sl .bool) (.sl (.int .u8))))))) r2 true])) := by
  kernel_rfl
theorem F53_eq (fuel : Nat) (x0 : (List Int)) (k : Ev.Cont) : evalFn tab (G53 fuel) (J53 fuel) kp53 fuel Try.f53 [.c (.sl (.int .u8) x0)] [] k = F_ref14_Read fuel x0 (fun r => match r with | (r0, r1, r2) => k (.tup [(false, [.int .i64 r0]), (false, [.own 0]), (false, [.int .i64 r1])], [.vec 103 (.pair (.int .i64) (.pair (.int .i64) (.pair (.int .i64) (.pair (.sl (.int .i64)) (.pair (.sl .bool) (.sl (.int .u8))))))) r2 true])) :=
  F53_eqg fuel (F_ref14_Parse fuel) x0 k
theorem hG53 (fuel : Nat) : GOK Try.prog (G53 fuel) :=
  gok_cons ⟨ok131 fuel, enters_of Try.func131 (by kernel_rfl) rfl⟩ <|
  gok_nil
theorem fok53 (fuel : Nat) : FnOK Try.prog 53 (evalFn tab (G53 fuel) (J53 fuel) kp53 fuel Try.f53) :=
  fn_ok tab_ok (hG53 fuel) mixed Try.func53 (c := (Try.f53.body).getD .skip) rfl (fun q hq => by
    rw [(by kernel_rfl : obl (J53 fuel) ((Try.f53.body).getD .skip) = [])] at hq
    cases hq)
noncomputable def mt53 : List Ev.SV → List Ev.Ob → Bool := fun args objs => match args, objs with
 | [.c (.sl (.int .u8) _)], [] => true
 | _, _ => false
noncomputable def spg53 (F : YF53) : Ev.Spec := fun args objs k => match args, objs with
 | [.c (.sl (.int .u8) x0)], [] => bif true then F x0 (fun r => match r with | (r0, r1, r2) => k (.tup [(false, [.int .i64 r0]), (false, [.own 0]), (false, [.int .i64 r1])], [.vec 103 (.pair (.int .i64) (.pair (.int .i64) (.pair (.int .i64) (.pair (.sl (.int .i64)) (.pair (.sl .bool) (.sl (.int .u8))))))) r2 true])) else none
 | _, _ => none
noncomputable def spec53 (fuel : Nat) : Ev.Spec := spg53 (F_ref14_Read fuel)
theorem ok53 (fuel : Nat) : FnOK Try.prog 53 (spec53 fuel) := by
  intro args objs kk r h
  unfold spec53 spg53 at h
  split at h
  · skip
    obtain ⟨hb, h⟩ := cond_some' h
    simp only [Bool.and_eq_true, Nat.beq_eq, decide_eq_true_eq] at hb
    clear hb
    exact fok53 fuel _ _ kk r ((F53_eq fuel _ kk).trans h)
  · cases h
end Go.Proofs.Ytihfgpfofmjbaaa

set_option linter.unusedVariables false
set_option linter.unusedSimpArgs false
set_option maxRecDepth 100000
set_option maxHeartbeats 2000000
namespace Go.Proofs.Ytihfgpfofmjbaaa
open Go Ev
def kp13 (i : Nat) : Option (List Nat) := Ev.look i [(10, [0, 3, 8, 9, 11, 68, 69]), (100000, [0, 3, 8]), (200012, [9, 11]), (400000, [2])]
noncomputable def Gg13 (f16 : YF16) (f36 : YF36) (f52 : YF52) (f53 : YF53) (f54 : YF54) (f55 : YF55) (f56 : YF56) (f : Nat) : Option Ev.Spec := Ev.look f [(16, spg16 f16), (36, spg36 f36), (52, spg52 f52), (53, spg53 f53), (54, spg54 f54), (55, spg55 f55), (56, spg56 f56)]
noncomputable def G13 (fuel : Nat) : Nat → Option Ev.Spec := Gg13 (F_law14_Awake fuel) (F_ref12_SameList fuel) (F_file_Read fuel) (F_ref14_Read fuel) (F_file_Places fuel) (F_ref14_Places fuel) (F_file_Way fuel)
noncomputable def Sg_law14_FileReads_0 (fuel : Nat) (f16 : YF16) (f36 : YF36) (f52 : YF52) (f53 : YF53) (f54 : YF54) (f55 : YF55) (f56 : YF56) (x0 : (List Int)) (x1 x2 : Int) (x3 x4 : Int) (x5 : (List (Int × Int))) (x6 : (List (Int × Int))) (c : ((List Int) × Int × Int × Int × Int × (List (Int × Int)) × (List (Int × Int))) → Option Ans) (B : (Bool → Option Ans) × ((List Int) × Int × Int → Option Ans)) : Option Ans := match B with
 | (ret, b) =>
  bif decide (x4 < x3) then
  bif decide ((0 : Int) ≤ x4 ∧ x4 < (↑x5.length : Int)) then
  bif decide ((0 : Int) ≤ x4 ∧ x4 < (↑x6.length : Int)) then
  both (bif !((x5.getD x4.toNat ((0 : Int), (0 : Int))).fst == (x6.getD x4.toNat ((0 : Int), (0 : Int))).fst && ((x5.getD x4.toNat ((0 : Int), (0 : Int))).snd == (x6.getD x4.toNat ((0 : Int), (0 : Int))).snd && true)) then
  ret false
  else
  c (x0, x1, x2, x3, IntKind.i64.wrap (x4 + (1 : Int)), x5, x6))
  (bif !((x5.getD x4.toNat ((0 : Int), (0 : Int))).fst == (x6.getD x4.toNat ((0 : Int), (0 : Int))).fst && ((x5.getD x4.toNat ((0 : Int), (0 : Int))).snd == (x6.getD x4.toNat ((0 : Int), (0 : Int))).snd && true)) then
  ret false
  else
  c (x0, x1, x2, x3, IntKind.i64.wrap (x4 + (1 : Int)), x5, x6))
  else none
  else none
  else
  b (x0, x1, x2)
noncomputable def S_law14_FileReads_0 (fuel : Nat) (v : (List Int) × Int × Int × Int × Int × (List (Int × Int)) × (List (Int × Int))) (c : ((List Int) × Int × Int × Int × Int × (List (Int × Int)) × (List (Int × Int))) → Option Ans) (B : (Bool → Option Ans) × ((List Int) × Int × Int → Option Ans)) : Option Ans := match v with
 | (x0, x1, x2, x3, x4, x5, x6) => Sg_law14_FileReads_0 fuel (F_law14_Awake fuel) (F_ref12_SameList fuel) (F_file_Read fuel) (F_ref14_Read fuel) (F_file_Places fuel) (F_ref14_Places fuel) (F_file_Way fuel) x0 x1 x2 x3 x4 x5 x6 c B
noncomputable def L_law14_FileReads_0 (fuel : Nat) (v : (List Int) × Int × Int × Int × Int × (List (Int × Int)) × (List (Int × Int))) (ret : (Bool → Option Ans)) (b : ((List Int) × Int × Int → Option Ans)) : Option Ans := iter (S_law14_FileReads_0 fuel) fuel v (ret, b)
noncomputable def J13_0 (fuel : Nat) (i : Nat) : Option Ev.Blk := Ev.look i []
noncomputable def T13_0 (v : (List Int) × Int × Int × Int × Int × (List (Int × Int)) × (List (Int × Int))) : Ev.St := match v with | (x0, x1, x2, x3, x4, x5, x6) => ⟨[(0, .c (.sl (.int .u8) x0)), (3, .c (.int .i64 x1)), (8, .c (.int .i64 x2)), (9, .c (.own 0)), (11, .c (.own 1)), (68, .c (.int .i64 x3)), (69, .c (.int .i64 x4))], [(0, .vec 44 (.pair (.int .i64) (.int .i64)) x5 true), (1, .vec 44 (.pair (.int .i64) (.int .i64)) x6 true)], 2, 0⟩
noncomputable def E13_0 (K : Ev.Ex → Ev.St → Option Ans) : (Bool → Option Ans) × ((List Int) × Int × Int → Option Ans) := ((fun v => match v with | x0 => K .ret ⟨[(2, .c (.bool x0))], [], 0, 0⟩), (fun v => match v with | (x0, x1, x2) => K .normal ⟨[(0, .c (.sl (.int .u8) x0)), (3, .c (.int .i64 x1)), (8, .c (.int .i64 x2))], [], 0, 0⟩))
theorem S13_0_okg (fuel : Nat) (f16 : YF16) (f36 : YF36) (f52 : YF52) (f53 : YF53) (f54 : YF54) (f55 : YF55) (f56 : YF56) (R : Ev.St → Option Ans) (K : Ev.Ex → Ev.St → Option Ans) (x0 : (List Int)) (x1 x2 : Int) (x3 x4 : Int) (x5 : (List (Int × Int))) (x6 : (List (Int × Int))) : evalCode tab (Gg13 f16 f36 f52 f53 f54 f55 f56) (J13_0 fuel) kp13 fuel (bodyOf 0 Try.f13) (T13_0 (x0, x1, x2, x3, x4, x5, x6)) (lc kp13 10 0 R K) = Sg_law14_FileReads_0 fuel f16 f36 f52 f53 f54 f55 f56 x0 x1 x2 x3 x4 x5 x6 (fun v => R (T13_0 v)) (E13_0 K) := by
  kernel_rfl
theorem S13_0_ok (fuel : Nat) (R : Ev.St → Option Ans) (K : Ev.Ex → Ev.St → Option Ans) (x0 : (List Int)) (x1 x2 : Int) (x3 x4 : Int) (x5 : (List (Int × Int))) (x6 : (List (Int × Int))) : evalCode tab (G13 fuel) (J13_0 fuel) kp13 fuel (bodyOf 0 Try.f13) (T13_0 (x0, x1, x2, x3, x4, x5, x6)) (lc kp13 10 0 R K) = S_law14_FileReads_0 fuel (x0, x1, x2, x3, x4, x5, x6) (fun v => R (T13_0 v)) (E13_0 K) :=
  S13_0_okg fuel (F_law14_Awake fuel) (F_ref12_SameList fuel) (F_file_Read fuel) (F_ref14_Read fuel) (F_file_Places fuel) (F_ref14_Places fuel) (F_file_Way fuel) R K x0 x1 x2 x3 x4 x5 x6
noncomputable def B13_0 (fuel : Nat) : Ev.Blk := fun st K => match canonO (kp13 10) st with
 | some s => (match s with
 | ⟨[(q0, .c (.sl (.int .u8) x0)), (q1, .c (.int .i64 x1)), (q2, .c (.int .i64 x2)), (q3, .c (.own q4)), (q5, .c (.own q6)), (q7, .c (.int .i64 x3)), (q8, .c (.int .i64 x4))], [(q9, .vec q10 (.pair (.int .i64) (.int .i64)) x5 true), (q11, .vec q12 (.pair (.int .i64) (.int .i64)) x6 true)], q13, q14⟩ => bif Nat.beq q0 0 && Nat.beq q1 3 && Nat.beq q2 8 && Nat.beq q3 9 && Nat.beq q4 0 && Nat.beq q5 11 && Nat.beq q6 1 && Nat.beq q7 68 && Nat.beq q8 69 && Nat.beq q9 0 && Nat.beq q10 44 && Nat.beq q11 1 && Nat.beq q12 44 && Nat.beq q13 2 && Nat.beq q14 0 then iter (S_law14_FileReads_0 fuel) fuel (x0, x1, x2, x3, x4, x5, x6) (E13_0 K) else none
 | _ => none)
 | none => none
theorem B13_0_ok (fuel : Nat) (st : Ev.St) (K : Ev.Ex → Ev.St → Option Ans) (r : Ans) (h : B13_0 fuel st K = some r) : evalCode tab (G13 fuel) (J13_0 fuel) kp13 fuel (.block 0 (.loop (bodyOf 0 Try.f13))) st K = some r := by
  unfold B13_0 at h
  split at h
  · rename_i s hs
    split at h
    · skip
      obtain ⟨hb, h⟩ := cond_some' h
      simp only [Bool.and_eq_true, Nat.beq_eq, decide_eq_true_eq] at hb
      obtain ⟨⟨⟨⟨⟨⟨⟨⟨⟨⟨⟨⟨⟨⟨rfl, rfl⟩, rfl⟩, rfl⟩, rfl⟩, rfl⟩, rfl⟩, rfl⟩, rfl⟩, rfl⟩, rfl⟩, rfl⟩, rfl⟩, rfl⟩, rfl⟩ := hb
      exact blk_loop (S := T13_0) (ks := E13_0) (step := S_law14_FileReads_0 fuel) (v := (_, _, _, _, _, _, _)) (by kernel_rfl) (by kernel_rfl) (fun R K v => by obtain ⟨x0, x1, x2, x3, x4, x5, x6⟩ := v; exact S13_0_ok fuel R K x0 x1 x2 x3 x4 x5 x6) hs h
    · cases h
  · cases h
noncomputable def J13 (fuel : Nat) (i : Nat) : Option Ev.Blk := Ev.look i [(100000, B13_0 fuel)]
noncomputable def Fg_law14_FileReads (fuel : Nat) (f16 : YF16) (f36 : YF36) (f52 : YF52) (f53 : YF53) (f54 : YF54) (f55 : YF55) (f56 : YF56) (x0 : (List Int)) (k0 : (Bool) → Option Ans) : Option Ans :=
  bif decide ((↑x0.length : Int) > (80000 : Int)) then
  (f16
  (fun y3 =>
  k0 y3))
  else
  (f52 (x0)
  (fun (y3_0, y3_1, y3_2) =>
  (f53 (x0)
  (fun (y7_0, y7_1, y7_2) =>
  (f54 (x0)
  (fun (y11_0, y11_1) =>
  (f55 (x0)
  (fun (y15_0, y15_1) =>
  bif y3_0 != y7_0 then
  k0 false
  else
  bif y3_1 != y7_1 then
  k0 false
  else
  (f36 (y3_2) (y7_2)
  (fun y21 =>
  bif !y21 then
  k0 false
  else
  bif y11_0 != y15_0 then
  k0 false
  else
  bif (↑y11_1.length : Int) != (↑y15_1.length : Int) then
  k0 false
  else
  (L_law14_FileReads_0 fuel (x0, y3_0, y7_1, (↑y11_1.length : Int), (0 : Int), y11_1, y15_1)
  (fun ret0_0 =>
  k0 ret0_0)
  (fun (b0_0, b0_1, b0_2) =>
  (f56 (b0_0)
  (fun (y32_0, y32_1) =>
  bif y32_0 == b0_1 then
  bif y32_1 == b0_2 then
  (f16
  (fun y38 =>
  k0 y38))
  else
  k0 false
  else
  k0 false))))))))))))))
noncomputable def F_law14_FileReads (fuel : Nat) (x0 : (List Int)) (k0 : (Bool) → Option Ans) : Option Ans := Fg_law14_FileReads fuel (F_law14_Awake fuel) (F_ref12_SameList fuel) (F_file_Read fuel) (F_ref14_Read fuel) (F_file_Places fuel) (F_ref14_Places fuel) (F_file_Way fuel) x0 k0
abbrev YF13 : Type := ((List Int)) → ((Bool) → Option Ans) → Option Ans
theorem F13_eqg (fuel : Nat) (f16 : YF16) (f36 : YF36) (f52 : YF52) (f53 : YF53) (f54 : YF54) (f55 : YF55) (f56 : YF56) (x0 : (List Int)) (k : Ev.Cont) : evalFn tab (Gg13 f16 f36 f52 f53 f54 f55 f56) (J13 fuel) kp13 fuel Try.f13 [.c (.sl (.int .u8) x0)] [] k = Fg_law14_FileReads fuel f16 f36 f52 f53 f54 f55 f56 x0 (fun r => match r with | r0 => k (.c (.bool r0), [])) := by
  kernel_rfl
theorem F13_eq (fuel : Nat) (x0 : (List Int)) (k : Ev.Cont) : evalFn tab (G13 fuel) (J13 fuel) kp13 fuel Try.f13 [.c (.sl (.int .u8) x0)] [] k = F_law14_FileReads fuel x0 (fun r => match r with | r0 => k (.c (.bool r0), [])) :=
  F13_eqg fuel (F_law14_Awake fuel) (F_ref12_SameList fuel) (F_file_Read fuel) (F_ref14_Read fuel) (F_file_Places fuel) (F_ref14_Places fuel) (F_file_Way fuel) x0 k
theorem hG13 (fuel : Nat) : GOK Try.prog (G13 fuel) :=
  gok_cons ⟨ok16 fuel, enters_of Try.func16 (by kernel_rfl) rfl⟩ <|
  gok_cons ⟨ok36 fuel, enters_of Try.func36 (by kernel_rfl) rfl⟩ <|
  gok_cons ⟨ok52 fuel, enters_of Try.func52 (by kernel_rfl) rfl⟩ <|
  gok_cons ⟨ok53 fuel, enters_of Try.func53 (by kernel_rfl) rfl⟩ <|
  gok_cons ⟨ok54 fuel, enters_of Try.func54 (by kernel_rfl) rfl⟩ <|
  gok_cons ⟨ok55 fuel, enters_of Try.func55 (by kernel_rfl) rfl⟩ <|
  gok_cons ⟨ok56 fuel, enters_of Try.func56 (by kernel_rfl) rfl⟩ <|
  gok_nil
theorem B13_0_blk (fuel : Nat) : BlkOK Try.prog Try.f13.ntmps (.block 0 (.loop (bodyOf 0 Try.f13))) (B13_0 fuel) :=
  blk_of (blk_of_code tab_ok (hG13 fuel) mixed (J := J13_0 fuel) (kp := kp13) (fuel := fuel) (by kernel_rfl) (fun q hq => by
    rw [(by kernel_rfl : obl (J13_0 fuel) (.block 0 (.loop (bodyOf 0 Try.f13))) = [])] at hq
    cases hq)) (B13_0_ok fuel)
theorem fok13 (fuel : Nat) : FnOK Try.prog 13 (evalFn tab (G13 fuel) (J13 fuel) kp13 fuel Try.f13) :=
  fn_ok tab_ok (hG13 fuel) mixed Try.func13 (c := (Try.f13.body).getD .skip) rfl (fun q hq => by
    rw [(by kernel_rfl : obl (J13 fuel) ((Try.f13.body).getD .skip) = [(.block 0 (.loop (bodyOf 0 Try.f13)), B13_0 fuel)])] at hq
    simp only [List.mem_cons, List.not_mem_nil, or_false] at hq
    subst hq
    · exact B13_0_blk fuel)
noncomputable def mt13 : List Ev.SV → List Ev.Ob → Bool := fun args objs => match args, objs with
 | [.c (.sl (.int .u8) _)], [] => true
 | _, _ => false
noncomputable def spg13 (F : YF13) : Ev.Spec := fun args objs k => match args, objs with
 | [.c (.sl (.int .u8) x0)], [] => bif true then F x0 (fun r => match r with | r0 => k (.c (.bool r0), [])) else none
 | _, _ => none
noncomputable def spec13 (fuel : Nat) : Ev.Spec := spg13 (F_law14_FileReads fuel)
theorem ok13 (fuel : Nat) : FnOK Try.prog 13 (spec13 fuel) := by
  intro args objs kk r h
  unfold spec13 spg13 at h
  split at h
  · skip
    obtain ⟨hb, h⟩ := cond_some' h
    simp only [Bool.and_eq_true, Nat.beq_eq, decide_eq_true_eq] at hb
    clear hb
    exact fok13 fuel _ _ kk r ((F13_eq fuel _ kk).trans h)
  · cases h
end Go.Proofs.Ytihfgpfofmjbaaa

set_option linter.unusedVariables false
set_option linter.unusedSimpArgs false
set_option maxRecDepth 100000
set_option maxHeartbeats 2000000
namespace Go.Proofs.Ytihfgpfofmjbaaa
open Go Ev
def kp159 (i : Nat) : Option (List Nat) := Ev.look i []
noncomputable def Gg159 (f : Nat) : Option Ev.Spec := Ev.look f []
noncomputable def G159 (fuel : Nat) : Nat → Option Ev.Spec := Gg159
noncomputable def J159 (fuel : Nat) (i : Nat) : Option Ev.Blk := Ev.look i []
noncomputable def F_bitmap_fits (fuel : Nat) (x0 x1 : Int) (k0 : (Bool) → Option Ans) : Option Ans :=
  bif decide (x0 ≥ (0 : Int)) then
  bif decide (x1 ≥ (0 : Int)) then
  bif decide (x0 ≤ (200 : Int)) then
  bif decide (x1 ≤ (200 : Int)) then
  k0 (decide (IntKind.i64.wrap (x0 * x1) ≤ (8192 : Int)))
  else
  k0 false
  else
  k0 false
  else
  k0 false
  else
  k0 false
abbrev YF159 : Type := (Int) → (Int) → ((Bool) → Option Ans) → Option Ans
theorem F159_eq (fuel : Nat) (x0 x1 : Int) (k : Ev.Cont) : evalFn tab (G159 fuel) (J159 fuel) kp159 fuel Try.f159 [.c (.int .i64 x0), .c (.int .i64 x1)] [] k = F_bitmap_fits fuel x0 x1 (fun r => match r with | r0 => k (.c (.bool r0), [])) := by
  kernel_rfl
theorem hG159 (fuel : Nat) : GOK Try.prog (G159 fuel) :=
  gok_nil
theorem fok159 (fuel : Nat) : FnOK Try.prog 159 (evalFn tab (G159 fuel) (J159 fuel) kp159 fuel Try.f159) :=
  fn_ok tab_ok (hG159 fuel) mixed Try.func159 (c := (Try.f159.body).getD .skip) rfl (fun q hq => by
    rw [(by kernel_rfl : obl (J159 fuel) ((Try.f159.body).getD .skip) = [])] at hq
    cases hq)
noncomputable def mt159 : List Ev.SV → List Ev.Ob → Bool := fun args objs => match args, objs with
 | [.c (.int .i64 _), .c (.int .i64 _)], [] => true
 | _, _ => false
noncomputable def spg159 (F : YF159) : Ev.Spec := fun args objs k => match args, objs with
 | [.c (.int .i64 x0), .c (.int .i64 x1)], [] => bif true then F x0 x1 (fun r => match r with | r0 => k (.c (.bool r0), [])) else none
 | _, _ => none
noncomputable def spec159 (fuel : Nat) : Ev.Spec := spg159 (F_bitmap_fits fuel)
theorem ok159 (fuel : Nat) : FnOK Try.prog 159 (spec159 fuel) := by
  intro args objs kk r h
  unfold spec159 spg159 at h
  split at h
  · skip
    obtain ⟨hb, h⟩ := cond_some' h
    simp only [Bool.and_eq_true, Nat.beq_eq, decide_eq_true_eq] at hb
    clear hb
    exact fok159 fuel _ _ kk r ((F159_eq fuel _ _ kk).trans h)
  · cases h
end Go.Proofs.Ytihfgpfofmjbaaa

set_option linter.unusedVariables false
set_option linter.unusedSimpArgs false
set_option maxRecDepth 100000
set_option maxHeartbeats 2000000
namespace Go.Proofs.Ytihfgpfofmjbaaa
open Go Ev
def kp89 (i : Nat) : Option (List Nat) := Ev.look i [(4, [23, 24, 25]), (100000, []), (400000, [2])]
noncomputable def Gg89 (f159 : YF159) (f : Nat) : Option Ev.Spec := Ev.look f [(159, spg159 f159)]
noncomputable def G89 (fuel : Nat) : Nat → Option Ev.Spec := Gg89 (F_bitmap_fits fuel)
noncomputable def Sg_bitmap_Valid_0 (fuel : Nat) (f159 : YF159) (x0 : (List Int)) (x1 x2 : Int) (c : ((List Int) × Int × Int) → Option Ans) (B : (Bool → Option Ans) × (Unit → Option Ans)) : Option Ans := match B with
 | (ret, b) =>
  bif decide (x2 < x1) then
  bif decide ((0 : Int) ≤ x2 ∧ x2 < (↑x0.length : Int)) then
  bif decide (x0.getD x2.toNat (0 : Int) > (1 : Int)) then
  ret false
  else
  c (x0, x1, IntKind.i64.wrap (x2 + (1 : Int)))
  else none
  else
  b ()
noncomputable def S_bitmap_Valid_0 (fuel : Nat) (v : (List Int) × Int × Int) (c : ((List Int) × Int × Int) → Option Ans) (B : (Bool → Option Ans) × (Unit → Option Ans)) : Option Ans := match v with
 | (x0, x1, x2) => Sg_bitmap_Valid_0 fuel (F_bitmap_fits fuel) x0 x1 x2 c B
noncomputable def L_bitmap_Valid_0 (fuel : Nat) (v : (List Int) × Int × Int) (ret : (Bool → Option Ans)) (b : (Unit → Option Ans)) : Option Ans := iter (S_bitmap_Valid_0 fuel) fuel v (ret, b)
noncomputable def J89_0 (fuel : Nat) (i : Nat) : Option Ev.Blk := Ev.look i []
noncomputable def T89_0 (v : (List Int) × Int × Int) : Ev.St := match v with | (x0, x1, x2) => ⟨[(23, .c (.sl (.int .u8) x0)), (24, .c (.int .i64 x1)), (25, .c (.int .i64 x2))], [], 0, 0⟩
noncomputable def E89_0 (K : Ev.Ex → Ev.St → Option Ans) : (Bool → Option Ans) × (Unit → Option Ans) := ((fun v => match v with | x0 => K .ret ⟨[(2, .c (.bool x0))], [], 0, 0⟩), (fun v => match v with | () => K .normal ⟨[], [], 0, 0⟩))
theorem S89_0_okg (fuel : Nat) (f159 : YF159) (R : Ev.St → Option Ans) (K : Ev.Ex → Ev.St → Option Ans) (x0 : (List Int)) (x1 x2 : Int) : evalCode tab (Gg89 f159) (J89_0 fuel) kp89 fuel (bodyOf 0 Try.f89) (T89_0 (x0, x1, x2)) (lc kp89 4 0 R K) = Sg_bitmap_Valid_0 fuel f159 x0 x1 x2 (fun v => R (T89_0 v)) (E89_0 K) := by
  kernel_rfl
theorem S89_0_ok (fuel : Nat) (R : Ev.St → Option Ans) (K : Ev.Ex → Ev.St → Option Ans) (x0 : (List Int)) (x1 x2 : Int) : evalCode tab (G89 fuel) (J89_0 fuel) kp89 fuel (bodyOf 0 Try.f89) (T89_0 (x0, x1, x2)) (lc kp89 4 0 R K) = S_bitmap_Valid_0 fuel (x0, x1, x2) (fun v => R (T89_0 v)) (E89_0 K) :=
  S89_0_okg fuel (F_bitmap_fits fuel) R K x0 x1 x2
noncomputable def B89_0 (fuel : Nat) : Ev.Blk := fun st K => match canonO (kp89 4) st with
 | some s => (match s with
 | ⟨[(q0, .c (.sl (.int .u8) x0)), (q1, .c (.int .i64 x1)), (q2, .c (.int .i64 x2))], [], q3, q4⟩ => bif Nat.beq q0 23 && Nat.beq q1 24 && Nat.beq q2 25 && Nat.beq q3 0 && Nat.beq q4 0 then iter (S_bitmap_Valid_0 fuel) fuel (x0, x1, x2) (E89_0 K) else none
 | _ => none)
 | none => none
theorem B89_0_ok (fuel : Nat) (st : Ev.St) (K : Ev.Ex → Ev.St → Option Ans) (r : Ans) (h : B89_0 fuel st K = some r) : evalCode tab (G89 fuel) (J89_0 fuel) kp89 fuel (.block 0 (.loop (bodyOf 0 Try.f89))) st K = some r := by
  unfold B89_0 at h
  split at h
  · rename_i s hs
    split at h
    · skip
      obtain ⟨hb, h⟩ := cond_some' h
      simp only [Bool.and_eq_true, Nat.beq_eq, decide_eq_true_eq] at hb
      obtain ⟨⟨⟨⟨rfl, rfl⟩, rfl⟩, rfl⟩, rfl⟩ := hb
      exact blk_loop (S := T89_0) (ks := E89_0) (step := S_bitmap_Valid_0 fuel) (v := (_, _, _)) (by kernel_rfl) (by kernel_rfl) (fun R K v => by obtain ⟨x0, x1, x2⟩ := v; exact S89_0_ok fuel R K x0 x1 x2) hs h
    · cases h
  · cases h
noncomputable def J89 (fuel : Nat) (i : Nat) : Option Ev.Blk := Ev.look i [(100000, B89_0 fuel)]
noncomputable def Fg_bitmap_Valid (fuel : Nat) (f159 : YF159) (x0 x1 : Int) (x2 : (List Int)) (k0 : (Bool) → Option Ans) : Option Ans :=
  (f159 (x0) (x1)
  (fun y2 =>
  bif !y2 then
  k0 false
  else
  bif (↑x2.length : Int) != IntKind.i64.wrap (x0 * x1) then
  k0 false
  else
  (L_bitmap_Valid_0 fuel (x2, (↑x2.length : Int), (0 : Int))
  (fun ret0_0 =>
  k0 ret0_0)
  (fun () =>
  k0 true))))
noncomputable def F_bitmap_Valid (fuel : Nat) (x0 x1 : Int) (x2 : (List Int)) (k0 : (Bool) → Option Ans) : Option Ans := Fg_bitmap_Valid fuel (F_bitmap_fits fuel) x0 x1 x2 k0
abbrev YF89 : Type := (Int) → (Int) → ((List Int)) → ((Bool) → Option Ans) → Option Ans
theorem F89_eqg (fuel : Nat) (f159 : YF159) (x0 x1 : Int) (x2 : (List Int)) (k : Ev.Cont) : evalFn tab (Gg89 f159) (J89 fuel) kp89 fuel Try.f89 [.agg [.int .i64 x0, .int .i64 x1, .sl (.int .u8) x2]] [] k = Fg_bitmap_Valid fuel f159 x0 x1 x2 (fun r => match r with | r0 => k (.c (.bool r0), [])) := by
  kernel_rfl
theorem F89_eq (fuel : Nat) (x0 x1 : Int) (x2 : (List Int)) (k : Ev.Cont) : evalFn tab (G89 fuel) (J89 fuel) kp89 fuel Try.f89 [.agg [.int .i64 x0, .int .i64 x1, .sl (.int .u8) x2]] [] k = F_bitmap_Valid fuel x0 x1 x2 (fun r => match r with | r0 => k (.c (.bool r0), [])) :=
  F89_eqg fuel (F_bitmap_fits fuel) x0 x1 x2 k
theorem hG89 (fuel : Nat) : GOK Try.prog (G89 fuel) :=
  gok_cons ⟨ok159 fuel, enters_of Try.func159 (by kernel_rfl) rfl⟩ <|
  gok_nil
theorem B89_0_blk (fuel : Nat) : BlkOK Try.prog Try.f89.ntmps (.block 0 (.loop (bodyOf 0 Try.f89))) (B89_0 fuel) :=
  blk_of (blk_of_code tab_ok (hG89 fuel) mixed (J := J89_0 fuel) (kp := kp89) (fuel := fuel) (by kernel_rfl) (fun q hq => by
    rw [(by kernel_rfl : obl (J89_0 fuel) (.block 0 (.loop (bodyOf 0 Try.f89))) = [])] at hq
    cases hq)) (B89_0_ok fuel)
theorem fok89 (fuel : Nat) : FnOK Try.prog 89 (evalFn tab (G89 fuel) (J89 fuel) kp89 fuel Try.f89) :=
  fn_ok tab_ok (hG89 fuel) mixed Try.func89 (c := (Try.f89.body).getD .skip) rfl (fun q hq => by
    rw [(by kernel_rfl : obl (J89 fuel) ((Try.f89.body).getD .skip) = [(.block 0 (.loop (bodyOf 0 Try.f89)), B89_0 fuel)])] at hq
    simp only [List.mem_cons, List.not_mem_nil, or_false] at hq
    subst hq
    · exact B89_0_blk fuel)
noncomputable def mt89 : List Ev.SV → List Ev.Ob → Bool := fun args objs => match args, objs with
 | [.agg [.int .i64 _, .int .i64 _, .sl (.int .u8) _]], [] => true
 | _, _ => false
noncomputable def spg89 (F : YF89) : Ev.Spec := fun args objs k => match args, objs with
 | [.agg [.int .i64 x0, .int .i64 x1, .sl (.int .u8) x2]], [] => bif true then F x0 x1 x2 (fun r => match r with | r0 => k (.c (.bool r0), [])) else none
 | _, _ => none
noncomputable def spec89 (fuel : Nat) : Ev.Spec := spg89 (F_bitmap_Valid fuel)
theorem ok89 (fuel : Nat) : FnOK Try.prog 89 (spec89 fuel) := by
  intro args objs kk r h
  unfold spec89 spg89 at h
  split at h
  · skip
    obtain ⟨hb, h⟩ := cond_some' h
    simp only [Bool.and_eq_true, Nat.beq_eq, decide_eq_true_eq] at hb
    clear hb
    exact fok89 fuel _ _ kk r ((F89_eq fuel _ _ _ kk).trans h)
  · cases h
end Go.Proofs.Ytihfgpfofmjbaaa

set_option linter.unusedVariables false
set_option linter.unusedSimpArgs false
set_option maxRecDepth 100000
set_option maxHeartbeats 2000000
namespace Go.Proofs.Ytihfgpfofmjbaaa
open Go Ev
def kp112 (i : Nat) : Option (List Nat) := Ev.look i []
noncomputable def Gg112 (f : Nat) : Option Ev.Spec := Ev.look f []
noncomputable def G112 (fuel : Nat) : Nat → Option Ev.Spec := Gg112
noncomputable def J112 (fuel : Nat) (i : Nat) : Option Ev.Blk := Ev.look i []
noncomputable def F_ref05_Sides (fuel : Nat) (x0 x1 : Int) (k0 : (Bool) → Option Ans) : Option Ans :=
  bif decide (x0 ≥ (0 : Int)) then
  bif decide (x1 ≥ (0 : Int)) then
  bif decide (x0 ≤ (200 : Int)) then
  bif decide (x1 ≤ (200 : Int)) then
  k0 (decide (IntKind.i64.wrap (x0 * x1) ≤ (8192 : Int)))
  else
  k0 false
  else
  k0 false
  else
  k0 false
  else
  k0 false
abbrev YF112 : Type := (Int) → (Int) → ((Bool) → Option Ans) → Option Ans
theorem F112_eq (fuel : Nat) (x0 x1 : Int) (k : Ev.Cont) : evalFn tab (G112 fuel) (J112 fuel) kp112 fuel Try.f112 [.c (.int .i64 x0), .c (.int .i64 x1)] [] k = F_ref05_Sides fuel x0 x1 (fun r => match r with | r0 => k (.c (.bool r0), [])) := by
  kernel_rfl
theorem hG112 (fuel : Nat) : GOK Try.prog (G112 fuel) :=
  gok_nil
theorem fok112 (fuel : Nat) : FnOK Try.prog 112 (evalFn tab (G112 fuel) (J112 fuel) kp112 fuel Try.f112) :=
  fn_ok tab_ok (hG112 fuel) mixed Try.func112 (c := (Try.f112.body).getD .skip) rfl (fun q hq => by
    rw [(by kernel_rfl : obl (J112 fuel) ((Try.f112.body).getD .skip) = [])] at hq
    cases hq)
noncomputable def mt112 : List Ev.SV → List Ev.Ob → Bool := fun args objs => match args, objs with
 | [.c (.int .i64 _), .c (.int .i64 _)], [] => true
 | _, _ => false
noncomputable def spg112 (F : YF112) : Ev.Spec := fun args objs k => match args, objs with
 | [.c (.int .i64 x0), .c (.int .i64 x1)], [] => bif true then F x0 x1 (fun r => match r with | r0 => k (.c (.bool r0), [])) else none
 | _, _ => none
noncomputable def spec112 (fuel : Nat) : Ev.Spec := spg112 (F_ref05_Sides fuel)
theorem ok112 (fuel : Nat) : FnOK Try.prog 112 (spec112 fuel) := by
  intro args objs kk r h
  unfold spec112 spg112 at h
  split at h
  · skip
    obtain ⟨hb, h⟩ := cond_some' h
    simp only [Bool.and_eq_true, Nat.beq_eq, decide_eq_true_eq] at hb
    clear hb
    exact fok112 fuel _ _ kk r ((F112_eq fuel _ _ kk).trans h)
  · cases h
end Go.Proofs.Ytihfgpfofmjbaaa

set_option linter.unusedVariables false
set_option linter.unusedSimpArgs false
set_option maxRecDepth 100000
set_option maxHeartbeats 2000000
namespace Go.Proofs.Ytihfgpfofmjbaaa
open Go Ev
def kp86 (i : Nat) : Option (List Nat) := Ev.look i [(4, [1, 3]), (100000, []), (400000, [2])]
noncomputable def Gg86 (f112 : YF112) (f : Nat) : Option Ev.Spec := Ev.look f [(112, spg112 f112)]
noncomputable def G86 (fuel : Nat) : Nat → Option Ev.Spec := Gg86 (F_ref05_Sides fuel)
noncomputable def Sg_ref05_Valid_0 (fuel : Nat) (f112 : YF112) (x0 x1 x2 : Int) (x3 : (List Int)) (c : (Int × Int × Int × (List Int)) → Option Ans) (B : (Bool → Option Ans) × (Unit → Option Ans)) : Option Ans := match B with
 | (ret, b) =>
  bif decide (x0 < (↑x3.length : Int)) then
  bif decide ((0 : Int) ≤ x0 ∧ x0 < (↑x3.length : Int)) then
  bif decide (x3.getD x0.toNat (0 : Int) > (1 : Int)) then
  ret false
  else
  c (IntKind.i64.wrap (x0 + (1 : Int)), x1, x2, x3)
  else none
  else
  b ()
noncomputable def S_ref05_Valid_0 (fuel : Nat) (v : Int × Int × Int × (List Int)) (c : (Int × Int × Int × (List Int)) → Option Ans) (B : (Bool → Option Ans) × (Unit → Option Ans)) : Option Ans := match v with
 | (x0, x1, x2, x3) => Sg_ref05_Valid_0 fuel (F_ref05_Sides fuel) x0 x1 x2 x3 c B
noncomputable def L_ref05_Valid_0 (fuel : Nat) (v : Int × Int × Int × (List Int)) (ret : (Bool → Option Ans)) (b : (Unit → Option Ans)) : Option Ans := iter (S_ref05_Valid_0 fuel) fuel v (ret, b)
noncomputable def J86_0 (fuel : Nat) (i : Nat) : Option Ev.Blk := Ev.look i []
noncomputable def T86_0 (v : Int × Int × Int × (List Int)) : Ev.St := match v with | (x0, x1, x2, x3) => ⟨[(1, .c (.ptr 0 0)), (3, .c (.int .i64 x0))], [(0, .cells 39 [.int .i64 x1, .int .i64 x2, .sl (.int .u8) x3])], 1, 0⟩
noncomputable def E86_0 (K : Ev.Ex → Ev.St → Option Ans) : (Bool → Option Ans) × (Unit → Option Ans) := ((fun v => match v with | x0 => K .ret ⟨[(2, .c (.bool x0))], [], 0, 0⟩), (fun v => match v with | () => K .normal ⟨[], [], 0, 0⟩))
theorem S86_0_okg (fuel : Nat) (f112 : YF112) (R : Ev.St → Option Ans) (K : Ev.Ex → Ev.St → Option Ans) (x0 x1 x2 : Int) (x3 : (List Int)) : evalCode tab (Gg86 f112) (J86_0 fuel) kp86 fuel (bodyOf 0 Try.f86) (T86_0 (x0, x1, x2, x3)) (lc kp86 4 0 R K) = Sg_ref05_Valid_0 fuel f112 x0 x1 x2 x3 (fun v => R (T86_0 v)) (E86_0 K) := by
  kernel_rfl
theorem S86_0_ok (fuel : Nat) (R : Ev.St → Option Ans) (K : Ev.Ex → Ev.St → Option Ans) (x0 x1 x2 : Int) (x3 : (List Int)) : evalCode tab (G86 fuel) (J86_0 fuel) kp86 fuel (bodyOf 0 Try.f86) (T86_0 (x0, x1, x2, x3)) (lc kp86 4 0 R K) = S_ref05_Valid_0 fuel (x0, x1, x2, x3) (fun v => R (T86_0 v)) (E86_0 K) :=
  S86_0_okg fuel (F_ref05_Sides fuel) R K x0 x1 x2 x3
noncomputable def B86_0 (fuel : Nat) : Ev.Blk := fun st K => match canonO (kp86 4) st with
 | some s => (match s with
 | ⟨[(q0, .c (.ptr q1 q2)), (q3, .c (.int .i64 x0))], [(q4, .cells q5 [.int .i64 x1, .int .i64 x2, .sl (.int .u8) x3])], q6, q7⟩ => bif Nat.beq q0 1 && Nat.beq q1 0 && Nat.beq q2 0 && Nat.beq q3 3 && Nat.beq q4 0 && Nat.beq q5 39 && Nat.beq q6 1 && Nat.beq q7 0 then iter (S_ref05_Valid_0 fuel) fuel (x0, x1, x2, x3) (E86_0 K) else none
 | _ => none)
 | none => none
theorem B86_0_ok (fuel : Nat) (st : Ev.St) (K : Ev.Ex → Ev.St → Option Ans) (r : Ans) (h : B86_0 fuel st K = some r) : evalCode tab (G86 fuel) (J86_0 fuel) kp86 fuel (.block 0 (.loop (bodyOf 0 Try.f86))) st K = some r := by
  unfold B86_0 at h
  split at h
  · rename_i s hs
    split at h
    · skip
      obtain ⟨hb, h⟩ := cond_some' h
      simp only [Bool.and_eq_true, Nat.beq_eq, decide_eq_true_eq] at hb
      obtain ⟨⟨⟨⟨⟨⟨⟨rfl, rfl⟩, rfl⟩, rfl⟩, rfl⟩, rfl⟩, rfl⟩, rfl⟩ := hb
      exact blk_loop (S := T86_0) (ks := E86_0) (step := S_ref05_Valid_0 fuel) (v := (_, _, _, _)) (by kernel_rfl) (by kernel_rfl) (fun R K v => by obtain ⟨x0, x1, x2, x3⟩ := v; exact S86_0_ok fuel R K x0 x1 x2 x3) hs h
    · cases h
  · cases h
noncomputable def J86 (fuel : Nat) (i : Nat) : Option Ev.Blk := Ev.look i [(100000, B86_0 fuel)]
noncomputable def Fg_ref05_Valid (fuel : Nat) (f112 : YF112) (x0 x1 : Int) (x2 : (List Int)) (k0 : (Bool) → Option Ans) : Option Ans :=
  (f112 (x0) (x1)
  (fun y2 =>
  bif !y2 then
  k0 false
  else
  bif (↑x2.length : Int) != IntKind.i64.wrap (x0 * x1) then
  k0 false
  else
  (L_ref05_Valid_0 fuel ((0 : Int), x0, x1, x2)
  (fun ret0_0 =>
  k0 ret0_0)
  (fun () =>
  k0 true))))
noncomputable def F_ref05_Valid (fuel : Nat) (x0 x1 : Int) (x2 : (List Int)) (k0 : (Bool) → Option Ans) : Option Ans := Fg_ref05_Valid fuel (F_ref05_Sides fuel) x0 x1 x2 k0
abbrev YF86 : Type := (Int) → (Int) → ((List Int)) → ((Bool) → Option Ans) → Option Ans
theorem F86_eqg (fuel : Nat) (f112 : YF112) (x0 x1 : Int) (x2 : (List Int)) (k : Ev.Cont) : evalFn tab (Gg86 f112) (J86 fuel) kp86 fuel Try.f86 [.agg [.int .i64 x0, .int .i64 x1, .sl (.int .u8) x2]] [] k = Fg_ref05_Valid fuel f112 x0 x1 x2 (fun r => match r with | r0 => k (.c (.bool r0), [])) := by
  kernel_rfl
theorem F86_eq (fuel : Nat) (x0 x1 : Int) (x2 : (List Int)) (k : Ev.Cont) : evalFn tab (G86 fuel) (J86 fuel) kp86 fuel Try.f86 [.agg [.int .i64 x0, .int .i64 x1, .sl (.int .u8) x2]] [] k = F_ref05_Valid fuel x0 x1 x2 (fun r => match r with | r0 => k (.c (.bool r0), [])) :=
  F86_eqg fuel (F_ref05_Sides fuel) x0 x1 x2 k
theorem hG86 (fuel : Nat) : GOK Try.prog (G86 fuel) :=
  gok_cons ⟨ok112 fuel, enters_of Try.func112 (by kernel_rfl) rfl⟩ <|
  gok_nil
theorem B86_0_blk (fuel : Nat) : BlkOK Try.prog Try.f86.ntmps (.block 0 (.loop (bodyOf 0 Try.f86))) (B86_0 fuel) :=
  blk_of (blk_of_code tab_ok (hG86 fuel) mixed (J := J86_0 fuel) (kp := kp86) (fuel := fuel) (by kernel_rfl) (fun q hq => by
    rw [(by kernel_rfl : obl (J86_0 fuel) (.block 0 (.loop (bodyOf 0 Try.f86))) = [])] at hq
    cases hq)) (B86_0_ok fuel)
theorem fok86 (fuel : Nat) : FnOK Try.prog 86 (evalFn tab (G86 fuel) (J86 fuel) kp86 fuel Try.f86) :=
  fn_ok tab_ok (hG86 fuel) mixed Try.func86 (c := (Try.f86.body).getD .skip) rfl (fun q hq => by
    rw [(by kernel_rfl : obl (J86 fuel) ((Try.f86.body).getD .skip) = [(.block 0 (.loop (bodyOf 0 Try.f86)), B86_0 fuel)])] at hq
    simp only [List.mem_cons, List.not_mem_nil, or_false] at hq
    subst hq
    · exact B86_0_blk fuel)
noncomputable def mt86 : List Ev.SV → List Ev.Ob → Bool := fun args objs => match args, objs with
 | [.agg [.int .i64 _, .int .i64 _, .sl (.int .u8) _]], [] => true
 | _, _ => false
noncomputable def spg86 (F : YF86) : Ev.Spec := fun args objs k => match args, objs with
 | [.agg [.int .i64 x0, .int .i64 x1, .sl (.int .u8) x2]], [] => bif true then F x0 x1 x2 (fun r => match r with | r0 => k (.c (.bool r0), [])) else none
 | _, _ => none
noncomputable def spec86 (fuel : Nat) : Ev.Spec := spg86 (F_ref05_Valid fuel)
theorem ok86 (fuel : Nat) : FnOK Try.prog 86 (spec86 fuel) := by
  intro args objs kk r h
  unfold spec86 spg86 at h
  split at h
  · skip
    obtain ⟨hb, h⟩ := cond_some' h
    simp only [Bool.and_eq_true, Nat.beq_eq, decide_eq_true_eq] at hb
    clear hb
    exact fok86 fuel _ _ kk r ((F86_eq fuel _ _ _ kk).trans h)
  · cases h
end Go.Proofs.Ytihfgpfofmjbaaa

set_option linter.unusedVariables false
set_option linter.unusedSimpArgs false
set_option maxRecDepth 100000
set_option maxHeartbeats 2000000
namespace Go.Proofs.Ytihfgpfofmjbaaa
open Go Ev
def kp156 (i : Nat) : Option (List Nat) := Ev.look i []
noncomputable def Gg156 (f : Nat) : Option Ev.Spec := Ev.look f []
noncomputable def G156 (fuel : Nat) : Nat → Option Ev.Spec := Gg156
noncomputable def J156 (fuel : Nat) (i : Nat) : Option Ev.Blk := Ev.look i []
noncomputable def F_ref05_inside (fuel : Nat) (x0 x1 : Int) (x2 : (List Int)) (x3 x4 : Int) (k0 : (Bool) → Option Ans) : Option Ans :=
  bif decide (x3 ≥ (0 : Int)) then
  bif decide (x4 ≥ (0 : Int)) then
  bif decide (x3 < x0) then
  k0 (decide (x4 < x1))
  else
  k0 false
  else
  k0 false
  else
  k0 false
abbrev YF156 : Type := (Int) → (Int) → ((List Int)) → (Int) → (Int) → ((Bool) → Option Ans) → Option Ans
theorem F156_eq (fuel : Nat) (x0 x1 : Int) (x2 : (List Int)) (x3 x4 : Int) (k : Ev.Cont) : evalFn tab (G156 fuel) (J156 fuel) kp156 fuel Try.f156 [.agg [.int .i64 x0, .int .i64 x1, .sl (.int .u8) x2], .c (.int .i64 x3), .c (.int .i64 x4)] [] k = F_ref05_inside fuel x0 x1 x2 x3 x4 (fun r => match r with | r0 => k (.c (.bool r0), [])) := by
  kernel_rfl
theorem hG156 (fuel : Nat) : GOK Try.prog (G156 fuel) :=
  gok_nil
theorem fok156 (fuel : Nat) : FnOK Try.prog 156 (evalFn tab (G156 fuel) (J156 fuel) kp156 fuel Try.f156) :=
  fn_ok tab_ok (hG156 fuel) mixed Try.func156 (c := (Try.f156.body).getD .skip) rfl (fun q hq => by
    rw [(by kernel_rfl : obl (J156 fuel) ((Try.f156.body).getD .skip) = [])] at hq
    cases hq)
noncomputable def mt156 : List Ev.SV → List Ev.Ob → Bool := fun args objs => match args, objs with
 | [.agg [.int .i64 _, .int .i64 _, .sl (.int .u8) _], .c (.int .i64 _), .c (.int .i64 _)], [] => true
 | _, _ => false
noncomputable def spg156 (F : YF156) : Ev.Spec := fun args objs k => match args, objs with
 | [.agg [.int .i64 x0, .int .i64 x1, .sl (.int .u8) x2], .c (.int .i64 x3), .c (.int .i64 x4)], [] => bif true then F x0 x1 x2 x3 x4 (fun r => match r with | r0 => k (.c (.bool r0), [])) else none
 | _, _ => none
noncomputable def spec156 (fuel : Nat) : Ev.Spec := spg156 (F_ref05_inside fuel)
theorem ok156 (fuel : Nat) : FnOK Try.prog 156 (spec156 fuel) := by
  intro args objs kk r h
  unfold spec156 spg156 at h
  split at h
  · skip
    obtain ⟨hb, h⟩ := cond_some' h
    simp only [Bool.and_eq_true, Nat.beq_eq, decide_eq_true_eq] at hb
    clear hb
    exact fok156 fuel _ _ kk r ((F156_eq fuel _ _ _ _ _ kk).trans h)
  · cases h
end Go.Proofs.Ytihfgpfofmjbaaa

set_option linter.unusedVariables false
set_option linter.unusedSimpArgs false
set_option maxRecDepth 100000
set_option maxHeartbeats 2000000
namespace Go.Proofs.Ytihfgpfofmjbaaa
open Go Ev
def kp125 (i : Nat) : Option (List Nat) := Ev.look i []
noncomputable def Gg125 (f156 : YF156) (f : Nat) : Option Ev.Spec := Ev.look f [(156, spg156 f156)]
noncomputable def G125 (fuel : Nat) : Nat → Option Ev.Spec := Gg125 (F_ref05_inside fuel)
noncomputable def J125 (fuel : Nat) (i : Nat) : Option Ev.Blk := Ev.look i []
noncomputable def Fg_ref05_At (fuel : Nat) (f156 : YF156) (x0 x1 : Int) (x2 : (List Int)) (x3 x4 : Int) (k0 : (Int) → Option Ans) : Option Ans :=
  (f156 (x0) (x1) (x2) (x3) (x4)
  (fun y2 =>
  bif !y2 then
  k0 ((0 : Int))
  else
  bif decide ((0 : Int) ≤ IntKind.i64.wrap (IntKind.i64.wrap (x4 * x0) + x3) ∧ IntKind.i64.wrap (IntKind.i64.wrap (x4 * x0) + x3) < (↑x2.length : Int)) then
  k0 (IntKind.i64.wrap (x2.getD (IntKind.i64.wrap (IntKind.i64.wrap (x4 * x0) + x3)).toNat (0 : Int)))
  else none))
noncomputable def F_ref05_At (fuel : Nat) (x0 x1 : Int) (x2 : (List Int)) (x3 x4 : Int) (k0 : (Int) → Option Ans) : Option Ans := Fg_ref05_At fuel (F_ref05_inside fuel) x0 x1 x2 x3 x4 k0
abbrev YF125 : Type := (Int) → (Int) → ((List Int)) → (Int) → (Int) → ((Int) → Option Ans) → Option Ans
theorem F125_eqg (fuel : Nat) (f156 : YF156) (x0 x1 : Int) (x2 : (List Int)) (x3 x4 : Int) (k : Ev.Cont) : evalFn tab (Gg125 f156) (J125 fuel) kp125 fuel Try.f125 [.agg [.int .i64 x0, .int .i64 x1, .sl (.int .u8) x2], .c (.int .i64 x3), .c (.int .i64 x4)] [] k = Fg_ref05_At fuel f156 x0 x1 x2 x3 x4 (fun r => match r with | r0 => k (.c (.int .i64 r0), [])) := by
  kernel_rfl
theorem F125_eq (fuel : Nat) (x0 x1 : Int) (x2 : (List Int)) (x3 x4 : Int) (k : Ev.Cont) : evalFn tab (G125 fuel) (J125 fuel) kp125 fuel Try.f125 [.agg [.int .i64 x0, .int .i64 x1, .sl (.int .u8) x2], .c (.int .i64 x3), .c (.int .i64 x4)] [] k = F_ref05_At fuel x0 x1 x2 x3 x4 (fun r => match r with | r0 => k (.c (.int .i64 r0), [])) :=
  F125_eqg fuel (F_ref05_inside fuel) x0 x1 x2 x3 x4 k
theorem hG125 (fuel : Nat) : GOK Try.prog (G125 fuel) :=
  gok_cons ⟨ok156 fuel, enters_of Try.func156 (by kernel_rfl) rfl⟩ <|
  gok_nil
theorem fok125 (fuel : Nat) : FnOK Try.prog 125 (evalFn tab (G125 fuel) (J125 fuel) kp125 fuel Try.f125) :=
  fn_ok tab_ok (hG125 fuel) mixed Try.func125 (c := (Try.f125.body).getD .skip) rfl (fun q hq => by
    rw [(by kernel_rfl : obl (J125 fuel) ((Try.f125.body).getD .skip) = [])] at hq
    cases hq)
noncomputable def mt125 : List Ev.SV → List Ev.Ob → Bool := fun args objs => match args, objs with
 | [.agg [.int .i64 _, .int .i64 _, .sl (.int .u8) _], .c (.int .i64 _), .c (.int .i64 _)], [] => true
 | _, _ => false
noncomputable def spg125 (F : YF125) : Ev.Spec := fun args objs k => match args, objs with
 | [.agg [.int .i64 x0, .int .i64 x1, .sl (.int .u8) x2], .c (.int .i64 x3), .c (.int .i64 x4)], [] => bif true then F x0 x1 x2 x3 x4 (fun r => match r with | r0 => k (.c (.int .i64 r0), [])) else none
 | _, _ => none
noncomputable def spec125 (fuel : Nat) : Ev.Spec := spg125 (F_ref05_At fuel)
theorem ok125 (fuel : Nat) : FnOK Try.prog 125 (spec125 fuel) := by
  intro args objs kk r h
  unfold spec125 spg125 at h
  split at h
  · skip
    obtain ⟨hb, h⟩ := cond_some' h
    simp only [Bool.and_eq_true, Nat.beq_eq, decide_eq_true_eq] at hb
    clear hb
    exact fok125 fuel _ _ kk r ((F125_eq fuel _ _ _ _ _ kk).trans h)
  · cases h
end Go.Proofs.Ytihfgpfofmjbaaa

set_option linter.unusedVariables false
set_option linter.unusedSimpArgs false
set_option maxRecDepth 100000
set_option maxHeartbeats 2000000
namespace Go.Proofs.Ytihfgpfofmjbaaa
open Go Ev
def kp195 (i : Nat) : Option (List Nat) := Ev.look i [(5, [0, 4]), (100000, [4]), (400000, [2, 3])]
noncomputable def Gg195 (f : Nat) : Option Ev.Spec := Ev.look f []
noncomputable def G195 (fuel : Nat) : Nat → Option Ev.Spec := Gg195
noncomputable def S_ref01_Size_0 (fuel : Nat) (v : Int × (List Int)) (c : (Int × (List Int)) → Option Ans) (B : ((List Int) → Option Ans)) : Option Ans := match v, B with
 | (x0, x1), b =>
  bif decide (x0 > (0 : Int)) then
  bif decide (([IntKind.u8.wrap (IntKind.i64.wrap ((128 : Int) + x0.tmod (128 : Int)))].length + x1.length) * (1 : Nat) ≤ (140737488355328 : Nat) ∧ [IntKind.u8.wrap (IntKind.i64.wrap ((128 : Int) + x0.tmod (128 : Int)))].length + x1.length ≤ (140737488355328 : Nat)) then
  c (IntKind.i64.wrap (x0.tdiv (128 : Int)), [IntKind.u8.wrap (IntKind.i64.wrap ((128 : Int) + x0.tmod (128 : Int)))] ++ x1)
  else none
  else
  b x1
noncomputable def L_ref01_Size_0 (fuel : Nat) (v : Int × (List Int)) (b : ((List Int) → Option Ans)) : Option Ans := iter (S_ref01_Size_0 fuel) fuel v b
noncomputable def J195_0 (fuel : Nat) (i : Nat) : Option Ev.Blk := Ev.look i []
noncomputable def T195_0 (v : Int × (List Int)) : Ev.St := match v with | (x0, x1) => ⟨[(0, .c (.int .i64 x0)), (4, .c (.own 0))], [(0, .vec 5 (.int .u8) x1 true)], 1, 0⟩
noncomputable def E195_0 (K : Ev.Ex → Ev.St → Option Ans) : ((List Int) → Option Ans) := (fun v => match v with | x0 => K .normal ⟨[(4, .c (.own 0))], [(0, .vec 5 (.int .u8) x0 true)], 1, 0⟩)
theorem S195_0_ok (fuel : Nat) (R : Ev.St → Option Ans) (K : Ev.Ex → Ev.St → Option Ans) (x0 : Int) (x1 : (List Int)) : evalCode tab (G195 fuel) (J195_0 fuel) kp195 fuel (bodyOf 0 Try.f195) (T195_0 (x0, x1)) (lc kp195 5 0 R K) = S_ref01_Size_0 fuel (x0, x1) (fun v => R (T195_0 v)) (E195_0 K) := by
  kernel_rfl
noncomputable def B195_0 (fuel : Nat) : Ev.Blk := fun st K => match canonO (kp195 5) st with
 | some s => (match s with
 | ⟨[(q0, .c (.int .i64 x0)), (q1, .c (.own q2))], [(q3, .vec q4 (.int .u8) x1 true)], q5, q6⟩ => bif Nat.beq q0 0 && Nat.beq q1 4 && Nat.beq q2 0 && Nat.beq q3 0 && Nat.beq q4 5 && Nat.beq q5 1 && Nat.beq q6 0 then iter (S_ref01_Size_0 fuel) fuel (x0, x1) (E195_0 K) else none
 | _ => none)
 | none => none
theorem B195_0_ok (fuel : Nat) (st : Ev.St) (K : Ev.Ex → Ev.St → Option Ans) (r : Ans) (h : B195_0 fuel st K = some r) : evalCode tab (G195 fuel) (J195_0 fuel) kp195 fuel (.block 0 (.loop (bodyOf 0 Try.f195))) st K = some r := by
  unfold B195_0 at h
  split at h
  · rename_i s hs
    split at h
    · skip
      obtain ⟨hb, h⟩ := cond_some' h
      simp only [Bool.and_eq_true, Nat.beq_eq, decide_eq_true_eq] at hb
      obtain ⟨⟨⟨⟨⟨⟨rfl, rfl⟩, rfl⟩, rfl⟩, rfl⟩, rfl⟩, rfl⟩ := hb
      exact blk_loop (S := T195_0) (ks := E195_0) (step := S_ref01_Size_0 fuel) (v := (_, _)) (by kernel_rfl) (by kernel_rfl) (fun R K v => by obtain ⟨x0, x1⟩ := v; exact S195_0_ok fuel R K x0 x1) hs h
    · cases h
  · cases h
noncomputable def J195 (fuel : Nat) (i : Nat) : Option Ev.Blk := Ev.look i [(100000, B195_0 fuel)]
noncomputable def F_ref01_Size (fuel : Nat) (x0 : Int) (k0 : (Int × (List Int)) → Option Ans) : Option Ans :=
  bif decide (x0 < (0 : Int)) then
  k0 ((2 : Int), [])
  else
  bif decide (x0 > (2147483647 : Int)) then
  k0 ((2 : Int), [])
  else
  (L_ref01_Size_0 fuel (IntKind.i64.wrap (x0.tdiv (128 : Int)), [IntKind.u8.wrap (x0.tmod (128 : Int))])
  (fun b0_0 =>
  k0 ((0 : Int), b0_0)))
abbrev YF195 : Type := (Int) → ((Int × (List Int)) → Option Ans) → Option Ans
theorem F195_eq (fuel : Nat) (x0 : Int) (k : Ev.Cont) : evalFn tab (G195 fuel) (J195 fuel) kp195 fuel Try.f195 [.c (.int .i64 x0)] [] k = F_ref01_Size fuel x0 (fun r => match r with | (r0, r1) => k (.tup [(false, [.own 0]), (false, [.int .i64 r0])], [.vec 5 (.int .u8) r1 true])) := by
  kernel_rfl
theorem hG195 (fuel : Nat) : GOK Try.prog (G195 fuel) :=
  gok_nil
theorem B195_0_blk (fuel : Nat) : BlkOK Try.prog Try.f195.ntmps (.block 0 (.loop (bodyOf 0 Try.f195))) (B195_0 fuel) :=
  blk_of (blk_of_code tab_ok (hG195 fuel) mixed (J := J195_0 fuel) (kp := kp195) (fuel := fuel) (by kernel_rfl) (fun q hq => by
    rw [(by kernel_rfl : obl (J195_0 fuel) (.block 0 (.loop (bodyOf 0 Try.f195))) = [])] at hq
    cases hq)) (B195_0_ok fuel)
theorem fok195 (fuel : Nat) : FnOK Try.prog 195 (evalFn tab (G195 fuel) (J195 fuel) kp195 fuel Try.f195) :=
  fn_ok tab_ok (hG195 fuel) mixed Try.func195 (c := (Try.f195.body).getD .skip) rfl (fun q hq => by
    rw [(by kernel_rfl : obl (J195 fuel) ((Try.f195.body).getD .skip) = [(.block 0 (.loop (bodyOf 0 Try.f195)), B195_0 fuel)])] at hq
    simp only [List.mem_cons, List.not_mem_nil, or_false] at hq
    subst hq
    · exact B195_0_blk fuel)
noncomputable def mt195 : List Ev.SV → List Ev.Ob → Bool := fun args objs => match args, objs with
 | [.c (.int .i64 _)], [] => true
 | _, _ => false
noncomputable def spg195 (F : YF195) : Ev.Spec := fun args objs k => match args, objs with
 | [.c (.int .i64 x0)], [] => bif true then F x0 (fun r => match r with | (r0, r1) => k (.tup [(false, [.own 0]), (false, [.int .i64 r0])], [.vec 5 (.int .u8) r1 true])) else none
 | _, _ => none
noncomputable def spec195 (fuel : Nat) : Ev.Spec := spg195 (F_ref01_Size fuel)
theorem ok195 (fuel : Nat) : FnOK Try.prog 195 (spec195 fuel) := by
  intro args objs kk r h
  unfold spec195 spg195 at h
  split at h
  · skip
    obtain ⟨hb, h⟩ := cond_some' h
    simp only [Bool.and_eq_true, Nat.beq_eq, decide_eq_true_eq] at hb
    clear hb
    exact fok195 fuel _ _ kk r ((F195_eq fuel _ kk).trans h)
  · cases h
end Go.Proofs.Ytihfgpfofmjbaaa

set_option linter.unusedVariables false
set_option linter.unusedSimpArgs false
set_option maxRecDepth 100000
set_option maxHeartbeats 2000000
namespace Go.Proofs.Ytihfgpfofmjbaaa
open Go Ev
def kp141 (i : Nat) : Option (List Nat) := Ev.look i []
noncomputable def Gg141 (f195 : YF195) (f : Nat) : Option Ev.Spec := Ev.look f [(195, spg195 f195)]
noncomputable def G141 (fuel : Nat) : Nat → Option Ev.Spec := Gg141 (F_ref01_Size fuel)
noncomputable def J141 (fuel : Nat) (i : Nat) : Option Ev.Blk := Ev.look i []
noncomputable def Fg_ref12_size (fuel : Nat) (f195 : YF195) (x0 : Int) (k0 : ((List Int)) → Option Ans) : Option Ans :=
  (f195 (x0)
  (fun (y2_0, y2_1) =>
  k0 y2_1))
noncomputable def F_ref12_size (fuel : Nat) (x0 : Int) (k0 : ((List Int)) → Option Ans) : Option Ans := Fg_ref12_size fuel (F_ref01_Size fuel) x0 k0
abbrev YF141 : Type := (Int) → (((List Int)) → Option Ans) → Option Ans
theorem F141_eqg (fuel : Nat) (f195 : YF195) (x0 : Int) (k : Ev.Cont) : evalFn tab (Gg141 f195) (J141 fuel) kp141 fuel Try.f141 [.c (.int .i64 x0)] [] k = Fg_ref12_size fuel f195 x0 (fun r => match r with | r0 => k (.c (.own 0), [.vec 5 (.int .u8) r0 true])) := by
  kernel_rfl
theorem F141_eq (fuel : Nat) (x0 : Int) (k : Ev.Cont) : evalFn tab (G141 fuel) (J141 fuel) kp141 fuel Try.f141 [.c (.int .i64 x0)] [] k = F_ref12_size fuel x0 (fun r => match r with | r0 => k (.c (.own 0), [.vec 5 (.int .u8) r0 true])) :=
  F141_eqg fuel (F_ref01_Size fuel) x0 k
theorem hG141 (fuel : Nat) : GOK Try.prog (G141 fuel) :=
  gok_cons ⟨ok195 fuel, enters_of Try.func195 (by kernel_rfl) rfl⟩ <|
  gok_nil
theorem fok141 (fuel : Nat) : FnOK Try.prog 141 (evalFn tab (G141 fuel) (J141 fuel) kp141 fuel Try.f141) :=
  fn_ok tab_ok (hG141 fuel) mixed Try.func141 (c := (Try.f141.body).getD .skip) rfl (fun q hq => by
    rw [(by kernel_rfl : obl (J141 fuel) ((Try.f141.body).getD .skip) = [])] at hq
    cases hq)
noncomputable def mt141 : List Ev.SV → List Ev.Ob → Bool := fun args objs => match args, objs with
 | [.c (.int .i64 _)], [] => true
 | _, _ => false
noncomputable def spg141 (F : YF141) : Ev.Spec := fun args objs k => match args, objs with
 | [.c (.int .i64 x0)], [] => bif true then F x0 (fun r => match r with | r0 => k (.c (.own 0), [.vec 5 (.int .u8) r0 true])) else none
 | _, _ => none
noncomputable def spec141 (fuel : Nat) : Ev.Spec := spg141 (F_ref12_size fuel)
theorem ok141 (fuel : Nat) : FnOK Try.prog 141 (spec141 fuel) := by
  intro args objs kk r h
  unfold spec141 spg141 at h
  split at h
  · skip
    obtain ⟨hb, h⟩ := cond_some' h
    simp only [Bool.and_eq_true, Nat.beq_eq, decide_eq_true_eq] at hb
    clear hb
    exact fok141 fuel _ _ kk r ((F141_eq fuel _ kk).trans h)
  · cases h
end Go.Proofs.Ytihfgpfofmjbaaa

set_option linter.unusedVariables false
set_option linter.unusedSimpArgs false
set_option maxRecDepth 100000
set_option maxHeartbeats 2000000
namespace Go.Proofs.Ytihfgpfofmjbaaa
open Go Ev
def kp68 (i : Nat) : Option (List Nat) := Ev.look i [(9, [1, 4, 40, 41, 42]), (15, [1, 4, 7, 61, 62, 63]), (100000, [1, 4]), (100002, [1, 4, 7]), (400000, [2, 3]), (400002, [2, 3])]
noncomputable def Gg68 (f64 : YF64) (f141 : YF141) (f : Nat) : Option Ev.Spec := Ev.look f [(64, spg64 f64), (141, spg141 f141)]
noncomputable def G68 (fuel : Nat) : Nat → Option Ev.Spec := Gg68 (F_ref12_Valid fuel) (F_ref12_size fuel)
noncomputable def Sg_ref12_Header_2 (fuel : Nat) (f64 : YF64) (f141 : YF141) (x0 : (List Bool)) (x1 x2 : Int) (x3 x4 x5 : Int) (x6 : (List Int)) (x7 : (List Bool)) (x8 x9 x10 : (List Int)) (c : ((List Bool) × Int × Int × Int × Int × Int × (List Int) × (List Bool) × (List Int) × (List Int) × (List Int)) → Option Ans) (B : (Int × Int × Int × (List Int) × (List Bool) × (List Int) × (List Int) × (List Int) → Option Ans)) : Option Ans := match B with
 | b =>
  bif decide (x2 < x1) then
  bif decide ((0 : Int) ≤ x2 ∧ x2 < (↑x0.length : Int)) then
  bif x0.getD x2.toNat false then
  bif decide ((0 : Int) ≤ IntKind.i64.wrap (x2.tdiv (8 : Int)) ∧ IntKind.i64.wrap (x2.tdiv (8 : Int)) < (↑x10.length : Int)) then
  bif decide (x2.tmod (8 : Int) < (0 : Int)) then
  none
  else
  bif decide ((0 : Int) ≤ IntKind.i64.wrap (x2.tdiv (8 : Int)) ∧ IntKind.i64.wrap (x2.tdiv (8 : Int)) < (↑x10.length : Int)) then
  c (x0, x1, IntKind.i64.wrap (x2 + (1 : Int)), x3, x4, x5, x6, x7, x8, x9, x10.set (IntKind.i64.wrap (x2.tdiv (8 : Int))).toNat (IntKind.u8.wrap (x10.getD (IntKind.i64.wrap (x2.tdiv (8 : Int))).toNat (0 : Int) + Ev.ishr IntKind.u8 (128 : Int) (x2.tmod (8 : Int)))))
  else none
  else none
  else
  c (x0, x1, IntKind.i64.wrap (x2 + (1 : Int)), x3, x4, x5, x6, x7, x8, x9, x10)
  else none
  else
  b (x3, x4, x5, x6, x7, x8, x9, x10)
noncomputable def S_ref12_Header_2 (fuel : Nat) (v : (List Bool) × Int × Int × Int × Int × Int × (List Int) × (List Bool) × (List Int) × (List Int) × (List Int)) (c : ((List Bool) × Int × Int × Int × Int × Int × (List Int) × (List Bool) × (List Int) × (List Int) × (List Int)) → Option Ans) (B : (Int × Int × Int × (List Int) × (List Bool) × (List Int) × (List Int) × (List Int) → Option Ans)) : Option Ans := match v with
 | (x0, x1, x2, x3, x4, x5, x6, x7, x8, x9, x10) => Sg_ref12_Header_2 fuel (F_ref12_Valid fuel) (F_ref12_size fuel) x0 x1 x2 x3 x4 x5 x6 x7 x8 x9 x10 c B
noncomputable def L_ref12_Header_2 (fuel : Nat) (v : (List Bool) × Int × Int × Int × Int × Int × (List Int) × (List Bool) × (List Int) × (List Int) × (List Int)) (b : (Int × Int × Int × (List Int) × (List Bool) × (List Int) × (List Int) × (List Int) → Option Ans)) : Option Ans := iter (S_ref12_Header_2 fuel) fuel v b
noncomputable def J68_2 (fuel : Nat) (i : Nat) : Option Ev.Blk := Ev.look i []
noncomputable def T68_2 (v : (List Bool) × Int × Int × Int × Int × Int × (List Int) × (List Bool) × (List Int) × (List Int) × (List Int)) : Ev.St := match v with | (x0, x1, x2, x3, x4, x5, x6, x7, x8, x9, x10) => ⟨[(1, .c (.ptr 0 0)), (4, .c (.own 1)), (7, .c (.own 2)), (61, .c (.sl .bool x0)), (62, .c (.int .i64 x1)), (63, .c (.int .i64 x2))], [(0, .cells 103 [.int .i64 x3, .int .i64 x4, .int .i64 x5, .sl (.int .i64) x6, .sl .bool x7, .sl (.int .u8) x8]), (1, .vec 5 (.int .u8) x9 true), (2, .vec 5 (.int .u8) x10 true)], 3, 0⟩
noncomputable def E68_2 (K : Ev.Ex → Ev.St → Option Ans) : (Int × Int × Int × (List Int) × (List Bool) × (List Int) × (List Int) × (List Int) → Option Ans) := (fun v => match v with | (x0, x1, x2, x3, x4, x5, x6, x7) => K .normal ⟨[(1, .c (.ptr 0 0)), (4, .c (.own 1)), (7, .c (.own 2))], [(0, .cells 103 [.int .i64 x0, .int .i64 x1, .int .i64 x2, .sl (.int .i64) x3, .sl .bool x4, .sl (.int .u8) x5]), (1, .vec 5 (.int .u8) x6 true), (2, .vec 5 (.int .u8) x7 true)], 3, 0⟩)
theorem S68_2_okg (fuel : Nat) (f64 : YF64) (f141 : YF141) (R : Ev.St → Option Ans) (K : Ev.Ex → Ev.St → Option Ans) (x0 : (List Bool)) (x1 x2 : Int) (x3 x4 x5 : Int) (x6 : (List Int)) (x7 : (List Bool)) (x8 x9 x10 : (List Int)) : evalCode tab (Gg68 f64 f141) (J68_2 fuel) kp68 fuel (bodyOf 2 Try.f68) (T68_2 (x0, x1, x2, x3, x4, x5, x6, x7, x8, x9, x10)) (lc kp68 15 2 R K) = Sg_ref12_Header_2 fuel f64 f141 x0 x1 x2 x3 x4 x5 x6 x7 x8 x9 x10 (fun v => R (T68_2 v)) (E68_2 K) := by
  kernel_rfl
theorem S68_2_ok (fuel : Nat) (R : Ev.St → Option Ans) (K : Ev.Ex → Ev.St → Option Ans) (x0 : (List Bool)) (x1 x2 : Int) (x3 x4 x5 : Int) (x6 : (List Int)) (x7 : (List Bool)) (x8 x9 x10 : (List Int)) : evalCode tab (G68 fuel) (J68_2 fuel) kp68 fuel (bodyOf 2 Try.f68) (T68_2 (x0, x1, x2, x3, x4, x5, x6, x7, x8, x9, x10)) (lc kp68 15 2 R K) = S_ref12_Header_2 fuel (x0, x1, x2, x3, x4, x5, x6, x7, x8, x9, x10) (fun v => R (T68_2 v)) (E68_2 K) :=
  S68_2_okg fuel (F_ref12_Valid fuel) (F_ref12_size fuel) R K x0 x1 x2 x3 x4 x5 x6 x7 x8 x9 x10
noncomputable def B68_2 (fuel : Nat) : Ev.Blk := fun st K => match canonO (kp68 15) st with
 | some s => (match s with
 | ⟨[(q0, .c (.ptr q1 q2)), (q3, .c (.own q4)), (q5, .c (.own q6)), (q7, .c (.sl .bool x0)), (q8, .c (.int .i64 x1)), (q9, .c (.int .i64 x2))], [(q10, .cells q11 [.int .i64 x3, .int .i64 x4, .int .i64 x5, .sl (.int .i64) x6, .sl .bool x7, .sl (.int .u8) x8]), (q12, .vec q13 (.int .u8) x9 true), (q14, .vec q15 (.int .u8) x10 true)], q16, q17⟩ => bif Nat.beq q0 1 && Nat.beq q1 0 && Nat.beq q2 0 && Nat.beq q3 4 && Nat.beq q4 1 && Nat.beq q5 7 && Nat.beq q6 2 && Nat.beq q7 61 && Nat.beq q8 62 && Nat.beq q9 63 && Nat.beq q10 0 && Nat.beq q11 103 && Nat.beq q12 1 && Nat.beq q13 5 && Nat.beq q14 2 && Nat.beq q15 5 && Nat.beq q16 3 && Nat.beq q17 0 then iter (S_ref12_Header_2 fuel) fuel (x0, x1, x2, x3, x4, x5, x6, x7, x8, x9, x10) (E68_2 K) else none
 | _ => none)
 | none => none
theorem B68_2_ok (fuel : Nat) (st : Ev.St) (K : Ev.Ex → Ev.St → Option Ans) (r : Ans) (h : B68_2 fuel st K = some r) : evalCode tab (G68 fuel) (J68_2 fuel) kp68 fuel (.block 2 (.loop (bodyOf 2 Try.f68))) st K = some r := by
  unfold B68_2 at h
  split at h
  · rename_i s hs
    split at h
    · skip
      obtain ⟨hb, h⟩ := cond_some' h
      simp only [Bool.and_eq_true, Nat.beq_eq, decide_eq_true_eq] at hb
      obtain ⟨⟨⟨⟨⟨⟨⟨⟨⟨⟨⟨⟨⟨⟨⟨⟨⟨rfl, rfl⟩, rfl⟩, rfl⟩, rfl⟩, rfl⟩, rfl⟩, rfl⟩, rfl⟩, rfl⟩, rfl⟩, rfl⟩, rfl⟩, rfl⟩, rfl⟩, rfl⟩, rfl⟩, rfl⟩ := hb
      exact blk_loop (S := T68_2) (ks := E68_2) (step := S_ref12_Header_2 fuel) (v := (_, _, _, _, _, _, _, _, _, _, _)) (by kernel_rfl) (by kernel_rfl) (fun R K v => by obtain ⟨x0, x1, x2, x3, x4, x5, x6, x7, x8, x9, x10⟩ := v; exact S68_2_ok fuel R K x0 x1 x2 x3 x4 x5 x6 x7 x8 x9 x10) hs h
    · cases h
  · cases h
noncomputable def Sg_ref12_Header_0 (fuel : Nat) (f64 : YF64) (f141 : YF141) (x0 : (List Int)) (x1 x2 : Int) (x3 x4 x5 : Int) (x6 : (List Int)) (x7 : (List Bool)) (x8 x9 : (List Int)) (c : ((List Int) × Int × Int × Int × Int × Int × (List Int) × (List Bool) × (List Int) × (List Int)) → Option Ans) (B : (Int × Int × Int × (List Int) × (List Bool) × (List Int) × (List Int) → Option Ans)) : Option Ans := match B with
 | b =>
  bif decide (x2 < x1) then
  bif decide ((0 : Int) ≤ x2 ∧ x2 < (↑x0.length : Int)) then
  (f141 (IntKind.i64.wrap (x3 - x0.getD x2.toNat (0 : Int)))
  (fun y4 =>
  bif decide ((x9.length + y4.length) * (1 : Nat) ≤ (140737488355328 : Nat) ∧ x9.length + y4.length ≤ (140737488355328 : Nat)) then
  c (x0, x1, IntKind.i64.wrap (x2 + (1 : Int)), x3, x4, x5, x6, x7, x8, x9 ++ y4)
  else none))
  else none
  else
  b (x3, x4, x5, x6, x7, x8, x9)
noncomputable def S_ref12_Header_0 (fuel : Nat) (v : (List Int) × Int × Int × Int × Int × Int × (List Int) × (List Bool) × (List Int) × (List Int)) (c : ((List Int) × Int × Int × Int × Int × Int × (List Int) × (List Bool) × (List Int) × (List Int)) → Option Ans) (B : (Int × Int × Int × (List Int) × (List Bool) × (List Int) × (List Int) → Option Ans)) : Option Ans := match v with
 | (x0, x1, x2, x3, x4, x5, x6, x7, x8, x9) => Sg_ref12_Header_0 fuel (F_ref12_Valid fuel) (F_ref12_size fuel) x0 x1 x2 x3 x4 x5 x6 x7 x8 x9 c B
noncomputable def L_ref12_Header_0 (fuel : Nat) (v : (List Int) × Int × Int × Int × Int × Int × (List Int) × (List Bool) × (List Int) × (List Int)) (b : (Int × Int × Int × (List Int) × (List Bool) × (List Int) × (List Int) → Option Ans)) : Option Ans := iter (S_ref12_Header_0 fuel) fuel v b
noncomputable def J68_0 (fuel : Nat) (i : Nat) : Option Ev.Blk := Ev.look i [(100002, B68_2 fuel)]
noncomputable def T68_0 (v : (List Int) × Int × Int × Int × Int × Int × (List Int) × (List Bool) × (List Int) × (List Int)) : Ev.St := match v with | (x0, x1, x2, x3, x4, x5, x6, x7, x8, x9) => ⟨[(1, .c (.ptr 0 0)), (4, .c (.own 1)), (40, .c (.sl (.int .i64) x0)), (41, .c (.int .i64 x1)), (42, .c (.int .i64 x2))], [(0, .cells 103 [.int .i64 x3, .int .i64 x4, .int .i64 x5, .sl (.int .i64) x6, .sl .bool x7, .sl (.int .u8) x8]), (1, .vec 5 (.int .u8) x9 true)], 2, 0⟩
noncomputable def E68_0 (K : Ev.Ex → Ev.St → Option Ans) : (Int × Int × Int × (List Int) × (List Bool) × (List Int) × (List Int) → Option Ans) := (fun v => match v with | (x0, x1, x2, x3, x4, x5, x6) => K .normal ⟨[(1, .c (.ptr 0 0)), (4, .c (.own 1))], [(0, .cells 103 [.int .i64 x0, .int .i64 x1, .int .i64 x2, .sl (.int .i64) x3, .sl .bool x4, .sl (.int .u8) x5]), (1, .vec 5 (.int .u8) x6 true)], 2, 0⟩)
theorem S68_0_okg (fuel : Nat) (f64 : YF64) (f141 : YF141) (R : Ev.St → Option Ans) (K : Ev.Ex → Ev.St → Option Ans) (x0 : (List Int)) (x1 x2 : Int) (x3 x4 x5 : Int) (x6 : (List Int)) (x7 : (List Bool)) (x8 x9 : (List Int)) : evalCode tab (Gg68 f64 f141) (J68_0 fuel) kp68 fuel (bodyOf 0 Try.f68) (T68_0 (x0, x1, x2, x3, x4, x5, x6, x7, x8, x9)) (lc kp68 9 0 R K) = Sg_ref12_Header_0 fuel f64 f141 x0 x1 x2 x3 x4 x5 x6 x7 x8 x9 (fun v => R (T68_0 v)) (E68_0 K) := by
  kernel_rfl
theorem S68_0_ok (fuel : Nat) (R : Ev.St → Option Ans) (K : Ev.Ex → Ev.St → Option Ans) (x0 : (List Int)) (x1 x2 : Int) (x3 x4 x5 : Int) (x6 : (List Int)) (x7 : (List Bool)) (x8 x9 : (List Int)) : evalCode tab (G68 fuel) (J68_0 fuel) kp68 fuel (bodyOf 0 Try.f68) (T68_0 (x0, x1, x2, x3, x4, x5, x6, x7, x8, x9)) (lc kp68 9 0 R K) = S_ref12_Header_0 fuel (x0, x1, x2, x3, x4, x5, x6, x7, x8, x9) (fun v => R (T68_0 v)) (E68_0 K) :=
  S68_0_okg fuel (F_ref12_Valid fuel) (F_ref12_size fuel) R K x0 x1 x2 x3 x4 x5 x6 x7 x8 x9
noncomputable def B68_0 (fuel : Nat) : Ev.Blk := fun st K => match canonO (kp68 9) st with
 | some s => (match s with
 | ⟨[(q0, .c (.ptr q1 q2)), (q3, .c (.own q4)), (q5, .c (.sl (.int .i64) x0)), (q6, .c (.int .i64 x1)), (q7, .c (.int .i64 x2))], [(q8, .cells q9 [.int .i64 x3, .int .i64 x4, .int .i64 x5, .sl (.int .i64) x6, .sl .bool x7, .sl (.int .u8) x8]), (q10, .vec q11 (.int .u8) x9 true)], q12, q13⟩ => bif Nat.beq q0 1 && Nat.beq q1 0 && Nat.beq q2 0 && Nat.beq q3 4 && Nat.beq q4 1 && Nat.beq q5 40 && Nat.beq q6 41 && Nat.beq q7 42 && Nat.beq q8 0 && Nat.beq q9 103 && Nat.beq q10 1 && Nat.beq q11 5 && Nat.beq q12 2 && Nat.beq q13 0 then iter (S_ref12_Header_0 fuel) fuel (x0, x1, x2, x3, x4, x5, x6, x7, x8, x9) (E68_0 K) else none
 | _ => none)
 | none => none
theorem B68_0_ok (fuel : Nat) (st : Ev.St) (K : Ev.Ex → Ev.St → Option Ans) (r : Ans) (h : B68_0 fuel st K = some r) : evalCode tab (G68 fuel) (J68_0 fuel) kp68 fuel (.block 0 (.loop (bodyOf 0 Try.f68))) st K = some r := by
  unfold B68_0 at h
  split at h
  · rename_i s hs
    split at h
    · skip
      obtain ⟨hb, h⟩ := cond_some' h
      simp only [Bool.and_eq_true, Nat.beq_eq, decide_eq_true_eq] at hb
      obtain ⟨⟨⟨⟨⟨⟨⟨⟨⟨⟨⟨⟨⟨rfl, rfl⟩, rfl⟩, rfl⟩, rfl⟩, rfl⟩, rfl⟩, rfl⟩, rfl⟩, rfl⟩, rfl⟩, rfl⟩, rfl⟩, rfl⟩ := hb
      exact blk_loop (S := T68_0) (ks := E68_0) (step := S_ref12_Header_0 fuel) (v := (_, _, _, _, _, _, _, _, _, _)) (by kernel_rfl) (by kernel_rfl) (fun R K v => by obtain ⟨x0, x1, x2, x3, x4, x5, x6, x7, x8, x9⟩ := v; exact S68_0_ok fuel R K x0 x1 x2 x3 x4 x5 x6 x7 x8 x9) hs h
    · cases h
  · cases h
noncomputable def J68 (fuel : Nat) (i : Nat) : Option Ev.Blk := Ev.look i [(100002, B68_2 fuel), (100000, B68_0 fuel)]
noncomputable def Fg_ref12_Header (fuel : Nat) (f64 : YF64) (f141 : YF141) (x0 x1 x2 : Int) (x3 : (List Int)) (x4 : (List Bool)) (x5 : (List Int)) (k0 : (Int × (List Int)) → Option Ans) : Option Ans :=
  (f64 (x0) (x1) (x2) (x3) (x4) (x5)
  (fun y2 =>
  bif !y2 then
  k0 ((2 : Int), [])
  else
  (f141 (x0)
  (fun y7 =>
  bif (↑x3.length : Int) == (0 : Int) then
  bif decide ((y7.length + [IntKind.u8.wrap x1].length) * (1 : Nat) ≤ (140737488355328 : Nat) ∧ y7.length + [IntKind.u8.wrap x1].length ≤ (140737488355328 : Nat)) then
  bif decide ((0 : Int) ≤ IntKind.i64.wrap ((IntKind.i64.wrap ((↑x4.length : Int) + (7 : Int))).tdiv (8 : Int)) ∧ IntKind.i64.wrap ((IntKind.i64.wrap ((↑x4.length : Int) + (7 : Int))).tdiv (8 : Int)) = IntKind.i64.wrap ((IntKind.i64.wrap ((↑x4.length : Int) + (7 : Int))).tdiv (8 : Int)) ∧ (↑(1 : Nat) : Int) * IntKind.i64.wrap ((IntKind.i64.wrap ((↑x4.length : Int) + (7 : Int))).tdiv (8 : Int)) ≤ (281474976710656 : Int) ∧ IntKind.i64.wrap ((IntKind.i64.wrap ((↑x4.length : Int) + (7 : Int))).tdiv (8 : Int)) ≤ (281474976710656 : Int)) then
  (L_ref12_Header_2 fuel (x4, (↑x4.length : Int), (0 : Int), x0, x1, x2, x3, x4, x5, y7 ++ [IntKind.u8.wrap x1], List.replicate (IntKind.i64.wrap ((IntKind.i64.wrap ((↑x4.length : Int) + (7 : Int))).tdiv (8 : Int))).toNat (0 : Int))
  (fun (b2_0, b2_1, b2_2, b2_3, b2_4, b2_5, b2_6, b2_7) =>
  bif decide ((b2_6.length + b2_7.length) * (1 : Nat) ≤ (140737488355328 : Nat) ∧ b2_6.length + b2_7.length ≤ (140737488355328 : Nat)) then
  (f141 (b2_2)
  (fun y19 =>
  bif decide (((b2_6 ++ b2_7).length + y19.length) * (1 : Nat) ≤ (140737488355328 : Nat) ∧ (b2_6 ++ b2_7).length + y19.length ≤ (140737488355328 : Nat)) then
  (f141 ((↑b2_5.length : Int))
  (fun y24 =>
  bif decide (((b2_6 ++ b2_7 ++ y19).length + y24.length) * (1 : Nat) ≤ (140737488355328 : Nat) ∧ (b2_6 ++ b2_7 ++ y19).length + y24.length ≤ (140737488355328 : Nat)) then
  k0 ((0 : Int), b2_6 ++ b2_7 ++ y19 ++ y24)
  else none))
  else none))
  else none))
  else none
  else none
  else
  bif decide ((y7.length + [IntKind.u8.wrap (IntKind.i64.wrap (x1 + (16 : Int)))].length) * (1 : Nat) ≤ (140737488355328 : Nat) ∧ y7.length + [IntKind.u8.wrap (IntKind.i64.wrap (x1 + (16 : Int)))].length ≤ (140737488355328 : Nat)) then
  (f141 ((↑x3.length : Int))
  (fun y13 =>
  bif decide (((y7 ++ [IntKind.u8.wrap (IntKind.i64.wrap (x1 + (16 : Int)))]).length + y13.length) * (1 : Nat) ≤ (140737488355328 : Nat) ∧ (y7 ++ [IntKind.u8.wrap (IntKind.i64.wrap (x1 + (16 : Int)))]).length + y13.length ≤ (140737488355328 : Nat)) then
  (L_ref12_Header_0 fuel (x3, (↑x3.length : Int), (0 : Int), x0, x1, x2, x3, x4, x5, y7 ++ [IntKind.u8.wrap (IntKind.i64.wrap (x1 + (16 : Int)))] ++ y13)
  (fun (b0_0, b0_1, b0_2, b0_3, b0_4, b0_5, b0_6) =>
  bif decide ((0 : Int) ≤ IntKind.i64.wrap ((IntKind.i64.wrap ((↑b0_4.length : Int) + (7 : Int))).tdiv (8 : Int)) ∧ IntKind.i64.wrap ((IntKind.i64.wrap ((↑b0_4.length : Int) + (7 : Int))).tdiv (8 : Int)) = IntKind.i64.wrap ((IntKind.i64.wrap ((↑b0_4.length : Int) + (7 : Int))).tdiv (8 : Int)) ∧ (↑(1 : Nat) : Int) * IntKind.i64.wrap ((IntKind.i64.wrap ((↑b0_4.length : Int) + (7 : Int))).tdiv (8 : Int)) ≤ (281474976710656 : Int) ∧ IntKind.i64.wrap ((IntKind.i64.wrap ((↑b0_4.length : Int) + (7 : Int))).tdiv (8 : Int)) ≤ (281474976710656 : Int)) then
  (L_ref12_Header_2 fuel (b0_4, (↑b0_4.length : Int), (0 : Int), b0_0, b0_1, b0_2, b0_3, b0_4, b0_5, b0_6, List.replicate (IntKind.i64.wrap ((IntKind.i64.wrap ((↑b0_4.length : Int) + (7 : Int))).tdiv (8 : Int))).toNat (0 : Int))
  (fun (b2_0, b2_1, b2_2, b2_3, b2_4, b2_5, b2_6, b2_7) =>
  bif decide ((b2_6.length + b2_7.length) * (1 : Nat) ≤ (140737488355328 : Nat) ∧ b2_6.length + b2_7.length ≤ (140737488355328 : Nat)) then
  (f141 (b2_2)
  (fun y28 =>
  bif decide (((b2_6 ++ b2_7).length + y28.length) * (1 : Nat) ≤ (140737488355328 : Nat) ∧ (b2_6 ++ b2_7).length + y28.length ≤ (140737488355328 : Nat)) then
  (f141 ((↑b2_5.length : Int))
  (fun y33 =>
  bif decide (((b2_6 ++ b2_7 ++ y28).length + y33.length) * (1 : Nat) ≤ (140737488355328 : Nat) ∧ (b2_6 ++ b2_7 ++ y28).length + y33.length ≤ (140737488355328 : Nat)) then
  k0 ((0 : Int), b2_6 ++ b2_7 ++ y28 ++ y33)
  else none))
  else none))
  else none))
  else none))
  else none))
  else none))))
noncomputable def F_ref12_Header (fuel : Nat) (x0 x1 x2 : Int) (x3 : (List Int)) (x4 : (List Bool)) (x5 : (List Int)) (k0 : (Int × (List Int)) → Option Ans) : Option Ans := Fg_ref12_Header fuel (F_ref12_Valid fuel) (F_ref12_size fuel) x0 x1 x2 x3 x4 x5 k0
abbrev YF68 : Type := (Int) → (Int) → (Int) → ((List Int)) → ((List Bool)) → ((List Int)) → ((Int × (List Int)) → Option Ans) → Option Ans
theorem F68_eqg (fuel : Nat) (f64 : YF64) (f141 : YF141) (x0 x1 x2 : Int) (x3 : (List Int)) (x4 : (List Bool)) (x5 : (List Int)) (k : Ev.Cont) : evalFn tab (Gg68 f64 f141) (J68 fuel) kp68 fuel Try.f68 [.agg [.int .i64 x0, .int .i64 x1, .int .i64 x2, .sl (.int .i64) x3, .sl .bool x4, .sl (.int .u8) x5]] [] k = Fg_ref12_Header fuel f64 f141 x0 x1 x2 x3 x4 x5 (fun r => match r with | (r0, r1) => k (.tup [(false, [.own 0]), (false, [.int .i64 r0])], [.vec 5 (.int .u8) r1 true])) := by
  kernel_rfl
theorem F68_eq (fuel : Nat) (x0 x1 x2 : Int) (x3 : (List Int)) (x4 : (List Bool)) (x5 : (List Int)) (k : Ev.Cont) : evalFn tab (G68 fuel) (J68 fuel) kp68 fuel Try.f68 [.agg [.int .i64 x0, .int .i64 x1, .int .i64 x2, .sl (.int .i64) x3, .sl .bool x4, .sl (.int .u8) x5]] [] k = F_ref12_Header fuel x0 x1 x2 x3 x4 x5 (fun r => match r with | (r0, r1) => k (.tup [(false, [.own 0]), (false, [.int .i64 r0])], [.vec 5 (.int .u8) r1 true])) :=
  F68_eqg fuel (F_ref12_Valid fuel) (F_ref12_size fuel) x0 x1 x2 x3 x4 x5 k
theorem hG68 (fuel : Nat) : GOK Try.prog (G68 fuel) :=
  gok_cons ⟨ok64 fuel, enters_of Try.func64 (by kernel_rfl) rfl⟩ <|
  gok_cons ⟨ok141 fuel, enters_of Try.func141 (by kernel_rfl) rfl⟩ <|
  gok_nil
theorem B68_2_blk (fuel : Nat) : BlkOK Try.prog Try.f68.ntmps (.block 2 (.loop (bodyOf 2 Try.f68))) (B68_2 fuel) :=
  blk_of (blk_of_code tab_ok (hG68 fuel) mixed (J := J68_2 fuel) (kp := kp68) (fuel := fuel) (by kernel_rfl) (fun q hq => by
    rw [(by kernel_rfl : obl (J68_2 fuel) (.block 2 (.loop (bodyOf 2 Try.f68))) = [])] at hq
    cases hq)) (B68_2_ok fuel)
theorem B68_0_blk (fuel : Nat) : BlkOK Try.prog Try.f68.ntmps (.block 0 (.loop (bodyOf 0 Try.f68))) (B68_0 fuel) :=
  blk_of (blk_of_code tab_ok (hG68 fuel) mixed (J := J68_0 fuel) (kp := kp68) (fuel := fuel) (by kernel_rfl) (fun q hq => by
    rw [(by kernel_rfl : obl (J68_0 fuel) (.block 0 (.loop (bodyOf 0 Try.f68))) = [])] at hq
    cases hq)) (B68_0_ok fuel)
theorem fok68 (fuel : Nat) : FnOK Try.prog 68 (evalFn tab (G68 fuel) (J68 fuel) kp68 fuel Try.f68) :=
  fn_ok tab_ok (hG68 fuel) mixed Try.func68 (c := (Try.f68.body).getD .skip) rfl (fun q hq => by
    rw [(by kernel_rfl : obl (J68 fuel) ((Try.f68.body).getD .skip) = [(.block 0 (.loop (bodyOf 0 Try.f68)), B68_0 fuel), (.block 2 (.loop (bodyOf 2 Try.f68)), B68_2 fuel)])] at hq
    simp only [List.mem_cons, List.not_mem_nil, or_false] at hq
    rcases hq with rfl | rfl
    · exact B68_0_blk fuel
    · exact B68_2_blk fuel)
noncomputable def mt68 : List Ev.SV → List Ev.Ob → Bool := fun args objs => match args, objs with
 | [.agg [.int .i64 _, .int .i64 _, .int .i64 _, .sl (.int .i64) _, .sl .bool _, .sl (.int .u8) _]], [] => true
 | _, _ => false
noncomputable def spg68 (F : YF68) : Ev.Spec := fun args objs k => match args, objs with
 | [.agg [.int .i64 x0, .int .i64 x1, .int .i64 x2, .sl (.int .i64) x3, .sl .bool x4, .sl (.int .u8) x5]], [] => bif true then F x0 x1 x2 x3 x4 x5 (fun r => match r with | (r0, r1) => k (.tup [(false, [.own 0]), (false, [.int .i64 r0])], [.vec 5 (.int .u8) r1 true])) else none
 | _, _ => none
noncomputable def spec68 (fuel : Nat) : Ev.Spec := spg68 (F_ref12_Header fuel)
theorem ok68 (fuel : Nat) : FnOK Try.prog 68 (spec68 fuel) := by
  intro args objs kk r h
  unfold spec68 spg68 at h
  split at h
  · skip
    obtain ⟨hb, h⟩ := cond_some' h
    simp only [Bool.and_eq_true, Nat.beq_eq, decide_eq_true_eq] at hb
    clear hb
    exact fok68 fuel _ _ kk r ((F68_eq fuel _ _ _ _ _ _ kk).trans h)
  · cases h
end Go.Proofs.Ytihfgpfofmjbaaa

set_option linter.unusedVariables false
set_option linter.unusedSimpArgs false
set_option maxRecDepth 100000
set_option maxHeartbeats 2000000
namespace Go.Proofs.Ytihfgpfofmjbaaa
open Go Ev
def kp19 (i : Nat) : Option (List Nat) := Ev.look i [(4, [0, 1, 12, 13]), (100000, []), (200006, [0, 1]), (400000, [4])]
noncomputable def Gg19 (f : Nat) : Option Ev.Spec := Ev.look f []
noncomputable def G19 (fuel : Nat) : Nat → Option Ev.Spec := Gg19
noncomputable def S_ref02_SameBytes_0 (fuel : Nat) (v : (List Int) × (List Int) × Int × Int) (c : ((List Int) × (List Int) × Int × Int) → Option Ans) (B : (Bool → Option Ans) × (Unit → Option Ans)) : Option Ans := match v, B with
 | (x0, x1, x2, x3), (ret, b) =>
  bif decide (x3 < x2) then
  bif decide ((0 : Int) ≤ x3 ∧ x3 < (↑x0.length : Int)) then
  bif decide ((0 : Int) ≤ x3 ∧ x3 < (↑x1.length : Int)) then
  bif x0.getD x3.toNat (0 : Int) != x1.getD x3.toNat (0 : Int) then
  ret false
  else
  c (x0, x1, x2, IntKind.i64.wrap (x3 + (1 : Int)))
  else none
  else none
  else
  b ()
noncomputable def L_ref02_SameBytes_0 (fuel : Nat) (v : (List Int) × (List Int) × Int × Int) (ret : (Bool → Option Ans)) (b : (Unit → Option Ans)) : Option Ans := iter (S_ref02_SameBytes_0 fuel) fuel v (ret, b)
noncomputable def J19_0 (fuel : Nat) (i : Nat) : Option Ev.Blk := Ev.look i []
noncomputable def T19_0 (v : (List Int) × (List Int) × Int × Int) : Ev.St := match v with | (x0, x1, x2, x3) => ⟨[(0, .c (.sl (.int .u8) x0)), (1, .c (.sl (.int .u8) x1)), (12, .c (.int .i64 x2)), (13, .c (.int .i64 x3))], [], 0, 0⟩
noncomputable def E19_0 (K : Ev.Ex → Ev.St → Option Ans) : (Bool → Option Ans) × (Unit → Option Ans) := ((fun v => match v with | x0 => K .ret ⟨[(4, .c (.bool x0))], [], 0, 0⟩), (fun v => match v with | () => K .normal ⟨[], [], 0, 0⟩))
theorem S19_0_ok (fuel : Nat) (R : Ev.St → Option Ans) (K : Ev.Ex → Ev.St → Option Ans) (x0 x1 : (List Int)) (x2 x3 : Int) : evalCode tab (G19 fuel) (J19_0 fuel) kp19 fuel (bodyOf 0 Try.f19) (T19_0 (x0, x1, x2, x3)) (lc kp19 4 0 R K) = S_ref02_SameBytes_0 fuel (x0, x1, x2, x3) (fun v => R (T19_0 v)) (E19_0 K) := by
  kernel_rfl
noncomputable def B19_0 (fuel : Nat) : Ev.Blk := fun st K => match canonO (kp19 4) st with
 | some s => (match s with
 | ⟨[(q0, .c (.sl (.int .u8) x0)), (q1, .c (.sl (.int .u8) x1)), (q2, .c (.int .i64 x2)), (q3, .c (.int .i64 x3))], [], q4, q5⟩ => bif Nat.beq q0 0 && Nat.beq q1 1 && Nat.beq q2 12 && Nat.beq q3 13 && Nat.beq q4 0 && Nat.beq q5 0 then iter (S_ref02_SameBytes_0 fuel) fuel (x0, x1, x2, x3) (E19_0 K) else none
 | _ => none)
 | none => none
theorem B19_0_ok (fuel : Nat) (st : Ev.St) (K : Ev.Ex → Ev.St → Option Ans) (r : Ans) (h : B19_0 fuel st K = some r) : evalCode tab (G19 fuel) (J19_0 fuel) kp19 fuel (.block 0 (.loop (bodyOf 0 Try.f19))) st K = some r := by
  unfold B19_0 at h
  split at h
  · rename_i s hs
    split at h
    · skip
      obtain ⟨hb, h⟩ := cond_some' h
      simp only [Bool.and_eq_true, Nat.beq_eq, decide_eq_true_eq] at hb
      obtain ⟨⟨⟨⟨⟨rfl, rfl⟩, rfl⟩, rfl⟩, rfl⟩, rfl⟩ := hb
      exact blk_loop (S := T19_0) (ks := E19_0) (step := S_ref02_SameBytes_0 fuel) (v := (_, _, _, _)) (by kernel_rfl) (by kernel_rfl) (fun R K v => by obtain ⟨x0, x1, x2, x3⟩ := v; exact S19_0_ok fuel R K x0 x1 x2 x3) hs h
    · cases h
  · cases h
noncomputable def J19 (fuel : Nat) (i : Nat) : Option Ev.Blk := Ev.look i [(100000, B19_0 fuel)]
noncomputable def F_ref02_SameBytes (fuel : Nat) (x0 x1 : (List Int)) (k0 : (Bool) → Option Ans) : Option Ans :=
  bif (↑x0.length : Int) != (↑x1.length : Int) then
  k0 false
  else
  (L_ref02_SameBytes_0 fuel (x0, x1, (↑x0.length : Int), (0 : Int))
  (fun ret0_0 =>
  k0 ret0_0)
  (fun () =>
  k0 true))
abbrev YF19 : Type := ((List Int)) → ((List Int)) → ((Bool) → Option Ans) → Option Ans
theorem F19_eq (fuel : Nat) (x0 x1 : (List Int)) (k : Ev.Cont) : evalFn tab (G19 fuel) (J19 fuel) kp19 fuel Try.f19 [.c (.sl (.int .u8) x0), .c (.sl (.int .u8) x1)] [] k = F_ref02_SameBytes fuel x0 x1 (fun r => match r with | r0 => k (.c (.bool r0), [])) := by
  kernel_rfl
theorem hG19 (fuel : Nat) : GOK Try.prog (G19 fuel) :=
  gok_nil
theorem B19_0_blk (fuel : Nat) : BlkOK Try.prog Try.f19.ntmps (.block 0 (.loop (bodyOf 0 Try.f19))) (B19_0 fuel) :=
  blk_of (blk_of_code tab_ok (hG19 fuel) mixed (J := J19_0 fuel) (kp := kp19) (fuel := fuel) (by kernel_rfl) (fun q hq => by
    rw [(by kernel_rfl : obl (J19_0 fuel) (.block 0 (.loop (bodyOf 0 Try.f19))) = [])] at hq
    cases hq)) (B19_0_ok fuel)
theorem fok19 (fuel : Nat) : FnOK Try.prog 19 (evalFn tab (G19 fuel) (J19 fuel) kp19 fuel Try.f19) :=
  fn_ok tab_ok (hG19 fuel) mixed Try.func19 (c := (Try.f19.body).getD .skip) rfl (fun q hq => by
    rw [(by kernel_rfl : obl (J19 fuel) ((Try.f19.body).getD .skip) = [(.block 0 (.loop (bodyOf 0 Try.f19)), B19_0 fuel)])] at hq
    simp only [List.mem_cons, List.not_mem_nil, or_false] at hq
    subst hq
    · exact B19_0_blk fuel)
noncomputable def mt19 : List Ev.SV → List Ev.Ob → Bool := fun args objs => match args, objs with
 | [.c (.sl (.int .u8) _), .c (.sl (.int .u8) _)], [] => true
 | _, _ => false
noncomputable def spg19 (F : YF19) : Ev.Spec := fun args objs k => match args, objs with
 | [.c (.sl (.int .u8) x0), .c (.sl (.int .u8) x1)], [] => bif true then F x0 x1 (fun r => match r with | r0 => k (.c (.bool r0), [])) else none
 | _, _ => none
noncomputable def spec19 (fuel : Nat) : Ev.Spec := spg19 (F_ref02_SameBytes fuel)
theorem ok19 (fuel : Nat) : FnOK Try.prog 19 (spec19 fuel) := by
  intro args objs kk r h
  unfold spec19 spg19 at h
  split at h
  · skip
    obtain ⟨hb, h⟩ := cond_some' h
    simp only [Bool.and_eq_true, Nat.beq_eq, decide_eq_true_eq] at hb
    clear hb
    exact fok19 fuel _ _ kk r ((F19_eq fuel _ _ kk).trans h)
  · cases h
end Go.Proofs.Ytihfgpfofmjbaaa

set_option linter.unusedVariables false
set_option linter.unusedSimpArgs false
set_option maxRecDepth 100000
set_option maxHeartbeats 2000000
namespace Go.Proofs.Ytihfgpfofmjbaaa
open Go Ev
def kp66 (i : Nat) : Option (List Nat) := Ev.look i [(2, [0, 1, 7, 8, 9]), (100000, [0, 1]), (400000, [4])]
noncomputable def Gg66 (f : Nat) : Option Ev.Spec := Ev.look f []
noncomputable def G66 (fuel : Nat) : Nat → Option Ev.Spec := Gg66
noncomputable def S_ref14_ends_0 (fuel : Nat) (v : Int × (List (Int × (Int × (Int × ((List Int) × ((List Bool) × (List Int))))))) × (List (Int × (Int × (Int × ((List Int) × ((List Bool) × (List Int))))))) × Int × Int) (c : (Int × (List (Int × (Int × (Int × ((List Int) × ((List Bool) × (List Int))))))) × (List (Int × (Int × (Int × ((List Int) × ((List Bool) × (List Int))))))) × Int × Int) → Option Ans) (B : (Bool → Option Ans) × (Int × (List (Int × (Int × (Int × ((List Int) × ((List Bool) × (List Int))))))) → Option Ans)) : Option Ans := match v, B with
 | (x0, x1, x2, x3, x4), (ret, b) =>
  bif decide (x4 < x3) then
  bif decide ((0 : Int) ≤ x4 ∧ x4 < (↑x2.length : Int)) then
  bif decide (x0 < (2 : Int)) then
  bif !((x2.getD x4.toNat ((0 : Int), (0 : Int), (0 : Int), [], [], [])).snd.fst == (9 : Int)) == (x4 == IntKind.i64.wrap ((↑x1.length : Int) - (1 : Int))) then
  ret false
  else
  c (x0, x1, x2, x3, IntKind.i64.wrap (x4 + (1 : Int)))
  else
  bif !((x2.getD x4.toNat ((0 : Int), (0 : Int), (0 : Int), [], [], [])).snd.fst == (9 : Int)) == false then
  ret false
  else
  c (x0, x1, x2, x3, IntKind.i64.wrap (x4 + (1 : Int)))
  else none
  else
  b (x0, x1)
noncomputable def L_ref14_ends_0 (fuel : Nat) (v : Int × (List (Int × (Int × (Int × ((List Int) × ((List Bool) × (List Int))))))) × (List (Int × (Int × (Int × ((List Int) × ((List Bool) × (List Int))))))) × Int × Int) (ret : (Bool → Option Ans)) (b : (Int × (List (Int × (Int × (Int × ((List Int) × ((List Bool) × (List Int))))))) → Option Ans)) : Option Ans := iter (S_ref14_ends_0 fuel) fuel v (ret, b)
noncomputable def J66_0 (fuel : Nat) (i : Nat) : Option Ev.Blk := Ev.look i []
noncomputable def T66_0 (v : Int × (List (Int × (Int × (Int × ((List Int) × ((List Bool) × (List Int))))))) × (List (Int × (Int × (Int × ((List Int) × ((List Bool) × (List Int))))))) × Int × Int) : Ev.St := match v with | (x0, x1, x2, x3, x4) => ⟨[(0, .c (.int .i64 x0)), (1, .c (.sl (.pair (.int .i64) (.pair (.int .i64) (.pair (.int .i64) (.pair (.sl (.int .i64)) (.pair (.sl .bool) (.sl (.int .u8))))))) x1)), (7, .c (.sl (.pair (.int .i64) (.pair (.int .i64) (.pair (.int .i64) (.pair (.sl (.int .i64)) (.pair (.sl .bool) (.sl (.int .u8))))))) x2)), (8, .c (.int .i64 x3)), (9, .c (.int .i64 x4))], [], 0, 0⟩
noncomputable def E66_0 (K : Ev.Ex → Ev.St → Option Ans) : (Bool → Option Ans) × (Int × (List (Int × (Int × (Int × ((List Int) × ((List Bool) × (List Int))))))) → Option Ans) := ((fun v => match v with | x0 => K .ret ⟨[(4, .c (.bool x0))], [], 0, 0⟩), (fun v => match v with | (x0, x1) => K .normal ⟨[(0, .c (.int .i64 x0)), (1, .c (.sl (.pair (.int .i64) (.pair (.int .i64) (.pair (.int .i64) (.pair (.sl (.int .i64)) (.pair (.sl .bool) (.sl (.int .u8))))))) x1))], [], 0, 0⟩))
theorem S66_0_ok (fuel : Nat) (R : Ev.St → Option Ans) (K : Ev.Ex → Ev.St → Option Ans) (x0 : Int) (x1 : (List (Int × (Int × (Int × ((List Int) × ((List Bool) × (List Int)))))))) (x2 : (List (Int × (Int × (Int × ((List Int) × ((List Bool) × (List Int)))))))) (x3 x4 : Int) : evalCode tab (G66 fuel) (J66_0 fuel) kp66 fuel (bodyOf 0 Try.f66) (T66_0 (x0, x1, x2, x3, x4)) (lc kp66 2 0 R K) = S_ref14_ends_0 fuel (x0, x1, x2, x3, x4) (fun v => R (T66_0 v)) (E66_0 K) := by
  kernel_rfl
noncomputable def B66_0 (fuel : Nat) : Ev.Blk := fun st K => match canonO (kp66 2) st with
 | some s => (match s with
 | ⟨[(q0, .c (.int .i64 x0)), (q1, .c (.sl (.pair (.int .i64) (.pair (.int .i64) (.pair (.int .i64) (.pair (.sl (.int .i64)) (.pair (.sl .bool) (.sl (.int .u8))))))) x1)), (q2, .c (.sl (.pair (.int .i64) (.pair (.int .i64) (.pair (.int .i64) (.pair (.sl (.int .i64)) (.pair (.sl .bool) (.sl (.int .u8))))))) x2)), (q3, .c (.int .i64 x3)), (q4, .c (.int .i64 x4))], [], q5, q6⟩ => bif Nat.beq q0 0 && Nat.beq q1 1 && Nat.beq q2 7 && Nat.beq q3 8 && Nat.beq q4 9 && Nat.beq q5 0 && Nat.beq q6 0 then iter (S_ref14_ends_0 fuel) fuel (x0, x1, x2, x3, x4) (E66_0 K) else none
 | _ => none)
 | none => none
theorem B66_0_ok (fuel : Nat) (st : Ev.St) (K : Ev.Ex → Ev.St → Option Ans) (r : Ans) (h : B66_0 fuel st K = some r) : evalCode tab (G66 fuel) (J66_0 fuel) kp66 fuel (.block 0 (.loop (bodyOf 0 Try.f66))) st K = some r := by
  unfold B66_0 at h
  split at h
  · rename_i s hs
    split at h
    · skip
      obtain ⟨hb, h⟩ := cond_some' h
      simp only [Bool.and_eq_true, Nat.beq_eq, decide_eq_true_eq] at hb
      obtain ⟨⟨⟨⟨⟨⟨rfl, rfl⟩, rfl⟩, rfl⟩, rfl⟩, rfl⟩, rfl⟩ := hb
      exact blk_loop (S := T66_0) (ks := E66_0) (step := S_ref14_ends_0 fuel) (v := (_, _, _, _, _)) (by kernel_rfl) (by kernel_rfl) (fun R K v => by obtain ⟨x0, x1, x2, x3, x4⟩ := v; exact S66_0_ok fuel R K x0 x1 x2 x3 x4) hs h
    · cases h
  · cases h
noncomputable def J66 (fuel : Nat) (i : Nat) : Option Ev.Blk := Ev.look i [(100000, B66_0 fuel)]
noncomputable def F_ref14_ends (fuel : Nat) (x0 : Int) (x1 : (List (Int × Int × Int × (List Int) × (List Bool) × (List Int)))) (k0 : (Bool) → Option Ans) : Option Ans :=
  (L_ref14_ends_0 fuel (x0, x1, x1, (↑x1.length : Int), (0 : Int))
  (fun ret0_0 =>
  k0 ret0_0)
  (fun (b0_0, b0_1) =>
  bif b0_0 == (2 : Int) then
  k0 true
  else
  k0 (decide ((↑b0_1.length : Int) > (0 : Int)))))
abbrev YF66 : Type := (Int) → ((List (Int × Int × Int × (List Int) × (List Bool) × (List Int)))) → ((Bool) → Option Ans) → Option Ans
theorem F66_eq (fuel : Nat) (x0 : Int) (x1 : (List (Int × Int × Int × (List Int) × (List Bool) × (List Int)))) (k : Ev.Cont) : evalFn tab (G66 fuel) (J66 fuel) kp66 fuel Try.f66 [.c (.int .i64 x0), .c (.sl (.pair (.int .i64) (.pair (.int .i64) (.pair (.int .i64) (.pair (.sl (.int .i64)) (.pair (.sl .bool) (.sl (.int .u8))))))) x1)] [] k = F_ref14_ends fuel x0 x1 (fun r => match r with | r0 => k (.c (.bool r0), [])) := by
  kernel_rfl
theorem hG66 (fuel : Nat) : GOK Try.prog (G66 fuel) :=
  gok_nil
theorem B66_0_blk (fuel : Nat) : BlkOK Try.prog Try.f66.ntmps (.block 0 (.loop (bodyOf 0 Try.f66))) (B66_0 fuel) :=
  blk_of (blk_of_code tab_ok (hG66 fuel) mixed (J := J66_0 fuel) (kp := kp66) (fuel := fuel) (by kernel_rfl) (fun q hq => by
    rw [(by kernel_rfl : obl (J66_0 fuel) (.block 0 (.loop (bodyOf 0 Try.f66))) = [])] at hq
    cases hq)) (B66_0_ok fuel)
theorem fok66 (fuel : Nat) : FnOK Try.prog 66 (evalFn tab (G66 fuel) (J66 fuel) kp66 fuel Try.f66) :=
  fn_ok tab_ok (hG66 fuel) mixed Try.func66 (c := (Try.f66.body).getD .skip) rfl (fun q hq => by
    rw [(by kernel_rfl : obl (J66 fuel) ((Try.f66.body).getD .skip) = [(.block 0 (.loop (bodyOf 0 Try.f66)), B66_0 fuel)])] at hq
    simp only [List.mem_cons, List.not_mem_nil, or_false] at hq
    subst hq
    · exact B66_0_blk fuel)
noncomputable def mt66 : List Ev.SV → List Ev.Ob → Bool := fun args objs => match args, objs with
 | [.c (.int .i64 _), .c (.sl (.pair (.int .i64) (.pair (.int .i64) (.pair (.int .i64) (.pair (.sl (.int .i64)) (.pair (.sl .bool) (.sl (.int .u8))))))) _)], [] => true
 | _, _ => false
noncomputable def spg66 (F : YF66) : Ev.Spec := fun args objs k => match args, objs with
 | [.c (.int .i64 x0), .c (.sl (.pair (.int .i64) (.pair (.int .i64) (.pair (.int .i64) (.pair (.sl (.int .i64)) (.pair (.sl .bool) (.sl (.int .u8))))))) x1)], [] => bif true then F x0 x1 (fun r => match r with | r0 => k (.c (.bool r0), [])) else none
 | _, _ => none
noncomputable def spec66 (fuel : Nat) : Ev.Spec := spg66 (F_ref14_ends fuel)
theorem ok66 (fuel : Nat) : FnOK Try.prog 66 (spec66 fuel) := by
  intro args objs kk r h
  unfold spec66 spg66 at h
  split at h
  · skip
    obtain ⟨hb, h⟩ := cond_some' h
    simp only [Bool.and_eq_true, Nat.beq_eq, decide_eq_true_eq] at hb
    clear hb
    exact fok66 fuel _ _ kk r ((F66_eq fuel _ _ kk).trans h)
  · cases h
end Go.Proofs.Ytihfgpfofmjbaaa

set_option linter.unusedVariables false
set_option linter.unusedSimpArgs false
set_option maxRecDepth 100000
set_option maxHeartbeats 2000000
namespace Go.Proofs.Ytihfgpfofmjbaaa
open Go Ev
def kp67 (i : Nat) : Option (List Nat) := Ev.look i []
noncomputable def Gg67 (f : Nat) : Option Ev.Spec := Ev.look f []
noncomputable def G67 (fuel : Nat) : Nat → Option Ev.Spec := Gg67
noncomputable def J67 (fuel : Nat) (i : Nat) : Option Ev.Blk := Ev.look i []
noncomputable def F_ref14_lead (fuel : Nat) (x0 : Int) (k0 : ((List Int)) → Option Ans) : Option Ans :=
  k0 ([(73 : Int), (78 : Int), (67 : Int), (49 : Int), IntKind.u8.wrap x0])
abbrev YF67 : Type := (Int) → (((List Int)) → Option Ans) → Option Ans
theorem F67_eq (fuel : Nat) (x0 : Int) (k : Ev.Cont) : evalFn tab (G67 fuel) (J67 fuel) kp67 fuel Try.f67 [.c (.int .i64 x0)] [] k = F_ref14_lead fuel x0 (fun r => match r with | r0 => k (.c (.own 0), [.vec 5 (.int .u8) r0 true])) := by
  kernel_rfl
theorem hG67 (fuel : Nat) : GOK Try.prog (G67 fuel) :=
  gok_nil
theorem fok67 (fuel : Nat) : FnOK Try.prog 67 (evalFn tab (G67 fuel) (J67 fuel) kp67 fuel Try.f67) :=
  fn_ok tab_ok (hG67 fuel) mixed Try.func67 (c := (Try.f67.body).getD .skip) rfl (fun q hq => by
    rw [(by kernel_rfl : obl (J67 fuel) ((Try.f67.body).getD .skip) = [])] at hq
    cases hq)
noncomputable def mt67 : List Ev.SV → List Ev.Ob → Bool := fun args objs => match args, objs with
 | [.c (.int .i64 _)], [] => true
 | _, _ => false
noncomputable def spg67 (F : YF67) : Ev.Spec := fun args objs k => match args, objs with
 | [.c (.int .i64 x0)], [] => bif true then F x0 (fun r => match r with | r0 => k (.c (.own 0), [.vec 5 (.int .u8) r0 true])) else none
 | _, _ => none
noncomputable def spec67 (fuel : Nat) : Ev.Spec := spg67 (F_ref14_lead fuel)
theorem ok67 (fuel : Nat) : FnOK Try.prog 67 (spec67 fuel) := by
  intro args objs kk r h
  unfold spec67 spg67 at h
  split at h
  · skip
    obtain ⟨hb, h⟩ := cond_some' h
    simp only [Bool.and_eq_true, Nat.beq_eq, decide_eq_true_eq] at hb
    clear hb
    exact fok67 fuel _ _ kk r ((F67_eq fuel _ kk).trans h)
  · cases h
end Go.Proofs.Ytihfgpfofmjbaaa

