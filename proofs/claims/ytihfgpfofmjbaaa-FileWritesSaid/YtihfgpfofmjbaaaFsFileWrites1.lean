/- What the functions that FileWrites reaches do: their typed texts, each with the proof that the machine does it. No condition. -/
import Derived.Test.YtihfgpfofmjbaaaEvX
set_option linter.unusedVariables false
set_option linter.unusedSimpArgs false
set_option linter.unusedVariables false
set_option linter.unusedSimpArgs false
set_option maxRecDepth 100000
set_option maxHeartbeats 2000000
namespace Go.Proofs.Ytihfgpfofmjbaaa
open Go Ev
def kp135 (i : Nat) : Option (List Nat) := Ev.look i []
noncomputable def Gg135 (f : Nat) : Option Ev.Spec := Ev.look f []
noncomputable def G135 (fuel : Nat) : Nat → Option Ev.Spec := Gg135
noncomputable def J135 (fuel : Nat) (i : Nat) : Option Ev.Blk := Ev.look i []
noncomputable def F_file_rightEnd_1 (fuel : Nat) (x0 : Int) (x1 : Int) (x2 : Int) (x3 : (List Int)) (x4 : (List Bool)) (x5 : (List Int)) (k0 : (Bool) → Option Ans) : Option Ans :=
  k0 (x1 == (9 : Int))
abbrev YF135 : Type := (Int) → (Int) → (Int) → ((List Int)) → ((List Bool)) → ((List Int)) → ((Bool) → Option Ans) → Option Ans
theorem F135_eq (fuel : Nat) (x0 : Int) (x1 : Int) (x2 : Int) (x3 : (List Int)) (x4 : (List Bool)) (x5 : (List Int)) (k : Ev.Cont) : evalFn tab (G135 fuel) (J135 fuel) kp135 fuel Try.f135 [.agg [.int .i64 x0, .int .i64 x1, .int .i64 x2, .sl (.int .i64) x3, .sl .bool x4, .sl (.int .u8) x5]] [] k = F_file_rightEnd_1 fuel x0 x1 x2 x3 x4 x5 (fun r => match r with | r0 => k (.c (.bool r0), [])) := by
  kernel_rfl
theorem hG135 (fuel : Nat) : GOK Try.prog (G135 fuel) :=
  gok_nil
theorem fok135 (fuel : Nat) : FnOK Try.prog 135 (evalFn tab (G135 fuel) (J135 fuel) kp135 fuel Try.f135) :=
  fn_ok tab_ok (hG135 fuel) mixed Try.func135 (c := (Try.f135.body).getD .skip) rfl (fun q hq => by
    rw [(by kernel_rfl : obl (J135 fuel) ((Try.f135.body).getD .skip) = [])] at hq
    cases hq)
noncomputable def mt135 : List Ev.SV → List Ev.Ob → Bool := fun args objs => match args, objs with
  | [.agg [.int .i64 _, .int .i64 _, .int .i64 _, .sl (.int .i64) _, .sl .bool _, .sl (.int .u8) _]], [] => true
  | _, _ => false
noncomputable def spg135 (F : YF135) : Ev.Spec := fun args objs k => match args, objs with
  | [.agg [.int .i64 x0, .int .i64 x1, .int .i64 x2, .sl (.int .i64) x3, .sl .bool x4, .sl (.int .u8) x5]], [] => bif true then F x0 x1 x2 x3 x4 x5 (fun r => match r with | r0 => k (.c (.bool r0), [])) else none
  | _, _ => none
noncomputable def spec135 (fuel : Nat) : Ev.Spec := spg135 (F_file_rightEnd_1 fuel)
theorem ok135 (fuel : Nat) : FnOK Try.prog 135 (spec135 fuel) := by
  intro args objs kk r h
  unfold spec135 spg135 at h
  split at h
  · skip
    obtain ⟨hb, h⟩ := cond_some' h
    simp only [Bool.and_eq_true, Nat.beq_eq, decide_eq_true_eq] at hb
    clear hb
    exact fok135 fuel _ _ kk r ((F135_eq fuel _ _ _ _ _ _ kk).trans h)
  · cases h
end Go.Proofs.Ytihfgpfofmjbaaa

set_option linter.unusedVariables false
set_option linter.unusedSimpArgs false
set_option maxRecDepth 100000
set_option maxHeartbeats 2000000
namespace Go.Proofs.Ytihfgpfofmjbaaa
open Go Ev
def kp133_b37 (i : Nat) : Option (List Nat) := Ev.look i [(2, [0, 1, 7, 8]), (100000, []), (400000, [4])]
noncomputable def Gg133_b37 (f135 : YF135) (f : Nat) : Option Ev.Spec := Ev.look f [(135, spg135 f135)]
noncomputable def G133_b37 (fuel : Nat) : Nat → Option Ev.Spec := Gg133_b37 (F_file_rightEnd_1 fuel)
noncomputable def S_slices_IndexFunc_api_Segment_api_Segment_b37_0 (fuel : Nat) (v : (List (Int × (Int × (Int × ((List Int) × ((List Bool) × (List Int))))))) × Int × Int) (c : ((List (Int × (Int × (Int × ((List Int) × ((List Bool) × (List Int))))))) × Int × Int) → Option Ans) (B : (Int → Option Ans) × (Unit → Option Ans)) : Option Ans := match v, B with
  | (x0, x1, x2), (ret, b) =>
   bif Decidable.decide (x2 < x1) then
      bif Decidable.decide ((0 : Int) ≤ x2 ∧ x2 < (↑x0.length : Int)) then
      (F_file_rightEnd_1 fuel ((x0.getD x2.toNat ((0 : Int), (0 : Int), (0 : Int), [], [], [])).fst) ((x0.getD x2.toNat ((0 : Int), (0 : Int), (0 : Int), [], [], [])).snd.fst) ((x0.getD x2.toNat ((0 : Int), (0 : Int), (0 : Int), [], [], [])).snd.snd.fst) ((x0.getD x2.toNat ((0 : Int), (0 : Int), (0 : Int), [], [], [])).snd.snd.snd.fst) ((x0.getD x2.toNat ((0 : Int), (0 : Int), (0 : Int), [], [], [])).snd.snd.snd.snd.fst) ((x0.getD x2.toNat ((0 : Int), (0 : Int), (0 : Int), [], [], [])).snd.snd.snd.snd.snd)
         (fun y4 =>
           bif y4 then
            ret x2
           else
            c (x0, x1, Go.IntKind.i64.wrap (x2 + (1 : Int)))))
      else none
     else
      b ()
noncomputable def L_slices_IndexFunc_api_Segment_api_Segment_b37_0 (fuel : Nat) (v : (List (Int × (Int × (Int × ((List Int) × ((List Bool) × (List Int))))))) × Int × Int) (ret : (Int → Option Ans)) (b : (Unit → Option Ans)) : Option Ans := iter (S_slices_IndexFunc_api_Segment_api_Segment_b37_0 fuel) fuel v (ret, b)
noncomputable def J133_b37_0 (fuel : Nat) (i : Nat) : Option Ev.Blk := Ev.look i []
noncomputable def T133_b37_0 (v : (List (Int × (Int × (Int × ((List Int) × ((List Bool) × (List Int))))))) × Int × Int) : Ev.St := match v with | (x0, x1, x2) => ⟨[(0, .c (.sl (.pair (.int .i64) (.pair (.int .i64) (.pair (.int .i64) (.pair (.sl (.int .i64)) (.pair (.sl .bool) (.sl (.int .u8))))))) x0)), (1, .c (.clo 135 [])), (7, .c (.int .i64 x1)), (8, .c (.int .i64 x2))], [], 0, 0⟩
noncomputable def E133_b37_0 (K : Ev.Ex → Ev.St → Option Ans) : (Int → Option Ans) × (Unit → Option Ans) := ((fun v => match v with | x0 => K .ret ⟨[(4, .c (.int .i64 x0))], [], 0, 0⟩), (fun v => match v with | () => K .normal ⟨[], [], 0, 0⟩))
theorem S133_b37_0_okg (fuel : Nat) (f135 : YF135) (R : Ev.St → Option Ans) (K : Ev.Ex → Ev.St → Option Ans) (x0 : (List (Int × (Int × (Int × ((List Int) × ((List Bool) × (List Int)))))))) (x1 : Int) (x2 : Int) : evalCode tab (Gg133_b37 f135) (J133_b37_0 fuel) kp133_b37 fuel (bodyOf 0 Try.f133) (T133_b37_0 (x0, x1, x2)) (lc kp133_b37 2 0 R K) = (fun (c : ((List (Int × (Int × (Int × ((List Int) × ((List Bool) × (List Int))))))) × Int × Int) → Option Ans) (B : (Int → Option Ans) × (Unit → Option Ans)) => match B with
  | (ret, b) =>
   bif Decidable.decide (x2 < x1) then
      bif Decidable.decide ((0 : Int) ≤ x2 ∧ x2 < (↑x0.length : Int)) then
      (f135 ((x0.getD x2.toNat ((0 : Int), (0 : Int), (0 : Int), [], [], [])).fst) ((x0.getD x2.toNat ((0 : Int), (0 : Int), (0 : Int), [], [], [])).snd.fst) ((x0.getD x2.toNat ((0 : Int), (0 : Int), (0 : Int), [], [], [])).snd.snd.fst) ((x0.getD x2.toNat ((0 : Int), (0 : Int), (0 : Int), [], [], [])).snd.snd.snd.fst) ((x0.getD x2.toNat ((0 : Int), (0 : Int), (0 : Int), [], [], [])).snd.snd.snd.snd.fst) ((x0.getD x2.toNat ((0 : Int), (0 : Int), (0 : Int), [], [], [])).snd.snd.snd.snd.snd)
         (fun y4 =>
           bif y4 then
            ret x2
           else
            c (x0, x1, Go.IntKind.i64.wrap (x2 + (1 : Int)))))
      else none
     else
      b ()) (fun v => R (T133_b37_0 v)) (E133_b37_0 K) := by
  kernel_rfl
theorem S133_b37_0_ok (fuel : Nat) (R : Ev.St → Option Ans) (K : Ev.Ex → Ev.St → Option Ans) (x0 : (List (Int × (Int × (Int × ((List Int) × ((List Bool) × (List Int)))))))) (x1 : Int) (x2 : Int) : evalCode tab (G133_b37 fuel) (J133_b37_0 fuel) kp133_b37 fuel (bodyOf 0 Try.f133) (T133_b37_0 (x0, x1, x2)) (lc kp133_b37 2 0 R K) = S_slices_IndexFunc_api_Segment_api_Segment_b37_0 fuel (x0, x1, x2) (fun v => R (T133_b37_0 v)) (E133_b37_0 K) :=
  S133_b37_0_okg fuel (F_file_rightEnd_1 fuel) R K x0 x1 x2
noncomputable def B133_b37_0 (fuel : Nat) : Ev.Blk := fun st K => match canonO (kp133_b37 2) st with
  | some s => (match s with
    | ⟨[(q0, .c (.sl (.pair (.int .i64) (.pair (.int .i64) (.pair (.int .i64) (.pair (.sl (.int .i64)) (.pair (.sl .bool) (.sl (.int .u8))))))) x0)), (q1, .c (.clo q2 [])), (q3, .c (.int .i64 x1)), (q4, .c (.int .i64 x2))], [], q5, q6⟩ => bif Nat.beq q0 0 && Nat.beq q1 1 && Nat.beq q2 135 && Nat.beq q3 7 && Nat.beq q4 8 && Nat.beq q5 0 && Nat.beq q6 0 then iter (S_slices_IndexFunc_api_Segment_api_Segment_b37_0 fuel) fuel (x0, x1, x2) (E133_b37_0 K) else none
    | _ => none)
  | none => none
theorem B133_b37_0_ok (fuel : Nat) (st : Ev.St) (K : Ev.Ex → Ev.St → Option Ans) (r : Ans) (h : B133_b37_0 fuel st K = some r) : evalCode tab (G133_b37 fuel) (J133_b37_0 fuel) kp133_b37 fuel (.block 0 (.loop (bodyOf 0 Try.f133))) st K = some r := by
  unfold B133_b37_0 at h
  split at h
  · rename_i s hs
    split at h
    · skip
      obtain ⟨hb, h⟩ := cond_some' h
      simp only [Bool.and_eq_true, Nat.beq_eq, decide_eq_true_eq] at hb
      obtain ⟨⟨⟨⟨⟨⟨rfl, rfl⟩, rfl⟩, rfl⟩, rfl⟩, rfl⟩, rfl⟩ := hb
      exact blk_loop (S := T133_b37_0) (ks := E133_b37_0) (step := S_slices_IndexFunc_api_Segment_api_Segment_b37_0 fuel) (v := (_, _, _)) (by kernel_rfl) (by kernel_rfl) (fun R K v => by obtain ⟨x0, x1, x2⟩ := v; exact S133_b37_0_ok fuel R K x0 x1 x2) hs h
    · cases h
  · cases h
noncomputable def J133_b37 (fuel : Nat) (i : Nat) : Option Ev.Blk := Ev.look i [(100000, B133_b37_0 fuel)]
noncomputable def F_slices_IndexFunc_api_Segment_api_Segment_b37 (fuel : Nat) (x0 : (List (Int × (Int × (Int × ((List Int) × ((List Bool) × (List Int)))))))) (k0 : (Int) → Option Ans) : Option Ans :=
  (L_slices_IndexFunc_api_Segment_api_Segment_b37_0 fuel (x0, (↑x0.length : Int), (0 : Int))
    (fun ret0_0 =>
      k0 ret0_0)
    (fun () =>
      k0 ((-1 : Int))))
abbrev YF133_b37 : Type := ((List (Int × (Int × (Int × ((List Int) × ((List Bool) × (List Int)))))))) → ((Int) → Option Ans) → Option Ans
theorem F133_b37_eqg (fuel : Nat) (f135 : YF135) (x0 : (List (Int × (Int × (Int × ((List Int) × ((List Bool) × (List Int)))))))) (k : Ev.Cont) : evalFn tab (Gg133_b37 f135) (J133_b37 fuel) kp133_b37 fuel Try.f133 [.c (.sl (.pair (.int .i64) (.pair (.int .i64) (.pair (.int .i64) (.pair (.sl (.int .i64)) (.pair (.sl .bool) (.sl (.int .u8))))))) x0), .c (.clo 135 [])] [] k = (fun  (k0 : (Int) → Option Ans) =>
  (L_slices_IndexFunc_api_Segment_api_Segment_b37_0 fuel (x0, (↑x0.length : Int), (0 : Int))
    (fun ret0_0 =>
      k0 ret0_0)
    (fun () =>
      k0 ((-1 : Int))))) (fun r => match r with | r0 => k (.c (.int .i64 r0), [])) := by
  kernel_rfl
theorem F133_b37_eq (fuel : Nat) (x0 : (List (Int × (Int × (Int × ((List Int) × ((List Bool) × (List Int)))))))) (k : Ev.Cont) : evalFn tab (G133_b37 fuel) (J133_b37 fuel) kp133_b37 fuel Try.f133 [.c (.sl (.pair (.int .i64) (.pair (.int .i64) (.pair (.int .i64) (.pair (.sl (.int .i64)) (.pair (.sl .bool) (.sl (.int .u8))))))) x0), .c (.clo 135 [])] [] k = F_slices_IndexFunc_api_Segment_api_Segment_b37 fuel x0 (fun r => match r with | r0 => k (.c (.int .i64 r0), [])) :=
  F133_b37_eqg fuel (F_file_rightEnd_1 fuel) x0 k
theorem hG133_b37 (fuel : Nat) : GOK Try.prog (G133_b37 fuel) :=
  gok_cons ⟨ok135 fuel, enters_of Try.func135 (by kernel_rfl) rfl⟩ <|
  gok_nil
theorem B133_b37_0_blk (fuel : Nat) : BlkOK Try.prog Try.f133.ntmps (.block 0 (.loop (bodyOf 0 Try.f133))) (B133_b37_0 fuel) :=
  blk_of (blk_of_code tab_ok (hG133_b37 fuel) mixed (J := J133_b37_0 fuel) (kp := kp133_b37) (fuel := fuel) (by kernel_rfl) (fun q hq => by
    rw [(by kernel_rfl : obl (J133_b37_0 fuel) (.block 0 (.loop (bodyOf 0 Try.f133))) = [])] at hq
    cases hq)) (B133_b37_0_ok fuel)
theorem fok133_b37 (fuel : Nat) : FnOK Try.prog 133 (evalFn tab (G133_b37 fuel) (J133_b37 fuel) kp133_b37 fuel Try.f133) :=
  fn_ok tab_ok (hG133_b37 fuel) mixed Try.func133 (c := (Try.f133.body).getD .skip) rfl (fun q hq => by
    rw [(by kernel_rfl : obl (J133_b37 fuel) ((Try.f133.body).getD .skip) = [(.block 0 (.loop (bodyOf 0 Try.f133)), B133_b37_0 fuel)])] at hq
    simp only [List.mem_cons, List.not_mem_nil, or_false] at hq
    subst hq
    · exact B133_b37_0_blk fuel)
noncomputable def mt133_b37 : List Ev.SV → List Ev.Ob → Bool := fun args objs => match args, objs with
  | [.c (.sl (.pair (.int .i64) (.pair (.int .i64) (.pair (.int .i64) (.pair (.sl (.int .i64)) (.pair (.sl .bool) (.sl (.int .u8))))))) _), .c (.clo q0 [])], [] => Nat.beq q0 135
  | _, _ => false
noncomputable def spg133_b37 (F : YF133_b37) : Ev.Spec := fun args objs k => match args, objs with
  | [.c (.sl (.pair (.int .i64) (.pair (.int .i64) (.pair (.int .i64) (.pair (.sl (.int .i64)) (.pair (.sl .bool) (.sl (.int .u8))))))) x0), .c (.clo q0 [])], [] => bif Nat.beq q0 135 then F x0 (fun r => match r with | r0 => k (.c (.int .i64 r0), [])) else none
  | _, _ => none
noncomputable def spec133_b37 (fuel : Nat) : Ev.Spec := spg133_b37 (F_slices_IndexFunc_api_Segment_api_Segment_b37 fuel)
theorem ok133_b37 (fuel : Nat) : FnOK Try.prog 133 (spec133_b37 fuel) := by
  intro args objs kk r h
  unfold spec133_b37 spg133_b37 at h
  split at h
  · skip
    obtain ⟨hb, h⟩ := cond_some' h
    simp only [Bool.and_eq_true, Nat.beq_eq, decide_eq_true_eq] at hb
    obtain rfl := hb
    exact fok133_b37 fuel _ _ kk r ((F133_b37_eq fuel _ kk).trans h)
  · cases h
end Go.Proofs.Ytihfgpfofmjbaaa

set_option linter.unusedVariables false
set_option linter.unusedSimpArgs false
set_option maxRecDepth 100000
set_option maxHeartbeats 2000000
namespace Go.Proofs.Ytihfgpfofmjbaaa
open Go Ev
def kp61 (i : Nat) : Option (List Nat) := Ev.look i []
noncomputable def Gg61 (f133_b37 : YF133_b37) (f : Nat) : Option Ev.Spec := Ev.look f [(133, spg133_b37 f133_b37)]
noncomputable def G61 (fuel : Nat) : Nat → Option Ev.Spec := Gg61 (F_slices_IndexFunc_api_Segment_api_Segment_b37 fuel)
noncomputable def J61 (fuel : Nat) (i : Nat) : Option Ev.Blk := Ev.look i []
noncomputable def F_file_rightEnd (fuel : Nat) (x0 : Int) (x1 : (List (Int × Int × Int × (List Int) × (List Bool) × (List Int)))) (k0 : (Bool) → Option Ans) : Option Ans :=
  (F_slices_IndexFunc_api_Segment_api_Segment_b37 fuel (x1)
    (fun y2 =>
      bif x0 == (2 : Int) then
       k0 (Decidable.decide (y2 < (0 : Int)))
      else
       bif Decidable.decide (y2 ≥ (0 : Int)) then
        k0 (y2 == Go.IntKind.i64.wrap ((↑x1.length : Int) - (1 : Int)))
       else
        k0 Bool.false))
abbrev YF61 : Type := (Int) → ((List (Int × Int × Int × (List Int) × (List Bool) × (List Int)))) → ((Bool) → Option Ans) → Option Ans
theorem F61_eqg (fuel : Nat) (f133_b37 : YF133_b37) (x0 : Int) (x1 : (List (Int × Int × Int × (List Int) × (List Bool) × (List Int)))) (k : Ev.Cont) : evalFn tab (Gg61 f133_b37) (J61 fuel) kp61 fuel Try.f61 [.c (.int .i64 x0), .c (.sl (.pair (.int .i64) (.pair (.int .i64) (.pair (.int .i64) (.pair (.sl (.int .i64)) (.pair (.sl .bool) (.sl (.int .u8))))))) x1)] [] k = (fun  (k0 : (Bool) → Option Ans) =>
  (f133_b37 (x1)
    (fun y2 =>
      bif x0 == (2 : Int) then
       k0 (Decidable.decide (y2 < (0 : Int)))
      else
       bif Decidable.decide (y2 ≥ (0 : Int)) then
        k0 (y2 == Go.IntKind.i64.wrap ((↑x1.length : Int) - (1 : Int)))
       else
        k0 Bool.false))) (fun r => match r with | r0 => k (.c (.bool r0), [])) := by
  kernel_rfl
theorem F61_eq (fuel : Nat) (x0 : Int) (x1 : (List (Int × Int × Int × (List Int) × (List Bool) × (List Int)))) (k : Ev.Cont) : evalFn tab (G61 fuel) (J61 fuel) kp61 fuel Try.f61 [.c (.int .i64 x0), .c (.sl (.pair (.int .i64) (.pair (.int .i64) (.pair (.int .i64) (.pair (.sl (.int .i64)) (.pair (.sl .bool) (.sl (.int .u8))))))) x1)] [] k = F_file_rightEnd fuel x0 x1 (fun r => match r with | r0 => k (.c (.bool r0), [])) :=
  F61_eqg fuel (F_slices_IndexFunc_api_Segment_api_Segment_b37 fuel) x0 x1 k
theorem hG61 (fuel : Nat) : GOK Try.prog (G61 fuel) :=
  gok_cons ⟨ok133_b37 fuel, enters_of Try.func133 (by kernel_rfl) rfl⟩ <|
  gok_nil
theorem fok61 (fuel : Nat) : FnOK Try.prog 61 (evalFn tab (G61 fuel) (J61 fuel) kp61 fuel Try.f61) :=
  fn_ok tab_ok (hG61 fuel) mixed Try.func61 (c := (Try.f61.body).getD .skip) rfl (fun q hq => by
    rw [(by kernel_rfl : obl (J61 fuel) ((Try.f61.body).getD .skip) = [])] at hq
    cases hq)
noncomputable def mt61 : List Ev.SV → List Ev.Ob → Bool := fun args objs => match args, objs with
  | [.c (.int .i64 _), .c (.sl (.pair (.int .i64) (.pair (.int .i64) (.pair (.int .i64) (.pair (.sl (.int .i64)) (.pair (.sl .bool) (.sl (.int .u8))))))) _)], [] => true
  | _, _ => false
noncomputable def spg61 (F : YF61) : Ev.Spec := fun args objs k => match args, objs with
  | [.c (.int .i64 x0), .c (.sl (.pair (.int .i64) (.pair (.int .i64) (.pair (.int .i64) (.pair (.sl (.int .i64)) (.pair (.sl .bool) (.sl (.int .u8))))))) x1)], [] => bif true then F x0 x1 (fun r => match r with | r0 => k (.c (.bool r0), [])) else none
  | _, _ => none
noncomputable def spec61 (fuel : Nat) : Ev.Spec := spg61 (F_file_rightEnd fuel)
theorem ok61 (fuel : Nat) : FnOK Try.prog 61 (spec61 fuel) := by
  intro args objs kk r h
  unfold spec61 spg61 at h
  split at h
  · skip
    obtain ⟨hb, h⟩ := cond_some' h
    simp only [Bool.and_eq_true, Nat.beq_eq, decide_eq_true_eq] at hb
    clear hb
    exact fok61 fuel _ _ kk r ((F61_eq fuel _ _ kk).trans h)
  · cases h
end Go.Proofs.Ytihfgpfofmjbaaa

set_option linter.unusedVariables false
set_option linter.unusedSimpArgs false
set_option maxRecDepth 100000
set_option maxHeartbeats 2000000
namespace Go.Proofs.Ytihfgpfofmjbaaa
open Go Ev
def kp139 (i : Nat) : Option (List Nat) := Ev.look i [(3, [4, 12, 13, 14]), (100000, [4]), (400000, [2, 3])]
noncomputable def Gg139 (f : Nat) : Option Ev.Spec := Ev.look f []
noncomputable def G139 (fuel : Nat) : Nat → Option Ev.Spec := Gg139
noncomputable def S_bits_Pack_0 (fuel : Nat) (v : (List Int) × Int × Int × (List Int)) (c : ((List Int) × Int × Int × (List Int)) → Option Ans) (B : (Int × (List Int) → Option Ans) × ((List Int) → Option Ans)) : Option Ans := match v, B with
  | (x0, x1, x2, x3), (ret, b) =>
   bif Decidable.decide (x2 < x1) then
      bif Decidable.decide ((0 : Int) ≤ x2 ∧ x2 < (↑x0.length : Int)) then
      bif Decidable.decide (x0.getD x2.toNat (0 : Int) > (1 : Int)) then
        ret ((2 : Int), [])
       else
        bif Decidable.decide ((0 : Int) ≤ Go.IntKind.i64.wrap (x2.tdiv (8 : Int)) ∧ Go.IntKind.i64.wrap (x2.tdiv (8 : Int)) < (↑x3.length : Int)) then
        bif Decidable.decide (Go.IntKind.i64.wrap ((7 : Int) - x2.tmod (8 : Int)) < (0 : Int)) then
          none
         else
          bif Decidable.decide ((0 : Int) ≤ Go.IntKind.i64.wrap (x2.tdiv (8 : Int)) ∧ Go.IntKind.i64.wrap (x2.tdiv (8 : Int)) < (↑x3.length : Int)) then
          c (x0, x1, Go.IntKind.i64.wrap (x2 + (1 : Int)), x3.set (Go.IntKind.i64.wrap (x2.tdiv (8 : Int))).toNat (Ev.ior Go.IntKind.u8 (x3.getD (Go.IntKind.i64.wrap (x2.tdiv (8 : Int))).toNat (0 : Int)) (Ev.ishl Go.IntKind.u8 (x0.getD x2.toNat (0 : Int)) (Go.IntKind.i64.wrap ((7 : Int) - x2.tmod (8 : Int))))))
          else none
        else none
      else none
     else
      b x3
noncomputable def L_bits_Pack_0 (fuel : Nat) (v : (List Int) × Int × Int × (List Int)) (ret : (Int × (List Int) → Option Ans)) (b : ((List Int) → Option Ans)) : Option Ans := iter (S_bits_Pack_0 fuel) fuel v (ret, b)
noncomputable def J139_0 (fuel : Nat) (i : Nat) : Option Ev.Blk := Ev.look i []
noncomputable def T139_0 (v : (List Int) × Int × Int × (List Int)) : Ev.St := match v with | (x0, x1, x2, x3) => ⟨[(4, .c (.own 0)), (12, .c (.sl (.int .u8) x0)), (13, .c (.int .i64 x1)), (14, .c (.int .i64 x2))], [(0, .vec 5 (.int .u8) x3 true)], 1, 0⟩
noncomputable def E139_0 (K : Ev.Ex → Ev.St → Option Ans) : (Int × (List Int) → Option Ans) × ((List Int) → Option Ans) := ((fun v => match v with | (x0, x1) => K .ret ⟨[(2, .c (.own 0)), (3, .c (.int .i64 x0))], [(0, .vec 5 (.int .u8) x1 true)], 1, 0⟩), (fun v => match v with | x0 => K .normal ⟨[(4, .c (.own 0))], [(0, .vec 5 (.int .u8) x0 true)], 1, 0⟩))
theorem S139_0_ok (fuel : Nat) (R : Ev.St → Option Ans) (K : Ev.Ex → Ev.St → Option Ans) (x0 : (List Int)) (x1 : Int) (x2 : Int) (x3 : (List Int)) : evalCode tab (G139 fuel) (J139_0 fuel) kp139 fuel (bodyOf 0 Try.f139) (T139_0 (x0, x1, x2, x3)) (lc kp139 3 0 R K) = S_bits_Pack_0 fuel (x0, x1, x2, x3) (fun v => R (T139_0 v)) (E139_0 K) := by
  kernel_rfl
noncomputable def B139_0 (fuel : Nat) : Ev.Blk := fun st K => match canonO (kp139 3) st with
  | some s => (match s with
    | ⟨[(q0, .c (.own q1)), (q2, .c (.sl (.int .u8) x0)), (q3, .c (.int .i64 x1)), (q4, .c (.int .i64 x2))], [(q5, .vec q6 (.int .u8) x3 true)], q7, q8⟩ => bif Nat.beq q0 4 && Nat.beq q1 0 && Nat.beq q2 12 && Nat.beq q3 13 && Nat.beq q4 14 && Nat.beq q5 0 && Nat.beq q6 5 && Nat.beq q7 1 && Nat.beq q8 0 then iter (S_bits_Pack_0 fuel) fuel (x0, x1, x2, x3) (E139_0 K) else none
    | _ => none)
  | none => none
theorem B139_0_ok (fuel : Nat) (st : Ev.St) (K : Ev.Ex → Ev.St → Option Ans) (r : Ans) (h : B139_0 fuel st K = some r) : evalCode tab (G139 fuel) (J139_0 fuel) kp139 fuel (.block 0 (.loop (bodyOf 0 Try.f139))) st K = some r := by
  unfold B139_0 at h
  split at h
  · rename_i s hs
    split at h
    · skip
      obtain ⟨hb, h⟩ := cond_some' h
      simp only [Bool.and_eq_true, Nat.beq_eq, decide_eq_true_eq] at hb
      obtain ⟨⟨⟨⟨⟨⟨⟨⟨rfl, rfl⟩, rfl⟩, rfl⟩, rfl⟩, rfl⟩, rfl⟩, rfl⟩, rfl⟩ := hb
      exact blk_loop (S := T139_0) (ks := E139_0) (step := S_bits_Pack_0 fuel) (v := (_, _, _, _)) (by kernel_rfl) (by kernel_rfl) (fun R K v => by obtain ⟨x0, x1, x2, x3⟩ := v; exact S139_0_ok fuel R K x0 x1 x2 x3) hs h
    · cases h
  · cases h
noncomputable def J139 (fuel : Nat) (i : Nat) : Option Ev.Blk := Ev.look i [(100000, B139_0 fuel)]
noncomputable def F_bits_Pack (fuel : Nat) (x0 : (List Int)) (k0 : (Int × (List Int)) → Option Ans) : Option Ans :=
  bif Decidable.decide ((0 : Int) ≤ Go.IntKind.i64.wrap ((Go.IntKind.i64.wrap ((↑x0.length : Int) + (7 : Int))).tdiv (8 : Int)) ∧ Go.IntKind.i64.wrap ((Go.IntKind.i64.wrap ((↑x0.length : Int) + (7 : Int))).tdiv (8 : Int)) = Go.IntKind.i64.wrap ((Go.IntKind.i64.wrap ((↑x0.length : Int) + (7 : Int))).tdiv (8 : Int)) ∧ (↑(1 : Nat) : Int) * Go.IntKind.i64.wrap ((Go.IntKind.i64.wrap ((↑x0.length : Int) + (7 : Int))).tdiv (8 : Int)) ≤ (281474976710656 : Int) ∧ Go.IntKind.i64.wrap ((Go.IntKind.i64.wrap ((↑x0.length : Int) + (7 : Int))).tdiv (8 : Int)) ≤ (281474976710656 : Int)) then
  (L_bits_Pack_0 fuel (x0, (↑x0.length : Int), (0 : Int), List.replicate (Go.IntKind.i64.wrap ((Go.IntKind.i64.wrap ((↑x0.length : Int) + (7 : Int))).tdiv (8 : Int))).toNat (0 : Int))
     (fun (ret0_0, ret0_1) =>
       k0 (ret0_0, ret0_1))
     (fun b0_0 =>
       k0 ((0 : Int), b0_0)))
  else none
abbrev YF139 : Type := ((List Int)) → ((Int × (List Int)) → Option Ans) → Option Ans
theorem F139_eq (fuel : Nat) (x0 : (List Int)) (k : Ev.Cont) : evalFn tab (G139 fuel) (J139 fuel) kp139 fuel Try.f139 [.c (.sl (.int .u8) x0)] [] k = F_bits_Pack fuel x0 (fun r => match r with | (r0, r1) => k (.tup [(false, [.own 0]), (false, [.int .i64 r0])], [.vec 5 (.int .u8) r1 true])) := by
  kernel_rfl
theorem hG139 (fuel : Nat) : GOK Try.prog (G139 fuel) :=
  gok_nil
theorem B139_0_blk (fuel : Nat) : BlkOK Try.prog Try.f139.ntmps (.block 0 (.loop (bodyOf 0 Try.f139))) (B139_0 fuel) :=
  blk_of (blk_of_code tab_ok (hG139 fuel) mixed (J := J139_0 fuel) (kp := kp139) (fuel := fuel) (by kernel_rfl) (fun q hq => by
    rw [(by kernel_rfl : obl (J139_0 fuel) (.block 0 (.loop (bodyOf 0 Try.f139))) = [])] at hq
    cases hq)) (B139_0_ok fuel)
theorem fok139 (fuel : Nat) : FnOK Try.prog 139 (evalFn tab (G139 fuel) (J139 fuel) kp139 fuel Try.f139) :=
  fn_ok tab_ok (hG139 fuel) mixed Try.func139 (c := (Try.f139.body).getD .skip) rfl (fun q hq => by
    rw [(by kernel_rfl : obl (J139 fuel) ((Try.f139.body).getD .skip) = [(.block 0 (.loop (bodyOf 0 Try.f139)), B139_0 fuel)])] at hq
    simp only [List.mem_cons, List.not_mem_nil, or_false] at hq
    subst hq
    · exact B139_0_blk fuel)
noncomputable def mt139 : List Ev.SV → List Ev.Ob → Bool := fun args objs => match args, objs with
  | [.c (.sl (.int .u8) _)], [] => true
  | _, _ => false
noncomputable def spg139 (F : YF139) : Ev.Spec := fun args objs k => match args, objs with
  | [.c (.sl (.int .u8) x0)], [] => bif true then F x0 (fun r => match r with | (r0, r1) => k (.tup [(false, [.own 0]), (false, [.int .i64 r0])], [.vec 5 (.int .u8) r1 true])) else none
  | _, _ => none
noncomputable def spec139 (fuel : Nat) : Ev.Spec := spg139 (F_bits_Pack fuel)
theorem ok139 (fuel : Nat) : FnOK Try.prog 139 (spec139 fuel) := by
  intro args objs kk r h
  unfold spec139 spg139 at h
  split at h
  · skip
    obtain ⟨hb, h⟩ := cond_some' h
    simp only [Bool.and_eq_true, Nat.beq_eq, decide_eq_true_eq] at hb
    clear hb
    exact fok139 fuel _ _ kk r ((F139_eq fuel _ kk).trans h)
  · cases h
end Go.Proofs.Ytihfgpfofmjbaaa

set_option linter.unusedVariables false
set_option linter.unusedSimpArgs false
set_option maxRecDepth 100000
set_option maxHeartbeats 2000000
namespace Go.Proofs.Ytihfgpfofmjbaaa
open Go Ev
def kp137 (i : Nat) : Option (List Nat) := Ev.look i [(5, [0, 4]), (100000, [4]), (400000, [2, 3])]
noncomputable def Gg137 (f : Nat) : Option Ev.Spec := Ev.look f []
noncomputable def G137 (fuel : Nat) : Nat → Option Ev.Spec := Gg137
noncomputable def S_bits_Size_0 (fuel : Nat) (v : Int × (List Int)) (c : (Int × (List Int)) → Option Ans) (B : ((List Int) → Option Ans)) : Option Ans := match v, B with
  | (x0, x1), b =>
   bif Decidable.decide (x0 > (0 : Int)) then
      bif Decidable.decide (([Go.IntKind.u8.wrap (Go.IntKind.u8.wrap (x0.tmod (128 : Int)) + (128 : Int))].length + x1.length) * (1 : Nat) ≤ (140737488355328 : Nat) ∧ [Go.IntKind.u8.wrap (Go.IntKind.u8.wrap (x0.tmod (128 : Int)) + (128 : Int))].length + x1.length ≤ (140737488355328 : Nat)) then
      c (Go.IntKind.i64.wrap (x0.tdiv (128 : Int)), [Go.IntKind.u8.wrap (Go.IntKind.u8.wrap (x0.tmod (128 : Int)) + (128 : Int))] ++ x1)
      else none
     else
      b x1
noncomputable def L_bits_Size_0 (fuel : Nat) (v : Int × (List Int)) (b : ((List Int) → Option Ans)) : Option Ans := iter (S_bits_Size_0 fuel) fuel v b
noncomputable def J137_0 (fuel : Nat) (i : Nat) : Option Ev.Blk := Ev.look i []
noncomputable def T137_0 (v : Int × (List Int)) : Ev.St := match v with | (x0, x1) => ⟨[(0, .c (.int .i64 x0)), (4, .c (.own 0))], [(0, .vec 5 (.int .u8) x1 true)], 1, 0⟩
noncomputable def E137_0 (K : Ev.Ex → Ev.St → Option Ans) : ((List Int) → Option Ans) := (fun v => match v with | x0 => K .normal ⟨[(4, .c (.own 0))], [(0, .vec 5 (.int .u8) x0 true)], 1, 0⟩)
theorem S137_0_ok (fuel : Nat) (R : Ev.St → Option Ans) (K : Ev.Ex → Ev.St → Option Ans) (x0 : Int) (x1 : (List Int)) : evalCode tab (G137 fuel) (J137_0 fuel) kp137 fuel (bodyOf 0 Try.f137) (T137_0 (x0, x1)) (lc kp137 5 0 R K) = S_bits_Size_0 fuel (x0, x1) (fun v => R (T137_0 v)) (E137_0 K) := by
  kernel_rfl
noncomputable def B137_0 (fuel : Nat) : Ev.Blk := fun st K => match canonO (kp137 5) st with
  | some s => (match s with
    | ⟨[(q0, .c (.int .i64 x0)), (q1, .c (.own q2))], [(q3, .vec q4 (.int .u8) x1 true)], q5, q6⟩ => bif Nat.beq q0 0 && Nat.beq q1 4 && Nat.beq q2 0 && Nat.beq q3 0 && Nat.beq q4 5 && Nat.beq q5 1 && Nat.beq q6 0 then iter (S_bits_Size_0 fuel) fuel (x0, x1) (E137_0 K) else none
    | _ => none)
  | none => none
theorem B137_0_ok (fuel : Nat) (st : Ev.St) (K : Ev.Ex → Ev.St → Option Ans) (r : Ans) (h : B137_0 fuel st K = some r) : evalCode tab (G137 fuel) (J137_0 fuel) kp137 fuel (.block 0 (.loop (bodyOf 0 Try.f137))) st K = some r := by
  unfold B137_0 at h
  split at h
  · rename_i s hs
    split at h
    · skip
      obtain ⟨hb, h⟩ := cond_some' h
      simp only [Bool.and_eq_true, Nat.beq_eq, decide_eq_true_eq] at hb
      obtain ⟨⟨⟨⟨⟨⟨rfl, rfl⟩, rfl⟩, rfl⟩, rfl⟩, rfl⟩, rfl⟩ := hb
      exact blk_loop (S := T137_0) (ks := E137_0) (step := S_bits_Size_0 fuel) (v := (_, _)) (by kernel_rfl) (by kernel_rfl) (fun R K v => by obtain ⟨x0, x1⟩ := v; exact S137_0_ok fuel R K x0 x1) hs h
    · cases h
  · cases h
noncomputable def J137 (fuel : Nat) (i : Nat) : Option Ev.Blk := Ev.look i [(100000, B137_0 fuel)]
noncomputable def F_bits_Size (fuel : Nat) (x0 : Int) (k0 : (Int × (List Int)) → Option Ans) : Option Ans :=
  bif Decidable.decide (x0 < (0 : Int)) then
   k0 ((2 : Int), [])
  else
   bif Decidable.decide (x0 > (2147483647 : Int)) then
    k0 ((2 : Int), [])
   else
    (L_bits_Size_0 fuel (Go.IntKind.i64.wrap (x0.tdiv (128 : Int)), [Go.IntKind.u8.wrap (x0.tmod (128 : Int))])
      (fun b0_0 =>
        k0 ((0 : Int), b0_0)))
abbrev YF137 : Type := (Int) → ((Int × (List Int)) → Option Ans) → Option Ans
theorem F137_eq (fuel : Nat) (x0 : Int) (k : Ev.Cont) : evalFn tab (G137 fuel) (J137 fuel) kp137 fuel Try.f137 [.c (.int .i64 x0)] [] k = F_bits_Size fuel x0 (fun r => match r with | (r0, r1) => k (.tup [(false, [.own 0]), (false, [.int .i64 r0])], [.vec 5 (.int .u8) r1 true])) := by
  kernel_rfl
theorem hG137 (fuel : Nat) : GOK Try.prog (G137 fuel) :=
  gok_nil
theorem B137_0_blk (fuel : Nat) : BlkOK Try.prog Try.f137.ntmps (.block 0 (.loop (bodyOf 0 Try.f137))) (B137_0 fuel) :=
  blk_of (blk_of_code tab_ok (hG137 fuel) mixed (J := J137_0 fuel) (kp := kp137) (fuel := fuel) (by kernel_rfl) (fun q hq => by
    rw [(by kernel_rfl : obl (J137_0 fuel) (.block 0 (.loop (bodyOf 0 Try.f137))) = [])] at hq
    cases hq)) (B137_0_ok fuel)
theorem fok137 (fuel : Nat) : FnOK Try.prog 137 (evalFn tab (G137 fuel) (J137 fuel) kp137 fuel Try.f137) :=
  fn_ok tab_ok (hG137 fuel) mixed Try.func137 (c := (Try.f137.body).getD .skip) rfl (fun q hq => by
    rw [(by kernel_rfl : obl (J137 fuel) ((Try.f137.body).getD .skip) = [(.block 0 (.loop (bodyOf 0 Try.f137)), B137_0 fuel)])] at hq
    simp only [List.mem_cons, List.not_mem_nil, or_false] at hq
    subst hq
    · exact B137_0_blk fuel)
noncomputable def mt137 : List Ev.SV → List Ev.Ob → Bool := fun args objs => match args, objs with
  | [.c (.int .i64 _)], [] => true
  | _, _ => false
noncomputable def spg137 (F : YF137) : Ev.Spec := fun args objs k => match args, objs with
  | [.c (.int .i64 x0)], [] => bif true then F x0 (fun r => match r with | (r0, r1) => k (.tup [(false, [.own 0]), (false, [.int .i64 r0])], [.vec 5 (.int .u8) r1 true])) else none
  | _, _ => none
noncomputable def spec137 (fuel : Nat) : Ev.Spec := spg137 (F_bits_Size fuel)
theorem ok137 (fuel : Nat) : FnOK Try.prog 137 (spec137 fuel) := by
  intro args objs kk r h
  unfold spec137 spg137 at h
  split at h
  · skip
    obtain ⟨hb, h⟩ := cond_some' h
    simp only [Bool.and_eq_true, Nat.beq_eq, decide_eq_true_eq] at hb
    clear hb
    exact fok137 fuel _ _ kk r ((F137_eq fuel _ kk).trans h)
  · cases h
end Go.Proofs.Ytihfgpfofmjbaaa

set_option linter.unusedVariables false
set_option linter.unusedSimpArgs false
set_option maxRecDepth 100000
set_option maxHeartbeats 2000000
namespace Go.Proofs.Ytihfgpfofmjbaaa
open Go Ev
def kp136_35f (i : Nat) : Option (List Nat) := Ev.look i []
noncomputable def Gg136_35f (f137 : YF137) (f : Nat) : Option Ev.Spec := Ev.look f [(137, spg137 f137)]
noncomputable def G136_35f (fuel : Nat) : Nat → Option Ev.Spec := Gg136_35f (F_bits_Size fuel)
noncomputable def J136_35f (fuel : Nat) (i : Nat) : Option Ev.Blk := Ev.look i []
noncomputable def F_segment_Header_1_35f (fuel : Nat) (x0 : Int) (x1 : (List Int)) (k0 : ((List Int)) → Option Ans) : Option Ans :=
  (F_bits_Size fuel (x0)
    (fun (y2_0, y2_1) =>
      bif Decidable.decide ((x1.length + y2_1.length) * (1 : Nat) ≤ (140737488355328 : Nat) ∧ x1.length + y2_1.length ≤ (140737488355328 : Nat)) then
      k0 (x1 ++ y2_1)
      else none))
abbrev YF136_35f : Type := (Int) → ((List Int)) → (((List Int)) → Option Ans) → Option Ans
theorem F136_35f_eqg (fuel : Nat) (f137 : YF137) (x0 : Int) (x1 : (List Int)) (k : Ev.Cont) : evalFn tab (Gg136_35f f137) (J136_35f fuel) kp136_35f fuel Try.f136 [.c (.int .i64 x0), .c (.ptr 0 0)] [.cells 25 [.own 1], .vec 5 (.int .u8) x1 false] k = (fun  (k0 : ((List Int)) → Option Ans) =>
  (f137 (x0)
    (fun (y2_0, y2_1) =>
      bif Decidable.decide ((x1.length + y2_1.length) * (1 : Nat) ≤ (140737488355328 : Nat) ∧ x1.length + y2_1.length ≤ (140737488355328 : Nat)) then
      k0 (x1 ++ y2_1)
      else none))) (fun r => match r with | r0 => k (.tup [], [.cells 25 [.own 1], .vec 5 (.int .u8) r0 true])) := by
  kernel_rfl
theorem F136_35f_eq (fuel : Nat) (x0 : Int) (x1 : (List Int)) (k : Ev.Cont) : evalFn tab (G136_35f fuel) (J136_35f fuel) kp136_35f fuel Try.f136 [.c (.int .i64 x0), .c (.ptr 0 0)] [.cells 25 [.own 1], .vec 5 (.int .u8) x1 false] k = F_segment_Header_1_35f fuel x0 x1 (fun r => match r with | r0 => k (.tup [], [.cells 25 [.own 1], .vec 5 (.int .u8) r0 true])) :=
  F136_35f_eqg fuel (F_bits_Size fuel) x0 x1 k
theorem hG136_35f (fuel : Nat) : GOK Try.prog (G136_35f fuel) :=
  gok_cons ⟨ok137 fuel, enters_of Try.func137 (by kernel_rfl) rfl⟩ <|
  gok_nil
theorem fok136_35f (fuel : Nat) : FnOK Try.prog 136 (evalFn tab (G136_35f fuel) (J136_35f fuel) kp136_35f fuel Try.f136) :=
  fn_ok tab_ok (hG136_35f fuel) mixed Try.func136 (c := (Try.f136.body).getD .skip) rfl (fun q hq => by
    rw [(by kernel_rfl : obl (J136_35f fuel) ((Try.f136.body).getD .skip) = [])] at hq
    cases hq)
noncomputable def mt136_35f : List Ev.SV → List Ev.Ob → Bool := fun args objs => match args, objs with
  | [.c (.int .i64 _), .c (.ptr q0 q1)], [.cells q2 [.own q3], .vec q4 (.int .u8) _ false] => Nat.beq q0 0 && Nat.beq q1 0 && Nat.beq q2 25 && Nat.beq q3 1 && Nat.beq q4 5
  | _, _ => false
noncomputable def spg136_35f (F : YF136_35f) : Ev.Spec := fun args objs k => match args, objs with
  | [.c (.int .i64 x0), .c (.ptr q0 q1)], [.cells q2 [.own q3], .vec q4 (.int .u8) x1 false] => bif Nat.beq q0 0 && Nat.beq q1 0 && Nat.beq q2 25 && Nat.beq q3 1 && Nat.beq q4 5 then F x0 x1 (fun r => match r with | r0 => k (.tup [], [.cells 25 [.own 1], .vec 5 (.int .u8) r0 true])) else none
  | _, _ => none
noncomputable def spec136_35f (fuel : Nat) : Ev.Spec := spg136_35f (F_segment_Header_1_35f fuel)
theorem ok136_35f (fuel : Nat) : FnOK Try.prog 136 (spec136_35f fuel) := by
  intro args objs kk r h
  unfold spec136_35f spg136_35f at h
  split at h
  · skip
    obtain ⟨hb, h⟩ := cond_some' h
    simp only [Bool.and_eq_true, Nat.beq_eq, decide_eq_true_eq] at hb
    obtain ⟨⟨⟨⟨rfl, rfl⟩, rfl⟩, rfl⟩, rfl⟩ := hb
    exact fok136_35f fuel _ _ kk r ((F136_35f_eq fuel _ _ kk).trans h)
  · cases h
end Go.Proofs.Ytihfgpfofmjbaaa

set_option linter.unusedVariables false
set_option linter.unusedSimpArgs false
set_option maxRecDepth 100000
set_option maxHeartbeats 2000000
namespace Go.Proofs.Ytihfgpfofmjbaaa
open Go Ev
def kp59 (i : Nat) : Option (List Nat) := Ev.look i [(5, [1, 3, 57, 58, 59]), (100000, []), (400000, [2])]
noncomputable def Gg59 (f : Nat) : Option Ev.Spec := Ev.look f []
noncomputable def G59 (fuel : Nat) : Nat → Option Ev.Spec := Gg59
noncomputable def S_segment_Valid_0 (fuel : Nat) (v : Int × (List Int) × Int × Int × Int × Int × Int × (List Int) × (List Bool) × (List Int)) (c : (Int × (List Int) × Int × Int × Int × Int × Int × (List Int) × (List Bool) × (List Int)) → Option Ans) (B : (Bool → Option Ans) × (Unit → Option Ans)) : Option Ans := match v, B with
  | (x0, x1, x2, x3, x4, x5, x6, x7, x8, x9), (ret, b) =>
   bif Decidable.decide (x3 < x2) then
      bif Decidable.decide ((0 : Int) ≤ x3 ∧ x3 < (↑x1.length : Int)) then
      bif Decidable.decide (x1.getD x3.toNat (0 : Int) ≤ x0) then
        ret Bool.false
       else
        bif Decidable.decide (x1.getD x3.toNat (0 : Int) ≥ x4) then
         ret Bool.false
        else
         c (x1.getD x3.toNat (0 : Int), x1, x2, Go.IntKind.i64.wrap (x3 + (1 : Int)), x4, x5, x6, x7, x8, x9)
      else none
     else
      b ()
noncomputable def L_segment_Valid_0 (fuel : Nat) (v : Int × (List Int) × Int × Int × Int × Int × Int × (List Int) × (List Bool) × (List Int)) (ret : (Bool → Option Ans)) (b : (Unit → Option Ans)) : Option Ans := iter (S_segment_Valid_0 fuel) fuel v (ret, b)
noncomputable def J59_0 (fuel : Nat) (i : Nat) : Option Ev.Blk := Ev.look i []
noncomputable def T59_0 (v : Int × (List Int) × Int × Int × Int × Int × Int × (List Int) × (List Bool) × (List Int)) : Ev.St := match v with | (x0, x1, x2, x3, x4, x5, x6, x7, x8, x9) => ⟨[(1, .c (.ptr 0 0)), (3, .c (.int .i64 x0)), (57, .c (.sl (.int .i64) x1)), (58, .c (.int .i64 x2)), (59, .c (.int .i64 x3))], [(0, .cells 103 [.int .i64 x4, .int .i64 x5, .int .i64 x6, .sl (.int .i64) x7, .sl .bool x8, .sl (.int .u8) x9])], 1, 0⟩
noncomputable def E59_0 (K : Ev.Ex → Ev.St → Option Ans) : (Bool → Option Ans) × (Unit → Option Ans) := ((fun v => match v with | x0 => K .ret ⟨[(2, .c (.bool x0))], [], 0, 0⟩), (fun v => match v with | () => K .normal ⟨[], [], 0, 0⟩))
theorem S59_0_ok (fuel : Nat) (R : Ev.St → Option Ans) (K : Ev.Ex → Ev.St → Option Ans) (x0 : Int) (x1 : (List Int)) (x2 : Int) (x3 : Int) (x4 : Int) (x5 : Int) (x6 : Int) (x7 : (List Int)) (x8 : (List Bool)) (x9 : (List Int)) : evalCode tab (G59 fuel) (J59_0 fuel) kp59 fuel (bodyOf 0 Try.f59) (T59_0 (x0, x1, x2, x3, x4, x5, x6, x7, x8, x9)) (lc kp59 5 0 R K) = S_segment_Valid_0 fuel (x0, x1, x2, x3, x4, x5, x6, x7, x8, x9) (fun v => R (T59_0 v)) (E59_0 K) := by
  kernel_rfl
noncomputable def B59_0 (fuel : Nat) : Ev.Blk := fun st K => match canonO (kp59 5) st with
  | some s => (match s with
    | ⟨[(q0, .c (.ptr q1 q2)), (q3, .c (.int .i64 x0)), (q4, .c (.sl (.int .i64) x1)), (q5, .c (.int .i64 x2)), (q6, .c (.int .i64 x3))], [(q7, .cells q8 [.int .i64 x4, .int .i64 x5, .int .i64 x6, .sl (.int .i64) x7, .sl .bool x8, .sl (.int .u8) x9])], q9, q10⟩ => bif Nat.beq q0 1 && Nat.beq q1 0 && Nat.beq q2 0 && Nat.beq q3 3 && Nat.beq q4 57 && Nat.beq q5 58 && Nat.beq q6 59 && Nat.beq q7 0 && Nat.beq q8 103 && Nat.beq q9 1 && Nat.beq q10 0 then iter (S_segment_Valid_0 fuel) fuel (x0, x1, x2, x3, x4, x5, x6, x7, x8, x9) (E59_0 K) else none
    | _ => none)
  | none => none
theorem B59_0_ok (fuel : Nat) (st : Ev.St) (K : Ev.Ex → Ev.St → Option Ans) (r : Ans) (h : B59_0 fuel st K = some r) : evalCode tab (G59 fuel) (J59_0 fuel) kp59 fuel (.block 0 (.loop (bodyOf 0 Try.f59))) st K = some r := by
  unfold B59_0 at h
  split at h
  · rename_i s hs
    split at h
    · skip
      obtain ⟨hb, h⟩ := cond_some' h
      simp only [Bool.and_eq_true, Nat.beq_eq, decide_eq_true_eq] at hb
      obtain ⟨⟨⟨⟨⟨⟨⟨⟨⟨⟨rfl, rfl⟩, rfl⟩, rfl⟩, rfl⟩, rfl⟩, rfl⟩, rfl⟩, rfl⟩, rfl⟩, rfl⟩ := hb
      exact blk_loop (S := T59_0) (ks := E59_0) (step := S_segment_Valid_0 fuel) (v := (_, _, _, _, _, _, _, _, _, _)) (by kernel_rfl) (by kernel_rfl) (fun R K v => by obtain ⟨x0, x1, x2, x3, x4, x5, x6, x7, x8, x9⟩ := v; exact S59_0_ok fuel R K x0 x1 x2 x3 x4 x5 x6 x7 x8 x9) hs h
    · cases h
  · cases h
noncomputable def J59 (fuel : Nat) (i : Nat) : Option Ev.Blk := Ev.look i [(100000, B59_0 fuel)]
noncomputable def F_segment_Valid (fuel : Nat) (x0 : Int) (x1 : Int) (x2 : Int) (x3 : (List Int)) (x4 : (List Bool)) (x5 : (List Int)) (k0 : (Bool) → Option Ans) : Option Ans :=
  bif Decidable.decide (x0 < (0 : Int)) then
   k0 Bool.false
  else
   bif Decidable.decide (x0 > (10000 : Int)) then
    k0 Bool.false
   else
    bif Decidable.decide (x1 < (0 : Int)) then
     k0 Bool.false
    else
     bif Decidable.decide (x1 > (15 : Int)) then
      k0 Bool.false
     else
      bif Decidable.decide (x2 < (0 : Int)) then
       k0 Bool.false
      else
       bif Decidable.decide (x2 > (1000 : Int)) then
        k0 Bool.false
       else
        bif Decidable.decide ((↑x3.length : Int) > (20 : Int)) then
         k0 Bool.false
        else
         bif (↑x4.length : Int) != Go.IntKind.i64.wrap ((↑x3.length : Int) + (1 : Int)) then
          k0 Bool.false
         else
          bif Decidable.decide ((↑x5.length : Int) > (20000 : Int)) then
           k0 Bool.false
          else
           (L_segment_Valid_0 fuel ((-1 : Int), x3, (↑x3.length : Int), (0 : Int), x0, x1, x2, x3, x4, x5)
             (fun ret0_0 =>
               k0 ret0_0)
             (fun () =>
               k0 Bool.true))
abbrev YF59 : Type := (Int) → (Int) → (Int) → ((List Int)) → ((List Bool)) → ((List Int)) → ((Bool) → Option Ans) → Option Ans
theorem F59_eq (fuel : Nat) (x0 : Int) (x1 : Int) (x2 : Int) (x3 : (List Int)) (x4 : (List Bool)) (x5 : (List Int)) (k : Ev.Cont) : evalFn tab (G59 fuel) (J59 fuel) kp59 fuel Try.f59 [.agg [.int .i64 x0, .int .i64 x1, .int .i64 x2, .sl (.int .i64) x3, .sl .bool x4, .sl (.int .u8) x5]] [] k = F_segment_Valid fuel x0 x1 x2 x3 x4 x5 (fun r => match r with | r0 => k (.c (.bool r0), [])) := by
  kernel_rfl
theorem hG59 (fuel : Nat) : GOK Try.prog (G59 fuel) :=
  gok_nil
theorem B59_0_blk (fuel : Nat) : BlkOK Try.prog Try.f59.ntmps (.block 0 (.loop (bodyOf 0 Try.f59))) (B59_0 fuel) :=
  blk_of (blk_of_code tab_ok (hG59 fuel) mixed (J := J59_0 fuel) (kp := kp59) (fuel := fuel) (by kernel_rfl) (fun q hq => by
    rw [(by kernel_rfl : obl (J59_0 fuel) (.block 0 (.loop (bodyOf 0 Try.f59))) = [])] at hq
    cases hq)) (B59_0_ok fuel)
theorem fok59 (fuel : Nat) : FnOK Try.prog 59 (evalFn tab (G59 fuel) (J59 fuel) kp59 fuel Try.f59) :=
  fn_ok tab_ok (hG59 fuel) mixed Try.func59 (c := (Try.f59.body).getD .skip) rfl (fun q hq => by
    rw [(by kernel_rfl : obl (J59 fuel) ((Try.f59.body).getD .skip) = [(.block 0 (.loop (bodyOf 0 Try.f59)), B59_0 fuel)])] at hq
    simp only [List.mem_cons, List.not_mem_nil, or_false] at hq
    subst hq
    · exact B59_0_blk fuel)
noncomputable def mt59 : List Ev.SV → List Ev.Ob → Bool := fun args objs => match args, objs with
  | [.agg [.int .i64 _, .int .i64 _, .int .i64 _, .sl (.int .i64) _, .sl .bool _, .sl (.int .u8) _]], [] => true
  | _, _ => false
noncomputable def spg59 (F : YF59) : Ev.Spec := fun args objs k => match args, objs with
  | [.agg [.int .i64 x0, .int .i64 x1, .int .i64 x2, .sl (.int .i64) x3, .sl .bool x4, .sl (.int .u8) x5]], [] => bif true then F x0 x1 x2 x3 x4 x5 (fun r => match r with | r0 => k (.c (.bool r0), [])) else none
  | _, _ => none
noncomputable def spec59 (fuel : Nat) : Ev.Spec := spg59 (F_segment_Valid fuel)
theorem ok59 (fuel : Nat) : FnOK Try.prog 59 (spec59 fuel) := by
  intro args objs kk r h
  unfold spec59 spg59 at h
  split at h
  · skip
    obtain ⟨hb, h⟩ := cond_some' h
    simp only [Bool.and_eq_true, Nat.beq_eq, decide_eq_true_eq] at hb
    clear hb
    exact fok59 fuel _ _ kk r ((F59_eq fuel _ _ _ _ _ _ kk).trans h)
  · cases h
end Go.Proofs.Ytihfgpfofmjbaaa

set_option linter.unusedVariables false
set_option linter.unusedSimpArgs false
set_option maxRecDepth 100000
set_option maxHeartbeats 2000000
namespace Go.Proofs.Ytihfgpfofmjbaaa
open Go Ev
def kp138 (i : Nat) : Option (List Nat) := Ev.look i []
noncomputable def Gg138 (f : Nat) : Option Ev.Spec := Ev.look f []
noncomputable def G138 (fuel : Nat) : Nat → Option Ev.Spec := Gg138
noncomputable def J138 (fuel : Nat) (i : Nat) : Option Ev.Blk := Ev.look i []
noncomputable def F_segment_flag (fuel : Nat) (x0 : Bool) (k0 : (Int) → Option Ans) : Option Ans :=
  bif x0 then
   k0 ((1 : Int))
  else
   k0 ((0 : Int))
abbrev YF138 : Type := (Bool) → ((Int) → Option Ans) → Option Ans
theorem F138_eq (fuel : Nat) (x0 : Bool) (k : Ev.Cont) : evalFn tab (G138 fuel) (J138 fuel) kp138 fuel Try.f138 [.c (.bool x0)] [] k = F_segment_flag fuel x0 (fun r => match r with | r0 => k (.c (.int .u8 r0), [])) := by
  kernel_rfl
theorem hG138 (fuel : Nat) : GOK Try.prog (G138 fuel) :=
  gok_nil
theorem fok138 (fuel : Nat) : FnOK Try.prog 138 (evalFn tab (G138 fuel) (J138 fuel) kp138 fuel Try.f138) :=
  fn_ok tab_ok (hG138 fuel) mixed Try.func138 (c := (Try.f138.body).getD .skip) rfl (fun q hq => by
    rw [(by kernel_rfl : obl (J138 fuel) ((Try.f138.body).getD .skip) = [])] at hq
    cases hq)
noncomputable def mt138 : List Ev.SV → List Ev.Ob → Bool := fun args objs => match args, objs with
  | [.c (.bool _)], [] => true
  | _, _ => false
noncomputable def spg138 (F : YF138) : Ev.Spec := fun args objs k => match args, objs with
  | [.c (.bool x0)], [] => bif true then F x0 (fun r => match r with | r0 => k (.c (.int .u8 r0), [])) else none
  | _, _ => none
noncomputable def spec138 (fuel : Nat) : Ev.Spec := spg138 (F_segment_flag fuel)
theorem ok138 (fuel : Nat) : FnOK Try.prog 138 (spec138 fuel) := by
  intro args objs kk r h
  unfold spec138 spg138 at h
  split at h
  · skip
    obtain ⟨hb, h⟩ := cond_some' h
    simp only [Bool.and_eq_true, Nat.beq_eq, decide_eq_true_eq] at hb
    clear hb
    exact fok138 fuel _ _ kk r ((F138_eq fuel _ kk).trans h)
  · cases h
end Go.Proofs.Ytihfgpfofmjbaaa

set_option linter.unusedVariables false
set_option linter.unusedSimpArgs false
set_option maxRecDepth 100000
set_option maxHeartbeats 2000000
namespace Go.Proofs.Ytihfgpfofmjbaaa
open Go Ev
def kp63 (i : Nat) : Option (List Nat) := Ev.look i [(11, [1, 4, 5, 44, 45, 46]), (17, [1, 4, 5, 8, 58, 59, 60]), (100000, [1, 4, 5]), (100002, [1, 4, 5, 8]), (400000, [2, 3]), (400002, [2, 3])]
noncomputable def Gg63 (f59 : YF59) (f136_35f : YF136_35f) (f138 : YF138) (f139 : YF139) (f : Nat) : Option Ev.Spec := Ev.look f [(59, spg59 f59), (136, spg136_35f f136_35f), (138, spg138 f138), (139, spg139 f139)]
noncomputable def G63 (fuel : Nat) : Nat → Option Ev.Spec := Gg63 (F_segment_Valid fuel) (F_segment_Header_1_35f fuel) (F_segment_flag fuel) (F_bits_Pack fuel)
noncomputable def S_segment_Header_2 (fuel : Nat) (v : (List Bool) × Int × Int × Int × Int × Int × (List Int) × (List Bool) × (List Int) × (List Int) × (List Int)) (c : ((List Bool) × Int × Int × Int × Int × Int × (List Int) × (List Bool) × (List Int) × (List Int) × (List Int)) → Option Ans) (B : (Int × Int × Int × (List Int) × (List Bool) × (List Int) × (List Int) × (List Int) → Option Ans)) : Option Ans := match v, B with
  | (x0, x1, x2, x3, x4, x5, x6, x7, x8, x9, x10), b =>
   bif Decidable.decide (x2 < x1) then
      bif Decidable.decide ((0 : Int) ≤ x2 ∧ x2 < (↑x0.length : Int)) then
      (F_segment_flag fuel (x0.getD x2.toNat Bool.false)
         (fun y4 =>
           bif Decidable.decide ((x9.length + [y4].length) * (1 : Nat) ≤ (140737488355328 : Nat) ∧ x9.length + [y4].length ≤ (140737488355328 : Nat)) then
           c (x0, x1, Go.IntKind.i64.wrap (x2 + (1 : Int)), x3, x4, x5, x6, x7, x8, x9 ++ [y4], x10)
           else none))
      else none
     else
      b (x3, x4, x5, x6, x7, x8, x9, x10)
noncomputable def L_segment_Header_2 (fuel : Nat) (v : (List Bool) × Int × Int × Int × Int × Int × (List Int) × (List Bool) × (List Int) × (List Int) × (List Int)) (b : (Int × Int × Int × (List Int) × (List Bool) × (List Int) × (List Int) × (List Int) → Option Ans)) : Option Ans := iter (S_segment_Header_2 fuel) fuel v b
noncomputable def J63_2 (fuel : Nat) (i : Nat) : Option Ev.Blk := Ev.look i []
noncomputable def T63_2 (v : (List Bool) × Int × Int × Int × Int × Int × (List Int) × (List Bool) × (List Int) × (List Int) × (List Int)) : Ev.St := match v with | (x0, x1, x2, x3, x4, x5, x6, x7, x8, x9, x10) => ⟨[(1, .c (.ptr 0 0)), (4, .c (.ptr 1 0)), (5, .c (.clo 136 [1])), (8, .c (.own 2)), (58, .c (.sl .bool x0)), (59, .c (.int .i64 x1)), (60, .c (.int .i64 x2))], [(0, .cells 103 [.int .i64 x3, .int .i64 x4, .int .i64 x5, .sl (.int .i64) x6, .sl .bool x7, .sl (.int .u8) x8]), (1, .cells 25 [.own 3]), (2, .vec 5 (.int .u8) x9 true), (3, .vec 5 (.int .u8) x10 true)], 4, 0⟩
noncomputable def E63_2 (K : Ev.Ex → Ev.St → Option Ans) : (Int × Int × Int × (List Int) × (List Bool) × (List Int) × (List Int) × (List Int) → Option Ans) := (fun v => match v with | (x0, x1, x2, x3, x4, x5, x6, x7) => K .normal ⟨[(1, .c (.ptr 0 0)), (4, .c (.ptr 1 0)), (5, .c (.clo 136 [1])), (8, .c (.own 2))], [(0, .cells 103 [.int .i64 x0, .int .i64 x1, .int .i64 x2, .sl (.int .i64) x3, .sl .bool x4, .sl (.int .u8) x5]), (1, .cells 25 [.own 3]), (2, .vec 5 (.int .u8) x6 true), (3, .vec 5 (.int .u8) x7 true)], 4, 0⟩)
theorem S63_2_okg (fuel : Nat) (f59 : YF59) (f136_35f : YF136_35f) (f138 : YF138) (f139 : YF139) (R : Ev.St → Option Ans) (K : Ev.Ex → Ev.St → Option Ans) (x0 : (List Bool)) (x1 : Int) (x2 : Int) (x3 : Int) (x4 : Int) (x5 : Int) (x6 : (List Int)) (x7 : (List Bool)) (x8 : (List Int)) (x9 : (List Int)) (x10 : (List Int)) : evalCode tab (Gg63 f59 f136_35f f138 f139) (J63_2 fuel) kp63 fuel (bodyOf 2 Try.f63) (T63_2 (x0, x1, x2, x3, x4, x5, x6, x7, x8, x9, x10)) (lc kp63 17 2 R K) = (fun (c : ((List Bool) × Int × Int × Int × Int × Int × (List Int) × (List Bool) × (List Int) × (List Int) × (List Int)) → Option Ans) (B : (Int × Int × Int × (List Int) × (List Bool) × (List Int) × (List Int) × (List Int) → Option Ans)) => match B with
  | b =>
   bif Decidable.decide (x2 < x1) then
      bif Decidable.decide ((0 : Int) ≤ x2 ∧ x2 < (↑x0.length : Int)) then
      (f138 (x0.getD x2.toNat Bool.false)
         (fun y4 =>
           bif Decidable.decide ((x9.length + [y4].length) * (1 : Nat) ≤ (140737488355328 : Nat) ∧ x9.length + [y4].length ≤ (140737488355328 : Nat)) then
           c (x0, x1, Go.IntKind.i64.wrap (x2 + (1 : Int)), x3, x4, x5, x6, x7, x8, x9 ++ [y4], x10)
           else none))
      else none
     else
      b (x3, x4, x5, x6, x7, x8, x9, x10)) (fun v => R (T63_2 v)) (E63_2 K) := by
  kernel_rfl
theorem S63_2_ok (fuel : Nat) (R : Ev.St → Option Ans) (K : Ev.Ex → Ev.St → Option Ans) (x0 : (List Bool)) (x1 : Int) (x2 : Int) (x3 : Int) (x4 : Int) (x5 : Int) (x6 : (List Int)) (x7 : (List Bool)) (x8 : (List Int)) (x9 : (List Int)) (x10 : (List Int)) : evalCode tab (G63 fuel) (J63_2 fuel) kp63 fuel (bodyOf 2 Try.f63) (T63_2 (x0, x1, x2, x3, x4, x5, x6, x7, x8, x9, x10)) (lc kp63 17 2 R K) = S_segment_Header_2 fuel (x0, x1, x2, x3, x4, x5, x6, x7, x8, x9, x10) (fun v => R (T63_2 v)) (E63_2 K) :=
  S63_2_okg fuel (F_segment_Valid fuel) (F_segment_Header_1_35f fuel) (F_segment_flag fuel) (F_bits_Pack fuel) R K x0 x1 x2 x3 x4 x5 x6 x7 x8 x9 x10
noncomputable def B63_2 (fuel : Nat) : Ev.Blk := fun st K => match canonO (kp63 17) st with
  | some s => (match s with
    | ⟨[(q0, .c (.ptr q1 q2)), (q3, .c (.ptr q4 q5)), (q6, .c (.clo q7 [q8])), (q9, .c (.own q10)), (q11, .c (.sl .bool x0)), (q12, .c (.int .i64 x1)), (q13, .c (.int .i64 x2))], [(q14, .cells q15 [.int .i64 x3, .int .i64 x4, .int .i64 x5, .sl (.int .i64) x6, .sl .bool x7, .sl (.int .u8) x8]), (q16, .cells q17 [.own q18]), (q19, .vec q20 (.int .u8) x9 true), (q21, .vec q22 (.int .u8) x10 true)], q23, q24⟩ => bif Nat.beq q0 1 && Nat.beq q1 0 && Nat.beq q2 0 && Nat.beq q3 4 && Nat.beq q4 1 && Nat.beq q5 0 && Nat.beq q6 5 && Nat.beq q7 136 && Nat.beq q8 1 && Nat.beq q9 8 && Nat.beq q10 2 && Nat.beq q11 58 && Nat.beq q12 59 && Nat.beq q13 60 && Nat.beq q14 0 && Nat.beq q15 103 && Nat.beq q16 1 && Nat.beq q17 25 && Nat.beq q18 3 && Nat.beq q19 2 && Nat.beq q20 5 && Nat.beq q21 3 && Nat.beq q22 5 && Nat.beq q23 4 && Nat.beq q24 0 then iter (S_segment_Header_2 fuel) fuel (x0, x1, x2, x3, x4, x5, x6, x7, x8, x9, x10) (E63_2 K) else none
    | _ => none)
  | none => none
theorem B63_2_ok (fuel : Nat) (st : Ev.St) (K : Ev.Ex → Ev.St → Option Ans) (r : Ans) (h : B63_2 fuel st K = some r) : evalCode tab (G63 fuel) (J63_2 fuel) kp63 fuel (.block 2 (.loop (bodyOf 2 Try.f63))) st K = some r := by
  unfold B63_2 at h
  split at h
  · rename_i s hs
    split at h
    · skip
      obtain ⟨hb, h⟩ := cond_some' h
      simp only [Bool.and_eq_true, Nat.beq_eq, decide_eq_true_eq] at hb
      obtain ⟨⟨⟨⟨⟨⟨⟨⟨⟨⟨⟨⟨⟨⟨⟨⟨⟨⟨⟨⟨⟨⟨⟨⟨rfl, rfl⟩, rfl⟩, rfl⟩, rfl⟩, rfl⟩, rfl⟩, rfl⟩, rfl⟩, rfl⟩, rfl⟩, rfl⟩, rfl⟩, rfl⟩, rfl⟩, rfl⟩, rfl⟩, rfl⟩, rfl⟩, rfl⟩, rfl⟩, rfl⟩, rfl⟩, rfl⟩, rfl⟩ := hb
      exact blk_loop (S := T63_2) (ks := E63_2) (step := S_segment_Header_2 fuel) (v := (_, _, _, _, _, _, _, _, _, _, _)) (by kernel_rfl) (by kernel_rfl) (fun R K v => by obtain ⟨x0, x1, x2, x3, x4, x5, x6, x7, x8, x9, x10⟩ := v; exact S63_2_ok fuel R K x0 x1 x2 x3 x4 x5 x6 x7 x8 x9 x10) hs h
    · cases h
  · cases h
noncomputable def S_segment_Header_0 (fuel : Nat) (v : (List Int) × Int × Int × Int × Int × Int × (List Int) × (List Bool) × (List Int) × (List Int)) (c : ((List Int) × Int × Int × Int × Int × Int × (List Int) × (List Bool) × (List Int) × (List Int)) → Option Ans) (B : (Int × Int × Int × (List Int) × (List Bool) × (List Int) × (List Int) → Option Ans)) : Option Ans := match v, B with
  | (x0, x1, x2, x3, x4, x5, x6, x7, x8, x9), b =>
   bif Decidable.decide (x2 < x1) then
      bif Decidable.decide ((0 : Int) ≤ x2 ∧ x2 < (↑x0.length : Int)) then
      (F_segment_Header_1_35f fuel (Go.IntKind.i64.wrap (x3 - x0.getD x2.toNat (0 : Int))) (x9)
         (fun y4 =>
           c (x0, x1, Go.IntKind.i64.wrap (x2 + (1 : Int)), x3, x4, x5, x6, x7, x8, y4)))
      else none
     else
      b (x3, x4, x5, x6, x7, x8, x9)
noncomputable def L_segment_Header_0 (fuel : Nat) (v : (List Int) × Int × Int × Int × Int × Int × (List Int) × (List Bool) × (List Int) × (List Int)) (b : (Int × Int × Int × (List Int) × (List Bool) × (List Int) × (List Int) → Option Ans)) : Option Ans := iter (S_segment_Header_0 fuel) fuel v b
noncomputable def J63_0 (fuel : Nat) (i : Nat) : Option Ev.Blk := Ev.look i [(100002, B63_2 fuel)]
noncomputable def T63_0 (v : (List Int) × Int × Int × Int × Int × Int × (List Int) × (List Bool) × (List Int) × (List Int)) : Ev.St := match v with | (x0, x1, x2, x3, x4, x5, x6, x7, x8, x9) => ⟨[(1, .c (.ptr 0 0)), (4, .c (.ptr 1 0)), (5, .c (.clo 136 [1])), (44, .c (.sl (.int .i64) x0)), (45, .c (.int .i64 x1)), (46, .c (.int .i64 x2))], [(0, .cells 103 [.int .i64 x3, .int .i64 x4, .int .i64 x5, .sl (.int .i64) x6, .sl .bool x7, .sl (.int .u8) x8]), (1, .cells 25 [.own 2]), (2, .vec 5 (.int .u8) x9 true)], 3, 0⟩
noncomputable def E63_0 (K : Ev.Ex → Ev.St → Option Ans) : (Int × Int × Int × (List Int) × (List Bool) × (List Int) × (List Int) → Option Ans) := (fun v => match v with | (x0, x1, x2, x3, x4, x5, x6) => K .normal ⟨[(1, .c (.ptr 0 0)), (4, .c (.ptr 1 0)), (5, .c (.clo 136 [1]))], [(0, .cells 103 [.int .i64 x0, .int .i64 x1, .int .i64 x2, .sl (.int .i64) x3, .sl .bool x4, .sl (.int .u8) x5]), (1, .cells 25 [.own 2]), (2, .vec 5 (.int .u8) x6 true)], 3, 0⟩)
theorem S63_0_okg (fuel : Nat) (f59 : YF59) (f136_35f : YF136_35f) (f138 : YF138) (f139 : YF139) (R : Ev.St → Option Ans) (K : Ev.Ex → Ev.St → Option Ans) (x0 : (List Int)) (x1 : Int) (x2 : Int) (x3 : Int) (x4 : Int) (x5 : Int) (x6 : (List Int)) (x7 : (List Bool)) (x8 : (List Int)) (x9 : (List Int)) : evalCode tab (Gg63 f59 f136_35f f138 f139) (J63_0 fuel) kp63 fuel (bodyOf 0 Try.f63) (T63_0 (x0, x1, x2, x3, x4, x5, x6, x7, x8, x9)) (lc kp63 11 0 R K) = (fun (c : ((List Int) × Int × Int × Int × Int × Int × (List Int) × (List Bool) × (List Int) × (List Int)) → Option Ans) (B : (Int × Int × Int × (List Int) × (List Bool) × (List Int) × (List Int) → Option Ans)) => match B with
  | b =>
   bif Decidable.decide (x2 < x1) then
      bif Decidable.decide ((0 : Int) ≤ x2 ∧ x2 < (↑x0.length : Int)) then
      (f136_35f (Go.IntKind.i64.wrap (x3 - x0.getD x2.toNat (0 : Int))) (x9)
         (fun y4 =>
           c (x0, x1, Go.IntKind.i64.wrap (x2 + (1 : Int)), x3, x4, x5, x6, x7, x8, y4)))
      else none
     else
      b (x3, x4, x5, x6, x7, x8, x9)) (fun v => R (T63_0 v)) (E63_0 K) := by
  kernel_rfl
theorem S63_0_ok (fuel : Nat) (R : Ev.St → Option Ans) (K : Ev.Ex → Ev.St → Option Ans) (x0 : (List Int)) (x1 : Int) (x2 : Int) (x3 : Int) (x4 : Int) (x5 : Int) (x6 : (List Int)) (x7 : (List Bool)) (x8 : (List Int)) (x9 : (List Int)) : evalCode tab (G63 fuel) (J63_0 fuel) kp63 fuel (bodyOf 0 Try.f63) (T63_0 (x0, x1, x2, x3, x4, x5, x6, x7, x8, x9)) (lc kp63 11 0 R K) = S_segment_Header_0 fuel (x0, x1, x2, x3, x4, x5, x6, x7, x8, x9) (fun v => R (T63_0 v)) (E63_0 K) :=
  S63_0_okg fuel (F_segment_Valid fuel) (F_segment_Header_1_35f fuel) (F_segment_flag fuel) (F_bits_Pack fuel) R K x0 x1 x2 x3 x4 x5 x6 x7 x8 x9
noncomputable def B63_0 (fuel : Nat) : Ev.Blk := fun st K => match canonO (kp63 11) st with
  | some s => (match s with
    | ⟨[(q0, .c (.ptr q1 q2)), (q3, .c (.ptr q4 q5)), (q6, .c (.clo q7 [q8])), (q9, .c (.sl (.int .i64) x0)), (q10, .c (.int .i64 x1)), (q11, .c (.int .i64 x2))], [(q12, .cells q13 [.int .i64 x3, .int .i64 x4, .int .i64 x5, .sl (.int .i64) x6, .sl .bool x7, .sl (.int .u8) x8]), (q14, .cells q15 [.own q16]), (q17, .vec q18 (.int .u8) x9 true)], q19, q20⟩ => bif Nat.beq q0 1 && Nat.beq q1 0 && Nat.beq q2 0 && Nat.beq q3 4 && Nat.beq q4 1 && Nat.beq q5 0 && Nat.beq q6 5 && Nat.beq q7 136 && Nat.beq q8 1 && Nat.beq q9 44 && Nat.beq q10 45 && Nat.beq q11 46 && Nat.beq q12 0 && Nat.beq q13 103 && Nat.beq q14 1 && Nat.beq q15 25 && Nat.beq q16 2 && Nat.beq q17 2 && Nat.beq q18 5 && Nat.beq q19 3 && Nat.beq q20 0 then iter (S_segment_Header_0 fuel) fuel (x0, x1, x2, x3, x4, x5, x6, x7, x8, x9) (E63_0 K) else none
    | _ => none)
  | none => none
theorem B63_0_ok (fuel : Nat) (st : Ev.St) (K : Ev.Ex → Ev.St → Option Ans) (r : Ans) (h : B63_0 fuel st K = some r) : evalCode tab (G63 fuel) (J63_0 fuel) kp63 fuel (.block 0 (.loop (bodyOf 0 Try.f63))) st K = some r := by
  unfold B63_0 at h
  split at h
  · rename_i s hs
    split at h
    · skip
      obtain ⟨hb, h⟩ := cond_some' h
      simp only [Bool.and_eq_true, Nat.beq_eq, decide_eq_true_eq] at hb
      obtain ⟨⟨⟨⟨⟨⟨⟨⟨⟨⟨⟨⟨⟨⟨⟨⟨⟨⟨⟨⟨rfl, rfl⟩, rfl⟩, rfl⟩, rfl⟩, rfl⟩, rfl⟩, rfl⟩, rfl⟩, rfl⟩, rfl⟩, rfl⟩, rfl⟩, rfl⟩, rfl⟩, rfl⟩, rfl⟩, rfl⟩, rfl⟩, rfl⟩, rfl⟩ := hb
      exact blk_loop (S := T63_0) (ks := E63_0) (step := S_segment_Header_0 fuel) (v := (_, _, _, _, _, _, _, _, _, _)) (by kernel_rfl) (by kernel_rfl) (fun R K v => by obtain ⟨x0, x1, x2, x3, x4, x5, x6, x7, x8, x9⟩ := v; exact S63_0_ok fuel R K x0 x1 x2 x3 x4 x5 x6 x7 x8 x9) hs h
    · cases h
  · cases h
noncomputable def J63 (fuel : Nat) (i : Nat) : Option Ev.Blk := Ev.look i [(100002, B63_2 fuel), (100000, B63_0 fuel)]
noncomputable def F_segment_Header (fuel : Nat) (x0 : Int) (x1 : Int) (x2 : Int) (x3 : (List Int)) (x4 : (List Bool)) (x5 : (List Int)) (k0 : (Int × (List Int)) → Option Ans) : Option Ans :=
  (F_segment_Valid fuel (x0) (x1) (x2) (x3) (x4) (x5)
    (fun y2 =>
      bif !y2 then
       k0 ((2 : Int), [])
      else
       (F_segment_Header_1_35f fuel (x0) ([])
         (fun y7 =>
           bif (↑x3.length : Int) == (0 : Int) then
            bif Decidable.decide ((y7.length + [Go.IntKind.u8.wrap x1].length) * (1 : Nat) ≤ (140737488355328 : Nat) ∧ y7.length + [Go.IntKind.u8.wrap x1].length ≤ (140737488355328 : Nat)) then
            (L_segment_Header_2 fuel (x4, (↑x4.length : Int), (0 : Int), x0, x1, x2, x3, x4, x5, [], y7 ++ [Go.IntKind.u8.wrap x1])
               (fun (b2_0, b2_1, b2_2, b2_3, b2_4, b2_5, b2_6, b2_7) =>
                 (F_bits_Pack fuel (b2_6)
                   (fun (y17_0, y17_1) =>
                     bif Decidable.decide ((b2_7.length + y17_1.length) * (1 : Nat) ≤ (140737488355328 : Nat) ∧ b2_7.length + y17_1.length ≤ (140737488355328 : Nat)) then
                     (F_segment_Header_1_35f fuel (b2_2) (b2_7 ++ y17_1)
                        (fun y22 =>
                          (F_segment_Header_1_35f fuel ((↑b2_5.length : Int)) (y22)
                            (fun y26 =>
                              k0 ((0 : Int), y26)))))
                     else none))))
            else none
           else
            bif Decidable.decide ((y7.length + [Go.IntKind.u8.wrap (Go.IntKind.i64.wrap (x1 + (16 : Int)))].length) * (1 : Nat) ≤ (140737488355328 : Nat) ∧ y7.length + [Go.IntKind.u8.wrap (Go.IntKind.i64.wrap (x1 + (16 : Int)))].length ≤ (140737488355328 : Nat)) then
            (F_segment_Header_1_35f fuel ((↑x3.length : Int)) (y7 ++ [Go.IntKind.u8.wrap (Go.IntKind.i64.wrap (x1 + (16 : Int)))])
               (fun y13 =>
                 (L_segment_Header_0 fuel (x3, (↑x3.length : Int), (0 : Int), x0, x1, x2, x3, x4, x5, y13)
                   (fun (b0_0, b0_1, b0_2, b0_3, b0_4, b0_5, b0_6) =>
                     (L_segment_Header_2 fuel (b0_4, (↑b0_4.length : Int), (0 : Int), b0_0, b0_1, b0_2, b0_3, b0_4, b0_5, [], b0_6)
                       (fun (b2_0, b2_1, b2_2, b2_3, b2_4, b2_5, b2_6, b2_7) =>
                         (F_bits_Pack fuel (b2_6)
                           (fun (y25_0, y25_1) =>
                             bif Decidable.decide ((b2_7.length + y25_1.length) * (1 : Nat) ≤ (140737488355328 : Nat) ∧ b2_7.length + y25_1.length ≤ (140737488355328 : Nat)) then
                             (F_segment_Header_1_35f fuel (b2_2) (b2_7 ++ y25_1)
                                (fun y30 =>
                                  (F_segment_Header_1_35f fuel ((↑b2_5.length : Int)) (y30)
                                    (fun y34 =>
                                      k0 ((0 : Int), y34)))))
                             else none))))))))
            else none))))
abbrev YF63 : Type := (Int) → (Int) → (Int) → ((List Int)) → ((List Bool)) → ((List Int)) → ((Int × (List Int)) → Option Ans) → Option Ans
theorem F63_eqg (fuel : Nat) (f59 : YF59) (f136_35f : YF136_35f) (f138 : YF138) (f139 : YF139) (x0 : Int) (x1 : Int) (x2 : Int) (x3 : (List Int)) (x4 : (List Bool)) (x5 : (List Int)) (k : Ev.Cont) : evalFn tab (Gg63 f59 f136_35f f138 f139) (J63 fuel) kp63 fuel Try.f63 [.agg [.int .i64 x0, .int .i64 x1, .int .i64 x2, .sl (.int .i64) x3, .sl .bool x4, .sl (.int .u8) x5]] [] k = (fun  (k0 : (Int × (List Int)) → Option Ans) =>
  (f59 (x0) (x1) (x2) (x3) (x4) (x5)
    (fun y2 =>
      bif !y2 then
       k0 ((2 : Int), [])
      else
       (f136_35f (x0) ([])
         (fun y7 =>
           bif (↑x3.length : Int) == (0 : Int) then
            bif Decidable.decide ((y7.length + [Go.IntKind.u8.wrap x1].length) * (1 : Nat) ≤ (140737488355328 : Nat) ∧ y7.length + [Go.IntKind.u8.wrap x1].length ≤ (140737488355328 : Nat)) then
            (L_segment_Header_2 fuel (x4, (↑x4.length : Int), (0 : Int), x0, x1, x2, x3, x4, x5, [], y7 ++ [Go.IntKind.u8.wrap x1])
               (fun (b2_0, b2_1, b2_2, b2_3, b2_4, b2_5, b2_6, b2_7) =>
                 (f139 (b2_6)
                   (fun (y17_0, y17_1) =>
                     bif Decidable.decide ((b2_7.length + y17_1.length) * (1 : Nat) ≤ (140737488355328 : Nat) ∧ b2_7.length + y17_1.length ≤ (140737488355328 : Nat)) then
                     (f136_35f (b2_2) (b2_7 ++ y17_1)
                        (fun y22 =>
                          (f136_35f ((↑b2_5.length : Int)) (y22)
                            (fun y26 =>
                              k0 ((0 : Int), y26)))))
                     else none))))
            else none
           else
            bif Decidable.decide ((y7.length + [Go.IntKind.u8.wrap (Go.IntKind.i64.wrap (x1 + (16 : Int)))].length) * (1 : Nat) ≤ (140737488355328 : Nat) ∧ y7.length + [Go.IntKind.u8.wrap (Go.IntKind.i64.wrap (x1 + (16 : Int)))].length ≤ (140737488355328 : Nat)) then
            (f136_35f ((↑x3.length : Int)) (y7 ++ [Go.IntKind.u8.wrap (Go.IntKind.i64.wrap (x1 + (16 : Int)))])
               (fun y13 =>
                 (L_segment_Header_0 fuel (x3, (↑x3.length : Int), (0 : Int), x0, x1, x2, x3, x4, x5, y13)
                   (fun (b0_0, b0_1, b0_2, b0_3, b0_4, b0_5, b0_6) =>
                     (L_segment_Header_2 fuel (b0_4, (↑b0_4.length : Int), (0 : Int), b0_0, b0_1, b0_2, b0_3, b0_4, b0_5, [], b0_6)
                       (fun (b2_0, b2_1, b2_2, b2_3, b2_4, b2_5, b2_6, b2_7) =>
                         (f139 (b2_6)
                           (fun (y25_0, y25_1) =>
                             bif Decidable.decide ((b2_7.length + y25_1.length) * (1 : Nat) ≤ (140737488355328 : Nat) ∧ b2_7.length + y25_1.length ≤ (140737488355328 : Nat)) then
                             (f136_35f (b2_2) (b2_7 ++ y25_1)
                                (fun y30 =>
                                  (f136_35f ((↑b2_5.length : Int)) (y30)
                                    (fun y34 =>
                                      k0 ((0 : Int), y34)))))
                             else none))))))))
            else none))))) (fun r => match r with | (r0, r1) => k (.tup [(false, [.own 0]), (false, [.int .i64 r0])], [.vec 5 (.int .u8) r1 true])) := by
  kernel_rfl
theorem F63_eq (fuel : Nat) (x0 : Int) (x1 : Int) (x2 : Int) (x3 : (List Int)) (x4 : (List Bool)) (x5 : (List Int)) (k : Ev.Cont) : evalFn tab (G63 fuel) (J63 fuel) kp63 fuel Try.f63 [.agg [.int .i64 x0, .int .i64 x1, .int .i64 x2, .sl (.int .i64) x3, .sl .bool x4, .sl (.int .u8) x5]] [] k = F_segment_Header fuel x0 x1 x2 x3 x4 x5 (fun r => match r with | (r0, r1) => k (.tup [(false, [.own 0]), (false, [.int .i64 r0])], [.vec 5 (.int .u8) r1 true])) :=
  F63_eqg fuel (F_segment_Valid fuel) (F_segment_Header_1_35f fuel) (F_segment_flag fuel) (F_bits_Pack fuel) x0 x1 x2 x3 x4 x5 k
theorem hG63 (fuel : Nat) : GOK Try.prog (G63 fuel) :=
  gok_cons ⟨ok59 fuel, enters_of Try.func59 (by kernel_rfl) rfl⟩ <|
  gok_cons ⟨ok136_35f fuel, enters_of Try.func136 (by kernel_rfl) rfl⟩ <|
  gok_cons ⟨ok138 fuel, enters_of Try.func138 (by kernel_rfl) rfl⟩ <|
  gok_cons ⟨ok139 fuel, enters_of Try.func139 (by kernel_rfl) rfl⟩ <|
  gok_nil
theorem B63_2_blk (fuel : Nat) : BlkOK Try.prog Try.f63.ntmps (.block 2 (.loop (bodyOf 2 Try.f63))) (B63_2 fuel) :=
  blk_of (blk_of_code tab_ok (hG63 fuel) mixed (J := J63_2 fuel) (kp := kp63) (fuel := fuel) (by kernel_rfl) (fun q hq => by
    rw [(by kernel_rfl : obl (J63_2 fuel) (.block 2 (.loop (bodyOf 2 Try.f63))) = [])] at hq
    cases hq)) (B63_2_ok fuel)
theorem B63_0_blk (fuel : Nat) : BlkOK Try.prog Try.f63.ntmps (.block 0 (.loop (bodyOf 0 Try.f63))) (B63_0 fuel) :=
  blk_of (blk_of_code tab_ok (hG63 fuel) mixed (J := J63_0 fuel) (kp := kp63) (fuel := fuel) (by kernel_rfl) (fun q hq => by
    rw [(by kernel_rfl : obl (J63_0 fuel) (.block 0 (.loop (bodyOf 0 Try.f63))) = [])] at hq
    cases hq)) (B63_0_ok fuel)
theorem fok63 (fuel : Nat) : FnOK Try.prog 63 (evalFn tab (G63 fuel) (J63 fuel) kp63 fuel Try.f63) :=
  fn_ok tab_ok (hG63 fuel) mixed Try.func63 (c := (Try.f63.body).getD .skip) rfl (fun q hq => by
    rw [(by kernel_rfl : obl (J63 fuel) ((Try.f63.body).getD .skip) = [(.block 0 (.loop (bodyOf 0 Try.f63)), B63_0 fuel), (.block 2 (.loop (bodyOf 2 Try.f63)), B63_2 fuel)])] at hq
    simp only [List.mem_cons, List.not_mem_nil, or_false] at hq
    rcases hq with rfl | rfl
    · exact B63_0_blk fuel
    · exact B63_2_blk fuel)
noncomputable def mt63 : List Ev.SV → List Ev.Ob → Bool := fun args objs => match args, objs with
  | [.agg [.int .i64 _, .int .i64 _, .int .i64 _, .sl (.int .i64) _, .sl .bool _, .sl (.int .u8) _]], [] => true
  | _, _ => false
noncomputable def spg63 (F : YF63) : Ev.Spec := fun args objs k => match args, objs with
  | [.agg [.int .i64 x0, .int .i64 x1, .int .i64 x2, .sl (.int .i64) x3, .sl .bool x4, .sl (.int .u8) x5]], [] => bif true then F x0 x1 x2 x3 x4 x5 (fun r => match r with | (r0, r1) => k (.tup [(false, [.own 0]), (false, [.int .i64 r0])], [.vec 5 (.int .u8) r1 true])) else none
  | _, _ => none
noncomputable def spec63 (fuel : Nat) : Ev.Spec := spg63 (F_segment_Header fuel)
theorem ok63 (fuel : Nat) : FnOK Try.prog 63 (spec63 fuel) := by
  intro args objs kk r h
  unfold spec63 spg63 at h
  split at h
  · skip
    obtain ⟨hb, h⟩ := cond_some' h
    simp only [Bool.and_eq_true, Nat.beq_eq, decide_eq_true_eq] at hb
    clear hb
    exact fok63 fuel _ _ kk r ((F63_eq fuel _ _ _ _ _ _ kk).trans h)
  · cases h
end Go.Proofs.Ytihfgpfofmjbaaa

set_option linter.unusedVariables false
set_option linter.unusedSimpArgs false
set_option maxRecDepth 100000
set_option maxHeartbeats 2000000
namespace Go.Proofs.Ytihfgpfofmjbaaa
open Go Ev
def kp62 (i : Nat) : Option (List Nat) := Ev.look i [(3, [3, 8, 9, 10]), (100000, [3]), (400000, [2])]
noncomputable def Gg62 (f63 : YF63) (f : Nat) : Option Ev.Spec := Ev.look f [(63, spg63 f63)]
noncomputable def G62 (fuel : Nat) : Nat → Option Ev.Spec := Gg62 (F_segment_Header fuel)
noncomputable def S_file_size_0 (fuel : Nat) (v : Int × (List (Int × (Int × (Int × ((List Int) × ((List Bool) × (List Int))))))) × Int × Int) (c : (Int × (List (Int × (Int × (Int × ((List Int) × ((List Bool) × (List Int))))))) × Int × Int) → Option Ans) (B : (Int → Option Ans)) : Option Ans := match v, B with
  | (x0, x1, x2, x3), b =>
   bif Decidable.decide (x3 < x2) then
      bif Decidable.decide ((0 : Int) ≤ x3 ∧ x3 < (↑x1.length : Int)) then
      (F_segment_Header fuel ((x1.getD x3.toNat ((0 : Int), (0 : Int), (0 : Int), [], [], [])).fst) ((x1.getD x3.toNat ((0 : Int), (0 : Int), (0 : Int), [], [], [])).snd.fst) ((x1.getD x3.toNat ((0 : Int), (0 : Int), (0 : Int), [], [], [])).snd.snd.fst) ((x1.getD x3.toNat ((0 : Int), (0 : Int), (0 : Int), [], [], [])).snd.snd.snd.fst) ((x1.getD x3.toNat ((0 : Int), (0 : Int), (0 : Int), [], [], [])).snd.snd.snd.snd.fst) ((x1.getD x3.toNat ((0 : Int), (0 : Int), (0 : Int), [], [], [])).snd.snd.snd.snd.snd)
         (fun (y4_0, y4_1) =>
           c (Go.IntKind.i64.wrap (x0 + Go.IntKind.i64.wrap ((↑y4_1.length : Int) + (↑(List.length (x1.getD x3.toNat ((0 : Int), (0 : Int), (0 : Int), [], [], [])).snd.snd.snd.snd.snd) : Int))), x1, x2, Go.IntKind.i64.wrap (x3 + (1 : Int)))))
      else none
     else
      b x0
noncomputable def L_file_size_0 (fuel : Nat) (v : Int × (List (Int × (Int × (Int × ((List Int) × ((List Bool) × (List Int))))))) × Int × Int) (b : (Int → Option Ans)) : Option Ans := iter (S_file_size_0 fuel) fuel v b
noncomputable def J62_0 (fuel : Nat) (i : Nat) : Option Ev.Blk := Ev.look i []
noncomputable def T62_0 (v : Int × (List (Int × (Int × (Int × ((List Int) × ((List Bool) × (List Int))))))) × Int × Int) : Ev.St := match v with | (x0, x1, x2, x3) => ⟨[(3, .c (.int .i64 x0)), (8, .c (.sl (.pair (.int .i64) (.pair (.int .i64) (.pair (.int .i64) (.pair (.sl (.int .i64)) (.pair (.sl .bool) (.sl (.int .u8))))))) x1)), (9, .c (.int .i64 x2)), (10, .c (.int .i64 x3))], [], 0, 0⟩
noncomputable def E62_0 (K : Ev.Ex → Ev.St → Option Ans) : (Int → Option Ans) := (fun v => match v with | x0 => K .normal ⟨[(3, .c (.int .i64 x0))], [], 0, 0⟩)
theorem S62_0_okg (fuel : Nat) (f63 : YF63) (R : Ev.St → Option Ans) (K : Ev.Ex → Ev.St → Option Ans) (x0 : Int) (x1 : (List (Int × (Int × (Int × ((List Int) × ((List Bool) × (List Int)))))))) (x2 : Int) (x3 : Int) : evalCode tab (Gg62 f63) (J62_0 fuel) kp62 fuel (bodyOf 0 Try.f62) (T62_0 (x0, x1, x2, x3)) (lc kp62 3 0 R K) = (fun (c : (Int × (List (Int × (Int × (Int × ((List Int) × ((List Bool) × (List Int))))))) × Int × Int) → Option Ans) (B : (Int → Option Ans)) => match B with
  | b =>
   bif Decidable.decide (x3 < x2) then
      bif Decidable.decide ((0 : Int) ≤ x3 ∧ x3 < (↑x1.length : Int)) then
      (f63 ((x1.getD x3.toNat ((0 : Int), (0 : Int), (0 : Int), [], [], [])).fst) ((x1.getD x3.toNat ((0 : Int), (0 : Int), (0 : Int), [], [], [])).snd.fst) ((x1.getD x3.toNat ((0 : Int), (0 : Int), (0 : Int), [], [], [])).snd.snd.fst) ((x1.getD x3.toNat ((0 : Int), (0 : Int), (0 : Int), [], [], [])).snd.snd.snd.fst) ((x1.getD x3.toNat ((0 : Int), (0 : Int), (0 : Int), [], [], [])).snd.snd.snd.snd.fst) ((x1.getD x3.toNat ((0 : Int), (0 : Int), (0 : Int), [], [], [])).snd.snd.snd.snd.snd)
         (fun (y4_0, y4_1) =>
           c (Go.IntKind.i64.wrap (x0 + Go.IntKind.i64.wrap ((↑y4_1.length : Int) + (↑(List.length (x1.getD x3.toNat ((0 : Int), (0 : Int), (0 : Int), [], [], [])).snd.snd.snd.snd.snd) : Int))), x1, x2, Go.IntKind.i64.wrap (x3 + (1 : Int)))))
      else none
     else
      b x0) (fun v => R (T62_0 v)) (E62_0 K) := by
  kernel_rfl
theorem S62_0_ok (fuel : Nat) (R : Ev.St → Option Ans) (K : Ev.Ex → Ev.St → Option Ans) (x0 : Int) (x1 : (List (Int × (Int × (Int × ((List Int) × ((List Bool) × (List Int)))))))) (x2 : Int) (x3 : Int) : evalCode tab (G62 fuel) (J62_0 fuel) kp62 fuel (bodyOf 0 Try.f62) (T62_0 (x0, x1, x2, x3)) (lc kp62 3 0 R K) = S_file_size_0 fuel (x0, x1, x2, x3) (fun v => R (T62_0 v)) (E62_0 K) :=
  S62_0_okg fuel (F_segment_Header fuel) R K x0 x1 x2 x3
noncomputable def B62_0 (fuel : Nat) : Ev.Blk := fun st K => match canonO (kp62 3) st with
  | some s => (match s with
    | ⟨[(q0, .c (.int .i64 x0)), (q1, .c (.sl (.pair (.int .i64) (.pair (.int .i64) (.pair (.int .i64) (.pair (.sl (.int .i64)) (.pair (.sl .bool) (.sl (.int .u8))))))) x1)), (q2, .c (.int .i64 x2)), (q3, .c (.int .i64 x3))], [], q4, q5⟩ => bif Nat.beq q0 3 && Nat.beq q1 8 && Nat.beq q2 9 && Nat.beq q3 10 && Nat.beq q4 0 && Nat.beq q5 0 then iter (S_file_size_0 fuel) fuel (x0, x1, x2, x3) (E62_0 K) else none
    | _ => none)
  | none => none
theorem B62_0_ok (fuel : Nat) (st : Ev.St) (K : Ev.Ex → Ev.St → Option Ans) (r : Ans) (h : B62_0 fuel st K = some r) : evalCode tab (G62 fuel) (J62_0 fuel) kp62 fuel (.block 0 (.loop (bodyOf 0 Try.f62))) st K = some r := by
  unfold B62_0 at h
  split at h
  · rename_i s hs
    split at h
    · skip
      obtain ⟨hb, h⟩ := cond_some' h
      simp only [Bool.and_eq_true, Nat.beq_eq, decide_eq_true_eq] at hb
      obtain ⟨⟨⟨⟨⟨rfl, rfl⟩, rfl⟩, rfl⟩, rfl⟩, rfl⟩ := hb
      exact blk_loop (S := T62_0) (ks := E62_0) (step := S_file_size_0 fuel) (v := (_, _, _, _)) (by kernel_rfl) (by kernel_rfl) (fun R K v => by obtain ⟨x0, x1, x2, x3⟩ := v; exact S62_0_ok fuel R K x0 x1 x2 x3) hs h
    · cases h
  · cases h
noncomputable def J62 (fuel : Nat) (i : Nat) : Option Ev.Blk := Ev.look i [(100000, B62_0 fuel)]
noncomputable def F_file_size (fuel : Nat) (x0 : (List (Int × Int × Int × (List Int) × (List Bool) × (List Int)))) (k0 : (Int) → Option Ans) : Option Ans :=
  (L_file_size_0 fuel ((0 : Int), x0, (↑x0.length : Int), (0 : Int))
    (fun b0_0 =>
      k0 b0_0))
abbrev YF62 : Type := ((List (Int × Int × Int × (List Int) × (List Bool) × (List Int)))) → ((Int) → Option Ans) → Option Ans
theorem F62_eqg (fuel : Nat) (f63 : YF63) (x0 : (List (Int × Int × Int × (List Int) × (List Bool) × (List Int)))) (k : Ev.Cont) : evalFn tab (Gg62 f63) (J62 fuel) kp62 fuel Try.f62 [.c (.sl (.pair (.int .i64) (.pair (.int .i64) (.pair (.int .i64) (.pair (.sl (.int .i64)) (.pair (.sl .bool) (.sl (.int .u8))))))) x0)] [] k = (fun  (k0 : (Int) → Option Ans) =>
  (L_file_size_0 fuel ((0 : Int), x0, (↑x0.length : Int), (0 : Int))
    (fun b0_0 =>
      k0 b0_0))) (fun r => match r with | r0 => k (.c (.int .i64 r0), [])) := by
  kernel_rfl
theorem F62_eq (fuel : Nat) (x0 : (List (Int × Int × Int × (List Int) × (List Bool) × (List Int)))) (k : Ev.Cont) : evalFn tab (G62 fuel) (J62 fuel) kp62 fuel Try.f62 [.c (.sl (.pair (.int .i64) (.pair (.int .i64) (.pair (.int .i64) (.pair (.sl (.int .i64)) (.pair (.sl .bool) (.sl (.int .u8))))))) x0)] [] k = F_file_size fuel x0 (fun r => match r with | r0 => k (.c (.int .i64 r0), [])) :=
  F62_eqg fuel (F_segment_Header fuel) x0 k
theorem hG62 (fuel : Nat) : GOK Try.prog (G62 fuel) :=
  gok_cons ⟨ok63 fuel, enters_of Try.func63 (by kernel_rfl) rfl⟩ <|
  gok_nil
theorem B62_0_blk (fuel : Nat) : BlkOK Try.prog Try.f62.ntmps (.block 0 (.loop (bodyOf 0 Try.f62))) (B62_0 fuel) :=
  blk_of (blk_of_code tab_ok (hG62 fuel) mixed (J := J62_0 fuel) (kp := kp62) (fuel := fuel) (by kernel_rfl) (fun q hq => by
    rw [(by kernel_rfl : obl (J62_0 fuel) (.block 0 (.loop (bodyOf 0 Try.f62))) = [])] at hq
    cases hq)) (B62_0_ok fuel)
theorem fok62 (fuel : Nat) : FnOK Try.prog 62 (evalFn tab (G62 fuel) (J62 fuel) kp62 fuel Try.f62) :=
  fn_ok tab_ok (hG62 fuel) mixed Try.func62 (c := (Try.f62.body).getD .skip) rfl (fun q hq => by
    rw [(by kernel_rfl : obl (J62 fuel) ((Try.f62.body).getD .skip) = [(.block 0 (.loop (bodyOf 0 Try.f62)), B62_0 fuel)])] at hq
    simp only [List.mem_cons, List.not_mem_nil, or_false] at hq
    subst hq
    · exact B62_0_blk fuel)
noncomputable def mt62 : List Ev.SV → List Ev.Ob → Bool := fun args objs => match args, objs with
  | [.c (.sl (.pair (.int .i64) (.pair (.int .i64) (.pair (.int .i64) (.pair (.sl (.int .i64)) (.pair (.sl .bool) (.sl (.int .u8))))))) _)], [] => true
  | _, _ => false
noncomputable def spg62 (F : YF62) : Ev.Spec := fun args objs k => match args, objs with
  | [.c (.sl (.pair (.int .i64) (.pair (.int .i64) (.pair (.int .i64) (.pair (.sl (.int .i64)) (.pair (.sl .bool) (.sl (.int .u8))))))) x0)], [] => bif true then F x0 (fun r => match r with | r0 => k (.c (.int .i64 r0), [])) else none
  | _, _ => none
noncomputable def spec62 (fuel : Nat) : Ev.Spec := spg62 (F_file_size fuel)
theorem ok62 (fuel : Nat) : FnOK Try.prog 62 (spec62 fuel) := by
  intro args objs kk r h
  unfold spec62 spg62 at h
  split at h
  · skip
    obtain ⟨hb, h⟩ := cond_some' h
    simp only [Bool.and_eq_true, Nat.beq_eq, decide_eq_true_eq] at hb
    clear hb
    exact fok62 fuel _ _ kk r ((F62_eq fuel _ kk).trans h)
  · cases h
end Go.Proofs.Ytihfgpfofmjbaaa

set_option linter.unusedVariables false
set_option linter.unusedSimpArgs false
set_option maxRecDepth 100000
set_option maxHeartbeats 2000000
namespace Go.Proofs.Ytihfgpfofmjbaaa
open Go Ev
def kp193_88a (i : Nat) : Option (List Nat) := Ev.look i [(4, [0, 4, 23, 24, 25]), (11, [0, 4, 49, 50, 51]), (100000, [0, 4]), (100002, [0, 4]), (400000, [6]), (400002, [6])]
noncomputable def Gg193_88a (f59 : YF59) (f : Nat) : Option Ev.Spec := Ev.look f [(59, spg59 f59)]
noncomputable def G193_88a (fuel : Nat) : Nat → Option Ev.Spec := Gg193_88a (F_segment_Valid fuel)
noncomputable def S_segment_store_takes_88a_0 (fuel : Nat) (v : (List Int) × Int × Int × (List (Int × Int)) × Int × Int × Int × (List Int) × (List Bool) × (List Int)) (c : ((List Int) × Int × Int × (List (Int × Int)) × Int × Int × Int × (List Int) × (List Bool) × (List Int)) → Option Ans) (B : (Bool × (List (Int × Int)) → Option Ans) × ((List (Int × Int)) × Int × Int × Int × (List Int) × (List Bool) × (List Int) → Option Ans)) : Option Ans := match v, B with
  | (x0, x1, x2, x3, x4, x5, x6, x7, x8, x9), (ret, b) =>
   bif Decidable.decide (x2 < x1) then
      bif Decidable.decide ((0 : Int) ≤ x2 ∧ x2 < (↑x0.length : Int)) then
      bif !Ev.mhas (x0.getD x2.toNat (0 : Int)) x3 then
        ret (Bool.false, x3)
       else
        bif Ev.mget (0 : Int) (x0.getD x2.toNat (0 : Int)) x3 != (0 : Int) then
         bif Ev.mget (0 : Int) (x0.getD x2.toNat (0 : Int)) x3 != x6 then
          ret (Bool.false, x3)
         else
          c (x0, x1, Go.IntKind.i64.wrap (x2 + (1 : Int)), x3, x4, x5, x6, x7, x8, x9)
        else
         c (x0, x1, Go.IntKind.i64.wrap (x2 + (1 : Int)), x3, x4, x5, x6, x7, x8, x9)
      else none
     else
      b (x3, x4, x5, x6, x7, x8, x9)
noncomputable def L_segment_store_takes_88a_0 (fuel : Nat) (v : (List Int) × Int × Int × (List (Int × Int)) × Int × Int × Int × (List Int) × (List Bool) × (List Int)) (ret : (Bool × (List (Int × Int)) → Option Ans)) (b : ((List (Int × Int)) × Int × Int × Int × (List Int) × (List Bool) × (List Int) → Option Ans)) : Option Ans := iter (S_segment_store_takes_88a_0 fuel) fuel v (ret, b)
noncomputable def J193_88a_0 (fuel : Nat) (i : Nat) : Option Ev.Blk := Ev.look i []
noncomputable def T193_88a_0 (v : (List Int) × Int × Int × (List (Int × Int)) × Int × Int × Int × (List Int) × (List Bool) × (List Int)) : Ev.St := match v with | (x0, x1, x2, x3, x4, x5, x6, x7, x8, x9) => ⟨[(0, .c (.mp 0)), (4, .c (.ptr 1 0)), (23, .c (.sl (.int .i64) x0)), (24, .c (.int .i64 x1)), (25, .c (.int .i64 x2))], [(0, .dict .i64 (.int .i64) x3), (1, .cells 103 [.int .i64 x4, .int .i64 x5, .int .i64 x6, .sl (.int .i64) x7, .sl .bool x8, .sl (.int .u8) x9])], 2, 1⟩
noncomputable def E193_88a_0 (K : Ev.Ex → Ev.St → Option Ans) : (Bool × (List (Int × Int)) → Option Ans) × ((List (Int × Int)) × Int × Int × Int × (List Int) × (List Bool) × (List Int) → Option Ans) := ((fun v => match v with | (x0, x1) => K .ret ⟨[(6, .c (.bool x0))], [(0, .dict .i64 (.int .i64) x1)], 1, 1⟩), (fun v => match v with | (x0, x1, x2, x3, x4, x5, x6) => K .normal ⟨[(0, .c (.mp 0)), (4, .c (.ptr 1 0))], [(0, .dict .i64 (.int .i64) x0), (1, .cells 103 [.int .i64 x1, .int .i64 x2, .int .i64 x3, .sl (.int .i64) x4, .sl .bool x5, .sl (.int .u8) x6])], 2, 1⟩))
theorem S193_88a_0_okg (fuel : Nat) (f59 : YF59) (R : Ev.St → Option Ans) (K : Ev.Ex → Ev.St → Option Ans) (x0 : (List Int)) (x1 : Int) (x2 : Int) (x3 : (List (Int × Int))) (x4 : Int) (x5 : Int) (x6 : Int) (x7 : (List Int)) (x8 : (List Bool)) (x9 : (List Int)) : evalCode tab (Gg193_88a f59) (J193_88a_0 fuel) kp193_88a fuel (bodyOf 0 Try.f193) (T193_88a_0 (x0, x1, x2, x3, x4, x5, x6, x7, x8, x9)) (lc kp193_88a 4 0 R K) = (fun (c : ((List Int) × Int × Int × (List (Int × Int)) × Int × Int × Int × (List Int) × (List Bool) × (List Int)) → Option Ans) (B : (Bool × (List (Int × Int)) → Option Ans) × ((List (Int × Int)) × Int × Int × Int × (List Int) × (List Bool) × (List Int) → Option Ans)) => match B with
  | (ret, b) =>
   bif Decidable.decide (x2 < x1) then
      bif Decidable.decide ((0 : Int) ≤ x2 ∧ x2 < (↑x0.length : Int)) then
      bif !Ev.mhas (x0.getD x2.toNat (0 : Int)) x3 then
        ret (Bool.false, x3)
       else
        bif Ev.mget (0 : Int) (x0.getD x2.toNat (0 : Int)) x3 != (0 : Int) then
         bif Ev.mget (0 : Int) (x0.getD x2.toNat (0 : Int)) x3 != x6 then
          ret (Bool.false, x3)
         else
          c (x0, x1, Go.IntKind.i64.wrap (x2 + (1 : Int)), x3, x4, x5, x6, x7, x8, x9)
        else
         c (x0, x1, Go.IntKind.i64.wrap (x2 + (1 : Int)), x3, x4, x5, x6, x7, x8, x9)
      else none
     else
      b (x3, x4, x5, x6, x7, x8, x9)) (fun v => R (T193_88a_0 v)) (E193_88a_0 K) := by
  kernel_rfl
theorem S193_88a_0_ok (fuel : Nat) (R : Ev.St → Option Ans) (K : Ev.Ex → Ev.St → Option Ans) (x0 : (List Int)) (x1 : Int) (x2 : Int) (x3 : (List (Int × Int))) (x4 : Int) (x5 : Int) (x6 : Int) (x7 : (List Int)) (x8 : (List Bool)) (x9 : (List Int)) : evalCode tab (G193_88a fuel) (J193_88a_0 fuel) kp193_88a fuel (bodyOf 0 Try.f193) (T193_88a_0 (x0, x1, x2, x3, x4, x5, x6, x7, x8, x9)) (lc kp193_88a 4 0 R K) = S_segment_store_takes_88a_0 fuel (x0, x1, x2, x3, x4, x5, x6, x7, x8, x9) (fun v => R (T193_88a_0 v)) (E193_88a_0 K) :=
  S193_88a_0_okg fuel (F_segment_Valid fuel) R K x0 x1 x2 x3 x4 x5 x6 x7 x8 x9
noncomputable def B193_88a_0 (fuel : Nat) : Ev.Blk := fun st K => match canonO (kp193_88a 4) st with
  | some s => (match s with
    | ⟨[(q0, .c (.mp q1)), (q2, .c (.ptr q3 q4)), (q5, .c (.sl (.int .i64) x0)), (q6, .c (.int .i64 x1)), (q7, .c (.int .i64 x2))], [(q8, .dict .i64 (.int .i64) x3), (q9, .cells q10 [.int .i64 x4, .int .i64 x5, .int .i64 x6, .sl (.int .i64) x7, .sl .bool x8, .sl (.int .u8) x9])], q11, q12⟩ => bif Nat.beq q0 0 && Nat.beq q1 0 && Nat.beq q2 4 && Nat.beq q3 1 && Nat.beq q4 0 && Nat.beq q5 23 && Nat.beq q6 24 && Nat.beq q7 25 && Nat.beq q8 0 && Nat.beq q9 1 && Nat.beq q10 103 && Nat.beq q11 2 && Nat.beq q12 1 then iter (S_segment_store_takes_88a_0 fuel) fuel (x0, x1, x2, x3, x4, x5, x6, x7, x8, x9) (E193_88a_0 K) else none
    | _ => none)
  | none => none
theorem B193_88a_0_ok (fuel : Nat) (st : Ev.St) (K : Ev.Ex → Ev.St → Option Ans) (r : Ans) (h : B193_88a_0 fuel st K = some r) : evalCode tab (G193_88a fuel) (J193_88a_0 fuel) kp193_88a fuel (.block 0 (.loop (bodyOf 0 Try.f193))) st K = some r := by
  unfold B193_88a_0 at h
  split at h
  · rename_i s hs
    split at h
    · skip
      obtain ⟨hb, h⟩ := cond_some' h
      simp only [Bool.and_eq_true, Nat.beq_eq, decide_eq_true_eq] at hb
      obtain ⟨⟨⟨⟨⟨⟨⟨⟨⟨⟨⟨⟨rfl, rfl⟩, rfl⟩, rfl⟩, rfl⟩, rfl⟩, rfl⟩, rfl⟩, rfl⟩, rfl⟩, rfl⟩, rfl⟩, rfl⟩ := hb
      exact blk_loop (S := T193_88a_0) (ks := E193_88a_0) (step := S_segment_store_takes_88a_0 fuel) (v := (_, _, _, _, _, _, _, _, _, _)) (by kernel_rfl) (by kernel_rfl) (fun R K v => by obtain ⟨x0, x1, x2, x3, x4, x5, x6, x7, x8, x9⟩ := v; exact S193_88a_0_ok fuel R K x0 x1 x2 x3 x4 x5 x6 x7 x8 x9) hs h
    · cases h
  · cases h
noncomputable def S_segment_store_takes_88a_2 (fuel : Nat) (v : (List Int) × Int × Int × (List (Int × Int)) × Int × Int × Int × (List Int) × (List Bool) × (List Int)) (c : ((List Int) × Int × Int × (List (Int × Int)) × Int × Int × Int × (List Int) × (List Bool) × (List Int)) → Option Ans) (B : ((List (Int × Int)) × Int × Int × Int × (List Int) × (List Bool) × (List Int) → Option Ans)) : Option Ans := match v, B with
  | (x0, x1, x2, x3, x4, x5, x6, x7, x8, x9), b =>
   bif Decidable.decide (x2 < x1) then
      bif Decidable.decide ((0 : Int) ≤ x2 ∧ x2 < (↑x0.length : Int)) then
      bif Decidable.decide ((0 : Int) ≤ x2 ∧ x2 < (↑x8.length : Int)) then
       bif !x8.getD x2.toNat Bool.false then
         c (x0, x1, Go.IntKind.i64.wrap (x2 + (1 : Int)), Ev.mdel (x0.getD x2.toNat (0 : Int)) x3, x4, x5, x6, x7, x8, x9)
        else
         c (x0, x1, Go.IntKind.i64.wrap (x2 + (1 : Int)), x3, x4, x5, x6, x7, x8, x9)
       else none
      else none
     else
      b (x3, x4, x5, x6, x7, x8, x9)
noncomputable def L_segment_store_takes_88a_2 (fuel : Nat) (v : (List Int) × Int × Int × (List (Int × Int)) × Int × Int × Int × (List Int) × (List Bool) × (List Int)) (b : ((List (Int × Int)) × Int × Int × Int × (List Int) × (List Bool) × (List Int) → Option Ans)) : Option Ans := iter (S_segment_store_takes_88a_2 fuel) fuel v b
noncomputable def J193_88a_2 (fuel : Nat) (i : Nat) : Option Ev.Blk := Ev.look i [(100000, B193_88a_0 fuel)]
noncomputable def T193_88a_2 (v : (List Int) × Int × Int × (List (Int × Int)) × Int × Int × Int × (List Int) × (List Bool) × (List Int)) : Ev.St := match v with | (x0, x1, x2, x3, x4, x5, x6, x7, x8, x9) => ⟨[(0, .c (.mp 0)), (4, .c (.ptr 1 0)), (49, .c (.sl (.int .i64) x0)), (50, .c (.int .i64 x1)), (51, .c (.int .i64 x2))], [(0, .dict .i64 (.int .i64) x3), (1, .cells 103 [.int .i64 x4, .int .i64 x5, .int .i64 x6, .sl (.int .i64) x7, .sl .bool x8, .sl (.int .u8) x9])], 2, 1⟩
noncomputable def E193_88a_2 (K : Ev.Ex → Ev.St → Option Ans) : ((List (Int × Int)) × Int × Int × Int × (List Int) × (List Bool) × (List Int) → Option Ans) := (fun v => match v with | (x0, x1, x2, x3, x4, x5, x6) => K .normal ⟨[(0, .c (.mp 0)), (4, .c (.ptr 1 0))], [(0, .dict .i64 (.int .i64) x0), (1, .cells 103 [.int .i64 x1, .int .i64 x2, .int .i64 x3, .sl (.int .i64) x4, .sl .bool x5, .sl (.int .u8) x6])], 2, 1⟩)
theorem S193_88a_2_okg (fuel : Nat) (f59 : YF59) (R : Ev.St → Option Ans) (K : Ev.Ex → Ev.St → Option Ans) (x0 : (List Int)) (x1 : Int) (x2 : Int) (x3 : (List (Int × Int))) (x4 : Int) (x5 : Int) (x6 : Int) (x7 : (List Int)) (x8 : (List Bool)) (x9 : (List Int)) : evalCode tab (Gg193_88a f59) (J193_88a_2 fuel) kp193_88a fuel (bodyOf 2 Try.f193) (T193_88a_2 (x0, x1, x2, x3, x4, x5, x6, x7, x8, x9)) (lc kp193_88a 11 2 R K) = (fun (c : ((List Int) × Int × Int × (List (Int × Int)) × Int × Int × Int × (List Int) × (List Bool) × (List Int)) → Option Ans) (B : ((List (Int × Int)) × Int × Int × Int × (List Int) × (List Bool) × (List Int) → Option Ans)) => match B with
  | b =>
   bif Decidable.decide (x2 < x1) then
      bif Decidable.decide ((0 : Int) ≤ x2 ∧ x2 < (↑x0.length : Int)) then
      bif Decidable.decide ((0 : Int) ≤ x2 ∧ x2 < (↑x8.length : Int)) then
       bif !x8.getD x2.toNat Bool.false then
         c (x0, x1, Go.IntKind.i64.wrap (x2 + (1 : Int)), Ev.mdel (x0.getD x2.toNat (0 : Int)) x3, x4, x5, x6, x7, x8, x9)
        else
         c (x0, x1, Go.IntKind.i64.wrap (x2 + (1 : Int)), x3, x4, x5, x6, x7, x8, x9)
       else none
      else none
     else
      b (x3, x4, x5, x6, x7, x8, x9)) (fun v => R (T193_88a_2 v)) (E193_88a_2 K) := by
  kernel_rfl
theorem S193_88a_2_ok (fuel : Nat) (R : Ev.St → Option Ans) (K : Ev.Ex → Ev.St → Option Ans) (x0 : (List Int)) (x1 : Int) (x2 : Int) (x3 : (List (Int × Int))) (x4 : Int) (x5 : Int) (x6 : Int) (x7 : (List Int)) (x8 : (List Bool)) (x9 : (List Int)) : evalCode tab (G193_88a fuel) (J193_88a_2 fuel) kp193_88a fuel (bodyOf 2 Try.f193) (T193_88a_2 (x0, x1, x2, x3, x4, x5, x6, x7, x8, x9)) (lc kp193_88a 11 2 R K) = S_segment_store_takes_88a_2 fuel (x0, x1, x2, x3, x4, x5, x6, x7, x8, x9) (fun v => R (T193_88a_2 v)) (E193_88a_2 K) :=
  S193_88a_2_okg fuel (F_segment_Valid fuel) R K x0 x1 x2 x3 x4 x5 x6 x7 x8 x9
noncomputable def B193_88a_2 (fuel : Nat) : Ev.Blk := fun st K => match canonO (kp193_88a 11) st with
  | some s => (match s with
    | ⟨[(q0, .c (.mp q1)), (q2, .c (.ptr q3 q4)), (q5, .c (.sl (.int .i64) x0)), (q6, .c (.int .i64 x1)), (q7, .c (.int .i64 x2))], [(q8, .dict .i64 (.int .i64) x3), (q9, .cells q10 [.int .i64 x4, .int .i64 x5, .int .i64 x6, .sl (.int .i64) x7, .sl .bool x8, .sl (.int .u8) x9])], q11, q12⟩ => bif Nat.beq q0 0 && Nat.beq q1 0 && Nat.beq q2 4 && Nat.beq q3 1 && Nat.beq q4 0 && Nat.beq q5 49 && Nat.beq q6 50 && Nat.beq q7 51 && Nat.beq q8 0 && Nat.beq q9 1 && Nat.beq q10 103 && Nat.beq q11 2 && Nat.beq q12 1 then iter (S_segment_store_takes_88a_2 fuel) fuel (x0, x1, x2, x3, x4, x5, x6, x7, x8, x9) (E193_88a_2 K) else none
    | _ => none)
  | none => none
theorem B193_88a_2_ok (fuel : Nat) (st : Ev.St) (K : Ev.Ex → Ev.St → Option Ans) (r : Ans) (h : B193_88a_2 fuel st K = some r) : evalCode tab (G193_88a fuel) (J193_88a_2 fuel) kp193_88a fuel (.block 2 (.loop (bodyOf 2 Try.f193))) st K = some r := by
  unfold B193_88a_2 at h
  split at h
  · rename_i s hs
    split at h
    · skip
      obtain ⟨hb, h⟩ := cond_some' h
      simp only [Bool.and_eq_true, Nat.beq_eq, decide_eq_true_eq] at hb
      obtain ⟨⟨⟨⟨⟨⟨⟨⟨⟨⟨⟨⟨rfl, rfl⟩, rfl⟩, rfl⟩, rfl⟩, rfl⟩, rfl⟩, rfl⟩, rfl⟩, rfl⟩, rfl⟩, rfl⟩, rfl⟩ := hb
      exact blk_loop (S := T193_88a_2) (ks := E193_88a_2) (step := S_segment_store_takes_88a_2 fuel) (v := (_, _, _, _, _, _, _, _, _, _)) (by kernel_rfl) (by kernel_rfl) (fun R K v => by obtain ⟨x0, x1, x2, x3, x4, x5, x6, x7, x8, x9⟩ := v; exact S193_88a_2_ok fuel R K x0 x1 x2 x3 x4 x5 x6 x7 x8 x9) hs h
    · cases h
  · cases h
noncomputable def J193_88a (fuel : Nat) (i : Nat) : Option Ev.Blk := Ev.look i [(100000, B193_88a_0 fuel), (100002, B193_88a_2 fuel)]
noncomputable def F_segment_store_takes_88a (fuel : Nat) (x0 : Int) (x1 : Int) (x2 : Int) (x3 : (List Int)) (x4 : (List Bool)) (x5 : (List Int)) (x6 : Int) (x7 : (List (Int × Int))) (k0 : (Bool × (List (Int × Int))) → Option Ans) : Option Ans :=
  (F_segment_Valid fuel (x0) (x1) (x2) (x3) (x4) (x5)
    (fun y2 =>
      bif !y2 then
       k0 (Bool.false, x7)
      else
       bif Decidable.decide (x0 ≤ x6) then
        k0 (Bool.false, x7)
       else
        (L_segment_store_takes_88a_0 fuel (x3, (↑x3.length : Int), (0 : Int), x7, x0, x1, x2, x3, x4, x5)
          (fun (ret0_0, ret0_1) =>
            k0 (ret0_0, ret0_1))
          (fun (b0_0, b0_1, b0_2, b0_3, b0_4, b0_5, b0_6) =>
            (L_segment_store_takes_88a_2 fuel (b0_4, (↑b0_4.length : Int), (0 : Int), b0_0, b0_1, b0_2, b0_3, b0_4, b0_5, b0_6)
              (fun (b2_0, b2_1, b2_2, b2_3, b2_4, b2_5, b2_6) =>
                bif Decidable.decide ((0 : Int) ≤ (↑b2_4.length : Int) ∧ (↑b2_4.length : Int) < (↑b2_5.length : Int)) then
                bif b2_5.getD (↑b2_4.length : Int).toNat Bool.false then
                  k0 (Bool.true, Ev.mput b2_1 b2_3 b2_0)
                 else
                  k0 (Bool.true, b2_0)
                else none))))))
abbrev YF193_88a : Type := (Int) → (Int) → (Int) → ((List Int)) → ((List Bool)) → ((List Int)) → (Int) → ((List (Int × Int))) → ((Bool × (List (Int × Int))) → Option Ans) → Option Ans
theorem F193_88a_eqg (fuel : Nat) (f59 : YF59) (x0 : Int) (x1 : Int) (x2 : Int) (x3 : (List Int)) (x4 : (List Bool)) (x5 : (List Int)) (x6 : Int) (x7 : (List (Int × Int))) (k : Ev.Cont) : evalFn tab (Gg193_88a f59) (J193_88a fuel) kp193_88a fuel Try.f193 [.c (.mp 0), .agg [.int .i64 x0, .int .i64 x1, .int .i64 x2, .sl (.int .i64) x3, .sl .bool x4, .sl (.int .u8) x5], .c (.int .i64 x6)] [.dict .i64 (.int .i64) x7] k = (fun  (k0 : (Bool × (List (Int × Int))) → Option Ans) =>
  (f59 (x0) (x1) (x2) (x3) (x4) (x5)
    (fun y2 =>
      bif !y2 then
       k0 (Bool.false, x7)
      else
       bif Decidable.decide (x0 ≤ x6) then
        k0 (Bool.false, x7)
       else
        (L_segment_store_takes_88a_0 fuel (x3, (↑x3.length : Int), (0 : Int), x7, x0, x1, x2, x3, x4, x5)
          (fun (ret0_0, ret0_1) =>
            k0 (ret0_0, ret0_1))
          (fun (b0_0, b0_1, b0_2, b0_3, b0_4, b0_5, b0_6) =>
            (L_segment_store_takes_88a_2 fuel (b0_4, (↑b0_4.length : Int), (0 : Int), b0_0, b0_1, b0_2, b0_3, b0_4, b0_5, b0_6)
              (fun (b2_0, b2_1, b2_2, b2_3, b2_4, b2_5, b2_6) =>
                bif Decidable.decide ((0 : Int) ≤ (↑b2_4.length : Int) ∧ (↑b2_4.length : Int) < (↑b2_5.length : Int)) then
                bif b2_5.getD (↑b2_4.length : Int).toNat Bool.false then
                  k0 (Bool.true, Ev.mput b2_1 b2_3 b2_0)
                 else
                  k0 (Bool.true, b2_0)
                else none))))))) (fun r => match r with | (r0, r1) => k (.c (.bool r0), [.dict .i64 (.int .i64) r1])) := by
  kernel_rfl
theorem F193_88a_eq (fuel : Nat) (x0 : Int) (x1 : Int) (x2 : Int) (x3 : (List Int)) (x4 : (List Bool)) (x5 : (List Int)) (x6 : Int) (x7 : (List (Int × Int))) (k : Ev.Cont) : evalFn tab (G193_88a fuel) (J193_88a fuel) kp193_88a fuel Try.f193 [.c (.mp 0), .agg [.int .i64 x0, .int .i64 x1, .int .i64 x2, .sl (.int .i64) x3, .sl .bool x4, .sl (.int .u8) x5], .c (.int .i64 x6)] [.dict .i64 (.int .i64) x7] k = F_segment_store_takes_88a fuel x0 x1 x2 x3 x4 x5 x6 x7 (fun r => match r with | (r0, r1) => k (.c (.bool r0), [.dict .i64 (.int .i64) r1])) :=
  F193_88a_eqg fuel (F_segment_Valid fuel) x0 x1 x2 x3 x4 x5 x6 x7 k
theorem hG193_88a (fuel : Nat) : GOK Try.prog (G193_88a fuel) :=
  gok_cons ⟨ok59 fuel, enters_of Try.func59 (by kernel_rfl) rfl⟩ <|
  gok_nil
theorem B193_88a_0_blk (fuel : Nat) : BlkOK Try.prog Try.f193.ntmps (.block 0 (.loop (bodyOf 0 Try.f193))) (B193_88a_0 fuel) :=
  blk_of (blk_of_code tab_ok (hG193_88a fuel) mixed (J := J193_88a_0 fuel) (kp := kp193_88a) (fuel := fuel) (by kernel_rfl) (fun q hq => by
    rw [(by kernel_rfl : obl (J193_88a_0 fuel) (.block 0 (.loop (bodyOf 0 Try.f193))) = [])] at hq
    cases hq)) (B193_88a_0_ok fuel)
theorem B193_88a_2_blk (fuel : Nat) : BlkOK Try.prog Try.f193.ntmps (.block 2 (.loop (bodyOf 2 Try.f193))) (B193_88a_2 fuel) :=
  blk_of (blk_of_code tab_ok (hG193_88a fuel) mixed (J := J193_88a_2 fuel) (kp := kp193_88a) (fuel := fuel) (by kernel_rfl) (fun q hq => by
    rw [(by kernel_rfl : obl (J193_88a_2 fuel) (.block 2 (.loop (bodyOf 2 Try.f193))) = [])] at hq
    cases hq)) (B193_88a_2_ok fuel)
theorem fok193_88a (fuel : Nat) : FnOK Try.prog 193 (evalFn tab (G193_88a fuel) (J193_88a fuel) kp193_88a fuel Try.f193) :=
  fn_ok tab_ok (hG193_88a fuel) mixed Try.func193 (c := (Try.f193.body).getD .skip) rfl (fun q hq => by
    rw [(by kernel_rfl : obl (J193_88a fuel) ((Try.f193.body).getD .skip) = [(.block 0 (.loop (bodyOf 0 Try.f193)), B193_88a_0 fuel), (.block 2 (.loop (bodyOf 2 Try.f193)), B193_88a_2 fuel)])] at hq
    simp only [List.mem_cons, List.not_mem_nil, or_false] at hq
    rcases hq with rfl | rfl
    · exact B193_88a_0_blk fuel
    · exact B193_88a_2_blk fuel)
noncomputable def mt193_88a : List Ev.SV → List Ev.Ob → Bool := fun args objs => match args, objs with
  | [.c (.mp q0), .agg [.int .i64 _, .int .i64 _, .int .i64 _, .sl (.int .i64) _, .sl .bool _, .sl (.int .u8) _], .c (.int .i64 _)], [.dict .i64 (.int .i64) _] => Nat.beq q0 0
  | _, _ => false
noncomputable def spg193_88a (F : YF193_88a) : Ev.Spec := fun args objs k => match args, objs with
  | [.c (.mp q0), .agg [.int .i64 x0, .int .i64 x1, .int .i64 x2, .sl (.int .i64) x3, .sl .bool x4, .sl (.int .u8) x5], .c (.int .i64 x6)], [.dict .i64 (.int .i64) x7] => bif Nat.beq q0 0 then F x0 x1 x2 x3 x4 x5 x6 x7 (fun r => match r with | (r0, r1) => k (.c (.bool r0), [.dict .i64 (.int .i64) r1])) else none
  | _, _ => none
noncomputable def spec193_88a (fuel : Nat) : Ev.Spec := spg193_88a (F_segment_store_takes_88a fuel)
theorem ok193_88a (fuel : Nat) : FnOK Try.prog 193 (spec193_88a fuel) := by
  intro args objs kk r h
  unfold spec193_88a spg193_88a at h
  split at h
  · skip
    obtain ⟨hb, h⟩ := cond_some' h
    simp only [Bool.and_eq_true, Nat.beq_eq, decide_eq_true_eq] at hb
    obtain rfl := hb
    exact fok193_88a fuel _ _ kk r ((F193_88a_eq fuel _ _ _ _ _ _ _ _ kk).trans h)
  · cases h
end Go.Proofs.Ytihfgpfofmjbaaa

set_option linter.unusedVariables false
set_option linter.unusedSimpArgs false
set_option maxRecDepth 100000
set_option maxHeartbeats 2000000
namespace Go.Proofs.Ytihfgpfofmjbaaa
open Go Ev
def kp134 (i : Nat) : Option (List Nat) := Ev.look i [(4, [4, 5, 9, 10, 11]), (100000, [4]), (400000, [2, 3])]
noncomputable def Gg134 (f193_88a : YF193_88a) (f : Nat) : Option Ev.Spec := Ev.look f [(193, spg193_88a f193_88a)]
noncomputable def G134 (fuel : Nat) : Nat → Option Ev.Spec := Gg134 (F_segment_store_takes_88a fuel)
noncomputable def S_segment_order_0 (fuel : Nat) (v : Int × (List (Int × (Int × (Int × ((List Int) × ((List Bool) × (List Int))))))) × Int × Int × (List (Int × Int))) (c : (Int × (List (Int × (Int × (Int × ((List Int) × ((List Bool) × (List Int))))))) × Int × Int × (List (Int × Int))) → Option Ans) (B : (Int × (List (Int × Int)) → Option Ans) × ((List (Int × Int)) → Option Ans)) : Option Ans := match v, B with
  | (x0, x1, x2, x3, x4), (ret, b) =>
   bif Decidable.decide (x3 < x2) then
      bif Decidable.decide ((0 : Int) ≤ x3 ∧ x3 < (↑x1.length : Int)) then
      (F_segment_store_takes_88a fuel ((x1.getD x3.toNat ((0 : Int), (0 : Int), (0 : Int), [], [], [])).fst) ((x1.getD x3.toNat ((0 : Int), (0 : Int), (0 : Int), [], [], [])).snd.fst) ((x1.getD x3.toNat ((0 : Int), (0 : Int), (0 : Int), [], [], [])).snd.snd.fst) ((x1.getD x3.toNat ((0 : Int), (0 : Int), (0 : Int), [], [], [])).snd.snd.snd.fst) ((x1.getD x3.toNat ((0 : Int), (0 : Int), (0 : Int), [], [], [])).snd.snd.snd.snd.fst) ((x1.getD x3.toNat ((0 : Int), (0 : Int), (0 : Int), [], [], [])).snd.snd.snd.snd.snd) (x0) (x4)
         (fun (y4_0, y4_1) =>
           bif !y4_0 then
            ret (x3, y4_1)
           else
            c ((x1.getD x3.toNat ((0 : Int), (0 : Int), (0 : Int), [], [], [])).fst, x1, x2, Go.IntKind.i64.wrap (x3 + (1 : Int)), y4_1)))
      else none
     else
      b x4
noncomputable def L_segment_order_0 (fuel : Nat) (v : Int × (List (Int × (Int × (Int × ((List Int) × ((List Bool) × (List Int))))))) × Int × Int × (List (Int × Int))) (ret : (Int × (List (Int × Int)) → Option Ans)) (b : ((List (Int × Int)) → Option Ans)) : Option Ans := iter (S_segment_order_0 fuel) fuel v (ret, b)
noncomputable def J134_0 (fuel : Nat) (i : Nat) : Option Ev.Blk := Ev.look i []
noncomputable def T134_0 (v : Int × (List (Int × (Int × (Int × ((List Int) × ((List Bool) × (List Int))))))) × Int × Int × (List (Int × Int))) : Ev.St := match v with | (x0, x1, x2, x3, x4) => ⟨[(4, .c (.mp 0)), (5, .c (.int .i64 x0)), (9, .c (.sl (.pair (.int .i64) (.pair (.int .i64) (.pair (.int .i64) (.pair (.sl (.int .i64)) (.pair (.sl .bool) (.sl (.int .u8))))))) x1)), (10, .c (.int .i64 x2)), (11, .c (.int .i64 x3))], [(0, .dict .i64 (.int .i64) x4)], 1, 0⟩
noncomputable def E134_0 (K : Ev.Ex → Ev.St → Option Ans) : (Int × (List (Int × Int)) → Option Ans) × ((List (Int × Int)) → Option Ans) := ((fun v => match v with | (x0, x1) => K .ret ⟨[(2, .c (.mp 0)), (3, .c (.int .i64 x0))], [(0, .dict .i64 (.int .i64) x1)], 1, 0⟩), (fun v => match v with | x0 => K .normal ⟨[(4, .c (.mp 0))], [(0, .dict .i64 (.int .i64) x0)], 1, 0⟩))
theorem S134_0_okg (fuel : Nat) (f193_88a : YF193_88a) (R : Ev.St → Option Ans) (K : Ev.Ex → Ev.St → Option Ans) (x0 : Int) (x1 : (List (Int × (Int × (Int × ((List Int) × ((List Bool) × (List Int)))))))) (x2 : Int) (x3 : Int) (x4 : (List (Int × Int))) : evalCode tab (Gg134 f193_88a) (J134_0 fuel) kp134 fuel (bodyOf 0 Try.f134) (T134_0 (x0, x1, x2, x3, x4)) (lc kp134 4 0 R K) = (fun (c : (Int × (List (Int × (Int × (Int × ((List Int) × ((List Bool) × (List Int))))))) × Int × Int × (List (Int × Int))) → Option Ans) (B : (Int × (List (Int × Int)) → Option Ans) × ((List (Int × Int)) → Option Ans)) => match B with
  | (ret, b) =>
   bif Decidable.decide (x3 < x2) then
      bif Decidable.decide ((0 : Int) ≤ x3 ∧ x3 < (↑x1.length : Int)) then
      (f193_88a ((x1.getD x3.toNat ((0 : Int), (0 : Int), (0 : Int), [], [], [])).fst) ((x1.getD x3.toNat ((0 : Int), (0 : Int), (0 : Int), [], [], [])).snd.fst) ((x1.getD x3.toNat ((0 : Int), (0 : Int), (0 : Int), [], [], [])).snd.snd.fst) ((x1.getD x3.toNat ((0 : Int), (0 : Int), (0 : Int), [], [], [])).snd.snd.snd.fst) ((x1.getD x3.toNat ((0 : Int), (0 : Int), (0 : Int), [], [], [])).snd.snd.snd.snd.fst) ((x1.getD x3.toNat ((0 : Int), (0 : Int), (0 : Int), [], [], [])).snd.snd.snd.snd.snd) (x0) (x4)
         (fun (y4_0, y4_1) =>
           bif !y4_0 then
            ret (x3, y4_1)
           else
            c ((x1.getD x3.toNat ((0 : Int), (0 : Int), (0 : Int), [], [], [])).fst, x1, x2, Go.IntKind.i64.wrap (x3 + (1 : Int)), y4_1)))
      else none
     else
      b x4) (fun v => R (T134_0 v)) (E134_0 K) := by
  kernel_rfl
theorem S134_0_ok (fuel : Nat) (R : Ev.St → Option Ans) (K : Ev.Ex → Ev.St → Option Ans) (x0 : Int) (x1 : (List (Int × (Int × (Int × ((List Int) × ((List Bool) × (List Int)))))))) (x2 : Int) (x3 : Int) (x4 : (List (Int × Int))) : evalCode tab (G134 fuel) (J134_0 fuel) kp134 fuel (bodyOf 0 Try.f134) (T134_0 (x0, x1, x2, x3, x4)) (lc kp134 4 0 R K) = S_segment_order_0 fuel (x0, x1, x2, x3, x4) (fun v => R (T134_0 v)) (E134_0 K) :=
  S134_0_okg fuel (F_segment_store_takes_88a fuel) R K x0 x1 x2 x3 x4
noncomputable def B134_0 (fuel : Nat) : Ev.Blk := fun st K => match canonO (kp134 4) st with
  | some s => (match s with
    | ⟨[(q0, .c (.mp q1)), (q2, .c (.int .i64 x0)), (q3, .c (.sl (.pair (.int .i64) (.pair (.int .i64) (.pair (.int .i64) (.pair (.sl (.int .i64)) (.pair (.sl .bool) (.sl (.int .u8))))))) x1)), (q4, .c (.int .i64 x2)), (q5, .c (.int .i64 x3))], [(q6, .dict .i64 (.int .i64) x4)], q7, q8⟩ => bif Nat.beq q0 4 && Nat.beq q1 0 && Nat.beq q2 5 && Nat.beq q3 9 && Nat.beq q4 10 && Nat.beq q5 11 && Nat.beq q6 0 && Nat.beq q7 1 && Nat.beq q8 0 then iter (S_segment_order_0 fuel) fuel (x0, x1, x2, x3, x4) (E134_0 K) else none
    | _ => none)
  | none => none
theorem B134_0_ok (fuel : Nat) (st : Ev.St) (K : Ev.Ex → Ev.St → Option Ans) (r : Ans) (h : B134_0 fuel st K = some r) : evalCode tab (G134 fuel) (J134_0 fuel) kp134 fuel (.block 0 (.loop (bodyOf 0 Try.f134))) st K = some r := by
  unfold B134_0 at h
  split at h
  · rename_i s hs
    split at h
    · skip
      obtain ⟨hb, h⟩ := cond_some' h
      simp only [Bool.and_eq_true, Nat.beq_eq, decide_eq_true_eq] at hb
      obtain ⟨⟨⟨⟨⟨⟨⟨⟨rfl, rfl⟩, rfl⟩, rfl⟩, rfl⟩, rfl⟩, rfl⟩, rfl⟩, rfl⟩ := hb
      exact blk_loop (S := T134_0) (ks := E134_0) (step := S_segment_order_0 fuel) (v := (_, _, _, _, _)) (by kernel_rfl) (by kernel_rfl) (fun R K v => by obtain ⟨x0, x1, x2, x3, x4⟩ := v; exact S134_0_ok fuel R K x0 x1 x2 x3 x4) hs h
    · cases h
  · cases h
noncomputable def J134 (fuel : Nat) (i : Nat) : Option Ev.Blk := Ev.look i [(100000, B134_0 fuel)]
noncomputable def F_segment_order (fuel : Nat) (x0 : (List (Int × Int × Int × (List Int) × (List Bool) × (List Int)))) (k0 : (Int × (List (Int × Int))) → Option Ans) : Option Ans :=
  (L_segment_order_0 fuel ((-1 : Int), x0, (↑x0.length : Int), (0 : Int), [])
    (fun (ret0_0, ret0_1) =>
      k0 (ret0_0, ret0_1))
    (fun b0_0 =>
      k0 ((-1 : Int), b0_0)))
abbrev YF134 : Type := ((List (Int × Int × Int × (List Int) × (List Bool) × (List Int)))) → ((Int × (List (Int × Int))) → Option Ans) → Option Ans
theorem F134_eqg (fuel : Nat) (f193_88a : YF193_88a) (x0 : (List (Int × Int × Int × (List Int) × (List Bool) × (List Int)))) (k : Ev.Cont) : evalFn tab (Gg134 f193_88a) (J134 fuel) kp134 fuel Try.f134 [.c (.sl (.pair (.int .i64) (.pair (.int .i64) (.pair (.int .i64) (.pair (.sl (.int .i64)) (.pair (.sl .bool) (.sl (.int .u8))))))) x0)] [] k = (fun  (k0 : (Int × (List (Int × Int))) → Option Ans) =>
  (L_segment_order_0 fuel ((-1 : Int), x0, (↑x0.length : Int), (0 : Int), [])
    (fun (ret0_0, ret0_1) =>
      k0 (ret0_0, ret0_1))
    (fun b0_0 =>
      k0 ((-1 : Int), b0_0)))) (fun r => match r with | (r0, r1) => k (.tup [(false, [.mp 0]), (false, [.int .i64 r0])], [.dict .i64 (.int .i64) r1])) := by
  kernel_rfl
theorem F134_eq (fuel : Nat) (x0 : (List (Int × Int × Int × (List Int) × (List Bool) × (List Int)))) (k : Ev.Cont) : evalFn tab (G134 fuel) (J134 fuel) kp134 fuel Try.f134 [.c (.sl (.pair (.int .i64) (.pair (.int .i64) (.pair (.int .i64) (.pair (.sl (.int .i64)) (.pair (.sl .bool) (.sl (.int .u8))))))) x0)] [] k = F_segment_order fuel x0 (fun r => match r with | (r0, r1) => k (.tup [(false, [.mp 0]), (false, [.int .i64 r0])], [.dict .i64 (.int .i64) r1])) :=
  F134_eqg fuel (F_segment_store_takes_88a fuel) x0 k
theorem hG134 (fuel : Nat) : GOK Try.prog (G134 fuel) :=
  gok_cons ⟨ok193_88a fuel, enters_of Try.func193 (by kernel_rfl) rfl⟩ <|
  gok_nil
theorem B134_0_blk (fuel : Nat) : BlkOK Try.prog Try.f134.ntmps (.block 0 (.loop (bodyOf 0 Try.f134))) (B134_0 fuel) :=
  blk_of (blk_of_code tab_ok (hG134 fuel) mixed (J := J134_0 fuel) (kp := kp134) (fuel := fuel) (by kernel_rfl) (fun q hq => by
    rw [(by kernel_rfl : obl (J134_0 fuel) (.block 0 (.loop (bodyOf 0 Try.f134))) = [])] at hq
    cases hq)) (B134_0_ok fuel)
theorem fok134 (fuel : Nat) : FnOK Try.prog 134 (evalFn tab (G134 fuel) (J134 fuel) kp134 fuel Try.f134) :=
  fn_ok tab_ok (hG134 fuel) mixed Try.func134 (c := (Try.f134.body).getD .skip) rfl (fun q hq => by
    rw [(by kernel_rfl : obl (J134 fuel) ((Try.f134.body).getD .skip) = [(.block 0 (.loop (bodyOf 0 Try.f134)), B134_0 fuel)])] at hq
    simp only [List.mem_cons, List.not_mem_nil, or_false] at hq
    subst hq
    · exact B134_0_blk fuel)
noncomputable def mt134 : List Ev.SV → List Ev.Ob → Bool := fun args objs => match args, objs with
  | [.c (.sl (.pair (.int .i64) (.pair (.int .i64) (.pair (.int .i64) (.pair (.sl (.int .i64)) (.pair (.sl .bool) (.sl (.int .u8))))))) _)], [] => true
  | _, _ => false
noncomputable def spg134 (F : YF134) : Ev.Spec := fun args objs k => match args, objs with
  | [.c (.sl (.pair (.int .i64) (.pair (.int .i64) (.pair (.int .i64) (.pair (.sl (.int .i64)) (.pair (.sl .bool) (.sl (.int .u8))))))) x0)], [] => bif true then F x0 (fun r => match r with | (r0, r1) => k (.tup [(false, [.mp 0]), (false, [.int .i64 r0])], [.dict .i64 (.int .i64) r1])) else none
  | _, _ => none
noncomputable def spec134 (fuel : Nat) : Ev.Spec := spg134 (F_segment_order fuel)
theorem ok134 (fuel : Nat) : FnOK Try.prog 134 (spec134 fuel) := by
  intro args objs kk r h
  unfold spec134 spg134 at h
  split at h
  · skip
    obtain ⟨hb, h⟩ := cond_some' h
    simp only [Bool.and_eq_true, Nat.beq_eq, decide_eq_true_eq] at hb
    clear hb
    exact fok134 fuel _ _ kk r ((F134_eq fuel _ kk).trans h)
  · cases h
end Go.Proofs.Ytihfgpfofmjbaaa

set_option linter.unusedVariables false
set_option linter.unusedSimpArgs false
set_option maxRecDepth 100000
set_option maxHeartbeats 2000000
namespace Go.Proofs.Ytihfgpfofmjbaaa
open Go Ev
def kp60 (i : Nat) : Option (List Nat) := Ev.look i []
noncomputable def Gg60 (f134 : YF134) (f : Nat) : Option Ev.Spec := Ev.look f [(134, spg134 f134)]
noncomputable def G60 (fuel : Nat) : Nat → Option Ev.Spec := Gg60 (F_segment_order fuel)
noncomputable def J60 (fuel : Nat) (i : Nat) : Option Ev.Blk := Ev.look i []
noncomputable def F_segment_InOrder (fuel : Nat) (x0 : (List (Int × Int × Int × (List Int) × (List Bool) × (List Int)))) (k0 : (Int × Int) → Option Ans) : Option Ans :=
  (F_segment_order fuel (x0)
    (fun (y2_0, y2_1) =>
      bif Decidable.decide (y2_0 ≥ (0 : Int)) then
       k0 (y2_0, (40 : Int))
      else
       k0 ((-1 : Int), (0 : Int))))
abbrev YF60 : Type := ((List (Int × Int × Int × (List Int) × (List Bool) × (List Int)))) → ((Int × Int) → Option Ans) → Option Ans
theorem F60_eqg (fuel : Nat) (f134 : YF134) (x0 : (List (Int × Int × Int × (List Int) × (List Bool) × (List Int)))) (k : Ev.Cont) : evalFn tab (Gg60 f134) (J60 fuel) kp60 fuel Try.f60 [.c (.sl (.pair (.int .i64) (.pair (.int .i64) (.pair (.int .i64) (.pair (.sl (.int .i64)) (.pair (.sl .bool) (.sl (.int .u8))))))) x0)] [] k = (fun  (k0 : (Int × Int) → Option Ans) =>
  (f134 (x0)
    (fun (y2_0, y2_1) =>
      bif Decidable.decide (y2_0 ≥ (0 : Int)) then
       k0 (y2_0, (40 : Int))
      else
       k0 ((-1 : Int), (0 : Int))))) (fun r => match r with | (r0, r1) => k (.tup [(false, [.int .i64 r0]), (false, [.int .i64 r1])], [])) := by
  kernel_rfl
theorem F60_eq (fuel : Nat) (x0 : (List (Int × Int × Int × (List Int) × (List Bool) × (List Int)))) (k : Ev.Cont) : evalFn tab (G60 fuel) (J60 fuel) kp60 fuel Try.f60 [.c (.sl (.pair (.int .i64) (.pair (.int .i64) (.pair (.int .i64) (.pair (.sl (.int .i64)) (.pair (.sl .bool) (.sl (.int .u8))))))) x0)] [] k = F_segment_InOrder fuel x0 (fun r => match r with | (r0, r1) => k (.tup [(false, [.int .i64 r0]), (false, [.int .i64 r1])], [])) :=
  F60_eqg fuel (F_segment_order fuel) x0 k
theorem hG60 (fuel : Nat) : GOK Try.prog (G60 fuel) :=
  gok_cons ⟨ok134 fuel, enters_of Try.func134 (by kernel_rfl) rfl⟩ <|
  gok_nil
theorem fok60 (fuel : Nat) : FnOK Try.prog 60 (evalFn tab (G60 fuel) (J60 fuel) kp60 fuel Try.f60) :=
  fn_ok tab_ok (hG60 fuel) mixed Try.func60 (c := (Try.f60.body).getD .skip) rfl (fun q hq => by
    rw [(by kernel_rfl : obl (J60 fuel) ((Try.f60.body).getD .skip) = [])] at hq
    cases hq)
noncomputable def mt60 : List Ev.SV → List Ev.Ob → Bool := fun args objs => match args, objs with
  | [.c (.sl (.pair (.int .i64) (.pair (.int .i64) (.pair (.int .i64) (.pair (.sl (.int .i64)) (.pair (.sl .bool) (.sl (.int .u8))))))) _)], [] => true
  | _, _ => false
noncomputable def spg60 (F : YF60) : Ev.Spec := fun args objs k => match args, objs with
  | [.c (.sl (.pair (.int .i64) (.pair (.int .i64) (.pair (.int .i64) (.pair (.sl (.int .i64)) (.pair (.sl .bool) (.sl (.int .u8))))))) x0)], [] => bif true then F x0 (fun r => match r with | (r0, r1) => k (.tup [(false, [.int .i64 r0]), (false, [.int .i64 r1])], [])) else none
  | _, _ => none
noncomputable def spec60 (fuel : Nat) : Ev.Spec := spg60 (F_segment_InOrder fuel)
theorem ok60 (fuel : Nat) : FnOK Try.prog 60 (spec60 fuel) := by
  intro args objs kk r h
  unfold spec60 spg60 at h
  split at h
  · skip
    obtain ⟨hb, h⟩ := cond_some' h
    simp only [Bool.and_eq_true, Nat.beq_eq, decide_eq_true_eq] at hb
    clear hb
    exact fok60 fuel _ _ kk r ((F60_eq fuel _ kk).trans h)
  · cases h
end Go.Proofs.Ytihfgpfofmjbaaa

set_option linter.unusedVariables false
set_option linter.unusedSimpArgs false
set_option maxRecDepth 100000
set_option maxHeartbeats 2000000
namespace Go.Proofs.Ytihfgpfofmjbaaa
open Go Ev
def kp58 (i : Nat) : Option (List Nat) := Ev.look i []
noncomputable def Gg58 (f59 : YF59) (f : Nat) : Option Ev.Spec := Ev.look f [(59, spg59 f59)]
noncomputable def G58 (fuel : Nat) : Nat → Option Ev.Spec := Gg58 (F_segment_Valid fuel)
noncomputable def J58 (fuel : Nat) (i : Nat) : Option Ev.Blk := Ev.look i []
noncomputable def F_file_Write_1 (fuel : Nat) (x0 : Int) (x1 : Int) (x2 : Int) (x3 : (List Int)) (x4 : (List Bool)) (x5 : (List Int)) (k0 : (Bool) → Option Ans) : Option Ans :=
  (F_segment_Valid fuel (x0) (x1) (x2) (x3) (x4) (x5)
    (fun y2 =>
      k0 !y2))
abbrev YF58 : Type := (Int) → (Int) → (Int) → ((List Int)) → ((List Bool)) → ((List Int)) → ((Bool) → Option Ans) → Option Ans
theorem F58_eqg (fuel : Nat) (f59 : YF59) (x0 : Int) (x1 : Int) (x2 : Int) (x3 : (List Int)) (x4 : (List Bool)) (x5 : (List Int)) (k : Ev.Cont) : evalFn tab (Gg58 f59) (J58 fuel) kp58 fuel Try.f58 [.agg [.int .i64 x0, .int .i64 x1, .int .i64 x2, .sl (.int .i64) x3, .sl .bool x4, .sl (.int .u8) x5]] [] k = (fun  (k0 : (Bool) → Option Ans) =>
  (f59 (x0) (x1) (x2) (x3) (x4) (x5)
    (fun y2 =>
      k0 !y2))) (fun r => match r with | r0 => k (.c (.bool r0), [])) := by
  kernel_rfl
theorem F58_eq (fuel : Nat) (x0 : Int) (x1 : Int) (x2 : Int) (x3 : (List Int)) (x4 : (List Bool)) (x5 : (List Int)) (k : Ev.Cont) : evalFn tab (G58 fuel) (J58 fuel) kp58 fuel Try.f58 [.agg [.int .i64 x0, .int .i64 x1, .int .i64 x2, .sl (.int .i64) x3, .sl .bool x4, .sl (.int .u8) x5]] [] k = F_file_Write_1 fuel x0 x1 x2 x3 x4 x5 (fun r => match r with | r0 => k (.c (.bool r0), [])) :=
  F58_eqg fuel (F_segment_Valid fuel) x0 x1 x2 x3 x4 x5 k
theorem hG58 (fuel : Nat) : GOK Try.prog (G58 fuel) :=
  gok_cons ⟨ok59 fuel, enters_of Try.func59 (by kernel_rfl) rfl⟩ <|
  gok_nil
theorem fok58 (fuel : Nat) : FnOK Try.prog 58 (evalFn tab (G58 fuel) (J58 fuel) kp58 fuel Try.f58) :=
  fn_ok tab_ok (hG58 fuel) mixed Try.func58 (c := (Try.f58.body).getD .skip) rfl (fun q hq => by
    rw [(by kernel_rfl : obl (J58 fuel) ((Try.f58.body).getD .skip) = [])] at hq
    cases hq)
noncomputable def mt58 : List Ev.SV → List Ev.Ob → Bool := fun args objs => match args, objs with
  | [.agg [.int .i64 _, .int .i64 _, .int .i64 _, .sl (.int .i64) _, .sl .bool _, .sl (.int .u8) _]], [] => true
  | _, _ => false
noncomputable def spg58 (F : YF58) : Ev.Spec := fun args objs k => match args, objs with
  | [.agg [.int .i64 x0, .int .i64 x1, .int .i64 x2, .sl (.int .i64) x3, .sl .bool x4, .sl (.int .u8) x5]], [] => bif true then F x0 x1 x2 x3 x4 x5 (fun r => match r with | r0 => k (.c (.bool r0), [])) else none
  | _, _ => none
noncomputable def spec58 (fuel : Nat) : Ev.Spec := spg58 (F_file_Write_1 fuel)
theorem ok58 (fuel : Nat) : FnOK Try.prog 58 (spec58 fuel) := by
  intro args objs kk r h
  unfold spec58 spg58 at h
  split at h
  · skip
    obtain ⟨hb, h⟩ := cond_some' h
    simp only [Bool.and_eq_true, Nat.beq_eq, decide_eq_true_eq] at hb
    clear hb
    exact fok58 fuel _ _ kk r ((F58_eq fuel _ _ _ _ _ _ kk).trans h)
  · cases h
end Go.Proofs.Ytihfgpfofmjbaaa

set_option linter.unusedVariables false
set_option linter.unusedSimpArgs false
set_option maxRecDepth 100000
set_option maxHeartbeats 2000000
namespace Go.Proofs.Ytihfgpfofmjbaaa
open Go Ev
def kp133_ac5 (i : Nat) : Option (List Nat) := Ev.look i [(2, [0, 1, 7, 8]), (100000, []), (400000, [4])]
noncomputable def Gg133_ac5 (f58 : YF58) (f : Nat) : Option Ev.Spec := Ev.look f [(58, spg58 f58)]
noncomputable def G133_ac5 (fuel : Nat) : Nat → Option Ev.Spec := Gg133_ac5 (F_file_Write_1 fuel)
noncomputable def S_slices_IndexFunc_api_Segment_api_Segment_ac5_0 (fuel : Nat) (v : (List (Int × (Int × (Int × ((List Int) × ((List Bool) × (List Int))))))) × Int × Int) (c : ((List (Int × (Int × (Int × ((List Int) × ((List Bool) × (List Int))))))) × Int × Int) → Option Ans) (B : (Int → Option Ans) × (Unit → Option Ans)) : Option Ans := match v, B with
  | (x0, x1, x2), (ret, b) =>
   bif Decidable.decide (x2 < x1) then
      bif Decidable.decide ((0 : Int) ≤ x2 ∧ x2 < (↑x0.length : Int)) then
      (F_file_Write_1 fuel ((x0.getD x2.toNat ((0 : Int), (0 : Int), (0 : Int), [], [], [])).fst) ((x0.getD x2.toNat ((0 : Int), (0 : Int), (0 : Int), [], [], [])).snd.fst) ((x0.getD x2.toNat ((0 : Int), (0 : Int), (0 : Int), [], [], [])).snd.snd.fst) ((x0.getD x2.toNat ((0 : Int), (0 : Int), (0 : Int), [], [], [])).snd.snd.snd.fst) ((x0.getD x2.toNat ((0 : Int), (0 : Int), (0 : Int), [], [], [])).snd.snd.snd.snd.fst) ((x0.getD x2.toNat ((0 : Int), (0 : Int), (0 : Int), [], [], [])).snd.snd.snd.snd.snd)
         (fun y4 =>
           bif y4 then
            ret x2
           else
            c (x0, x1, Go.IntKind.i64.wrap (x2 + (1 : Int)))))
      else none
     else
      b ()
noncomputable def L_slices_IndexFunc_api_Segment_api_Segment_ac5_0 (fuel : Nat) (v : (List (Int × (Int × (Int × ((List Int) × ((List Bool) × (List Int))))))) × Int × Int) (ret : (Int → Option Ans)) (b : (Unit → Option Ans)) : Option Ans := iter (S_slices_IndexFunc_api_Segment_api_Segment_ac5_0 fuel) fuel v (ret, b)
noncomputable def J133_ac5_0 (fuel : Nat) (i : Nat) : Option Ev.Blk := Ev.look i []
noncomputable def T133_ac5_0 (v : (List (Int × (Int × (Int × ((List Int) × ((List Bool) × (List Int))))))) × Int × Int) : Ev.St := match v with | (x0, x1, x2) => ⟨[(0, .c (.sl (.pair (.int .i64) (.pair (.int .i64) (.pair (.int .i64) (.pair (.sl (.int .i64)) (.pair (.sl .bool) (.sl (.int .u8))))))) x0)), (1, .c (.clo 58 [])), (7, .c (.int .i64 x1)), (8, .c (.int .i64 x2))], [], 0, 0⟩
noncomputable def E133_ac5_0 (K : Ev.Ex → Ev.St → Option Ans) : (Int → Option Ans) × (Unit → Option Ans) := ((fun v => match v with | x0 => K .ret ⟨[(4, .c (.int .i64 x0))], [], 0, 0⟩), (fun v => match v with | () => K .normal ⟨[], [], 0, 0⟩))
theorem S133_ac5_0_okg (fuel : Nat) (f58 : YF58) (R : Ev.St → Option Ans) (K : Ev.Ex → Ev.St → Option Ans) (x0 : (List (Int × (Int × (Int × ((List Int) × ((List Bool) × (List Int)))))))) (x1 : Int) (x2 : Int) : evalCode tab (Gg133_ac5 f58) (J133_ac5_0 fuel) kp133_ac5 fuel (bodyOf 0 Try.f133) (T133_ac5_0 (x0, x1, x2)) (lc kp133_ac5 2 0 R K) = (fun (c : ((List (Int × (Int × (Int × ((List Int) × ((List Bool) × (List Int))))))) × Int × Int) → Option Ans) (B : (Int → Option Ans) × (Unit → Option Ans)) => match B with
  | (ret, b) =>
   bif Decidable.decide (x2 < x1) then
      bif Decidable.decide ((0 : Int) ≤ x2 ∧ x2 < (↑x0.length : Int)) then
      (f58 ((x0.getD x2.toNat ((0 : Int), (0 : Int), (0 : Int), [], [], [])).fst) ((x0.getD x2.toNat ((0 : Int), (0 : Int), (0 : Int), [], [], [])).snd.fst) ((x0.getD x2.toNat ((0 : Int), (0 : Int), (0 : Int), [], [], [])).snd.snd.fst) ((x0.getD x2.toNat ((0 : Int), (0 : Int), (0 : Int), [], [], [])).snd.snd.snd.fst) ((x0.getD x2.toNat ((0 : Int), (0 : Int), (0 : Int), [], [], [])).snd.snd.snd.snd.fst) ((x0.getD x2.toNat ((0 : Int), (0 : Int), (0 : Int), [], [], [])).snd.snd.snd.snd.snd)
         (fun y4 =>
           bif y4 then
            ret x2
           else
            c (x0, x1, Go.IntKind.i64.wrap (x2 + (1 : Int)))))
      else none
     else
      b ()) (fun v => R (T133_ac5_0 v)) (E133_ac5_0 K) := by
  kernel_rfl
theorem S133_ac5_0_ok (fuel : Nat) (R : Ev.St → Option Ans) (K : Ev.Ex → Ev.St → Option Ans) (x0 : (List (Int × (Int × (Int × ((List Int) × ((List Bool) × (List Int)))))))) (x1 : Int) (x2 : Int) : evalCode tab (G133_ac5 fuel) (J133_ac5_0 fuel) kp133_ac5 fuel (bodyOf 0 Try.f133) (T133_ac5_0 (x0, x1, x2)) (lc kp133_ac5 2 0 R K) = S_slices_IndexFunc_api_Segment_api_Segment_ac5_0 fuel (x0, x1, x2) (fun v => R (T133_ac5_0 v)) (E133_ac5_0 K) :=
  S133_ac5_0_okg fuel (F_file_Write_1 fuel) R K x0 x1 x2
noncomputable def B133_ac5_0 (fuel : Nat) : Ev.Blk := fun st K => match canonO (kp133_ac5 2) st with
  | some s => (match s with
    | ⟨[(q0, .c (.sl (.pair (.int .i64) (.pair (.int .i64) (.pair (.int .i64) (.pair (.sl (.int .i64)) (.pair (.sl .bool) (.sl (.int .u8))))))) x0)), (q1, .c (.clo q2 [])), (q3, .c (.int .i64 x1)), (q4, .c (.int .i64 x2))], [], q5, q6⟩ => bif Nat.beq q0 0 && Nat.beq q1 1 && Nat.beq q2 58 && Nat.beq q3 7 && Nat.beq q4 8 && Nat.beq q5 0 && Nat.beq q6 0 then iter (S_slices_IndexFunc_api_Segment_api_Segment_ac5_0 fuel) fuel (x0, x1, x2) (E133_ac5_0 K) else none
    | _ => none)
  | none => none
theorem B133_ac5_0_ok (fuel : Nat) (st : Ev.St) (K : Ev.Ex → Ev.St → Option Ans) (r : Ans) (h : B133_ac5_0 fuel st K = some r) : evalCode tab (G133_ac5 fuel) (J133_ac5_0 fuel) kp133_ac5 fuel (.block 0 (.loop (bodyOf 0 Try.f133))) st K = some r := by
  unfold B133_ac5_0 at h
  split at h
  · rename_i s hs
    split at h
    · skip
      obtain ⟨hb, h⟩ := cond_some' h
      simp only [Bool.and_eq_true, Nat.beq_eq, decide_eq_true_eq] at hb
      obtain ⟨⟨⟨⟨⟨⟨rfl, rfl⟩, rfl⟩, rfl⟩, rfl⟩, rfl⟩, rfl⟩ := hb
      exact blk_loop (S := T133_ac5_0) (ks := E133_ac5_0) (step := S_slices_IndexFunc_api_Segment_api_Segment_ac5_0 fuel) (v := (_, _, _)) (by kernel_rfl) (by kernel_rfl) (fun R K v => by obtain ⟨x0, x1, x2⟩ := v; exact S133_ac5_0_ok fuel R K x0 x1 x2) hs h
    · cases h
  · cases h
noncomputable def J133_ac5 (fuel : Nat) (i : Nat) : Option Ev.Blk := Ev.look i [(100000, B133_ac5_0 fuel)]
noncomputable def F_slices_IndexFunc_api_Segment_api_Segment_ac5 (fuel : Nat) (x0 : (List (Int × (Int × (Int × ((List Int) × ((List Bool) × (List Int)))))))) (k0 : (Int) → Option Ans) : Option Ans :=
  (L_slices_IndexFunc_api_Segment_api_Segment_ac5_0 fuel (x0, (↑x0.length : Int), (0 : Int))
    (fun ret0_0 =>
      k0 ret0_0)
    (fun () =>
      k0 ((-1 : Int))))
abbrev YF133_ac5 : Type := ((List (Int × (Int × (Int × ((List Int) × ((List Bool) × (List Int)))))))) → ((Int) → Option Ans) → Option Ans
theorem F133_ac5_eqg (fuel : Nat) (f58 : YF58) (x0 : (List (Int × (Int × (Int × ((List Int) × ((List Bool) × (List Int)))))))) (k : Ev.Cont) : evalFn tab (Gg133_ac5 f58) (J133_ac5 fuel) kp133_ac5 fuel Try.f133 [.c (.sl (.pair (.int .i64) (.pair (.int .i64) (.pair (.int .i64) (.pair (.sl (.int .i64)) (.pair (.sl .bool) (.sl (.int .u8))))))) x0), .c (.clo 58 [])] [] k = (fun  (k0 : (Int) → Option Ans) =>
  (L_slices_IndexFunc_api_Segment_api_Segment_ac5_0 fuel (x0, (↑x0.length : Int), (0 : Int))
    (fun ret0_0 =>
      k0 ret0_0)
    (fun () =>
      k0 ((-1 : Int))))) (fun r => match r with | r0 => k (.c (.int .i64 r0), [])) := by
  kernel_rfl
theorem F133_ac5_eq (fuel : Nat) (x0 : (List (Int × (Int × (Int × ((List Int) × ((List Bool) × (List Int)))))))) (k : Ev.Cont) : evalFn tab (G133_ac5 fuel) (J133_ac5 fuel) kp133_ac5 fuel Try.f133 [.c (.sl (.pair (.int .i64) (.pair (.int .i64) (.pair (.int .i64) (.pair (.sl (.int .i64)) (.pair (.sl .bool) (.sl (.int .u8))))))) x0), .c (.clo 58 [])] [] k = F_slices_IndexFunc_api_Segment_api_Segment_ac5 fuel x0 (fun r => match r with | r0 => k (.c (.int .i64 r0), [])) :=
  F133_ac5_eqg fuel (F_file_Write_1 fuel) x0 k
theorem hG133_ac5 (fuel : Nat) : GOK Try.prog (G133_ac5 fuel) :=
  gok_cons ⟨ok58 fuel, enters_of Try.func58 (by kernel_rfl) rfl⟩ <|
  gok_nil
theorem B133_ac5_0_blk (fuel : Nat) : BlkOK Try.prog Try.f133.ntmps (.block 0 (.loop (bodyOf 0 Try.f133))) (B133_ac5_0 fuel) :=
  blk_of (blk_of_code tab_ok (hG133_ac5 fuel) mixed (J := J133_ac5_0 fuel) (kp := kp133_ac5) (fuel := fuel) (by kernel_rfl) (fun q hq => by
    rw [(by kernel_rfl : obl (J133_ac5_0 fuel) (.block 0 (.loop (bodyOf 0 Try.f133))) = [])] at hq
    cases hq)) (B133_ac5_0_ok fuel)
theorem fok133_ac5 (fuel : Nat) : FnOK Try.prog 133 (evalFn tab (G133_ac5 fuel) (J133_ac5 fuel) kp133_ac5 fuel Try.f133) :=
  fn_ok tab_ok (hG133_ac5 fuel) mixed Try.func133 (c := (Try.f133.body).getD .skip) rfl (fun q hq => by
    rw [(by kernel_rfl : obl (J133_ac5 fuel) ((Try.f133.body).getD .skip) = [(.block 0 (.loop (bodyOf 0 Try.f133)), B133_ac5_0 fuel)])] at hq
    simp only [List.mem_cons, List.not_mem_nil, or_false] at hq
    subst hq
    · exact B133_ac5_0_blk fuel)
noncomputable def mt133_ac5 : List Ev.SV → List Ev.Ob → Bool := fun args objs => match args, objs with
  | [.c (.sl (.pair (.int .i64) (.pair (.int .i64) (.pair (.int .i64) (.pair (.sl (.int .i64)) (.pair (.sl .bool) (.sl (.int .u8))))))) _), .c (.clo q0 [])], [] => Nat.beq q0 58
  | _, _ => false
noncomputable def spg133_ac5 (F : YF133_ac5) : Ev.Spec := fun args objs k => match args, objs with
  | [.c (.sl (.pair (.int .i64) (.pair (.int .i64) (.pair (.int .i64) (.pair (.sl (.int .i64)) (.pair (.sl .bool) (.sl (.int .u8))))))) x0), .c (.clo q0 [])], [] => bif Nat.beq q0 58 then F x0 (fun r => match r with | r0 => k (.c (.int .i64 r0), [])) else none
  | _, _ => none
noncomputable def spec133_ac5 (fuel : Nat) : Ev.Spec := spg133_ac5 (F_slices_IndexFunc_api_Segment_api_Segment_ac5 fuel)
theorem ok133_ac5 (fuel : Nat) : FnOK Try.prog 133 (spec133_ac5 fuel) := by
  intro args objs kk r h
  unfold spec133_ac5 spg133_ac5 at h
  split at h
  · skip
    obtain ⟨hb, h⟩ := cond_some' h
    simp only [Bool.and_eq_true, Nat.beq_eq, decide_eq_true_eq] at hb
    obtain rfl := hb
    exact fok133_ac5 fuel _ _ kk r ((F133_ac5_eq fuel _ kk).trans h)
  · cases h
end Go.Proofs.Ytihfgpfofmjbaaa

set_option linter.unusedVariables false
set_option linter.unusedSimpArgs false
set_option maxRecDepth 100000
set_option maxHeartbeats 2000000
namespace Go.Proofs.Ytihfgpfofmjbaaa
open Go Ev
def kp57_ac5 (i : Nat) : Option (List Nat) := Ev.look i []
noncomputable def Gg57_ac5 (f133_ac5 : YF133_ac5) (f : Nat) : Option Ev.Spec := Ev.look f [(133, spg133_ac5 f133_ac5)]
noncomputable def G57_ac5 (fuel : Nat) : Nat → Option Ev.Spec := Gg57_ac5 (F_slices_IndexFunc_api_Segment_api_Segment_ac5 fuel)
noncomputable def J57_ac5 (fuel : Nat) (i : Nat) : Option Ev.Blk := Ev.look i []
noncomputable def F_slices_ContainsFunc_api_Segment_api_Segment_ac5 (fuel : Nat) (x0 : (List (Int × (Int × (Int × ((List Int) × ((List Bool) × (List Int)))))))) (k0 : (Bool) → Option Ans) : Option Ans :=
  (F_slices_IndexFunc_api_Segment_api_Segment_ac5 fuel (x0)
    (fun y2 =>
      k0 (Decidable.decide (y2 ≥ (0 : Int)))))
abbrev YF57_ac5 : Type := ((List (Int × (Int × (Int × ((List Int) × ((List Bool) × (List Int)))))))) → ((Bool) → Option Ans) → Option Ans
theorem F57_ac5_eqg (fuel : Nat) (f133_ac5 : YF133_ac5) (x0 : (List (Int × (Int × (Int × ((List Int) × ((List Bool) × (List Int)))))))) (k : Ev.Cont) : evalFn tab (Gg57_ac5 f133_ac5) (J57_ac5 fuel) kp57_ac5 fuel Try.f57 [.c (.sl (.pair (.int .i64) (.pair (.int .i64) (.pair (.int .i64) (.pair (.sl (.int .i64)) (.pair (.sl .bool) (.sl (.int .u8))))))) x0), .c (.clo 58 [])] [] k = (fun  (k0 : (Bool) → Option Ans) =>
  (f133_ac5 (x0)
    (fun y2 =>
      k0 (Decidable.decide (y2 ≥ (0 : Int)))))) (fun r => match r with | r0 => k (.c (.bool r0), [])) := by
  kernel_rfl
theorem F57_ac5_eq (fuel : Nat) (x0 : (List (Int × (Int × (Int × ((List Int) × ((List Bool) × (List Int)))))))) (k : Ev.Cont) : evalFn tab (G57_ac5 fuel) (J57_ac5 fuel) kp57_ac5 fuel Try.f57 [.c (.sl (.pair (.int .i64) (.pair (.int .i64) (.pair (.int .i64) (.pair (.sl (.int .i64)) (.pair (.sl .bool) (.sl (.int .u8))))))) x0), .c (.clo 58 [])] [] k = F_slices_ContainsFunc_api_Segment_api_Segment_ac5 fuel x0 (fun r => match r with | r0 => k (.c (.bool r0), [])) :=
  F57_ac5_eqg fuel (F_slices_IndexFunc_api_Segment_api_Segment_ac5 fuel) x0 k
theorem hG57_ac5 (fuel : Nat) : GOK Try.prog (G57_ac5 fuel) :=
  gok_cons ⟨ok133_ac5 fuel, enters_of Try.func133 (by kernel_rfl) rfl⟩ <|
  gok_nil
theorem fok57_ac5 (fuel : Nat) : FnOK Try.prog 57 (evalFn tab (G57_ac5 fuel) (J57_ac5 fuel) kp57_ac5 fuel Try.f57) :=
  fn_ok tab_ok (hG57_ac5 fuel) mixed Try.func57 (c := (Try.f57.body).getD .skip) rfl (fun q hq => by
    rw [(by kernel_rfl : obl (J57_ac5 fuel) ((Try.f57.body).getD .skip) = [])] at hq
    cases hq)
noncomputable def mt57_ac5 : List Ev.SV → List Ev.Ob → Bool := fun args objs => match args, objs with
  | [.c (.sl (.pair (.int .i64) (.pair (.int .i64) (.pair (.int .i64) (.pair (.sl (.int .i64)) (.pair (.sl .bool) (.sl (.int .u8))))))) _), .c (.clo q0 [])], [] => Nat.beq q0 58
  | _, _ => false
noncomputable def spg57_ac5 (F : YF57_ac5) : Ev.Spec := fun args objs k => match args, objs with
  | [.c (.sl (.pair (.int .i64) (.pair (.int .i64) (.pair (.int .i64) (.pair (.sl (.int .i64)) (.pair (.sl .bool) (.sl (.int .u8))))))) x0), .c (.clo q0 [])], [] => bif Nat.beq q0 58 then F x0 (fun r => match r with | r0 => k (.c (.bool r0), [])) else none
  | _, _ => none
noncomputable def spec57_ac5 (fuel : Nat) : Ev.Spec := spg57_ac5 (F_slices_ContainsFunc_api_Segment_api_Segment_ac5 fuel)
theorem ok57_ac5 (fuel : Nat) : FnOK Try.prog 57 (spec57_ac5 fuel) := by
  intro args objs kk r h
  unfold spec57_ac5 spg57_ac5 at h
  split at h
  · skip
    obtain ⟨hb, h⟩ := cond_some' h
    simp only [Bool.and_eq_true, Nat.beq_eq, decide_eq_true_eq] at hb
    obtain rfl := hb
    exact fok57_ac5 fuel _ _ kk r ((F57_ac5_eq fuel _ kk).trans h)
  · cases h
end Go.Proofs.Ytihfgpfofmjbaaa

set_option linter.unusedVariables false
set_option linter.unusedSimpArgs false
set_option maxRecDepth 100000
set_option maxHeartbeats 2000000
namespace Go.Proofs.Ytihfgpfofmjbaaa
open Go Ev
def kp17 (i : Nat) : Option (List Nat) := Ev.look i [(15, [0, 8, 9, 55, 56, 57]), (100000, [8, 9]), (400000, [4, 5])]
noncomputable def Gg17 (f57_ac5 : YF57_ac5) (f60 : YF60) (f61 : YF61) (f62 : YF62) (f63 : YF63) (f : Nat) : Option Ev.Spec := Ev.look f [(57, spg57_ac5 f57_ac5), (60, spg60 f60), (61, spg61 f61), (62, spg62 f62), (63, spg63 f63)]
noncomputable def G17 (fuel : Nat) : Nat → Option Ev.Spec := Gg17 (F_slices_ContainsFunc_api_Segment_api_Segment_ac5 fuel) (F_segment_InOrder fuel) (F_file_rightEnd fuel) (F_file_size fuel) (F_segment_Header fuel)
noncomputable def S_file_Write_0 (fuel : Nat) (v : Int × (List (Int × (Int × (Int × ((List Int) × ((List Bool) × (List Int))))))) × Int × Int × (List Int) × (List Int)) (c : (Int × (List (Int × (Int × (Int × ((List Int) × ((List Bool) × (List Int))))))) × Int × Int × (List Int) × (List Int)) → Option Ans) (B : ((List Int) × (List Int) → Option Ans)) : Option Ans := match v, B with
  | (x0, x1, x2, x3, x4, x5), b =>
   bif Decidable.decide (x3 < x2) then
      bif Decidable.decide ((0 : Int) ≤ x3 ∧ x3 < (↑x1.length : Int)) then
      (F_segment_Header fuel ((x1.getD x3.toNat ((0 : Int), (0 : Int), (0 : Int), [], [], [])).fst) ((x1.getD x3.toNat ((0 : Int), (0 : Int), (0 : Int), [], [], [])).snd.fst) ((x1.getD x3.toNat ((0 : Int), (0 : Int), (0 : Int), [], [], [])).snd.snd.fst) ((x1.getD x3.toNat ((0 : Int), (0 : Int), (0 : Int), [], [], [])).snd.snd.snd.fst) ((x1.getD x3.toNat ((0 : Int), (0 : Int), (0 : Int), [], [], [])).snd.snd.snd.snd.fst) ((x1.getD x3.toNat ((0 : Int), (0 : Int), (0 : Int), [], [], [])).snd.snd.snd.snd.snd)
         (fun (y4_0, y4_1) =>
           bif Decidable.decide ((x4.length + y4_1.length) * (1 : Nat) ≤ (140737488355328 : Nat) ∧ x4.length + y4_1.length ≤ (140737488355328 : Nat)) then
           bif x0 == (1 : Int) then
             bif Decidable.decide ((x5.length + List.length (x1.getD x3.toNat ((0 : Int), (0 : Int), (0 : Int), [], [], [])).snd.snd.snd.snd.snd) * (1 : Nat) ≤ (140737488355328 : Nat) ∧ x5.length + List.length (x1.getD x3.toNat ((0 : Int), (0 : Int), (0 : Int), [], [], [])).snd.snd.snd.snd.snd ≤ (140737488355328 : Nat)) then
             c (x0, x1, x2, Go.IntKind.i64.wrap (x3 + (1 : Int)), x4 ++ y4_1, x5 ++ (x1.getD x3.toNat ((0 : Int), (0 : Int), (0 : Int), [], [], [])).snd.snd.snd.snd.snd)
             else none
            else
             bif Decidable.decide (((x4 ++ y4_1).length + List.length (x1.getD x3.toNat ((0 : Int), (0 : Int), (0 : Int), [], [], [])).snd.snd.snd.snd.snd) * (1 : Nat) ≤ (140737488355328 : Nat) ∧ (x4 ++ y4_1).length + List.length (x1.getD x3.toNat ((0 : Int), (0 : Int), (0 : Int), [], [], [])).snd.snd.snd.snd.snd ≤ (140737488355328 : Nat)) then
             c (x0, x1, x2, Go.IntKind.i64.wrap (x3 + (1 : Int)), x4 ++ y4_1 ++ (x1.getD x3.toNat ((0 : Int), (0 : Int), (0 : Int), [], [], [])).snd.snd.snd.snd.snd, x5)
             else none
           else none))
      else none
     else
      b (x4, x5)
noncomputable def L_file_Write_0 (fuel : Nat) (v : Int × (List (Int × (Int × (Int × ((List Int) × ((List Bool) × (List Int))))))) × Int × Int × (List Int) × (List Int)) (b : ((List Int) × (List Int) → Option Ans)) : Option Ans := iter (S_file_Write_0 fuel) fuel v b
noncomputable def J17_0 (fuel : Nat) (i : Nat) : Option Ev.Blk := Ev.look i []
noncomputable def T17_0 (v : Int × (List (Int × (Int × (Int × ((List Int) × ((List Bool) × (List Int))))))) × Int × Int × (List Int) × (List Int)) : Ev.St := match v with | (x0, x1, x2, x3, x4, x5) => ⟨[(0, .c (.int .i64 x0)), (8, .c (.own 0)), (9, .c (.own 1)), (55, .c (.sl (.pair (.int .i64) (.pair (.int .i64) (.pair (.int .i64) (.pair (.sl (.int .i64)) (.pair (.sl .bool) (.sl (.int .u8))))))) x1)), (56, .c (.int .i64 x2)), (57, .c (.int .i64 x3))], [(0, .vec 5 (.int .u8) x4 true), (1, .vec 5 (.int .u8) x5 true)], 2, 0⟩
noncomputable def E17_0 (K : Ev.Ex → Ev.St → Option Ans) : ((List Int) × (List Int) → Option Ans) := (fun v => match v with | (x0, x1) => K .normal ⟨[(8, .c (.own 0)), (9, .c (.own 1))], [(0, .vec 5 (.int .u8) x0 true), (1, .vec 5 (.int .u8) x1 true)], 2, 0⟩)
theorem S17_0_okg (fuel : Nat) (f57_ac5 : YF57_ac5) (f60 : YF60) (f61 : YF61) (f62 : YF62) (f63 : YF63) (R : Ev.St → Option Ans) (K : Ev.Ex → Ev.St → Option Ans) (x0 : Int) (x1 : (List (Int × (Int × (Int × ((List Int) × ((List Bool) × (List Int)))))))) (x2 : Int) (x3 : Int) (x4 : (List Int)) (x5 : (List Int)) : evalCode tab (Gg17 f57_ac5 f60 f61 f62 f63) (J17_0 fuel) kp17 fuel (bodyOf 0 Try.f17) (T17_0 (x0, x1, x2, x3, x4, x5)) (lc kp17 15 0 R K) = (fun (c : (Int × (List (Int × (Int × (Int × ((List Int) × ((List Bool) × (List Int))))))) × Int × Int × (List Int) × (List Int)) → Option Ans) (B : ((List Int) × (List Int) → Option Ans)) => match B with
  | b =>
   bif Decidable.decide (x3 < x2) then
      bif Decidable.decide ((0 : Int) ≤ x3 ∧ x3 < (↑x1.length : Int)) then
      (f63 ((x1.getD x3.toNat ((0 : Int), (0 : Int), (0 : Int), [], [], [])).fst) ((x1.getD x3.toNat ((0 : Int), (0 : Int), (0 : Int), [], [], [])).snd.fst) ((x1.getD x3.toNat ((0 : Int), (0 : Int), (0 : Int), [], [], [])).snd.snd.fst) ((x1.getD x3.toNat ((0 : Int), (0 : Int), (0 : Int), [], [], [])).snd.snd.snd.fst) ((x1.getD x3.toNat ((0 : Int), (0 : Int), (0 : Int), [], [], [])).snd.snd.snd.snd.fst) ((x1.getD x3.toNat ((0 : Int), (0 : Int), (0 : Int), [], [], [])).snd.snd.snd.snd.snd)
         (fun (y4_0, y4_1) =>
           bif Decidable.decide ((x4.length + y4_1.length) * (1 : Nat) ≤ (140737488355328 : Nat) ∧ x4.length + y4_1.length ≤ (140737488355328 : Nat)) then
           bif x0 == (1 : Int) then
             bif Decidable.decide ((x5.length + List.length (x1.getD x3.toNat ((0 : Int), (0 : Int), (0 : Int), [], [], [])).snd.snd.snd.snd.snd) * (1 : Nat) ≤ (140737488355328 : Nat) ∧ x5.length + List.length (x1.getD x3.toNat ((0 : Int), (0 : Int), (0 : Int), [], [], [])).snd.snd.snd.snd.snd ≤ (140737488355328 : Nat)) then
             c (x0, x1, x2, Go.IntKind.i64.wrap (x3 + (1 : Int)), x4 ++ y4_1, x5 ++ (x1.getD x3.toNat ((0 : Int), (0 : Int), (0 : Int), [], [], [])).snd.snd.snd.snd.snd)
             else none
            else
             bif Decidable.decide (((x4 ++ y4_1).length + List.length (x1.getD x3.toNat ((0 : Int), (0 : Int), (0 : Int), [], [], [])).snd.snd.snd.snd.snd) * (1 : Nat) ≤ (140737488355328 : Nat) ∧ (x4 ++ y4_1).length + List.length (x1.getD x3.toNat ((0 : Int), (0 : Int), (0 : Int), [], [], [])).snd.snd.snd.snd.snd ≤ (140737488355328 : Nat)) then
             c (x0, x1, x2, Go.IntKind.i64.wrap (x3 + (1 : Int)), x4 ++ y4_1 ++ (x1.getD x3.toNat ((0 : Int), (0 : Int), (0 : Int), [], [], [])).snd.snd.snd.snd.snd, x5)
             else none
           else none))
      else none
     else
      b (x4, x5)) (fun v => R (T17_0 v)) (E17_0 K) := by
  kernel_rfl
theorem S17_0_ok (fuel : Nat) (R : Ev.St → Option Ans) (K : Ev.Ex → Ev.St → Option Ans) (x0 : Int) (x1 : (List (Int × (Int × (Int × ((List Int) × ((List Bool) × (List Int)))))))) (x2 : Int) (x3 : Int) (x4 : (List Int)) (x5 : (List Int)) : evalCode tab (G17 fuel) (J17_0 fuel) kp17 fuel (bodyOf 0 Try.f17) (T17_0 (x0, x1, x2, x3, x4, x5)) (lc kp17 15 0 R K) = S_file_Write_0 fuel (x0, x1, x2, x3, x4, x5) (fun v => R (T17_0 v)) (E17_0 K) :=
  S17_0_okg fuel (F_slices_ContainsFunc_api_Segment_api_Segment_ac5 fuel) (F_segment_InOrder fuel) (F_file_rightEnd fuel) (F_file_size fuel) (F_segment_Header fuel) R K x0 x1 x2 x3 x4 x5
noncomputable def B17_0 (fuel : Nat) : Ev.Blk := fun st K => match canonO (kp17 15) st with
  | some s => (match s with
    | ⟨[(q0, .c (.int .i64 x0)), (q1, .c (.own q2)), (q3, .c (.own q4)), (q5, .c (.sl (.pair (.int .i64) (.pair (.int .i64) (.pair (.int .i64) (.pair (.sl (.int .i64)) (.pair (.sl .bool) (.sl (.int .u8))))))) x1)), (q6, .c (.int .i64 x2)), (q7, .c (.int .i64 x3))], [(q8, .vec q9 (.int .u8) x4 true), (q10, .vec q11 (.int .u8) x5 true)], q12, q13⟩ => bif Nat.beq q0 0 && Nat.beq q1 8 && Nat.beq q2 0 && Nat.beq q3 9 && Nat.beq q4 1 && Nat.beq q5 55 && Nat.beq q6 56 && Nat.beq q7 57 && Nat.beq q8 0 && Nat.beq q9 5 && Nat.beq q10 1 && Nat.beq q11 5 && Nat.beq q12 2 && Nat.beq q13 0 then iter (S_file_Write_0 fuel) fuel (x0, x1, x2, x3, x4, x5) (E17_0 K) else none
    | _ => none)
  | none => none
theorem B17_0_ok (fuel : Nat) (st : Ev.St) (K : Ev.Ex → Ev.St → Option Ans) (r : Ans) (h : B17_0 fuel st K = some r) : evalCode tab (G17 fuel) (J17_0 fuel) kp17 fuel (.block 0 (.loop (bodyOf 0 Try.f17))) st K = some r := by
  unfold B17_0 at h
  split at h
  · rename_i s hs
    split at h
    · skip
      obtain ⟨hb, h⟩ := cond_some' h
      simp only [Bool.and_eq_true, Nat.beq_eq, decide_eq_true_eq] at hb
      obtain ⟨⟨⟨⟨⟨⟨⟨⟨⟨⟨⟨⟨⟨rfl, rfl⟩, rfl⟩, rfl⟩, rfl⟩, rfl⟩, rfl⟩, rfl⟩, rfl⟩, rfl⟩, rfl⟩, rfl⟩, rfl⟩, rfl⟩ := hb
      exact blk_loop (S := T17_0) (ks := E17_0) (step := S_file_Write_0 fuel) (v := (_, _, _, _, _, _)) (by kernel_rfl) (by kernel_rfl) (fun R K v => by obtain ⟨x0, x1, x2, x3, x4, x5⟩ := v; exact S17_0_ok fuel R K x0 x1 x2 x3 x4 x5) hs h
    · cases h
  · cases h
noncomputable def J17 (fuel : Nat) (i : Nat) : Option Ev.Blk := Ev.look i [(100000, B17_0 fuel)]
noncomputable def F_file_Write (fuel : Nat) (x0 : Int) (x1 : (List (Int × Int × Int × (List Int) × (List Bool) × (List Int)))) (k0 : (Int × (List Int)) → Option Ans) : Option Ans :=
  bif Decidable.decide (x0 < (0 : Int)) then
   k0 ((2 : Int), [])
  else
   bif Decidable.decide (x0 > (2 : Int)) then
    k0 ((2 : Int), [])
   else
    (F_slices_ContainsFunc_api_Segment_api_Segment_ac5 fuel (x1)
      (fun y4 =>
        bif y4 then
         k0 ((2 : Int), [])
        else
         (F_segment_InOrder fuel (x1)
           (fun (y9_0, y9_1) =>
             bif y9_1 != (0 : Int) then
              k0 (y9_1, [])
             else
              (F_file_rightEnd fuel (x0) (x1)
                (fun y14 =>
                  bif !y14 then
                   k0 ((60 : Int), [])
                  else
                   bif x0 != (2 : Int) then
                    (F_file_size fuel (x1)
                      (fun y20 =>
                        bif Decidable.decide (Go.IntKind.i64.wrap ((↑([(73 : Int), (78 : Int), (67 : Int), (49 : Int)] ++ [Go.IntKind.u8.wrap x0]).length : Int) + y20) > (40000 : Int)) then
                         k0 ((4 : Int), [])
                        else
                         bif Decidable.decide ((↑x1.length : Int) > (100 : Int)) then
                          k0 ((4 : Int), [])
                         else
                          (L_file_Write_0 fuel (x0, x1, (↑x1.length : Int), (0 : Int), [(73 : Int), (78 : Int), (67 : Int), (49 : Int)] ++ [Go.IntKind.u8.wrap x0], [])
                            (fun (b0_0, b0_1) =>
                              bif Decidable.decide ((b0_0.length + b0_1.length) * (1 : Nat) ≤ (140737488355328 : Nat) ∧ b0_0.length + b0_1.length ≤ (140737488355328 : Nat)) then
                              k0 ((0 : Int), b0_0 ++ b0_1)
                              else none))))
                   else
                    (F_file_size fuel (x1)
                      (fun y20 =>
                        bif Decidable.decide (Go.IntKind.i64.wrap ((↑(0 : Nat) : Int) + y20) > (40000 : Int)) then
                         k0 ((4 : Int), [])
                        else
                         bif Decidable.decide ((↑x1.length : Int) > (100 : Int)) then
                          k0 ((4 : Int), [])
                         else
                          (L_file_Write_0 fuel (x0, x1, (↑x1.length : Int), (0 : Int), [], [])
                            (fun (b0_0, b0_1) =>
                              bif Decidable.decide ((b0_0.length + b0_1.length) * (1 : Nat) ≤ (140737488355328 : Nat) ∧ b0_0.length + b0_1.length ≤ (140737488355328 : Nat)) then
                              k0 ((0 : Int), b0_0 ++ b0_1)
                              else none))))))))))
abbrev YF17 : Type := (Int) → ((List (Int × Int × Int × (List Int) × (List Bool) × (List Int)))) → ((Int × (List Int)) → Option Ans) → Option Ans
theorem F17_eqg (fuel : Nat) (f57_ac5 : YF57_ac5) (f60 : YF60) (f61 : YF61) (f62 : YF62) (f63 : YF63) (x0 : Int) (x1 : (List (Int × Int × Int × (List Int) × (List Bool) × (List Int)))) (k : Ev.Cont) : evalFn tab (Gg17 f57_ac5 f60 f61 f62 f63) (J17 fuel) kp17 fuel Try.f17 [.c (.int .i64 x0), .c (.sl (.pair (.int .i64) (.pair (.int .i64) (.pair (.int .i64) (.pair (.sl (.int .i64)) (.pair (.sl .bool) (.sl (.int .u8))))))) x1)] [] k = (fun  (k0 : (Int × (List Int)) → Option Ans) =>
  bif Decidable.decide (x0 < (0 : Int)) then
   k0 ((2 : Int), [])
  else
   bif Decidable.decide (x0 > (2 : Int)) then
    k0 ((2 : Int), [])
   else
    (f57_ac5 (x1)
      (fun y4 =>
        bif y4 then
         k0 ((2 : Int), [])
        else
         (f60 (x1)
           (fun (y9_0, y9_1) =>
             bif y9_1 != (0 : Int) then
              k0 (y9_1, [])
             else
              (f61 (x0) (x1)
                (fun y14 =>
                  bif !y14 then
                   k0 ((60 : Int), [])
                  else
                   bif x0 != (2 : Int) then
                    (f62 (x1)
                      (fun y20 =>
                        bif Decidable.decide (Go.IntKind.i64.wrap ((↑([(73 : Int), (78 : Int), (67 : Int), (49 : Int)] ++ [Go.IntKind.u8.wrap x0]).length : Int) + y20) > (40000 : Int)) then
                         k0 ((4 : Int), [])
                        else
                         bif Decidable.decide ((↑x1.length : Int) > (100 : Int)) then
                          k0 ((4 : Int), [])
                         else
                          (L_file_Write_0 fuel (x0, x1, (↑x1.length : Int), (0 : Int), [(73 : Int), (78 : Int), (67 : Int), (49 : Int)] ++ [Go.IntKind.u8.wrap x0], [])
                            (fun (b0_0, b0_1) =>
                              bif Decidable.decide ((b0_0.length + b0_1.length) * (1 : Nat) ≤ (140737488355328 : Nat) ∧ b0_0.length + b0_1.length ≤ (140737488355328 : Nat)) then
                              k0 ((0 : Int), b0_0 ++ b0_1)
                              else none))))
                   else
                    (f62 (x1)
                      (fun y20 =>
                        bif Decidable.decide (Go.IntKind.i64.wrap ((↑(0 : Nat) : Int) + y20) > (40000 : Int)) then
                         k0 ((4 : Int), [])
                        else
                         bif Decidable.decide ((↑x1.length : Int) > (100 : Int)) then
                          k0 ((4 : Int), [])
                         else
                          (L_file_Write_0 fuel (x0, x1, (↑x1.length : Int), (0 : Int), [], [])
                            (fun (b0_0, b0_1) =>
                              bif Decidable.decide ((b0_0.length + b0_1.length) * (1 : Nat) ≤ (140737488355328 : Nat) ∧ b0_0.length + b0_1.length ≤ (140737488355328 : Nat)) then
                              k0 ((0 : Int), b0_0 ++ b0_1)
                              else none))))))))))) (fun r => match r with | (r0, r1) => k (.tup [(false, [.own 0]), (false, [.int .i64 r0])], [.vec 5 (.int .u8) r1 true])) := by
  kernel_rfl
theorem F17_eq (fuel : Nat) (x0 : Int) (x1 : (List (Int × Int × Int × (List Int) × (List Bool) × (List Int)))) (k : Ev.Cont) : evalFn tab (G17 fuel) (J17 fuel) kp17 fuel Try.f17 [.c (.int .i64 x0), .c (.sl (.pair (.int .i64) (.pair (.int .i64) (.pair (.int .i64) (.pair (.sl (.int .i64)) (.pair (.sl .bool) (.sl (.int .u8))))))) x1)] [] k = F_file_Write fuel x0 x1 (fun r => match r with | (r0, r1) => k (.tup [(false, [.own 0]), (false, [.int .i64 r0])], [.vec 5 (.int .u8) r1 true])) :=
  F17_eqg fuel (F_slices_ContainsFunc_api_Segment_api_Segment_ac5 fuel) (F_segment_InOrder fuel) (F_file_rightEnd fuel) (F_file_size fuel) (F_segment_Header fuel) x0 x1 k
theorem hG17 (fuel : Nat) : GOK Try.prog (G17 fuel) :=
  gok_cons ⟨ok57_ac5 fuel, enters_of Try.func57 (by kernel_rfl) rfl⟩ <|
  gok_cons ⟨ok60 fuel, enters_of Try.func60 (by kernel_rfl) rfl⟩ <|
  gok_cons ⟨ok61 fuel, enters_of Try.func61 (by kernel_rfl) rfl⟩ <|
  gok_cons ⟨ok62 fuel, enters_of Try.func62 (by kernel_rfl) rfl⟩ <|
  gok_cons ⟨ok63 fuel, enters_of Try.func63 (by kernel_rfl) rfl⟩ <|
  gok_nil
theorem B17_0_blk (fuel : Nat) : BlkOK Try.prog Try.f17.ntmps (.block 0 (.loop (bodyOf 0 Try.f17))) (B17_0 fuel) :=
  blk_of (blk_of_code tab_ok (hG17 fuel) mixed (J := J17_0 fuel) (kp := kp17) (fuel := fuel) (by kernel_rfl) (fun q hq => by
    rw [(by kernel_rfl : obl (J17_0 fuel) (.block 0 (.loop (bodyOf 0 Try.f17))) = [])] at hq
    cases hq)) (B17_0_ok fuel)
theorem fok17 (fuel : Nat) : FnOK Try.prog 17 (evalFn tab (G17 fuel) (J17 fuel) kp17 fuel Try.f17) :=
  fn_ok tab_ok (hG17 fuel) mixed Try.func17 (c := (Try.f17.body).getD .skip) rfl (fun q hq => by
    rw [(by kernel_rfl : obl (J17 fuel) ((Try.f17.body).getD .skip) = [(.block 0 (.loop (bodyOf 0 Try.f17)), B17_0 fuel)])] at hq
    simp only [List.mem_cons, List.not_mem_nil, or_false] at hq
    subst hq
    · exact B17_0_blk fuel)
noncomputable def mt17 : List Ev.SV → List Ev.Ob → Bool := fun args objs => match args, objs with
  | [.c (.int .i64 _), .c (.sl (.pair (.int .i64) (.pair (.int .i64) (.pair (.int .i64) (.pair (.sl (.int .i64)) (.pair (.sl .bool) (.sl (.int .u8))))))) _)], [] => true
  | _, _ => false
noncomputable def spg17 (F : YF17) : Ev.Spec := fun args objs k => match args, objs with
  | [.c (.int .i64 x0), .c (.sl (.pair (.int .i64) (.pair (.int .i64) (.pair (.int .i64) (.pair (.sl (.int .i64)) (.pair (.sl .bool) (.sl (.int .u8))))))) x1)], [] => bif true then F x0 x1 (fun r => match r with | (r0, r1) => k (.tup [(false, [.own 0]), (false, [.int .i64 r0])], [.vec 5 (.int .u8) r1 true])) else none
  | _, _ => none
noncomputable def spec17 (fuel : Nat) : Ev.Spec := spg17 (F_file_Write fuel)
theorem ok17 (fuel : Nat) : FnOK Try.prog 17 (spec17 fuel) := by
  intro args objs kk r h
  unfold spec17 spg17 at h
  split at h
  · skip
    obtain ⟨hb, h⟩ := cond_some' h
    simp only [Bool.and_eq_true, Nat.beq_eq, decide_eq_true_eq] at hb
    clear hb
    exact fok17 fuel _ _ kk r ((F17_eq fuel _ _ kk).trans h)
  · cases h
end Go.Proofs.Ytihfgpfofmjbaaa

set_option linter.unusedVariables false
set_option linter.unusedSimpArgs false
set_option maxRecDepth 100000
set_option maxHeartbeats 2000000
namespace Go.Proofs.Ytihfgpfofmjbaaa
open Go Ev
def kp16 (i : Nat) : Option (List Nat) := Ev.look i []
noncomputable def Gg16 (f17 : YF17) (f : Nat) : Option Ev.Spec := Ev.look f [(17, spg17 f17)]
noncomputable def G16 (fuel : Nat) : Nat → Option Ev.Spec := Gg16 (F_file_Write fuel)
noncomputable def J16 (fuel : Nat) (i : Nat) : Option Ev.Blk := Ev.look i []
noncomputable def F_law14_Awake (fuel : Nat)  (k0 : (Bool) → Option Ans) : Option Ans :=
  (F_file_Write fuel ((0 : Int)) ([((0 : Int), (9 : Int), (0 : Int), [], [Bool.false], [])])
    (fun (y2_0, y2_1) =>
      bif y2_0 == (0 : Int) then
       k0 ((Go.strOfNums y2_1).toList == (ByteArray.mk #[(73 : UInt8), (78 : UInt8), (67 : UInt8), (49 : UInt8), (0 : UInt8), (0 : UInt8), (9 : UInt8), (0 : UInt8), (0 : UInt8), (0 : UInt8)]).toList)
      else
       k0 Bool.false))
abbrev YF16 : Type := ((Bool) → Option Ans) → Option Ans
theorem F16_eqg (fuel : Nat) (f17 : YF17)  (k : Ev.Cont) : evalFn tab (Gg16 f17) (J16 fuel) kp16 fuel Try.f16 [] [] k = (fun  (k0 : (Bool) → Option Ans) =>
  (f17 ((0 : Int)) ([((0 : Int), (9 : Int), (0 : Int), [], [Bool.false], [])])
    (fun (y2_0, y2_1) =>
      bif y2_0 == (0 : Int) then
       k0 ((Go.strOfNums y2_1).toList == (ByteArray.mk #[(73 : UInt8), (78 : UInt8), (67 : UInt8), (49 : UInt8), (0 : UInt8), (0 : UInt8), (9 : UInt8), (0 : UInt8), (0 : UInt8), (0 : UInt8)]).toList)
      else
       k0 Bool.false))) (fun r => match r with | r0 => k (.c (.bool r0), [])) := by
  kernel_rfl
theorem F16_eq (fuel : Nat)  (k : Ev.Cont) : evalFn tab (G16 fuel) (J16 fuel) kp16 fuel Try.f16 [] [] k = F_law14_Awake fuel  (fun r => match r with | r0 => k (.c (.bool r0), [])) :=
  F16_eqg fuel (F_file_Write fuel)  k
theorem hG16 (fuel : Nat) : GOK Try.prog (G16 fuel) :=
  gok_cons ⟨ok17 fuel, enters_of Try.func17 (by kernel_rfl) rfl⟩ <|
  gok_nil
theorem fok16 (fuel : Nat) : FnOK Try.prog 16 (evalFn tab (G16 fuel) (J16 fuel) kp16 fuel Try.f16) :=
  fn_ok tab_ok (hG16 fuel) mixed Try.func16 (c := (Try.f16.body).getD .skip) rfl (fun q hq => by
    rw [(by kernel_rfl : obl (J16 fuel) ((Try.f16.body).getD .skip) = [])] at hq
    cases hq)
noncomputable def mt16 : List Ev.SV → List Ev.Ob → Bool := fun args objs => match args, objs with
  | [], [] => true
  | _, _ => false
noncomputable def spg16 (F : YF16) : Ev.Spec := fun args objs k => match args, objs with
  | [], [] => bif true then F  (fun r => match r with | r0 => k (.c (.bool r0), [])) else none
  | _, _ => none
noncomputable def spec16 (fuel : Nat) : Ev.Spec := spg16 (F_law14_Awake fuel)
theorem ok16 (fuel : Nat) : FnOK Try.prog 16 (spec16 fuel) := by
  intro args objs kk r h
  unfold spec16 spg16 at h
  split at h
  · skip
    obtain ⟨hb, h⟩ := cond_some' h
    simp only [Bool.and_eq_true, Nat.beq_eq, decide_eq_true_eq] at hb
    clear hb
    exact fok16 fuel _ _ kk r ((F16_eq fuel kk).trans h)
  · cases h
end Go.Proofs.Ytihfgpfofmjbaaa

set_option linter.unusedVariables false
set_option linter.unusedSimpArgs false
set_option maxRecDepth 100000
set_option maxHeartbeats 2000000
namespace Go.Proofs.Ytihfgpfofmjbaaa
open Go Ev
def kp15 (i : Nat) : Option (List Nat) := Ev.look i [(3, [0, 3, 6, 7, 8]), (100000, [0, 3]), (400000, [2])]
noncomputable def Gg15 (f : Nat) : Option Ev.Spec := Ev.look f []
noncomputable def G15 (fuel : Nat) : Nat → Option Ev.Spec := Gg15
noncomputable def S_law14_large_0 (fuel : Nat) (v : (List (Int × (Int × (Int × ((List Int) × ((List Bool) × (List Int))))))) × Int × (List (Int × (Int × (Int × ((List Int) × ((List Bool) × (List Int))))))) × Int × Int) (c : ((List (Int × (Int × (Int × ((List Int) × ((List Bool) × (List Int))))))) × Int × (List (Int × (Int × (Int × ((List Int) × ((List Bool) × (List Int))))))) × Int × Int) → Option Ans) (B : ((List (Int × (Int × (Int × ((List Int) × ((List Bool) × (List Int))))))) × Int → Option Ans)) : Option Ans := match v, B with
  | (x0, x1, x2, x3, x4), b =>
   bif Decidable.decide (x4 < x3) then
      bif Decidable.decide ((0 : Int) ≤ x4 ∧ x4 < (↑x2.length : Int)) then
      c (x0, Go.IntKind.i64.wrap (x1 + Go.IntKind.i64.wrap ((↑(List.length (x2.getD x4.toNat ((0 : Int), (0 : Int), (0 : Int), [], [], [])).snd.snd.snd.snd.snd) : Int) + (↑(List.length (x2.getD x4.toNat ((0 : Int), (0 : Int), (0 : Int), [], [], [])).snd.snd.snd.fst) : Int))), x2, x3, Go.IntKind.i64.wrap (x4 + (1 : Int)))
      else none
     else
      b (x0, x1)
noncomputable def L_law14_large_0 (fuel : Nat) (v : (List (Int × (Int × (Int × ((List Int) × ((List Bool) × (List Int))))))) × Int × (List (Int × (Int × (Int × ((List Int) × ((List Bool) × (List Int))))))) × Int × Int) (b : ((List (Int × (Int × (Int × ((List Int) × ((List Bool) × (List Int))))))) × Int → Option Ans)) : Option Ans := iter (S_law14_large_0 fuel) fuel v b
noncomputable def J15_0 (fuel : Nat) (i : Nat) : Option Ev.Blk := Ev.look i []
noncomputable def T15_0 (v : (List (Int × (Int × (Int × ((List Int) × ((List Bool) × (List Int))))))) × Int × (List (Int × (Int × (Int × ((List Int) × ((List Bool) × (List Int))))))) × Int × Int) : Ev.St := match v with | (x0, x1, x2, x3, x4) => ⟨[(0, .c (.sl (.pair (.int .i64) (.pair (.int .i64) (.pair (.int .i64) (.pair (.sl (.int .i64)) (.pair (.sl .bool) (.sl (.int .u8))))))) x0)), (3, .c (.int .i64 x1)), (6, .c (.sl (.pair (.int .i64) (.pair (.int .i64) (.pair (.int .i64) (.pair (.sl (.int .i64)) (.pair (.sl .bool) (.sl (.int .u8))))))) x2)), (7, .c (.int .i64 x3)), (8, .c (.int .i64 x4))], [], 0, 0⟩
noncomputable def E15_0 (K : Ev.Ex → Ev.St → Option Ans) : ((List (Int × (Int × (Int × ((List Int) × ((List Bool) × (List Int))))))) × Int → Option Ans) := (fun v => match v with | (x0, x1) => K .normal ⟨[(0, .c (.sl (.pair (.int .i64) (.pair (.int .i64) (.pair (.int .i64) (.pair (.sl (.int .i64)) (.pair (.sl .bool) (.sl (.int .u8))))))) x0)), (3, .c (.int .i64 x1))], [], 0, 0⟩)
theorem S15_0_ok (fuel : Nat) (R : Ev.St → Option Ans) (K : Ev.Ex → Ev.St → Option Ans) (x0 : (List (Int × (Int × (Int × ((List Int) × ((List Bool) × (List Int)))))))) (x1 : Int) (x2 : (List (Int × (Int × (Int × ((List Int) × ((List Bool) × (List Int)))))))) (x3 : Int) (x4 : Int) : evalCode tab (G15 fuel) (J15_0 fuel) kp15 fuel (bodyOf 0 Try.f15) (T15_0 (x0, x1, x2, x3, x4)) (lc kp15 3 0 R K) = S_law14_large_0 fuel (x0, x1, x2, x3, x4) (fun v => R (T15_0 v)) (E15_0 K) := by
  kernel_rfl
noncomputable def B15_0 (fuel : Nat) : Ev.Blk := fun st K => match canonO (kp15 3) st with
  | some s => (match s with
    | ⟨[(q0, .c (.sl (.pair (.int .i64) (.pair (.int .i64) (.pair (.int .i64) (.pair (.sl (.int .i64)) (.pair (.sl .bool) (.sl (.int .u8))))))) x0)), (q1, .c (.int .i64 x1)), (q2, .c (.sl (.pair (.int .i64) (.pair (.int .i64) (.pair (.int .i64) (.pair (.sl (.int .i64)) (.pair (.sl .bool) (.sl (.int .u8))))))) x2)), (q3, .c (.int .i64 x3)), (q4, .c (.int .i64 x4))], [], q5, q6⟩ => bif Nat.beq q0 0 && Nat.beq q1 3 && Nat.beq q2 6 && Nat.beq q3 7 && Nat.beq q4 8 && Nat.beq q5 0 && Nat.beq q6 0 then iter (S_law14_large_0 fuel) fuel (x0, x1, x2, x3, x4) (E15_0 K) else none
    | _ => none)
  | none => none
theorem B15_0_ok (fuel : Nat) (st : Ev.St) (K : Ev.Ex → Ev.St → Option Ans) (r : Ans) (h : B15_0 fuel st K = some r) : evalCode tab (G15 fuel) (J15_0 fuel) kp15 fuel (.block 0 (.loop (bodyOf 0 Try.f15))) st K = some r := by
  unfold B15_0 at h
  split at h
  · rename_i s hs
    split at h
    · skip
      obtain ⟨hb, h⟩ := cond_some' h
      simp only [Bool.and_eq_true, Nat.beq_eq, decide_eq_true_eq] at hb
      obtain ⟨⟨⟨⟨⟨⟨rfl, rfl⟩, rfl⟩, rfl⟩, rfl⟩, rfl⟩, rfl⟩ := hb
      exact blk_loop (S := T15_0) (ks := E15_0) (step := S_law14_large_0 fuel) (v := (_, _, _, _, _)) (by kernel_rfl) (by kernel_rfl) (fun R K v => by obtain ⟨x0, x1, x2, x3, x4⟩ := v; exact S15_0_ok fuel R K x0 x1 x2 x3 x4) hs h
    · cases h
  · cases h
noncomputable def J15 (fuel : Nat) (i : Nat) : Option Ev.Blk := Ev.look i [(100000, B15_0 fuel)]
noncomputable def F_law14_large (fuel : Nat) (x0 : (List (Int × Int × Int × (List Int) × (List Bool) × (List Int)))) (k0 : (Bool) → Option Ans) : Option Ans :=
  (L_law14_large_0 fuel (x0, (0 : Int), x0, (↑x0.length : Int), (0 : Int))
    (fun (b0_0, b0_1) =>
      bif Decidable.decide ((↑b0_0.length : Int) > (300 : Int)) then
       k0 Bool.true
      else
       k0 (Decidable.decide (b0_1 > (100000 : Int)))))
abbrev YF15 : Type := ((List (Int × Int × Int × (List Int) × (List Bool) × (List Int)))) → ((Bool) → Option Ans) → Option Ans
theorem F15_eq (fuel : Nat) (x0 : (List (Int × Int × Int × (List Int) × (List Bool) × (List Int)))) (k : Ev.Cont) : evalFn tab (G15 fuel) (J15 fuel) kp15 fuel Try.f15 [.c (.sl (.pair (.int .i64) (.pair (.int .i64) (.pair (.int .i64) (.pair (.sl (.int .i64)) (.pair (.sl .bool) (.sl (.int .u8))))))) x0)] [] k = F_law14_large fuel x0 (fun r => match r with | r0 => k (.c (.bool r0), [])) := by
  kernel_rfl
theorem hG15 (fuel : Nat) : GOK Try.prog (G15 fuel) :=
  gok_nil
theorem B15_0_blk (fuel : Nat) : BlkOK Try.prog Try.f15.ntmps (.block 0 (.loop (bodyOf 0 Try.f15))) (B15_0 fuel) :=
  blk_of (blk_of_code tab_ok (hG15 fuel) mixed (J := J15_0 fuel) (kp := kp15) (fuel := fuel) (by kernel_rfl) (fun q hq => by
    rw [(by kernel_rfl : obl (J15_0 fuel) (.block 0 (.loop (bodyOf 0 Try.f15))) = [])] at hq
    cases hq)) (B15_0_ok fuel)
theorem fok15 (fuel : Nat) : FnOK Try.prog 15 (evalFn tab (G15 fuel) (J15 fuel) kp15 fuel Try.f15) :=
  fn_ok tab_ok (hG15 fuel) mixed Try.func15 (c := (Try.f15.body).getD .skip) rfl (fun q hq => by
    rw [(by kernel_rfl : obl (J15 fuel) ((Try.f15.body).getD .skip) = [(.block 0 (.loop (bodyOf 0 Try.f15)), B15_0 fuel)])] at hq
    simp only [List.mem_cons, List.not_mem_nil, or_false] at hq
    subst hq
    · exact B15_0_blk fuel)
noncomputable def mt15 : List Ev.SV → List Ev.Ob → Bool := fun args objs => match args, objs with
  | [.c (.sl (.pair (.int .i64) (.pair (.int .i64) (.pair (.int .i64) (.pair (.sl (.int .i64)) (.pair (.sl .bool) (.sl (.int .u8))))))) _)], [] => true
  | _, _ => false
noncomputable def spg15 (F : YF15) : Ev.Spec := fun args objs k => match args, objs with
  | [.c (.sl (.pair (.int .i64) (.pair (.int .i64) (.pair (.int .i64) (.pair (.sl (.int .i64)) (.pair (.sl .bool) (.sl (.int .u8))))))) x0)], [] => bif true then F x0 (fun r => match r with | r0 => k (.c (.bool r0), [])) else none
  | _, _ => none
noncomputable def spec15 (fuel : Nat) : Ev.Spec := spg15 (F_law14_large fuel)
theorem ok15 (fuel : Nat) : FnOK Try.prog 15 (spec15 fuel) := by
  intro args objs kk r h
  unfold spec15 spg15 at h
  split at h
  · skip
    obtain ⟨hb, h⟩ := cond_some' h
    simp only [Bool.and_eq_true, Nat.beq_eq, decide_eq_true_eq] at hb
    clear hb
    exact fok15 fuel _ _ kk r ((F15_eq fuel _ kk).trans h)
  · cases h
end Go.Proofs.Ytihfgpfofmjbaaa

set_option linter.unusedVariables false
set_option linter.unusedSimpArgs false
set_option maxRecDepth 100000
set_option maxHeartbeats 2000000
namespace Go.Proofs.Ytihfgpfofmjbaaa
open Go Ev
def kp19 (i : Nat) : Option (List Nat) := Ev.look i [(4, [0, 1, 12, 13]), (100000, []), (200006, [0, 1]), (400000, [4])]
noncomputable def Gg19 (f : Nat) : Option Ev.Spec := Ev.look f []
noncomputable def G19 (fuel : Nat) : Nat → Option Ev.Spec := Gg19
noncomputable def S_ref02_SameBytes_0 (fuel : Nat) (v : (List Int) × (List Int) × Int × Int) (c : ((List Int) × (List Int) × Int × Int) → Option Ans) (B : (Bool → Option Ans) × (Unit → Option Ans)) : Option Ans := match v, B with
  | (x0, x1, x2, x3), (ret, b) =>
   bif Decidable.decide (x3 < x2) then
      bif Decidable.decide ((0 : Int) ≤ x3 ∧ x3 < (↑x0.length : Int)) then
      bif Decidable.decide ((0 : Int) ≤ x3 ∧ x3 < (↑x1.length : Int)) then
       bif x0.getD x3.toNat (0 : Int) != x1.getD x3.toNat (0 : Int) then
         ret Bool.false
        else
         c (x0, x1, x2, Go.IntKind.i64.wrap (x3 + (1 : Int)))
       else none
      else none
     else
      b ()
noncomputable def L_ref02_SameBytes_0 (fuel : Nat) (v : (List Int) × (List Int) × Int × Int) (ret : (Bool → Option Ans)) (b : (Unit → Option Ans)) : Option Ans := iter (S_ref02_SameBytes_0 fuel) fuel v (ret, b)
noncomputable def J19_0 (fuel : Nat) (i : Nat) : Option Ev.Blk := Ev.look i []
noncomputable def T19_0 (v : (List Int) × (List Int) × Int × Int) : Ev.St := match v with | (x0, x1, x2, x3) => ⟨[(0, .c (.sl (.int .u8) x0)), (1, .c (.sl (.int .u8) x1)), (12, .c (.int .i64 x2)), (13, .c (.int .i64 x3))], [], 0, 0⟩
noncomputable def E19_0 (K : Ev.Ex → Ev.St → Option Ans) : (Bool → Option Ans) × (Unit → Option Ans) := ((fun v => match v with | x0 => K .ret ⟨[(4, .c (.bool x0))], [], 0, 0⟩), (fun v => match v with | () => K .normal ⟨[], [], 0, 0⟩))
theorem S19_0_ok (fuel : Nat) (R : Ev.St → Option Ans) (K : Ev.Ex → Ev.St → Option Ans) (x0 : (List Int)) (x1 : (List Int)) (x2 : Int) (x3 : Int) : evalCode tab (G19 fuel) (J19_0 fuel) kp19 fuel (bodyOf 0 Try.f19) (T19_0 (x0, x1, x2, x3)) (lc kp19 4 0 R K) = S_ref02_SameBytes_0 fuel (x0, x1, x2, x3) (fun v => R (T19_0 v)) (E19_0 K) := by
  kernel_rfl
noncomputable def B19_0 (fuel : Nat) : Ev.Blk := fun st K => match canonO (kp19 4) st with
  | some s => (match s with
    | ⟨[(q0, .c (.sl (.int .u8) x0)), (q1, .c (.sl (.int .u8) x1)), (q2, .c (.int .i64 x2)), (q3, .c (.int .i64 x3))], [], q4, q5⟩ => bif Nat.beq q0 0 && Nat.beq q1 1 && Nat.beq q2 12 && Nat.beq q3 13 && Nat.beq q4 0 && Nat.beq q5 0 then iter (S_ref02_SameBytes_0 fuel) fuel (x0, x1, x2, x3) (E19_0 K) else none
    | _ => none)
  | none => none
theorem B19_0_ok (fuel : Nat) (st : Ev.St) (K : Ev.Ex → Ev.St → Option Ans) (r : Ans) (h : B19_0 fuel st K = some r) : evalCode tab (G19 fuel) (J19_0 fuel) kp19 fuel (.block 0 (.loop (bodyOf 0 Try.f19))) st K = some r := by
  unfold B19_0 at h
  split at h
  · rename_i s hs
    split at h
    · skip
      obtain ⟨hb, h⟩ := cond_some' h
      simp only [Bool.and_eq_true, Nat.beq_eq, decide_eq_true_eq] at hb
      obtain ⟨⟨⟨⟨⟨rfl, rfl⟩, rfl⟩, rfl⟩, rfl⟩, rfl⟩ := hb
      exact blk_loop (S := T19_0) (ks := E19_0) (step := S_ref02_SameBytes_0 fuel) (v := (_, _, _, _)) (by kernel_rfl) (by kernel_rfl) (fun R K v => by obtain ⟨x0, x1, x2, x3⟩ := v; exact S19_0_ok fuel R K x0 x1 x2 x3) hs h
    · cases h
  · cases h
noncomputable def J19 (fuel : Nat) (i : Nat) : Option Ev.Blk := Ev.look i [(100000, B19_0 fuel)]
noncomputable def F_ref02_SameBytes (fuel : Nat) (x0 : (List Int)) (x1 : (List Int)) (k0 : (Bool) → Option Ans) : Option Ans :=
  bif (↑x0.length : Int) != (↑x1.length : Int) then
   k0 Bool.false
  else
   (L_ref02_SameBytes_0 fuel (x0, x1, (↑x0.length : Int), (0 : Int))
     (fun ret0_0 =>
       k0 ret0_0)
     (fun () =>
       k0 Bool.true))
abbrev YF19 : Type := ((List Int)) → ((List Int)) → ((Bool) → Option Ans) → Option Ans
theorem F19_eq (fuel : Nat) (x0 : (List Int)) (x1 : (List Int)) (k : Ev.Cont) : evalFn tab (G19 fuel) (J19 fuel) kp19 fuel Try.f19 [.c (.sl (.int .u8) x0), .c (.sl (.int .u8) x1)] [] k = F_ref02_SameBytes fuel x0 x1 (fun r => match r with | r0 => k (.c (.bool r0), [])) := by
  kernel_rfl
theorem hG19 (fuel : Nat) : GOK Try.prog (G19 fuel) :=
  gok_nil
theorem B19_0_blk (fuel : Nat) : BlkOK Try.prog Try.f19.ntmps (.block 0 (.loop (bodyOf 0 Try.f19))) (B19_0 fuel) :=
  blk_of (blk_of_code tab_ok (hG19 fuel) mixed (J := J19_0 fuel) (kp := kp19) (fuel := fuel) (by kernel_rfl) (fun q hq => by
    rw [(by kernel_rfl : obl (J19_0 fuel) (.block 0 (.loop (bodyOf 0 Try.f19))) = [])] at hq
    cases hq)) (B19_0_ok fuel)
theorem fok19 (fuel : Nat) : FnOK Try.prog 19 (evalFn tab (G19 fuel) (J19 fuel) kp19 fuel Try.f19) :=
  fn_ok tab_ok (hG19 fuel) mixed Try.func19 (c := (Try.f19.body).getD .skip) rfl (fun q hq => by
    rw [(by kernel_rfl : obl (J19 fuel) ((Try.f19.body).getD .skip) = [(.block 0 (.loop (bodyOf 0 Try.f19)), B19_0 fuel)])] at hq
    simp only [List.mem_cons, List.not_mem_nil, or_false] at hq
    subst hq
    · exact B19_0_blk fuel)
noncomputable def mt19 : List Ev.SV → List Ev.Ob → Bool := fun args objs => match args, objs with
  | [.c (.sl (.int .u8) _), .c (.sl (.int .u8) _)], [] => true
  | _, _ => false
noncomputable def spg19 (F : YF19) : Ev.Spec := fun args objs k => match args, objs with
  | [.c (.sl (.int .u8) x0), .c (.sl (.int .u8) x1)], [] => bif true then F x0 x1 (fun r => match r with | r0 => k (.c (.bool r0), [])) else none
  | _, _ => none
noncomputable def spec19 (fuel : Nat) : Ev.Spec := spg19 (F_ref02_SameBytes fuel)
theorem ok19 (fuel : Nat) : FnOK Try.prog 19 (spec19 fuel) := by
  intro args objs kk r h
  unfold spec19 spg19 at h
  split at h
  · skip
    obtain ⟨hb, h⟩ := cond_some' h
    simp only [Bool.and_eq_true, Nat.beq_eq, decide_eq_true_eq] at hb
    clear hb
    exact fok19 fuel _ _ kk r ((F19_eq fuel _ _ kk).trans h)
  · cases h
end Go.Proofs.Ytihfgpfofmjbaaa

set_option linter.unusedVariables false
set_option linter.unusedSimpArgs false
set_option maxRecDepth 100000
set_option maxHeartbeats 2000000
namespace Go.Proofs.Ytihfgpfofmjbaaa
open Go Ev
def kp64 (i : Nat) : Option (List Nat) := Ev.look i [(7, [1, 3, 55, 56, 57]), (100000, []), (400000, [2])]
noncomputable def Gg64 (f : Nat) : Option Ev.Spec := Ev.look f []
noncomputable def G64 (fuel : Nat) : Nat → Option Ev.Spec := Gg64
noncomputable def S_ref12_Valid_0 (fuel : Nat) (v : Int × (List Int) × Int × Int × Int × Int × Int × (List Int) × (List Bool) × (List Int)) (c : (Int × (List Int) × Int × Int × Int × Int × Int × (List Int) × (List Bool) × (List Int)) → Option Ans) (B : (Bool → Option Ans) × (Unit → Option Ans)) : Option Ans := match v, B with
  | (x0, x1, x2, x3, x4, x5, x6, x7, x8, x9), (ret, b) =>
   bif Decidable.decide (x3 < x2) then
      bif Decidable.decide ((0 : Int) ≤ x3 ∧ x3 < (↑x1.length : Int)) then
      bif Decidable.decide (x1.getD x3.toNat (0 : Int) ≤ x0) then
        ret Bool.false
       else
        bif Decidable.decide (x1.getD x3.toNat (0 : Int) ≥ x4) then
         ret Bool.false
        else
         c (x1.getD x3.toNat (0 : Int), x1, x2, Go.IntKind.i64.wrap (x3 + (1 : Int)), x4, x5, x6, x7, x8, x9)
      else none
     else
      b ()
noncomputable def L_ref12_Valid_0 (fuel : Nat) (v : Int × (List Int) × Int × Int × Int × Int × Int × (List Int) × (List Bool) × (List Int)) (ret : (Bool → Option Ans)) (b : (Unit → Option Ans)) : Option Ans := iter (S_ref12_Valid_0 fuel) fuel v (ret, b)
noncomputable def J64_0 (fuel : Nat) (i : Nat) : Option Ev.Blk := Ev.look i []
noncomputable def T64_0 (v : Int × (List Int) × Int × Int × Int × Int × Int × (List Int) × (List Bool) × (List Int)) : Ev.St := match v with | (x0, x1, x2, x3, x4, x5, x6, x7, x8, x9) => ⟨[(1, .c (.ptr 0 0)), (3, .c (.int .i64 x0)), (55, .c (.sl (.int .i64) x1)), (56, .c (.int .i64 x2)), (57, .c (.int .i64 x3))], [(0, .cells 103 [.int .i64 x4, .int .i64 x5, .int .i64 x6, .sl (.int .i64) x7, .sl .bool x8, .sl (.int .u8) x9])], 1, 0⟩
noncomputable def E64_0 (K : Ev.Ex → Ev.St → Option Ans) : (Bool → Option Ans) × (Unit → Option Ans) := ((fun v => match v with | x0 => K .ret ⟨[(2, .c (.bool x0))], [], 0, 0⟩), (fun v => match v with | () => K .normal ⟨[], [], 0, 0⟩))
theorem S64_0_ok (fuel : Nat) (R : Ev.St → Option Ans) (K : Ev.Ex → Ev.St → Option Ans) (x0 : Int) (x1 : (List Int)) (x2 : Int) (x3 : Int) (x4 : Int) (x5 : Int) (x6 : Int) (x7 : (List Int)) (x8 : (List Bool)) (x9 : (List Int)) : evalCode tab (G64 fuel) (J64_0 fuel) kp64 fuel (bodyOf 0 Try.f64) (T64_0 (x0, x1, x2, x3, x4, x5, x6, x7, x8, x9)) (lc kp64 7 0 R K) = S_ref12_Valid_0 fuel (x0, x1, x2, x3, x4, x5, x6, x7, x8, x9) (fun v => R (T64_0 v)) (E64_0 K) := by
  kernel_rfl
noncomputable def B64_0 (fuel : Nat) : Ev.Blk := fun st K => match canonO (kp64 7) st with
  | some s => (match s with
    | ⟨[(q0, .c (.ptr q1 q2)), (q3, .c (.int .i64 x0)), (q4, .c (.sl (.int .i64) x1)), (q5, .c (.int .i64 x2)), (q6, .c (.int .i64 x3))], [(q7, .cells q8 [.int .i64 x4, .int .i64 x5, .int .i64 x6, .sl (.int .i64) x7, .sl .bool x8, .sl (.int .u8) x9])], q9, q10⟩ => bif Nat.beq q0 1 && Nat.beq q1 0 && Nat.beq q2 0 && Nat.beq q3 3 && Nat.beq q4 55 && Nat.beq q5 56 && Nat.beq q6 57 && Nat.beq q7 0 && Nat.beq q8 103 && Nat.beq q9 1 && Nat.beq q10 0 then iter (S_ref12_Valid_0 fuel) fuel (x0, x1, x2, x3, x4, x5, x6, x7, x8, x9) (E64_0 K) else none
    | _ => none)
  | none => none
theorem B64_0_ok (fuel : Nat) (st : Ev.St) (K : Ev.Ex → Ev.St → Option Ans) (r : Ans) (h : B64_0 fuel st K = some r) : evalCode tab (G64 fuel) (J64_0 fuel) kp64 fuel (.block 0 (.loop (bodyOf 0 Try.f64))) st K = some r := by
  unfold B64_0 at h
  split at h
  · rename_i s hs
    split at h
    · skip
      obtain ⟨hb, h⟩ := cond_some' h
      simp only [Bool.and_eq_true, Nat.beq_eq, decide_eq_true_eq] at hb
      obtain ⟨⟨⟨⟨⟨⟨⟨⟨⟨⟨rfl, rfl⟩, rfl⟩, rfl⟩, rfl⟩, rfl⟩, rfl⟩, rfl⟩, rfl⟩, rfl⟩, rfl⟩ := hb
      exact blk_loop (S := T64_0) (ks := E64_0) (step := S_ref12_Valid_0 fuel) (v := (_, _, _, _, _, _, _, _, _, _)) (by kernel_rfl) (by kernel_rfl) (fun R K v => by obtain ⟨x0, x1, x2, x3, x4, x5, x6, x7, x8, x9⟩ := v; exact S64_0_ok fuel R K x0 x1 x2 x3 x4 x5 x6 x7 x8 x9) hs h
    · cases h
  · cases h
noncomputable def J64 (fuel : Nat) (i : Nat) : Option Ev.Blk := Ev.look i [(100000, B64_0 fuel)]
noncomputable def F_ref12_Valid (fuel : Nat) (x0 : Int) (x1 : Int) (x2 : Int) (x3 : (List Int)) (x4 : (List Bool)) (x5 : (List Int)) (k0 : (Bool) → Option Ans) : Option Ans :=
  bif Decidable.decide (x0 < (0 : Int)) then
   k0 Bool.false
  else
   bif Decidable.decide (x0 > (10000 : Int)) then
    k0 Bool.false
   else
    bif Decidable.decide (x1 < (0 : Int)) then
     k0 Bool.false
    else
     bif Decidable.decide (x1 > (15 : Int)) then
      k0 Bool.false
     else
      bif Decidable.decide (x2 < (0 : Int)) then
       k0 Bool.false
      else
       bif Decidable.decide (x2 > (1000 : Int)) then
        k0 Bool.false
       else
        bif Decidable.decide ((↑x3.length : Int) > (20 : Int)) then
         k0 Bool.false
        else
         bif (↑x4.length : Int) != Go.IntKind.i64.wrap ((↑x3.length : Int) + (1 : Int)) then
          k0 Bool.false
         else
          bif Decidable.decide ((↑x5.length : Int) > (20000 : Int)) then
           k0 Bool.false
          else
           (L_ref12_Valid_0 fuel ((-1 : Int), x3, (↑x3.length : Int), (0 : Int), x0, x1, x2, x3, x4, x5)
             (fun ret0_0 =>
               k0 ret0_0)
             (fun () =>
               k0 Bool.true))
abbrev YF64 : Type := (Int) → (Int) → (Int) → ((List Int)) → ((List Bool)) → ((List Int)) → ((Bool) → Option Ans) → Option Ans
theorem F64_eq (fuel : Nat) (x0 : Int) (x1 : Int) (x2 : Int) (x3 : (List Int)) (x4 : (List Bool)) (x5 : (List Int)) (k : Ev.Cont) : evalFn tab (G64 fuel) (J64 fuel) kp64 fuel Try.f64 [.agg [.int .i64 x0, .int .i64 x1, .int .i64 x2, .sl (.int .i64) x3, .sl .bool x4, .sl (.int .u8) x5]] [] k = F_ref12_Valid fuel x0 x1 x2 x3 x4 x5 (fun r => match r with | r0 => k (.c (.bool r0), [])) := by
  kernel_rfl
theorem hG64 (fuel : Nat) : GOK Try.prog (G64 fuel) :=
  gok_nil
theorem B64_0_blk (fuel : Nat) : BlkOK Try.prog Try.f64.ntmps (.block 0 (.loop (bodyOf 0 Try.f64))) (B64_0 fuel) :=
  blk_of (blk_of_code tab_ok (hG64 fuel) mixed (J := J64_0 fuel) (kp := kp64) (fuel := fuel) (by kernel_rfl) (fun q hq => by
    rw [(by kernel_rfl : obl (J64_0 fuel) (.block 0 (.loop (bodyOf 0 Try.f64))) = [])] at hq
    cases hq)) (B64_0_ok fuel)
theorem fok64 (fuel : Nat) : FnOK Try.prog 64 (evalFn tab (G64 fuel) (J64 fuel) kp64 fuel Try.f64) :=
  fn_ok tab_ok (hG64 fuel) mixed Try.func64 (c := (Try.f64.body).getD .skip) rfl (fun q hq => by
    rw [(by kernel_rfl : obl (J64 fuel) ((Try.f64.body).getD .skip) = [(.block 0 (.loop (bodyOf 0 Try.f64)), B64_0 fuel)])] at hq
    simp only [List.mem_cons, List.not_mem_nil, or_false] at hq
    subst hq
    · exact B64_0_blk fuel)
noncomputable def mt64 : List Ev.SV → List Ev.Ob → Bool := fun args objs => match args, objs with
  | [.agg [.int .i64 _, .int .i64 _, .int .i64 _, .sl (.int .i64) _, .sl .bool _, .sl (.int .u8) _]], [] => true
  | _, _ => false
noncomputable def spg64 (F : YF64) : Ev.Spec := fun args objs k => match args, objs with
  | [.agg [.int .i64 x0, .int .i64 x1, .int .i64 x2, .sl (.int .i64) x3, .sl .bool x4, .sl (.int .u8) x5]], [] => bif true then F x0 x1 x2 x3 x4 x5 (fun r => match r with | r0 => k (.c (.bool r0), [])) else none
  | _, _ => none
noncomputable def spec64 (fuel : Nat) : Ev.Spec := spg64 (F_ref12_Valid fuel)
theorem ok64 (fuel : Nat) : FnOK Try.prog 64 (spec64 fuel) := by
  intro args objs kk r h
  unfold spec64 spg64 at h
  split at h
  · skip
    obtain ⟨hb, h⟩ := cond_some' h
    simp only [Bool.and_eq_true, Nat.beq_eq, decide_eq_true_eq] at hb
    clear hb
    exact fok64 fuel _ _ kk r ((F64_eq fuel _ _ _ _ _ _ kk).trans h)
  · cases h
end Go.Proofs.Ytihfgpfofmjbaaa

set_option linter.unusedVariables false
set_option linter.unusedSimpArgs false
set_option maxRecDepth 100000
set_option maxHeartbeats 2000000
namespace Go.Proofs.Ytihfgpfofmjbaaa
open Go Ev
def kp195 (i : Nat) : Option (List Nat) := Ev.look i [(5, [0, 4]), (100000, [4]), (400000, [2, 3])]
noncomputable def Gg195 (f : Nat) : Option Ev.Spec := Ev.look f []
noncomputable def G195 (fuel : Nat) : Nat → Option Ev.Spec := Gg195
noncomputable def S_ref01_Size_0 (fuel : Nat) (v : Int × (List Int)) (c : (Int × (List Int)) → Option Ans) (B : ((List Int) → Option Ans)) : Option Ans := match v, B with
  | (x0, x1), b =>
   bif Decidable.decide (x0 > (0 : Int)) then
      bif Decidable.decide (([Go.IntKind.u8.wrap (Go.IntKind.i64.wrap ((128 : Int) + x0.tmod (128 : Int)))].length + x1.length) * (1 : Nat) ≤ (140737488355328 : Nat) ∧ [Go.IntKind.u8.wrap (Go.IntKind.i64.wrap ((128 : Int) + x0.tmod (128 : Int)))].length + x1.length ≤ (140737488355328 : Nat)) then
      c (Go.IntKind.i64.wrap (x0.tdiv (128 : Int)), [Go.IntKind.u8.wrap (Go.IntKind.i64.wrap ((128 : Int) + x0.tmod (128 : Int)))] ++ x1)
      else none
     else
      b x1
noncomputable def L_ref01_Size_0 (fuel : Nat) (v : Int × (List Int)) (b : ((List Int) → Option Ans)) : Option Ans := iter (S_ref01_Size_0 fuel) fuel v b
noncomputable def J195_0 (fuel : Nat) (i : Nat) : Option Ev.Blk := Ev.look i []
noncomputable def T195_0 (v : Int × (List Int)) : Ev.St := match v with | (x0, x1) => ⟨[(0, .c (.int .i64 x0)), (4, .c (.own 0))], [(0, .vec 5 (.int .u8) x1 true)], 1, 0⟩
noncomputable def E195_0 (K : Ev.Ex → Ev.St → Option Ans) : ((List Int) → Option Ans) := (fun v => match v with | x0 => K .normal ⟨[(4, .c (.own 0))], [(0, .vec 5 (.int .u8) x0 true)], 1, 0⟩)
theorem S195_0_ok (fuel : Nat) (R : Ev.St → Option Ans) (K : Ev.Ex → Ev.St → Option Ans) (x0 : Int) (x1 : (List Int)) : evalCode tab (G195 fuel) (J195_0 fuel) kp195 fuel (bodyOf 0 Try.f195) (T195_0 (x0, x1)) (lc kp195 5 0 R K) = S_ref01_Size_0 fuel (x0, x1) (fun v => R (T195_0 v)) (E195_0 K) := by
  kernel_rfl
noncomputable def B195_0 (fuel : Nat) : Ev.Blk := fun st K => match canonO (kp195 5) st with
  | some s => (match s with
    | ⟨[(q0, .c (.int .i64 x0)), (q1, .c (.own q2))], [(q3, .vec q4 (.int .u8) x1 true)], q5, q6⟩ => bif Nat.beq q0 0 && Nat.beq q1 4 && Nat.beq q2 0 && Nat.beq q3 0 && Nat.beq q4 5 && Nat.beq q5 1 && Nat.beq q6 0 then iter (S_ref01_Size_0 fuel) fuel (x0, x1) (E195_0 K) else none
    | _ => none)
  | none => none
theorem B195_0_ok (fuel : Nat) (st : Ev.St) (K : Ev.Ex → Ev.St → Option Ans) (r : Ans) (h : B195_0 fuel st K = some r) : evalCode tab (G195 fuel) (J195_0 fuel) kp195 fuel (.block 0 (.loop (bodyOf 0 Try.f195))) st K = some r := by
  unfold B195_0 at h
  split at h
  · rename_i s hs
    split at h
    · skip
      obtain ⟨hb, h⟩ := cond_some' h
      simp only [Bool.and_eq_true, Nat.beq_eq, decide_eq_true_eq] at hb
      obtain ⟨⟨⟨⟨⟨⟨rfl, rfl⟩, rfl⟩, rfl⟩, rfl⟩, rfl⟩, rfl⟩ := hb
      exact blk_loop (S := T195_0) (ks := E195_0) (step := S_ref01_Size_0 fuel) (v := (_, _)) (by kernel_rfl) (by kernel_rfl) (fun R K v => by obtain ⟨x0, x1⟩ := v; exact S195_0_ok fuel R K x0 x1) hs h
    · cases h
  · cases h
noncomputable def J195 (fuel : Nat) (i : Nat) : Option Ev.Blk := Ev.look i [(100000, B195_0 fuel)]
noncomputable def F_ref01_Size (fuel : Nat) (x0 : Int) (k0 : (Int × (List Int)) → Option Ans) : Option Ans :=
  bif Decidable.decide (x0 < (0 : Int)) then
   k0 ((2 : Int), [])
  else
   bif Decidable.decide (x0 > (2147483647 : Int)) then
    k0 ((2 : Int), [])
   else
    (L_ref01_Size_0 fuel (Go.IntKind.i64.wrap (x0.tdiv (128 : Int)), [Go.IntKind.u8.wrap (x0.tmod (128 : Int))])
      (fun b0_0 =>
        k0 ((0 : Int), b0_0)))
abbrev YF195 : Type := (Int) → ((Int × (List Int)) → Option Ans) → Option Ans
theorem F195_eq (fuel : Nat) (x0 : Int) (k : Ev.Cont) : evalFn tab (G195 fuel) (J195 fuel) kp195 fuel Try.f195 [.c (.int .i64 x0)] [] k = F_ref01_Size fuel x0 (fun r => match r with | (r0, r1) => k (.tup [(false, [.own 0]), (false, [.int .i64 r0])], [.vec 5 (.int .u8) r1 true])) := by
  kernel_rfl
theorem hG195 (fuel : Nat) : GOK Try.prog (G195 fuel) :=
  gok_nil
theorem B195_0_blk (fuel : Nat) : BlkOK Try.prog Try.f195.ntmps (.block 0 (.loop (bodyOf 0 Try.f195))) (B195_0 fuel) :=
  blk_of (blk_of_code tab_ok (hG195 fuel) mixed (J := J195_0 fuel) (kp := kp195) (fuel := fuel) (by kernel_rfl) (fun q hq => by
    rw [(by kernel_rfl : obl (J195_0 fuel) (.block 0 (.loop (bodyOf 0 Try.f195))) = [])] at hq
    cases hq)) (B195_0_ok fuel)
theorem fok195 (fuel : Nat) : FnOK Try.prog 195 (evalFn tab (G195 fuel) (J195 fuel) kp195 fuel Try.f195) :=
  fn_ok tab_ok (hG195 fuel) mixed Try.func195 (c := (Try.f195.body).getD .skip) rfl (fun q hq => by
    rw [(by kernel_rfl : obl (J195 fuel) ((Try.f195.body).getD .skip) = [(.block 0 (.loop (bodyOf 0 Try.f195)), B195_0 fuel)])] at hq
    simp only [List.mem_cons, List.not_mem_nil, or_false] at hq
    subst hq
    · exact B195_0_blk fuel)
noncomputable def mt195 : List Ev.SV → List Ev.Ob → Bool := fun args objs => match args, objs with
  | [.c (.int .i64 _)], [] => true
  | _, _ => false
noncomputable def spg195 (F : YF195) : Ev.Spec := fun args objs k => match args, objs with
  | [.c (.int .i64 x0)], [] => bif true then F x0 (fun r => match r with | (r0, r1) => k (.tup [(false, [.own 0]), (false, [.int .i64 r0])], [.vec 5 (.int .u8) r1 true])) else none
  | _, _ => none
noncomputable def spec195 (fuel : Nat) : Ev.Spec := spg195 (F_ref01_Size fuel)
theorem ok195 (fuel : Nat) : FnOK Try.prog 195 (spec195 fuel) := by
  intro args objs kk r h
  unfold spec195 spg195 at h
  split at h
  · skip
    obtain ⟨hb, h⟩ := cond_some' h
    simp only [Bool.and_eq_true, Nat.beq_eq, decide_eq_true_eq] at hb
    clear hb
    exact fok195 fuel _ _ kk r ((F195_eq fuel _ kk).trans h)
  · cases h
end Go.Proofs.Ytihfgpfofmjbaaa

set_option linter.unusedVariables false
set_option linter.unusedSimpArgs false
set_option maxRecDepth 100000
set_option maxHeartbeats 2000000
namespace Go.Proofs.Ytihfgpfofmjbaaa
open Go Ev
def kp141 (i : Nat) : Option (List Nat) := Ev.look i []
noncomputable def Gg141 (f195 : YF195) (f : Nat) : Option Ev.Spec := Ev.look f [(195, spg195 f195)]
noncomputable def G141 (fuel : Nat) : Nat → Option Ev.Spec := Gg141 (F_ref01_Size fuel)
noncomputable def J141 (fuel : Nat) (i : Nat) : Option Ev.Blk := Ev.look i []
noncomputable def F_ref12_size (fuel : Nat) (x0 : Int) (k0 : ((List Int)) → Option Ans) : Option Ans :=
  (F_ref01_Size fuel (x0)
    (fun (y2_0, y2_1) =>
      k0 y2_1))
abbrev YF141 : Type := (Int) → (((List Int)) → Option Ans) → Option Ans
theorem F141_eqg (fuel : Nat) (f195 : YF195) (x0 : Int) (k : Ev.Cont) : evalFn tab (Gg141 f195) (J141 fuel) kp141 fuel Try.f141 [.c (.int .i64 x0)] [] k = (fun  (k0 : ((List Int)) → Option Ans) =>
  (f195 (x0)
    (fun (y2_0, y2_1) =>
      k0 y2_1))) (fun r => match r with | r0 => k (.c (.own 0), [.vec 5 (.int .u8) r0 true])) := by
  kernel_rfl
theorem F141_eq (fuel : Nat) (x0 : Int) (k : Ev.Cont) : evalFn tab (G141 fuel) (J141 fuel) kp141 fuel Try.f141 [.c (.int .i64 x0)] [] k = F_ref12_size fuel x0 (fun r => match r with | r0 => k (.c (.own 0), [.vec 5 (.int .u8) r0 true])) :=
  F141_eqg fuel (F_ref01_Size fuel) x0 k
theorem hG141 (fuel : Nat) : GOK Try.prog (G141 fuel) :=
  gok_cons ⟨ok195 fuel, enters_of Try.func195 (by kernel_rfl) rfl⟩ <|
  gok_nil
theorem fok141 (fuel : Nat) : FnOK Try.prog 141 (evalFn tab (G141 fuel) (J141 fuel) kp141 fuel Try.f141) :=
  fn_ok tab_ok (hG141 fuel) mixed Try.func141 (c := (Try.f141.body).getD .skip) rfl (fun q hq => by
    rw [(by kernel_rfl : obl (J141 fuel) ((Try.f141.body).getD .skip) = [])] at hq
    cases hq)
noncomputable def mt141 : List Ev.SV → List Ev.Ob → Bool := fun args objs => match args, objs with
  | [.c (.int .i64 _)], [] => true
  | _, _ => false
noncomputable def spg141 (F : YF141) : Ev.Spec := fun args objs k => match args, objs with
  | [.c (.int .i64 x0)], [] => bif true then F x0 (fun r => match r with | r0 => k (.c (.own 0), [.vec 5 (.int .u8) r0 true])) else none
  | _, _ => none
noncomputable def spec141 (fuel : Nat) : Ev.Spec := spg141 (F_ref12_size fuel)
theorem ok141 (fuel : Nat) : FnOK Try.prog 141 (spec141 fuel) := by
  intro args objs kk r h
  unfold spec141 spg141 at h
  split at h
  · skip
    obtain ⟨hb, h⟩ := cond_some' h
    simp only [Bool.and_eq_true, Nat.beq_eq, decide_eq_true_eq] at hb
    clear hb
    exact fok141 fuel _ _ kk r ((F141_eq fuel _ kk).trans h)
  · cases h
end Go.Proofs.Ytihfgpfofmjbaaa

set_option linter.unusedVariables false
set_option linter.unusedSimpArgs false
set_option maxRecDepth 100000
set_option maxHeartbeats 2000000
namespace Go.Proofs.Ytihfgpfofmjbaaa
open Go Ev
def kp68 (i : Nat) : Option (List Nat) := Ev.look i [(9, [1, 4, 40, 41, 42]), (15, [1, 4, 7, 61, 62, 63]), (100000, [1, 4]), (100002, [1, 4, 7]), (400000, [2, 3]), (400002, [2, 3])]
noncomputable def Gg68 (f64 : YF64) (f141 : YF141) (f : Nat) : Option Ev.Spec := Ev.look f [(64, spg64 f64), (141, spg141 f141)]
noncomputable def G68 (fuel : Nat) : Nat → Option Ev.Spec := Gg68 (F_ref12_Valid fuel) (F_ref12_size fuel)
noncomputable def S_ref12_Header_2 (fuel : Nat) (v : (List Bool) × Int × Int × Int × Int × Int × (List Int) × (List Bool) × (List Int) × (List Int) × (List Int)) (c : ((List Bool) × Int × Int × Int × Int × Int × (List Int) × (List Bool) × (List Int) × (List Int) × (List Int)) → Option Ans) (B : (Int × Int × Int × (List Int) × (List Bool) × (List Int) × (List Int) × (List Int) → Option Ans)) : Option Ans := match v, B with
  | (x0, x1, x2, x3, x4, x5, x6, x7, x8, x9, x10), b =>
   bif Decidable.decide (x2 < x1) then
      bif Decidable.decide ((0 : Int) ≤ x2 ∧ x2 < (↑x0.length : Int)) then
      bif x0.getD x2.toNat Bool.false then
        bif Decidable.decide ((0 : Int) ≤ Go.IntKind.i64.wrap (x2.tdiv (8 : Int)) ∧ Go.IntKind.i64.wrap (x2.tdiv (8 : Int)) < (↑x10.length : Int)) then
        bif Decidable.decide (x2.tmod (8 : Int) < (0 : Int)) then
          none
         else
          bif Decidable.decide ((0 : Int) ≤ Go.IntKind.i64.wrap (x2.tdiv (8 : Int)) ∧ Go.IntKind.i64.wrap (x2.tdiv (8 : Int)) < (↑x10.length : Int)) then
          c (x0, x1, Go.IntKind.i64.wrap (x2 + (1 : Int)), x3, x4, x5, x6, x7, x8, x9, x10.set (Go.IntKind.i64.wrap (x2.tdiv (8 : Int))).toNat (Go.IntKind.u8.wrap (x10.getD (Go.IntKind.i64.wrap (x2.tdiv (8 : Int))).toNat (0 : Int) + Ev.ishr Go.IntKind.u8 (128 : Int) (x2.tmod (8 : Int)))))
          else none
        else none
       else
        c (x0, x1, Go.IntKind.i64.wrap (x2 + (1 : Int)), x3, x4, x5, x6, x7, x8, x9, x10)
      else none
     else
      b (x3, x4, x5, x6, x7, x8, x9, x10)
noncomputable def L_ref12_Header_2 (fuel : Nat) (v : (List Bool) × Int × Int × Int × Int × Int × (List Int) × (List Bool) × (List Int) × (List Int) × (List Int)) (b : (Int × Int × Int × (List Int) × (List Bool) × (List Int) × (List Int) × (List Int) → Option Ans)) : Option Ans := iter (S_ref12_Header_2 fuel) fuel v b
noncomputable def J68_2 (fuel : Nat) (i : Nat) : Option Ev.Blk := Ev.look i []
noncomputable def T68_2 (v : (List Bool) × Int × Int × Int × Int × Int × (List Int) × (List Bool) × (List Int) × (List Int) × (List Int)) : Ev.St := match v with | (x0, x1, x2, x3, x4, x5, x6, x7, x8, x9, x10) => ⟨[(1, .c (.ptr 0 0)), (4, .c (.own 1)), (7, .c (.own 2)), (61, .c (.sl .bool x0)), (62, .c (.int .i64 x1)), (63, .c (.int .i64 x2))], [(0, .cells 103 [.int .i64 x3, .int .i64 x4, .int .i64 x5, .sl (.int .i64) x6, .sl .bool x7, .sl (.int .u8) x8]), (1, .vec 5 (.int .u8) x9 true), (2, .vec 5 (.int .u8) x10 true)], 3, 0⟩
noncomputable def E68_2 (K : Ev.Ex → Ev.St → Option Ans) : (Int × Int × Int × (List Int) × (List Bool) × (List Int) × (List Int) × (List Int) → Option Ans) := (fun v => match v with | (x0, x1, x2, x3, x4, x5, x6, x7) => K .normal ⟨[(1, .c (.ptr 0 0)), (4, .c (.own 1)), (7, .c (.own 2))], [(0, .cells 103 [.int .i64 x0, .int .i64 x1, .int .i64 x2, .sl (.int .i64) x3, .sl .bool x4, .sl (.int .u8) x5]), (1, .vec 5 (.int .u8) x6 true), (2, .vec 5 (.int .u8) x7 true)], 3, 0⟩)
theorem S68_2_okg (fuel : Nat) (f64 : YF64) (f141 : YF141) (R : Ev.St → Option Ans) (K : Ev.Ex → Ev.St → Option Ans) (x0 : (List Bool)) (x1 : Int) (x2 : Int) (x3 : Int) (x4 : Int) (x5 : Int) (x6 : (List Int)) (x7 : (List Bool)) (x8 : (List Int)) (x9 : (List Int)) (x10 : (List Int)) : evalCode tab (Gg68 f64 f141) (J68_2 fuel) kp68 fuel (bodyOf 2 Try.f68) (T68_2 (x0, x1, x2, x3, x4, x5, x6, x7, x8, x9, x10)) (lc kp68 15 2 R K) = (fun (c : ((List Bool) × Int × Int × Int × Int × Int × (List Int) × (List Bool) × (List Int) × (List Int) × (List Int)) → Option Ans) (B : (Int × Int × Int × (List Int) × (List Bool) × (List Int) × (List Int) × (List Int) → Option Ans)) => match B with
  | b =>
   bif Decidable.decide (x2 < x1) then
      bif Decidable.decide ((0 : Int) ≤ x2 ∧ x2 < (↑x0.length : Int)) then
      bif x0.getD x2.toNat Bool.false then
        bif Decidable.decide ((0 : Int) ≤ Go.IntKind.i64.wrap (x2.tdiv (8 : Int)) ∧ Go.IntKind.i64.wrap (x2.tdiv (8 : Int)) < (↑x10.length : Int)) then
        bif Decidable.decide (x2.tmod (8 : Int) < (0 : Int)) then
          none
         else
          bif Decidable.decide ((0 : Int) ≤ Go.IntKind.i64.wrap (x2.tdiv (8 : Int)) ∧ Go.IntKind.i64.wrap (x2.tdiv (8 : Int)) < (↑x10.length : Int)) then
          c (x0, x1, Go.IntKind.i64.wrap (x2 + (1 : Int)), x3, x4, x5, x6, x7, x8, x9, x10.set (Go.IntKind.i64.wrap (x2.tdiv (8 : Int))).toNat (Go.IntKind.u8.wrap (x10.getD (Go.IntKind.i64.wrap (x2.tdiv (8 : Int))).toNat (0 : Int) + Ev.ishr Go.IntKind.u8 (128 : Int) (x2.tmod (8 : Int)))))
          else none
        else none
       else
        c (x0, x1, Go.IntKind.i64.wrap (x2 + (1 : Int)), x3, x4, x5, x6, x7, x8, x9, x10)
      else none
     else
      b (x3, x4, x5, x6, x7, x8, x9, x10)) (fun v => R (T68_2 v)) (E68_2 K) := by
  kernel_rfl
theorem S68_2_ok (fuel : Nat) (R : Ev.St → Option Ans) (K : Ev.Ex → Ev.St → Option Ans) (x0 : (List Bool)) (x1 : Int) (x2 : Int) (x3 : Int) (x4 : Int) (x5 : Int) (x6 : (List Int)) (x7 : (List Bool)) (x8 : (List Int)) (x9 : (List Int)) (x10 : (List Int)) : evalCode tab (G68 fuel) (J68_2 fuel) kp68 fuel (bodyOf 2 Try.f68) (T68_2 (x0, x1, x2, x3, x4, x5, x6, x7, x8, x9, x10)) (lc kp68 15 2 R K) = S_ref12_Header_2 fuel (x0, x1, x2, x3, x4, x5, x6, x7, x8, x9, x10) (fun v => R (T68_2 v)) (E68_2 K) :=
  S68_2_okg fuel (F_ref12_Valid fuel) (F_ref12_size fuel) R K x0 x1 x2 x3 x4 x5 x6 x7 x8 x9 x10
noncomputable def B68_2 (fuel : Nat) : Ev.Blk := fun st K => match canonO (kp68 15) st with
  | some s => (match s with
    | ⟨[(q0, .c (.ptr q1 q2)), (q3, .c (.own q4)), (q5, .c (.own q6)), (q7, .c (.sl .bool x0)), (q8, .c (.int .i64 x1)), (q9, .c (.int .i64 x2))], [(q10, .cells q11 [.int .i64 x3, .int .i64 x4, .int .i64 x5, .sl (.int .i64) x6, .sl .bool x7, .sl (.int .u8) x8]), (q12, .vec q13 (.int .u8) x9 true), (q14, .vec q15 (.int .u8) x10 true)], q16, q17⟩ => bif Nat.beq q0 1 && Nat.beq q1 0 && Nat.beq q2 0 && Nat.beq q3 4 && Nat.beq q4 1 && Nat.beq q5 7 && Nat.beq q6 2 && Nat.beq q7 61 && Nat.beq q8 62 && Nat.beq q9 63 && Nat.beq q10 0 && Nat.beq q11 103 && Nat.beq q12 1 && Nat.beq q13 5 && Nat.beq q14 2 && Nat.beq q15 5 && Nat.beq q16 3 && Nat.beq q17 0 then iter (S_ref12_Header_2 fuel) fuel (x0, x1, x2, x3, x4, x5, x6, x7, x8, x9, x10) (E68_2 K) else none
    | _ => none)
  | none => none
theorem B68_2_ok (fuel : Nat) (st : Ev.St) (K : Ev.Ex → Ev.St → Option Ans) (r : Ans) (h : B68_2 fuel st K = some r) : evalCode tab (G68 fuel) (J68_2 fuel) kp68 fuel (.block 2 (.loop (bodyOf 2 Try.f68))) st K = some r := by
  unfold B68_2 at h
  split at h
  · rename_i s hs
    split at h
    · skip
      obtain ⟨hb, h⟩ := cond_some' h
      simp only [Bool.and_eq_true, Nat.beq_eq, decide_eq_true_eq] at hb
      obtain ⟨⟨⟨⟨⟨⟨⟨⟨⟨⟨⟨⟨⟨⟨⟨⟨⟨rfl, rfl⟩, rfl⟩, rfl⟩, rfl⟩, rfl⟩, rfl⟩, rfl⟩, rfl⟩, rfl⟩, rfl⟩, rfl⟩, rfl⟩, rfl⟩, rfl⟩, rfl⟩, rfl⟩, rfl⟩ := hb
      exact blk_loop (S := T68_2) (ks := E68_2) (step := S_ref12_Header_2 fuel) (v := (_, _, _, _, _, _, _, _, _, _, _)) (by kernel_rfl) (by kernel_rfl) (fun R K v => by obtain ⟨x0, x1, x2, x3, x4, x5, x6, x7, x8, x9, x10⟩ := v; exact S68_2_ok fuel R K x0 x1 x2 x3 x4 x5 x6 x7 x8 x9 x10) hs h
    · cases h
  · cases h
noncomputable def S_ref12_Header_0 (fuel : Nat) (v : (List Int) × Int × Int × Int × Int × Int × (List Int) × (List Bool) × (List Int) × (List Int)) (c : ((List Int) × Int × Int × Int × Int × Int × (List Int) × (List Bool) × (List Int) × (List Int)) → Option Ans) (B : (Int × Int × Int × (List Int) × (List Bool) × (List Int) × (List Int) → Option Ans)) : Option Ans := match v, B with
  | (x0, x1, x2, x3, x4, x5, x6, x7, x8, x9), b =>
   bif Decidable.decide (x2 < x1) then
      bif Decidable.decide ((0 : Int) ≤ x2 ∧ x2 < (↑x0.length : Int)) then
      (F_ref12_size fuel (Go.IntKind.i64.wrap (x3 - x0.getD x2.toNat (0 : Int)))
         (fun y4 =>
           bif Decidable.decide ((x9.length + y4.length) * (1 : Nat) ≤ (140737488355328 : Nat) ∧ x9.length + y4.length ≤ (140737488355328 : Nat)) then
           c (x0, x1, Go.IntKind.i64.wrap (x2 + (1 : Int)), x3, x4, x5, x6, x7, x8, x9 ++ y4)
           else none))
      else none
     else
      b (x3, x4, x5, x6, x7, x8, x9)
noncomputable def L_ref12_Header_0 (fuel : Nat) (v : (List Int) × Int × Int × Int × Int × Int × (List Int) × (List Bool) × (List Int) × (List Int)) (b : (Int × Int × Int × (List Int) × (List Bool) × (List Int) × (List Int) → Option Ans)) : Option Ans := iter (S_ref12_Header_0 fuel) fuel v b
noncomputable def J68_0 (fuel : Nat) (i : Nat) : Option Ev.Blk := Ev.look i [(100002, B68_2 fuel)]
noncomputable def T68_0 (v : (List Int) × Int × Int × Int × Int × Int × (List Int) × (List Bool) × (List Int) × (List Int)) : Ev.St := match v with | (x0, x1, x2, x3, x4, x5, x6, x7, x8, x9) => ⟨[(1, .c (.ptr 0 0)), (4, .c (.own 1)), (40, .c (.sl (.int .i64) x0)), (41, .c (.int .i64 x1)), (42, .c (.int .i64 x2))], [(0, .cells 103 [.int .i64 x3, .int .i64 x4, .int .i64 x5, .sl (.int .i64) x6, .sl .bool x7, .sl (.int .u8) x8]), (1, .vec 5 (.int .u8) x9 true)], 2, 0⟩
noncomputable def E68_0 (K : Ev.Ex → Ev.St → Option Ans) : (Int × Int × Int × (List Int) × (List Bool) × (List Int) × (List Int) → Option Ans) := (fun v => match v with | (x0, x1, x2, x3, x4, x5, x6) => K .normal ⟨[(1, .c (.ptr 0 0)), (4, .c (.own 1))], [(0, .cells 103 [.int .i64 x0, .int .i64 x1, .int .i64 x2, .sl (.int .i64) x3, .sl .bool x4, .sl (.int .u8) x5]), (1, .vec 5 (.int .u8) x6 true)], 2, 0⟩)
theorem S68_0_okg (fuel : Nat) (f64 : YF64) (f141 : YF141) (R : Ev.St → Option Ans) (K : Ev.Ex → Ev.St → Option Ans) (x0 : (List Int)) (x1 : Int) (x2 : Int) (x3 : Int) (x4 : Int) (x5 : Int) (x6 : (List Int)) (x7 : (List Bool)) (x8 : (List Int)) (x9 : (List Int)) : evalCode tab (Gg68 f64 f141) (J68_0 fuel) kp68 fuel (bodyOf 0 Try.f68) (T68_0 (x0, x1, x2, x3, x4, x5, x6, x7, x8, x9)) (lc kp68 9 0 R K) = (fun (c : ((List Int) × Int × Int × Int × Int × Int × (List Int) × (List Bool) × (List Int) × (List Int)) → Option Ans) (B : (Int × Int × Int × (List Int) × (List Bool) × (List Int) × (List Int) → Option Ans)) => match B with
  | b =>
   bif Decidable.decide (x2 < x1) then
      bif Decidable.decide ((0 : Int) ≤ x2 ∧ x2 < (↑x0.length : Int)) then
      (f141 (Go.IntKind.i64.wrap (x3 - x0.getD x2.toNat (0 : Int)))
         (fun y4 =>
           bif Decidable.decide ((x9.length + y4.length) * (1 : Nat) ≤ (140737488355328 : Nat) ∧ x9.length + y4.length ≤ (140737488355328 : Nat)) then
           c (x0, x1, Go.IntKind.i64.wrap (x2 + (1 : Int)), x3, x4, x5, x6, x7, x8, x9 ++ y4)
           else none))
      else none
     else
      b (x3, x4, x5, x6, x7, x8, x9)) (fun v => R (T68_0 v)) (E68_0 K) := by
  kernel_rfl
theorem S68_0_ok (fuel : Nat) (R : Ev.St → Option Ans) (K : Ev.Ex → Ev.St → Option Ans) (x0 : (List Int)) (x1 : Int) (x2 : Int) (x3 : Int) (x4 : Int) (x5 : Int) (x6 : (List Int)) (x7 : (List Bool)) (x8 : (List Int)) (x9 : (List Int)) : evalCode tab (G68 fuel) (J68_0 fuel) kp68 fuel (bodyOf 0 Try.f68) (T68_0 (x0, x1, x2, x3, x4, x5, x6, x7, x8, x9)) (lc kp68 9 0 R K) = S_ref12_Header_0 fuel (x0, x1, x2, x3, x4, x5, x6, x7, x8, x9) (fun v => R (T68_0 v)) (E68_0 K) :=
  S68_0_okg fuel (F_ref12_Valid fuel) (F_ref12_size fuel) R K x0 x1 x2 x3 x4 x5 x6 x7 x8 x9
noncomputable def B68_0 (fuel : Nat) : Ev.Blk := fun st K => match canonO (kp68 9) st with
  | some s => (match s with
    | ⟨[(q0, .c (.ptr q1 q2)), (q3, .c (.own q4)), (q5, .c (.sl (.int .i64) x0)), (q6, .c (.int .i64 x1)), (q7, .c (.int .i64 x2))], [(q8, .cells q9 [.int .i64 x3, .int .i64 x4, .int .i64 x5, .sl (.int .i64) x6, .sl .bool x7, .sl (.int .u8) x8]), (q10, .vec q11 (.int .u8) x9 true)], q12, q13⟩ => bif Nat.beq q0 1 && Nat.beq q1 0 && Nat.beq q2 0 && Nat.beq q3 4 && Nat.beq q4 1 && Nat.beq q5 40 && Nat.beq q6 41 && Nat.beq q7 42 && Nat.beq q8 0 && Nat.beq q9 103 && Nat.beq q10 1 && Nat.beq q11 5 && Nat.beq q12 2 && Nat.beq q13 0 then iter (S_ref12_Header_0 fuel) fuel (x0, x1, x2, x3, x4, x5, x6, x7, x8, x9) (E68_0 K) else none
    | _ => none)
  | none => none
theorem B68_0_ok (fuel : Nat) (st : Ev.St) (K : Ev.Ex → Ev.St → Option Ans) (r : Ans) (h : B68_0 fuel st K = some r) : evalCode tab (G68 fuel) (J68_0 fuel) kp68 fuel (.block 0 (.loop (bodyOf 0 Try.f68))) st K = some r := by
  unfold B68_0 at h
  split at h
  · rename_i s hs
    split at h
    · skip
      obtain ⟨hb, h⟩ := cond_some' h
      simp only [Bool.and_eq_true, Nat.beq_eq, decide_eq_true_eq] at hb
      obtain ⟨⟨⟨⟨⟨⟨⟨⟨⟨⟨⟨⟨⟨rfl, rfl⟩, rfl⟩, rfl⟩, rfl⟩, rfl⟩, rfl⟩, rfl⟩, rfl⟩, rfl⟩, rfl⟩, rfl⟩, rfl⟩, rfl⟩ := hb
      exact blk_loop (S := T68_0) (ks := E68_0) (step := S_ref12_Header_0 fuel) (v := (_, _, _, _, _, _, _, _, _, _)) (by kernel_rfl) (by kernel_rfl) (fun R K v => by obtain ⟨x0, x1, x2, x3, x4, x5, x6, x7, x8, x9⟩ := v; exact S68_0_ok fuel R K x0 x1 x2 x3 x4 x5 x6 x7 x8 x9) hs h
    · cases h
  · cases h
noncomputable def J68 (fuel : Nat) (i : Nat) : Option Ev.Blk := Ev.look i [(100002, B68_2 fuel), (100000, B68_0 fuel)]
noncomputable def F_ref12_Header (fuel : Nat) (x0 : Int) (x1 : Int) (x2 : Int) (x3 : (List Int)) (x4 : (List Bool)) (x5 : (List Int)) (k0 : (Int × (List Int)) → Option Ans) : Option Ans :=
  (F_ref12_Valid fuel (x0) (x1) (x2) (x3) (x4) (x5)
    (fun y2 =>
      bif !y2 then
       k0 ((2 : Int), [])
      else
       (F_ref12_size fuel (x0)
         (fun y7 =>
           bif (↑x3.length : Int) == (0 : Int) then
            bif Decidable.decide ((y7.length + [Go.IntKind.u8.wrap x1].length) * (1 : Nat) ≤ (140737488355328 : Nat) ∧ y7.length + [Go.IntKind.u8.wrap x1].length ≤ (140737488355328 : Nat)) then
            bif Decidable.decide ((0 : Int) ≤ Go.IntKind.i64.wrap ((Go.IntKind.i64.wrap ((↑x4.length : Int) + (7 : Int))).tdiv (8 : Int)) ∧ Go.IntKind.i64.wrap ((Go.IntKind.i64.wrap ((↑x4.length : Int) + (7 : Int))).tdiv (8 : Int)) = Go.IntKind.i64.wrap ((Go.IntKind.i64.wrap ((↑x4.length : Int) + (7 : Int))).tdiv (8 : Int)) ∧ (↑(1 : Nat) : Int) * Go.IntKind.i64.wrap ((Go.IntKind.i64.wrap ((↑x4.length : Int) + (7 : Int))).tdiv (8 : Int)) ≤ (281474976710656 : Int) ∧ Go.IntKind.i64.wrap ((Go.IntKind.i64.wrap ((↑x4.length : Int) + (7 : Int))).tdiv (8 : Int)) ≤ (281474976710656 : Int)) then
             (L_ref12_Header_2 fuel (x4, (↑x4.length : Int), (0 : Int), x0, x1, x2, x3, x4, x5, y7 ++ [Go.IntKind.u8.wrap x1], List.replicate (Go.IntKind.i64.wrap ((Go.IntKind.i64.wrap ((↑x4.length : Int) + (7 : Int))).tdiv (8 : Int))).toNat (0 : Int))
                (fun (b2_0, b2_1, b2_2, b2_3, b2_4, b2_5, b2_6, b2_7) =>
                  bif Decidable.decide ((b2_6.length + b2_7.length) * (1 : Nat) ≤ (140737488355328 : Nat) ∧ b2_6.length + b2_7.length ≤ (140737488355328 : Nat)) then
                  (F_ref12_size fuel (b2_2)
                     (fun y19 =>
                       bif Decidable.decide (((b2_6 ++ b2_7).length + y19.length) * (1 : Nat) ≤ (140737488355328 : Nat) ∧ (b2_6 ++ b2_7).length + y19.length ≤ (140737488355328 : Nat)) then
                       (F_ref12_size fuel ((↑b2_5.length : Int))
                          (fun y24 =>
                            bif Decidable.decide (((b2_6 ++ b2_7 ++ y19).length + y24.length) * (1 : Nat) ≤ (140737488355328 : Nat) ∧ (b2_6 ++ b2_7 ++ y19).length + y24.length ≤ (140737488355328 : Nat)) then
                            k0 ((0 : Int), b2_6 ++ b2_7 ++ y19 ++ y24)
                            else none))
                       else none))
                  else none))
             else none
            else none
           else
            bif Decidable.decide ((y7.length + [Go.IntKind.u8.wrap (Go.IntKind.i64.wrap (x1 + (16 : Int)))].length) * (1 : Nat) ≤ (140737488355328 : Nat) ∧ y7.length + [Go.IntKind.u8.wrap (Go.IntKind.i64.wrap (x1 + (16 : Int)))].length ≤ (140737488355328 : Nat)) then
            (F_ref12_size fuel ((↑x3.length : Int))
               (fun y13 =>
                 bif Decidable.decide (((y7 ++ [Go.IntKind.u8.wrap (Go.IntKind.i64.wrap (x1 + (16 : Int)))]).length + y13.length) * (1 : Nat) ≤ (140737488355328 : Nat) ∧ (y7 ++ [Go.IntKind.u8.wrap (Go.IntKind.i64.wrap (x1 + (16 : Int)))]).length + y13.length ≤ (140737488355328 : Nat)) then
                 (L_ref12_Header_0 fuel (x3, (↑x3.length : Int), (0 : Int), x0, x1, x2, x3, x4, x5, y7 ++ [Go.IntKind.u8.wrap (Go.IntKind.i64.wrap (x1 + (16 : Int)))] ++ y13)
                    (fun (b0_0, b0_1, b0_2, b0_3, b0_4, b0_5, b0_6) =>
                      bif Decidable.decide ((0 : Int) ≤ Go.IntKind.i64.wrap ((Go.IntKind.i64.wrap ((↑b0_4.length : Int) + (7 : Int))).tdiv (8 : Int)) ∧ Go.IntKind.i64.wrap ((Go.IntKind.i64.wrap ((↑b0_4.length : Int) + (7 : Int))).tdiv (8 : Int)) = Go.IntKind.i64.wrap ((Go.IntKind.i64.wrap ((↑b0_4.length : Int) + (7 : Int))).tdiv (8 : Int)) ∧ (↑(1 : Nat) : Int) * Go.IntKind.i64.wrap ((Go.IntKind.i64.wrap ((↑b0_4.length : Int) + (7 : Int))).tdiv (8 : Int)) ≤ (281474976710656 : Int) ∧ Go.IntKind.i64.wrap ((Go.IntKind.i64.wrap ((↑b0_4.length : Int) + (7 : Int))).tdiv (8 : Int)) ≤ (281474976710656 : Int)) then
                      (L_ref12_Header_2 fuel (b0_4, (↑b0_4.length : Int), (0 : Int), b0_0, b0_1, b0_2, b0_3, b0_4, b0_5, b0_6, List.replicate (Go.IntKind.i64.wrap ((Go.IntKind.i64.wrap ((↑b0_4.length : Int) + (7 : Int))).tdiv (8 : Int))).toNat (0 : Int))
                         (fun (b2_0, b2_1, b2_2, b2_3, b2_4, b2_5, b2_6, b2_7) =>
                           bif Decidable.decide ((b2_6.length + b2_7.length) * (1 : Nat) ≤ (140737488355328 : Nat) ∧ b2_6.length + b2_7.length ≤ (140737488355328 : Nat)) then
                           (F_ref12_size fuel (b2_2)
                              (fun y28 =>
                                bif Decidable.decide (((b2_6 ++ b2_7).length + y28.length) * (1 : Nat) ≤ (140737488355328 : Nat) ∧ (b2_6 ++ b2_7).length + y28.length ≤ (140737488355328 : Nat)) then
                                (F_ref12_size fuel ((↑b2_5.length : Int))
                                   (fun y33 =>
                                     bif Decidable.decide (((b2_6 ++ b2_7 ++ y28).length + y33.length) * (1 : Nat) ≤ (140737488355328 : Nat) ∧ (b2_6 ++ b2_7 ++ y28).length + y33.length ≤ (140737488355328 : Nat)) then
                                     k0 ((0 : Int), b2_6 ++ b2_7 ++ y28 ++ y33)
                                     else none))
                                else none))
                           else none))
                      else none))
                 else none))
            else none))))
abbrev YF68 : Type := (Int) → (Int) → (Int) → ((List Int)) → ((List Bool)) → ((List Int)) → ((Int × (List Int)) → Option Ans) → Option Ans
theorem F68_eqg (fuel : Nat) (f64 : YF64) (f141 : YF141) (x0 : Int) (x1 : Int) (x2 : Int) (x3 : (List Int)) (x4 : (List Bool)) (x5 : (List Int)) (k : Ev.Cont) : evalFn tab (Gg68 f64 f141) (J68 fuel) kp68 fuel Try.f68 [.agg [.int .i64 x0, .int .i64 x1, .int .i64 x2, .sl (.int .i64) x3, .sl .bool x4, .sl (.int .u8) x5]] [] k = (fun  (k0 : (Int × (List Int)) → Option Ans) =>
  (f64 (x0) (x1) (x2) (x3) (x4) (x5)
    (fun y2 =>
      bif !y2 then
       k0 ((2 : Int), [])
      else
       (f141 (x0)
         (fun y7 =>
           bif (↑x3.length : Int) == (0 : Int) then
            bif Decidable.decide ((y7.length + [Go.IntKind.u8.wrap x1].length) * (1 : Nat) ≤ (140737488355328 : Nat) ∧ y7.length + [Go.IntKind.u8.wrap x1].length ≤ (140737488355328 : Nat)) then
            bif Decidable.decide ((0 : Int) ≤ Go.IntKind.i64.wrap ((Go.IntKind.i64.wrap ((↑x4.length : Int) + (7 : Int))).tdiv (8 : Int)) ∧ Go.IntKind.i64.wrap ((Go.IntKind.i64.wrap ((↑x4.length : Int) + (7 : Int))).tdiv (8 : Int)) = Go.IntKind.i64.wrap ((Go.IntKind.i64.wrap ((↑x4.length : Int) + (7 : Int))).tdiv (8 : Int)) ∧ (↑(1 : Nat) : Int) * Go.IntKind.i64.wrap ((Go.IntKind.i64.wrap ((↑x4.length : Int) + (7 : Int))).tdiv (8 : Int)) ≤ (281474976710656 : Int) ∧ Go.IntKind.i64.wrap ((Go.IntKind.i64.wrap ((↑x4.length : Int) + (7 : Int))).tdiv (8 : Int)) ≤ (281474976710656 : Int)) then
             (L_ref12_Header_2 fuel (x4, (↑x4.length : Int), (0 : Int), x0, x1, x2, x3, x4, x5, y7 ++ [Go.IntKind.u8.wrap x1], List.replicate (Go.IntKind.i64.wrap ((Go.IntKind.i64.wrap ((↑x4.length : Int) + (7 : Int))).tdiv (8 : Int))).toNat (0 : Int))
                (fun (b2_0, b2_1, b2_2, b2_3, b2_4, b2_5, b2_6, b2_7) =>
                  bif Decidable.decide ((b2_6.length + b2_7.length) * (1 : Nat) ≤ (140737488355328 : Nat) ∧ b2_6.length + b2_7.length ≤ (140737488355328 : Nat)) then
                  (f141 (b2_2)
                     (fun y19 =>
                       bif Decidable.decide (((b2_6 ++ b2_7).length + y19.length) * (1 : Nat) ≤ (140737488355328 : Nat) ∧ (b2_6 ++ b2_7).length + y19.length ≤ (140737488355328 : Nat)) then
                       (f141 ((↑b2_5.length : Int))
                          (fun y24 =>
                            bif Decidable.decide (((b2_6 ++ b2_7 ++ y19).length + y24.length) * (1 : Nat) ≤ (140737488355328 : Nat) ∧ (b2_6 ++ b2_7 ++ y19).length + y24.length ≤ (140737488355328 : Nat)) then
                            k0 ((0 : Int), b2_6 ++ b2_7 ++ y19 ++ y24)
                            else none))
                       else none))
                  else none))
             else none
            else none
           else
            bif Decidable.decide ((y7.length + [Go.IntKind.u8.wrap (Go.IntKind.i64.wrap (x1 + (16 : Int)))].length) * (1 : Nat) ≤ (140737488355328 : Nat) ∧ y7.length + [Go.IntKind.u8.wrap (Go.IntKind.i64.wrap (x1 + (16 : Int)))].length ≤ (140737488355328 : Nat)) then
            (f141 ((↑x3.length : Int))
               (fun y13 =>
                 bif Decidable.decide (((y7 ++ [Go.IntKind.u8.wrap (Go.IntKind.i64.wrap (x1 + (16 : Int)))]).length + y13.length) * (1 : Nat) ≤ (140737488355328 : Nat) ∧ (y7 ++ [Go.IntKind.u8.wrap (Go.IntKind.i64.wrap (x1 + (16 : Int)))]).length + y13.length ≤ (140737488355328 : Nat)) then
                 (L_ref12_Header_0 fuel (x3, (↑x3.length : Int), (0 : Int), x0, x1, x2, x3, x4, x5, y7 ++ [Go.IntKind.u8.wrap (Go.IntKind.i64.wrap (x1 + (16 : Int)))] ++ y13)
                    (fun (b0_0, b0_1, b0_2, b0_3, b0_4, b0_5, b0_6) =>
                      bif Decidable.decide ((0 : Int) ≤ Go.IntKind.i64.wrap ((Go.IntKind.i64.wrap ((↑b0_4.length : Int) + (7 : Int))).tdiv (8 : Int)) ∧ Go.IntKind.i64.wrap ((Go.IntKind.i64.wrap ((↑b0_4.length : Int) + (7 : Int))).tdiv (8 : Int)) = Go.IntKind.i64.wrap ((Go.IntKind.i64.wrap ((↑b0_4.length : Int) + (7 : Int))).tdiv (8 : Int)) ∧ (↑(1 : Nat) : Int) * Go.IntKind.i64.wrap ((Go.IntKind.i64.wrap ((↑b0_4.length : Int) + (7 : Int))).tdiv (8 : Int)) ≤ (281474976710656 : Int) ∧ Go.IntKind.i64.wrap ((Go.IntKind.i64.wrap ((↑b0_4.length : Int) + (7 : Int))).tdiv (8 : Int)) ≤ (281474976710656 : Int)) then
                      (L_ref12_Header_2 fuel (b0_4, (↑b0_4.length : Int), (0 : Int), b0_0, b0_1, b0_2, b0_3, b0_4, b0_5, b0_6, List.replicate (Go.IntKind.i64.wrap ((Go.IntKind.i64.wrap ((↑b0_4.length : Int) + (7 : Int))).tdiv (8 : Int))).toNat (0 : Int))
                         (fun (b2_0, b2_1, b2_2, b2_3, b2_4, b2_5, b2_6, b2_7) =>
                           bif Decidable.decide ((b2_6.length + b2_7.length) * (1 : Nat) ≤ (140737488355328 : Nat) ∧ b2_6.length + b2_7.length ≤ (140737488355328 : Nat)) then
                           (f141 (b2_2)
                              (fun y28 =>
                                bif Decidable.decide (((b2_6 ++ b2_7).length + y28.length) * (1 : Nat) ≤ (140737488355328 : Nat) ∧ (b2_6 ++ b2_7).length + y28.length ≤ (140737488355328 : Nat)) then
                                (f141 ((↑b2_5.length : Int))
                                   (fun y33 =>
                                     bif Decidable.decide (((b2_6 ++ b2_7 ++ y28).length + y33.length) * (1 : Nat) ≤ (140737488355328 : Nat) ∧ (b2_6 ++ b2_7 ++ y28).length + y33.length ≤ (140737488355328 : Nat)) then
                                     k0 ((0 : Int), b2_6 ++ b2_7 ++ y28 ++ y33)
                                     else none))
                                else none))
                           else none))
                      else none))
                 else none))
            else none))))) (fun r => match r with | (r0, r1) => k (.tup [(false, [.own 0]), (false, [.int .i64 r0])], [.vec 5 (.int .u8) r1 true])) := by
  kernel_rfl
theorem F68_eq (fuel : Nat) (x0 : Int) (x1 : Int) (x2 : Int) (x3 : (List Int)) (x4 : (List Bool)) (x5 : (List Int)) (k : Ev.Cont) : evalFn tab (G68 fuel) (J68 fuel) kp68 fuel Try.f68 [.agg [.int .i64 x0, .int .i64 x1, .int .i64 x2, .sl (.int .i64) x3, .sl .bool x4, .sl (.int .u8) x5]] [] k = F_ref12_Header fuel x0 x1 x2 x3 x4 x5 (fun r => match r with | (r0, r1) => k (.tup [(false, [.own 0]), (false, [.int .i64 r0])], [.vec 5 (.int .u8) r1 true])) :=
  F68_eqg fuel (F_ref12_Valid fuel) (F_ref12_size fuel) x0 x1 x2 x3 x4 x5 k
theorem hG68 (fuel : Nat) : GOK Try.prog (G68 fuel) :=
  gok_cons ⟨ok64 fuel, enters_of Try.func64 (by kernel_rfl) rfl⟩ <|
  gok_cons ⟨ok141 fuel, enters_of Try.func141 (by kernel_rfl) rfl⟩ <|
  gok_nil
theorem B68_2_blk (fuel : Nat) : BlkOK Try.prog Try.f68.ntmps (.block 2 (.loop (bodyOf 2 Try.f68))) (B68_2 fuel) :=
  blk_of (blk_of_code tab_ok (hG68 fuel) mixed (J := J68_2 fuel) (kp := kp68) (fuel := fuel) (by kernel_rfl) (fun q hq => by
    rw [(by kernel_rfl : obl (J68_2 fuel) (.block 2 (.loop (bodyOf 2 Try.f68))) = [])] at hq
    cases hq)) (B68_2_ok fuel)
theorem B68_0_blk (fuel : Nat) : BlkOK Try.prog Try.f68.ntmps (.block 0 (.loop (bodyOf 0 Try.f68))) (B68_0 fuel) :=
  blk_of (blk_of_code tab_ok (hG68 fuel) mixed (J := J68_0 fuel) (kp := kp68) (fuel := fuel) (by kernel_rfl) (fun q hq => by
    rw [(by kernel_rfl : obl (J68_0 fuel) (.block 0 (.loop (bodyOf 0 Try.f68))) = [])] at hq
    cases hq)) (B68_0_ok fuel)
theorem fok68 (fuel : Nat) : FnOK Try.prog 68 (evalFn tab (G68 fuel) (J68 fuel) kp68 fuel Try.f68) :=
  fn_ok tab_ok (hG68 fuel) mixed Try.func68 (c := (Try.f68.body).getD .skip) rfl (fun q hq => by
    rw [(by kernel_rfl : obl (J68 fuel) ((Try.f68.body).getD .skip) = [(.block 0 (.loop (bodyOf 0 Try.f68)), B68_0 fuel), (.block 2 (.loop (bodyOf 2 Try.f68)), B68_2 fuel)])] at hq
    simp only [List.mem_cons, List.not_mem_nil, or_false] at hq
    rcases hq with rfl | rfl
    · exact B68_0_blk fuel
    · exact B68_2_blk fuel)
noncomputable def mt68 : List Ev.SV → List Ev.Ob → Bool := fun args objs => match args, objs with
  | [.agg [.int .i64 _, .int .i64 _, .int .i64 _, .sl (.int .i64) _, .sl .bool _, .sl (.int .u8) _]], [] => true
  | _, _ => false
noncomputable def spg68 (F : YF68) : Ev.Spec := fun args objs k => match args, objs with
  | [.agg [.int .i64 x0, .int .i64 x1, .int .i64 x2, .sl (.int .i64) x3, .sl .bool x4, .sl (.int .u8) x5]], [] => bif true then F x0 x1 x2 x3 x4 x5 (fun r => match r with | (r0, r1) => k (.tup [(false, [.own 0]), (false, [.int .i64 r0])], [.vec 5 (.int .u8) r1 true])) else none
  | _, _ => none
noncomputable def spec68 (fuel : Nat) : Ev.Spec := spg68 (F_ref12_Header fuel)
theorem ok68 (fuel : Nat) : FnOK Try.prog 68 (spec68 fuel) := by
  intro args objs kk r h
  unfold spec68 spg68 at h
  split at h
  · skip
    obtain ⟨hb, h⟩ := cond_some' h
    simp only [Bool.and_eq_true, Nat.beq_eq, decide_eq_true_eq] at hb
    clear hb
    exact fok68 fuel _ _ kk r ((F68_eq fuel _ _ _ _ _ _ kk).trans h)
  · cases h
end Go.Proofs.Ytihfgpfofmjbaaa

set_option linter.unusedVariables false
set_option linter.unusedSimpArgs false
set_option maxRecDepth 100000
set_option maxHeartbeats 2000000
namespace Go.Proofs.Ytihfgpfofmjbaaa
open Go Ev
def kp194 (i : Nat) : Option (List Nat) := Ev.look i [(2, [1, 7, 8, 9]), (100000, []), (400000, [4])]
noncomputable def Gg194 (f : Nat) : Option Ev.Spec := Ev.look f []
noncomputable def G194 (fuel : Nat) : Nat → Option Ev.Spec := Gg194
noncomputable def S_ref12_find_0 (fuel : Nat) (v : Int × (List (Int × (Int × (Int × ((List Int) × ((List Bool) × (List Int))))))) × Int × Int) (c : (Int × (List (Int × (Int × (Int × ((List Int) × ((List Bool) × (List Int))))))) × Int × Int) → Option Ans) (B : (Int → Option Ans) × (Unit → Option Ans)) : Option Ans := match v, B with
  | (x0, x1, x2, x3), (ret, b) =>
   bif Decidable.decide (x3 < x2) then
      bif Decidable.decide ((0 : Int) ≤ x3 ∧ x3 < (↑x1.length : Int)) then
      bif (x1.getD x3.toNat ((0 : Int), (0 : Int), (0 : Int), [], [], [])).fst == x0 then
        ret x3
       else
        c (x0, x1, x2, Go.IntKind.i64.wrap (x3 + (1 : Int)))
      else none
     else
      b ()
noncomputable def L_ref12_find_0 (fuel : Nat) (v : Int × (List (Int × (Int × (Int × ((List Int) × ((List Bool) × (List Int))))))) × Int × Int) (ret : (Int → Option Ans)) (b : (Unit → Option Ans)) : Option Ans := iter (S_ref12_find_0 fuel) fuel v (ret, b)
noncomputable def J194_0 (fuel : Nat) (i : Nat) : Option Ev.Blk := Ev.look i []
noncomputable def T194_0 (v : Int × (List (Int × (Int × (Int × ((List Int) × ((List Bool) × (List Int))))))) × Int × Int) : Ev.St := match v with | (x0, x1, x2, x3) => ⟨[(1, .c (.int .i64 x0)), (7, .c (.sl (.pair (.int .i64) (.pair (.int .i64) (.pair (.int .i64) (.pair (.sl (.int .i64)) (.pair (.sl .bool) (.sl (.int .u8))))))) x1)), (8, .c (.int .i64 x2)), (9, .c (.int .i64 x3))], [], 0, 0⟩
noncomputable def E194_0 (K : Ev.Ex → Ev.St → Option Ans) : (Int → Option Ans) × (Unit → Option Ans) := ((fun v => match v with | x0 => K .ret ⟨[(4, .c (.int .i64 x0))], [], 0, 0⟩), (fun v => match v with | () => K .normal ⟨[], [], 0, 0⟩))
theorem S194_0_ok (fuel : Nat) (R : Ev.St → Option Ans) (K : Ev.Ex → Ev.St → Option Ans) (x0 : Int) (x1 : (List (Int × (Int × (Int × ((List Int) × ((List Bool) × (List Int)))))))) (x2 : Int) (x3 : Int) : evalCode tab (G194 fuel) (J194_0 fuel) kp194 fuel (bodyOf 0 Try.f194) (T194_0 (x0, x1, x2, x3)) (lc kp194 2 0 R K) = S_ref12_find_0 fuel (x0, x1, x2, x3) (fun v => R (T194_0 v)) (E194_0 K) := by
  kernel_rfl
noncomputable def B194_0 (fuel : Nat) : Ev.Blk := fun st K => match canonO (kp194 2) st with
  | some s => (match s with
    | ⟨[(q0, .c (.int .i64 x0)), (q1, .c (.sl (.pair (.int .i64) (.pair (.int .i64) (.pair (.int .i64) (.pair (.sl (.int .i64)) (.pair (.sl .bool) (.sl (.int .u8))))))) x1)), (q2, .c (.int .i64 x2)), (q3, .c (.int .i64 x3))], [], q4, q5⟩ => bif Nat.beq q0 1 && Nat.beq q1 7 && Nat.beq q2 8 && Nat.beq q3 9 && Nat.beq q4 0 && Nat.beq q5 0 then iter (S_ref12_find_0 fuel) fuel (x0, x1, x2, x3) (E194_0 K) else none
    | _ => none)
  | none => none
theorem B194_0_ok (fuel : Nat) (st : Ev.St) (K : Ev.Ex → Ev.St → Option Ans) (r : Ans) (h : B194_0 fuel st K = some r) : evalCode tab (G194 fuel) (J194_0 fuel) kp194 fuel (.block 0 (.loop (bodyOf 0 Try.f194))) st K = some r := by
  unfold B194_0 at h
  split at h
  · rename_i s hs
    split at h
    · skip
      obtain ⟨hb, h⟩ := cond_some' h
      simp only [Bool.and_eq_true, Nat.beq_eq, decide_eq_true_eq] at hb
      obtain ⟨⟨⟨⟨⟨rfl, rfl⟩, rfl⟩, rfl⟩, rfl⟩, rfl⟩ := hb
      exact blk_loop (S := T194_0) (ks := E194_0) (step := S_ref12_find_0 fuel) (v := (_, _, _, _)) (by kernel_rfl) (by kernel_rfl) (fun R K v => by obtain ⟨x0, x1, x2, x3⟩ := v; exact S194_0_ok fuel R K x0 x1 x2 x3) hs h
    · cases h
  · cases h
noncomputable def J194 (fuel : Nat) (i : Nat) : Option Ev.Blk := Ev.look i [(100000, B194_0 fuel)]
noncomputable def F_ref12_find (fuel : Nat) (x0 : (List (Int × Int × Int × (List Int) × (List Bool) × (List Int)))) (x1 : Int) (k0 : (Int) → Option Ans) : Option Ans :=
  (L_ref12_find_0 fuel (x1, x0, (↑x0.length : Int), (0 : Int))
    (fun ret0_0 =>
      k0 ret0_0)
    (fun () =>
      k0 ((-1 : Int))))
abbrev YF194 : Type := ((List (Int × Int × Int × (List Int) × (List Bool) × (List Int)))) → (Int) → ((Int) → Option Ans) → Option Ans
theorem F194_eq (fuel : Nat) (x0 : (List (Int × Int × Int × (List Int) × (List Bool) × (List Int)))) (x1 : Int) (k : Ev.Cont) : evalFn tab (G194 fuel) (J194 fuel) kp194 fuel Try.f194 [.c (.sl (.pair (.int .i64) (.pair (.int .i64) (.pair (.int .i64) (.pair (.sl (.int .i64)) (.pair (.sl .bool) (.sl (.int .u8))))))) x0), .c (.int .i64 x1)] [] k = F_ref12_find fuel x0 x1 (fun r => match r with | r0 => k (.c (.int .i64 r0), [])) := by
  kernel_rfl
theorem hG194 (fuel : Nat) : GOK Try.prog (G194 fuel) :=
  gok_nil
theorem B194_0_blk (fuel : Nat) : BlkOK Try.prog Try.f194.ntmps (.block 0 (.loop (bodyOf 0 Try.f194))) (B194_0 fuel) :=
  blk_of (blk_of_code tab_ok (hG194 fuel) mixed (J := J194_0 fuel) (kp := kp194) (fuel := fuel) (by kernel_rfl) (fun q hq => by
    rw [(by kernel_rfl : obl (J194_0 fuel) (.block 0 (.loop (bodyOf 0 Try.f194))) = [])] at hq
    cases hq)) (B194_0_ok fuel)
theorem fok194 (fuel : Nat) : FnOK Try.prog 194 (evalFn tab (G194 fuel) (J194 fuel) kp194 fuel Try.f194) :=
  fn_ok tab_ok (hG194 fuel) mixed Try.func194 (c := (Try.f194.body).getD .skip) rfl (fun q hq => by
    rw [(by kernel_rfl : obl (J194 fuel) ((Try.f194.body).getD .skip) = [(.block 0 (.loop (bodyOf 0 Try.f194)), B194_0 fuel)])] at hq
    simp only [List.mem_cons, List.not_mem_nil, or_false] at hq
    subst hq
    · exact B194_0_blk fuel)
noncomputable def mt194 : List Ev.SV → List Ev.Ob → Bool := fun args objs => match args, objs with
  | [.c (.sl (.pair (.int .i64) (.pair (.int .i64) (.pair (.int .i64) (.pair (.sl (.int .i64)) (.pair (.sl .bool) (.sl (.int .u8))))))) _), .c (.int .i64 _)], [] => true
  | _, _ => false
noncomputable def spg194 (F : YF194) : Ev.Spec := fun args objs k => match args, objs with
  | [.c (.sl (.pair (.int .i64) (.pair (.int .i64) (.pair (.int .i64) (.pair (.sl (.int .i64)) (.pair (.sl .bool) (.sl (.int .u8))))))) x0), .c (.int .i64 x1)], [] => bif true then F x0 x1 (fun r => match r with | r0 => k (.c (.int .i64 r0), [])) else none
  | _, _ => none
noncomputable def spec194 (fuel : Nat) : Ev.Spec := spg194 (F_ref12_find fuel)
theorem ok194 (fuel : Nat) : FnOK Try.prog 194 (spec194 fuel) := by
  intro args objs kk r h
  unfold spec194 spg194 at h
  split at h
  · skip
    obtain ⟨hb, h⟩ := cond_some' h
    simp only [Bool.and_eq_true, Nat.beq_eq, decide_eq_true_eq] at hb
    clear hb
    exact fok194 fuel _ _ kk r ((F194_eq fuel _ _ kk).trans h)
  · cases h
end Go.Proofs.Ytihfgpfofmjbaaa

