/- What the functions that SymbolExported reaches do: their typed texts, each with the proof that the machine does it. No condition. -/
import Derived.Test.YtmjeeaemmbkioaaGreatEvX
import Derived.Test.YtmjeeaemmbkioaaGreatFsSymbolExported3
import Derived.Test.YtmjeeaemmbkioaaGreatFsSymbolExported1
set_option linter.unusedVariables false
set_option linter.unusedSimpArgs false
set_option linter.unusedSectionVars false
set_option linter.unusedVariables false
set_option linter.unusedSimpArgs false
set_option maxRecDepth 100000
set_option maxHeartbeats 2000000
namespace Go.Proofs.YtmjeeaemmbkioaaGreat
open Go Ev
def kp78 (i : Nat) : Option (List Nat) := Ev.look i [(4, [23, 24, 25]), (100000, []), (400000, [2])]
noncomputable def Gg78 (f125 : YF125) (f : Nat) : Option Ev.Spec := Ev.look f [(125, spg125 f125)]
noncomputable def G78 (fuel : Nat) : Nat → Option Ev.Spec := Gg78 (F_bitmap_fits fuel)
noncomputable def S_bitmap_Valid_0 (fuel : Nat) (v : (List Int) × Int × Int) (c : ((List Int) × Int × Int) → Option Ans) (B : (Bool → Option Ans) × (Unit → Option Ans)) : Option Ans := match v, B with
  | (x0, x1, x2), (ret, b) =>
   bif Decidable.decide (x2 < x1) then
      bif Decidable.decide ((0 : Int) ≤ x2 ∧ x2 < (↑x0.length : Int)) then
      bif Decidable.decide (x0.getD x2.toNat (0 : Int) > (1 : Int)) then
        ret Bool.false
       else
        c (x0, x1, Go.IntKind.i64.wrap (x2 + (1 : Int)))
      else none
     else
      b ()
noncomputable def L_bitmap_Valid_0 (fuel : Nat) (v : (List Int) × Int × Int) (ret : (Bool → Option Ans)) (b : (Unit → Option Ans)) : Option Ans := iter (S_bitmap_Valid_0 fuel) fuel v (ret, b)
noncomputable def J78_0 (fuel : Nat) (i : Nat) : Option Ev.Blk := Ev.look i []
noncomputable def T78_0 (v : (List Int) × Int × Int) : Ev.St := match v with | (x0, x1, x2) => ⟨[(23, .c (.sl (.int .u8) x0)), (24, .c (.int .i64 x1)), (25, .c (.int .i64 x2))], [], 0, 0⟩
noncomputable def E78_0 (K : Ev.Ex → Ev.St → Option Ans) : (Bool → Option Ans) × (Unit → Option Ans) := ((fun v => match v with | x0 => K .ret ⟨[(2, .c (.bool x0))], [], 0, 0⟩), (fun v => match v with | () => K .normal ⟨[], [], 0, 0⟩))
theorem S78_0_okg (fuel : Nat) (f125 : YF125) (R : Ev.St → Option Ans) (K : Ev.Ex → Ev.St → Option Ans) (x0 : (List Int)) (x1 : Int) (x2 : Int) : evalCode tab (Gg78 f125) (J78_0 fuel) kp78 fuel (bodyOf 0 Tryz.f78) (T78_0 (x0, x1, x2)) (lc kp78 4 0 R K) = (fun (c : ((List Int) × Int × Int) → Option Ans) (B : (Bool → Option Ans) × (Unit → Option Ans)) => match B with
  | (ret, b) =>
   bif Decidable.decide (x2 < x1) then
      bif Decidable.decide ((0 : Int) ≤ x2 ∧ x2 < (↑x0.length : Int)) then
      bif Decidable.decide (x0.getD x2.toNat (0 : Int) > (1 : Int)) then
        ret Bool.false
       else
        c (x0, x1, Go.IntKind.i64.wrap (x2 + (1 : Int)))
      else none
     else
      b ()) (fun v => R (T78_0 v)) (E78_0 K) := by
  kernel_rfl
theorem S78_0_ok (fuel : Nat) (R : Ev.St → Option Ans) (K : Ev.Ex → Ev.St → Option Ans) (x0 : (List Int)) (x1 : Int) (x2 : Int) : evalCode tab (G78 fuel) (J78_0 fuel) kp78 fuel (bodyOf 0 Tryz.f78) (T78_0 (x0, x1, x2)) (lc kp78 4 0 R K) = S_bitmap_Valid_0 fuel (x0, x1, x2) (fun v => R (T78_0 v)) (E78_0 K) :=
  S78_0_okg fuel (F_bitmap_fits fuel) R K x0 x1 x2
noncomputable def B78_0 (fuel : Nat) : Ev.Blk := fun st K => match canonO (kp78 4) st with
  | some s => (match s with
    | ⟨[(q0, .c (.sl (.int .u8) x0)), (q1, .c (.int .i64 x1)), (q2, .c (.int .i64 x2))], [], q3, q4⟩ => bif Nat.beq q0 23 && Nat.beq q1 24 && Nat.beq q2 25 && Nat.beq q3 0 && Nat.beq q4 0 then iter (S_bitmap_Valid_0 fuel) fuel (x0, x1, x2) (E78_0 K) else none
    | _ => none)
  | none => none
theorem B78_0_ok (fuel : Nat) (st : Ev.St) (K : Ev.Ex → Ev.St → Option Ans) (r : Ans) (h : B78_0 fuel st K = some r) : evalCode tab (G78 fuel) (J78_0 fuel) kp78 fuel (.block 0 (.loop (bodyOf 0 Tryz.f78))) st K = some r := by
  unfold B78_0 at h
  split at h
  · rename_i s hs
    split at h
    · skip
      obtain ⟨hb, h⟩ := cond_some' h
      simp only [Bool.and_eq_true, Nat.beq_eq, decide_eq_true_eq] at hb
      obtain ⟨⟨⟨⟨rfl, rfl⟩, rfl⟩, rfl⟩, rfl⟩ := hb
      exact blk_loop (S := T78_0) (ks := E78_0) (step := S_bitmap_Valid_0 fuel) (v := (_, _, _)) (by kernel_rfl) (by kernel_rfl) (fun R K v => by obtain ⟨x0, x1, x2⟩ := v; exact S78_0_ok fuel R K x0 x1 x2) hs h
    · cases h
  · cases h
noncomputable def J78 (fuel : Nat) (i : Nat) : Option Ev.Blk := Ev.look i [(100000, B78_0 fuel)]
noncomputable def F_bitmap_Valid (fuel : Nat) (x0 : Int) (x1 : Int) (x2 : (List Int)) (k0 : (Bool) → Option Ans) : Option Ans :=
  (F_bitmap_fits fuel (x0) (x1)
    (fun y2 =>
      bif !y2 then
       k0 Bool.false
      else
       bif (↑x2.length : Int) != Go.IntKind.i64.wrap (x0 * x1) then
        k0 Bool.false
       else
        (L_bitmap_Valid_0 fuel (x2, (↑x2.length : Int), (0 : Int))
          (fun ret0_0 =>
            k0 ret0_0)
          (fun () =>
            k0 Bool.true))))
abbrev YF78 : Type := (Int) → (Int) → ((List Int)) → ((Bool) → Option Ans) → Option Ans
theorem F78_eqg (fuel : Nat) (f125 : YF125) (x0 : Int) (x1 : Int) (x2 : (List Int)) (k : Ev.Cont) : evalFn tab (Gg78 f125) (J78 fuel) kp78 fuel Tryz.f78 [.agg [.int .i64 x0, .int .i64 x1, .sl (.int .u8) x2]] [] k = (fun  (k0 : (Bool) → Option Ans) =>
  (f125 (x0) (x1)
    (fun y2 =>
      bif !y2 then
       k0 Bool.false
      else
       bif (↑x2.length : Int) != Go.IntKind.i64.wrap (x0 * x1) then
        k0 Bool.false
       else
        (L_bitmap_Valid_0 fuel (x2, (↑x2.length : Int), (0 : Int))
          (fun ret0_0 =>
            k0 ret0_0)
          (fun () =>
            k0 Bool.true))))) (fun r => match r with | r0 => k (.c (.bool r0), [])) := by
  kernel_rfl
theorem F78_eq (fuel : Nat) (x0 : Int) (x1 : Int) (x2 : (List Int)) (k : Ev.Cont) : evalFn tab (G78 fuel) (J78 fuel) kp78 fuel Tryz.f78 [.agg [.int .i64 x0, .int .i64 x1, .sl (.int .u8) x2]] [] k = F_bitmap_Valid fuel x0 x1 x2 (fun r => match r with | r0 => k (.c (.bool r0), [])) :=
  F78_eqg fuel (F_bitmap_fits fuel) x0 x1 x2 k
theorem hG78 (fuel : Nat) : GOK Tryz.prog (G78 fuel) :=
  gok_cons ⟨ok125 fuel, enters_of Tryz.func125 (by kernel_rfl) rfl⟩ <|
  gok_nil
theorem B78_0_blk (fuel : Nat) : BlkOK Tryz.prog Tryz.f78.ntmps (.block 0 (.loop (bodyOf 0 Tryz.f78))) (B78_0 fuel) :=
  blk_of (blk_of_code tab_ok (hG78 fuel) mixed (J := J78_0 fuel) (kp := kp78) (fuel := fuel) (by kernel_rfl) (fun q hq => by
    rw [(by kernel_rfl : obl (J78_0 fuel) (.block 0 (.loop (bodyOf 0 Tryz.f78))) = [])] at hq
    cases hq)) (B78_0_ok fuel)
theorem fok78 (fuel : Nat) : FnOK Tryz.prog 78 (evalFn tab (G78 fuel) (J78 fuel) kp78 fuel Tryz.f78) :=
  fn_ok tab_ok (hG78 fuel) mixed Tryz.func78 (c := (Tryz.f78.body).getD .skip) rfl (fun q hq => by
    rw [(by kernel_rfl : obl (J78 fuel) ((Tryz.f78.body).getD .skip) = [(.block 0 (.loop (bodyOf 0 Tryz.f78)), B78_0 fuel)])] at hq
    simp only [List.mem_cons, List.not_mem_nil, or_false] at hq
    subst hq
    · exact B78_0_blk fuel)
noncomputable def mt78 : List Ev.SV → List Ev.Ob → Bool := fun args objs => match args, objs with
  | [.agg [.int .i64 _, .int .i64 _, .sl (.int .u8) _]], [] => true
  | _, _ => false
noncomputable def spg78 (F : YF78) : Ev.Spec := fun args objs k => match args, objs with
  | [.agg [.int .i64 x0, .int .i64 x1, .sl (.int .u8) x2]], [] => bif true then F x0 x1 x2 (fun r => match r with | r0 => k (.c (.bool r0), [])) else none
  | _, _ => none
noncomputable def spec78 (fuel : Nat) : Ev.Spec := spg78 (F_bitmap_Valid fuel)
theorem ok78 (fuel : Nat) : FnOK Tryz.prog 78 (spec78 fuel) := by
  intro args objs kk r h
  unfold spec78 spg78 at h
  split at h
  · skip
    obtain ⟨hb, h⟩ := cond_some' h
    simp only [Bool.and_eq_true, Nat.beq_eq, decide_eq_true_eq] at hb
    clear hb
    exact fok78 fuel _ _ kk r ((F78_eq fuel _ _ _ kk).trans h)
  · cases h
end Go.Proofs.YtmjeeaemmbkioaaGreat

set_option linter.unusedVariables false
set_option linter.unusedSimpArgs false
set_option maxRecDepth 100000
set_option maxHeartbeats 2000000
namespace Go.Proofs.YtmjeeaemmbkioaaGreat
open Go Ev
def kp35 (i : Nat) : Option (List Nat) := Ev.look i []
noncomputable def Gg35 (f78 : YF78) (f : Nat) : Option Ev.Spec := Ev.look f [(78, spg78 f78)]
noncomputable def G35 (fuel : Nat) : Nat → Option Ev.Spec := Gg35 (F_bitmap_Valid fuel)
noncomputable def J35 (fuel : Nat) (i : Nat) : Option Ev.Blk := Ev.look i []
noncomputable def F_symbol_isShape (fuel : Nat) (x0 : Int) (x1 : Int) (x2 : (List Int)) (k0 : (Bool) → Option Ans) : Option Ans :=
  (F_bitmap_Valid fuel (x0) (x1) (x2)
    (fun y2 =>
      bif y2 then
       bif Decidable.decide (x0 ≥ (1 : Int)) then
        bif Decidable.decide (x0 ≤ (40 : Int)) then
         bif Decidable.decide (x1 ≥ (1 : Int)) then
          k0 (Decidable.decide (x1 ≤ (40 : Int)))
         else
          k0 Bool.false
        else
         k0 Bool.false
       else
        k0 Bool.false
      else
       k0 Bool.false))
abbrev YF35 : Type := (Int) → (Int) → ((List Int)) → ((Bool) → Option Ans) → Option Ans
theorem F35_eqg (fuel : Nat) (f78 : YF78) (x0 : Int) (x1 : Int) (x2 : (List Int)) (k : Ev.Cont) : evalFn tab (Gg35 f78) (J35 fuel) kp35 fuel Tryz.f35 [.agg [.int .i64 x0, .int .i64 x1, .sl (.int .u8) x2]] [] k = (fun  (k0 : (Bool) → Option Ans) =>
  (f78 (x0) (x1) (x2)
    (fun y2 =>
      bif y2 then
       bif Decidable.decide (x0 ≥ (1 : Int)) then
        bif Decidable.decide (x0 ≤ (40 : Int)) then
         bif Decidable.decide (x1 ≥ (1 : Int)) then
          k0 (Decidable.decide (x1 ≤ (40 : Int)))
         else
          k0 Bool.false
        else
         k0 Bool.false
       else
        k0 Bool.false
      else
       k0 Bool.false))) (fun r => match r with | r0 => k (.c (.bool r0), [])) := by
  kernel_rfl
theorem F35_eq (fuel : Nat) (x0 : Int) (x1 : Int) (x2 : (List Int)) (k : Ev.Cont) : evalFn tab (G35 fuel) (J35 fuel) kp35 fuel Tryz.f35 [.agg [.int .i64 x0, .int .i64 x1, .sl (.int .u8) x2]] [] k = F_symbol_isShape fuel x0 x1 x2 (fun r => match r with | r0 => k (.c (.bool r0), [])) :=
  F35_eqg fuel (F_bitmap_Valid fuel) x0 x1 x2 k
theorem hG35 (fuel : Nat) : GOK Tryz.prog (G35 fuel) :=
  gok_cons ⟨ok78 fuel, enters_of Tryz.func78 (by kernel_rfl) rfl⟩ <|
  gok_nil
theorem fok35 (fuel : Nat) : FnOK Tryz.prog 35 (evalFn tab (G35 fuel) (J35 fuel) kp35 fuel Tryz.f35) :=
  fn_ok tab_ok (hG35 fuel) mixed Tryz.func35 (c := (Tryz.f35.body).getD .skip) rfl (fun q hq => by
    rw [(by kernel_rfl : obl (J35 fuel) ((Tryz.f35.body).getD .skip) = [])] at hq
    cases hq)
noncomputable def mt35 : List Ev.SV → List Ev.Ob → Bool := fun args objs => match args, objs with
  | [.agg [.int .i64 _, .int .i64 _, .sl (.int .u8) _]], [] => true
  | _, _ => false
noncomputable def spg35 (F : YF35) : Ev.Spec := fun args objs k => match args, objs with
  | [.agg [.int .i64 x0, .int .i64 x1, .sl (.int .u8) x2]], [] => bif true then F x0 x1 x2 (fun r => match r with | r0 => k (.c (.bool r0), [])) else none
  | _, _ => none
noncomputable def spec35 (fuel : Nat) : Ev.Spec := spg35 (F_symbol_isShape fuel)
theorem ok35 (fuel : Nat) : FnOK Tryz.prog 35 (spec35 fuel) := by
  intro args objs kk r h
  unfold spec35 spg35 at h
  split at h
  · skip
    obtain ⟨hb, h⟩ := cond_some' h
    simp only [Bool.and_eq_true, Nat.beq_eq, decide_eq_true_eq] at hb
    clear hb
    exact fok35 fuel _ _ kk r ((F35_eq fuel _ _ _ kk).trans h)
  · cases h
end Go.Proofs.YtmjeeaemmbkioaaGreat

set_option linter.unusedVariables false
set_option linter.unusedSimpArgs false
set_option maxRecDepth 100000
set_option maxHeartbeats 2000000
namespace Go.Proofs.YtmjeeaemmbkioaaGreat
open Go Ev
def kp34 (i : Nat) : Option (List Nat) := Ev.look i []
noncomputable def Gg34 (f35 : YF35) (f : Nat) : Option Ev.Spec := Ev.look f [(35, spg35 f35)]
noncomputable def G34 (fuel : Nat) : Nat → Option Ev.Spec := Gg34 (F_symbol_isShape fuel)
noncomputable def J34 (fuel : Nat) (i : Nat) : Option Ev.Blk := Ev.look i []
noncomputable def F_symbol_Exported_1 (fuel : Nat) (x0 : Int) (x1 : Int) (x2 : (List Int)) (k0 : (Bool) → Option Ans) : Option Ans :=
  (F_symbol_isShape fuel (x0) (x1) (x2)
    (fun y2 =>
      k0 !y2))
abbrev YF34 : Type := (Int) → (Int) → ((List Int)) → ((Bool) → Option Ans) → Option Ans
theorem F34_eqg (fuel : Nat) (f35 : YF35) (x0 : Int) (x1 : Int) (x2 : (List Int)) (k : Ev.Cont) : evalFn tab (Gg34 f35) (J34 fuel) kp34 fuel Tryz.f34 [.agg [.int .i64 x0, .int .i64 x1, .sl (.int .u8) x2]] [] k = (fun  (k0 : (Bool) → Option Ans) =>
  (f35 (x0) (x1) (x2)
    (fun y2 =>
      k0 !y2))) (fun r => match r with | r0 => k (.c (.bool r0), [])) := by
  kernel_rfl
theorem F34_eq (fuel : Nat) (x0 : Int) (x1 : Int) (x2 : (List Int)) (k : Ev.Cont) : evalFn tab (G34 fuel) (J34 fuel) kp34 fuel Tryz.f34 [.agg [.int .i64 x0, .int .i64 x1, .sl (.int .u8) x2]] [] k = F_symbol_Exported_1 fuel x0 x1 x2 (fun r => match r with | r0 => k (.c (.bool r0), [])) :=
  F34_eqg fuel (F_symbol_isShape fuel) x0 x1 x2 k
theorem hG34 (fuel : Nat) : GOK Tryz.prog (G34 fuel) :=
  gok_cons ⟨ok35 fuel, enters_of Tryz.func35 (by kernel_rfl) rfl⟩ <|
  gok_nil
theorem fok34 (fuel : Nat) : FnOK Tryz.prog 34 (evalFn tab (G34 fuel) (J34 fuel) kp34 fuel Tryz.f34) :=
  fn_ok tab_ok (hG34 fuel) mixed Tryz.func34 (c := (Tryz.f34.body).getD .skip) rfl (fun q hq => by
    rw [(by kernel_rfl : obl (J34 fuel) ((Tryz.f34.body).getD .skip) = [])] at hq
    cases hq)
noncomputable def mt34 : List Ev.SV → List Ev.Ob → Bool := fun args objs => match args, objs with
  | [.agg [.int .i64 _, .int .i64 _, .sl (.int .u8) _]], [] => true
  | _, _ => false
noncomputable def spg34 (F : YF34) : Ev.Spec := fun args objs k => match args, objs with
  | [.agg [.int .i64 x0, .int .i64 x1, .sl (.int .u8) x2]], [] => bif true then F x0 x1 x2 (fun r => match r with | r0 => k (.c (.bool r0), [])) else none
  | _, _ => none
noncomputable def spec34 (fuel : Nat) : Ev.Spec := spg34 (F_symbol_Exported_1 fuel)
theorem ok34 (fuel : Nat) : FnOK Tryz.prog 34 (spec34 fuel) := by
  intro args objs kk r h
  unfold spec34 spg34 at h
  split at h
  · skip
    obtain ⟨hb, h⟩ := cond_some' h
    simp only [Bool.and_eq_true, Nat.beq_eq, decide_eq_true_eq] at hb
    clear hb
    exact fok34 fuel _ _ kk r ((F34_eq fuel _ _ _ kk).trans h)
  · cases h
end Go.Proofs.YtmjeeaemmbkioaaGreat

set_option linter.unusedVariables false
set_option linter.unusedSimpArgs false
set_option maxRecDepth 100000
set_option maxHeartbeats 2000000
namespace Go.Proofs.YtmjeeaemmbkioaaGreat
open Go Ev
def kp77_ace (i : Nat) : Option (List Nat) := Ev.look i [(2, [0, 1, 7, 8]), (100000, []), (400000, [4])]
noncomputable def Gg77_ace (f34 : YF34) (f : Nat) : Option Ev.Spec := Ev.look f [(34, spg34 f34)]
noncomputable def G77_ace (fuel : Nat) : Nat → Option Ev.Spec := Gg77_ace (F_symbol_Exported_1 fuel)
noncomputable def S_slices_IndexFunc_api_Bitmap_api_Bitmap_ace_0 (fuel : Nat) (v : (List (Int × (Int × (List Int)))) × Int × Int) (c : ((List (Int × (Int × (List Int)))) × Int × Int) → Option Ans) (B : (Int → Option Ans) × (Unit → Option Ans)) : Option Ans := match v, B with
  | (x0, x1, x2), (ret, b) =>
   bif Decidable.decide (x2 < x1) then
      bif Decidable.decide ((0 : Int) ≤ x2 ∧ x2 < (↑x0.length : Int)) then
      (F_symbol_Exported_1 fuel ((x0.getD x2.toNat ((0 : Int), (0 : Int), [])).fst) ((x0.getD x2.toNat ((0 : Int), (0 : Int), [])).snd.fst) ((x0.getD x2.toNat ((0 : Int), (0 : Int), [])).snd.snd)
         (fun y4 =>
           bif y4 then
            ret x2
           else
            c (x0, x1, Go.IntKind.i64.wrap (x2 + (1 : Int)))))
      else none
     else
      b ()
noncomputable def L_slices_IndexFunc_api_Bitmap_api_Bitmap_ace_0 (fuel : Nat) (v : (List (Int × (Int × (List Int)))) × Int × Int) (ret : (Int → Option Ans)) (b : (Unit → Option Ans)) : Option Ans := iter (S_slices_IndexFunc_api_Bitmap_api_Bitmap_ace_0 fuel) fuel v (ret, b)
noncomputable def J77_ace_0 (fuel : Nat) (i : Nat) : Option Ev.Blk := Ev.look i []
noncomputable def T77_ace_0 (v : (List (Int × (Int × (List Int)))) × Int × Int) : Ev.St := match v with | (x0, x1, x2) => ⟨[(0, .c (.sl (.pair (.int .i64) (.pair (.int .i64) (.sl (.int .u8)))) x0)), (1, .c (.clo 34 [])), (7, .c (.int .i64 x1)), (8, .c (.int .i64 x2))], [], 0, 0⟩
noncomputable def E77_ace_0 (K : Ev.Ex → Ev.St → Option Ans) : (Int → Option Ans) × (Unit → Option Ans) := ((fun v => match v with | x0 => K .ret ⟨[(4, .c (.int .i64 x0))], [], 0, 0⟩), (fun v => match v with | () => K .normal ⟨[], [], 0, 0⟩))
theorem S77_ace_0_okg (fuel : Nat) (f34 : YF34) (R : Ev.St → Option Ans) (K : Ev.Ex → Ev.St → Option Ans) (x0 : (List (Int × (Int × (List Int))))) (x1 : Int) (x2 : Int) : evalCode tab (Gg77_ace f34) (J77_ace_0 fuel) kp77_ace fuel (bodyOf 0 Tryz.f77) (T77_ace_0 (x0, x1, x2)) (lc kp77_ace 2 0 R K) = (fun (c : ((List (Int × (Int × (List Int)))) × Int × Int) → Option Ans) (B : (Int → Option Ans) × (Unit → Option Ans)) => match B with
  | (ret, b) =>
   bif Decidable.decide (x2 < x1) then
      bif Decidable.decide ((0 : Int) ≤ x2 ∧ x2 < (↑x0.length : Int)) then
      (f34 ((x0.getD x2.toNat ((0 : Int), (0 : Int), [])).fst) ((x0.getD x2.toNat ((0 : Int), (0 : Int), [])).snd.fst) ((x0.getD x2.toNat ((0 : Int), (0 : Int), [])).snd.snd)
         (fun y4 =>
           bif y4 then
            ret x2
           else
            c (x0, x1, Go.IntKind.i64.wrap (x2 + (1 : Int)))))
      else none
     else
      b ()) (fun v => R (T77_ace_0 v)) (E77_ace_0 K) := by
  kernel_rfl
theorem S77_ace_0_ok (fuel : Nat) (R : Ev.St → Option Ans) (K : Ev.Ex → Ev.St → Option Ans) (x0 : (List (Int × (Int × (List Int))))) (x1 : Int) (x2 : Int) : evalCode tab (G77_ace fuel) (J77_ace_0 fuel) kp77_ace fuel (bodyOf 0 Tryz.f77) (T77_ace_0 (x0, x1, x2)) (lc kp77_ace 2 0 R K) = S_slices_IndexFunc_api_Bitmap_api_Bitmap_ace_0 fuel (x0, x1, x2) (fun v => R (T77_ace_0 v)) (E77_ace_0 K) :=
  S77_ace_0_okg fuel (F_symbol_Exported_1 fuel) R K x0 x1 x2
noncomputable def B77_ace_0 (fuel : Nat) : Ev.Blk := fun st K => match canonO (kp77_ace 2) st with
  | some s => (match s with
    | ⟨[(q0, .c (.sl (.pair (.int .i64) (.pair (.int .i64) (.sl (.int .u8)))) x0)), (q1, .c (.clo q2 [])), (q3, .c (.int .i64 x1)), (q4, .c (.int .i64 x2))], [], q5, q6⟩ => bif Nat.beq q0 0 && Nat.beq q1 1 && Nat.beq q2 34 && Nat.beq q3 7 && Nat.beq q4 8 && Nat.beq q5 0 && Nat.beq q6 0 then iter (S_slices_IndexFunc_api_Bitmap_api_Bitmap_ace_0 fuel) fuel (x0, x1, x2) (E77_ace_0 K) else none
    | _ => none)
  | none => none
theorem B77_ace_0_ok (fuel : Nat) (st : Ev.St) (K : Ev.Ex → Ev.St → Option Ans) (r : Ans) (h : B77_ace_0 fuel st K = some r) : evalCode tab (G77_ace fuel) (J77_ace_0 fuel) kp77_ace fuel (.block 0 (.loop (bodyOf 0 Tryz.f77))) st K = some r := by
  unfold B77_ace_0 at h
  split at h
  · rename_i s hs
    split at h
    · skip
      obtain ⟨hb, h⟩ := cond_some' h
      simp only [Bool.and_eq_true, Nat.beq_eq, decide_eq_true_eq] at hb
      obtain ⟨⟨⟨⟨⟨⟨rfl, rfl⟩, rfl⟩, rfl⟩, rfl⟩, rfl⟩, rfl⟩ := hb
      exact blk_loop (S := T77_ace_0) (ks := E77_ace_0) (step := S_slices_IndexFunc_api_Bitmap_api_Bitmap_ace_0 fuel) (v := (_, _, _)) (by kernel_rfl) (by kernel_rfl) (fun R K v => by obtain ⟨x0, x1, x2⟩ := v; exact S77_ace_0_ok fuel R K x0 x1 x2) hs h
    · cases h
  · cases h
noncomputable def J77_ace (fuel : Nat) (i : Nat) : Option Ev.Blk := Ev.look i [(100000, B77_ace_0 fuel)]
noncomputable def F_slices_IndexFunc_api_Bitmap_api_Bitmap_ace (fuel : Nat) (x0 : (List (Int × (Int × (List Int))))) (k0 : (Int) → Option Ans) : Option Ans :=
  (L_slices_IndexFunc_api_Bitmap_api_Bitmap_ace_0 fuel (x0, (↑x0.length : Int), (0 : Int))
    (fun ret0_0 =>
      k0 ret0_0)
    (fun () =>
      k0 ((-1 : Int))))
abbrev YF77_ace : Type := ((List (Int × (Int × (List Int))))) → ((Int) → Option Ans) → Option Ans
theorem F77_ace_eqg (fuel : Nat) (f34 : YF34) (x0 : (List (Int × (Int × (List Int))))) (k : Ev.Cont) : evalFn tab (Gg77_ace f34) (J77_ace fuel) kp77_ace fuel Tryz.f77 [.c (.sl (.pair (.int .i64) (.pair (.int .i64) (.sl (.int .u8)))) x0), .c (.clo 34 [])] [] k = (fun  (k0 : (Int) → Option Ans) =>
  (L_slices_IndexFunc_api_Bitmap_api_Bitmap_ace_0 fuel (x0, (↑x0.length : Int), (0 : Int))
    (fun ret0_0 =>
      k0 ret0_0)
    (fun () =>
      k0 ((-1 : Int))))) (fun r => match r with | r0 => k (.c (.int .i64 r0), [])) := by
  kernel_rfl
theorem F77_ace_eq (fuel : Nat) (x0 : (List (Int × (Int × (List Int))))) (k : Ev.Cont) : evalFn tab (G77_ace fuel) (J77_ace fuel) kp77_ace fuel Tryz.f77 [.c (.sl (.pair (.int .i64) (.pair (.int .i64) (.sl (.int .u8)))) x0), .c (.clo 34 [])] [] k = F_slices_IndexFunc_api_Bitmap_api_Bitmap_ace fuel x0 (fun r => match r with | r0 => k (.c (.int .i64 r0), [])) :=
  F77_ace_eqg fuel (F_symbol_Exported_1 fuel) x0 k
theorem hG77_ace (fuel : Nat) : GOK Tryz.prog (G77_ace fuel) :=
  gok_cons ⟨ok34 fuel, enters_of Tryz.func34 (by kernel_rfl) rfl⟩ <|
  gok_nil
theorem B77_ace_0_blk (fuel : Nat) : BlkOK Tryz.prog Tryz.f77.ntmps (.block 0 (.loop (bodyOf 0 Tryz.f77))) (B77_ace_0 fuel) :=
  blk_of (blk_of_code tab_ok (hG77_ace fuel) mixed (J := J77_ace_0 fuel) (kp := kp77_ace) (fuel := fuel) (by kernel_rfl) (fun q hq => by
    rw [(by kernel_rfl : obl (J77_ace_0 fuel) (.block 0 (.loop (bodyOf 0 Tryz.f77))) = [])] at hq
    cases hq)) (B77_ace_0_ok fuel)
theorem fok77_ace (fuel : Nat) : FnOK Tryz.prog 77 (evalFn tab (G77_ace fuel) (J77_ace fuel) kp77_ace fuel Tryz.f77) :=
  fn_ok tab_ok (hG77_ace fuel) mixed Tryz.func77 (c := (Tryz.f77.body).getD .skip) rfl (fun q hq => by
    rw [(by kernel_rfl : obl (J77_ace fuel) ((Tryz.f77.body).getD .skip) = [(.block 0 (.loop (bodyOf 0 Tryz.f77)), B77_ace_0 fuel)])] at hq
    simp only [List.mem_cons, List.not_mem_nil, or_false] at hq
    subst hq
    · exact B77_ace_0_blk fuel)
noncomputable def mt77_ace : List Ev.SV → List Ev.Ob → Bool := fun args objs => match args, objs with
  | [.c (.sl (.pair (.int .i64) (.pair (.int .i64) (.sl (.int .u8)))) _), .c (.clo q0 [])], [] => Nat.beq q0 34
  | _, _ => false
noncomputable def spg77_ace (F : YF77_ace) : Ev.Spec := fun args objs k => match args, objs with
  | [.c (.sl (.pair (.int .i64) (.pair (.int .i64) (.sl (.int .u8)))) x0), .c (.clo q0 [])], [] => bif Nat.beq q0 34 then F x0 (fun r => match r with | r0 => k (.c (.int .i64 r0), [])) else none
  | _, _ => none
noncomputable def spec77_ace (fuel : Nat) : Ev.Spec := spg77_ace (F_slices_IndexFunc_api_Bitmap_api_Bitmap_ace fuel)
theorem ok77_ace (fuel : Nat) : FnOK Tryz.prog 77 (spec77_ace fuel) := by
  intro args objs kk r h
  unfold spec77_ace spg77_ace at h
  split at h
  · skip
    obtain ⟨hb, h⟩ := cond_some' h
    simp only [Bool.and_eq_true, Nat.beq_eq, decide_eq_true_eq] at hb
    obtain rfl := hb
    exact fok77_ace fuel _ _ kk r ((F77_ace_eq fuel _ kk).trans h)
  · cases h
end Go.Proofs.YtmjeeaemmbkioaaGreat

set_option linter.unusedVariables false
set_option linter.unusedSimpArgs false
set_option maxRecDepth 100000
set_option maxHeartbeats 2000000
namespace Go.Proofs.YtmjeeaemmbkioaaGreat
open Go Ev
def kp33_ace (i : Nat) : Option (List Nat) := Ev.look i []
noncomputable def Gg33_ace (f77_ace : YF77_ace) (f : Nat) : Option Ev.Spec := Ev.look f [(77, spg77_ace f77_ace)]
noncomputable def G33_ace (fuel : Nat) : Nat → Option Ev.Spec := Gg33_ace (F_slices_IndexFunc_api_Bitmap_api_Bitmap_ace fuel)
noncomputable def J33_ace (fuel : Nat) (i : Nat) : Option Ev.Blk := Ev.look i []
noncomputable def F_slices_ContainsFunc_api_Bitmap_api_Bitmap_ace (fuel : Nat) (x0 : (List (Int × (Int × (List Int))))) (k0 : (Bool) → Option Ans) : Option Ans :=
  (F_slices_IndexFunc_api_Bitmap_api_Bitmap_ace fuel (x0)
    (fun y2 =>
      k0 (Decidable.decide (y2 ≥ (0 : Int)))))
abbrev YF33_ace : Type := ((List (Int × (Int × (List Int))))) → ((Bool) → Option Ans) → Option Ans
theorem F33_ace_eqg (fuel : Nat) (f77_ace : YF77_ace) (x0 : (List (Int × (Int × (List Int))))) (k : Ev.Cont) : evalFn tab (Gg33_ace f77_ace) (J33_ace fuel) kp33_ace fuel Tryz.f33 [.c (.sl (.pair (.int .i64) (.pair (.int .i64) (.sl (.int .u8)))) x0), .c (.clo 34 [])] [] k = (fun  (k0 : (Bool) → Option Ans) =>
  (f77_ace (x0)
    (fun y2 =>
      k0 (Decidable.decide (y2 ≥ (0 : Int)))))) (fun r => match r with | r0 => k (.c (.bool r0), [])) := by
  kernel_rfl
theorem F33_ace_eq (fuel : Nat) (x0 : (List (Int × (Int × (List Int))))) (k : Ev.Cont) : evalFn tab (G33_ace fuel) (J33_ace fuel) kp33_ace fuel Tryz.f33 [.c (.sl (.pair (.int .i64) (.pair (.int .i64) (.sl (.int .u8)))) x0), .c (.clo 34 [])] [] k = F_slices_ContainsFunc_api_Bitmap_api_Bitmap_ace fuel x0 (fun r => match r with | r0 => k (.c (.bool r0), [])) :=
  F33_ace_eqg fuel (F_slices_IndexFunc_api_Bitmap_api_Bitmap_ace fuel) x0 k
theorem hG33_ace (fuel : Nat) : GOK Tryz.prog (G33_ace fuel) :=
  gok_cons ⟨ok77_ace fuel, enters_of Tryz.func77 (by kernel_rfl) rfl⟩ <|
  gok_nil
theorem fok33_ace (fuel : Nat) : FnOK Tryz.prog 33 (evalFn tab (G33_ace fuel) (J33_ace fuel) kp33_ace fuel Tryz.f33) :=
  fn_ok tab_ok (hG33_ace fuel) mixed Tryz.func33 (c := (Tryz.f33.body).getD .skip) rfl (fun q hq => by
    rw [(by kernel_rfl : obl (J33_ace fuel) ((Tryz.f33.body).getD .skip) = [])] at hq
    cases hq)
noncomputable def mt33_ace : List Ev.SV → List Ev.Ob → Bool := fun args objs => match args, objs with
  | [.c (.sl (.pair (.int .i64) (.pair (.int .i64) (.sl (.int .u8)))) _), .c (.clo q0 [])], [] => Nat.beq q0 34
  | _, _ => false
noncomputable def spg33_ace (F : YF33_ace) : Ev.Spec := fun args objs k => match args, objs with
  | [.c (.sl (.pair (.int .i64) (.pair (.int .i64) (.sl (.int .u8)))) x0), .c (.clo q0 [])], [] => bif Nat.beq q0 34 then F x0 (fun r => match r with | r0 => k (.c (.bool r0), [])) else none
  | _, _ => none
noncomputable def spec33_ace (fuel : Nat) : Ev.Spec := spg33_ace (F_slices_ContainsFunc_api_Bitmap_api_Bitmap_ace fuel)
theorem ok33_ace (fuel : Nat) : FnOK Tryz.prog 33 (spec33_ace fuel) := by
  intro args objs kk r h
  unfold spec33_ace spg33_ace at h
  split at h
  · skip
    obtain ⟨hb, h⟩ := cond_some' h
    simp only [Bool.and_eq_true, Nat.beq_eq, decide_eq_true_eq] at hb
    obtain rfl := hb
    exact fok33_ace fuel _ _ kk r ((F33_ace_eq fuel _ kk).trans h)
  · cases h
end Go.Proofs.YtmjeeaemmbkioaaGreat

set_option linter.unusedVariables false
set_option linter.unusedSimpArgs false
set_option maxRecDepth 100000
set_option maxHeartbeats 2000000
namespace Go.Proofs.YtmjeeaemmbkioaaGreat
open Go Ev
def kp52 (i : Nat) : Option (List Nat) := Ev.look i []
noncomputable def Gg52 (f : Nat) : Option Ev.Spec := Ev.look f []
noncomputable def G52 (fuel : Nat) : Nat → Option Ev.Spec := Gg52
noncomputable def J52 (fuel : Nat) (i : Nat) : Option Ev.Blk := Ev.look i []
noncomputable def F_slices_Clone_byte_byte (fuel : Nat) (x0 : (List Int)) (k0 : ((List Int)) → Option Ans) : Option Ans :=
  bif Decidable.decide ((↑x0.length : Int) = (0 : Int)) then
   both (k0 [])
    (bif Decidable.decide (((0 : Nat) + x0.length) * (1 : Nat) ≤ (140737488355328 : Nat) ∧ (0 : Nat) + x0.length ≤ (140737488355328 : Nat)) then
     k0 ([] ++ x0)
     else none)
  else
   bif Decidable.decide (((0 : Nat) + x0.length) * (1 : Nat) ≤ (140737488355328 : Nat) ∧ (0 : Nat) + x0.length ≤ (140737488355328 : Nat)) then
   k0 ([] ++ x0)
   else none
abbrev YF52 : Type := ((List Int)) → (((List Int)) → Option Ans) → Option Ans
theorem F52_eq (fuel : Nat) (x0 : (List Int)) (k : Ev.Cont) : evalFn tab (G52 fuel) (J52 fuel) kp52 fuel Tryz.f52 [.c (.sl (.int .u8) x0)] [] k = F_slices_Clone_byte_byte fuel x0 (fun r => match r with | r0 => k (.c (.own 0), [.vec 5 (.int .u8) r0 true])) := by
  kernel_rfl
theorem hG52 (fuel : Nat) : GOK Tryz.prog (G52 fuel) :=
  gok_nil
theorem fok52 (fuel : Nat) : FnOK Tryz.prog 52 (evalFn tab (G52 fuel) (J52 fuel) kp52 fuel Tryz.f52) :=
  fn_ok tab_ok (hG52 fuel) mixed Tryz.func52 (c := (Tryz.f52.body).getD .skip) rfl (fun q hq => by
    rw [(by kernel_rfl : obl (J52 fuel) ((Tryz.f52.body).getD .skip) = [])] at hq
    cases hq)
noncomputable def mt52 : List Ev.SV → List Ev.Ob → Bool := fun args objs => match args, objs with
  | [.c (.sl (.int .u8) _)], [] => true
  | _, _ => false
noncomputable def spg52 (F : YF52) : Ev.Spec := fun args objs k => match args, objs with
  | [.c (.sl (.int .u8) x0)], [] => bif true then F x0 (fun r => match r with | r0 => k (.c (.own 0), [.vec 5 (.int .u8) r0 true])) else none
  | _, _ => none
noncomputable def spec52 (fuel : Nat) : Ev.Spec := spg52 (F_slices_Clone_byte_byte fuel)
theorem ok52 (fuel : Nat) : FnOK Tryz.prog 52 (spec52 fuel) := by
  intro args objs kk r h
  unfold spec52 spg52 at h
  split at h
  · skip
    obtain ⟨hb, h⟩ := cond_some' h
    simp only [Bool.and_eq_true, Nat.beq_eq, decide_eq_true_eq] at hb
    clear hb
    exact fok52 fuel _ _ kk r ((F52_eq fuel _ kk).trans h)
  · cases h
end Go.Proofs.YtmjeeaemmbkioaaGreat

set_option linter.unusedVariables false
set_option linter.unusedSimpArgs false
set_option maxRecDepth 100000
set_option maxHeartbeats 2000000
namespace Go.Proofs.YtmjeeaemmbkioaaGreat
open Go Ev
def kp38 (i : Nat) : Option (List Nat) := Ev.look i []
noncomputable def Gg38 (f52 : YF52) (f : Nat) : Option Ev.Spec := Ev.look f [(52, spg52 f52)]
noncomputable def G38 (fuel : Nat) : Nat → Option Ev.Spec := Gg38 (F_slices_Clone_byte_byte fuel)
noncomputable def J38 (fuel : Nat) (i : Nat) : Option Ev.Blk := Ev.look i []
noncomputable def F_symbol_own (fuel : Nat) (x0 : Int) (x1 : Int) (x2 : (List Int)) (k0 : (Int × Int × (List Int)) → Option Ans) : Option Ans :=
  (F_slices_Clone_byte_byte fuel (x2)
    (fun y2 =>
      k0 (x0, x1, y2)))
abbrev YF38 : Type := (Int) → (Int) → ((List Int)) → ((Int × Int × (List Int)) → Option Ans) → Option Ans
theorem F38_eqg (fuel : Nat) (f52 : YF52) (x0 : Int) (x1 : Int) (x2 : (List Int)) (k : Ev.Cont) : evalFn tab (Gg38 f52) (J38 fuel) kp38 fuel Tryz.f38 [.agg [.int .i64 x0, .int .i64 x1, .sl (.int .u8) x2]] [] k = (fun  (k0 : (Int × Int × (List Int)) → Option Ans) =>
  (f52 (x2)
    (fun y2 =>
      k0 (x0, x1, y2)))) (fun r => match r with | (r0, r1, r2) => k (.agg [.int .i64 r0, .int .i64 r1, .own 0], [.vec 5 (.int .u8) r2 true])) := by
  kernel_rfl
theorem F38_eq (fuel : Nat) (x0 : Int) (x1 : Int) (x2 : (List Int)) (k : Ev.Cont) : evalFn tab (G38 fuel) (J38 fuel) kp38 fuel Tryz.f38 [.agg [.int .i64 x0, .int .i64 x1, .sl (.int .u8) x2]] [] k = F_symbol_own fuel x0 x1 x2 (fun r => match r with | (r0, r1, r2) => k (.agg [.int .i64 r0, .int .i64 r1, .own 0], [.vec 5 (.int .u8) r2 true])) :=
  F38_eqg fuel (F_slices_Clone_byte_byte fuel) x0 x1 x2 k
theorem hG38 (fuel : Nat) : GOK Tryz.prog (G38 fuel) :=
  gok_cons ⟨ok52 fuel, enters_of Tryz.func52 (by kernel_rfl) rfl⟩ <|
  gok_nil
theorem fok38 (fuel : Nat) : FnOK Tryz.prog 38 (evalFn tab (G38 fuel) (J38 fuel) kp38 fuel Tryz.f38) :=
  fn_ok tab_ok (hG38 fuel) mixed Tryz.func38 (c := (Tryz.f38.body).getD .skip) rfl (fun q hq => by
    rw [(by kernel_rfl : obl (J38 fuel) ((Tryz.f38.body).getD .skip) = [])] at hq
    cases hq)
noncomputable def mt38 : List Ev.SV → List Ev.Ob → Bool := fun args objs => match args, objs with
  | [.agg [.int .i64 _, .int .i64 _, .sl (.int .u8) _]], [] => true
  | _, _ => false
noncomputable def spg38 (F : YF38) : Ev.Spec := fun args objs k => match args, objs with
  | [.agg [.int .i64 x0, .int .i64 x1, .sl (.int .u8) x2]], [] => bif true then F x0 x1 x2 (fun r => match r with | (r0, r1, r2) => k (.agg [.int .i64 r0, .int .i64 r1, .own 0], [.vec 5 (.int .u8) r2 true])) else none
  | _, _ => none
noncomputable def spec38 (fuel : Nat) : Ev.Spec := spg38 (F_symbol_own fuel)
theorem ok38 (fuel : Nat) : FnOK Tryz.prog 38 (spec38 fuel) := by
  intro args objs kk r h
  unfold spec38 spg38 at h
  split at h
  · skip
    obtain ⟨hb, h⟩ := cond_some' h
    simp only [Bool.and_eq_true, Nat.beq_eq, decide_eq_true_eq] at hb
    clear hb
    exact fok38 fuel _ _ kk r ((F38_eq fuel _ _ _ kk).trans h)
  · cases h
end Go.Proofs.YtmjeeaemmbkioaaGreat

set_option linter.unusedVariables false
set_option linter.unusedSimpArgs false
set_option maxRecDepth 100000
set_option maxHeartbeats 2000000
namespace Go.Proofs.YtmjeeaemmbkioaaGreat
open Go Ev
def kp36 (i : Nat) : Option (List Nat) := Ev.look i [(2, [0, 1, 9, 10, 11]), (8, [0, 1, 20, 21, 22]), (100000, [0, 1]), (100002, [0, 1]), (200010, [1, 8]), (400000, [4]), (400002, [4])]
noncomputable def Gg36 (f35 : YF35) (f : Nat) : Option Ev.Spec := Ev.look f [(35, spg35 f35)]
noncomputable def G36 (fuel : Nat) : Nat → Option Ev.Spec := Gg36 (F_symbol_isShape fuel)
noncomputable def S_symbol_rightShapes_0 (fuel : Nat) (v : (List (Int × (Int × (List Int)))) × (List ((Int × (Int × (List Int))) × Int)) × (List ((Int × (Int × (List Int))) × Int)) × Int × Int) (c : ((List (Int × (Int × (List Int)))) × (List ((Int × (Int × (List Int))) × Int)) × (List ((Int × (Int × (List Int))) × Int)) × Int × Int) → Option Ans) (B : (Int → Option Ans) × ((List (Int × (Int × (List Int)))) × (List ((Int × (Int × (List Int))) × Int)) → Option Ans)) : Option Ans := match v, B with
  | (x0, x1, x2, x3, x4), (ret, b) =>
   bif Decidable.decide (x4 < x3) then
      bif Decidable.decide ((0 : Int) ≤ x4 ∧ x4 < (↑x2.length : Int)) then
      (F_symbol_isShape fuel ((x2.getD x4.toNat (((0 : Int), (0 : Int), []), (0 : Int))).fst.fst) ((x2.getD x4.toNat (((0 : Int), (0 : Int), []), (0 : Int))).fst.snd.fst) ((x2.getD x4.toNat (((0 : Int), (0 : Int), []), (0 : Int))).fst.snd.snd)
         (fun y4 =>
           bif !y4 then
            ret ((30 : Int))
           else
            c (x0, x1, x2, x3, Go.IntKind.i64.wrap (x4 + (1 : Int)))))
      else none
     else
      b (x0, x1)
noncomputable def L_symbol_rightShapes_0 (fuel : Nat) (v : (List (Int × (Int × (List Int)))) × (List ((Int × (Int × (List Int))) × Int)) × (List ((Int × (Int × (List Int))) × Int)) × Int × Int) (ret : (Int → Option Ans)) (b : ((List (Int × (Int × (List Int)))) × (List ((Int × (Int × (List Int))) × Int)) → Option Ans)) : Option Ans := iter (S_symbol_rightShapes_0 fuel) fuel v (ret, b)
noncomputable def J36_0 (fuel : Nat) (i : Nat) : Option Ev.Blk := Ev.look i []
noncomputable def T36_0 (v : (List (Int × (Int × (List Int)))) × (List ((Int × (Int × (List Int))) × Int)) × (List ((Int × (Int × (List Int))) × Int)) × Int × Int) : Ev.St := match v with | (x0, x1, x2, x3, x4) => ⟨[(0, .c (.sl (.pair (.int .i64) (.pair (.int .i64) (.sl (.int .u8)))) x0)), (1, .c (.sl (.pair (.pair (.int .i64) (.pair (.int .i64) (.sl (.int .u8)))) (.int .i64)) x1)), (9, .c (.sl (.pair (.pair (.int .i64) (.pair (.int .i64) (.sl (.int .u8)))) (.int .i64)) x2)), (10, .c (.int .i64 x3)), (11, .c (.int .i64 x4))], [], 0, 0⟩
noncomputable def E36_0 (K : Ev.Ex → Ev.St → Option Ans) : (Int → Option Ans) × ((List (Int × (Int × (List Int)))) × (List ((Int × (Int × (List Int))) × Int)) → Option Ans) := ((fun v => match v with | x0 => K .ret ⟨[(4, .c (.int .i64 x0))], [], 0, 0⟩), (fun v => match v with | (x0, x1) => K .normal ⟨[(0, .c (.sl (.pair (.int .i64) (.pair (.int .i64) (.sl (.int .u8)))) x0)), (1, .c (.sl (.pair (.pair (.int .i64) (.pair (.int .i64) (.sl (.int .u8)))) (.int .i64)) x1))], [], 0, 0⟩))
theorem S36_0_okg (fuel : Nat) (f35 : YF35) (R : Ev.St → Option Ans) (K : Ev.Ex → Ev.St → Option Ans) (x0 : (List (Int × (Int × (List Int))))) (x1 : (List ((Int × (Int × (List Int))) × Int))) (x2 : (List ((Int × (Int × (List Int))) × Int))) (x3 : Int) (x4 : Int) : evalCode tab (Gg36 f35) (J36_0 fuel) kp36 fuel (bodyOf 0 Tryz.f36) (T36_0 (x0, x1, x2, x3, x4)) (lc kp36 2 0 R K) = (fun (c : ((List (Int × (Int × (List Int)))) × (List ((Int × (Int × (List Int))) × Int)) × (List ((Int × (Int × (List Int))) × Int)) × Int × Int) → Option Ans) (B : (Int → Option Ans) × ((List (Int × (Int × (List Int)))) × (List ((Int × (Int × (List Int))) × Int)) → Option Ans)) => match B with
  | (ret, b) =>
   bif Decidable.decide (x4 < x3) then
      bif Decidable.decide ((0 : Int) ≤ x4 ∧ x4 < (↑x2.length : Int)) then
      (f35 ((x2.getD x4.toNat (((0 : Int), (0 : Int), []), (0 : Int))).fst.fst) ((x2.getD x4.toNat (((0 : Int), (0 : Int), []), (0 : Int))).fst.snd.fst) ((x2.getD x4.toNat (((0 : Int), (0 : Int), []), (0 : Int))).fst.snd.snd)
         (fun y4 =>
           bif !y4 then
            ret ((30 : Int))
           else
            c (x0, x1, x2, x3, Go.IntKind.i64.wrap (x4 + (1 : Int)))))
      else none
     else
      b (x0, x1)) (fun v => R (T36_0 v)) (E36_0 K) := by
  kernel_rfl
theorem S36_0_ok (fuel : Nat) (R : Ev.St → Option Ans) (K : Ev.Ex → Ev.St → Option Ans) (x0 : (List (Int × (Int × (List Int))))) (x1 : (List ((Int × (Int × (List Int))) × Int))) (x2 : (List ((Int × (Int × (List Int))) × Int))) (x3 : Int) (x4 : Int) : evalCode tab (G36 fuel) (J36_0 fuel) kp36 fuel (bodyOf 0 Tryz.f36) (T36_0 (x0, x1, x2, x3, x4)) (lc kp36 2 0 R K) = S_symbol_rightShapes_0 fuel (x0, x1, x2, x3, x4) (fun v => R (T36_0 v)) (E36_0 K) :=
  S36_0_okg fuel (F_symbol_isShape fuel) R K x0 x1 x2 x3 x4
noncomputable def B36_0 (fuel : Nat) : Ev.Blk := fun st K => match canonO (kp36 2) st with
  | some s => (match s with
    | ⟨[(q0, .c (.sl (.pair (.int .i64) (.pair (.int .i64) (.sl (.int .u8)))) x0)), (q1, .c (.sl (.pair (.pair (.int .i64) (.pair (.int .i64) (.sl (.int .u8)))) (.int .i64)) x1)), (q2, .c (.sl (.pair (.pair (.int .i64) (.pair (.int .i64) (.sl (.int .u8)))) (.int .i64)) x2)), (q3, .c (.int .i64 x3)), (q4, .c (.int .i64 x4))], [], q5, q6⟩ => bif Nat.beq q0 0 && Nat.beq q1 1 && Nat.beq q2 9 && Nat.beq q3 10 && Nat.beq q4 11 && Nat.beq q5 0 && Nat.beq q6 0 then iter (S_symbol_rightShapes_0 fuel) fuel (x0, x1, x2, x3, x4) (E36_0 K) else none
    | _ => none)
  | none => none
theorem B36_0_ok (fuel : Nat) (st : Ev.St) (K : Ev.Ex → Ev.St → Option Ans) (r : Ans) (h : B36_0 fuel st K = some r) : evalCode tab (G36 fuel) (J36_0 fuel) kp36 fuel (.block 0 (.loop (bodyOf 0 Tryz.f36))) st K = some r := by
  unfold B36_0 at h
  split at h
  · rename_i s hs
    split at h
    · skip
      obtain ⟨hb, h⟩ := cond_some' h
      simp only [Bool.and_eq_true, Nat.beq_eq, decide_eq_true_eq] at hb
      obtain ⟨⟨⟨⟨⟨⟨rfl, rfl⟩, rfl⟩, rfl⟩, rfl⟩, rfl⟩, rfl⟩ := hb
      exact blk_loop (S := T36_0) (ks := E36_0) (step := S_symbol_rightShapes_0 fuel) (v := (_, _, _, _, _)) (by kernel_rfl) (by kernel_rfl) (fun R K v => by obtain ⟨x0, x1, x2, x3, x4⟩ := v; exact S36_0_ok fuel R K x0 x1 x2 x3 x4) hs h
    · cases h
  · cases h
noncomputable def S_symbol_rightShapes_2 (fuel : Nat) (v : (List (Int × (Int × (List Int)))) × (List ((Int × (Int × (List Int))) × Int)) × (List ((Int × (Int × (List Int))) × Int)) × Int × Int) (c : ((List (Int × (Int × (List Int)))) × (List ((Int × (Int × (List Int))) × Int)) × (List ((Int × (Int × (List Int))) × Int)) × Int × Int) → Option Ans) (B : (Int → Option Ans) × ((List (Int × (Int × (List Int)))) × (List ((Int × (Int × (List Int))) × Int)) → Option Ans)) : Option Ans := match v, B with
  | (x0, x1, x2, x3, x4), (ret, b) =>
   bif Decidable.decide (x4 < x3) then
      bif Decidable.decide ((0 : Int) ≤ x4 ∧ x4 < (↑x2.length : Int)) then
      bif Decidable.decide ((x2.getD x4.toNat (((0 : Int), (0 : Int), []), (0 : Int))).snd < (-1 : Int)) then
        ret ((2 : Int))
       else
        bif Decidable.decide ((x2.getD x4.toNat (((0 : Int), (0 : Int), []), (0 : Int))).snd ≥ Go.IntKind.i64.wrap ((↑x0.length : Int) + x4)) then
         ret ((2 : Int))
        else
         bif Decidable.decide (x4 > (0 : Int)) then
          bif Decidable.decide ((0 : Int) ≤ Go.IntKind.i64.wrap (x4 - (1 : Int)) ∧ Go.IntKind.i64.wrap (x4 - (1 : Int)) < (↑x1.length : Int)) then
          bif Decidable.decide ((x2.getD x4.toNat (((0 : Int), (0 : Int), []), (0 : Int))).fst.snd.fst < (x1.getD (Go.IntKind.i64.wrap (x4 - (1 : Int))).toNat (((0 : Int), (0 : Int), []), (0 : Int))).fst.snd.fst) then
            ret ((2 : Int))
           else
            c (x0, x1, x2, x3, Go.IntKind.i64.wrap (x4 + (1 : Int)))
          else none
         else
          c (x0, x1, x2, x3, Go.IntKind.i64.wrap (x4 + (1 : Int)))
      else none
     else
      b (x0, x1)
noncomputable def L_symbol_rightShapes_2 (fuel : Nat) (v : (List (Int × (Int × (List Int)))) × (List ((Int × (Int × (List Int))) × Int)) × (List ((Int × (Int × (List Int))) × Int)) × Int × Int) (ret : (Int → Option Ans)) (b : ((List (Int × (Int × (List Int)))) × (List ((Int × (Int × (List Int))) × Int)) → Option Ans)) : Option Ans := iter (S_symbol_rightShapes_2 fuel) fuel v (ret, b)
noncomputable def J36_2 (fuel : Nat) (i : Nat) : Option Ev.Blk := Ev.look i [(100000, B36_0 fuel)]
noncomputable def T36_2 (v : (List (Int × (Int × (List Int)))) × (List ((Int × (Int × (List Int))) × Int)) × (List ((Int × (Int × (List Int))) × Int)) × Int × Int) : Ev.St := match v with | (x0, x1, x2, x3, x4) => ⟨[(0, .c (.sl (.pair (.int .i64) (.pair (.int .i64) (.sl (.int .u8)))) x0)), (1, .c (.sl (.pair (.pair (.int .i64) (.pair (.int .i64) (.sl (.int .u8)))) (.int .i64)) x1)), (20, .c (.sl (.pair (.pair (.int .i64) (.pair (.int .i64) (.sl (.int .u8)))) (.int .i64)) x2)), (21, .c (.int .i64 x3)), (22, .c (.int .i64 x4))], [], 0, 0⟩
noncomputable def E36_2 (K : Ev.Ex → Ev.St → Option Ans) : (Int → Option Ans) × ((List (Int × (Int × (List Int)))) × (List ((Int × (Int × (List Int))) × Int)) → Option Ans) := ((fun v => match v with | x0 => K .ret ⟨[(4, .c (.int .i64 x0))], [], 0, 0⟩), (fun v => match v with | (x0, x1) => K .normal ⟨[(0, .c (.sl (.pair (.int .i64) (.pair (.int .i64) (.sl (.int .u8)))) x0)), (1, .c (.sl (.pair (.pair (.int .i64) (.pair (.int .i64) (.sl (.int .u8)))) (.int .i64)) x1))], [], 0, 0⟩))
theorem S36_2_okg (fuel : Nat) (f35 : YF35) (R : Ev.St → Option Ans) (K : Ev.Ex → Ev.St → Option Ans) (x0 : (List (Int × (Int × (List Int))))) (x1 : (List ((Int × (Int × (List Int))) × Int))) (x2 : (List ((Int × (Int × (List Int))) × Int))) (x3 : Int) (x4 : Int) : evalCode tab (Gg36 f35) (J36_2 fuel) kp36 fuel (bodyOf 2 Tryz.f36) (T36_2 (x0, x1, x2, x3, x4)) (lc kp36 8 2 R K) = (fun (c : ((List (Int × (Int × (List Int)))) × (List ((Int × (Int × (List Int))) × Int)) × (List ((Int × (Int × (List Int))) × Int)) × Int × Int) → Option Ans) (B : (Int → Option Ans) × ((List (Int × (Int × (List Int)))) × (List ((Int × (Int × (List Int))) × Int)) → Option Ans)) => match B with
  | (ret, b) =>
   bif Decidable.decide (x4 < x3) then
      bif Decidable.decide ((0 : Int) ≤ x4 ∧ x4 < (↑x2.length : Int)) then
      bif Decidable.decide ((x2.getD x4.toNat (((0 : Int), (0 : Int), []), (0 : Int))).snd < (-1 : Int)) then
        ret ((2 : Int))
       else
        bif Decidable.decide ((x2.getD x4.toNat (((0 : Int), (0 : Int), []), (0 : Int))).snd ≥ Go.IntKind.i64.wrap ((↑x0.length : Int) + x4)) then
         ret ((2 : Int))
        else
         bif Decidable.decide (x4 > (0 : Int)) then
          bif Decidable.decide ((0 : Int) ≤ Go.IntKind.i64.wrap (x4 - (1 : Int)) ∧ Go.IntKind.i64.wrap (x4 - (1 : Int)) < (↑x1.length : Int)) then
          bif Decidable.decide ((x2.getD x4.toNat (((0 : Int), (0 : Int), []), (0 : Int))).fst.snd.fst < (x1.getD (Go.IntKind.i64.wrap (x4 - (1 : Int))).toNat (((0 : Int), (0 : Int), []), (0 : Int))).fst.snd.fst) then
            ret ((2 : Int))
           else
            c (x0, x1, x2, x3, Go.IntKind.i64.wrap (x4 + (1 : Int)))
          else none
         else
          c (x0, x1, x2, x3, Go.IntKind.i64.wrap (x4 + (1 : Int)))
      else none
     else
      b (x0, x1)) (fun v => R (T36_2 v)) (E36_2 K) := by
  kernel_rfl
theorem S36_2_ok (fuel : Nat) (R : Ev.St → Option Ans) (K : Ev.Ex → Ev.St → Option Ans) (x0 : (List (Int × (Int × (List Int))))) (x1 : (List ((Int × (Int × (List Int))) × Int))) (x2 : (List ((Int × (Int × (List Int))) × Int))) (x3 : Int) (x4 : Int) : evalCode tab (G36 fuel) (J36_2 fuel) kp36 fuel (bodyOf 2 Tryz.f36) (T36_2 (x0, x1, x2, x3, x4)) (lc kp36 8 2 R K) = S_symbol_rightShapes_2 fuel (x0, x1, x2, x3, x4) (fun v => R (T36_2 v)) (E36_2 K) :=
  S36_2_okg fuel (F_symbol_isShape fuel) R K x0 x1 x2 x3 x4
noncomputable def B36_2 (fuel : Nat) : Ev.Blk := fun st K => match canonO (kp36 8) st with
  | some s => (match s with
    | ⟨[(q0, .c (.sl (.pair (.int .i64) (.pair (.int .i64) (.sl (.int .u8)))) x0)), (q1, .c (.sl (.pair (.pair (.int .i64) (.pair (.int .i64) (.sl (.int .u8)))) (.int .i64)) x1)), (q2, .c (.sl (.pair (.pair (.int .i64) (.pair (.int .i64) (.sl (.int .u8)))) (.int .i64)) x2)), (q3, .c (.int .i64 x3)), (q4, .c (.int .i64 x4))], [], q5, q6⟩ => bif Nat.beq q0 0 && Nat.beq q1 1 && Nat.beq q2 20 && Nat.beq q3 21 && Nat.beq q4 22 && Nat.beq q5 0 && Nat.beq q6 0 then iter (S_symbol_rightShapes_2 fuel) fuel (x0, x1, x2, x3, x4) (E36_2 K) else none
    | _ => none)
  | none => none
theorem B36_2_ok (fuel : Nat) (st : Ev.St) (K : Ev.Ex → Ev.St → Option Ans) (r : Ans) (h : B36_2 fuel st K = some r) : evalCode tab (G36 fuel) (J36_2 fuel) kp36 fuel (.block 2 (.loop (bodyOf 2 Tryz.f36))) st K = some r := by
  unfold B36_2 at h
  split at h
  · rename_i s hs
    split at h
    · skip
      obtain ⟨hb, h⟩ := cond_some' h
      simp only [Bool.and_eq_true, Nat.beq_eq, decide_eq_true_eq] at hb
      obtain ⟨⟨⟨⟨⟨⟨rfl, rfl⟩, rfl⟩, rfl⟩, rfl⟩, rfl⟩, rfl⟩ := hb
      exact blk_loop (S := T36_2) (ks := E36_2) (step := S_symbol_rightShapes_2 fuel) (v := (_, _, _, _, _)) (by kernel_rfl) (by kernel_rfl) (fun R K v => by obtain ⟨x0, x1, x2, x3, x4⟩ := v; exact S36_2_ok fuel R K x0 x1 x2 x3 x4) hs h
    · cases h
  · cases h
noncomputable def J36 (fuel : Nat) (i : Nat) : Option Ev.Blk := Ev.look i [(100000, B36_0 fuel), (100002, B36_2 fuel)]
noncomputable def F_symbol_rightShapes (fuel : Nat) (x0 : (List (Int × Int × (List Int)))) (x1 : (List ((Int × Int × (List Int)) × Int))) (k0 : (Int) → Option Ans) : Option Ans :=
  (L_symbol_rightShapes_0 fuel (x0, x1, x1, (↑x1.length : Int), (0 : Int))
    (fun ret0_0 =>
      k0 ret0_0)
    (fun (b0_0, b0_1) =>
      (L_symbol_rightShapes_2 fuel (b0_0, b0_1, b0_1, (↑b0_1.length : Int), (0 : Int))
        (fun ret2_0 =>
          k0 ret2_0)
        (fun (b2_0, b2_1) =>
          bif Decidable.decide (Go.IntKind.i64.wrap ((↑b2_0.length : Int) + (↑b2_1.length : Int)) > (60 : Int)) then
           k0 ((2 : Int))
          else
           k0 ((0 : Int))))))
abbrev YF36 : Type := ((List (Int × Int × (List Int)))) → ((List ((Int × Int × (List Int)) × Int))) → ((Int) → Option Ans) → Option Ans
theorem F36_eqg (fuel : Nat) (f35 : YF35) (x0 : (List (Int × Int × (List Int)))) (x1 : (List ((Int × Int × (List Int)) × Int))) (k : Ev.Cont) : evalFn tab (Gg36 f35) (J36 fuel) kp36 fuel Tryz.f36 [.c (.sl (.pair (.int .i64) (.pair (.int .i64) (.sl (.int .u8)))) x0), .c (.sl (.pair (.pair (.int .i64) (.pair (.int .i64) (.sl (.int .u8)))) (.int .i64)) x1)] [] k = (fun  (k0 : (Int) → Option Ans) =>
  (L_symbol_rightShapes_0 fuel (x0, x1, x1, (↑x1.length : Int), (0 : Int))
    (fun ret0_0 =>
      k0 ret0_0)
    (fun (b0_0, b0_1) =>
      (L_symbol_rightShapes_2 fuel (b0_0, b0_1, b0_1, (↑b0_1.length : Int), (0 : Int))
        (fun ret2_0 =>
          k0 ret2_0)
        (fun (b2_0, b2_1) =>
          bif Decidable.decide (Go.IntKind.i64.wrap ((↑b2_0.length : Int) + (↑b2_1.length : Int)) > (60 : Int)) then
           k0 ((2 : Int))
          else
           k0 ((0 : Int))))))) (fun r => match r with | r0 => k (.c (.int .i64 r0), [])) := by
  kernel_rfl
theorem F36_eq (fuel : Nat) (x0 : (List (Int × Int × (List Int)))) (x1 : (List ((Int × Int × (List Int)) × Int))) (k : Ev.Cont) : evalFn tab (G36 fuel) (J36 fuel) kp36 fuel Tryz.f36 [.c (.sl (.pair (.int .i64) (.pair (.int .i64) (.sl (.int .u8)))) x0), .c (.sl (.pair (.pair (.int .i64) (.pair (.int .i64) (.sl (.int .u8)))) (.int .i64)) x1)] [] k = F_symbol_rightShapes fuel x0 x1 (fun r => match r with | r0 => k (.c (.int .i64 r0), [])) :=
  F36_eqg fuel (F_symbol_isShape fuel) x0 x1 k
theorem hG36 (fuel : Nat) : GOK Tryz.prog (G36 fuel) :=
  gok_cons ⟨ok35 fuel, enters_of Tryz.func35 (by kernel_rfl) rfl⟩ <|
  gok_nil
theorem B36_0_blk (fuel : Nat) : BlkOK Tryz.prog Tryz.f36.ntmps (.block 0 (.loop (bodyOf 0 Tryz.f36))) (B36_0 fuel) :=
  blk_of (blk_of_code tab_ok (hG36 fuel) mixed (J := J36_0 fuel) (kp := kp36) (fuel := fuel) (by kernel_rfl) (fun q hq => by
    rw [(by kernel_rfl : obl (J36_0 fuel) (.block 0 (.loop (bodyOf 0 Tryz.f36))) = [])] at hq
    cases hq)) (B36_0_ok fuel)
theorem B36_2_blk (fuel : Nat) : BlkOK Tryz.prog Tryz.f36.ntmps (.block 2 (.loop (bodyOf 2 Tryz.f36))) (B36_2 fuel) :=
  blk_of (blk_of_code tab_ok (hG36 fuel) mixed (J := J36_2 fuel) (kp := kp36) (fuel := fuel) (by kernel_rfl) (fun q hq => by
    rw [(by kernel_rfl : obl (J36_2 fuel) (.block 2 (.loop (bodyOf 2 Tryz.f36))) = [])] at hq
    cases hq)) (B36_2_ok fuel)
theorem fok36 (fuel : Nat) : FnOK Tryz.prog 36 (evalFn tab (G36 fuel) (J36 fuel) kp36 fuel Tryz.f36) :=
  fn_ok tab_ok (hG36 fuel) mixed Tryz.func36 (c := (Tryz.f36.body).getD .skip) rfl (fun q hq => by
    rw [(by kernel_rfl : obl (J36 fuel) ((Tryz.f36.body).getD .skip) = [(.block 0 (.loop (bodyOf 0 Tryz.f36)), B36_0 fuel), (.block 2 (.loop (bodyOf 2 Tryz.f36)), B36_2 fuel)])] at hq
    simp only [List.mem_cons, List.not_mem_nil, or_false] at hq
    rcases hq with rfl | rfl
    · exact B36_0_blk fuel
    · exact B36_2_blk fuel)
noncomputable def mt36 : List Ev.SV → List Ev.Ob → Bool := fun args objs => match args, objs with
  | [.c (.sl (.pair (.int .i64) (.pair (.int .i64) (.sl (.int .u8)))) _), .c (.sl (.pair (.pair (.int .i64) (.pair (.int .i64) (.sl (.int .u8)))) (.int .i64)) _)], [] => true
  | _, _ => false
noncomputable def spg36 (F : YF36) : Ev.Spec := fun args objs k => match args, objs with
  | [.c (.sl (.pair (.int .i64) (.pair (.int .i64) (.sl (.int .u8)))) x0), .c (.sl (.pair (.pair (.int .i64) (.pair (.int .i64) (.sl (.int .u8)))) (.int .i64)) x1)], [] => bif true then F x0 x1 (fun r => match r with | r0 => k (.c (.int .i64 r0), [])) else none
  | _, _ => none
noncomputable def spec36 (fuel : Nat) : Ev.Spec := spg36 (F_symbol_rightShapes fuel)
theorem ok36 (fuel : Nat) : FnOK Tryz.prog 36 (spec36 fuel) := by
  intro args objs kk r h
  unfold spec36 spg36 at h
  split at h
  · skip
    obtain ⟨hb, h⟩ := cond_some' h
    simp only [Bool.and_eq_true, Nat.beq_eq, decide_eq_true_eq] at hb
    clear hb
    exact fok36 fuel _ _ kk r ((F36_eq fuel _ _ kk).trans h)
  · cases h
end Go.Proofs.YtmjeeaemmbkioaaGreat

set_option linter.unusedVariables false
set_option linter.unusedSimpArgs false
set_option maxRecDepth 100000
set_option maxHeartbeats 2000000
namespace Go.Proofs.YtmjeeaemmbkioaaGreat
open Go Ev
def kp13 (i : Nat) : Option (List Nat) := Ev.look i [(10, [2, 9, 33, 34, 35]), (16, [9, 12, 45, 46, 47]), (100000, [2, 9]), (100002, [12]), (400000, [6, 7]), (400002, [6, 7])]
noncomputable def Gg13 (f33_ace : YF33_ace) (f36 : YF36) (f37 : YF37) (f38 : YF38) (f : Nat) : Option Ev.Spec := Ev.look f [(33, spg33_ace f33_ace), (36, spg36 f36), (37, spg37 f37), (38, spg38 f38)]
noncomputable def G13 (fuel : Nat) : Nat → Option Ev.Spec := Gg13 (F_slices_ContainsFunc_api_Bitmap_api_Bitmap_ace fuel) (F_symbol_rightShapes fuel) (F_slices_Clone_api_Bitmap_api_Bitmap fuel) (F_symbol_own fuel)
noncomputable def S_symbol_Exported_0 (fuel : Nat) (v : (List Bool) × (List ((Int × (Int × (List Int))) × Int)) × Int × Int × (List (Int × (Int × (List Int))))) (c : ((List Bool) × (List ((Int × (Int × (List Int))) × Int)) × Int × Int × (List (Int × (Int × (List Int))))) → Option Ans) (B : ((List Bool) × (List (Int × (Int × (List Int)))) → Option Ans)) : Option Ans := match v, B with
  | (x0, x1, x2, x3, x4), b =>
   bif Decidable.decide (x3 < x2) then
      bif Decidable.decide ((0 : Int) ≤ x3 ∧ x3 < (↑x1.length : Int)) then
      bif Decidable.decide ((x4.length + (1 : Nat)) * (40 : Nat) ≤ (140737488355328 : Nat) ∧ x4.length + (1 : Nat) ≤ (140737488355328 : Nat)) then
       c (x0, x1, x2, Go.IntKind.i64.wrap (x3 + (1 : Int)), x4 ++ [((x1.getD x3.toNat (((0 : Int), (0 : Int), []), (0 : Int))).fst.fst, (x1.getD x3.toNat (((0 : Int), (0 : Int), []), (0 : Int))).fst.snd.fst, (x1.getD x3.toNat (((0 : Int), (0 : Int), []), (0 : Int))).fst.snd.snd)])
       else none
      else none
     else
      b (x0, x4)
noncomputable def L_symbol_Exported_0 (fuel : Nat) (v : (List Bool) × (List ((Int × (Int × (List Int))) × Int)) × Int × Int × (List (Int × (Int × (List Int))))) (b : ((List Bool) × (List (Int × (Int × (List Int)))) → Option Ans)) : Option Ans := iter (S_symbol_Exported_0 fuel) fuel v b
noncomputable def J13_0 (fuel : Nat) (i : Nat) : Option Ev.Blk := Ev.look i []
noncomputable def T13_0 (v : (List Bool) × (List ((Int × (Int × (List Int))) × Int)) × Int × Int × (List (Int × (Int × (List Int))))) : Ev.St := match v with | (x0, x1, x2, x3, x4) => ⟨[(2, .c (.sl .bool x0)), (9, .c (.own 0)), (33, .c (.sl (.pair (.pair (.int .i64) (.pair (.int .i64) (.sl (.int .u8)))) (.int .i64)) x1)), (34, .c (.int .i64 x2)), (35, .c (.int .i64 x3))], [(0, .vec 46 (.pair (.int .i64) (.pair (.int .i64) (.sl (.int .u8)))) x4 true)], 1, 0⟩
noncomputable def E13_0 (K : Ev.Ex → Ev.St → Option Ans) : ((List Bool) × (List (Int × (Int × (List Int)))) → Option Ans) := (fun v => match v with | (x0, x1) => K .normal ⟨[(2, .c (.sl .bool x0)), (9, .c (.own 0))], [(0, .vec 46 (.pair (.int .i64) (.pair (.int .i64) (.sl (.int .u8)))) x1 true)], 1, 0⟩)
theorem S13_0_okg (fuel : Nat) (f33_ace : YF33_ace) (f36 : YF36) (f37 : YF37) (f38 : YF38) (R : Ev.St → Option Ans) (K : Ev.Ex → Ev.St → Option Ans) (x0 : (List Bool)) (x1 : (List ((Int × (Int × (List Int))) × Int))) (x2 : Int) (x3 : Int) (x4 : (List (Int × (Int × (List Int))))) : evalCode tab (Gg13 f33_ace f36 f37 f38) (J13_0 fuel) kp13 fuel (bodyOf 0 Tryz.f13) (T13_0 (x0, x1, x2, x3, x4)) (lc kp13 10 0 R K) = (fun (c : ((List Bool) × (List ((Int × (Int × (List Int))) × Int)) × Int × Int × (List (Int × (Int × (List Int))))) → Option Ans) (B : ((List Bool) × (List (Int × (Int × (List Int)))) → Option Ans)) => match B with
  | b =>
   bif Decidable.decide (x3 < x2) then
      bif Decidable.decide ((0 : Int) ≤ x3 ∧ x3 < (↑x1.length : Int)) then
      bif Decidable.decide ((x4.length + (1 : Nat)) * (40 : Nat) ≤ (140737488355328 : Nat) ∧ x4.length + (1 : Nat) ≤ (140737488355328 : Nat)) then
       c (x0, x1, x2, Go.IntKind.i64.wrap (x3 + (1 : Int)), x4 ++ [((x1.getD x3.toNat (((0 : Int), (0 : Int), []), (0 : Int))).fst.fst, (x1.getD x3.toNat (((0 : Int), (0 : Int), []), (0 : Int))).fst.snd.fst, (x1.getD x3.toNat (((0 : Int), (0 : Int), []), (0 : Int))).fst.snd.snd)])
       else none
      else none
     else
      b (x0, x4)) (fun v => R (T13_0 v)) (E13_0 K) := by
  kernel_rfl
theorem S13_0_ok (fuel : Nat) (R : Ev.St → Option Ans) (K : Ev.Ex → Ev.St → Option Ans) (x0 : (List Bool)) (x1 : (List ((Int × (Int × (List Int))) × Int))) (x2 : Int) (x3 : Int) (x4 : (List (Int × (Int × (List Int))))) : evalCode tab (G13 fuel) (J13_0 fuel) kp13 fuel (bodyOf 0 Tryz.f13) (T13_0 (x0, x1, x2, x3, x4)) (lc kp13 10 0 R K) = S_symbol_Exported_0 fuel (x0, x1, x2, x3, x4) (fun v => R (T13_0 v)) (E13_0 K) :=
  S13_0_okg fuel (F_slices_ContainsFunc_api_Bitmap_api_Bitmap_ace fuel) (F_symbol_rightShapes fuel) (F_slices_Clone_api_Bitmap_api_Bitmap fuel) (F_symbol_own fuel) R K x0 x1 x2 x3 x4
noncomputable def B13_0 (fuel : Nat) : Ev.Blk := fun st K => match canonO (kp13 10) st with
  | some s => (match s with
    | ⟨[(q0, .c (.sl .bool x0)), (q1, .c (.own q2)), (q3, .c (.sl (.pair (.pair (.int .i64) (.pair (.int .i64) (.sl (.int .u8)))) (.int .i64)) x1)), (q4, .c (.int .i64 x2)), (q5, .c (.int .i64 x3))], [(q6, .vec q7 (.pair (.int .i64) (.pair (.int .i64) (.sl (.int .u8)))) x4 true)], q8, q9⟩ => bif Nat.beq q0 2 && Nat.beq q1 9 && Nat.beq q2 0 && Nat.beq q3 33 && Nat.beq q4 34 && Nat.beq q5 35 && Nat.beq q6 0 && Nat.beq q7 46 && Nat.beq q8 1 && Nat.beq q9 0 then iter (S_symbol_Exported_0 fuel) fuel (x0, x1, x2, x3, x4) (E13_0 K) else none
    | _ => none)
  | none => none
theorem B13_0_ok (fuel : Nat) (st : Ev.St) (K : Ev.Ex → Ev.St → Option Ans) (r : Ans) (h : B13_0 fuel st K = some r) : evalCode tab (G13 fuel) (J13_0 fuel) kp13 fuel (.block 0 (.loop (bodyOf 0 Tryz.f13))) st K = some r := by
  unfold B13_0 at h
  split at h
  · rename_i s hs
    split at h
    · skip
      obtain ⟨hb, h⟩ := cond_some' h
      simp only [Bool.and_eq_true, Nat.beq_eq, decide_eq_true_eq] at hb
      obtain ⟨⟨⟨⟨⟨⟨⟨⟨⟨rfl, rfl⟩, rfl⟩, rfl⟩, rfl⟩, rfl⟩, rfl⟩, rfl⟩, rfl⟩, rfl⟩ := hb
      exact blk_loop (S := T13_0) (ks := E13_0) (step := S_symbol_Exported_0 fuel) (v := (_, _, _, _, _)) (by kernel_rfl) (by kernel_rfl) (fun R K v => by obtain ⟨x0, x1, x2, x3, x4⟩ := v; exact S13_0_ok fuel R K x0 x1 x2 x3 x4) hs h
    · cases h
  · cases h
noncomputable def S_symbol_Exported_2 (fuel : Nat) (v : (List Bool) × Int × Int × (List (Int × (Int × (List Int)))) × (List (Int × (Int × (List Int))))) (c : ((List Bool) × Int × Int × (List (Int × (Int × (List Int)))) × (List (Int × (Int × (List Int))))) → Option Ans) (B : ((List (Int × (Int × (List Int)))) → Option Ans)) : Option Ans := match v, B with
  | (x0, x1, x2, x3, x4), b =>
   bif Decidable.decide (x2 < x1) then
      bif Decidable.decide ((0 : Int) ≤ x2 ∧ x2 < (↑x0.length : Int)) then
      bif x0.getD x2.toNat Bool.false then
        bif Decidable.decide ((0 : Int) ≤ x2 ∧ x2 < (↑x3.length : Int)) then
        (F_symbol_own fuel ((x3.getD x2.toNat ((0 : Int), (0 : Int), [])).fst) ((x3.getD x2.toNat ((0 : Int), (0 : Int), [])).snd.fst) ((x3.getD x2.toNat ((0 : Int), (0 : Int), [])).snd.snd)
           (fun (y6_0, y6_1, y6_2) =>
             bif Decidable.decide ((x4.length + (1 : Nat)) * (40 : Nat) ≤ (140737488355328 : Nat) ∧ x4.length + (1 : Nat) ≤ (140737488355328 : Nat)) then
             c (x0, x1, Go.IntKind.i64.wrap (x2 + (1 : Int)), x3, x4 ++ [(y6_0, y6_1, y6_2)])
             else none))
        else none
       else
        c (x0, x1, Go.IntKind.i64.wrap (x2 + (1 : Int)), x3, x4)
      else none
     else
      b x4
noncomputable def L_symbol_Exported_2 (fuel : Nat) (v : (List Bool) × Int × Int × (List (Int × (Int × (List Int)))) × (List (Int × (Int × (List Int))))) (b : ((List (Int × (Int × (List Int)))) → Option Ans)) : Option Ans := iter (S_symbol_Exported_2 fuel) fuel v b
noncomputable def J13_2 (fuel : Nat) (i : Nat) : Option Ev.Blk := Ev.look i [(100000, B13_0 fuel)]
noncomputable def T13_2 (v : (List Bool) × Int × Int × (List (Int × (Int × (List Int)))) × (List (Int × (Int × (List Int))))) : Ev.St := match v with | (x0, x1, x2, x3, x4) => ⟨[(9, .c (.own 0)), (12, .c (.own 1)), (45, .c (.sl .bool x0)), (46, .c (.int .i64 x1)), (47, .c (.int .i64 x2))], [(0, .vec 46 (.pair (.int .i64) (.pair (.int .i64) (.sl (.int .u8)))) x3 true), (1, .vec 46 (.pair (.int .i64) (.pair (.int .i64) (.sl (.int .u8)))) x4 true)], 2, 0⟩
noncomputable def E13_2 (K : Ev.Ex → Ev.St → Option Ans) : ((List (Int × (Int × (List Int)))) → Option Ans) := (fun v => match v with | x0 => K .normal ⟨[(12, .c (.own 0))], [(0, .vec 46 (.pair (.int .i64) (.pair (.int .i64) (.sl (.int .u8)))) x0 true)], 1, 0⟩)
theorem S13_2_okg (fuel : Nat) (f33_ace : YF33_ace) (f36 : YF36) (f37 : YF37) (f38 : YF38) (R : Ev.St → Option Ans) (K : Ev.Ex → Ev.St → Option Ans) (x0 : (List Bool)) (x1 : Int) (x2 : Int) (x3 : (List (Int × (Int × (List Int))))) (x4 : (List (Int × (Int × (List Int))))) : evalCode tab (Gg13 f33_ace f36 f37 f38) (J13_2 fuel) kp13 fuel (bodyOf 2 Tryz.f13) (T13_2 (x0, x1, x2, x3, x4)) (lc kp13 16 2 R K) = (fun (c : ((List Bool) × Int × Int × (List (Int × (Int × (List Int)))) × (List (Int × (Int × (List Int))))) → Option Ans) (B : ((List (Int × (Int × (List Int)))) → Option Ans)) => match B with
  | b =>
   bif Decidable.decide (x2 < x1) then
      bif Decidable.decide ((0 : Int) ≤ x2 ∧ x2 < (↑x0.length : Int)) then
      bif x0.getD x2.toNat Bool.false then
        bif Decidable.decide ((0 : Int) ≤ x2 ∧ x2 < (↑x3.length : Int)) then
        (f38 ((x3.getD x2.toNat ((0 : Int), (0 : Int), [])).fst) ((x3.getD x2.toNat ((0 : Int), (0 : Int), [])).snd.fst) ((x3.getD x2.toNat ((0 : Int), (0 : Int), [])).snd.snd)
           (fun (y6_0, y6_1, y6_2) =>
             bif Decidable.decide ((x4.length + (1 : Nat)) * (40 : Nat) ≤ (140737488355328 : Nat) ∧ x4.length + (1 : Nat) ≤ (140737488355328 : Nat)) then
             c (x0, x1, Go.IntKind.i64.wrap (x2 + (1 : Int)), x3, x4 ++ [(y6_0, y6_1, y6_2)])
             else none))
        else none
       else
        c (x0, x1, Go.IntKind.i64.wrap (x2 + (1 : Int)), x3, x4)
      else none
     else
      b x4) (fun v => R (T13_2 v)) (E13_2 K) := by
  kernel_rfl
theorem S13_2_ok (fuel : Nat) (R : Ev.St → Option Ans) (K : Ev.Ex → Ev.St → Option Ans) (x0 : (List Bool)) (x1 : Int) (x2 : Int) (x3 : (List (Int × (Int × (List Int))))) (x4 : (List (Int × (Int × (List Int))))) : evalCode tab (G13 fuel) (J13_2 fuel) kp13 fuel (bodyOf 2 Tryz.f13) (T13_2 (x0, x1, x2, x3, x4)) (lc kp13 16 2 R K) = S_symbol_Exported_2 fuel (x0, x1, x2, x3, x4) (fun v => R (T13_2 v)) (E13_2 K) :=
  S13_2_okg fuel (F_slices_ContainsFunc_api_Bitmap_api_Bitmap_ace fuel) (F_symbol_rightShapes fuel) (F_slices_Clone_api_Bitmap_api_Bitmap fuel) (F_symbol_own fuel) R K x0 x1 x2 x3 x4
noncomputable def B13_2 (fuel : Nat) : Ev.Blk := fun st K => match canonO (kp13 16) st with
  | some s => (match s with
    | ⟨[(q0, .c (.own q1)), (q2, .c (.own q3)), (q4, .c (.sl .bool x0)), (q5, .c (.int .i64 x1)), (q6, .c (.int .i64 x2))], [(q7, .vec q8 (.pair (.int .i64) (.pair (.int .i64) (.sl (.int .u8)))) x3 true), (q9, .vec q10 (.pair (.int .i64) (.pair (.int .i64) (.sl (.int .u8)))) x4 true)], q11, q12⟩ => bif Nat.beq q0 9 && Nat.beq q1 0 && Nat.beq q2 12 && Nat.beq q3 1 && Nat.beq q4 45 && Nat.beq q5 46 && Nat.beq q6 47 && Nat.beq q7 0 && Nat.beq q8 46 && Nat.beq q9 1 && Nat.beq q10 46 && Nat.beq q11 2 && Nat.beq q12 0 then iter (S_symbol_Exported_2 fuel) fuel (x0, x1, x2, x3, x4) (E13_2 K) else none
    | _ => none)
  | none => none
theorem B13_2_ok (fuel : Nat) (st : Ev.St) (K : Ev.Ex → Ev.St → Option Ans) (r : Ans) (h : B13_2 fuel st K = some r) : evalCode tab (G13 fuel) (J13_2 fuel) kp13 fuel (.block 2 (.loop (bodyOf 2 Tryz.f13))) st K = some r := by
  unfold B13_2 at h
  split at h
  · rename_i s hs
    split at h
    · skip
      obtain ⟨hb, h⟩ := cond_some' h
      simp only [Bool.and_eq_true, Nat.beq_eq, decide_eq_true_eq] at hb
      obtain ⟨⟨⟨⟨⟨⟨⟨⟨⟨⟨⟨⟨rfl, rfl⟩, rfl⟩, rfl⟩, rfl⟩, rfl⟩, rfl⟩, rfl⟩, rfl⟩, rfl⟩, rfl⟩, rfl⟩, rfl⟩ := hb
      exact blk_loop (S := T13_2) (ks := E13_2) (step := S_symbol_Exported_2 fuel) (v := (_, _, _, _, _)) (by kernel_rfl) (by kernel_rfl) (fun R K v => by obtain ⟨x0, x1, x2, x3, x4⟩ := v; exact S13_2_ok fuel R K x0 x1 x2 x3 x4) hs h
    · cases h
  · cases h
noncomputable def J13 (fuel : Nat) (i : Nat) : Option Ev.Blk := Ev.look i [(100000, B13_0 fuel), (100002, B13_2 fuel)]
noncomputable def F_symbol_Exported (fuel : Nat) (x0 : (List (Int × Int × (List Int)))) (x1 : (List ((Int × Int × (List Int)) × Int))) (x2 : (List Bool)) (k0 : (Int × (List (Int × (Int × (List Int))))) → Option Ans) : Option Ans :=
  (F_slices_ContainsFunc_api_Bitmap_api_Bitmap_ace fuel (x0)
    (fun y2 =>
      bif y2 then
       k0 ((30 : Int), [])
      else
       (F_symbol_rightShapes fuel (x0) (x1)
         (fun y7 =>
           bif y7 != (0 : Int) then
            k0 (y7, [])
           else
            bif (↑x2.length : Int) != Go.IntKind.i64.wrap ((↑x0.length : Int) + (↑x1.length : Int)) then
             k0 ((2 : Int), [])
            else
             (F_slices_Clone_api_Bitmap_api_Bitmap fuel (x0)
               (fun y13 =>
                 (L_symbol_Exported_0 fuel (x2, x1, (↑x1.length : Int), (0 : Int), y13)
                   (fun (b0_0, b0_1) =>
                     (L_symbol_Exported_2 fuel (b0_0, (↑b0_0.length : Int), (0 : Int), b0_1, [])
                       (fun b2_0 =>
                         k0 ((0 : Int), b2_0)))))))))))
abbrev YF13 : Type := ((List (Int × Int × (List Int)))) → ((List ((Int × Int × (List Int)) × Int))) → ((List Bool)) → ((Int × (List (Int × (Int × (List Int))))) → Option Ans) → Option Ans
theorem F13_eqg (fuel : Nat) (f33_ace : YF33_ace) (f36 : YF36) (f37 : YF37) (f38 : YF38) (x0 : (List (Int × Int × (List Int)))) (x1 : (List ((Int × Int × (List Int)) × Int))) (x2 : (List Bool)) (k : Ev.Cont) : evalFn tab (Gg13 f33_ace f36 f37 f38) (J13 fuel) kp13 fuel Tryz.f13 [.c (.sl (.pair (.int .i64) (.pair (.int .i64) (.sl (.int .u8)))) x0), .c (.sl (.pair (.pair (.int .i64) (.pair (.int .i64) (.sl (.int .u8)))) (.int .i64)) x1), .c (.sl .bool x2)] [] k = (fun  (k0 : (Int × (List (Int × (Int × (List Int))))) → Option Ans) =>
  (f33_ace (x0)
    (fun y2 =>
      bif y2 then
       k0 ((30 : Int), [])
      else
       (f36 (x0) (x1)
         (fun y7 =>
           bif y7 != (0 : Int) then
            k0 (y7, [])
           else
            bif (↑x2.length : Int) != Go.IntKind.i64.wrap ((↑x0.length : Int) + (↑x1.length : Int)) then
             k0 ((2 : Int), [])
            else
             (f37 (x0)
               (fun y13 =>
                 (L_symbol_Exported_0 fuel (x2, x1, (↑x1.length : Int), (0 : Int), y13)
                   (fun (b0_0, b0_1) =>
                     (L_symbol_Exported_2 fuel (b0_0, (↑b0_0.length : Int), (0 : Int), b0_1, [])
                       (fun b2_0 =>
                         k0 ((0 : Int), b2_0)))))))))))) (fun r => match r with | (r0, r1) => k (.tup [(false, [.own 0]), (false, [.int .i64 r0])], [.vec 46 (.pair (.int .i64) (.pair (.int .i64) (.sl (.int .u8)))) r1 true])) := by
  kernel_rfl
theorem F13_eq (fuel : Nat) (x0 : (List (Int × Int × (List Int)))) (x1 : (List ((Int × Int × (List Int)) × Int))) (x2 : (List Bool)) (k : Ev.Cont) : evalFn tab (G13 fuel) (J13 fuel) kp13 fuel Tryz.f13 [.c (.sl (.pair (.int .i64) (.pair (.int .i64) (.sl (.int .u8)))) x0), .c (.sl (.pair (.pair (.int .i64) (.pair (.int .i64) (.sl (.int .u8)))) (.int .i64)) x1), .c (.sl .bool x2)] [] k = F_symbol_Exported fuel x0 x1 x2 (fun r => match r with | (r0, r1) => k (.tup [(false, [.own 0]), (false, [.int .i64 r0])], [.vec 46 (.pair (.int .i64) (.pair (.int .i64) (.sl (.int .u8)))) r1 true])) :=
  F13_eqg fuel (F_slices_ContainsFunc_api_Bitmap_api_Bitmap_ace fuel) (F_symbol_rightShapes fuel) (F_slices_Clone_api_Bitmap_api_Bitmap fuel) (F_symbol_own fuel) x0 x1 x2 k
theorem hG13 (fuel : Nat) : GOK Tryz.prog (G13 fuel) :=
  gok_cons ⟨ok33_ace fuel, enters_of Tryz.func33 (by kernel_rfl) rfl⟩ <|
  gok_cons ⟨ok36 fuel, enters_of Tryz.func36 (by kernel_rfl) rfl⟩ <|
  gok_cons ⟨ok37 fuel, enters_of Tryz.func37 (by kernel_rfl) rfl⟩ <|
  gok_cons ⟨ok38 fuel, enters_of Tryz.func38 (by kernel_rfl) rfl⟩ <|
  gok_nil
theorem B13_0_blk (fuel : Nat) : BlkOK Tryz.prog Tryz.f13.ntmps (.block 0 (.loop (bodyOf 0 Tryz.f13))) (B13_0 fuel) :=
  blk_of (blk_of_code tab_ok (hG13 fuel) mixed (J := J13_0 fuel) (kp := kp13) (fuel := fuel) (by kernel_rfl) (fun q hq => by
    rw [(by kernel_rfl : obl (J13_0 fuel) (.block 0 (.loop (bodyOf 0 Tryz.f13))) = [])] at hq
    cases hq)) (B13_0_ok fuel)
theorem B13_2_blk (fuel : Nat) : BlkOK Tryz.prog Tryz.f13.ntmps (.block 2 (.loop (bodyOf 2 Tryz.f13))) (B13_2 fuel) :=
  blk_of (blk_of_code tab_ok (hG13 fuel) mixed (J := J13_2 fuel) (kp := kp13) (fuel := fuel) (by kernel_rfl) (fun q hq => by
    rw [(by kernel_rfl : obl (J13_2 fuel) (.block 2 (.loop (bodyOf 2 Tryz.f13))) = [])] at hq
    cases hq)) (B13_2_ok fuel)
theorem fok13 (fuel : Nat) : FnOK Tryz.prog 13 (evalFn tab (G13 fuel) (J13 fuel) kp13 fuel Tryz.f13) :=
  fn_ok tab_ok (hG13 fuel) mixed Tryz.func13 (c := (Tryz.f13.body).getD .skip) rfl (fun q hq => by
    rw [(by kernel_rfl : obl (J13 fuel) ((Tryz.f13.body).getD .skip) = [(.block 0 (.loop (bodyOf 0 Tryz.f13)), B13_0 fuel), (.block 2 (.loop (bodyOf 2 Tryz.f13)), B13_2 fuel)])] at hq
    simp only [List.mem_cons, List.not_mem_nil, or_false] at hq
    rcases hq with rfl | rfl
    · exact B13_0_blk fuel
    · exact B13_2_blk fuel)
noncomputable def mt13 : List Ev.SV → List Ev.Ob → Bool := fun args objs => match args, objs with
  | [.c (.sl (.pair (.int .i64) (.pair (.int .i64) (.sl (.int .u8)))) _), .c (.sl (.pair (.pair (.int .i64) (.pair (.int .i64) (.sl (.int .u8)))) (.int .i64)) _), .c (.sl .bool _)], [] => true
  | _, _ => false
noncomputable def spg13 (F : YF13) : Ev.Spec := fun args objs k => match args, objs with
  | [.c (.sl (.pair (.int .i64) (.pair (.int .i64) (.sl (.int .u8)))) x0), .c (.sl (.pair (.pair (.int .i64) (.pair (.int .i64) (.sl (.int .u8)))) (.int .i64)) x1), .c (.sl .bool x2)], [] => bif true then F x0 x1 x2 (fun r => match r with | (r0, r1) => k (.tup [(false, [.own 0]), (false, [.int .i64 r0])], [.vec 46 (.pair (.int .i64) (.pair (.int .i64) (.sl (.int .u8)))) r1 true])) else none
  | _, _ => none
noncomputable def spec13 (fuel : Nat) : Ev.Spec := spg13 (F_symbol_Exported fuel)
theorem ok13 (fuel : Nat) : FnOK Tryz.prog 13 (spec13 fuel) := by
  intro args objs kk r h
  unfold spec13 spg13 at h
  split at h
  · skip
    obtain ⟨hb, h⟩ := cond_some' h
    simp only [Bool.and_eq_true, Nat.beq_eq, decide_eq_true_eq] at hb
    clear hb
    exact fok13 fuel _ _ kk r ((F13_eq fuel _ _ _ kk).trans h)
  · cases h
end Go.Proofs.YtmjeeaemmbkioaaGreat

set_option linter.unusedVariables false
set_option linter.unusedSimpArgs false
set_option maxRecDepth 100000
set_option maxHeartbeats 2000000
namespace Go.Proofs.YtmjeeaemmbkioaaGreat
open Go Ev
def kp4 (i : Nat) : Option (List Nat) := Ev.look i []
noncomputable def Gg4 (f11 : YF11) (f12 : YF12) (f13 : YF13) (f14 : YF14) (f15 : YF15) (f : Nat) : Option Ev.Spec := Ev.look f [(11, spg11 f11), (12, spg12 f12), (13, spg13 f13), (14, spg14 f14), (15, spg15 f15)]
noncomputable def G4 (fuel : Nat) : Nat → Option Ev.Spec := Gg4 (F_law09_Sane fuel) (F_law09_Large fuel) (F_symbol_Exported fuel) (F_ref09_Exported fuel) (F_ref09_SameBitmaps fuel)
noncomputable def J4 (fuel : Nat) (i : Nat) : Option Ev.Blk := Ev.look i []
noncomputable def F_law09_SymbolExported (fuel : Nat) (x0 : Int) (x1 : Int) (x2 : Int) (x3 : Bool) (x4 : Int) (x5 : Int) (x6 : Int) (x7 : (List Int)) (x8 : (List (Int × Int × (List Int)))) (x9 : (List ((Int × Int × (List Int)) × Int))) (x10 : (List Bool)) (k0 : (Bool) → Option Ans) : Option Ans :=
  (F_law09_Large fuel (x0) (x1) (x2) (x3) (x4) (x5) (x6) (x7) (x8) (x9) (x10)
    (fun y2 =>
      bif y2 then
       (F_law09_Sane fuel
         (fun y7 =>
           k0 y7))
      else
       (F_symbol_Exported fuel (x8) (x9) (x10)
         (fun (y7_0, y7_1) =>
           (F_ref09_Exported fuel (x8) (x9) (x10)
             (fun (y11_0, y11_1) =>
               bif y7_0 == y11_0 then
                (F_ref09_SameBitmaps fuel (y7_1) (y11_1)
                  (fun y16 =>
                    bif y16 then
                     (F_law09_Sane fuel
                       (fun y21 =>
                         k0 y21))
                    else
                     k0 Bool.false))
               else
                k0 Bool.false))))))
abbrev YF4 : Type := (Int) → (Int) → (Int) → (Bool) → (Int) → (Int) → (Int) → ((List Int)) → ((List (Int × Int × (List Int)))) → ((List ((Int × Int × (List Int)) × Int))) → ((List Bool)) → ((Bool) → Option Ans) → Option Ans
theorem F4_eqg (fuel : Nat) (f11 : YF11) (f12 : YF12) (f13 : YF13) (f14 : YF14) (f15 : YF15) (x0 : Int) (x1 : Int) (x2 : Int) (x3 : Bool) (x4 : Int) (x5 : Int) (x6 : Int) (x7 : (List Int)) (x8 : (List (Int × Int × (List Int)))) (x9 : (List ((Int × Int × (List Int)) × Int))) (x10 : (List Bool)) (k : Ev.Cont) : evalFn tab (Gg4 f11 f12 f13 f14 f15) (J4 fuel) kp4 fuel Tryz.f4 [.agg [.int .i64 x0, .int .i64 x1, .int .i64 x2, .bool x3, .int .i64 x4, .int .i64 x5, .int .i64 x6, .sl (.int .i64) x7, .sl (.pair (.int .i64) (.pair (.int .i64) (.sl (.int .u8)))) x8, .sl (.pair (.pair (.int .i64) (.pair (.int .i64) (.sl (.int .u8)))) (.int .i64)) x9, .sl .bool x10]] [] k = (fun  (k0 : (Bool) → Option Ans) =>
  (f12 (x0) (x1) (x2) (x3) (x4) (x5) (x6) (x7) (x8) (x9) (x10)
    (fun y2 =>
      bif y2 then
       (f11
         (fun y7 =>
           k0 y7))
      else
       (f13 (x8) (x9) (x10)
         (fun (y7_0, y7_1) =>
           (f14 (x8) (x9) (x10)
             (fun (y11_0, y11_1) =>
               bif y7_0 == y11_0 then
                (f15 (y7_1) (y11_1)
                  (fun y16 =>
                    bif y16 then
                     (f11
                       (fun y21 =>
                         k0 y21))
                    else
                     k0 Bool.false))
               else
                k0 Bool.false))))))) (fun r => match r with | r0 => k (.c (.bool r0), [])) := by
  kernel_rfl
theorem F4_eq (fuel : Nat) (x0 : Int) (x1 : Int) (x2 : Int) (x3 : Bool) (x4 : Int) (x5 : Int) (x6 : Int) (x7 : (List Int)) (x8 : (List (Int × Int × (List Int)))) (x9 : (List ((Int × Int × (List Int)) × Int))) (x10 : (List Bool)) (k : Ev.Cont) : evalFn tab (G4 fuel) (J4 fuel) kp4 fuel Tryz.f4 [.agg [.int .i64 x0, .int .i64 x1, .int .i64 x2, .bool x3, .int .i64 x4, .int .i64 x5, .int .i64 x6, .sl (.int .i64) x7, .sl (.pair (.int .i64) (.pair (.int .i64) (.sl (.int .u8)))) x8, .sl (.pair (.pair (.int .i64) (.pair (.int .i64) (.sl (.int .u8)))) (.int .i64)) x9, .sl .bool x10]] [] k = F_law09_SymbolExported fuel x0 x1 x2 x3 x4 x5 x6 x7 x8 x9 x10 (fun r => match r with | r0 => k (.c (.bool r0), [])) :=
  F4_eqg fuel (F_law09_Sane fuel) (F_law09_Large fuel) (F_symbol_Exported fuel) (F_ref09_Exported fuel) (F_ref09_SameBitmaps fuel) x0 x1 x2 x3 x4 x5 x6 x7 x8 x9 x10 k
theorem hG4 (fuel : Nat) : GOK Tryz.prog (G4 fuel) :=
  gok_cons ⟨ok11 fuel, enters_of Tryz.func11 (by kernel_rfl) rfl⟩ <|
  gok_cons ⟨ok12 fuel, enters_of Tryz.func12 (by kernel_rfl) rfl⟩ <|
  gok_cons ⟨ok13 fuel, enters_of Tryz.func13 (by kernel_rfl) rfl⟩ <|
  gok_cons ⟨ok14 fuel, enters_of Tryz.func14 (by kernel_rfl) rfl⟩ <|
  gok_cons ⟨ok15 fuel, enters_of Tryz.func15 (by kernel_rfl) rfl⟩ <|
  gok_nil
theorem fok4 (fuel : Nat) : FnOK Tryz.prog 4 (evalFn tab (G4 fuel) (J4 fuel) kp4 fuel Tryz.f4) :=
  fn_ok tab_ok (hG4 fuel) mixed Tryz.func4 (c := (Tryz.f4.body).getD .skip) rfl (fun q hq => by
    rw [(by kernel_rfl : obl (J4 fuel) ((Tryz.f4.body).getD .skip) = [])] at hq
    cases hq)
noncomputable def mt4 : List Ev.SV → List Ev.Ob → Bool := fun args objs => match args, objs with
  | [.agg [.int .i64 _, .int .i64 _, .int .i64 _, .bool _, .int .i64 _, .int .i64 _, .int .i64 _, .sl (.int .i64) _, .sl (.pair (.int .i64) (.pair (.int .i64) (.sl (.int .u8)))) _, .sl (.pair (.pair (.int .i64) (.pair (.int .i64) (.sl (.int .u8)))) (.int .i64)) _, .sl .bool _]], [] => true
  | _, _ => false
noncomputable def spg4 (F : YF4) : Ev.Spec := fun args objs k => match args, objs with
  | [.agg [.int .i64 x0, .int .i64 x1, .int .i64 x2, .bool x3, .int .i64 x4, .int .i64 x5, .int .i64 x6, .sl (.int .i64) x7, .sl (.pair (.int .i64) (.pair (.int .i64) (.sl (.int .u8)))) x8, .sl (.pair (.pair (.int .i64) (.pair (.int .i64) (.sl (.int .u8)))) (.int .i64)) x9, .sl .bool x10]], [] => bif true then F x0 x1 x2 x3 x4 x5 x6 x7 x8 x9 x10 (fun r => match r with | r0 => k (.c (.bool r0), [])) else none
  | _, _ => none
noncomputable def spec4 (fuel : Nat) : Ev.Spec := spg4 (F_law09_SymbolExported fuel)
theorem ok4 (fuel : Nat) : FnOK Tryz.prog 4 (spec4 fuel) := by
  intro args objs kk r h
  unfold spec4 spg4 at h
  split at h
  · skip
    obtain ⟨hb, h⟩ := cond_some' h
    simp only [Bool.and_eq_true, Nat.beq_eq, decide_eq_true_eq] at hb
    clear hb
    exact fok4 fuel _ _ kk r ((F4_eq fuel _ _ _ _ _ _ _ _ _ _ _ kk).trans h)
  · cases h
end Go.Proofs.YtmjeeaemmbkioaaGreat

