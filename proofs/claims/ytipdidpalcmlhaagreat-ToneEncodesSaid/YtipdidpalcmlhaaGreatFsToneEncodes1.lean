/- What the functions that ToneEncodes reaches do: their typed texts, each with the proof that the machine does it. No condition. -/
import Derived.Test.YtipdidpalcmlhaaGreatEvX
set_option linter.unusedVariables false
set_option linter.unusedSimpArgs false
namespace Go.Proofs.YtipdidpalcmlhaaGreat
open Go Ev
open Go.IntKind (i64 u64 u8 i32 u32 u16)
noncomputable section
def ctb (r : List SC) : List SC := .int .i64 2048 :: .int .i64 1792 :: .int .i64 1568 :: .int .i64 1372 :: .int .i64 1201 :: .int .i64 1051 :: .int .i64 920 :: .int .i64 805 :: .int .i64 705 :: .int .i64 617 :: .int .i64 540 :: .int .i64 473 :: .int .i64 414 :: .int .i64 363 :: .int .i64 318 :: .int .i64 279 :: .int .i64 245 :: .int .i64 215 :: .int .i64 189 :: .int .i64 166 :: .int .i64 146 :: .int .i64 128 :: .int .i64 112 :: .int .i64 98 :: .int .i64 86 :: .int .i64 76 :: .int .i64 67 :: .int .i64 59 :: .int .i64 52 :: .int .i64 46 :: .int .i64 41 :: .int .i64 36 :: r
def ctn : List (IntKind × Int) := [(.i64, 2048), (.i64, 1792), (.i64, 1568), (.i64, 1372), (.i64, 1201), (.i64, 1051), (.i64, 920), (.i64, 805), (.i64, 705), (.i64, 617), (.i64, 540), (.i64, 473), (.i64, 414), (.i64, 363), (.i64, 318), (.i64, 279), (.i64, 245), (.i64, 215), (.i64, 189), (.i64, 166), (.i64, 146), (.i64, 128), (.i64, 112), (.i64, 98), (.i64, 86), (.i64, 76), (.i64, 67), (.i64, 59), (.i64, 52), (.i64, 46), (.i64, 41), (.i64, 36)]
def qb : List Nat → List Nat → Bool
 | [], [] => true
 | a :: x, b :: y => Nat.beq a b && qb x y
 | _, _ => false
theorem qb_eq : ∀ {x y : List Nat}, qb x y = true → x = y
 | [], [], _ => rfl
 | [], _ :: _, h => by cases h
 | _ :: _, [], h => by cases h
 | a :: x, b :: y, h => by
  have h : (Nat.beq a b && qb x y) = true := h
  rw [Bool.and_eq_true] at h
  rw [Nat.eq_of_beq_eq_true h.1, qb_eq h.2]
theorem w6 {x : Int} (h1 : -9223372036854775808 ≤ x := by omega) (h2 : x ≤ 9223372036854775807 := by omega) : i64.wrap x = x := by
 simp [IntKind.wrap, IntKind.min, IntKind.max, IntKind.signed, IntKind.bits]
 omega
theorem fo0 {G : Nat → Option Ev.Spec} {J : Nat → Option Ev.Blk} {kp : Nat → Option (List Nat)} {fuel : Nat} {f : FuncId} {fn : Func} (hG : GOK Tryz.prog G) (hf : Tryz.prog.funcs[f]? = some fn) (hb : fn.body = some (fn.body.getD .skip)) (h : obl J (fn.body.getD .skip) = []) : FnOK Tryz.prog f (evalFn tab G J kp fuel fn) :=
  fn_ok tab_ok hG mixed hf (c := fn.body.getD .skip) hb (fun q hq => by
    rw [h] at hq
    cases hq)
@[match_pattern] abbrev i6 (x : Int) : Ev.SC := .int .i64 x
abbrev LI : Type := List Int
abbrev OA : Type := Option Ans
abbrev KT : Type := Ev.Ex → Ev.St → Option Ans
def J0 (i : Nat) : Option Ev.Blk := Ev.look i []
theorem gc {k : Nat} {v : Ev.Spec} {r : List (Nat × Ev.Spec)} {fn : Func} {c : Code} (h : FnOK Tryz.prog (k % 1000000) v) (hf : Tryz.prog.funcs[k % 1000000]? = some fn) (hn : (fn.name == "runtime.NumGoroutine") = false) (hb : fn.body = some c) (hr : GOK Tryz.prog (fun f => Ev.look f r)) : GOK Tryz.prog (fun f => Ev.look f ((k, v) :: r)) := gok_cons ⟨h, enters_of hf hn hb⟩ hr
theorem bo0 {G : Nat → Option Ev.Spec} {J : Nat → Option Ev.Blk} {kp : Nat → Option (List Nat)} {fuel nt : Nat} {b : Code} {sp : Ev.Blk} (hG : GOK Tryz.prog G) (hfit : codeFit nt b = true) (h : obl J b = []) (hs : ∀ st K r, sp st K = some r → evalCode tab G J kp fuel b st K = some r) : BlkOK Tryz.prog nt b sp :=
  blk_of (blk_of_code tab_ok hG mixed hfit (fun q hq => by
    rw [h] at hq
    cases hq)) hs
theorem fo1 {G : Nat → Option Ev.Spec} {J : Nat → Option Ev.Blk} {kp : Nat → Option (List Nat)} {fuel : Nat} {f : FuncId} {fn : Func} {b : Code} {sp : Ev.Blk} (hG : GOK Tryz.prog G) (hf : Tryz.prog.funcs[f]? = some fn) (hb : fn.body = some (fn.body.getD .skip)) (hk : BlkOK Tryz.prog fn.ntmps b sp) (h : obl J (fn.body.getD .skip) = [(b, sp)]) : FnOK Tryz.prog f (evalFn tab G J kp fuel fn) :=
  fn_ok tab_ok hG mixed hf (c := fn.body.getD .skip) hb (fun q hq => by
    rw [h] at hq
    simp only [List.mem_cons, List.not_mem_nil, or_false] at hq
    subst hq
    exact hk)
def kp41 (i : Nat) : Option (List Nat) := Ev.look i [(3, [0, 3, 4]), (100000, [3]), (400000, [2])]
def Gg41 (f : Nat) : Option Ev.Spec := Ev.look f []
def G41 (fuel : Nat) : Nat → Option Ev.Spec := Gg41
abbrev V_law11_many_0 : Type := (List (Int × (Int × LI))) × Int × Int
abbrev W_law11_many_0 : Type := (Int → OA)
def S_law11_many_0 (fuel : Nat) (v : (List (Int × (Int × (List Int)))) × Int × Int) (c : ((List (Int × (Int × (List Int)))) × Int × Int) → Option Ans) (B : (Int → Option Ans)) : Option Ans := match v, B with | (x0, x1, x2), b => bif decide (x2 < (↑x0.length : Int)) then bif decide ((0 : Int) ≤ x2 ∧ x2 < (↑x0.length : Int)) then c (x0, i64.wrap (i64.wrap (x1 + (1 : Int)) + (↑(List.length (x0.getD x2.toNat ((0 : Int), (0 : Int), [])).snd.snd) : Int)), i64.wrap (x2 + (1 : Int))) else none else b x1
def L_law11_many_0 (fuel : Nat) (v : V_law11_many_0) (b : W_law11_many_0) : Option Ans := iter (S_law11_many_0 fuel) fuel v b
def T41_0 (v : V_law11_many_0) : Ev.St := match v with | (x0, x1, x2) => ⟨[(0, .c (.sl (.pair (.int .i64) (.pair (.int .i64) (.sl (.int .u8)))) x0)), (3, .c (i6 x1)), (4, .c (i6 x2))], [], 0, 0⟩
def E41_0 (K : KT) : W_law11_many_0 := (fun v => match v with | x0 => K .normal ⟨[(3, .c (i6 x0))], [], 0, 0⟩)
theorem S41_0_ok (fuel : Nat) (R : Ev.St → OA) (K : KT) (x0 : (List (Int × (Int × LI)))) (x1 x2 : Int) : evalCode tab (G41 fuel) J0 kp41 fuel (bodyOf 0 Tryz.f41) (T41_0 (x0, x1, x2)) (lc kp41 3 0 R K) = S_law11_many_0 fuel (x0, x1, x2) (fun v => R (T41_0 v)) (E41_0 K) := by
  kernel_rfl
def B41_0 (fuel : Nat) : Ev.Blk := fun st K => match canonO (kp41 3) st with | some s => (match s with | ⟨[(q0, .c (.sl (.pair (.int .i64) (.pair (.int .i64) (.sl (.int .u8)))) x0)), (q1, .c (i6 x1)), (q2, .c (i6 x2))], [], q3, q4⟩ => bif qb [q0, q1, q2, q3, q4] [0, 3, 4, 0, 0] then iter (S_law11_many_0 fuel) fuel (x0, x1, x2) (E41_0 K) else none | _ => none) | none => none
theorem B41_0_ok (fuel : Nat) (st : Ev.St) (K : KT) (r : Ans) (h : B41_0 fuel st K = some r) : evalCode tab (G41 fuel) J0 kp41 fuel (.block 0 (.loop (bodyOf 0 Tryz.f41))) st K = some r := by
  unfold B41_0 at h
  split at h
  · rename_i s hs
    split at h
    · skip
      obtain ⟨hb, h⟩ := cond_some' h
      cases qb_eq hb
      exact blk_loop (S := T41_0) (ks := E41_0) (step := S_law11_many_0 fuel) (v := (_, _, _)) (by kernel_rfl) (by kernel_rfl) (fun R K v => by obtain ⟨x0, x1, x2⟩ := v; exact S41_0_ok fuel R K x0 x1 x2) hs h
    · cases h
  · cases h
def J41 (fuel : Nat) (i : Nat) : Option Ev.Blk := Ev.look i [(100000, B41_0 fuel)]
def F_law11_many (fuel : Nat) (x0 : (List (Int × Int × (List Int)))) (k0 : (Int) → Option Ans) : Option Ans := (L_law11_many_0 fuel (x0, 0, 0) (fun b0_0 => k0 b0_0))
abbrev YF41 : Type := ((List (Int × Int × LI))) → (Int → Option Ans) → Option Ans
theorem F41_eq (fuel : Nat) (x0 : (List (Int × Int × LI))) (k : Ev.Cont) : evalFn tab (G41 fuel) (J41 fuel) kp41 fuel Tryz.f41 [.c (.sl (.pair (.int .i64) (.pair (.int .i64) (.sl (.int .u8)))) x0)] [] k = F_law11_many fuel x0 (fun r => match r with | r0 => k (.c (i6 r0), [])) := by
  kernel_rfl
theorem hG41 (fuel : Nat) : GOK Tryz.prog (G41 fuel) :=
  gok_nil
theorem B41_0_blk (fuel : Nat) : BlkOK Tryz.prog Tryz.f41.ntmps (.block 0 (.loop (bodyOf 0 Tryz.f41))) (B41_0 fuel) := bo0 (hG41 fuel) (by kernel_rfl) (by kernel_rfl) (B41_0_ok fuel)
def spg41 (F : YF41) : Ev.Spec := fun args objs k => match args, objs with | [.c (.sl (.pair (.int .i64) (.pair (.int .i64) (.sl (.int .u8)))) x0)], [] => F x0 (fun r => match r with | r0 => k (.c (i6 r0), [])) | _, _ => none
theorem ok41 (fuel : Nat) : FnOK Tryz.prog 41 (spg41 (F_law11_many fuel)) := by
  intro args objs kk r h
  unfold spg41 at h
  split at h
  · skip
    exact fo1 (hG41 fuel) Tryz.func41 rfl (B41_0_blk fuel) (by kernel_rfl) _ _ kk r ((F41_eq fuel _ kk).trans h)
  · cases h
def kp12 (i : Nat) : Option (List Nat) := Ev.look i []
def Gg12 (f41 : YF41) (f : Nat) : Option Ev.Spec := Ev.look f [(41, spg41 f41)]
def G12 (fuel : Nat) : Nat → Option Ev.Spec := Gg12 (F_law11_many fuel)
def Fg_law11_Large (fuel : Nat) (f41 : YF41) (x0 x1 : Int) (x2 x3 : Int) (x4 x5 : Int) (x6 x7 : Int) (x8 : Bool) (x9 : Int) (x10 : (List (Int × Int × LI))) (x11 x12 : Int) (x13 : LI) (k0 : (Bool) → OA) : OA := (f41 x10 (fun y2 => bif decide (y2 > 1500) then k0 true else bif decide ((↑x13.length : Int) > 5000) then k0 true else bif decide (x0 > 0) then bif decide (x1 > 0) then bif decide (x0 ≤ 64) then bif decide (x1 ≤ 64) then k0 (decide (i64.wrap (x0 * x1) > 300)) else k0 false else k0 false else k0 false else k0 false))
abbrev YF12 : Type := Int → Int → Int → Int → Int → Int → Int → Int → Bool → Int → ((List (Int × Int × LI))) → Int → Int → LI → (Bool → Option Ans) → Option Ans
def F_law11_Large (fuel : Nat) : YF12 := Fg_law11_Large fuel (F_law11_many fuel)
theorem F12_eqg (fuel : Nat) (f41 : YF41) (x0 x1 : Int) (x2 x3 : Int) (x4 x5 : Int) (x6 x7 : Int) (x8 : Bool) (x9 : Int) (x10 : (List (Int × Int × LI))) (x11 x12 : Int) (x13 : LI) (k : Ev.Cont) : evalFn tab (Gg12 f41) J0 kp12 fuel Tryz.f12 [.agg [i6 x0, i6 x1, i6 x2, i6 x3, i6 x4, i6 x5, i6 x6, i6 x7, .bool x8, i6 x9, .sl (.pair (.int .i64) (.pair (.int .i64) (.sl (.int .u8)))) x10, i6 x11, i6 x12, .sl (.int .i64) x13]] [] k = Fg_law11_Large fuel f41 x0 x1 x2 x3 x4 x5 x6 x7 x8 x9 x10 x11 x12 x13 (fun r => match r with | r0 => k (.c (.bool r0), [])) := by
  kernel_rfl
theorem hG12 (fuel : Nat) : GOK Tryz.prog (G12 fuel) :=
  gc (ok41 fuel) Tryz.func41 (by kernel_rfl) rfl <|
  gok_nil
def spg12 (F : YF12) : Ev.Spec := fun args objs k => match args, objs with | [.agg [i6 x0, i6 x1, i6 x2, i6 x3, i6 x4, i6 x5, i6 x6, i6 x7, .bool x8, i6 x9, .sl (.pair (.int .i64) (.pair (.int .i64) (.sl (.int .u8)))) x10, i6 x11, i6 x12, .sl (.int .i64) x13]], [] => F x0 x1 x2 x3 x4 x5 x6 x7 x8 x9 x10 x11 x12 x13 (fun r => match r with | r0 => k (.c (.bool r0), [])) | _, _ => none
theorem ok12 (fuel : Nat) : FnOK Tryz.prog 12 (spg12 (F_law11_Large fuel)) := by
  intro args objs kk r h
  unfold spg12 at h
  split at h
  · skip
    exact fo0 (hG12 fuel) Tryz.func12 rfl (by kernel_rfl) _ _ kk r ((F12_eqg fuel (F_law11_many fuel) _ _ _ _ _ _ _ _ _ _ _ _ _ _ kk).trans h)
  · cases h
def kp112_e21 (i : Nat) : Option (List Nat) := Ev.look i []
def Gg112_e21 (f : Nat) : Option Ev.Spec := Ev.look f []
def G112_e21 (fuel : Nat) : Nat → Option Ev.Spec := Gg112_e21
def F_tone_Planes_1_e21 (fuel : Nat) (x0 x1 : Int) (k0 : (Bool × Int) → Option Ans) : Option Ans := bif decide (x0 < 0) then k0 (true, x1) else bif decide (x1 < 0) then none else k0 (decide (x0 ≥ Ev.ishl IntKind.i64 1 x1), x1)
abbrev YF112_e21 : Type := Int → Int → ((Bool × Int) → Option Ans) → Option Ans
theorem F112_e21_eq (fuel : Nat) (x0 x1 : Int) (k : Ev.Cont) : evalFn tab (G112_e21 fuel) J0 kp112_e21 fuel Tryz.f112 [.c (i6 x0), .c (.ptr 0 0)] [.cells 3 [i6 x1]] k = F_tone_Planes_1_e21 fuel x0 x1 (fun r => match r with | (r0, r1) => k (.c (.bool r0), [.cells 3 [i6 r1]])) := by
  kernel_rfl
theorem hG112_e21 (fuel : Nat) : GOK Tryz.prog (G112_e21 fuel) :=
  gok_nil
def spg112_e21 (F : YF112_e21) : Ev.Spec := fun args objs k => match args, objs with | [.c (i6 x0), .c (.ptr q0 q1)], [.cells q2 [i6 x1]] => bif qb [q0, q1, q2] [0, 0, 3] then F x0 x1 (fun r => match r with | (r0, r1) => k (.c (.bool r0), [.cells 3 [i6 r1]])) else none | _, _ => none
theorem ok112_e21 (fuel : Nat) : FnOK Tryz.prog 112 (spg112_e21 (F_tone_Planes_1_e21 fuel)) := by
  intro args objs kk r h
  unfold spg112_e21 at h
  split at h
  · skip
    obtain ⟨hb, h⟩ := cond_some' h
    cases qb_eq hb
    exact fo0 (hG112_e21 fuel) Tryz.func112 rfl (by kernel_rfl) _ _ kk r ((F112_e21_eq fuel _ _ kk).trans h)
  · cases h
def kp201_69c (i : Nat) : Option (List Nat) := Ev.look i [(2, [0, 1, 7, 8]), (100000, []), (400000, [4])]
def Gg201_69c (f112_e21 : YF112_e21) (f : Nat) : Option Ev.Spec := Ev.look f [(112, spg112_e21 f112_e21)]
def G201_69c (fuel : Nat) : Nat → Option Ev.Spec := Gg201_69c (F_tone_Planes_1_e21 fuel)
def Sg_slices_IndexFunc_int_int_69c_0 (fuel : Nat) (f112_e21 : YF112_e21) (x0 : LI) (x1 x2 x3 : Int) (c : (LI × Int × Int × Int) → OA) (B : (Int × Int → OA) × (Int → OA)) : OA := match B with | (ret, b) => bif decide (x2 < x1) then bif decide (0 ≤ x2 ∧ x2 < (↑x0.length : Int)) then (f112_e21 (x0.getD x2.toNat 0) x3 (fun (y4_0, y4_1) => bif y4_0 then ret (x2, y4_1) else c (x0, x1, i64.wrap (x2 + 1), y4_1))) else none else b x3
def S_slices_IndexFunc_int_int_69c_0 (fuel : Nat) (v : (List Int) × Int × Int × Int) (c : ((List Int) × Int × Int × Int) → Option Ans) (B : (Int × Int → Option Ans) × (Int → Option Ans)) : Option Ans := match v with | (x0, x1, x2, x3) => Sg_slices_IndexFunc_int_int_69c_0 fuel (F_tone_Planes_1_e21 fuel) x0 x1 x2 x3 c B
def L_slices_IndexFunc_int_int_69c_0 (fuel : Nat) (v : (List Int) × Int × Int × Int) (ret : (Int × Int → Option Ans)) (b : (Int → Option Ans)) : Option Ans := iter (S_slices_IndexFunc_int_int_69c_0 fuel) fuel v (ret, b)
def T201_69c_0 (v : LI × Int × Int × Int) : Ev.St := match v with | (x0, x1, x2, x3) => ⟨[(0, .c (.sl (.int .i64) x0)), (1, .c (.clo 112 [0])), (7, .c (i6 x1)), (8, .c (i6 x2))], [(0, .cells 3 [i6 x3])], 1, 1⟩
def E201_69c_0 (K : KT) : (Int × Int → OA) × (Int → OA) := ((fun v => match v with | (x0, x1) => K .ret ⟨[(4, .c (i6 x0))], [(0, .cells 3 [i6 x1])], 1, 1⟩), (fun v => match v with | x0 => K .normal ⟨[], [(0, .cells 3 [i6 x0])], 1, 1⟩))
theorem S201_69c_0_okg (fuel : Nat) (f112_e21 : YF112_e21) (R : Ev.St → OA) (K : KT) (x0 : LI) (x1 x2 x3 : Int) : evalCode tab (Gg201_69c f112_e21) J0 kp201_69c fuel (bodyOf 0 Tryz.f201) (T201_69c_0 (x0, x1, x2, x3)) (lc kp201_69c 2 0 R K) = Sg_slices_IndexFunc_int_int_69c_0 fuel f112_e21 x0 x1 x2 x3 (fun v => R (T201_69c_0 v)) (E201_69c_0 K) := by
  kernel_rfl
def B201_69c_0 (fuel : Nat) : Ev.Blk := fun st K => match canonO (kp201_69c 2) st with | some s => (match s with | ⟨[(q0, .c (.sl (.int .i64) x0)), (q1, .c (.clo q2 [q3])), (q4, .c (i6 x1)), (q5, .c (i6 x2))], [(q6, .cells q7 [i6 x3])], q8, q9⟩ => bif qb [q0, q1, q2, q3, q4, q5, q6, q7, q8, q9] [0, 1, 112, 0, 7, 8, 0, 3, 1, 1] then iter (S_slices_IndexFunc_int_int_69c_0 fuel) fuel (x0, x1, x2, x3) (E201_69c_0 K) else none | _ => none) | none => none
theorem B201_69c_0_ok (fuel : Nat) (st : Ev.St) (K : KT) (r : Ans) (h : B201_69c_0 fuel st K = some r) : evalCode tab (G201_69c fuel) J0 kp201_69c fuel (.block 0 (.loop (bodyOf 0 Tryz.f201))) st K = some r := by
  unfold B201_69c_0 at h
  split at h
  · rename_i s hs
    split at h
    · skip
      obtain ⟨hb, h⟩ := cond_some' h
      cases qb_eq hb
      exact blk_loop (S := T201_69c_0) (ks := E201_69c_0) (step := S_slices_IndexFunc_int_int_69c_0 fuel) (v := (_, _, _, _)) (by kernel_rfl) (by kernel_rfl) (fun R K v => by obtain ⟨x0, x1, x2, x3⟩ := v; exact S201_69c_0_okg fuel (F_tone_Planes_1_e21 fuel) R K x0 x1 x2 x3) hs h
    · cases h
  · cases h
def J201_69c (fuel : Nat) (i : Nat) : Option Ev.Blk := Ev.look i [(100000, B201_69c_0 fuel)]
def Fg_slices_IndexFunc_int_int_69c (fuel : Nat) (f112_e21 : YF112_e21) (x0 : LI) (x1 : Int) (k0 : (Int × Int) → OA) : OA := (L_slices_IndexFunc_int_int_69c_0 fuel (x0, (↑x0.length : Int), 0, x1) (fun (ret0_0, ret0_1) => k0 (ret0_0, ret0_1)) (fun b0_0 => k0 ((-1 : Int), b0_0)))
abbrev YF201_69c : Type := LI → Int → ((Int × Int) → Option Ans) → Option Ans
def F_slices_IndexFunc_int_int_69c (fuel : Nat) : YF201_69c := Fg_slices_IndexFunc_int_int_69c fuel (F_tone_Planes_1_e21 fuel)
theorem F201_69c_eqg (fuel : Nat) (f112_e21 : YF112_e21) (x0 : LI) (x1 : Int) (k : Ev.Cont) : evalFn tab (Gg201_69c f112_e21) (J201_69c fuel) kp201_69c fuel Tryz.f201 [.c (.sl (.int .i64) x0), .c (.clo 112 [0])] [.cells 3 [i6 x1]] k = Fg_slices_IndexFunc_int_int_69c fuel f112_e21 x0 x1 (fun r => match r with | (r0, r1) => k (.c (i6 r0), [.cells 3 [i6 r1]])) := by
  kernel_rfl
theorem hG201_69c (fuel : Nat) : GOK Tryz.prog (G201_69c fuel) :=
  gc (ok112_e21 fuel) Tryz.func112 (by kernel_rfl) rfl <|
  gok_nil
theorem B201_69c_0_blk (fuel : Nat) : BlkOK Tryz.prog Tryz.f201.ntmps (.block 0 (.loop (bodyOf 0 Tryz.f201))) (B201_69c_0 fuel) := bo0 (hG201_69c fuel) (by kernel_rfl) (by kernel_rfl) (B201_69c_0_ok fuel)
def spg201_69c (F : YF201_69c) : Ev.Spec := fun args objs k => match args, objs with | [.c (.sl (.int .i64) x0), .c (.clo q0 [q1])], [.cells q2 [i6 x1]] => bif qb [q0, q1, q2] [112, 0, 3] then F x0 x1 (fun r => match r with | (r0, r1) => k (.c (i6 r0), [.cells 3 [i6 r1]])) else none | _, _ => none
theorem ok201_69c (fuel : Nat) : FnOK Tryz.prog 201 (spg201_69c (F_slices_IndexFunc_int_int_69c fuel)) := by
  intro args objs kk r h
  unfold spg201_69c at h
  split at h
  · skip
    obtain ⟨hb, h⟩ := cond_some' h
    cases qb_eq hb
    exact fo1 (hG201_69c fuel) Tryz.func201 rfl (B201_69c_0_blk fuel) (by kernel_rfl) _ _ kk r ((F201_69c_eqg fuel (F_tone_Planes_1_e21 fuel) _ _ kk).trans h)
  · cases h
def kp111_69c (i : Nat) : Option (List Nat) := Ev.look i []
def Gg111_69c (f201_69c : YF201_69c) (f : Nat) : Option Ev.Spec := Ev.look f [(201, spg201_69c f201_69c)]
def G111_69c (fuel : Nat) : Nat → Option Ev.Spec := Gg111_69c (F_slices_IndexFunc_int_int_69c fuel)
def Fg_slices_ContainsFunc_int_int_69c (fuel : Nat) (f201_69c : YF201_69c) (x0 : LI) (x1 : Int) (k0 : (Bool × Int) → OA) : OA := (f201_69c x0 x1 (fun (y2_0, y2_1) => k0 (decide (y2_0 ≥ 0), y2_1)))
abbrev YF111_69c : Type := LI → Int → ((Bool × Int) → Option Ans) → Option Ans
def F_slices_ContainsFunc_int_int_69c (fuel : Nat) : YF111_69c := Fg_slices_ContainsFunc_int_int_69c fuel (F_slices_IndexFunc_int_int_69c fuel)
theorem F111_69c_eqg (fuel : Nat) (f201_69c : YF201_69c) (x0 : LI) (x1 : Int) (k : Ev.Cont) : evalFn tab (Gg111_69c f201_69c) J0 kp111_69c fuel Tryz.f111 [.c (.sl (.int .i64) x0), .c (.clo 112 [0])] [.cells 3 [i6 x1]] k = Fg_slices_ContainsFunc_int_int_69c fuel f201_69c x0 x1 (fun r => match r with | (r0, r1) => k (.c (.bool r0), [.cells 3 [i6 r1]])) := by
  kernel_rfl
theorem hG111_69c (fuel : Nat) : GOK Tryz.prog (G111_69c fuel) :=
  gc (ok201_69c fuel) Tryz.func201 (by kernel_rfl) rfl <|
  gok_nil
def spg111_69c (F : YF111_69c) : Ev.Spec := fun args objs k => match args, objs with | [.c (.sl (.int .i64) x0), .c (.clo q0 [q1])], [.cells q2 [i6 x1]] => bif qb [q0, q1, q2] [112, 0, 3] then F x0 x1 (fun r => match r with | (r0, r1) => k (.c (.bool r0), [.cells 3 [i6 r1]])) else none | _, _ => none
theorem ok111_69c (fuel : Nat) : FnOK Tryz.prog 111 (spg111_69c (F_slices_ContainsFunc_int_int_69c fuel)) := by
  intro args objs kk r h
  unfold spg111_69c at h
  split at h
  · skip
    obtain ⟨hb, h⟩ := cond_some' h
    cases qb_eq hb
    exact fo0 (hG111_69c fuel) Tryz.func111 rfl (by kernel_rfl) _ _ kk r ((F111_69c_eqg fuel (F_slices_IndexFunc_int_int_69c fuel) _ _ kk).trans h)
  · cases h
def kp42 (i : Nat) : Option (List Nat) := Ev.look i [(5, [0, 6, 7]), (9, [0, 6, 7, 8, 28, 29, 30]), (100000, [6]), (100002, [0, 6, 7, 8]), (400000, [4, 5]), (400002, [4, 5])]
def Gg42 (f111_69c : YF111_69c) (f : Nat) : Option Ev.Spec := Ev.look f [(111, spg111_69c f111_69c)]
def G42 (fuel : Nat) : Nat → Option Ev.Spec := Gg42 (F_slices_ContainsFunc_int_int_69c fuel)
abbrev V_tone_Planes_2 : Type := LI × Int × LI × Int × Int × (List LI) × LI
abbrev W_tone_Planes_2 : Type := (LI × Int × (List LI) × LI → OA)
def Sg_tone_Planes_2 (fuel : Nat) (f111_69c : YF111_69c) (x0 : LI) (x1 : Int) (x2 : LI) (x3 x4 : Int) (x5 : (List LI)) (x6 : LI) (c : V_tone_Planes_2 → OA) (B : W_tone_Planes_2) : OA := match B with | b => bif decide (x4 < x3) then bif decide (0 ≤ x4 ∧ x4 < (↑x2.length : Int)) then bif decide (x1 < 0) then none else bif decide (i64.wrap (x1 + 1) < 0) then none else bif decide ((x6.length + [u8.wrap (Ev.iand IntKind.i64 (Ev.ixor IntKind.i64 (Ev.ishr IntKind.i64 (x2.getD x4.toNat 0) x1) (Ev.ishr IntKind.i64 (x2.getD x4.toNat 0) (i64.wrap (x1 + 1)))) 1)].length) * (1 : Nat) ≤ (140737488355328 : Nat) ∧ x6.length + [u8.wrap (Ev.iand IntKind.i64 (Ev.ixor IntKind.i64 (Ev.ishr IntKind.i64 (x2.getD x4.toNat 0) x1) (Ev.ishr IntKind.i64 (x2.getD x4.toNat 0) (i64.wrap (x1 + 1)))) 1)].length ≤ (140737488355328 : Nat)) then c (x0, x1, x2, x3, i64.wrap (x4 + (1 : Int)), x5, x6 ++ [u8.wrap (Ev.iand IntKind.i64 (Ev.ixor IntKind.i64 (Ev.ishr IntKind.i64 (x2.getD x4.toNat (0 : Int)) x1) (Ev.ishr IntKind.i64 (x2.getD x4.toNat (0 : Int)) (i64.wrap (x1 + (1 : Int))))) (1 : Int))]) else none else none else b (x0, x1, x5, x6)
def S_tone_Planes_2 (fuel : Nat) (v : (List Int) × Int × (List Int) × Int × Int × (List (List Int)) × (List Int)) (c : ((List Int) × Int × (List Int) × Int × Int × (List (List Int)) × (List Int)) → Option Ans) (B : ((List Int) × Int × (List (List Int)) × (List Int) → Option Ans)) : Option Ans := match v with | (x0, x1, x2, x3, x4, x5, x6) => Sg_tone_Planes_2 fuel (F_slices_ContainsFunc_int_int_69c fuel) x0 x1 x2 x3 x4 x5 x6 c B
def L_tone_Planes_2 (fuel : Nat) (v : V_tone_Planes_2) (b : W_tone_Planes_2) : Option Ans := iter (S_tone_Planes_2 fuel) fuel v b
def T42_2 (v : V_tone_Planes_2) : Ev.St := match v with | (x0, x1, x2, x3, x4, x5, x6) => ⟨[(0, .c (.sl (.int .i64) x0)), (6, .c (.own 0)), (7, .c (i6 x1)), (8, .c (.own 1)), (28, .c (.sl (.int .i64) x2)), (29, .c (i6 x3)), (30, .c (i6 x4))], [(0, .vec 30 (.sl (.int .u8)) x5 true), (1, .vec 5 (.int .u8) x6 true)], 2, 0⟩
def E42_2 (K : KT) : W_tone_Planes_2 := (fun v => match v with | (x0, x1, x2, x3) => K .normal ⟨[(0, .c (.sl (.int .i64) x0)), (6, .c (.own 0)), (7, .c (i6 x1)), (8, .c (.own 1))], [(0, .vec 30 (.sl (.int .u8)) x2 true), (1, .vec 5 (.int .u8) x3 true)], 2, 0⟩)
theorem S42_2_okg (fuel : Nat) (f111_69c : YF111_69c) (R : Ev.St → OA) (K : KT) (x0 : LI) (x1 : Int) (x2 : LI) (x3 x4 : Int) (x5 : (List LI)) (x6 : LI) : evalCode tab (Gg42 f111_69c) J0 kp42 fuel (bodyOf 2 Tryz.f42) (T42_2 (x0, x1, x2, x3, x4, x5, x6)) (lc kp42 9 2 R K) = Sg_tone_Planes_2 fuel f111_69c x0 x1 x2 x3 x4 x5 x6 (fun v => R (T42_2 v)) (E42_2 K) := by
  kernel_rfl
def B42_2 (fuel : Nat) : Ev.Blk := fun st K => match canonO (kp42 9) st with | some s => (match s with | ⟨[(q0, .c (.sl (.int .i64) x0)), (q1, .c (.own q2)), (q3, .c (i6 x1)), (q4, .c (.own q5)), (q6, .c (.sl (.int .i64) x2)), (q7, .c (i6 x3)), (q8, .c (i6 x4))], [(q9, .vec q10 (.sl (.int .u8)) x5 true), (q11, .vec q12 (.int .u8) x6 true)], q13, q14⟩ => bif qb [q0, q1, q2, q3, q4, q5, q6, q7, q8, q9, q10, q11, q12, q13, q14] [0, 6, 0, 7, 8, 1, 28, 29, 30, 0, 30, 1, 5, 2, 0] then iter (S_tone_Planes_2 fuel) fuel (x0, x1, x2, x3, x4, x5, x6) (E42_2 K) else none | _ => none) | none => none
theorem B42_2_ok (fuel : Nat) (st : Ev.St) (K : KT) (r : Ans) (h : B42_2 fuel st K = some r) : evalCode tab (G42 fuel) J0 kp42 fuel (.block 2 (.loop (bodyOf 2 Tryz.f42))) st K = some r := by
  unfold B42_2 at h
  split at h
  · rename_i s hs
    split at h
    · skip
      obtain ⟨hb, h⟩ := cond_some' h
      cases qb_eq hb
      exact blk_loop (S := T42_2) (ks := E42_2) (step := S_tone_Planes_2 fuel) (v := (_, _, _, _, _, _, _)) (by kernel_rfl) (by kernel_rfl) (fun R K v => by obtain ⟨x0, x1, x2, x3, x4, x5, x6⟩ := v; exact S42_2_okg fuel (F_slices_ContainsFunc_int_int_69c fuel) R K x0 x1 x2 x3 x4 x5 x6) hs h
    · cases h
  · cases h
def Sg_tone_Planes_0 (fuel : Nat) (f111_69c : YF111_69c) (x0 : LI) (x1 : Int) (x2 : (List LI)) (c : (LI × Int × (List LI)) → OA) (B : ((List LI) → OA)) : OA := match B with | b => bif decide (x1 ≥ 0) then (L_tone_Planes_2 fuel (x0, x1, x0, (↑x0.length : Int), 0, x2, []) (fun (b2_0, b2_1, b2_2, b2_3) => bif decide ((b2_2.length + [b2_3].length) * (24 : Nat) ≤ (140737488355328 : Nat) ∧ b2_2.length + [b2_3].length ≤ (140737488355328 : Nat)) then c (b2_0, i64.wrap (b2_1 - (1 : Int)), b2_2 ++ [b2_3]) else none)) else b x2
def S_tone_Planes_0 (fuel : Nat) (v : (List Int) × Int × (List (List Int))) (c : ((List Int) × Int × (List (List Int))) → Option Ans) (B : ((List (List Int)) → Option Ans)) : Option Ans := match v with | (x0, x1, x2) => Sg_tone_Planes_0 fuel (F_slices_ContainsFunc_int_int_69c fuel) x0 x1 x2 c B
def L_tone_Planes_0 (fuel : Nat) (v : (List Int) × Int × (List (List Int))) (b : ((List (List Int)) → Option Ans)) : Option Ans := iter (S_tone_Planes_0 fuel) fuel v b
def J42_0 (fuel : Nat) (i : Nat) : Option Ev.Blk := Ev.look i [(100002, B42_2 fuel)]
def T42_0 (v : LI × Int × (List LI)) : Ev.St := match v with | (x0, x1, x2) => ⟨[(0, .c (.sl (.int .i64) x0)), (6, .c (.own 0)), (7, .c (i6 x1))], [(0, .vec 30 (.sl (.int .u8)) x2 true)], 1, 0⟩
def E42_0 (K : KT) : ((List LI) → OA) := (fun v => match v with | x0 => K .normal ⟨[(6, .c (.own 0))], [(0, .vec 30 (.sl (.int .u8)) x0 true)], 1, 0⟩)
theorem S42_0_okg (fuel : Nat) (f111_69c : YF111_69c) (R : Ev.St → OA) (K : KT) (x0 : LI) (x1 : Int) (x2 : (List LI)) : evalCode tab (Gg42 f111_69c) (J42_0 fuel) kp42 fuel (bodyOf 0 Tryz.f42) (T42_0 (x0, x1, x2)) (lc kp42 5 0 R K) = Sg_tone_Planes_0 fuel f111_69c x0 x1 x2 (fun v => R (T42_0 v)) (E42_0 K) := by
  kernel_rfl
def B42_0 (fuel : Nat) : Ev.Blk := fun st K => match canonO (kp42 5) st with | some s => (match s with | ⟨[(q0, .c (.sl (.int .i64) x0)), (q1, .c (.own q2)), (q3, .c (i6 x1))], [(q4, .vec q5 (.sl (.int .u8)) x2 true)], q6, q7⟩ => bif qb [q0, q1, q2, q3, q4, q5, q6, q7] [0, 6, 0, 7, 0, 30, 1, 0] then iter (S_tone_Planes_0 fuel) fuel (x0, x1, x2) (E42_0 K) else none | _ => none) | none => none
theorem B42_0_ok (fuel : Nat) (st : Ev.St) (K : KT) (r : Ans) (h : B42_0 fuel st K = some r) : evalCode tab (G42 fuel) (J42_0 fuel) kp42 fuel (.block 0 (.loop (bodyOf 0 Tryz.f42))) st K = some r := by
  unfold B42_0 at h
  split at h
  · rename_i s hs
    split at h
    · skip
      obtain ⟨hb, h⟩ := cond_some' h
      cases qb_eq hb
      exact blk_loop (S := T42_0) (ks := E42_0) (step := S_tone_Planes_0 fuel) (v := (_, _, _)) (by kernel_rfl) (by kernel_rfl) (fun R K v => by obtain ⟨x0, x1, x2⟩ := v; exact S42_0_okg fuel (F_slices_ContainsFunc_int_int_69c fuel) R K x0 x1 x2) hs h
    · cases h
  · cases h
def J42 (fuel : Nat) (i : Nat) : Option Ev.Blk := Ev.look i [(100002, B42_2 fuel), (100000, B42_0 fuel)]
def Fg_tone_Planes (fuel : Nat) (f111_69c : YF111_69c) (x0 : LI) (x1 : Int) (k0 : (Int × (List LI)) → OA) : OA := bif decide (x1 < 0) then k0 (2, []) else bif decide (x1 > 8) then k0 (2, []) else (f111_69c x0 x1 (fun (y4_0, y4_1) => bif y4_0 then k0 (2, []) else (L_tone_Planes_0 fuel (x0, i64.wrap (y4_1 - 1), []) (fun b0_0 => k0 (0, b0_0)))))
abbrev YF42 : Type := LI → Int → ((Int × (List LI)) → Option Ans) → Option Ans
def F_tone_Planes (fuel : Nat) : YF42 := Fg_tone_Planes fuel (F_slices_ContainsFunc_int_int_69c fuel)
theorem F42_eqg (fuel : Nat) (f111_69c : YF111_69c) (x0 : LI) (x1 : Int) (k : Ev.Cont) : evalFn tab (Gg42 f111_69c) (J42 fuel) kp42 fuel Tryz.f42 [.c (.sl (.int .i64) x0), .c (i6 x1)] [] k = Fg_tone_Planes fuel f111_69c x0 x1 (fun r => match r with | (r0, r1) => k (.tup [(false, [.own 0]), (false, [i6 r0])], [.vec 30 (.sl (.int .u8)) r1 true])) := by
  kernel_rfl
theorem hG42 (fuel : Nat) : GOK Tryz.prog (G42 fuel) :=
  gc (ok111_69c fuel) Tryz.func111 (by kernel_rfl) rfl <|
  gok_nil
theorem B42_2_blk (fuel : Nat) : BlkOK Tryz.prog Tryz.f42.ntmps (.block 2 (.loop (bodyOf 2 Tryz.f42))) (B42_2 fuel) := bo0 (hG42 fuel) (by kernel_rfl) (by kernel_rfl) (B42_2_ok fuel)
theorem B42_0_blk (fuel : Nat) : BlkOK Tryz.prog Tryz.f42.ntmps (.block 0 (.loop (bodyOf 0 Tryz.f42))) (B42_0 fuel) :=
  blk_of (blk_of_code tab_ok (hG42 fuel) mixed (J := J42_0 fuel) (kp := kp42) (fuel := fuel) (by kernel_rfl) (fun q hq => by
    rw [(by kernel_rfl : obl (J42_0 fuel) (.block 0 (.loop (bodyOf 0 Tryz.f42))) = [(.block 2 (.loop (bodyOf 2 Tryz.f42)), B42_2 fuel)])] at hq
    simp only [List.mem_cons, List.not_mem_nil, or_false] at hq
    subst hq
    · exact B42_2_blk fuel)) (B42_0_ok fuel)
def spg42 (F : YF42) : Ev.Spec := fun args objs k => match args, objs with | [.c (.sl (.int .i64) x0), .c (i6 x1)], [] => F x0 x1 (fun r => match r with | (r0, r1) => k (.tup [(false, [.own 0]), (false, [i6 r0])], [.vec 30 (.sl (.int .u8)) r1 true])) | _, _ => none
theorem ok42 (fuel : Nat) : FnOK Tryz.prog 42 (spg42 (F_tone_Planes fuel)) := by
  intro args objs kk r h
  unfold spg42 at h
  split at h
  · skip
    exact fo1 (hG42 fuel) Tryz.func42 rfl (B42_0_blk fuel) (by kernel_rfl) _ _ kk r ((F42_eqg fuel (F_slices_ContainsFunc_int_int_69c fuel) _ _ kk).trans h)
  · cases h
def kp13 (i : Nat) : Option (List Nat) := Ev.look i []
def Gg13 (f42 : YF42) (f : Nat) : Option Ev.Spec := Ev.look f [(42, spg42 f42)]
def G13 (fuel : Nat) : Nat → Option Ev.Spec := Gg13 (F_tone_Planes fuel)
def Fg_law11_Sane (fuel : Nat) (f42 : YF42)  (k0 : (Bool) → OA) : OA := (f42 ([0, 1, 2, 3]) (2) (fun (y2_0, y2_1) => bif y2_0 == 0 then bif (↑y2_1.length : Int) == 2 then bif decide ((0 : Int) ≤ (0 : Int) ∧ (0 : Int) < (↑y2_1.length : Int)) then both (both (bif (Go.strOfNums (y2_1.getD (Int.toNat 0) [])).toList == (Go.strOfNums [0, 0, 1, 1]).toList then bif decide ((0 : Int) ≤ (1 : Int) ∧ (1 : Int) < (↑y2_1.length : Int)) then both (both (k0 ((Go.strOfNums (y2_1.getD (Int.toNat 1) [])).toList == (Go.strOfNums [0, 1, 1, 0]).toList)) (both (k0 ((Go.strOfNums (y2_1.getD (Int.toNat 1) [])).toList == (Go.strOfNums [0, 1, 1, 0]).toList)) (k0 ((Go.strOfNums (y2_1.getD (Int.toNat 1) [])).toList == (Go.strOfNums [0, 1, 1, 0]).toList)))) (both (both (k0 ((Go.strOfNums (y2_1.getD (Int.toNat 1) [])).toList == (Go.strOfNums [0, 1, 1, 0]).toList)) (k0 ((Go.strOfNums (y2_1.getD (Int.toNat 1) [])).toList == (Go.strOfNums [0, 1, 1, 0]).toList))) (k0 ((Go.strOfNums (y2_1.getD (Int.toNat 1) [])).toList == (Go.strOfNums [0, 1, 1, 0]).toList))) else none else k0 false) (both (bif (Go.strOfNums (y2_1.getD (Int.toNat 0) [])).toList == (Go.strOfNums [0, 0, 1, 1]).toList then bif decide ((0 : Int) ≤ (1 : Int) ∧ (1 : Int) < (↑y2_1.length : Int)) then both (both (k0 ((Go.strOfNums (y2_1.getD (Int.toNat 1) [])).toList == (Go.strOfNums [0, 1, 1, 0]).toList)) (both (k0 ((Go.strOfNums (y2_1.getD (Int.toNat 1) [])).toList == (Go.strOfNums [0, 1, 1, 0]).toList)) (k0 ((Go.strOfNums (y2_1.getD (Int.toNat 1) [])).toList == (Go.strOfNums [0, 1, 1, 0]).toList)))) (both (both (k0 ((Go.strOfNums (y2_1.getD (Int.toNat 1) [])).toList == (Go.strOfNums [0, 1, 1, 0]).toList)) (k0 ((Go.strOfNums (y2_1.getD (Int.toNat 1) [])).toList == (Go.strOfNums [0, 1, 1, 0]).toList))) (k0 ((Go.strOfNums (y2_1.getD (Int.toNat 1) [])).toList == (Go.strOfNums [0, 1, 1, 0]).toList))) else none else k0 false) (bif (Go.strOfNums (y2_1.getD (Int.toNat 0) [])).toList == (Go.strOfNums [0, 0, 1, 1]).toList then bif decide ((0 : Int) ≤ (1 : Int) ∧ (1 : Int) < (↑y2_1.length : Int)) then both (both (k0 ((Go.strOfNums (y2_1.getD (Int.toNat 1) [])).toList == (Go.strOfNums [0, 1, 1, 0]).toList)) (both (k0 ((Go.strOfNums (y2_1.getD (Int.toNat 1) [])).toList == (Go.strOfNums [0, 1, 1, 0]).toList)) (k0 ((Go.strOfNums (y2_1.getD (Int.toNat 1) [])).toList == (Go.strOfNums [0, 1, 1, 0]).toList)))) (both (both (k0 ((Go.strOfNums (y2_1.getD (Int.toNat 1) [])).toList == (Go.strOfNums [0, 1, 1, 0]).toList)) (k0 ((Go.strOfNums (y2_1.getD (Int.toNat 1) [])).toList == (Go.strOfNums [0, 1, 1, 0]).toList))) (k0 ((Go.strOfNums (y2_1.getD (Int.toNat 1) [])).toList == (Go.strOfNums [0, 1, 1, 0]).toList))) else none else k0 false))) (both (both (bif (Go.strOfNums (y2_1.getD (Int.toNat 0) [])).toList == (Go.strOfNums [0, 0, 1, 1]).toList then bif decide ((0 : Int) ≤ (1 : Int) ∧ (1 : Int) < (↑y2_1.length : Int)) then both (both (k0 ((Go.strOfNums (y2_1.getD (Int.toNat 1) [])).toList == (Go.strOfNums [0, 1, 1, 0]).toList)) (both (k0 ((Go.strOfNums (y2_1.getD (Int.toNat 1) [])).toList == (Go.strOfNums [0, 1, 1, 0]).toList)) (k0 ((Go.strOfNums (y2_1.getD (Int.toNat 1) [])).toList == (Go.strOfNums [0, 1, 1, 0]).toList)))) (both (both (k0 ((Go.strOfNums (y2_1.getD (Int.toNat 1) [])).toList == (Go.strOfNums [0, 1, 1, 0]).toList)) (k0 ((Go.strOfNums (y2_1.getD (Int.toNat 1) [])).toList == (Go.strOfNums [0, 1, 1, 0]).toList))) (k0 ((Go.strOfNums (y2_1.getD (Int.toNat 1) [])).toList == (Go.strOfNums [0, 1, 1, 0]).toList))) else none else k0 false) (bif (Go.strOfNums (y2_1.getD (Int.toNat 0) [])).toList == (Go.strOfNums [0, 0, 1, 1]).toList then bif decide ((0 : Int) ≤ (1 : Int) ∧ (1 : Int) < (↑y2_1.length : Int)) then both (both (k0 ((Go.strOfNums (y2_1.getD (Int.toNat 1) [])).toList == (Go.strOfNums [0, 1, 1, 0]).toList)) (both (k0 ((Go.strOfNums (y2_1.getD (Int.toNat 1) [])).toList == (Go.strOfNums [0, 1, 1, 0]).toList)) (k0 ((Go.strOfNums (y2_1.getD (Int.toNat 1) [])).toList == (Go.strOfNums [0, 1, 1, 0]).toList)))) (both (both (k0 ((Go.strOfNums (y2_1.getD (Int.toNat 1) [])).toList == (Go.strOfNums [0, 1, 1, 0]).toList)) (k0 ((Go.strOfNums (y2_1.getD (Int.toNat 1) [])).toList == (Go.strOfNums [0, 1, 1, 0]).toList))) (k0 ((Go.strOfNums (y2_1.getD (Int.toNat 1) [])).toList == (Go.strOfNums [0, 1, 1, 0]).toList))) else none else k0 false)) (bif (Go.strOfNums (y2_1.getD (Int.toNat 0) [])).toList == (Go.strOfNums [0, 0, 1, 1]).toList then bif decide ((0 : Int) ≤ (1 : Int) ∧ (1 : Int) < (↑y2_1.length : Int)) then both (both (k0 ((Go.strOfNums (y2_1.getD (Int.toNat 1) [])).toList == (Go.strOfNums [0, 1, 1, 0]).toList)) (both (k0 ((Go.strOfNums (y2_1.getD (Int.toNat 1) [])).toList == (Go.strOfNums [0, 1, 1, 0]).toList)) (k0 ((Go.strOfNums (y2_1.getD (Int.toNat 1) [])).toList == (Go.strOfNums [0, 1, 1, 0]).toList)))) (both (both (k0 ((Go.strOfNums (y2_1.getD (Int.toNat 1) [])).toList == (Go.strOfNums [0, 1, 1, 0]).toList)) (k0 ((Go.strOfNums (y2_1.getD (Int.toNat 1) [])).toList == (Go.strOfNums [0, 1, 1, 0]).toList))) (k0 ((Go.strOfNums (y2_1.getD (Int.toNat 1) [])).toList == (Go.strOfNums [0, 1, 1, 0]).toList))) else none else k0 false)) else none else k0 false else k0 false))
abbrev YF13 : Type := (Bool → Option Ans) → Option Ans
def F_law11_Sane (fuel : Nat) : YF13 := Fg_law11_Sane fuel (F_tone_Planes fuel)
theorem F13_eqg (fuel : Nat) (f42 : YF42)  (k : Ev.Cont) : evalFn tab (Gg13 f42) J0 kp13 fuel Tryz.f13 [] [] k = Fg_law11_Sane fuel f42 (fun r => match r with | r0 => k (.c (.bool r0), [])) := by
  kernel_rfl
theorem hG13 (fuel : Nat) : GOK Tryz.prog (G13 fuel) :=
  gc (ok42 fuel) Tryz.func42 (by kernel_rfl) rfl <|
  gok_nil
def spg13 (F : YF13) : Ev.Spec := fun args objs k => match args, objs with | [], [] => F  (fun r => match r with | r0 => k (.c (.bool r0), [])) | _, _ => none
theorem ok13 (fuel : Nat) : FnOK Tryz.prog 13 (spg13 (F_law11_Sane fuel)) := by
  intro args objs kk r h
  unfold spg13 at h
  split at h
  · skip
    exact fo0 (hG13 fuel) Tryz.func13 rfl (by kernel_rfl) _ _ kk r ((F13_eqg fuel (F_tone_Planes fuel) kk).trans h)
  · cases h
def kp19 (i : Nat) : Option (List Nat) := Ev.look i [(4, [0, 1, 5]), (100000, []), (200006, [0, 1]), (400000, [4])]
def Gg19 (f : Nat) : Option Ev.Spec := Ev.look f []
def G19 (fuel : Nat) : Nat → Option Ev.Spec := Gg19
def S_ref01_SameInts_0 (fuel : Nat) (v : (List Int) × (List Int) × Int) (c : ((List Int) × (List Int) × Int) → Option Ans) (B : (Bool → Option Ans) × (Unit → Option Ans)) : Option Ans := match v, B with | (x0, x1, x2), (ret, b) => bif decide (x2 < (↑x0.length : Int)) then bif decide ((0 : Int) ≤ x2 ∧ x2 < (↑x0.length : Int)) then bif decide ((0 : Int) ≤ x2 ∧ x2 < (↑x1.length : Int)) then bif x0.getD x2.toNat (0 : Int) != x1.getD x2.toNat (0 : Int) then ret false else c (x0, x1, i64.wrap (x2 + (1 : Int))) else none else none else b ()
def L_ref01_SameInts_0 (fuel : Nat) (v : (List Int) × (List Int) × Int) (ret : (Bool → Option Ans)) (b : (Unit → Option Ans)) : Option Ans := iter (S_ref01_SameInts_0 fuel) fuel v (ret, b)
def T19_0 (v : LI × LI × Int) : Ev.St := match v with | (x0, x1, x2) => ⟨[(0, .c (.sl (.int .i64) x0)), (1, .c (.sl (.int .i64) x1)), (5, .c (i6 x2))], [], 0, 0⟩
def E19_0 (K : KT) : (Bool → OA) × (Unit → OA) := ((fun v => match v with | x0 => K .ret ⟨[(4, .c (.bool x0))], [], 0, 0⟩), (fun v => match v with | () => K .normal ⟨[], [], 0, 0⟩))
theorem S19_0_ok (fuel : Nat) (R : Ev.St → OA) (K : KT) (x0 x1 : LI) (x2 : Int) : evalCode tab (G19 fuel) J0 kp19 fuel (bodyOf 0 Tryz.f19) (T19_0 (x0, x1, x2)) (lc kp19 4 0 R K) = S_ref01_SameInts_0 fuel (x0, x1, x2) (fun v => R (T19_0 v)) (E19_0 K) := by
  kernel_rfl
def B19_0 (fuel : Nat) : Ev.Blk := fun st K => match canonO (kp19 4) st with | some s => (match s with | ⟨[(q0, .c (.sl (.int .i64) x0)), (q1, .c (.sl (.int .i64) x1)), (q2, .c (i6 x2))], [], q3, q4⟩ => bif qb [q0, q1, q2, q3, q4] [0, 1, 5, 0, 0] then iter (S_ref01_SameInts_0 fuel) fuel (x0, x1, x2) (E19_0 K) else none | _ => none) | none => none
theorem B19_0_ok (fuel : Nat) (st : Ev.St) (K : KT) (r : Ans) (h : B19_0 fuel st K = some r) : evalCode tab (G19 fuel) J0 kp19 fuel (.block 0 (.loop (bodyOf 0 Tryz.f19))) st K = some r := by
  unfold B19_0 at h
  split at h
  · rename_i s hs
    split at h
    · skip
      obtain ⟨hb, h⟩ := cond_some' h
      cases qb_eq hb
      exact blk_loop (S := T19_0) (ks := E19_0) (step := S_ref01_SameInts_0 fuel) (v := (_, _, _)) (by kernel_rfl) (by kernel_rfl) (fun R K v => by obtain ⟨x0, x1, x2⟩ := v; exact S19_0_ok fuel R K x0 x1 x2) hs h
    · cases h
  · cases h
def J19 (fuel : Nat) (i : Nat) : Option Ev.Blk := Ev.look i [(100000, B19_0 fuel)]
def F_ref01_SameInts (fuel : Nat) (x0 x1 : (List Int)) (k0 : (Bool) → Option Ans) : Option Ans := bif (↑x0.length : Int) != (↑x1.length : Int) then k0 false else (L_ref01_SameInts_0 fuel (x0, x1, 0) (fun ret0_0 => k0 ret0_0) (fun () => k0 true))
abbrev YF19 : Type := LI → LI → (Bool → Option Ans) → Option Ans
theorem F19_eq (fuel : Nat) (x0 x1 : LI) (k : Ev.Cont) : evalFn tab (G19 fuel) (J19 fuel) kp19 fuel Tryz.f19 [.c (.sl (.int .i64) x0), .c (.sl (.int .i64) x1)] [] k = F_ref01_SameInts fuel x0 x1 (fun r => match r with | r0 => k (.c (.bool r0), [])) := by
  kernel_rfl
theorem hG19 (fuel : Nat) : GOK Tryz.prog (G19 fuel) :=
  gok_nil
theorem B19_0_blk (fuel : Nat) : BlkOK Tryz.prog Tryz.f19.ntmps (.block 0 (.loop (bodyOf 0 Tryz.f19))) (B19_0 fuel) := bo0 (hG19 fuel) (by kernel_rfl) (by kernel_rfl) (B19_0_ok fuel)
def spg19 (F : YF19) : Ev.Spec := fun args objs k => match args, objs with | [.c (.sl (.int .i64) x0), .c (.sl (.int .i64) x1)], [] => F x0 x1 (fun r => match r with | r0 => k (.c (.bool r0), [])) | _, _ => none
theorem ok19 (fuel : Nat) : FnOK Tryz.prog 19 (spg19 (F_ref01_SameInts fuel)) := by
  intro args objs kk r h
  unfold spg19 at h
  split at h
  · skip
    exact fo1 (hG19 fuel) Tryz.func19 rfl (B19_0_blk fuel) (by kernel_rfl) _ _ kk r ((F19_eq fuel _ _ kk).trans h)
  · cases h
def kp144 (i : Nat) : Option (List Nat) := Ev.look i [(3, [1, 3, 4]), (100000, [3]), (400000, [2])]
def Gg144 (f : Nat) : Option Ev.Spec := Ev.look f []
def G144 (fuel : Nat) : Nat → Option Ev.Spec := Gg144
def S_ref02_Interval_End_0 (fuel : Nat) (v : Int × Int × Int × (List Int)) (c : (Int × Int × Int × (List Int)) → Option Ans) (B : ((List Int) → Option Ans)) : Option Ans := match v, B with | (x0, x1, x2, x3), b => bif decide (x0 < x1) then bif decide (i64.wrap ((24 : Int) - i64.wrap ((8 : Int) * (↑x3.length : Int))) < (0 : Int)) then none else bif decide ((x3.length + [u8.wrap (Ev.ishr IntKind.u64 x2 (i64.wrap ((24 : Int) - i64.wrap ((8 : Int) * (↑x3.length : Int)))))].length) * (1 : Nat) ≤ (140737488355328 : Nat) ∧ x3.length + [u8.wrap (Ev.ishr IntKind.u64 x2 (i64.wrap ((24 : Int) - i64.wrap ((8 : Int) * (↑x3.length : Int)))))].length ≤ (140737488355328 : Nat)) then bif decide (i64.wrap ((24 : Int) - i64.wrap ((8 : Int) * (↑x3.length : Int))) < (0 : Int)) then none else bif decide (i64.wrap ((24 : Int) - i64.wrap ((8 : Int) * (↑x3.length : Int))) < (0 : Int)) then none else c (u64.wrap (x0 + Ev.ishl IntKind.u64 ((Ev.ishr IntKind.u64 x2 (i64.wrap ((24 : Int) - i64.wrap ((8 : Int) * (↑x3.length : Int))))).tmod (256 : Int)) (i64.wrap ((24 : Int) - i64.wrap ((8 : Int) * (↑x3.length : Int))))), x1, x2, x3 ++ [u8.wrap (Ev.ishr IntKind.u64 x2 (i64.wrap ((24 : Int) - i64.wrap ((8 : Int) * (↑x3.length : Int)))))]) else none else b x3
def L_ref02_Interval_End_0 (fuel : Nat) (v : Int × Int × Int × (List Int)) (b : ((List Int) → Option Ans)) : Option Ans := iter (S_ref02_Interval_End_0 fuel) fuel v b
def T144_0 (v : Int × Int × Int × LI) : Ev.St := match v with | (x0, x1, x2, x3) => ⟨[(1, .c (.ptr 0 0)), (3, .c (.own 1)), (4, .c (.int .u64 x0))], [(0, .cells 184 [.int .u64 x1, .int .u64 x2]), (1, .vec 5 (.int .u8) x3 true)], 2, 0⟩
def E144_0 (K : KT) : (LI → OA) := (fun v => match v with | x0 => K .normal ⟨[(3, .c (.own 0))], [(0, .vec 5 (.int .u8) x0 true)], 1, 0⟩)
theorem S144_0_ok (fuel : Nat) (R : Ev.St → OA) (K : KT) (x0 x1 x2 : Int) (x3 : LI) : evalCode tab (G144 fuel) J0 kp144 fuel (bodyOf 0 Tryz.f144) (T144_0 (x0, x1, x2, x3)) (lc kp144 3 0 R K) = S_ref02_Interval_End_0 fuel (x0, x1, x2, x3) (fun v => R (T144_0 v)) (E144_0 K) := by
  kernel_rfl
def B144_0 (fuel : Nat) : Ev.Blk := fun st K => match canonO (kp144 3) st with | some s => (match s with | ⟨[(q0, .c (.ptr q1 q2)), (q3, .c (.own q4)), (q5, .c (.int .u64 x0))], [(q6, .cells q7 [.int .u64 x1, .int .u64 x2]), (q8, .vec q9 (.int .u8) x3 true)], q10, q11⟩ => bif qb [q0, q1, q2, q3, q4, q5, q6, q7, q8, q9, q10, q11] [1, 0, 0, 3, 1, 4, 0, 184, 1, 5, 2, 0] then iter (S_ref02_Interval_End_0 fuel) fuel (x0, x1, x2, x3) (E144_0 K) else none | _ => none) | none => none
theorem B144_0_ok (fuel : Nat) (st : Ev.St) (K : KT) (r : Ans) (h : B144_0 fuel st K = some r) : evalCode tab (G144 fuel) J0 kp144 fuel (.block 0 (.loop (bodyOf 0 Tryz.f144))) st K = some r := by
  unfold B144_0 at h
  split at h
  · rename_i s hs
    split at h
    · skip
      obtain ⟨hb, h⟩ := cond_some' h
      cases qb_eq hb
      exact blk_loop (S := T144_0) (ks := E144_0) (step := S_ref02_Interval_End_0 fuel) (v := (_, _, _, _)) (by kernel_rfl) (by kernel_rfl) (fun R K v => by obtain ⟨x0, x1, x2, x3⟩ := v; exact S144_0_ok fuel R K x0 x1 x2 x3) hs h
    · cases h
  · cases h
def J144 (fuel : Nat) (i : Nat) : Option Ev.Blk := Ev.look i [(100000, B144_0 fuel)]
def F_ref02_Interval_End (fuel : Nat) (x0 x1 : Int) (k0 : ((List Int)) → Option Ans) : Option Ans := (L_ref02_Interval_End_0 fuel (0, x0, x1, []) (fun b0_0 => k0 b0_0))
abbrev YF144 : Type := Int → Int → (LI → Option Ans) → Option Ans
theorem F144_eq (fuel : Nat) (x0 x1 : Int) (k : Ev.Cont) : evalFn tab (G144 fuel) (J144 fuel) kp144 fuel Tryz.f144 [.agg [.int .u64 x0, .int .u64 x1]] [] k = F_ref02_Interval_End fuel x0 x1 (fun r => match r with | r0 => k (.c (.own 0), [.vec 5 (.int .u8) r0 true])) := by
  kernel_rfl
theorem hG144 (fuel : Nat) : GOK Tryz.prog (G144 fuel) :=
  gok_nil
theorem B144_0_blk (fuel : Nat) : BlkOK Tryz.prog Tryz.f144.ntmps (.block 0 (.loop (bodyOf 0 Tryz.f144))) (B144_0 fuel) := bo0 (hG144 fuel) (by kernel_rfl) (by kernel_rfl) (B144_0_ok fuel)
def spg144 (F : YF144) : Ev.Spec := fun args objs k => match args, objs with | [.agg [.int .u64 x0, .int .u64 x1]], [] => F x0 x1 (fun r => match r with | r0 => k (.c (.own 0), [.vec 5 (.int .u8) r0 true])) | _, _ => none
theorem ok144 (fuel : Nat) : FnOK Tryz.prog 144 (spg144 (F_ref02_Interval_End fuel)) := by
  intro args objs kk r h
  unfold spg144 at h
  split at h
  · skip
    exact fo1 (hG144 fuel) Tryz.func144 rfl (B144_0_blk fuel) (by kernel_rfl) _ _ kk r ((F144_eq fuel _ _ kk).trans h)
  · cases h
def kp62_2fe (i : Nat) : Option (List Nat) := Ev.look i [(200003, [0])]
def Gg62_2fe (f144 : YF144) (f : Nat) : Option Ev.Spec := Ev.look f [(144, spg144 f144)]
def G62_2fe (fuel : Nat) : Nat → Option Ev.Spec := Gg62_2fe (F_ref02_Interval_End fuel)
def Fg_ref02_Encoder_End_2fe (fuel : Nat) (f144 : YF144) (x0 x1 x2 : Int) (x3 x4 : LI) (k0 : (Int × Int × Int × LI × LI × LI) → OA) : OA := bif decide (((0 : Nat) + x4.length) * (1 : Nat) ≤ (140737488355328 : Nat) ∧ (0 : Nat) + x4.length ≤ (140737488355328 : Nat)) then (f144 x1 x2 (fun y3 => bif decide ((([] ++ x4).length + y3.length) * (1 : Nat) ≤ (140737488355328 : Nat) ∧ ([] ++ x4).length + y3.length ≤ (140737488355328 : Nat)) then k0 (x0, x1, x2, x3, x4, [] ++ x4 ++ y3) else none)) else none
abbrev YF62_2fe : Type := Int → Int → Int → LI → LI → ((Int × Int × Int × LI × LI × LI) → Option Ans) → Option Ans
def F_ref02_Encoder_End_2fe (fuel : Nat) : YF62_2fe := Fg_ref02_Encoder_End_2fe fuel (F_ref02_Interval_End fuel)
theorem F62_2fe_eqg (fuel : Nat) (f144 : YF144) (x0 x1 x2 : Int) (x3 x4 : LI) (k : Ev.Cont) : evalFn tab (Gg62_2fe f144) J0 kp62_2fe fuel Tryz.f62 [.c (.ptr 0 0)] [.cells 187 [i6 x0, .own 1, .int .u64 x1, .int .u64 x2, .own 2], .vec 3 (.int .i64) x3 false, .vec 5 (.int .u8) x4 false] k = Fg_ref02_Encoder_End_2fe fuel f144 x0 x1 x2 x3 x4 (fun r => match r with | (r0, r1, r2, r3, r4, r5) => k (.c (.own 3), [.cells 187 [i6 r0, .own 1, .int .u64 r1, .int .u64 r2, .own 2], .vec 3 (.int .i64) r3 false, .vec 5 (.int .u8) r4 false, .vec 5 (.int .u8) r5 true])) := by
  kernel_rfl
theorem hG62_2fe (fuel : Nat) : GOK Tryz.prog (G62_2fe fuel) :=
  gc (ok144 fuel) Tryz.func144 (by kernel_rfl) rfl <|
  gok_nil
def spg62_2fe (F : YF62_2fe) : Ev.Spec := fun args objs k => match args, objs with | [.c (.ptr q0 q1)], [.cells q2 [i6 x0, .own q3, .int .u64 x1, .int .u64 x2, .own q4], .vec q5 (.int .i64) x3 false, .vec q6 (.int .u8) x4 false] => bif qb [q0, q1, q2, q3, q4, q5, q6] [0, 0, 187, 1, 2, 3, 5] then F x0 x1 x2 x3 x4 (fun r => match r with | (r0, r1, r2, r3, r4, r5) => k (.c (.own 3), [.cells 187 [i6 r0, .own 1, .int .u64 r1, .int .u64 r2, .own 2], .vec 3 (.int .i64) r3 false, .vec 5 (.int .u8) r4 false, .vec 5 (.int .u8) r5 true])) else none | _, _ => none
theorem ok62_2fe (fuel : Nat) : FnOK Tryz.prog 62 (spg62_2fe (F_ref02_Encoder_End_2fe fuel)) := by
  intro args objs kk r h
  unfold spg62_2fe at h
  split at h
  · skip
    obtain ⟨hb, h⟩ := cond_some' h
    cases qb_eq hb
    exact fo0 (hG62_2fe fuel) Tryz.func62 rfl (by kernel_rfl) _ _ kk r ((F62_2fe_eqg fuel (F_ref02_Interval_End fuel) _ _ _ _ _ kk).trans h)
  · cases h
def kp56 (i : Nat) : Option (List Nat) := Ev.look i []
def Gg56 (f : Nat) : Option Ev.Spec := Ev.look f []
def G56 (fuel : Nat) : Nat → Option Ev.Spec := Gg56
def F_ref02_New (fuel : Nat) (x0 x1 : Int) (k0 : (Int × Int × (List Int)) → Option Ans) : Option Ans := bif x0 != 0 then bif x0 != 1 then k0 (0, 2, []) else bif decide (x1 < 0) then k0 (0, 2, []) else bif decide (x1 > 8192) then k0 (0, 2, []) else bif decide (0 ≤ x1 ∧ x1 = x1 ∧ (↑(8 : Nat) : Int) * x1 ≤ 281474976710656 ∧ x1 ≤ 281474976710656) then k0 (x0, 0, List.replicate x1.toNat (0 : Int)) else none else bif decide (x1 < 0) then k0 (0, 2, []) else bif decide (x1 > 8192) then k0 (0, 2, []) else bif decide (0 ≤ x1 ∧ x1 = x1 ∧ (↑(8 : Nat) : Int) * x1 ≤ 281474976710656 ∧ x1 ≤ 281474976710656) then k0 (x0, 0, List.replicate x1.toNat (0 : Int)) else none
abbrev YF56 : Type := Int → Int → ((Int × Int × LI) → Option Ans) → Option Ans
theorem F56_eq (fuel : Nat) (x0 x1 : Int) (k : Ev.Cont) : evalFn tab (G56 fuel) J0 kp56 fuel Tryz.f56 [.c (i6 x0), .c (i6 x1)] [] k = F_ref02_New fuel x0 x1 (fun r => match r with | (r0, r1, r2) => k (.tup [(true, [i6 r0, .own 0]), (false, [i6 r1])], [.vec 3 (.int .i64) r2 true])) := by
  kernel_rfl
theorem hG56 (fuel : Nat) : GOK Tryz.prog (G56 fuel) :=
  gok_nil
def spg56 (F : YF56) : Ev.Spec := fun args objs k => match args, objs with | [.c (i6 x0), .c (i6 x1)], [] => F x0 x1 (fun r => match r with | (r0, r1, r2) => k (.tup [(true, [i6 r0, .own 0]), (false, [i6 r1])], [.vec 3 (.int .i64) r2 true])) | _, _ => none
theorem ok56 (fuel : Nat) : FnOK Tryz.prog 56 (spg56 (F_ref02_New fuel)) := by
  intro args objs kk r h
  unfold spg56 at h
  split at h
  · skip
    exact fo0 (hG56 fuel) Tryz.func56 rfl (by kernel_rfl) _ _ kk r ((F56_eq fuel _ _ kk).trans h)
  · cases h
def kp133 (i : Nat) : Option (List Nat) := Ev.look i [(200001, [1])]
def Gg133 (f : Nat) : Option Ev.Spec := Ev.look f []
def G133 (fuel : Nat) : Nat → Option Ev.Spec := Gg133
def F_ref02_Copy (fuel : Nat) (x0 : Int) (x1 : (List Int)) (k0 : (Int × (List Int)) → Option Ans) : Option Ans := bif decide (((0 : Nat) + x1.length) * (8 : Nat) ≤ (140737488355328 : Nat) ∧ (0 : Nat) + x1.length ≤ (140737488355328 : Nat)) then k0 (x0, [] ++ x1) else none
abbrev YF133 : Type := Int → LI → ((Int × LI) → Option Ans) → Option Ans
theorem F133_eq (fuel : Nat) (x0 : Int) (x1 : LI) (k : Ev.Cont) : evalFn tab (G133 fuel) J0 kp133 fuel Tryz.f133 [.agg [i6 x0, .sl (.int .i64) x1]] [] k = F_ref02_Copy fuel x0 x1 (fun r => match r with | (r0, r1) => k (.agg [i6 r0, .own 0], [.vec 3 (.int .i64) r1 true])) := by
  kernel_rfl
theorem hG133 (fuel : Nat) : GOK Tryz.prog (G133 fuel) :=
  gok_nil
def spg133 (F : YF133) : Ev.Spec := fun args objs k => match args, objs with | [.agg [i6 x0, .sl (.int .i64) x1]], [] => F x0 x1 (fun r => match r with | (r0, r1) => k (.agg [i6 r0, .own 0], [.vec 3 (.int .i64) r1 true])) | _, _ => none
theorem ok133 (fuel : Nat) : FnOK Tryz.prog 133 (spg133 (F_ref02_Copy fuel)) := by
  intro args objs kk r h
  unfold spg133 at h
  split at h
  · skip
    exact fo0 (hG133 fuel) Tryz.func133 rfl (by kernel_rfl) _ _ kk r ((F133_eq fuel _ _ kk).trans h)
  · cases h
def kp132 (i : Nat) : Option (List Nat) := Ev.look i [(7, [3, 24, 25, 26]), (100000, []), (400000, [2])]
def Gg132 (f : Nat) : Option Ev.Spec := Ev.look f []
def G132 (fuel : Nat) : Nat → Option Ev.Spec := Gg132
def S_ref02_Valid_0 (fuel : Nat) (v : Int × (List Int) × Int × Int) (c : (Int × (List Int) × Int × Int) → Option Ans) (B : (Bool → Option Ans) × (Unit → Option Ans)) : Option Ans := match v, B with | (x0, x1, x2, x3), (ret, b) => bif decide (x3 < x2) then bif decide ((0 : Int) ≤ x3 ∧ x3 < (↑x1.length : Int)) then bif decide (x1.getD x3.toNat (0 : Int) < (0 : Int)) then ret false else bif decide (x1.getD x3.toNat (0 : Int) > x0) then ret false else c (x0, x1, x2, i64.wrap (x3 + (1 : Int))) else none else b ()
def L_ref02_Valid_0 (fuel : Nat) (v : Int × (List Int) × Int × Int) (ret : (Bool → Option Ans)) (b : (Unit → Option Ans)) : Option Ans := iter (S_ref02_Valid_0 fuel) fuel v (ret, b)
def T132_0 (v : Int × LI × Int × Int) : Ev.St := match v with | (x0, x1, x2, x3) => ⟨[(3, .c (i6 x0)), (24, .c (.sl (.int .i64) x1)), (25, .c (i6 x2)), (26, .c (i6 x3))], [], 0, 0⟩
def E132_0 (K : KT) : (Bool → OA) × (Unit → OA) := ((fun v => match v with | x0 => K .ret ⟨[(2, .c (.bool x0))], [], 0, 0⟩), (fun v => match v with | () => K .normal ⟨[], [], 0, 0⟩))
theorem S132_0_ok (fuel : Nat) (R : Ev.St → OA) (K : KT) (x0 : Int) (x1 : LI) (x2 x3 : Int) : evalCode tab (G132 fuel) J0 kp132 fuel (bodyOf 0 Tryz.f132) (T132_0 (x0, x1, x2, x3)) (lc kp132 7 0 R K) = S_ref02_Valid_0 fuel (x0, x1, x2, x3) (fun v => R (T132_0 v)) (E132_0 K) := by
  kernel_rfl
def B132_0 (fuel : Nat) : Ev.Blk := fun st K => match canonO (kp132 7) st with | some s => (match s with | ⟨[(q0, .c (i6 x0)), (q1, .c (.sl (.int .i64) x1)), (q2, .c (i6 x2)), (q3, .c (i6 x3))], [], q4, q5⟩ => bif qb [q0, q1, q2, q3, q4, q5] [3, 24, 25, 26, 0, 0] then iter (S_ref02_Valid_0 fuel) fuel (x0, x1, x2, x3) (E132_0 K) else none | _ => none) | none => none
theorem B132_0_ok (fuel : Nat) (st : Ev.St) (K : KT) (r : Ans) (h : B132_0 fuel st K = some r) : evalCode tab (G132 fuel) J0 kp132 fuel (.block 0 (.loop (bodyOf 0 Tryz.f132))) st K = some r := by
  unfold B132_0 at h
  split at h
  · rename_i s hs
    split at h
    · skip
      obtain ⟨hb, h⟩ := cond_some' h
      cases qb_eq hb
      exact blk_loop (S := T132_0) (ks := E132_0) (step := S_ref02_Valid_0 fuel) (v := (_, _, _, _)) (by kernel_rfl) (by kernel_rfl) (fun R K v => by obtain ⟨x0, x1, x2, x3⟩ := v; exact S132_0_ok fuel R K x0 x1 x2 x3) hs h
    · cases h
  · cases h
def J132 (fuel : Nat) (i : Nat) : Option Ev.Blk := Ev.look i [(100000, B132_0 fuel)]
def F_ref02_Valid (fuel : Nat) (x0 : Int) (x1 : (List Int)) (k0 : (Bool) → Option Ans) : Option Ans := bif x0 == 1 then bif x0 != 0 then bif x0 != 1 then k0 false else bif decide ((↑x1.length : Int) > 8192) then k0 false else (L_ref02_Valid_0 fuel (65535, x1, (↑x1.length : Int), 0) (fun ret0_0 => k0 ret0_0) (fun () => k0 true)) else bif decide ((↑x1.length : Int) > 8192) then k0 false else (L_ref02_Valid_0 fuel (65535, x1, (↑x1.length : Int), 0) (fun ret0_0 => k0 ret0_0) (fun () => k0 true)) else bif x0 != 0 then bif x0 != 1 then k0 false else bif decide ((↑x1.length : Int) > 8192) then k0 false else (L_ref02_Valid_0 fuel (63, x1, (↑x1.length : Int), 0) (fun ret0_0 => k0 ret0_0) (fun () => k0 true)) else bif decide ((↑x1.length : Int) > 8192) then k0 false else (L_ref02_Valid_0 fuel (63, x1, (↑x1.length : Int), 0) (fun ret0_0 => k0 ret0_0) (fun () => k0 true))
abbrev YF132 : Type := Int → LI → (Bool → Option Ans) → Option Ans
theorem F132_eq (fuel : Nat) (x0 : Int) (x1 : LI) (k : Ev.Cont) : evalFn tab (G132 fuel) (J132 fuel) kp132 fuel Tryz.f132 [.agg [i6 x0, .sl (.int .i64) x1]] [] k = F_ref02_Valid fuel x0 x1 (fun r => match r with | r0 => k (.c (.bool r0), [])) := by
  kernel_rfl
theorem hG132 (fuel : Nat) : GOK Tryz.prog (G132 fuel) :=
  gok_nil
theorem B132_0_blk (fuel : Nat) : BlkOK Tryz.prog Tryz.f132.ntmps (.block 0 (.loop (bodyOf 0 Tryz.f132))) (B132_0 fuel) := bo0 (hG132 fuel) (by kernel_rfl) (by kernel_rfl) (B132_0_ok fuel)
def spg132 (F : YF132) : Ev.Spec := fun args objs k => match args, objs with | [.agg [i6 x0, .sl (.int .i64) x1]], [] => F x0 x1 (fun r => match r with | r0 => k (.c (.bool r0), [])) | _, _ => none
theorem ok132 (fuel : Nat) : FnOK Tryz.prog 132 (spg132 (F_ref02_Valid fuel)) := by
  intro args objs kk r h
  unfold spg132 at h
  split at h
  · skip
    exact fo1 (hG132 fuel) Tryz.func132 rfl (B132_0_blk fuel) (by kernel_rfl) _ _ kk r ((F132_eq fuel _ _ kk).trans h)
  · cases h
def kp134 (i : Nat) : Option (List Nat) := Ev.look i []
def Gg134 (f : Nat) : Option Ev.Spec := Ev.look f []
def G134 (fuel : Nat) : Nat → Option Ev.Spec := Gg134
def F_ref02_Whole (fuel : Nat)  (k0 : (Int × Int) → Option Ans) : Option Ans := k0 (0, 4294967295)
abbrev YF134 : Type := ((Int × Int) → Option Ans) → Option Ans
theorem F134_eq (fuel : Nat)  (k : Ev.Cont) : evalFn tab (G134 fuel) J0 kp134 fuel Tryz.f134 [] [] k = F_ref02_Whole fuel  (fun r => match r with | (r0, r1) => k (.agg [.int .u64 r0, .int .u64 r1], [])) := by
  kernel_rfl
theorem hG134 (fuel : Nat) : GOK Tryz.prog (G134 fuel) :=
  gok_nil
def spg134 (F : YF134) : Ev.Spec := fun args objs k => match args, objs with | [], [] => F  (fun r => match r with | (r0, r1) => k (.agg [.int .u64 r0, .int .u64 r1], [])) | _, _ => none
theorem ok134 (fuel : Nat) : FnOK Tryz.prog 134 (spg134 (F_ref02_Whole fuel)) := by
  intro args objs kk r h
  unfold spg134 at h
  split at h
  · skip
    exact fo0 (hG134 fuel) Tryz.func134 rfl (by kernel_rfl) _ _ kk r ((F134_eq fuel kk).trans h)
  · cases h
def kp57 (i : Nat) : Option (List Nat) := Ev.look i [(600000, [])]
def Gg57 (f132 : YF132) (f133 : YF133) (f134 : YF134) (f : Nat) : Option Ev.Spec := Ev.look f [(132, spg132 f132), (133, spg133 f133), (134, spg134 f134)]
def G57 (fuel : Nat) : Nat → Option Ev.Spec := Gg57 (F_ref02_Valid fuel) (F_ref02_Copy fuel) (F_ref02_Whole fuel)
def Fg_ref02_NewEncoder (fuel : Nat) (f132 : YF132) (f133 : YF133) (f134 : YF134) (x0 : Int) (x1 : LI) (k0 : (Int) → OA) (k1 : (Int × Int × Int × Int × LI × LI) → OA) : OA := (f132 x0 x1 (fun y2 => bif !y2 then k0 (10) else (f133 x0 x1 (fun (y7_0, y7_1) => (f134 (fun (y11_0, y11_1) => k1 (0, y7_0, y11_0, y11_1, y7_1, [])))))))
abbrev YF57 : Type := Int → LI → (Int → Option Ans) → ((Int × Int × Int × Int × LI × LI) → Option Ans) → Option Ans
def F_ref02_NewEncoder (fuel : Nat) : YF57 := Fg_ref02_NewEncoder fuel (F_ref02_Valid fuel) (F_ref02_Copy fuel) (F_ref02_Whole fuel)
theorem F57_eqg (fuel : Nat) (f132 : YF132) (f133 : YF133) (f134 : YF134) (x0 : Int) (x1 : LI) (k : Ev.Cont) : evalFn tab (Gg57 f132 f133 f134) J0 kp57 fuel Tryz.f57 [.agg [i6 x0, .sl (.int .i64) x1]] [] k = Fg_ref02_NewEncoder fuel f132 f133 f134 x0 x1 (fun r => match r with | r0 => k (.tup [(false, [.nilptr]), (false, [i6 r0])], [])) (fun r => match r with | (r0, r1, r2, r3, r4, r5) => k (.tup [(false, [.ptr 0 0]), (false, [i6 r0])], [.cells 187 [i6 r1, .own 1, .int .u64 r2, .int .u64 r3, .own 2], .vec 3 (.int .i64) r4 true, .vec 5 (.int .u8) r5 true])) := by
  kernel_rfl
theorem hG57 (fuel : Nat) : GOK Tryz.prog (G57 fuel) :=
  gc (ok132 fuel) Tryz.func132 (by kernel_rfl) rfl <|
  gc (ok133 fuel) Tryz.func133 (by kernel_rfl) rfl <|
  gc (ok134 fuel) Tryz.func134 (by kernel_rfl) rfl <|
  gok_nil
def spg57 (F : YF57) : Ev.Spec := fun args objs k => match args, objs with | [.agg [i6 x0, .sl (.int .i64) x1]], [] => F x0 x1 (fun r => match r with | r0 => k (.tup [(false, [.nilptr]), (false, [i6 r0])], [])) (fun r => match r with | (r0, r1, r2, r3, r4, r5) => k (.tup [(false, [.ptr 0 0]), (false, [i6 r0])], [.cells 187 [i6 r1, .own 1, .int .u64 r2, .int .u64 r3, .own 2], .vec 3 (.int .i64) r4 true, .vec 5 (.int .u8) r5 true])) | _, _ => none
theorem ok57 (fuel : Nat) : FnOK Tryz.prog 57 (spg57 (F_ref02_NewEncoder fuel)) := by
  intro args objs kk r h
  unfold spg57 at h
  split at h
  · skip
    exact fo0 (hG57 fuel) Tryz.func57 rfl (by kernel_rfl) _ _ kk r ((F57_eqg fuel (F_ref02_Valid fuel) (F_ref02_Copy fuel) (F_ref02_Whole fuel) _ _ kk).trans h)
  · cases h
def kp59 (i : Nat) : Option (List Nat) := Ev.look i [(2, [0, 3]), (100000, [0, 3]), (400000, [2])]
def Gg59 (f : Nat) : Option Ev.Spec := Ev.look f []
def G59 (fuel : Nat) : Nat → Option Ev.Spec := Gg59
def S_ref03_Width_0 (fuel : Nat) (v : Int × Int) (c : (Int × Int) → Option Ans) (B : (Int × Int → Option Ans)) : Option Ans := match v, B with | (x0, x1), b => bif decide (x1 < (62 : Int)) then bif decide (x1 < (0 : Int)) then none else bif decide (Ev.ishl IntKind.i64 (1 : Int) x1 < x0) then c (x0, i64.wrap (x1 + (1 : Int))) else b (x0, x1) else b (x0, x1)
def L_ref03_Width_0 (fuel : Nat) (v : Int × Int) (b : (Int × Int → Option Ans)) : Option Ans := iter (S_ref03_Width_0 fuel) fuel v b
def T59_0 (v : Int × Int) : Ev.St := match v with | (x0, x1) => ⟨[(0, .c (i6 x0)), (3, .c (i6 x1))], [], 0, 0⟩
def E59_0 (K : KT) : (Int × Int → OA) := (fun v => match v with | (x0, x1) => K .normal ⟨[(0, .c (i6 x0)), (3, .c (i6 x1))], [], 0, 0⟩)
theorem S59_0_ok (fuel : Nat) (R : Ev.St → OA) (K : KT) (x0 x1 : Int) : evalCode tab (G59 fuel) J0 kp59 fuel (bodyOf 0 Tryz.f59) (T59_0 (x0, x1)) (lc kp59 2 0 R K) = S_ref03_Width_0 fuel (x0, x1) (fun v => R (T59_0 v)) (E59_0 K) := by
  kernel_rfl
def B59_0 (fuel : Nat) : Ev.Blk := fun st K => match canonO (kp59 2) st with | some s => (match s with | ⟨[(q0, .c (i6 x0)), (q1, .c (i6 x1))], [], q2, q3⟩ => bif qb [q0, q1, q2, q3] [0, 3, 0, 0] then iter (S_ref03_Width_0 fuel) fuel (x0, x1) (E59_0 K) else none | _ => none) | none => none
theorem B59_0_ok (fuel : Nat) (st : Ev.St) (K : KT) (r : Ans) (h : B59_0 fuel st K = some r) : evalCode tab (G59 fuel) J0 kp59 fuel (.block 0 (.loop (bodyOf 0 Tryz.f59))) st K = some r := by
  unfold B59_0 at h
  split at h
  · rename_i s hs
    split at h
    · skip
      obtain ⟨hb, h⟩ := cond_some' h
      cases qb_eq hb
      exact blk_loop (S := T59_0) (ks := E59_0) (step := S_ref03_Width_0 fuel) (v := (_, _)) (by kernel_rfl) (by kernel_rfl) (fun R K v => by obtain ⟨x0, x1⟩ := v; exact S59_0_ok fuel R K x0 x1) hs h
    · cases h
  · cases h
def J59 (fuel : Nat) (i : Nat) : Option Ev.Blk := Ev.look i [(100000, B59_0 fuel)]
def F_ref03_Width (fuel : Nat) (x0 : Int) (k0 : (Int) → Option Ans) : Option Ans := (L_ref03_Width_0 fuel (x0, 0) (fun (b0_0, b0_1) => bif decide (b0_1 < 0) then none else bif decide (Ev.ishl IntKind.i64 1 b0_1 < b0_0) then k0 (63) else k0 b0_1))
abbrev YF59 : Type := Int → (Int → Option Ans) → Option Ans
theorem F59_eq (fuel : Nat) (x0 : Int) (k : Ev.Cont) : evalFn tab (G59 fuel) (J59 fuel) kp59 fuel Tryz.f59 [.c (i6 x0)] [] k = F_ref03_Width fuel x0 (fun r => match r with | r0 => k (.c (i6 r0), [])) := by
  kernel_rfl
theorem hG59 (fuel : Nat) : GOK Tryz.prog (G59 fuel) :=
  gok_nil
theorem B59_0_blk (fuel : Nat) : BlkOK Tryz.prog Tryz.f59.ntmps (.block 0 (.loop (bodyOf 0 Tryz.f59))) (B59_0 fuel) := bo0 (hG59 fuel) (by kernel_rfl) (by kernel_rfl) (B59_0_ok fuel)
def spg59 (F : YF59) : Ev.Spec := fun args objs k => match args, objs with | [.c (i6 x0)], [] => F x0 (fun r => match r with | r0 => k (.c (i6 r0), [])) | _, _ => none
theorem ok59 (fuel : Nat) : FnOK Tryz.prog 59 (spg59 (F_ref03_Width fuel)) := by
  intro args objs kk r h
  unfold spg59 at h
  split at h
  · skip
    exact fo1 (hG59 fuel) Tryz.func59 rfl (B59_0_blk fuel) (by kernel_rfl) _ _ kk r ((F59_eq fuel _ kk).trans h)
  · cases h
def kp138_2fe (i : Nat) : Option (List Nat) := Ev.look i []
def Gg138_2fe (f133 : YF133) (f : Nat) : Option Ev.Spec := Ev.look f [(133, spg133 f133)]
def G138_2fe (fuel : Nat) : Nat → Option Ev.Spec := Gg138_2fe (F_ref02_Copy fuel)
def Fg_ref02_Encoder_Model_2fe (fuel : Nat) (f133 : YF133) (x0 x1 x2 : Int) (x3 x4 : LI) (k0 : (Int × Int × Int × Int × LI × LI × LI) → OA) : OA := (f133 x0 x3 (fun (y2_0, y2_1) => k0 (y2_0, x0, x1, x2, x3, x4, y2_1)))
abbrev YF138_2fe : Type := Int → Int → Int → LI → LI → ((Int × Int × Int × Int × LI × LI × LI) → Option Ans) → Option Ans
def F_ref02_Encoder_Model_2fe (fuel : Nat) : YF138_2fe := Fg_ref02_Encoder_Model_2fe fuel (F_ref02_Copy fuel)
theorem F138_2fe_eqg (fuel : Nat) (f133 : YF133) (x0 x1 x2 : Int) (x3 x4 : LI) (k : Ev.Cont) : evalFn tab (Gg138_2fe f133) J0 kp138_2fe fuel Tryz.f138 [.c (.ptr 0 0)] [.cells 187 [i6 x0, .own 1, .int .u64 x1, .int .u64 x2, .own 2], .vec 3 (.int .i64) x3 false, .vec 5 (.int .u8) x4 false] k = Fg_ref02_Encoder_Model_2fe fuel f133 x0 x1 x2 x3 x4 (fun r => match r with | (r0, r1, r2, r3, r4, r5, r6) => k (.agg [i6 r0, .own 3], [.cells 187 [i6 r1, .own 1, .int .u64 r2, .int .u64 r3, .own 2], .vec 3 (.int .i64) r4 false, .vec 5 (.int .u8) r5 false, .vec 3 (.int .i64) r6 true])) := by
  kernel_rfl
theorem hG138_2fe (fuel : Nat) : GOK Tryz.prog (G138_2fe fuel) :=
  gc (ok133 fuel) Tryz.func133 (by kernel_rfl) rfl <|
  gok_nil
def spg138_2fe (F : YF138_2fe) : Ev.Spec := fun args objs k => match args, objs with | [.c (.ptr q0 q1)], [.cells q2 [i6 x0, .own q3, .int .u64 x1, .int .u64 x2, .own q4], .vec q5 (.int .i64) x3 false, .vec q6 (.int .u8) x4 false] => bif qb [q0, q1, q2, q3, q4, q5, q6] [0, 0, 187, 1, 2, 3, 5] then F x0 x1 x2 x3 x4 (fun r => match r with | (r0, r1, r2, r3, r4, r5, r6) => k (.agg [i6 r0, .own 3], [.cells 187 [i6 r1, .own 1, .int .u64 r2, .int .u64 r3, .own 2], .vec 3 (.int .i64) r4 false, .vec 5 (.int .u8) r5 false, .vec 3 (.int .i64) r6 true])) else none | _, _ => none
theorem ok138_2fe (fuel : Nat) : FnOK Tryz.prog 138 (spg138_2fe (F_ref02_Encoder_Model_2fe fuel)) := by
  intro args objs kk r h
  unfold spg138_2fe at h
  split at h
  · skip
    obtain ⟨hb, h⟩ := cond_some' h
    cases qb_eq hb
    exact fo0 (hG138_2fe fuel) Tryz.func138 rfl (by kernel_rfl) _ _ kk r ((F138_2fe_eqg fuel (F_ref02_Copy fuel) _ _ _ _ _ kk).trans h)
  · cases h
def kp181 (i : Nat) : Option (List Nat) := Ev.look i []
def Gg181 (f : Nat) : Option Ev.Spec := Ev.look f []
def G181 (fuel : Nat) : Nat → Option Ev.Spec := Gg181
def F_ref02_After (fuel : Nat) (x0 x1 x2 : Int) (k0 : (Int) → Option Ans) : Option Ans := bif x0 == 0 then bif x2 == i64.wrap (x1.tdiv 32) then k0 (i64.wrap (i64.wrap ((32 : Int) * i64.wrap (x1.tdiv (32 : Int))) + bif decide ((31 : Int) < i64.wrap (x1.tmod (32 : Int) + (1 : Int))) then (31 : Int) else i64.wrap (x1.tmod (32 : Int) + (1 : Int)))) else bif x1.tmod (32 : Int) == (0 : Int) then k0 (i64.wrap (32 * x2)) else k0 (i64.wrap (i64.wrap (i64.wrap (i64.wrap (32 * i64.wrap (x1.tdiv 32)) + x1.tmod 32) - 1) - i64.wrap ((x1.tmod 32).tdiv 4))) else bif decide (0 ≤ x2 ∧ x2 < (↑(2 : Nat) : Int)) then bif decide (x2 = (↑(0 : Nat) : Int)) then bif i64.wrap (x1.tdiv 256) == 255 then bif decide (0 ≤ x2 ∧ x2 < (↑(2 : Nat) : Int)) then bif decide (x2 = (↑(0 : Nat) : Int)) then bif decide (0 ≤ x2 ∧ x2 < (↑(2 : Nat) : Int)) then bif decide (x2 = (↑(0 : Nat) : Int)) then k0 (i64.wrap (i64.wrap (256 * i64.wrap (i64.wrap ((i64.wrap (x1.tdiv 256)).tdiv 2) + 1)) + i64.wrap ((x1.tmod 256).tdiv 2))) else bif decide (x2 = (↑(1 : Nat) : Int)) then k0 (i64.wrap (i64.wrap (256 * i64.wrap ((i64.wrap (x1.tdiv 256)).tdiv 2)) + i64.wrap (i64.wrap ((i64.wrap (x1.tdiv 256)).tdiv 2) + 1))) else none else none else bif decide (x2 = (↑(1 : Nat) : Int)) then bif decide (0 ≤ x2 ∧ x2 < (↑(2 : Nat) : Int)) then bif decide (x2 = (↑(0 : Nat) : Int)) then k0 (i64.wrap (i64.wrap (256 * i64.wrap (i64.wrap ((x1.tmod 256).tdiv 2) + 1)) + i64.wrap ((x1.tmod 256).tdiv 2))) else bif decide (x2 = (↑(1 : Nat) : Int)) then k0 (i64.wrap (i64.wrap (256 * i64.wrap ((i64.wrap (x1.tdiv 256)).tdiv 2)) + i64.wrap (i64.wrap ((x1.tmod 256).tdiv 2) + 1))) else none else none else none else none else bif decide (0 ≤ x2 ∧ x2 < (↑(2 : Nat) : Int)) then bif decide (x2 = (↑(0 : Nat) : Int)) then bif decide (0 ≤ x2 ∧ x2 < (↑(2 : Nat) : Int)) then bif decide (x2 = (↑(0 : Nat) : Int)) then k0 (i64.wrap (i64.wrap (256 * i64.wrap (i64.wrap (x1.tdiv 256) + 1)) + x1.tmod 256)) else bif decide (x2 = (↑(1 : Nat) : Int)) then k0 (i64.wrap (i64.wrap (256 * i64.wrap (x1.tdiv 256)) + i64.wrap (i64.wrap (x1.tdiv 256) + 1))) else none else none else bif decide (x2 = (↑(1 : Nat) : Int)) then bif decide (0 ≤ x2 ∧ x2 < (↑(2 : Nat) : Int)) then bif decide (x2 = (↑(0 : Nat) : Int)) then k0 (i64.wrap (i64.wrap ((256 : Int) * i64.wrap (x1.tmod (256 : Int) + (1 : Int))) + x1.tmod (256 : Int))) else bif decide (x2 = (↑(1 : Nat) : Int)) then k0 (i64.wrap (i64.wrap ((256 : Int) * i64.wrap (x1.tdiv (256 : Int))) + i64.wrap (x1.tmod (256 : Int) + (1 : Int)))) else none else none else none else none else bif decide (x2 = (↑(1 : Nat) : Int)) then bif x1.tmod (256 : Int) == (255 : Int) then bif decide (0 ≤ x2 ∧ x2 < (↑(2 : Nat) : Int)) then bif decide (x2 = (↑(0 : Nat) : Int)) then bif decide (0 ≤ x2 ∧ x2 < (↑(2 : Nat) : Int)) then bif decide (x2 = (↑(0 : Nat) : Int)) then k0 (i64.wrap (i64.wrap (256 * i64.wrap (i64.wrap ((i64.wrap (x1.tdiv 256)).tdiv 2) + 1)) + i64.wrap ((x1.tmod 256).tdiv 2))) else bif decide (x2 = (↑(1 : Nat) : Int)) then k0 (i64.wrap (i64.wrap (256 * i64.wrap ((i64.wrap (x1.tdiv 256)).tdiv 2)) + i64.wrap (i64.wrap ((i64.wrap (x1.tdiv 256)).tdiv 2) + 1))) else none else none else bif decide (x2 = (↑(1 : Nat) : Int)) then bif decide (0 ≤ x2 ∧ x2 < (↑(2 : Nat) : Int)) then bif decide (x2 = (↑(0 : Nat) : Int)) then k0 (i64.wrap (i64.wrap (256 * i64.wrap (i64.wrap ((x1.tmod 256).tdiv 2) + 1)) + i64.wrap ((x1.tmod 256).tdiv 2))) else bif decide (x2 = (↑(1 : Nat) : Int)) then k0 (i64.wrap (i64.wrap (256 * i64.wrap ((i64.wrap (x1.tdiv 256)).tdiv 2)) + i64.wrap (i64.wrap ((x1.tmod 256).tdiv 2) + 1))) else none else none else none else none else bif decide (0 ≤ x2 ∧ x2 < (↑(2 : Nat) : Int)) then bif decide (x2 = (↑(0 : Nat) : Int)) then bif decide (0 ≤ x2 ∧ x2 < (↑(2 : Nat) : Int)) then bif decide (x2 = (↑(0 : Nat) : Int)) then k0 (i64.wrap (i64.wrap (256 * i64.wrap (i64.wrap (x1.tdiv 256) + 1)) + x1.tmod 256)) else bif decide (x2 = (↑(1 : Nat) : Int)) then k0 (i64.wrap (i64.wrap (256 * i64.wrap (x1.tdiv 256)) + i64.wrap (i64.wrap (x1.tdiv 256) + 1))) else none else none else bif decide (x2 = (↑(1 : Nat) : Int)) then bif decide (0 ≤ x2 ∧ x2 < (↑(2 : Nat) : Int)) then bif decide (x2 = (↑(0 : Nat) : Int)) then k0 (i64.wrap (i64.wrap ((256 : Int) * i64.wrap (x1.tmod (256 : Int) + (1 : Int))) + x1.tmod (256 : Int))) else bif decide (x2 = (↑(1 : Nat) : Int)) then k0 (i64.wrap (i64.wrap ((256 : Int) * i64.wrap (x1.tdiv (256 : Int))) + i64.wrap (x1.tmod (256 : Int) + (1 : Int)))) else none else none else none else none else none else none
abbrev YF181 : Type := Int → Int → Int → (Int → Option Ans) → Option Ans
theorem F181_eq (fuel : Nat) (x0 x1 x2 : Int) (k : Ev.Cont) : evalFn tab (G181 fuel) J0 kp181 fuel Tryz.f181 [.c (i6 x0), .c (i6 x1), .c (i6 x2)] [] k = F_ref02_After fuel x0 x1 x2 (fun r => match r with | r0 => k (.c (i6 r0), [])) := by
  kernel_rfl
theorem hG181 (fuel : Nat) : GOK Tryz.prog (G181 fuel) :=
  gok_nil
def spg181 (F : YF181) : Ev.Spec := fun args objs k => match args, objs with | [.c (i6 x0), .c (i6 x1), .c (i6 x2)], [] => F x0 x1 x2 (fun r => match r with | r0 => k (.c (i6 r0), [])) | _, _ => none
theorem ok181 (fuel : Nat) : FnOK Tryz.prog 181 (spg181 (F_ref02_After fuel)) := by
  intro args objs kk r h
  unfold spg181 at h
  split at h
  · skip
    exact fo0 (hG181 fuel) Tryz.func181 rfl (by kernel_rfl) _ _ kk r ((F181_eq fuel _ _ _ kk).trans h)
  · cases h
def kp182 (i : Nat) : Option (List Nat) := Ev.look i []
def Gg182 (f : Nat) : Option Ev.Spec := Ev.look f []
def G182 (fuel : Nat) : Nat → Option Ev.Spec := Gg182
def F_ref02_Interval_Fixed (fuel : Nat) (x0 x1 : Int) (k0 : (Bool) → Option Ans) : Option Ans := k0 (Ev.ishr IntKind.u64 x0 24 == Ev.ishr IntKind.u64 x1 24)
abbrev YF182 : Type := Int → Int → (Bool → Option Ans) → Option Ans
theorem F182_eq (fuel : Nat) (x0 x1 : Int) (k : Ev.Cont) : evalFn tab (G182 fuel) J0 kp182 fuel Tryz.f182 [.agg [.int .u64 x0, .int .u64 x1]] [] k = F_ref02_Interval_Fixed fuel x0 x1 (fun r => match r with | r0 => k (.c (.bool r0), [])) := by
  kernel_rfl
theorem hG182 (fuel : Nat) : GOK Tryz.prog (G182 fuel) :=
  gok_nil
def spg182 (F : YF182) : Ev.Spec := fun args objs k => match args, objs with | [.agg [.int .u64 x0, .int .u64 x1]], [] => F x0 x1 (fun r => match r with | r0 => k (.c (.bool r0), [])) | _, _ => none
theorem ok182 (fuel : Nat) : FnOK Tryz.prog 182 (spg182 (F_ref02_Interval_Fixed fuel)) := by
  intro args objs kk r h
  unfold spg182 at h
  split at h
  · skip
    exact fo0 (hG182 fuel) Tryz.func182 rfl (by kernel_rfl) _ _ kk r ((F182_eq fuel _ _ kk).trans h)
  · cases h
def kp225 (i : Nat) : Option (List Nat) := Ev.look i []
def Gg225 (f : Nat) : Option Ev.Spec := Ev.look f []
def G225 (fuel : Nat) : Nat → Option Ev.Spec := Gg225
def F_ref02_Interval_Mid (fuel : Nat) (x0 x1 x2 : Int) (k0 : (Int) → Option Ans) : Option Ans := k0 (u64.wrap (u64.wrap (x0 + u64.wrap (u64.wrap ((u64.wrap (x1 - x0)).tdiv 4096) * u64.wrap x2)) + u64.wrap ((u64.wrap ((u64.wrap (x1 - x0)).tmod 4096 * u64.wrap x2)).tdiv 4096)))
abbrev YF225 : Type := Int → Int → Int → (Int → Option Ans) → Option Ans
theorem F225_eq (fuel : Nat) (x0 x1 x2 : Int) (k : Ev.Cont) : evalFn tab (G225 fuel) J0 kp225 fuel Tryz.f225 [.agg [.int .u64 x0, .int .u64 x1], .c (i6 x2)] [] k = F_ref02_Interval_Mid fuel x0 x1 x2 (fun r => match r with | r0 => k (.c (.int .u64 r0), [])) := by
  kernel_rfl
theorem hG225 (fuel : Nat) : GOK Tryz.prog (G225 fuel) :=
  gok_nil
def spg225 (F : YF225) : Ev.Spec := fun args objs k => match args, objs with | [.agg [.int .u64 x0, .int .u64 x1], .c (i6 x2)], [] => F x0 x1 x2 (fun r => match r with | r0 => k (.c (.int .u64 r0), [])) | _, _ => none
theorem ok225 (fuel : Nat) : FnOK Tryz.prog 225 (spg225 (F_ref02_Interval_Mid fuel)) := by
  intro args objs kk r h
  unfold spg225 at h
  split at h
  · skip
    exact fo0 (hG225 fuel) Tryz.func225 rfl (by kernel_rfl) _ _ kk r ((F225_eq fuel _ _ _ kk).trans h)
  · cases h
def kp180 (i : Nat) : Option (List Nat) := Ev.look i [(200002, [3]), (200003, [3])]
def Gg180 (f225 : YF225) (f : Nat) : Option Ev.Spec := Ev.look f [(225, spg225 f225)]
def G180 (fuel : Nat) : Nat → Option Ev.Spec := Gg180 (F_ref02_Interval_Mid fuel)
def Fg_ref02_Interval_Part (fuel : Nat) (f225 : YF225) (x0 x1 : Int) (x2 x3 : Int) (k0 : (Int × Int) → OA) : OA := bif x3 == 1 then (f225 x0 x1 x2 (fun y3 => k0 (x0, y3))) else (f225 x0 x1 x2 (fun y3 => k0 (u64.wrap (y3 + 1), x1)))
abbrev YF180 : Type := Int → Int → Int → Int → ((Int × Int) → Option Ans) → Option Ans
def F_ref02_Interval_Part (fuel : Nat) : YF180 := Fg_ref02_Interval_Part fuel (F_ref02_Interval_Mid fuel)
theorem F180_eqg (fuel : Nat) (f225 : YF225) (x0 x1 : Int) (x2 x3 : Int) (k : Ev.Cont) : evalFn tab (Gg180 f225) J0 kp180 fuel Tryz.f180 [.agg [.int .u64 x0, .int .u64 x1], .c (i6 x2), .c (i6 x3)] [] k = Fg_ref02_Interval_Part fuel f225 x0 x1 x2 x3 (fun r => match r with | (r0, r1) => k (.agg [.int .u64 r0, .int .u64 r1], [])) := by
  kernel_rfl
theorem hG180 (fuel : Nat) : GOK Tryz.prog (G180 fuel) :=
  gc (ok225 fuel) Tryz.func225 (by kernel_rfl) rfl <|
  gok_nil
def spg180 (F : YF180) : Ev.Spec := fun args objs k => match args, objs with | [.agg [.int .u64 x0, .int .u64 x1], .c (i6 x2), .c (i6 x3)], [] => F x0 x1 x2 x3 (fun r => match r with | (r0, r1) => k (.agg [.int .u64 r0, .int .u64 r1], [])) | _, _ => none
theorem ok180 (fuel : Nat) : FnOK Tryz.prog 180 (spg180 (F_ref02_Interval_Part fuel)) := by
  intro args objs kk r h
  unfold spg180 at h
  split at h
  · skip
    exact fo0 (hG180 fuel) Tryz.func180 rfl (by kernel_rfl) _ _ kk r ((F180_eqg fuel (F_ref02_Interval_Mid fuel) _ _ _ _ kk).trans h)
  · cases h
def kp183 (i : Nat) : Option (List Nat) := Ev.look i []
def Gg183 (f : Nat) : Option Ev.Spec := Ev.look f []
def G183 (fuel : Nat) : Nat → Option Ev.Spec := Gg183
def F_ref02_Interval_Shifted (fuel : Nat) (x0 x1 : Int) (k0 : (Int × Int) → Option Ans) : Option Ans := k0 (u64.wrap (x0.tmod (16777216 : Int) * (256 : Int)), u64.wrap (u64.wrap (x1.tmod (16777216 : Int) * (256 : Int)) + (255 : Int)))
abbrev YF183 : Type := Int → Int → ((Int × Int) → Option Ans) → Option Ans
theorem F183_eq (fuel : Nat) (x0 x1 : Int) (k : Ev.Cont) : evalFn tab (G183 fuel) J0 kp183 fuel Tryz.f183 [.agg [.int .u64 x0, .int .u64 x1]] [] k = F_ref02_Interval_Shifted fuel x0 x1 (fun r => match r with | (r0, r1) => k (.agg [.int .u64 r0, .int .u64 r1], [])) := by
  kernel_rfl
theorem hG183 (fuel : Nat) : GOK Tryz.prog (G183 fuel) :=
  gok_nil
def spg183 (F : YF183) : Ev.Spec := fun args objs k => match args, objs with | [.agg [.int .u64 x0, .int .u64 x1]], [] => F x0 x1 (fun r => match r with | (r0, r1) => k (.agg [.int .u64 r0, .int .u64 r1], [])) | _, _ => none
theorem ok183 (fuel : Nat) : FnOK Tryz.prog 183 (spg183 (F_ref02_Interval_Shifted fuel)) := by
  intro args objs kk r h
  unfold spg183 at h
  split at h
  · skip
    exact fo0 (hG183 fuel) Tryz.func183 rfl (by kernel_rfl) _ _ kk r ((F183_eq fuel _ _ kk).trans h)
  · cases h
def kp238 (i : Nat) : Option (List Nat) := Ev.look i [(3, [0, 3, 4]), (100000, [3]), (400000, [2])]
def Gg238 (f : Nat) : Option Ev.Spec := Ev.look f []
def G238 (fuel : Nat) : Nat → Option Ev.Spec := Gg238
def S_ref02_unlikely_0 (fuel : Nat) (v : Int × Int × Int) (c : (Int × Int × Int) → Option Ans) (B : (Int → Option Ans)) : Option Ans := match v, B with | (x0, x1, x2), b => bif decide (x2 < x0) then c (x0, i64.wrap (x1 - i64.wrap (x1.tdiv (8 : Int))), i64.wrap (x2 + (1 : Int))) else b x1
def L_ref02_unlikely_0 (fuel : Nat) (v : Int × Int × Int) (b : (Int → Option Ans)) : Option Ans := iter (S_ref02_unlikely_0 fuel) fuel v b
def T238_0 (v : Int × Int × Int) : Ev.St := match v with | (x0, x1, x2) => ⟨[(0, .c (i6 x0)), (3, .c (i6 x1)), (4, .c (i6 x2))], [], 0, 0⟩
def E238_0 (K : KT) : (Int → OA) := (fun v => match v with | x0 => K .normal ⟨[(3, .c (i6 x0))], [], 0, 0⟩)
theorem S238_0_ok (fuel : Nat) (R : Ev.St → OA) (K : KT) (x0 x1 x2 : Int) : evalCode tab (G238 fuel) J0 kp238 fuel (bodyOf 0 Tryz.f238) (T238_0 (x0, x1, x2)) (lc kp238 3 0 R K) = S_ref02_unlikely_0 fuel (x0, x1, x2) (fun v => R (T238_0 v)) (E238_0 K) := by
  kernel_rfl
def B238_0 (fuel : Nat) : Ev.Blk := fun st K => match canonO (kp238 3) st with | some s => (match s with | ⟨[(q0, .c (i6 x0)), (q1, .c (i6 x1)), (q2, .c (i6 x2))], [], q3, q4⟩ => bif qb [q0, q1, q2, q3, q4] [0, 3, 4, 0, 0] then iter (S_ref02_unlikely_0 fuel) fuel (x0, x1, x2) (E238_0 K) else none | _ => none) | none => none
theorem B238_0_ok (fuel : Nat) (st : Ev.St) (K : KT) (r : Ans) (h : B238_0 fuel st K = some r) : evalCode tab (G238 fuel) J0 kp238 fuel (.block 0 (.loop (bodyOf 0 Tryz.f238))) st K = some r := by
  unfold B238_0 at h
  split at h
  · rename_i s hs
    split at h
    · skip
      obtain ⟨hb, h⟩ := cond_some' h
      cases qb_eq hb
      exact blk_loop (S := T238_0) (ks := E238_0) (step := S_ref02_unlikely_0 fuel) (v := (_, _, _)) (by kernel_rfl) (by kernel_rfl) (fun R K v => by obtain ⟨x0, x1, x2⟩ := v; exact S238_0_ok fuel R K x0 x1 x2) hs h
    · cases h
  · cases h
def J238 (fuel : Nat) (i : Nat) : Option Ev.Blk := Ev.look i [(100000, B238_0 fuel)]
def F_ref02_unlikely (fuel : Nat) (x0 : Int) (k0 : (Int) → Option Ans) : Option Ans := (L_ref02_unlikely_0 fuel (x0, 2048, 0) (fun b0_0 => k0 b0_0))
abbrev YF238 : Type := Int → (Int → Option Ans) → Option Ans
theorem F238_eq (fuel : Nat) (x0 : Int) (k : Ev.Cont) : evalFn tab (G238 fuel) (J238 fuel) kp238 fuel Tryz.f238 [.c (i6 x0)] [] k = F_ref02_unlikely fuel x0 (fun r => match r with | r0 => k (.c (i6 r0), [])) := by
  kernel_rfl
theorem hG238 (fuel : Nat) : GOK Tryz.prog (G238 fuel) :=
  gok_nil
theorem B238_0_blk (fuel : Nat) : BlkOK Tryz.prog Tryz.f238.ntmps (.block 0 (.loop (bodyOf 0 Tryz.f238))) (B238_0 fuel) := bo0 (hG238 fuel) (by kernel_rfl) (by kernel_rfl) (B238_0_ok fuel)
def spg238 (F : YF238) : Ev.Spec := fun args objs k => match args, objs with | [.c (i6 x0)], [] => F x0 (fun r => match r with | r0 => k (.c (i6 r0), [])) | _, _ => none
theorem ok238 (fuel : Nat) : FnOK Tryz.prog 238 (spg238 (F_ref02_unlikely fuel)) := by
  intro args objs kk r h
  unfold spg238 at h
  split at h
  · skip
    exact fo1 (hG238 fuel) Tryz.func238 rfl (B238_0_blk fuel) (by kernel_rfl) _ _ kk r ((F238_eq fuel _ kk).trans h)
  · cases h
def kp179 (i : Nat) : Option (List Nat) := Ev.look i []
def Gg179 (f238 : YF238) (f : Nat) : Option Ev.Spec := Ev.look f [(238, spg238 f238)]
def G179 (fuel : Nat) : Nat → Option Ev.Spec := Gg179 (F_ref02_unlikely fuel)
def Fg_ref02_Likely (fuel : Nat) (f238 : YF238) (x0 x1 : Int) (k0 : (Int) → OA) : OA := bif x0 == 0 then (f238 (x1.tmod 32) (fun y3 => bif decide (x1 < 32) then k0 y3 else (f238 (x1.tmod 32) (fun y8 => k0 (i64.wrap (4096 - y8)))))) else bif decide (i64.wrap (i64.wrap (i64.wrap (2 * i64.wrap (x1.tdiv 256)) + i64.wrap (2 * x1.tmod 256)) + 2) = 0) then none else k0 (bif decide (4095 < bif decide (1 > i64.wrap ((i64.wrap (i64.wrap (i64.wrap (2 * x1.tmod 256) + 1) * 4096)).tdiv (i64.wrap (i64.wrap (i64.wrap (2 * i64.wrap (x1.tdiv 256)) + i64.wrap (2 * x1.tmod 256)) + 2)))) then 1 else i64.wrap ((i64.wrap (i64.wrap (i64.wrap (2 * x1.tmod 256) + 1) * 4096)).tdiv (i64.wrap (i64.wrap (i64.wrap (2 * i64.wrap (x1.tdiv 256)) + i64.wrap (2 * x1.tmod 256)) + 2)))) then 4095 else bif decide (1 > i64.wrap ((i64.wrap (i64.wrap (i64.wrap (2 * x1.tmod 256) + 1) * 4096)).tdiv (i64.wrap (i64.wrap (i64.wrap (2 * i64.wrap (x1.tdiv 256)) + i64.wrap (2 * x1.tmod 256)) + 2)))) then 1 else i64.wrap ((i64.wrap (i64.wrap (i64.wrap (2 * x1.tmod 256) + 1) * 4096)).tdiv (i64.wrap (i64.wrap (i64.wrap (2 * i64.wrap (x1.tdiv 256)) + i64.wrap (2 * x1.tmod 256)) + 2))))
abbrev YF179 : Type := Int → Int → (Int → Option Ans) → Option Ans
def F_ref02_Likely (fuel : Nat) : YF179 := Fg_ref02_Likely fuel (F_ref02_unlikely fuel)
theorem F179_eqg (fuel : Nat) (f238 : YF238) (x0 x1 : Int) (k : Ev.Cont) : evalFn tab (Gg179 f238) J0 kp179 fuel Tryz.f179 [.c (i6 x0), .c (i6 x1)] [] k = Fg_ref02_Likely fuel f238 x0 x1 (fun r => match r with | r0 => k (.c (i6 r0), [])) := by
  kernel_rfl
theorem hG179 (fuel : Nat) : GOK Tryz.prog (G179 fuel) :=
  gc (ok238 fuel) Tryz.func238 (by kernel_rfl) rfl <|
  gok_nil
def spg179 (F : YF179) : Ev.Spec := fun args objs k => match args, objs with | [.c (i6 x0), .c (i6 x1)], [] => F x0 x1 (fun r => match r with | r0 => k (.c (i6 r0), [])) | _, _ => none
theorem ok179 (fuel : Nat) : FnOK Tryz.prog 179 (spg179 (F_ref02_Likely fuel)) := by
  intro args objs kk r h
  unfold spg179 at h
  split at h
  · skip
    exact fo0 (hG179 fuel) Tryz.func179 rfl (by kernel_rfl) _ _ kk r ((F179_eqg fuel (F_ref02_unlikely fuel) _ _ kk).trans h)
  · cases h
def kp88_e89 (i : Nat) : Option (List Nat) := Ev.look i [(8, [0, 1000002]), (100000, []), (200005, [0]), (200007, [0]), (400000, [6]), (600000, [])]
def Gg88_e89 (f179 : YF179) (f180 : YF180) (f181 : YF181) (f182 : YF182) (f183 : YF183) (f : Nat) : Option Ev.Spec := Ev.look f [(179, spg179 f179), (180, spg180 f180), (181, spg181 f181), (182, spg182 f182), (183, spg183 f183)]
def G88_e89 (fuel : Nat) : Nat → Option Ev.Spec := Gg88_e89 (F_ref02_Likely fuel) (F_ref02_Interval_Part fuel) (F_ref02_After fuel) (F_ref02_Interval_Fixed fuel) (F_ref02_Interval_Shifted fuel)
abbrev V_ref02_Encoder_Put_e89_0 : Type := Int × Int × Int × LI × LI
abbrev W_ref02_Encoder_Put_e89_0 : Type := (Int × Int × Int × LI × LI → OA)
def Sg_ref02_Encoder_Put_e89_0 (fuel : Nat) (f179 : YF179) (f180 : YF180) (f181 : YF181) (f182 : YF182) (f183 : YF183) (x0 x1 x2 : Int) (x3 x4 : LI) (c : V_ref02_Encoder_Put_e89_0 → OA) (B : W_ref02_Encoder_Put_e89_0) : OA := match B with | b => (f182 x1 x2 (fun y2 => bif y2 then both (bif decide ((x4.length + [u8.wrap (Ev.ishr IntKind.u64 x2 24)].length) * (1 : Nat) ≤ (140737488355328 : Nat) ∧ x4.length + [u8.wrap (Ev.ishr IntKind.u64 x2 24)].length ≤ (140737488355328 : Nat)) then (f183 x1 x2 (fun (y10_0, y10_1) => c (x0, y10_0, y10_1, x3, x4 ++ [u8.wrap (Ev.ishr IntKind.u64 x2 (24 : Int))]))) else none) (both (bif decide ((x4.length + [u8.wrap (Ev.ishr IntKind.u64 x2 24)].length) * (1 : Nat) ≤ (140737488355328 : Nat) ∧ x4.length + [u8.wrap (Ev.ishr IntKind.u64 x2 24)].length ≤ (140737488355328 : Nat)) then (f183 x1 x2 (fun (y12_0, y12_1) => c (x0, y12_0, y12_1, x3, x4 ++ [u8.wrap (Ev.ishr IntKind.u64 x2 (24 : Int))]))) else none) (bif decide ((x4.length + [u8.wrap (Ev.ishr IntKind.u64 x2 24)].length) * (1 : Nat) ≤ (140737488355328 : Nat) ∧ x4.length + [u8.wrap (Ev.ishr IntKind.u64 x2 24)].length ≤ (140737488355328 : Nat)) then (f183 x1 x2 (fun (y12_0, y12_1) => c (x0, y12_0, y12_1, x3, x4 ++ [u8.wrap (Ev.ishr IntKind.u64 x2 (24 : Int))]))) else none)) else b (x0, x1, x2, x3, x4)))
def S_ref02_Encoder_Put_e89_0 (fuel : Nat) (v : Int × Int × Int × (List Int) × (List Int)) (c : (Int × Int × Int × (List Int) × (List Int)) → Option Ans) (B : (Int × Int × Int × (List Int) × (List Int) → Option Ans)) : Option Ans := match v with | (x0, x1, x2, x3, x4) => Sg_ref02_Encoder_Put_e89_0 fuel (F_ref02_Likely fuel) (F_ref02_Interval_Part fuel) (F_ref02_After fuel) (F_ref02_Interval_Fixed fuel) (F_ref02_Interval_Shifted fuel) x0 x1 x2 x3 x4 c B
def L_ref02_Encoder_Put_e89_0 (fuel : Nat) (v : V_ref02_Encoder_Put_e89_0) (b : W_ref02_Encoder_Put_e89_0) : Option Ans := iter (S_ref02_Encoder_Put_e89_0 fuel) fuel v b
def T88_e89_0 (v : V_ref02_Encoder_Put_e89_0) : Ev.St := match v with | (x0, x1, x2, x3, x4) => ⟨[(0, .c (.ptr 0 0))], [(0, .cells 187 [i6 x0, .own 1, .int .u64 x1, .int .u64 x2, .own 2]), (1, .vec 3 (.int .i64) x3 false), (2, .vec 5 (.int .u8) x4 true)], 3, 3⟩
def E88_e89_0 (K : KT) : W_ref02_Encoder_Put_e89_0 := (fun v => match v with | (x0, x1, x2, x3, x4) => K .normal ⟨[], [(0, .cells 187 [i6 x0, .own 1, .int .u64 x1, .int .u64 x2, .own 2]), (1, .vec 3 (.int .i64) x3 false), (2, .vec 5 (.int .u8) x4 true)], 3, 3⟩)
theorem S88_e89_0_okg (fuel : Nat) (f179 : YF179) (f180 : YF180) (f181 : YF181) (f182 : YF182) (f183 : YF183) (R : Ev.St → OA) (K : KT) (x0 x1 x2 : Int) (x3 x4 : LI) : evalCode tab (Gg88_e89 f179 f180 f181 f182 f183) J0 kp88_e89 fuel (bodyOf 0 Tryz.f88) (T88_e89_0 (x0, x1, x2, x3, x4)) (lc kp88_e89 8 0 R K) = Sg_ref02_Encoder_Put_e89_0 fuel f179 f180 f181 f182 f183 x0 x1 x2 x3 x4 (fun v => R (T88_e89_0 v)) (E88_e89_0 K) := by
  kernel_rfl
def B88_e89_0 (fuel : Nat) : Ev.Blk := fun st K => match canonO (kp88_e89 8) st with | some s => (match s with | ⟨[(q0, .c (.ptr q1 q2))], [(q3, .cells q4 [i6 x0, .own q5, .int .u64 x1, .int .u64 x2, .own q6]), (q7, .vec q8 (.int .i64) x3 false), (q9, .vec q10 (.int .u8) x4 true)], q11, q12⟩ => bif qb [q0, q1, q2, q3, q4, q5, q6, q7, q8, q9, q10, q11, q12] [0, 0, 0, 0, 187, 1, 2, 1, 3, 2, 5, 3, 3] then iter (S_ref02_Encoder_Put_e89_0 fuel) fuel (x0, x1, x2, x3, x4) (E88_e89_0 K) else none | _ => none) | none => none
theorem B88_e89_0_ok (fuel : Nat) (st : Ev.St) (K : KT) (r : Ans) (h : B88_e89_0 fuel st K = some r) : evalCode tab (G88_e89 fuel) J0 kp88_e89 fuel (.block 0 (.loop (bodyOf 0 Tryz.f88))) st K = some r := by
  unfold B88_e89_0 at h
  split at h
  · rename_i s hs
    split at h
    · skip
      obtain ⟨hb, h⟩ := cond_some' h
      cases qb_eq hb
      exact blk_loop (S := T88_e89_0) (ks := E88_e89_0) (step := S_ref02_Encoder_Put_e89_0 fuel) (v := (_, _, _, _, _)) (by kernel_rfl) (by kernel_rfl) (fun R K v => by obtain ⟨x0, x1, x2, x3, x4⟩ := v; exact S88_e89_0_okg fuel (F_ref02_Likely fuel) (F_ref02_Interval_Part fuel) (F_ref02_After fuel) (F_ref02_Interval_Fixed fuel) (F_ref02_Interval_Shifted fuel) R K x0 x1 x2 x3 x4) hs h
    · cases h
  · cases h
def J88_e89 (fuel : Nat) (i : Nat) : Option Ev.Blk := Ev.look i [(100000, B88_e89_0 fuel)]
def Fg_ref02_Encoder_Put_e89 (fuel : Nat) (f179 : YF179) (f180 : YF180) (f181 : YF181) (f182 : YF182) (f183 : YF183) (x0 x1 : Int) (x2 x3 x4 : Int) (x5 x6 : LI) (k0 : (Int × Int × Int × Int × LI × LI) → OA) (k1 : (Int × Int × Int × Int × LI × LI) → OA) : OA := bif decide (x0 < 0) then k0 (2, x2, x3, x4, x5, x6) else bif decide (x0 ≥ (↑x5.length : Int)) then k0 (2, x2, x3, x4, x5, x6) else bif x1 != 0 then bif x1 != 1 then k0 (2, x2, x3, x4, x5, x6) else bif decide (0 ≤ x0 ∧ x0 < (↑x5.length : Int)) then (f179 x2 (x5.getD x0.toNat 0) (fun y7 => (f180 x3 x4 y7 x1 (fun (y11_0, y11_1) => bif decide (0 ≤ x0 ∧ x0 < (↑x5.length : Int)) then (f181 x2 (x5.getD x0.toNat 0) x1 (fun y16 => bif decide (0 ≤ x0 ∧ x0 < (↑x5.length : Int)) then (L_ref02_Encoder_Put_e89_0 fuel (x2, y11_0, y11_1, x5.set x0.toNat y16, x6) (fun (b0_0, b0_1, b0_2, b0_3, b0_4) => k1 (0, b0_0, b0_1, b0_2, b0_3, b0_4))) else none)) else none)))) else none else bif decide (0 ≤ x0 ∧ x0 < (↑x5.length : Int)) then (f179 x2 (x5.getD x0.toNat 0) (fun y6 => (f180 x3 x4 y6 x1 (fun (y10_0, y10_1) => bif decide (0 ≤ x0 ∧ x0 < (↑x5.length : Int)) then (f181 x2 (x5.getD x0.toNat 0) x1 (fun y15 => bif decide (0 ≤ x0 ∧ x0 < (↑x5.length : Int)) then (L_ref02_Encoder_Put_e89_0 fuel (x2, y10_0, y10_1, x5.set x0.toNat y15, x6) (fun (b0_0, b0_1, b0_2, b0_3, b0_4) => k1 (0, b0_0, b0_1, b0_2, b0_3, b0_4))) else none)) else none)))) else none
abbrev YF88_e89 : Type := Int → Int → Int → Int → Int → LI → LI → ((Int × Int × Int × Int × LI × LI) → Option Ans) → ((Int × Int × Int × Int × LI × LI) → Option Ans) → Option Ans
def F_ref02_Encoder_Put_e89 (fuel : Nat) : YF88_e89 := Fg_ref02_Encoder_Put_e89 fuel (F_ref02_Likely fuel) (F_ref02_Interval_Part fuel) (F_ref02_After fuel) (F_ref02_Interval_Fixed fuel) (F_ref02_Interval_Shifted fuel)
theorem F88_e89_eqg (fuel : Nat) (f179 : YF179) (f180 : YF180) (f181 : YF181) (f182 : YF182) (f183 : YF183) (x0 x1 : Int) (x2 x3 x4 : Int) (x5 x6 : LI) (k : Ev.Cont) : evalFn tab (Gg88_e89 f179 f180 f181 f182 f183) (J88_e89 fuel) kp88_e89 fuel Tryz.f88 [.c (.ptr 0 0), .c (i6 x0), .c (i6 x1)] [.cells 187 [i6 x2, .own 1, .int .u64 x3, .int .u64 x4, .own 2], .vec 3 (.int .i64) x5 false, .vec 5 (.int .u8) x6 false] k = Fg_ref02_Encoder_Put_e89 fuel f179 f180 f181 f182 f183 x0 x1 x2 x3 x4 x5 x6 (fun r => match r with | (r0, r1, r2, r3, r4, r5) => k (.c (i6 r0), [.cells 187 [i6 r1, .own 1, .int .u64 r2, .int .u64 r3, .own 2], .vec 3 (.int .i64) r4 false, .vec 5 (.int .u8) r5 false])) (fun r => match r with | (r0, r1, r2, r3, r4, r5) => k (.c (i6 r0), [.cells 187 [i6 r1, .own 1, .int .u64 r2, .int .u64 r3, .own 2], .vec 3 (.int .i64) r4 false, .vec 5 (.int .u8) r5 true])) := by
  kernel_rfl
theorem hG88_e89 (fuel : Nat) : GOK Tryz.prog (G88_e89 fuel) :=
  gc (ok179 fuel) Tryz.func179 (by kernel_rfl) rfl <|
  gc (ok180 fuel) Tryz.func180 (by kernel_rfl) rfl <|
  gc (ok181 fuel) Tryz.func181 (by kernel_rfl) rfl <|
  gc (ok182 fuel) Tryz.func182 (by kernel_rfl) rfl <|
  gc (ok183 fuel) Tryz.func183 (by kernel_rfl) rfl <|
  gok_nil
theorem B88_e89_0_blk (fuel : Nat) : BlkOK Tryz.prog Tryz.f88.ntmps (.block 0 (.loop (bodyOf 0 Tryz.f88))) (B88_e89_0 fuel) := bo0 (hG88_e89 fuel) (by kernel_rfl) (by kernel_rfl) (B88_e89_0_ok fuel)
def spg88_e89 (F : YF88_e89) : Ev.Spec := fun args objs k => match args, objs with | [.c (.ptr q0 q1), .c (i6 x0), .c (i6 x1)], [.cells q2 [i6 x2, .own q3, .int .u64 x3, .int .u64 x4, .own q4], .vec q5 (.int .i64) x5 false, .vec q6 (.int .u8) x6 false] => bif qb [q0, q1, q2, q3, q4, q5, q6] [0, 0, 187, 1, 2, 3, 5] then F x0 x1 x2 x3 x4 x5 x6 (fun r => match r with | (r0, r1, r2, r3, r4, r5) => k (.c (i6 r0), [.cells 187 [i6 r1, .own 1, .int .u64 r2, .int .u64 r3, .own 2], .vec 3 (.int .i64) r4 false, .vec 5 (.int .u8) r5 false])) (fun r => match r with | (r0, r1, r2, r3, r4, r5) => k (.c (i6 r0), [.cells 187 [i6 r1, .own 1, .int .u64 r2, .int .u64 r3, .own 2], .vec 3 (.int .i64) r4 false, .vec 5 (.int .u8) r5 true])) else none | _, _ => none
theorem ok88_e89 (fuel : Nat) : FnOK Tryz.prog 88 (spg88_e89 (F_ref02_Encoder_Put_e89 fuel)) := by
  intro args objs kk r h
  unfold spg88_e89 at h
  split at h
  · skip
    obtain ⟨hb, h⟩ := cond_some' h
    cases qb_eq hb
    exact fo1 (hG88_e89 fuel) Tryz.func88 rfl (B88_e89_0_blk fuel) (by kernel_rfl) _ _ kk r ((F88_e89_eqg fuel (F_ref02_Likely fuel) (F_ref02_Interval_Part fuel) (F_ref02_After fuel) (F_ref02_Interval_Fixed fuel) (F_ref02_Interval_Shifted fuel) _ _ _ _ _ _ _ kk).trans h)
  · cases h
def kp218 (i : Nat) : Option (List Nat) := Ev.look i []
def Gg218 (f : Nat) : Option Ev.Spec := Ev.look f []
def G218 (fuel : Nat) : Nat → Option Ev.Spec := Gg218
def F_ref05_inside (fuel : Nat) (x0 x1 : Int) (x2 : (List Int)) (x3 x4 : Int) (k0 : (Bool) → Option Ans) : Option Ans := bif decide (x3 ≥ 0) then bif decide (x4 ≥ 0) then bif decide (x3 < x0) then k0 (decide (x4 < x1)) else k0 false else k0 false else k0 false
abbrev YF218 : Type := Int → Int → LI → Int → Int → (Bool → Option Ans) → Option Ans
theorem F218_eq (fuel : Nat) (x0 x1 : Int) (x2 : LI) (x3 x4 : Int) (k : Ev.Cont) : evalFn tab (G218 fuel) J0 kp218 fuel Tryz.f218 [.agg [i6 x0, i6 x1, .sl (.int .u8) x2], .c (i6 x3), .c (i6 x4)] [] k = F_ref05_inside fuel x0 x1 x2 x3 x4 (fun r => match r with | r0 => k (.c (.bool r0), [])) := by
  kernel_rfl
theorem hG218 (fuel : Nat) : GOK Tryz.prog (G218 fuel) :=
  gok_nil
def spg218 (F : YF218) : Ev.Spec := fun args objs k => match args, objs with | [.agg [i6 x0, i6 x1, .sl (.int .u8) x2], .c (i6 x3), .c (i6 x4)], [] => F x0 x1 x2 x3 x4 (fun r => match r with | r0 => k (.c (.bool r0), [])) | _, _ => none
theorem ok218 (fuel : Nat) : FnOK Tryz.prog 218 (spg218 (F_ref05_inside fuel)) := by
  intro args objs kk r h
  unfold spg218 at h
  split at h
  · skip
    exact fo0 (hG218 fuel) Tryz.func218 rfl (by kernel_rfl) _ _ kk r ((F218_eq fuel _ _ _ _ _ kk).trans h)
  · cases h
def kp136 (i : Nat) : Option (List Nat) := Ev.look i []
def Gg136 (f218 : YF218) (f : Nat) : Option Ev.Spec := Ev.look f [(218, spg218 f218)]
def G136 (fuel : Nat) : Nat → Option Ev.Spec := Gg136 (F_ref05_inside fuel)
def Fg_ref05_At (fuel : Nat) (f218 : YF218) (x0 x1 : Int) (x2 : LI) (x3 x4 : Int) (k0 : (Int) → OA) : OA := (f218 x0 x1 x2 x3 x4 (fun y2 => bif !y2 then k0 (0) else bif decide (0 ≤ i64.wrap (i64.wrap (x4 * x0) + x3) ∧ i64.wrap (i64.wrap (x4 * x0) + x3) < (↑x2.length : Int)) then k0 (i64.wrap (x2.getD (i64.wrap (i64.wrap (x4 * x0) + x3)).toNat 0)) else none))
abbrev YF136 : Type := Int → Int → LI → Int → Int → (Int → Option Ans) → Option Ans
def F_ref05_At (fuel : Nat) : YF136 := Fg_ref05_At fuel (F_ref05_inside fuel)
theorem F136_eqg (fuel : Nat) (f218 : YF218) (x0 x1 : Int) (x2 : LI) (x3 x4 : Int) (k : Ev.Cont) : evalFn tab (Gg136 f218) J0 kp136 fuel Tryz.f136 [.agg [i6 x0, i6 x1, .sl (.int .u8) x2], .c (i6 x3), .c (i6 x4)] [] k = Fg_ref05_At fuel f218 x0 x1 x2 x3 x4 (fun r => match r with | r0 => k (.c (i6 r0), [])) := by
  kernel_rfl
theorem hG136 (fuel : Nat) : GOK Tryz.prog (G136 fuel) :=
  gc (ok218 fuel) Tryz.func218 (by kernel_rfl) rfl <|
  gok_nil
def spg136 (F : YF136) : Ev.Spec := fun args objs k => match args, objs with | [.agg [i6 x0, i6 x1, .sl (.int .u8) x2], .c (i6 x3), .c (i6 x4)], [] => F x0 x1 x2 x3 x4 (fun r => match r with | r0 => k (.c (i6 r0), [])) | _, _ => none
theorem ok136 (fuel : Nat) : FnOK Tryz.prog 136 (spg136 (F_ref05_At fuel)) := by
  intro args objs kk r h
  unfold spg136 at h
  split at h
  · skip
    exact fo0 (hG136 fuel) Tryz.func136 rfl (by kernel_rfl) _ _ kk r ((F136_eqg fuel (F_ref05_inside fuel) _ _ _ _ _ kk).trans h)
  · cases h
def kp153 (i : Nat) : Option (List Nat) := Ev.look i []
def Gg153 (f : Nat) : Option Ev.Spec := Ev.look f []
def G153 (fuel : Nat) : Nat → Option Ev.Spec := Gg153
def F_ref05_Sides (fuel : Nat) (x0 x1 : Int) (k0 : (Bool) → Option Ans) : Option Ans := bif decide (x0 ≥ 0) then bif decide (x1 ≥ 0) then bif decide (x0 ≤ 200) then bif decide (x1 ≤ 200) then k0 (decide (i64.wrap (x0 * x1) ≤ 8192)) else k0 false else k0 false else k0 false else k0 false
abbrev YF153 : Type := Int → Int → (Bool → Option Ans) → Option Ans
theorem F153_eq (fuel : Nat) (x0 x1 : Int) (k : Ev.Cont) : evalFn tab (G153 fuel) J0 kp153 fuel Tryz.f153 [.c (i6 x0), .c (i6 x1)] [] k = F_ref05_Sides fuel x0 x1 (fun r => match r with | r0 => k (.c (.bool r0), [])) := by
  kernel_rfl
theorem hG153 (fuel : Nat) : GOK Tryz.prog (G153 fuel) :=
  gok_nil
def spg153 (F : YF153) : Ev.Spec := fun args objs k => match args, objs with | [.c (i6 x0), .c (i6 x1)], [] => F x0 x1 (fun r => match r with | r0 => k (.c (.bool r0), [])) | _, _ => none
theorem ok153 (fuel : Nat) : FnOK Tryz.prog 153 (spg153 (F_ref05_Sides fuel)) := by
  intro args objs kk r h
  unfold spg153 at h
  split at h
  · skip
    exact fo0 (hG153 fuel) Tryz.func153 rfl (by kernel_rfl) _ _ kk r ((F153_eq fuel _ _ kk).trans h)
  · cases h
def kp135 (i : Nat) : Option (List Nat) := Ev.look i [(4, [1, 3]), (100000, []), (400000, [2])]
def Gg135 (f153 : YF153) (f : Nat) : Option Ev.Spec := Ev.look f [(153, spg153 f153)]
def G135 (fuel : Nat) : Nat → Option Ev.Spec := Gg135 (F_ref05_Sides fuel)
def Sg_ref05_Valid_0 (fuel : Nat) (f153 : YF153) (x0 x1 x2 : Int) (x3 : LI) (c : (Int × Int × Int × LI) → OA) (B : (Bool → OA) × (Unit → OA)) : OA := match B with | (ret, b) => bif decide (x0 < (↑x3.length : Int)) then bif decide (0 ≤ x0 ∧ x0 < (↑x3.length : Int)) then bif decide (x3.getD x0.toNat (0 : Int) > (1 : Int)) then ret false else c (i64.wrap (x0 + 1), x1, x2, x3) else none else b ()
def S_ref05_Valid_0 (fuel : Nat) (v : Int × Int × Int × (List Int)) (c : (Int × Int × Int × (List Int)) → Option Ans) (B : (Bool → Option Ans) × (Unit → Option Ans)) : Option Ans := match v with | (x0, x1, x2, x3) => Sg_ref05_Valid_0 fuel (F_ref05_Sides fuel) x0 x1 x2 x3 c B
def L_ref05_Valid_0 (fuel : Nat) (v : Int × Int × Int × (List Int)) (ret : (Bool → Option Ans)) (b : (Unit → Option Ans)) : Option Ans := iter (S_ref05_Valid_0 fuel) fuel v (ret, b)
def T135_0 (v : Int × Int × Int × LI) : Ev.St := match v with | (x0, x1, x2, x3) => ⟨[(1, .c (.ptr 0 0)), (3, .c (i6 x0))], [(0, .cells 51 [i6 x1, i6 x2, .sl (.int .u8) x3])], 1, 0⟩
def E135_0 (K : KT) : (Bool → OA) × (Unit → OA) := ((fun v => match v with | x0 => K .ret ⟨[(2, .c (.bool x0))], [], 0, 0⟩), (fun v => match v with | () => K .normal ⟨[], [], 0, 0⟩))
theorem S135_0_okg (fuel : Nat) (f153 : YF153) (R : Ev.St → OA) (K : KT) (x0 x1 x2 : Int) (x3 : LI) : evalCode tab (Gg135 f153) J0 kp135 fuel (bodyOf 0 Tryz.f135) (T135_0 (x0, x1, x2, x3)) (lc kp135 4 0 R K) = Sg_ref05_Valid_0 fuel f153 x0 x1 x2 x3 (fun v => R (T135_0 v)) (E135_0 K) := by
  kernel_rfl
def B135_0 (fuel : Nat) : Ev.Blk := fun st K => match canonO (kp135 4) st with | some s => (match s with | ⟨[(q0, .c (.ptr q1 q2)), (q3, .c (i6 x0))], [(q4, .cells q5 [i6 x1, i6 x2, .sl (.int .u8) x3])], q6, q7⟩ => bif qb [q0, q1, q2, q3, q4, q5, q6, q7] [1, 0, 0, 3, 0, 51, 1, 0] then iter (S_ref05_Valid_0 fuel) fuel (x0, x1, x2, x3) (E135_0 K) else none | _ => none) | none => none
theorem B135_0_ok (fuel : Nat) (st : Ev.St) (K : KT) (r : Ans) (h : B135_0 fuel st K = some r) : evalCode tab (G135 fuel) J0 kp135 fuel (.block 0 (.loop (bodyOf 0 Tryz.f135))) st K = some r := by
  unfold B135_0 at h
  split at h
  · rename_i s hs
    split at h
    · skip
      obtain ⟨hb, h⟩ := cond_some' h
      cases qb_eq hb
      exact blk_loop (S := T135_0) (ks := E135_0) (step := S_ref05_Valid_0 fuel) (v := (_, _, _, _)) (by kernel_rfl) (by kernel_rfl) (fun R K v => by obtain ⟨x0, x1, x2, x3⟩ := v; exact S135_0_okg fuel (F_ref05_Sides fuel) R K x0 x1 x2 x3) hs h
    · cases h
  · cases h
def J135 (fuel : Nat) (i : Nat) : Option Ev.Blk := Ev.look i [(100000, B135_0 fuel)]
def Fg_ref05_Valid (fuel : Nat) (f153 : YF153) (x0 x1 : Int) (x2 : LI) (k0 : (Bool) → OA) : OA := (f153 x0 x1 (fun y2 => bif !y2 then k0 false else bif (↑x2.length : Int) != i64.wrap (x0 * x1) then k0 false else (L_ref05_Valid_0 fuel (0, x0, x1, x2) (fun ret0_0 => k0 ret0_0) (fun () => k0 true))))
abbrev YF135 : Type := Int → Int → LI → (Bool → Option Ans) → Option Ans
def F_ref05_Valid (fuel : Nat) : YF135 := Fg_ref05_Valid fuel (F_ref05_Sides fuel)
theorem F135_eqg (fuel : Nat) (f153 : YF153) (x0 x1 : Int) (x2 : LI) (k : Ev.Cont) : evalFn tab (Gg135 f153) (J135 fuel) kp135 fuel Tryz.f135 [.agg [i6 x0, i6 x1, .sl (.int .u8) x2]] [] k = Fg_ref05_Valid fuel f153 x0 x1 x2 (fun r => match r with | r0 => k (.c (.bool r0), [])) := by
  kernel_rfl
theorem hG135 (fuel : Nat) : GOK Tryz.prog (G135 fuel) :=
  gc (ok153 fuel) Tryz.func153 (by kernel_rfl) rfl <|
  gok_nil
theorem B135_0_blk (fuel : Nat) : BlkOK Tryz.prog Tryz.f135.ntmps (.block 0 (.loop (bodyOf 0 Tryz.f135))) (B135_0 fuel) := bo0 (hG135 fuel) (by kernel_rfl) (by kernel_rfl) (B135_0_ok fuel)
def spg135 (F : YF135) : Ev.Spec := fun args objs k => match args, objs with | [.agg [i6 x0, i6 x1, .sl (.int .u8) x2]], [] => F x0 x1 x2 (fun r => match r with | r0 => k (.c (.bool r0), [])) | _, _ => none
theorem ok135 (fuel : Nat) : FnOK Tryz.prog 135 (spg135 (F_ref05_Valid fuel)) := by
  intro args objs kk r h
  unfold spg135 at h
  split at h
  · skip
    exact fo1 (hG135 fuel) Tryz.func135 rfl (B135_0_blk fuel) (by kernel_rfl) _ _ kk r ((F135_eqg fuel (F_ref05_Sides fuel) _ _ _ kk).trans h)
  · cases h
def kp130 (i : Nat) : Option (List Nat) := Ev.look i []
def Gg130 (f : Nat) : Option Ev.Spec := Ev.look f []
def G130 (fuel : Nat) : Nat → Option Ev.Spec := Gg130
def F_ref07_Valid (fuel : Nat) (x0 x1 x2 : Int) (x3 : Bool) (x4 : Int) (k0 : (Bool) → Option Ans) : Option Ans := bif decide (x0 < 0) then k0 false else bif decide (x0 > 3) then k0 false else bif decide (x4 < 0) then k0 false else bif decide (x4 > 1) then k0 false else bif decide (x1 < (-8 : Int)) then k0 false else bif decide (x1 > 8) then k0 false else bif decide (x2 < (-8 : Int)) then k0 false else bif decide (x2 > 0) then k0 false else bif decide (x2 < 0) then k0 true else k0 (decide (x1 < 0))
abbrev YF130 : Type := Int → Int → Int → Bool → Int → (Bool → Option Ans) → Option Ans
theorem F130_eq (fuel : Nat) (x0 x1 x2 : Int) (x3 : Bool) (x4 : Int) (k : Ev.Cont) : evalFn tab (G130 fuel) J0 kp130 fuel Tryz.f130 [.agg [i6 x0, i6 x1, i6 x2, .bool x3, i6 x4]] [] k = F_ref07_Valid fuel x0 x1 x2 x3 x4 (fun r => match r with | r0 => k (.c (.bool r0), [])) := by
  kernel_rfl
theorem hG130 (fuel : Nat) : GOK Tryz.prog (G130 fuel) :=
  gok_nil
def spg130 (F : YF130) : Ev.Spec := fun args objs k => match args, objs with | [.agg [i6 x0, i6 x1, i6 x2, .bool x3, i6 x4]], [] => F x0 x1 x2 x3 x4 (fun r => match r with | r0 => k (.c (.bool r0), [])) | _, _ => none
theorem ok130 (fuel : Nat) : FnOK Tryz.prog 130 (spg130 (F_ref07_Valid fuel)) := by
  intro args objs kk r h
  unfold spg130 at h
  split at h
  · skip
    exact fo0 (hG130 fuel) Tryz.func130 rfl (by kernel_rfl) _ _ kk r ((F130_eq fuel _ _ _ _ _ kk).trans h)
  · cases h
def kp217 (i : Nat) : Option (List Nat) := Ev.look i []
def Gg217 (f : Nat) : Option Ev.Spec := Ev.look f []
def G217 (fuel : Nat) : Nat → Option Ev.Spec := Gg217
def F_ref07_template (fuel : Nat) (x0 : Int) (k0 : ((List (Int × Int))) → Option Ans) : Option Ans := bif x0 == 0 then k0 ([((-1 : Int), (-2 : Int)), (0, (-2 : Int)), (1, (-2 : Int)), ((-2 : Int), (-1 : Int)), ((-1 : Int), (-1 : Int)), (0, (-1 : Int)), (1, (-1 : Int)), (2, (-1 : Int)), ((-2 : Int), 0), ((-1 : Int), 0)]) else bif x0 == 1 then k0 ([((-1 : Int), (-2 : Int)), (0, (-2 : Int)), ((-1 : Int), (-1 : Int)), (0, (-1 : Int)), (1, (-1 : Int)), ((-2 : Int), 0), ((-1 : Int), 0)]) else bif x0 == 2 then k0 ([((-2 : Int), (-1 : Int)), ((-1 : Int), (-1 : Int)), (0, (-1 : Int)), (1, (-1 : Int)), (2, (-1 : Int)), ((-2 : Int), 0), ((-1 : Int), 0)]) else k0 ([((-1 : Int), (-1 : Int)), (0, (-1 : Int)), (1, (-1 : Int)), ((-1 : Int), 0)])
abbrev YF217 : Type := Int → (((List (Int × Int))) → Option Ans) → Option Ans
theorem F217_eq (fuel : Nat) (x0 : Int) (k : Ev.Cont) : evalFn tab (G217 fuel) J0 kp217 fuel Tryz.f217 [.c (i6 x0)] [] k = F_ref07_template fuel x0 (fun r => match r with | r0 => k (.c (.own 0), [.vec 253 (.pair (.int .i64) (.int .i64)) r0 true])) := by
  kernel_rfl
theorem hG217 (fuel : Nat) : GOK Tryz.prog (G217 fuel) :=
  gok_nil
def spg217 (F : YF217) : Ev.Spec := fun args objs k => match args, objs with | [.c (i6 x0)], [] => F x0 (fun r => match r with | r0 => k (.c (.own 0), [.vec 253 (.pair (.int .i64) (.int .i64)) r0 true])) | _, _ => none
theorem ok217 (fuel : Nat) : FnOK Tryz.prog 217 (spg217 (F_ref07_template fuel)) := by
  intro args objs kk r h
  unfold spg217 at h
  split at h
  · skip
    exact fo0 (hG217 fuel) Tryz.func217 rfl (by kernel_rfl) _ _ kk r ((F217_eq fuel _ kk).trans h)
  · cases h
def kp131 (i : Nat) : Option (List Nat) := Ev.look i [(200001, [1])]
def Gg131 (f217 : YF217) (f : Nat) : Option Ev.Spec := Ev.look f [(217, spg217 f217)]
def G131 (fuel : Nat) : Nat → Option Ev.Spec := Gg131 (F_ref07_template fuel)
def Fg_ref07_pixels (fuel : Nat) (f217 : YF217) (x0 x1 x2 : Int) (x3 : Bool) (x4 : Int) (k0 : ((List (Int × Int))) → OA) : OA := both ((f217 x0 (fun y4 => bif decide ((y4.length + [(x1, x2)].length) * (16 : Nat) ≤ (140737488355328 : Nat) ∧ y4.length + [(x1, x2)].length ≤ (140737488355328 : Nat)) then k0 (y4 ++ [(x1, x2)]) else none))) (both ((f217 x0 (fun y6 => bif decide ((y6.length + [(x1, x2)].length) * (16 : Nat) ≤ (140737488355328 : Nat) ∧ y6.length + [(x1, x2)].length ≤ (140737488355328 : Nat)) then k0 (y6 ++ [(x1, x2)]) else none))) ((f217 x0 (fun y6 => bif decide ((y6.length + [(x1, x2)].length) * (16 : Nat) ≤ (140737488355328 : Nat) ∧ y6.length + [(x1, x2)].length ≤ (140737488355328 : Nat)) then k0 (y6 ++ [(x1, x2)]) else none))))
abbrev YF131 : Type := Int → Int → Int → Bool → Int → (((List (Int × Int))) → Option Ans) → Option Ans
def F_ref07_pixels (fuel : Nat) : YF131 := Fg_ref07_pixels fuel (F_ref07_template fuel)
theorem F131_eqg (fuel : Nat) (f217 : YF217) (x0 x1 x2 : Int) (x3 : Bool) (x4 : Int) (k : Ev.Cont) : evalFn tab (Gg131 f217) J0 kp131 fuel Tryz.f131 [.agg [i6 x0, i6 x1, i6 x2, .bool x3, i6 x4]] [] k = Fg_ref07_pixels fuel f217 x0 x1 x2 x3 x4 (fun r => match r with | r0 => k (.c (.own 0), [.vec 253 (.pair (.int .i64) (.int .i64)) r0 true])) := by
  kernel_rfl
theorem hG131 (fuel : Nat) : GOK Tryz.prog (G131 fuel) :=
  gc (ok217 fuel) Tryz.func217 (by kernel_rfl) rfl <|
  gok_nil
def spg131 (F : YF131) : Ev.Spec := fun args objs k => match args, objs with | [.agg [i6 x0, i6 x1, i6 x2, .bool x3, i6 x4]], [] => F x0 x1 x2 x3 x4 (fun r => match r with | r0 => k (.c (.own 0), [.vec 253 (.pair (.int .i64) (.int .i64)) r0 true])) | _, _ => none
theorem ok131 (fuel : Nat) : FnOK Tryz.prog 131 (spg131 (F_ref07_pixels fuel)) := by
  intro args objs kk r h
  unfold spg131 at h
  split at h
  · skip
    exact fo0 (hG131 fuel) Tryz.func131 rfl (by kernel_rfl) _ _ kk r ((F131_eqg fuel (F_ref07_template fuel) _ _ _ _ _ kk).trans h)
  · cases h
def kp55 (i : Nat) : Option (List Nat) := Ev.look i []
def Gg55 (f130 : YF130) (f131 : YF131) (f : Nat) : Option Ev.Spec := Ev.look f [(130, spg130 f130), (131, spg131 f131)]
def G55 (fuel : Nat) : Nat → Option Ev.Spec := Gg55 (F_ref07_Valid fuel) (F_ref07_pixels fuel)
def Fg_ref07_Size (fuel : Nat) (f130 : YF130) (f131 : YF131) (x0 x1 x2 : Int) (x3 : Bool) (x4 : Int) (k0 : (Int × Int) → OA) : OA := (f130 x0 x1 x2 x3 x4 (fun y2 => bif !y2 then k0 (0, 2) else (f131 x0 x1 x2 x3 x4 (fun y7 => k0 (i64.wrap (Ev.ishl IntKind.i64 1 (↑y7.length : Int) + 1), 0)))))
abbrev YF55 : Type := Int → Int → Int → Bool → Int → ((Int × Int) → Option Ans) → Option Ans
def F_ref07_Size (fuel : Nat) : YF55 := Fg_ref07_Size fuel (F_ref07_Valid fuel) (F_ref07_pixels fuel)
theorem F55_eqg (fuel : Nat) (f130 : YF130) (f131 : YF131) (x0 x1 x2 : Int) (x3 : Bool) (x4 : Int) (k : Ev.Cont) : evalFn tab (Gg55 f130 f131) J0 kp55 fuel Tryz.f55 [.agg [i6 x0, i6 x1, i6 x2, .bool x3, i6 x4]] [] k = Fg_ref07_Size fuel f130 f131 x0 x1 x2 x3 x4 (fun r => match r with | (r0, r1) => k (.tup [(false, [i6 r0]), (false, [i6 r1])], [])) := by
  kernel_rfl
theorem hG55 (fuel : Nat) : GOK Tryz.prog (G55 fuel) :=
  gc (ok130 fuel) Tryz.func130 (by kernel_rfl) rfl <|
  gc (ok131 fuel) Tryz.func131 (by kernel_rfl) rfl <|
  gok_nil
def spg55 (F : YF55) : Ev.Spec := fun args objs k => match args, objs with | [.agg [i6 x0, i6 x1, i6 x2, .bool x3, i6 x4]], [] => F x0 x1 x2 x3 x4 (fun r => match r with | (r0, r1) => k (.tup [(false, [i6 r0]), (false, [i6 r1])], [])) | _, _ => none
theorem ok55 (fuel : Nat) : FnOK Tryz.prog 55 (spg55 (F_ref07_Size fuel)) := by
  intro args objs kk r h
  unfold spg55 at h
  split at h
  · skip
    exact fo0 (hG55 fuel) Tryz.func55 rfl (by kernel_rfl) _ _ kk r ((F55_eqg fuel (F_ref07_Valid fuel) (F_ref07_pixels fuel) _ _ _ _ _ kk).trans h)
  · cases h
def kp140 (i : Nat) : Option (List Nat) := Ev.look i [(4, [2, 3, 5, 9, 10, 11]), (100000, [10]), (200006, [5, 9]), (400000, [8])]
def Gg140 (f131 : YF131) (f136 : YF136) (f : Nat) : Option Ev.Spec := Ev.look f [(131, spg131 f131), (136, spg136 f136)]
def G140 (fuel : Nat) : Nat → Option Ev.Spec := Gg140 (F_ref07_pixels fuel) (F_ref05_At fuel)
abbrev V_ref07_context_0 : Type := Int × Int × Int × Int × Int × Int × LI × (List (Int × Int))
abbrev W_ref07_context_0 : Type := (Int → OA)
def Sg_ref07_context_0 (fuel : Nat) (f131 : YF131) (f136 : YF136) (x0 x1 : Int) (x2 x3 : Int) (x4 x5 : Int) (x6 : LI) (x7 : (List (Int × Int))) (c : V_ref07_context_0 → OA) (B : W_ref07_context_0) : OA := match B with | b => bif decide (x3 < (↑x7.length : Int)) then bif decide (0 ≤ x3 ∧ x3 < (↑x7.length : Int)) then bif decide (0 ≤ x3 ∧ x3 < (↑x7.length : Int)) then both ((f136 x4 x5 x6 (i64.wrap (x0 + (x7.getD x3.toNat (0, 0)).fst)) (i64.wrap (x1 + (x7.getD x3.toNat (0, 0)).snd)) (fun y7 => c (x0, x1, i64.wrap (i64.wrap (2 * x2) + y7), i64.wrap (x3 + 1), x4, x5, x6, x7)))) ((f136 x4 x5 x6 (i64.wrap (x0 + (x7.getD x3.toNat (0, 0)).fst)) (i64.wrap (x1 + (x7.getD x3.toNat (0, 0)).snd)) (fun y7 => c (x0, x1, i64.wrap (i64.wrap (2 * x2) + y7), i64.wrap (x3 + 1), x4, x5, x6, x7)))) else none else none else b x2
def S_ref07_context_0 (fuel : Nat) (v : Int × Int × Int × Int × Int × Int × (List Int) × (List (Int × Int))) (c : (Int × Int × Int × Int × Int × Int × (List Int) × (List (Int × Int))) → Option Ans) (B : (Int → Option Ans)) : Option Ans := match v with | (x0, x1, x2, x3, x4, x5, x6, x7) => Sg_ref07_context_0 fuel (F_ref07_pixels fuel) (F_ref05_At fuel) x0 x1 x2 x3 x4 x5 x6 x7 c B
def L_ref07_context_0 (fuel : Nat) (v : V_ref07_context_0) (b : W_ref07_context_0) : Option Ans := iter (S_ref07_context_0 fuel) fuel v b
def T140_0 (v : V_ref07_context_0) : Ev.St := match v with | (x0, x1, x2, x3, x4, x5, x6, x7) => ⟨[(2, .c (i6 x0)), (3, .c (i6 x1)), (5, .c (.ptr 0 0)), (9, .c (.own 1)), (10, .c (i6 x2)), (11, .c (i6 x3))], [(0, .cells 51 [i6 x4, i6 x5, .sl (.int .u8) x6]), (1, .vec 253 (.pair (.int .i64) (.int .i64)) x7 true)], 2, 0⟩
def E140_0 (K : KT) : W_ref07_context_0 := (fun v => match v with | x0 => K .normal ⟨[(10, .c (i6 x0))], [], 0, 0⟩)
theorem S140_0_okg (fuel : Nat) (f131 : YF131) (f136 : YF136) (R : Ev.St → OA) (K : KT) (x0 x1 : Int) (x2 x3 : Int) (x4 x5 : Int) (x6 : LI) (x7 : (List (Int × Int))) : evalCode tab (Gg140 f131 f136) J0 kp140 fuel (bodyOf 0 Tryz.f140) (T140_0 (x0, x1, x2, x3, x4, x5, x6, x7)) (lc kp140 4 0 R K) = Sg_ref07_context_0 fuel f131 f136 x0 x1 x2 x3 x4 x5 x6 x7 (fun v => R (T140_0 v)) (E140_0 K) := by
  kernel_rfl
def B140_0 (fuel : Nat) : Ev.Blk := fun st K => match canonO (kp140 4) st with | some s => (match s with | ⟨[(q0, .c (i6 x0)), (q1, .c (i6 x1)), (q2, .c (.ptr q3 q4)), (q5, .c (.own q6)), (q7, .c (i6 x2)), (q8, .c (i6 x3))], [(q9, .cells q10 [i6 x4, i6 x5, .sl (.int .u8) x6]), (q11, .vec q12 (.pair (.int .i64) (.int .i64)) x7 true)], q13, q14⟩ => bif qb [q0, q1, q2, q3, q4, q5, q6, q7, q8, q9, q10, q11, q12, q13, q14] [2, 3, 5, 0, 0, 9, 1, 10, 11, 0, 51, 1, 253, 2, 0] then iter (S_ref07_context_0 fuel) fuel (x0, x1, x2, x3, x4, x5, x6, x7) (E140_0 K) else none | _ => none) | none => none
theorem B140_0_ok (fuel : Nat) (st : Ev.St) (K : KT) (r : Ans) (h : B140_0 fuel st K = some r) : evalCode tab (G140 fuel) J0 kp140 fuel (.block 0 (.loop (bodyOf 0 Tryz.f140))) st K = some r := by
  unfold B140_0 at h
  split at h
  · rename_i s hs
    split at h
    · skip
      obtain ⟨hb, h⟩ := cond_some' h
      cases qb_eq hb
      exact blk_loop (S := T140_0) (ks := E140_0) (step := S_ref07_context_0 fuel) (v := (_, _, _, _, _, _, _, _)) (by kernel_rfl) (by kernel_rfl) (fun R K v => by obtain ⟨x0, x1, x2, x3, x4, x5, x6, x7⟩ := v; exact S140_0_okg fuel (F_ref07_pixels fuel) (F_ref05_At fuel) R K x0 x1 x2 x3 x4 x5 x6 x7) hs h
    · cases h
  · cases h
def J140 (fuel : Nat) (i : Nat) : Option Ev.Blk := Ev.look i [(100000, B140_0 fuel)]
def Fg_ref07_context (fuel : Nat) (f131 : YF131) (f136 : YF136) (x0 x1 x2 : Int) (x3 : Bool) (x4 x5 x6 : Int) (x7 : LI) (x8 x9 : Int) (k0 : (Int) → OA) : OA := (f131 x0 x1 x2 x3 x4 (fun y2 => (L_ref07_context_0 fuel (x8, x9, 0, 0, x5, x6, x7, y2) (fun b0_0 => k0 b0_0))))
abbrev YF140 : Type := Int → Int → Int → Bool → Int → Int → Int → LI → Int → Int → (Int → Option Ans) → Option Ans
def F_ref07_context (fuel : Nat) : YF140 := Fg_ref07_context fuel (F_ref07_pixels fuel) (F_ref05_At fuel)
theorem F140_eqg (fuel : Nat) (f131 : YF131) (f136 : YF136) (x0 x1 x2 : Int) (x3 : Bool) (x4 x5 x6 : Int) (x7 : LI) (x8 x9 : Int) (k : Ev.Cont) : evalFn tab (Gg140 f131 f136) (J140 fuel) kp140 fuel Tryz.f140 [.agg [i6 x0, i6 x1, i6 x2, .bool x3, i6 x4], .agg [i6 x5, i6 x6, .sl (.int .u8) x7], .c (i6 x8), .c (i6 x9)] [] k = Fg_ref07_context fuel f131 f136 x0 x1 x2 x3 x4 x5 x6 x7 x8 x9 (fun r => match r with | r0 => k (.c (i6 r0), [])) := by
  kernel_rfl
theorem hG140 (fuel : Nat) : GOK Tryz.prog (G140 fuel) :=
  gc (ok131 fuel) Tryz.func131 (by kernel_rfl) rfl <|
  gc (ok136 fuel) Tryz.func136 (by kernel_rfl) rfl <|
  gok_nil
theorem B140_0_blk (fuel : Nat) : BlkOK Tryz.prog Tryz.f140.ntmps (.block 0 (.loop (bodyOf 0 Tryz.f140))) (B140_0 fuel) := bo0 (hG140 fuel) (by kernel_rfl) (by kernel_rfl) (B140_0_ok fuel)
def spg140 (F : YF140) : Ev.Spec := fun args objs k => match args, objs with | [.agg [i6 x0, i6 x1, i6 x2, .bool x3, i6 x4], .agg [i6 x5, i6 x6, .sl (.int .u8) x7], .c (i6 x8), .c (i6 x9)], [] => F x0 x1 x2 x3 x4 x5 x6 x7 x8 x9 (fun r => match r with | r0 => k (.c (i6 r0), [])) | _, _ => none
theorem ok140 (fuel : Nat) : FnOK Tryz.prog 140 (spg140 (F_ref07_context fuel)) := by
  intro args objs kk r h
  unfold spg140 at h
  split at h
  · skip
    exact fo1 (hG140 fuel) Tryz.func140 rfl (B140_0_blk fuel) (by kernel_rfl) _ _ kk r ((F140_eqg fuel (F_ref07_pixels fuel) (F_ref05_At fuel) _ _ _ _ _ _ _ _ _ _ kk).trans h)
  · cases h
def kp219 (i : Nat) : Option (List Nat) := Ev.look i []
def Gg219 (f : Nat) : Option Ev.Spec := Ev.look f []
def G219 (fuel : Nat) : Nat → Option Ev.Spec := Gg219
def F_ref07_none (fuel : Nat) (x0 x1 : Int) (x2 : (List Int)) (k0 : (Bool) → Option Ans) : Option Ans := bif x0 == 0 then k0 (x1 == 0) else k0 false
abbrev YF219 : Type := Int → Int → LI → (Bool → Option Ans) → Option Ans
theorem F219_eq (fuel : Nat) (x0 x1 : Int) (x2 : LI) (k : Ev.Cont) : evalFn tab (G219 fuel) J0 kp219 fuel Tryz.f219 [.agg [i6 x0, i6 x1, .sl (.int .u8) x2]] [] k = F_ref07_none fuel x0 x1 x2 (fun r => match r with | r0 => k (.c (.bool r0), [])) := by
  kernel_rfl
theorem hG219 (fuel : Nat) : GOK Tryz.prog (G219 fuel) :=
  gok_nil
def spg219 (F : YF219) : Ev.Spec := fun args objs k => match args, objs with | [.agg [i6 x0, i6 x1, .sl (.int .u8) x2]], [] => F x0 x1 x2 (fun r => match r with | r0 => k (.c (.bool r0), [])) | _, _ => none
theorem ok219 (fuel : Nat) : FnOK Tryz.prog 219 (spg219 (F_ref07_none fuel)) := by
  intro args objs kk r h
  unfold spg219 at h
  split at h
  · skip
    exact fo0 (hG219 fuel) Tryz.func219 rfl (by kernel_rfl) _ _ kk r ((F219_eq fuel _ _ _ kk).trans h)
  · cases h
def kp137 (i : Nat) : Option (List Nat) := Ev.look i []
def Gg137 (f55 : YF55) (f219 : YF219) (f : Nat) : Option Ev.Spec := Ev.look f [(55, spg55 f55), (219, spg219 f219)]
def G137 (fuel : Nat) : Nat → Option Ev.Spec := Gg137 (F_ref07_Size fuel) (F_ref07_none fuel)
def Fg_ref07_room (fuel : Nat) (f55 : YF55) (f219 : YF219) (x0 x1 x2 : Int) (x3 : Bool) (x4 x5 : Int) (x6 x7 : Int) (x8 x9 x10 : Int) (x11 : LI) (k0 : (Int) → OA) : OA := (f55 x0 x1 x2 x3 x4 (fun (y2_0, y2_1) => (f219 x9 x10 x11 (fun y6 => bif !y6 then bif x9 != x7 then k0 (2) else bif x10 != x8 then k0 (2) else bif decide (x5 < 0) then k0 (2) else bif decide (x5 > x6) then k0 (2) else bif decide (y2_0 > i64.wrap (x6 - x5)) then k0 (2) else k0 (0) else bif decide (x5 < 0) then k0 (2) else bif decide (x5 > x6) then k0 (2) else bif decide (y2_0 > i64.wrap (x6 - x5)) then k0 (2) else k0 (0)))))
abbrev YF137 : Type := Int → Int → Int → Bool → Int → Int → Int → Int → Int → Int → Int → LI → (Int → Option Ans) → Option Ans
def F_ref07_room (fuel : Nat) : YF137 := Fg_ref07_room fuel (F_ref07_Size fuel) (F_ref07_none fuel)
theorem F137_eqg (fuel : Nat) (f55 : YF55) (f219 : YF219) (x0 x1 x2 : Int) (x3 : Bool) (x4 x5 : Int) (x6 x7 : Int) (x8 x9 x10 : Int) (x11 : LI) (k : Ev.Cont) : evalFn tab (Gg137 f55 f219) J0 kp137 fuel Tryz.f137 [.agg [i6 x0, i6 x1, i6 x2, .bool x3, i6 x4], .c (i6 x5), .c (i6 x6), .c (i6 x7), .c (i6 x8), .agg [i6 x9, i6 x10, .sl (.int .u8) x11]] [] k = Fg_ref07_room fuel f55 f219 x0 x1 x2 x3 x4 x5 x6 x7 x8 x9 x10 x11 (fun r => match r with | r0 => k (.c (i6 r0), [])) := by
  kernel_rfl
theorem hG137 (fuel : Nat) : GOK Tryz.prog (G137 fuel) :=
  gc (ok55 fuel) Tryz.func55 (by kernel_rfl) rfl <|
  gc (ok219 fuel) Tryz.func219 (by kernel_rfl) rfl <|
  gok_nil
def spg137 (F : YF137) : Ev.Spec := fun args objs k => match args, objs with | [.agg [i6 x0, i6 x1, i6 x2, .bool x3, i6 x4], .c (i6 x5), .c (i6 x6), .c (i6 x7), .c (i6 x8), .agg [i6 x9, i6 x10, .sl (.int .u8) x11]], [] => F x0 x1 x2 x3 x4 x5 x6 x7 x8 x9 x10 x11 (fun r => match r with | r0 => k (.c (i6 r0), [])) | _, _ => none
theorem ok137 (fuel : Nat) : FnOK Tryz.prog 137 (spg137 (F_ref07_room fuel)) := by
  intro args objs kk r h
  unfold spg137 at h
  split at h
  · skip
    exact fo0 (hG137 fuel) Tryz.func137 rfl (by kernel_rfl) _ _ kk r ((F137_eqg fuel (F_ref07_Size fuel) (F_ref07_none fuel) _ _ _ _ _ _ _ _ _ _ _ _ kk).trans h)
  · cases h
def kp139 (i : Nat) : Option (List Nat) := Ev.look i [(3, [2, 3, 4, 7, 8]), (100000, [7]), (400000, [6])]
def Gg139 (f136 : YF136) (f : Nat) : Option Ev.Spec := Ev.look f [(136, spg136 f136)]
def G139 (fuel : Nat) : Nat → Option Ev.Spec := Gg139 (F_ref05_At fuel)
abbrev V_ref07_typical_0 : Type := Int × Int × Int × Int × LI × Int × Int × LI × LI
abbrev W_ref07_typical_0 : Type := (LI → OA)
def Sg_ref07_typical_0 (fuel : Nat) (f136 : YF136) (x0 x1 : Int) (x2 x3 : Int) (x4 : LI) (x5 x6 : Int) (x7 x8 : LI) (c : V_ref07_typical_0 → OA) (B : W_ref07_typical_0) : OA := match B with | b => bif decide (x1 < x2) then (f136 x2 x3 x4 x1 (i64.wrap (x0 - 1)) (fun y3 => (f136 x5 x6 x7 x1 x0 (fun y7 => bif y7 == 1 then bif decide ((x8.length + [u8.wrap 0].length) * (1 : Nat) ≤ (140737488355328 : Nat) ∧ x8.length + [u8.wrap 0].length ≤ (140737488355328 : Nat)) then c (x0, i64.wrap (x1 + (1 : Int)), x2, x3, x4, x5, x6, x7, x8 ++ [u8.wrap (0 : Int)]) else none else bif decide ((x8.length + [u8.wrap y3].length) * (1 : Nat) ≤ (140737488355328 : Nat) ∧ x8.length + [u8.wrap y3].length ≤ (140737488355328 : Nat)) then c (x0, i64.wrap (x1 + (1 : Int)), x2, x3, x4, x5, x6, x7, x8 ++ [u8.wrap y3]) else none)))) else b x8
def S_ref07_typical_0 (fuel : Nat) (v : Int × Int × Int × Int × (List Int) × Int × Int × (List Int) × (List Int)) (c : (Int × Int × Int × Int × (List Int) × Int × Int × (List Int) × (List Int)) → Option Ans) (B : ((List Int) → Option Ans)) : Option Ans := match v with | (x0, x1, x2, x3, x4, x5, x6, x7, x8) => Sg_ref07_typical_0 fuel (F_ref05_At fuel) x0 x1 x2 x3 x4 x5 x6 x7 x8 c B
def L_ref07_typical_0 (fuel : Nat) (v : V_ref07_typical_0) (b : W_ref07_typical_0) : Option Ans := iter (S_ref07_typical_0 fuel) fuel v b
def T139_0 (v : V_ref07_typical_0) : Ev.St := match v with | (x0, x1, x2, x3, x4, x5, x6, x7, x8) => ⟨[(2, .c (i6 x0)), (3, .c (.ptr 0 0)), (4, .c (.ptr 1 0)), (7, .c (.own 2)), (8, .c (i6 x1))], [(0, .cells 51 [i6 x2, i6 x3, .sl (.int .u8) x4]), (1, .cells 51 [i6 x5, i6 x6, .sl (.int .u8) x7]), (2, .vec 5 (.int .u8) x8 true)], 3, 0⟩
def E139_0 (K : KT) : W_ref07_typical_0 := (fun v => match v with | x0 => K .normal ⟨[(7, .c (.own 0))], [(0, .vec 5 (.int .u8) x0 true)], 1, 0⟩)
theorem S139_0_okg (fuel : Nat) (f136 : YF136) (R : Ev.St → OA) (K : KT) (x0 x1 : Int) (x2 x3 : Int) (x4 : LI) (x5 x6 : Int) (x7 x8 : LI) : evalCode tab (Gg139 f136) J0 kp139 fuel (bodyOf 0 Tryz.f139) (T139_0 (x0, x1, x2, x3, x4, x5, x6, x7, x8)) (lc kp139 3 0 R K) = Sg_ref07_typical_0 fuel f136 x0 x1 x2 x3 x4 x5 x6 x7 x8 (fun v => R (T139_0 v)) (E139_0 K) := by
  kernel_rfl
def B139_0 (fuel : Nat) : Ev.Blk := fun st K => match canonO (kp139 3) st with | some s => (match s with | ⟨[(q0, .c (i6 x0)), (q1, .c (.ptr q2 q3)), (q4, .c (.ptr q5 q6)), (q7, .c (.own q8)), (q9, .c (i6 x1))], [(q10, .cells q11 [i6 x2, i6 x3, .sl (.int .u8) x4]), (q12, .cells q13 [i6 x5, i6 x6, .sl (.int .u8) x7]), (q14, .vec q15 (.int .u8) x8 true)], q16, q17⟩ => bif qb [q0, q1, q2, q3, q4, q5, q6, q7, q8, q9, q10, q11, q12, q13, q14, q15, q16, q17] [2, 3, 0, 0, 4, 1, 0, 7, 2, 8, 0, 51, 1, 51, 2, 5, 3, 0] then iter (S_ref07_typical_0 fuel) fuel (x0, x1, x2, x3, x4, x5, x6, x7, x8) (E139_0 K) else none | _ => none) | none => none
theorem B139_0_ok (fuel : Nat) (st : Ev.St) (K : KT) (r : Ans) (h : B139_0 fuel st K = some r) : evalCode tab (G139 fuel) J0 kp139 fuel (.block 0 (.loop (bodyOf 0 Tryz.f139))) st K = some r := by
  unfold B139_0 at h
  split at h
  · rename_i s hs
    split at h
    · skip
      obtain ⟨hb, h⟩ := cond_some' h
      cases qb_eq hb
      exact blk_loop (S := T139_0) (ks := E139_0) (step := S_ref07_typical_0 fuel) (v := (_, _, _, _, _, _, _, _, _)) (by kernel_rfl) (by kernel_rfl) (fun R K v => by obtain ⟨x0, x1, x2, x3, x4, x5, x6, x7, x8⟩ := v; exact S139_0_okg fuel (F_ref05_At fuel) R K x0 x1 x2 x3 x4 x5 x6 x7 x8) hs h
    · cases h
  · cases h
def J139 (fuel : Nat) (i : Nat) : Option Ev.Blk := Ev.look i [(100000, B139_0 fuel)]
def Fg_ref07_typical (fuel : Nat) (f136 : YF136) (x0 x1 : Int) (x2 : LI) (x3 x4 : Int) (x5 : LI) (x6 : Int) (k0 : (LI) → OA) : OA := (L_ref07_typical_0 fuel (x6, 0, x0, x1, x2, x3, x4, x5, []) (fun b0_0 => k0 b0_0))
abbrev YF139 : Type := Int → Int → LI → Int → Int → LI → Int → (LI → Option Ans) → Option Ans
def F_ref07_typical (fuel : Nat) : YF139 := Fg_ref07_typical fuel (F_ref05_At fuel)
theorem F139_eqg (fuel : Nat) (f136 : YF136) (x0 x1 : Int) (x2 : LI) (x3 x4 : Int) (x5 : LI) (x6 : Int) (k : Ev.Cont) : evalFn tab (Gg139 f136) (J139 fuel) kp139 fuel Tryz.f139 [.agg [i6 x0, i6 x1, .sl (.int .u8) x2], .agg [i6 x3, i6 x4, .sl (.int .u8) x5], .c (i6 x6)] [] k = Fg_ref07_typical fuel f136 x0 x1 x2 x3 x4 x5 x6 (fun r => match r with | r0 => k (.c (.own 0), [.vec 5 (.int .u8) r0 true])) := by
  kernel_rfl
theorem hG139 (fuel : Nat) : GOK Tryz.prog (G139 fuel) :=
  gc (ok136 fuel) Tryz.func136 (by kernel_rfl) rfl <|
  gok_nil
theorem B139_0_blk (fuel : Nat) : BlkOK Tryz.prog Tryz.f139.ntmps (.block 0 (.loop (bodyOf 0 Tryz.f139))) (B139_0 fuel) := bo0 (hG139 fuel) (by kernel_rfl) (by kernel_rfl) (B139_0_ok fuel)
def spg139 (F : YF139) : Ev.Spec := fun args objs k => match args, objs with | [.agg [i6 x0, i6 x1, .sl (.int .u8) x2], .agg [i6 x3, i6 x4, .sl (.int .u8) x5], .c (i6 x6)], [] => F x0 x1 x2 x3 x4 x5 x6 (fun r => match r with | r0 => k (.c (.own 0), [.vec 5 (.int .u8) r0 true])) | _, _ => none
theorem ok139 (fuel : Nat) : FnOK Tryz.prog 139 (spg139 (F_ref07_typical fuel)) := by
  intro args objs kk r h
  unfold spg139 at h
  split at h
  · skip
    exact fo1 (hG139 fuel) Tryz.func139 rfl (B139_0_blk fuel) (by kernel_rfl) _ _ kk r ((F139_eqg fuel (F_ref05_At fuel) _ _ _ _ _ _ _ kk).trans h)
  · cases h
end
end Go.Proofs.YtipdidpalcmlhaaGreat

