/- What the functions that TonePatterns reaches do: their typed texts, each with the proof that the machine does it. No condition. -/
import Derived.Test.YtipdidpalcmlhaaEvX
import Derived.Test.YtipdidpalcmlhaaFsTonePatterns2
import Derived.Test.YtipdidpalcmlhaaFsTonePatterns1
set_option linter.unusedVariables false
set_option linter.unusedSimpArgs false
set_option linter.unusedVariables false
set_option linter.unusedSimpArgs false
set_option maxRecDepth 100000
set_option maxHeartbeats 2000000
namespace Go.Proofs.Ytipdidpalcmlhaa
open Go Ev
def kp180_bb9 (i : Nat) : Option (List Nat) := Ev.look i []
noncomputable def Gg180_bb9 (f : Nat) : Option Ev.Spec := Ev.look f []
noncomputable def G180_bb9 (fuel : Nat) : Nat → Option Ev.Spec := Gg180_bb9
noncomputable def J180_bb9 (fuel : Nat) (i : Nat) : Option Ev.Blk := Ev.look i []
noncomputable def F_coder_table_chance_bb9 (fuel : Nat) (x0 x1 : Int) (k0 : (Int) → Option Ans) : Option Ans :=
  bif x0 == (1 : Int) then
  bif decide (IntKind.i64.wrap (IntKind.i64.wrap (IntKind.i64.wrap ((2 : Int) * IntKind.i64.wrap (x1.tdiv (256 : Int))) + IntKind.i64.wrap ((2 : Int) * x1.tmod (256 : Int))) + (2 : Int)) = (0 : Int)) then
  none
  else
  k0 (bif decide ((4095 : Int) < bif decide ((1 : Int) > IntKind.i64.wrap ((IntKind.i64.wrap (IntKind.i64.wrap (IntKind.i64.wrap ((2 : Int) * x1.tmod (256 : Int)) + (1 : Int)) * (4096 : Int))).tdiv (IntKind.i64.wrap (IntKind.i64.wrap (IntKind.i64.wrap ((2 : Int) * IntKind.i64.wrap (x1.tdiv (256 : Int))) + IntKind.i64.wrap ((2 : Int) * x1.tmod (256 : Int))) + (2 : Int))))) then (1 : Int) else IntKind.i64.wrap ((IntKind.i64.wrap (IntKind.i64.wrap (IntKind.i64.wrap ((2 : Int) * x1.tmod (256 : Int)) + (1 : Int)) * (4096 : Int))).tdiv (IntKind.i64.wrap (IntKind.i64.wrap (IntKind.i64.wrap ((2 : Int) * IntKind.i64.wrap (x1.tdiv (256 : Int))) + IntKind.i64.wrap ((2 : Int) * x1.tmod (256 : Int))) + (2 : Int))))) then (4095 : Int) else bif decide ((1 : Int) > IntKind.i64.wrap ((IntKind.i64.wrap (IntKind.i64.wrap (IntKind.i64.wrap ((2 : Int) * x1.tmod (256 : Int)) + (1 : Int)) * (4096 : Int))).tdiv (IntKind.i64.wrap (IntKind.i64.wrap (IntKind.i64.wrap ((2 : Int) * IntKind.i64.wrap (x1.tdiv (256 : Int))) + IntKind.i64.wrap ((2 : Int) * x1.tmod (256 : Int))) + (2 : Int))))) then (1 : Int) else IntKind.i64.wrap ((IntKind.i64.wrap (IntKind.i64.wrap (IntKind.i64.wrap ((2 : Int) * x1.tmod (256 : Int)) + (1 : Int)) * (4096 : Int))).tdiv (IntKind.i64.wrap (IntKind.i64.wrap (IntKind.i64.wrap ((2 : Int) * IntKind.i64.wrap (x1.tdiv (256 : Int))) + IntKind.i64.wrap ((2 : Int) * x1.tmod (256 : Int))) + (2 : Int)))))
  else
  bif decide (x1 ≥ (32 : Int)) then
  bif decide ((0 : Int) ≤ IntKind.i64.wrap (x1 - (32 : Int)) ∧ IntKind.i64.wrap (x1 - (32 : Int)) < (↑(32 : Nat) : Int)) then
  bif decide (IntKind.i64.wrap (x1 - (32 : Int)) = (↑(0 : Nat) : Int)) then
  k0 (IntKind.i64.wrap ((4096 : Int) - (2048 : Int)))
  else
  bif decide (IntKind.i64.wrap (x1 - (32 : Int)) = (↑(1 : Nat) : Int)) then
  k0 (IntKind.i64.wrap ((4096 : Int) - (1792 : Int)))
  else
  bif decide (IntKind.i64.wrap (x1 - (32 : Int)) = (↑(2 : Nat) : Int)) then
  k0 (IntKind.i64.wrap ((4096 : Int) - (1568 : Int)))
  else
  bif decide (IntKind.i64.wrap (x1 - (32 : Int)) = (↑(3 : Nat) : Int)) then
  k0 (IntKind.i64.wrap ((4096 : Int) - (1372 : Int)))
  else
  bif decide (IntKind.i64.wrap (x1 - (32 : Int)) = (↑(4 : Nat) : Int)) then
  k0 (IntKind.i64.wrap ((4096 : Int) - (1201 : Int)))
  else
  bif decide (IntKind.i64.wrap (x1 - (32 : Int)) = (↑(5 : Nat) : Int)) then
  k0 (IntKind.i64.wrap ((4096 : Int) - (1051 : Int)))
  else
  bif decide (IntKind.i64.wrap (x1 - (32 : Int)) = (↑(6 : Nat) : Int)) then
  k0 (IntKind.i64.wrap ((4096 : Int) - (920 : Int)))
  else
  bif decide (IntKind.i64.wrap (x1 - (32 : Int)) = (↑(7 : Nat) : Int)) then
  k0 (IntKind.i64.wrap ((4096 : Int) - (805 : Int)))
  else
  bif decide (IntKind.i64.wrap (x1 - (32 : Int)) = (↑(8 : Nat) : Int)) then
  k0 (IntKind.i64.wrap ((4096 : Int) - (705 : Int)))
  else
  bif decide (IntKind.i64.wrap (x1 - (32 : Int)) = (↑(9 : Nat) : Int)) then
  k0 (IntKind.i64.wrap ((4096 : Int) - (617 : Int)))
  else
  bif decide (IntKind.i64.wrap (x1 - (32 : Int)) = (↑(10 : Nat) : Int)) then
  k0 (IntKind.i64.wrap ((4096 : Int) - (540 : Int)))
  else
  bif decide (IntKind.i64.wrap (x1 - (32 : Int)) = (↑(11 : Nat) : Int)) then
  k0 (IntKind.i64.wrap ((4096 : Int) - (473 : Int)))
  else
  bif decide (IntKind.i64.wrap (x1 - (32 : Int)) = (↑(12 : Nat) : Int)) then
  k0 (IntKind.i64.wrap ((4096 : Int) - (414 : Int)))
  else
  bif decide (IntKind.i64.wrap (x1 - (32 : Int)) = (↑(13 : Nat) : Int)) then
  k0 (IntKind.i64.wrap ((4096 : Int) - (363 : Int)))
  else
  bif decide (IntKind.i64.wrap (x1 - (32 : Int)) = (↑(14 : Nat) : Int)) then
  k0 (IntKind.i64.wrap ((4096 : Int) - (318 : Int)))
  else
  bif decide (IntKind.i64.wrap (x1 - (32 : Int)) = (↑(15 : Nat) : Int)) then
  k0 (IntKind.i64.wrap ((4096 : Int) - (279 : Int)))
  else
  bif decide (IntKind.i64.wrap (x1 - (32 : Int)) = (↑(16 : Nat) : Int)) then
  k0 (IntKind.i64.wrap ((4096 : Int) - (245 : Int)))
  else
  bif decide (IntKind.i64.wrap (x1 - (32 : Int)) = (↑(17 : Nat) : Int)) then
  k0 (IntKind.i64.wrap ((4096 : Int) - (215 : Int)))
  else
  bif decide (IntKind.i64.wrap (x1 - (32 : Int)) = (↑(18 : Nat) : Int)) then
  k0 (IntKind.i64.wrap ((4096 : Int) - (189 : Int)))
  else
  bif decide (IntKind.i64.wrap (x1 - (32 : Int)) = (↑(19 : Nat) : Int)) then
  k0 (IntKind.i64.wrap ((4096 : Int) - (166 : Int)))
  else
  bif decide (IntKind.i64.wrap (x1 - (32 : Int)) = (↑(20 : Nat) : Int)) then
  k0 (IntKind.i64.wrap ((4096 : Int) - (146 : Int)))
  else
  bif decide (IntKind.i64.wrap (x1 - (32 : Int)) = (↑(21 : Nat) : Int)) then
  k0 (IntKind.i64.wrap ((4096 : Int) - (128 : Int)))
  else
  bif decide (IntKind.i64.wrap (x1 - (32 : Int)) = (↑(22 : Nat) : Int)) then
  k0 (IntKind.i64.wrap ((4096 : Int) - (112 : Int)))
  else
  bif decide (IntKind.i64.wrap (x1 - (32 : Int)) = (↑(23 : Nat) : Int)) then
  k0 (IntKind.i64.wrap ((4096 : Int) - (98 : Int)))
  else
  bif decide (IntKind.i64.wrap (x1 - (32 : Int)) = (↑(24 : Nat) : Int)) then
  k0 (IntKind.i64.wrap ((4096 : Int) - (86 : Int)))
  else
  bif decide (IntKind.i64.wrap (x1 - (32 : Int)) = (↑(25 : Nat) : Int)) then
  k0 (IntKind.i64.wrap ((4096 : Int) - (76 : Int)))
  else
  bif decide (IntKind.i64.wrap (x1 - (32 : Int)) = (↑(26 : Nat) : Int)) then
  k0 (IntKind.i64.wrap ((4096 : Int) - (67 : Int)))
  else
  bif decide (IntKind.i64.wrap (x1 - (32 : Int)) = (↑(27 : Nat) : Int)) then
  k0 (IntKind.i64.wrap ((4096 : Int) - (59 : Int)))
  else
  bif decide (IntKind.i64.wrap (x1 - (32 : Int)) = (↑(28 : Nat) : Int)) then
  k0 (IntKind.i64.wrap ((4096 : Int) - (52 : Int)))
  else
  bif decide (IntKind.i64.wrap (x1 - (32 : Int)) = (↑(29 : Nat) : Int)) then
  k0 (IntKind.i64.wrap ((4096 : Int) - (46 : Int)))
  else
  bif decide (IntKind.i64.wrap (x1 - (32 : Int)) = (↑(30 : Nat) : Int)) then
  k0 (IntKind.i64.wrap ((4096 : Int) - (41 : Int)))
  else
  bif decide (IntKind.i64.wrap (x1 - (32 : Int)) = (↑(31 : Nat) : Int)) then
  k0 (IntKind.i64.wrap ((4096 : Int) - (36 : Int)))
  else none
  else none
  else
  bif decide ((0 : Int) ≤ x1 ∧ x1 < (↑(32 : Nat) : Int)) then
  bif decide (x1 = (↑(0 : Nat) : Int)) then
  k0 ((2048 : Int))
  else
  bif decide (x1 = (↑(1 : Nat) : Int)) then
  k0 ((1792 : Int))
  else
  bif decide (x1 = (↑(2 : Nat) : Int)) then
  k0 ((1568 : Int))
  else
  bif decide (x1 = (↑(3 : Nat) : Int)) then
  k0 ((1372 : Int))
  else
  bif decide (x1 = (↑(4 : Nat) : Int)) then
  k0 ((1201 : Int))
  else
  bif decide (x1 = (↑(5 : Nat) : Int)) then
  k0 ((1051 : Int))
  else
  bif decide (x1 = (↑(6 : Nat) : Int)) then
  k0 ((920 : Int))
  else
  bif decide (x1 = (↑(7 : Nat) : Int)) then
  k0 ((805 : Int))
  else
  bif decide (x1 = (↑(8 : Nat) : Int)) then
  k0 ((705 : Int))
  else
  bif decide (x1 = (↑(9 : Nat) : Int)) then
  k0 ((617 : Int))
  else
  bif decide (x1 = (↑(10 : Nat) : Int)) then
  k0 ((540 : Int))
  else
  bif decide (x1 = (↑(11 : Nat) : Int)) then
  k0 ((473 : Int))
  else
  bif decide (x1 = (↑(12 : Nat) : Int)) then
  k0 ((414 : Int))
  else
  bif decide (x1 = (↑(13 : Nat) : Int)) then
  k0 ((363 : Int))
  else
  bif decide (x1 = (↑(14 : Nat) : Int)) then
  k0 ((318 : Int))
  else
  bif decide (x1 = (↑(15 : Nat) : Int)) then
  k0 ((279 : Int))
  else
  bif decide (x1 = (↑(16 : Nat) : Int)) then
  k0 ((245 : Int))
  else
  bif decide (x1 = (↑(17 : Nat) : Int)) then
  k0 ((215 : Int))
  else
  bif decide (x1 = (↑(18 : Nat) : Int)) then
  k0 ((189 : Int))
  else
  bif decide (x1 = (↑(19 : Nat) : Int)) then
  k0 ((166 : Int))
  else
  bif decide (x1 = (↑(20 : Nat) : Int)) then
  k0 ((146 : Int))
  else
  bif decide (x1 = (↑(21 : Nat) : Int)) then
  k0 ((128 : Int))
  else
  bif decide (x1 = (↑(22 : Nat) : Int)) then
  k0 ((112 : Int))
  else
  bif decide (x1 = (↑(23 : Nat) : Int)) then
  k0 ((98 : Int))
  else
  bif decide (x1 = (↑(24 : Nat) : Int)) then
  k0 ((86 : Int))
  else
  bif decide (x1 = (↑(25 : Nat) : Int)) then
  k0 ((76 : Int))
  else
  bif decide (x1 = (↑(26 : Nat) : Int)) then
  k0 ((67 : Int))
  else
  bif decide (x1 = (↑(27 : Nat) : Int)) then
  k0 ((59 : Int))
  else
  bif decide (x1 = (↑(28 : Nat) : Int)) then
  k0 ((52 : Int))
  else
  bif decide (x1 = (↑(29 : Nat) : Int)) then
  k0 ((46 : Int))
  else
  bif decide (x1 = (↑(30 : Nat) : Int)) then
  k0 ((41 : Int))
  else
  bif decide (x1 = (↑(31 : Nat) : Int)) then
  k0 ((36 : Int))
  else none
  else none
abbrev YF180_bb9 : Type := (Int) → (Int) → ((Int) → Option Ans) → Option Ans
theorem F180_bb9_eq (fuel : Nat) (x0 x1 : Int) (k : Ev.Cont) : evalFn tab (G180_bb9 fuel) (J180_bb9 fuel) kp180_bb9 fuel Try.f180 [.agg (ctb []), .c (.int .i64 x0), .c (.int .i64 x1)] [] k = F_coder_table_chance_bb9 fuel x0 x1 (fun r => match r with | r0 => k (.c (.int .i64 r0), [])) := by
  kernel_rfl
theorem hG180_bb9 (fuel : Nat) : GOK Try.prog (G180_bb9 fuel) :=
  gok_nil
theorem fok180_bb9 (fuel : Nat) : FnOK Try.prog 180 (evalFn tab (G180_bb9 fuel) (J180_bb9 fuel) kp180_bb9 fuel Try.f180) :=
  fn_ok tab_ok (hG180_bb9 fuel) mixed Try.func180 (c := (Try.f180.body).getD .skip) rfl (fun q hq => by
    rw [(by kernel_rfl : obl (J180_bb9 fuel) ((Try.f180.body).getD .skip) = [])] at hq
    cases hq)
noncomputable def spg180_bb9 (F : YF180_bb9) : Ev.Spec := fun args objs k => match args, objs with
 | [.agg cs0, .c (.int .i64 x0), .c (.int .i64 x1)], [] => (match splitRun 0 ctn cs0 with | some ([], []) => bif true then F x0 x1 (fun r => match r with | r0 => k (.c (.int .i64 r0), [])) else none | _ => none)
 | _, _ => none
noncomputable def spec180_bb9 (fuel : Nat) : Ev.Spec := spg180_bb9 (F_coder_table_chance_bb9 fuel)
theorem ok180_bb9 (fuel : Nat) : FnOK Try.prog 180 (spec180_bb9 fuel) := by
  intro args objs kk r h
  unfold spec180_bb9 spg180_bb9 at h
  split at h
  · skip
    split at h
    rotate_left 1
    · cases h
    rename_i hsp
    have esp := splitRun_eq hsp
    subst esp
    obtain ⟨hb, h⟩ := cond_some' h
    simp only [Bool.and_eq_true, Nat.beq_eq, decide_eq_true_eq] at hb
    clear hb
    exact fok180_bb9 fuel _ _ kk r ((F180_bb9_eq fuel _ _ kk).trans h)
  · cases h
end Go.Proofs.Ytipdidpalcmlhaa

set_option linter.unusedVariables false
set_option linter.unusedSimpArgs false
set_option maxRecDepth 100000
set_option maxHeartbeats 2000000
namespace Go.Proofs.Ytipdidpalcmlhaa
open Go Ev
def kp151_aa3 (i : Nat) : Option (List Nat) := Ev.look i [(200001, [0])]
noncomputable def Gg151_aa3 (f180_bb9 : YF180_bb9) (f : Nat) : Option Ev.Spec := Ev.look f [(180, spg180_bb9 f180_bb9)]
noncomputable def G151_aa3 (fuel : Nat) : Nat → Option Ev.Spec := Gg151_aa3 (F_coder_table_chance_bb9 fuel)
noncomputable def J151_aa3 (fuel : Nat) (i : Nat) : Option Ev.Blk := Ev.look i []
noncomputable def Fg_coder_interval_mid_aa3 (fuel : Nat) (f180_bb9 : YF180_bb9) (x0 x1 : Int) (x2 x3 : Int) (x4 x5 x6 : Int) (x7 x8 : Bool) (x9 x10 : (List Int)) (k0 : (Int × Int × Int × Int × Int × Int × Int × Bool × Bool × (List Int) × (List Int)) → Option Ans) : Option Ans :=
  bif decide ((0 : Int) ≤ x0 ∧ x0 < (↑x9.length : Int)) then
  (f180_bb9 (x1) (x9.getD x0.toNat (0 : Int))
  (fun y3 =>
  k0 (IntKind.u64.wrap (IntKind.u64.wrap (x2 + IntKind.u64.wrap (IntKind.u64.wrap ((IntKind.u64.wrap (x3 - x2)).tdiv (4096 : Int)) * IntKind.u64.wrap y3)) + IntKind.u64.wrap ((IntKind.u64.wrap ((IntKind.u64.wrap (x3 - x2)).tmod (4096 : Int) * IntKind.u64.wrap y3)).tdiv (4096 : Int))), x1, x2, x3, x4, x5, x6, x7, x8, x9, x10)))
  else none
noncomputable def F_coder_interval_mid_aa3 (fuel : Nat) (x0 x1 : Int) (x2 x3 : Int) (x4 x5 x6 : Int) (x7 x8 : Bool) (x9 x10 : (List Int)) (k0 : (Int × Int × Int × Int × Int × Int × Int × Bool × Bool × (List Int) × (List Int)) → Option Ans) : Option Ans := Fg_coder_interval_mid_aa3 fuel (F_coder_table_chance_bb9 fuel) x0 x1 x2 x3 x4 x5 x6 x7 x8 x9 x10 k0
abbrev YF151_aa3 : Type := (Int) → (Int) → (Int) → (Int) → (Int) → (Int) → (Int) → (Bool) → (Bool) → ((List Int)) → ((List Int)) → ((Int × Int × Int × Int × Int × Int × Int × Bool × Bool × (List Int) × (List Int)) → Option Ans) → Option Ans
theorem F151_aa3_eqg (fuel : Nat) (f180_bb9 : YF180_bb9) (x0 x1 : Int) (x2 x3 : Int) (x4 x5 x6 : Int) (x7 x8 : Bool) (x9 x10 : (List Int)) (k : Ev.Cont) : evalFn tab (Gg151_aa3 f180_bb9) (J151_aa3 fuel) kp151_aa3 fuel Try.f151 [.c (.ptr 0 0), .c (.int .i64 x0)] [.cells 163 (.int .i64 x1 :: .own 1 :: ctb (.int .u64 x2 :: .int .u64 x3 :: .own 2 :: .int .i64 x4 :: .int .u64 x5 :: .int .i64 x6 :: .bool x7 :: .bool x8 :: [])), .vec 3 (.int .i64) x9 false, .vec 5 (.int .u8) x10 false] k = Fg_coder_interval_mid_aa3 fuel f180_bb9 x0 x1 x2 x3 x4 x5 x6 x7 x8 x9 x10 (fun r => match r with | (r0, r1, r2, r3, r4, r5, r6, r7, r8, r9, r10) => k (.c (.int .u64 r0), [.cells 163 (.int .i64 r1 :: .own 1 :: ctb (.int .u64 r2 :: .int .u64 r3 :: .own 2 :: .int .i64 r4 :: .int .u64 r5 :: .int .i64 r6 :: .bool r7 :: .bool r8 :: [])), .vec 3 (.int .i64) r9 false, .vec 5 (.int .u8) r10 false])) := by
  kernel_rfl
theorem hG151_aa3 (fuel : Nat) : GOK Try.prog (G151_aa3 fuel) :=
  gok_cons ⟨ok180_bb9 fuel, enters_of Try.func180 (by kernel_rfl) rfl⟩ <|
  gok_nil
theorem fok151_aa3 (fuel : Nat) : FnOK Try.prog 151 (evalFn tab (G151_aa3 fuel) (J151_aa3 fuel) kp151_aa3 fuel Try.f151) :=
  fn_ok tab_ok (hG151_aa3 fuel) mixed Try.func151 (c := (Try.f151.body).getD .skip) rfl (fun q hq => by
    rw [(by kernel_rfl : obl (J151_aa3 fuel) ((Try.f151.body).getD .skip) = [])] at hq
    cases hq)
noncomputable def spg151_aa3 (F : YF151_aa3) : Ev.Spec := fun args objs k => match args, objs with
 | [.c (.ptr q0 q1), .c (.int .i64 x0)], [.cells q2 cs0, .vec q3 (.int .i64) x9 false, .vec q4 (.int .u8) x10 false] => (match splitRun 2 ctn cs0 with | some ([.int .i64 x1, .own q5], [.int .u64 x2, .int .u64 x3, .own q6, .int .i64 x4, .int .u64 x5, .int .i64 x6, .bool x7, .bool x8]) => bif Nat.beq q0 0 && Nat.beq q1 0 && Nat.beq q2 163 && Nat.beq q3 3 && Nat.beq q4 5 && Nat.beq q5 1 && Nat.beq q6 2 then F x0 x1 x2 x3 x4 x5 x6 x7 x8 x9 x10 (fun r => match r with | (r0, r1, r2, r3, r4, r5, r6, r7, r8, r9, r10) => k (.c (.int .u64 r0), [.cells 163 (.int .i64 r1 :: .own 1 :: ctb (.int .u64 r2 :: .int .u64 r3 :: .own 2 :: .int .i64 r4 :: .int .u64 r5 :: .int .i64 r6 :: .bool r7 :: .bool r8 :: [])), .vec 3 (.int .i64) r9 false, .vec 5 (.int .u8) r10 false])) else none | _ => none)
 | _, _ => none
noncomputable def spec151_aa3 (fuel : Nat) : Ev.Spec := spg151_aa3 (F_coder_interval_mid_aa3 fuel)
theorem ok151_aa3 (fuel : Nat) : FnOK Try.prog 151 (spec151_aa3 fuel) := by
  intro args objs kk r h
  unfold spec151_aa3 spg151_aa3 at h
  split at h
  · skip
    split at h
    rotate_left 1
    · cases h
    rename_i hsp
    have esp := splitRun_eq hsp
    subst esp
    obtain ⟨hb, h⟩ := cond_some' h
    simp only [Bool.and_eq_true, Nat.beq_eq, decide_eq_true_eq] at hb
    obtain ⟨⟨⟨⟨⟨⟨rfl, rfl⟩, rfl⟩, rfl⟩, rfl⟩, rfl⟩, rfl⟩ := hb
    exact fok151_aa3 fuel _ _ kk r ((F151_aa3_eqg fuel (F_coder_table_chance_bb9 fuel) _ _ _ _ _ _ _ _ _ _ _ kk).trans h)
  · cases h
end Go.Proofs.Ytipdidpalcmlhaa

set_option linter.unusedVariables false
set_option linter.unusedSimpArgs false
set_option maxRecDepth 100000
set_option maxHeartbeats 2000000
namespace Go.Proofs.Ytipdidpalcmlhaa
open Go Ev
def kp152_40a (i : Nat) : Option (List Nat) := Ev.look i [(200001, [0])]
noncomputable def Gg152_40a (f : Nat) : Option Ev.Spec := Ev.look f []
noncomputable def G152_40a (fuel : Nat) : Nat → Option Ev.Spec := Gg152_40a
noncomputable def J152_40a (fuel : Nat) (i : Nat) : Option Ev.Blk := Ev.look i []
noncomputable def F_coder_interval_same_40a (fuel : Nat) (x0 x1 : Int) (x2 x3 : Int) (x4 x5 : Int) (x6 x7 : Bool) (x8 x9 : (List Int)) (k0 : (Bool × Int × Int × Int × Int × Int × Int × Bool × Bool × (List Int) × (List Int)) → Option Ans) : Option Ans :=
  k0 (Ev.ishr IntKind.u64 x1 (24 : Int) == Ev.ishr IntKind.u64 x2 (24 : Int), x0, x1, x2, x3, x4, x5, x6, x7, x8, x9)
abbrev YF152_40a : Type := (Int) → (Int) → (Int) → (Int) → (Int) → (Int) → (Bool) → (Bool) → ((List Int)) → ((List Int)) → ((Bool × Int × Int × Int × Int × Int × Int × Bool × Bool × (List Int) × (List Int)) → Option Ans) → Option Ans
theorem F152_40a_eq (fuel : Nat) (x0 x1 : Int) (x2 x3 : Int) (x4 x5 : Int) (x6 x7 : Bool) (x8 x9 : (List Int)) (k : Ev.Cont) : evalFn tab (G152_40a fuel) (J152_40a fuel) kp152_40a fuel Try.f152 [.c (.ptr 0 0)] [.cells 163 (.int .i64 x0 :: .own 1 :: ctb (.int .u64 x1 :: .int .u64 x2 :: .own 2 :: .int .i64 x3 :: .int .u64 x4 :: .int .i64 x5 :: .bool x6 :: .bool x7 :: [])), .vec 3 (.int .i64) x8 false, .vec 5 (.int .u8) x9 false] k = F_coder_interval_same_40a fuel x0 x1 x2 x3 x4 x5 x6 x7 x8 x9 (fun r => match r with | (r0, r1, r2, r3, r4, r5, r6, r7, r8, r9, r10) => k (.c (.bool r0), [.cells 163 (.int .i64 r1 :: .own 1 :: ctb (.int .u64 r2 :: .int .u64 r3 :: .own 2 :: .int .i64 r4 :: .int .u64 r5 :: .int .i64 r6 :: .bool r7 :: .bool r8 :: [])), .vec 3 (.int .i64) r9 false, .vec 5 (.int .u8) r10 false])) := by
  kernel_rfl
theorem hG152_40a (fuel : Nat) : GOK Try.prog (G152_40a fuel) :=
  gok_nil
theorem fok152_40a (fuel : Nat) : FnOK Try.prog 152 (evalFn tab (G152_40a fuel) (J152_40a fuel) kp152_40a fuel Try.f152) :=
  fn_ok tab_ok (hG152_40a fuel) mixed Try.func152 (c := (Try.f152.body).getD .skip) rfl (fun q hq => by
    rw [(by kernel_rfl : obl (J152_40a fuel) ((Try.f152.body).getD .skip) = [])] at hq
    cases hq)
noncomputable def spg152_40a (F : YF152_40a) : Ev.Spec := fun args objs k => match args, objs with
 | [.c (.ptr q0 q1)], [.cells q2 cs0, .vec q3 (.int .i64) x8 false, .vec q4 (.int .u8) x9 false] => (match splitRun 2 ctn cs0 with | some ([.int .i64 x0, .own q5], [.int .u64 x1, .int .u64 x2, .own q6, .int .i64 x3, .int .u64 x4, .int .i64 x5, .bool x6, .bool x7]) => bif Nat.beq q0 0 && Nat.beq q1 0 && Nat.beq q2 163 && Nat.beq q3 3 && Nat.beq q4 5 && Nat.beq q5 1 && Nat.beq q6 2 then F x0 x1 x2 x3 x4 x5 x6 x7 x8 x9 (fun r => match r with | (r0, r1, r2, r3, r4, r5, r6, r7, r8, r9, r10) => k (.c (.bool r0), [.cells 163 (.int .i64 r1 :: .own 1 :: ctb (.int .u64 r2 :: .int .u64 r3 :: .own 2 :: .int .i64 r4 :: .int .u64 r5 :: .int .i64 r6 :: .bool r7 :: .bool r8 :: [])), .vec 3 (.int .i64) r9 false, .vec 5 (.int .u8) r10 false])) else none | _ => none)
 | _, _ => none
noncomputable def spec152_40a (fuel : Nat) : Ev.Spec := spg152_40a (F_coder_interval_same_40a fuel)
theorem ok152_40a (fuel : Nat) : FnOK Try.prog 152 (spec152_40a fuel) := by
  intro args objs kk r h
  unfold spec152_40a spg152_40a at h
  split at h
  · skip
    split at h
    rotate_left 1
    · cases h
    rename_i hsp
    have esp := splitRun_eq hsp
    subst esp
    obtain ⟨hb, h⟩ := cond_some' h
    simp only [Bool.and_eq_true, Nat.beq_eq, decide_eq_true_eq] at hb
    obtain ⟨⟨⟨⟨⟨⟨rfl, rfl⟩, rfl⟩, rfl⟩, rfl⟩, rfl⟩, rfl⟩ := hb
    exact fok152_40a fuel _ _ kk r ((F152_40a_eq fuel _ _ _ _ _ _ _ _ _ _ kk).trans h)
  · cases h
end Go.Proofs.Ytipdidpalcmlhaa

set_option linter.unusedVariables false
set_option linter.unusedSimpArgs false
set_option maxRecDepth 100000
set_option maxHeartbeats 2000000
namespace Go.Proofs.Ytipdidpalcmlhaa
open Go Ev
def kp179 (i : Nat) : Option (List Nat) := Ev.look i []
noncomputable def Gg179 (f : Nat) : Option Ev.Spec := Ev.look f []
noncomputable def G179 (fuel : Nat) : Nat → Option Ev.Spec := Gg179
noncomputable def J179 (fuel : Nat) (i : Nat) : Option Ev.Blk := Ev.look i []
noncomputable def F_coder_next (fuel : Nat) (x0 x1 x2 : Int) (k0 : (Int) → Option Ans) : Option Ans :=
  bif x0 == (1 : Int) then
  bif decide ((0 : Int) ≤ x2 ∧ x2 < (↑(2 : Nat) : Int)) then
  bif decide (x2 = (↑(0 : Nat) : Int)) then
  bif IntKind.i64.wrap (x1.tdiv (256 : Int)) == (255 : Int) then
  bif decide ((0 : Int) ≤ x2 ∧ x2 < (↑(2 : Nat) : Int)) then
  bif decide (x2 = (↑(0 : Nat) : Int)) then
  bif decide ((0 : Int) ≤ x2 ∧ x2 < (↑(2 : Nat) : Int)) then
  bif decide (x2 = (↑(0 : Nat) : Int)) then
  k0 (IntKind.i64.wrap (IntKind.i64.wrap ((256 : Int) * IntKind.i64.wrap (IntKind.i64.wrap ((IntKind.i64.wrap (x1.tdiv (256 : Int))).tdiv (2 : Int)) + (1 : Int))) + IntKind.i64.wrap ((x1.tmod (256 : Int)).tdiv (2 : Int))))
  else
  bif decide (x2 = (↑(1 : Nat) : Int)) then
  k0 (IntKind.i64.wrap (IntKind.i64.wrap ((256 : Int) * IntKind.i64.wrap ((IntKind.i64.wrap (x1.tdiv (256 : Int))).tdiv (2 : Int))) + IntKind.i64.wrap (IntKind.i64.wrap ((IntKind.i64.wrap (x1.tdiv (256 : Int))).tdiv (2 : Int)) + (1 : Int))))
  else none
  else none
  else
  bif decide (x2 = (↑(1 : Nat) : Int)) then
  bif decide ((0 : Int) ≤ x2 ∧ x2 < (↑(2 : Nat) : Int)) then
  bif decide (x2 = (↑(0 : Nat) : Int)) then
  k0 (IntKind.i64.wrap (IntKind.i64.wrap ((256 : Int) * IntKind.i64.wrap (IntKind.i64.wrap ((x1.tmod (256 : Int)).tdiv (2 : Int)) + (1 : Int))) + IntKind.i64.wrap ((x1.tmod (256 : Int)).tdiv (2 : Int))))
  else
  bif decide (x2 = (↑(1 : Nat) : Int)) then
  k0 (IntKind.i64.wrap (IntKind.i64.wrap ((256 : Int) * IntKind.i64.wrap ((IntKind.i64.wrap (x1.tdiv (256 : Int))).tdiv (2 : Int))) + IntKind.i64.wrap (IntKind.i64.wrap ((x1.tmod (256 : Int)).tdiv (2 : Int)) + (1 : Int))))
  else none
  else none
  else none
  else none
  else
  bif decide ((0 : Int) ≤ x2 ∧ x2 < (↑(2 : Nat) : Int)) then
  bif decide (x2 = (↑(0 : Nat) : Int)) then
  bif decide ((0 : Int) ≤ x2 ∧ x2 < (↑(2 : Nat) : Int)) then
  bif decide (x2 = (↑(0 : Nat) : Int)) then
  k0 (IntKind.i64.wrap (IntKind.i64.wrap ((256 : Int) * IntKind.i64.wrap (IntKind.i64.wrap (x1.tdiv (256 : Int)) + (1 : Int))) + x1.tmod (256 : Int)))
  else
  bif decide (x2 = (↑(1 : Nat) : Int)) then
  k0 (IntKind.i64.wrap (IntKind.i64.wrap ((256 : Int) * IntKind.i64.wrap (x1.tdiv (256 : Int))) + IntKind.i64.wrap (IntKind.i64.wrap (x1.tdiv (256 : Int)) + (1 : Int))))
  else none
  else none
  else
  bif decide (x2 = (↑(1 : Nat) : Int)) then
  bif decide ((0 : Int) ≤ x2 ∧ x2 < (↑(2 : Nat) : Int)) then
  bif decide (x2 = (↑(0 : Nat) : Int)) then
  k0 (IntKind.i64.wrap (IntKind.i64.wrap ((256 : Int) * IntKind.i64.wrap (x1.tmod (256 : Int) + (1 : Int))) + x1.tmod (256 : Int)))
  else
  bif decide (x2 = (↑(1 : Nat) : Int)) then
  k0 (IntKind.i64.wrap (IntKind.i64.wrap ((256 : Int) * IntKind.i64.wrap (x1.tdiv (256 : Int))) + IntKind.i64.wrap (x1.tmod (256 : Int) + (1 : Int))))
  else none
  else none
  else none
  else none
  else
  bif decide (x2 = (↑(1 : Nat) : Int)) then
  bif x1.tmod (256 : Int) == (255 : Int) then
  bif decide ((0 : Int) ≤ x2 ∧ x2 < (↑(2 : Nat) : Int)) then
  bif decide (x2 = (↑(0 : Nat) : Int)) then
  bif decide ((0 : Int) ≤ x2 ∧ x2 < (↑(2 : Nat) : Int)) then
  bif decide (x2 = (↑(0 : Nat) : Int)) then
  k0 (IntKind.i64.wrap (IntKind.i64.wrap ((256 : Int) * IntKind.i64.wrap (IntKind.i64.wrap ((IntKind.i64.wrap (x1.tdiv (256 : Int))).tdiv (2 : Int)) + (1 : Int))) + IntKind.i64.wrap ((x1.tmod (256 : Int)).tdiv (2 : Int))))
  else
  bif decide (x2 = (↑(1 : Nat) : Int)) then
  k0 (IntKind.i64.wrap (IntKind.i64.wrap ((256 : Int) * IntKind.i64.wrap ((IntKind.i64.wrap (x1.tdiv (256 : Int))).tdiv (2 : Int))) + IntKind.i64.wrap (IntKind.i64.wrap ((IntKind.i64.wrap (x1.tdiv (256 : Int))).tdiv (2 : Int)) + (1 : Int))))
  else none
  else none
  else
  bif decide (x2 = (↑(1 : Nat) : Int)) then
  bif decide ((0 : Int) ≤ x2 ∧ x2 < (↑(2 : Nat) : Int)) then
  bif decide (x2 = (↑(0 : Nat) : Int)) then
  k0 (IntKind.i64.wrap (IntKind.i64.wrap ((256 : Int) * IntKind.i64.wrap (IntKind.i64.wrap ((x1.tmod (256 : Int)).tdiv (2 : Int)) + (1 : Int))) + IntKind.i64.wrap ((x1.tmod (256 : Int)).tdiv (2 : Int))))
  else
  bif decide (x2 = (↑(1 : Nat) : Int)) then
  k0 (IntKind.i64.wrap (IntKind.i64.wrap ((256 : Int) * IntKind.i64.wrap ((IntKind.i64.wrap (x1.tdiv (256 : Int))).tdiv (2 : Int))) + IntKind.i64.wrap (IntKind.i64.wrap ((x1.tmod (256 : Int)).tdiv (2 : Int)) + (1 : Int))))
  else none
  else none
  else none
  else none
  else
  bif decide ((0 : Int) ≤ x2 ∧ x2 < (↑(2 : Nat) : Int)) then
  bif decide (x2 = (↑(0 : Nat) : Int)) then
  bif decide ((0 : Int) ≤ x2 ∧ x2 < (↑(2 : Nat) : Int)) then
  bif decide (x2 = (↑(0 : Nat) : Int)) then
  k0 (IntKind.i64.wrap (IntKind.i64.wrap ((256 : Int) * IntKind.i64.wrap (IntKind.i64.wrap (x1.tdiv (256 : Int)) + (1 : Int))) + x1.tmod (256 : Int)))
  else
  bif decide (x2 = (↑(1 : Nat) : Int)) then
  k0 (IntKind.i64.wrap (IntKind.i64.wrap ((256 : Int) * IntKind.i64.wrap (x1.tdiv (256 : Int))) + IntKind.i64.wrap (IntKind.i64.wrap (x1.tdiv (256 : Int)) + (1 : Int))))
  else none
  else none
  else
  bif decide (x2 = (↑(1 : Nat) : Int)) then
  bif decide ((0 : Int) ≤ x2 ∧ x2 < (↑(2 : Nat) : Int)) then
  bif decide (x2 = (↑(0 : Nat) : Int)) then
  k0 (IntKind.i64.wrap (IntKind.i64.wrap ((256 : Int) * IntKind.i64.wrap (x1.tmod (256 : Int) + (1 : Int))) + x1.tmod (256 : Int)))
  else
  bif decide (x2 = (↑(1 : Nat) : Int)) then
  k0 (IntKind.i64.wrap (IntKind.i64.wrap ((256 : Int) * IntKind.i64.wrap (x1.tdiv (256 : Int))) + IntKind.i64.wrap (x1.tmod (256 : Int) + (1 : Int))))
  else none
  else none
  else none
  else none
  else none
  else none
  else
  bif x2 == IntKind.i64.wrap (x1.tdiv (32 : Int)) then
  k0 (IntKind.i64.wrap (IntKind.i64.wrap ((32 : Int) * IntKind.i64.wrap (x1.tdiv (32 : Int))) + bif decide ((31 : Int) < IntKind.i64.wrap (x1.tmod (32 : Int) + (1 : Int))) then (31 : Int) else IntKind.i64.wrap (x1.tmod (32 : Int) + (1 : Int))))
  else
  bif x1.tmod (32 : Int) == (0 : Int) then
  k0 (IntKind.i64.wrap (IntKind.i64.wrap ((32 : Int) * x2) + x1.tmod (32 : Int)))
  else
  k0 (IntKind.i64.wrap (IntKind.i64.wrap ((32 : Int) * IntKind.i64.wrap (x1.tdiv (32 : Int))) + IntKind.i64.wrap (x1.tmod (32 : Int) - IntKind.i64.wrap ((1 : Int) + IntKind.i64.wrap ((x1.tmod (32 : Int)).tdiv (4 : Int))))))
abbrev YF179 : Type := (Int) → (Int) → (Int) → ((Int) → Option Ans) → Option Ans
theorem F179_eq (fuel : Nat) (x0 x1 x2 : Int) (k : Ev.Cont) : evalFn tab (G179 fuel) (J179 fuel) kp179 fuel Try.f179 [.c (.int .i64 x0), .c (.int .i64 x1), .c (.int .i64 x2)] [] k = F_coder_next fuel x0 x1 x2 (fun r => match r with | r0 => k (.c (.int .i64 r0), [])) := by
  kernel_rfl
theorem hG179 (fuel : Nat) : GOK Try.prog (G179 fuel) :=
  gok_nil
theorem fok179 (fuel : Nat) : FnOK Try.prog 179 (evalFn tab (G179 fuel) (J179 fuel) kp179 fuel Try.f179) :=
  fn_ok tab_ok (hG179 fuel) mixed Try.func179 (c := (Try.f179.body).getD .skip) rfl (fun q hq => by
    rw [(by kernel_rfl : obl (J179 fuel) ((Try.f179.body).getD .skip) = [])] at hq
    cases hq)
noncomputable def spg179 (F : YF179) : Ev.Spec := fun args objs k => match args, objs with
 | [.c (.int .i64 x0), .c (.int .i64 x1), .c (.int .i64 x2)], [] => bif true then F x0 x1 x2 (fun r => match r with | r0 => k (.c (.int .i64 r0), [])) else none
 | _, _ => none
noncomputable def spec179 (fuel : Nat) : Ev.Spec := spg179 (F_coder_next fuel)
theorem ok179 (fuel : Nat) : FnOK Try.prog 179 (spec179 fuel) := by
  intro args objs kk r h
  unfold spec179 spg179 at h
  split at h
  · skip
    obtain ⟨hb, h⟩ := cond_some' h
    simp only [Bool.and_eq_true, Nat.beq_eq, decide_eq_true_eq] at hb
    clear hb
    exact fok179 fuel _ _ kk r ((F179_eq fuel _ _ _ kk).trans h)
  · cases h
end Go.Proofs.Ytipdidpalcmlhaa

set_option linter.unusedVariables false
set_option linter.unusedSimpArgs false
set_option maxRecDepth 100000
set_option maxHeartbeats 2000000
namespace Go.Proofs.Ytipdidpalcmlhaa
open Go Ev
def kp150_7ec (i : Nat) : Option (List Nat) := Ev.look i [(200003, [0])]
noncomputable def Gg150_7ec (f179 : YF179) (f : Nat) : Option Ev.Spec := Ev.look f [(179, spg179 f179)]
noncomputable def G150_7ec (fuel : Nat) : Nat → Option Ev.Spec := Gg150_7ec (F_coder_next fuel)
noncomputable def J150_7ec (fuel : Nat) (i : Nat) : Option Ev.Blk := Ev.look i []
noncomputable def Fg_coder_interval_take_7ec (fuel : Nat) (f179 : YF179) (x0 x1 : Int) (x2 x3 : Int) (x4 x5 : Int) (x6 x7 x8 : Int) (x9 x10 : Bool) (x11 x12 : (List Int)) (k0 : (Int × Int × Int × Int × Int × Int × Bool × Bool × (List Int) × (List Int)) → Option Ans) : Option Ans :=
  bif x1 == (1 : Int) then
  bif decide ((0 : Int) ≤ x0 ∧ x0 < (↑x11.length : Int)) then
  (f179 (x3) (x11.getD x0.toNat (0 : Int)) (x1)
  (fun y4 =>
  bif decide ((0 : Int) ≤ x0 ∧ x0 < (↑x11.length : Int)) then
  k0 (x3, x4, x2, x6, x7, x8, x9, x10, x11.set x0.toNat y4, x12)
  else none))
  else none
  else
  bif decide ((0 : Int) ≤ x0 ∧ x0 < (↑x11.length : Int)) then
  (f179 (x3) (x11.getD x0.toNat (0 : Int)) (x1)
  (fun y4 =>
  bif decide ((0 : Int) ≤ x0 ∧ x0 < (↑x11.length : Int)) then
  k0 (x3, IntKind.u64.wrap (x2 + (1 : Int)), x5, x6, x7, x8, x9, x10, x11.set x0.toNat y4, x12)
  else none))
  else none
noncomputable def F_coder_interval_take_7ec (fuel : Nat) (x0 x1 : Int) (x2 x3 : Int) (x4 x5 : Int) (x6 x7 x8 : Int) (x9 x10 : Bool) (x11 x12 : (List Int)) (k0 : (Int × Int × Int × Int × Int × Int × Bool × Bool × (List Int) × (List Int)) → Option Ans) : Option Ans := Fg_coder_interval_take_7ec fuel (F_coder_next fuel) x0 x1 x2 x3 x4 x5 x6 x7 x8 x9 x10 x11 x12 k0
abbrev YF150_7ec : Type := (Int) → (Int) → (Int) → (Int) → (Int) → (Int) → (Int) → (Int) → (Int) → (Bool) → (Bool) → ((List Int)) → ((List Int)) → ((Int × Int × Int × Int × Int × Int × Bool × Bool × (List Int) × (List Int)) → Option Ans) → Option Ans
theorem F150_7ec_eqg (fuel : Nat) (f179 : YF179) (x0 x1 : Int) (x2 x3 : Int) (x4 x5 : Int) (x6 x7 x8 : Int) (x9 x10 : Bool) (x11 x12 : (List Int)) (k : Ev.Cont) : evalFn tab (Gg150_7ec f179) (J150_7ec fuel) kp150_7ec fuel Try.f150 [.c (.ptr 0 0), .c (.int .i64 x0), .c (.int .i64 x1), .c (.int .u64 x2)] [.cells 163 (.int .i64 x3 :: .own 1 :: ctb (.int .u64 x4 :: .int .u64 x5 :: .own 2 :: .int .i64 x6 :: .int .u64 x7 :: .int .i64 x8 :: .bool x9 :: .bool x10 :: [])), .vec 3 (.int .i64) x11 false, .vec 5 (.int .u8) x12 false] k = Fg_coder_interval_take_7ec fuel f179 x0 x1 x2 x3 x4 x5 x6 x7 x8 x9 x10 x11 x12 (fun r => match r with | (r0, r1, r2, r3, r4, r5, r6, r7, r8, r9) => k (.tup [], [.cells 163 (.int .i64 r0 :: .own 1 :: ctb (.int .u64 r1 :: .int .u64 r2 :: .own 2 :: .int .i64 r3 :: .int .u64 r4 :: .int .i64 r5 :: .bool r6 :: .bool r7 :: [])), .vec 3 (.int .i64) r8 false, .vec 5 (.int .u8) r9 false])) := by
  kernel_rfl
theorem hG150_7ec (fuel : Nat) : GOK Try.prog (G150_7ec fuel) :=
  gok_cons ⟨ok179 fuel, enters_of Try.func179 (by kernel_rfl) rfl⟩ <|
  gok_nil
theorem fok150_7ec (fuel : Nat) : FnOK Try.prog 150 (evalFn tab (G150_7ec fuel) (J150_7ec fuel) kp150_7ec fuel Try.f150) :=
  fn_ok tab_ok (hG150_7ec fuel) mixed Try.func150 (c := (Try.f150.body).getD .skip) rfl (fun q hq => by
    rw [(by kernel_rfl : obl (J150_7ec fuel) ((Try.f150.body).getD .skip) = [])] at hq
    cases hq)
noncomputable def spg150_7ec (F : YF150_7ec) : Ev.Spec := fun args objs k => match args, objs with
 | [.c (.ptr q0 q1), .c (.int .i64 x0), .c (.int .i64 x1), .c (.int .u64 x2)], [.cells q2 cs0, .vec q3 (.int .i64) x11 false, .vec q4 (.int .u8) x12 false] => (match splitRun 2 ctn cs0 with | some ([.int .i64 x3, .own q5], [.int .u64 x4, .int .u64 x5, .own q6, .int .i64 x6, .int .u64 x7, .int .i64 x8, .bool x9, .bool x10]) => bif Nat.beq q0 0 && Nat.beq q1 0 && Nat.beq q2 163 && Nat.beq q3 3 && Nat.beq q4 5 && Nat.beq q5 1 && Nat.beq q6 2 then F x0 x1 x2 x3 x4 x5 x6 x7 x8 x9 x10 x11 x12 (fun r => match r with | (r0, r1, r2, r3, r4, r5, r6, r7, r8, r9) => k (.tup [], [.cells 163 (.int .i64 r0 :: .own 1 :: ctb (.int .u64 r1 :: .int .u64 r2 :: .own 2 :: .int .i64 r3 :: .int .u64 r4 :: .int .i64 r5 :: .bool r6 :: .bool r7 :: [])), .vec 3 (.int .i64) r8 false, .vec 5 (.int .u8) r9 false])) else none | _ => none)
 | _, _ => none
noncomputable def spec150_7ec (fuel : Nat) : Ev.Spec := spg150_7ec (F_coder_interval_take_7ec fuel)
theorem ok150_7ec (fuel : Nat) : FnOK Try.prog 150 (spec150_7ec fuel) := by
  intro args objs kk r h
  unfold spec150_7ec spg150_7ec at h
  split at h
  · skip
    split at h
    rotate_left 1
    · cases h
    rename_i hsp
    have esp := splitRun_eq hsp
    subst esp
    obtain ⟨hb, h⟩ := cond_some' h
    simp only [Bool.and_eq_true, Nat.beq_eq, decide_eq_true_eq] at hb
    obtain ⟨⟨⟨⟨⟨⟨rfl, rfl⟩, rfl⟩, rfl⟩, rfl⟩, rfl⟩, rfl⟩ := hb
    exact fok150_7ec fuel _ _ kk r ((F150_7ec_eqg fuel (F_coder_next fuel) _ _ _ _ _ _ _ _ _ _ _ _ _ kk).trans h)
  · cases h
end Go.Proofs.Ytipdidpalcmlhaa

set_option linter.unusedVariables false
set_option linter.unusedSimpArgs false
set_option maxRecDepth 100000
set_option maxHeartbeats 2000000
namespace Go.Proofs.Ytipdidpalcmlhaa
open Go Ev
def kp136_aa3 (i : Nat) : Option (List Nat) := Ev.look i [(12, [0, 1, 6, 8, 9]), (100001, [0, 1, 6, 8, 9]), (200010, [0]), (400001, [4, 5])]
noncomputable def Gg136_aa3 (f112_40a : YF112_40a) (f150_7ec : YF150_7ec) (f151_aa3 : YF151_aa3) (f152_40a : YF152_40a) (f153_40a : YF153_40a) (f173_40a : YF173_40a) (f : Nat) : Option Ev.Spec := Ev.look f [(112, spg112_40a f112_40a), (150, spg150_7ec f150_7ec), (151, spg151_aa3 f151_aa3), (152, spg152_40a f152_40a), (153, spg153_40a f153_40a), (173, spg173_40a f173_40a)]
noncomputable def G136_aa3 (fuel : Nat) : Nat → Option Ev.Spec := Gg136_aa3 (F_coder_Decoder_shift_40a fuel) (F_coder_interval_take_7ec fuel) (F_coder_interval_mid_aa3 fuel) (F_coder_interval_same_40a fuel) (F_coder_interval_lose_40a fuel) (F_coder_Decoder_none_40a fuel)
noncomputable def Sg_coder_Decoder_Get_aa3_1 (fuel : Nat) (f112_40a : YF112_40a) (f150_7ec : YF150_7ec) (f151_aa3 : YF151_aa3) (f152_40a : YF152_40a) (f153_40a : YF153_40a) (f173_40a : YF173_40a) (x0 x1 : Int) (x2 x3 : Int) (x4 x5 : Int) (x6 x7 x8 : Int) (x9 x10 : Bool) (x11 x12 : (List Int)) (x13 x14 : Int) (x15 x16 : Int) (x17 x18 : Int) (x19 x20 : Bool) (c : (Int × Int × Int × Int × Int × Int × Int × Int × Int × Bool × Bool × (List Int) × (List Int) × Int × Int × Int × Int × Int × Int × Bool × Bool) → Option Ans) (B : (Int × Int × Int × Int × Int × Int × Int × Int × Int × Bool × Bool × (List Int) × (List Int) × Int × Int × Int × Int × Int × Int × Bool × Bool → Option Ans)) : Option Ans := match B with
 | b =>
  (f152_40a (x3) (x4) (x5) (x6) (x7) (x8) (x9) (x10) (x11) (x12)
  (fun (y2_0, y2_1, y2_2, y2_3, y2_4, y2_5, y2_6, y2_7, y2_8, y2_9, y2_10) =>
  bif y2_0 then
  (f153_40a (y2_1) (y2_2) (y2_3) (y2_4) (y2_5) (y2_6) (y2_7) (y2_8) (y2_9) (y2_10)
  (fun (y7_0, y7_1, y7_2, y7_3, y7_4, y7_5, y7_6, y7_7, y7_8, y7_9, y7_10) =>
  (f112_40a (y7_1) (y7_2) (y7_3) (y7_4) (y7_5) (y7_6) (y7_7) (y7_8) (y7_9) (y7_10)
  (fun (y11_0, y11_1, y11_2, y11_3, y11_4, y11_5, y11_6, y11_7, y11_8, y11_9) =>
  c (x0, x1, x2, y11_0, y11_1, y11_2, y11_3, y11_4, y11_5, y11_6, y11_7, y11_8, y11_9, x13, x14, x15, x16, x17, x18, x19, x20)))))
  else
  b (x0, x1, x2, y2_1, y2_2, y2_3, y2_4, y2_5, y2_6, y2_7, y2_8, y2_9, y2_10, x13, x14, x15, x16, x17, x18, x19, x20)))
noncomputable def S_coder_Decoder_Get_aa3_1 (fuel : Nat) (v : Int × Int × Int × Int × Int × Int × Int × Int × Int × Bool × Bool × (List Int) × (List Int) × Int × Int × Int × Int × Int × Int × Bool × Bool) (c : (Int × Int × Int × Int × Int × Int × Int × Int × Int × Bool × Bool × (List Int) × (List Int) × Int × Int × Int × Int × Int × Int × Bool × Bool) → Option Ans) (B : (Int × Int × Int × Int × Int × Int × Int × Int × Int × Bool × Bool × (List Int) × (List Int) × Int × Int × Int × Int × Int × Int × Bool × Bool → Option Ans)) : Option Ans := match v with
 | (x0, x1, x2, x3, x4, x5, x6, x7, x8, x9, x10, x11, x12, x13, x14, x15, x16, x17, x18, x19, x20) => Sg_coder_Decoder_Get_aa3_1 fuel (F_coder_Decoder_shift_40a fuel) (F_coder_interval_take_7ec fuel) (F_coder_interval_mid_aa3 fuel) (F_coder_interval_same_40a fuel) (F_coder_interval_lose_40a fuel) (F_coder_Decoder_none_40a fuel) x0 x1 x2 x3 x4 x5 x6 x7 x8 x9 x10 x11 x12 x13 x14 x15 x16 x17 x18 x19 x20 c B
noncomputable def L_coder_Decoder_Get_aa3_1 (fuel : Nat) (v : Int × Int × Int × Int × Int × Int × Int × Int × Int × Bool × Bool × (List Int) × (List Int) × Int × Int × Int × Int × Int × Int × Bool × Bool) (b : (Int × Int × Int × Int × Int × Int × Int × Int × Int × Bool × Bool × (List Int) × (List Int) × Int × Int × Int × Int × Int × Int × Bool × Bool → Option Ans)) : Option Ans := iter (S_coder_Decoder_Get_aa3_1 fuel) fuel v b
noncomputable def J136_aa3_1 (fuel : Nat) (i : Nat) : Option Ev.Blk := Ev.look i []
noncomputable def T136_aa3_1 (v : Int × Int × Int × Int × Int × Int × Int × Int × Int × Bool × Bool × (List Int) × (List Int) × Int × Int × Int × Int × Int × Int × Bool × Bool) : Ev.St := match v with | (x0, x1, x2, x3, x4, x5, x6, x7, x8, x9, x10, x11, x12, x13, x14, x15, x16, x17, x18, x19, x20) => ⟨[(0, .c (.ptr 0 0)), (1, .c (.int .i64 x0)), (6, .c (.int .i64 x1)), (8, .c (.ptr 3 0)), (9, .c (.int .i64 x2))], [(0, .cells 163 (.int .i64 x3 :: .own 1 :: ctb (.int .u64 x4 :: .int .u64 x5 :: .own 2 :: .int .i64 x6 :: .int .u64 x7 :: .int .i64 x8 :: .bool x9 :: .bool x10 :: []))), (1, .vec 3 (.int .i64) x11 false), (2, .vec 5 (.int .u8) x12 false), (3, .cells 163 (.int .i64 x13 :: .own 1 :: ctb (.int .u64 x14 :: .int .u64 x15 :: .own 2 :: .int .i64 x16 :: .int .u64 x17 :: .int .i64 x18 :: .bool x19 :: .bool x20 :: [])))], 4, 3⟩
noncomputable def E136_aa3_1 (K : Ev.Ex → Ev.St → Option Ans) : (Int × Int × Int × Int × Int × Int × Int × Int × Int × Bool × Bool × (List Int) × (List Int) × Int × Int × Int × Int × Int × Int × Bool × Bool → Option Ans) := (fun v => match v with | (x0, x1, x2, x3, x4, x5, x6, x7, x8, x9, x10, x11, x12, x13, x14, x15, x16, x17, x18, x19, x20) => K .normal ⟨[(0, .c (.ptr 0 0)), (1, .c (.int .i64 x0)), (6, .c (.int .i64 x1)), (8, .c (.ptr 3 0)), (9, .c (.int .i64 x2))], [(0, .cells 163 (.int .i64 x3 :: .own 1 :: ctb (.int .u64 x4 :: .int .u64 x5 :: .own 2 :: .int .i64 x6 :: .int .u64 x7 :: .int .i64 x8 :: .bool x9 :: .bool x10 :: []))), (1, .vec 3 (.int .i64) x11 false), (2, .vec 5 (.int .u8) x12 false), (3, .cells 163 (.int .i64 x13 :: .own 1 :: ctb (.int .u64 x14 :: .int .u64 x15 :: .own 2 :: .int .i64 x16 :: .int .u64 x17 :: .int .i64 x18 :: .bool x19 :: .bool x20 :: [])))], 4, 3⟩)
theorem S136_aa3_1_okg (fuel : Nat) (f112_40a : YF112_40a) (f150_7ec : YF150_7ec) (f151_aa3 : YF151_aa3) (f152_40a : YF152_40a) (f153_40a : YF153_40a) (f173_40a : YF173_40a) (R : Ev.St → Option Ans) (K : Ev.Ex → Ev.St → Option Ans) (x0 x1 : Int) (x2 x3 : Int) (x4 x5 : Int) (x6 x7 x8 : Int) (x9 x10 : Bool) (x11 x12 : (List Int)) (x13 x14 : Int) (x15 x16 : Int) (x17 x18 : Int) (x19 x20 : Bool) : evalCode tab (Gg136_aa3 f112_40a f150_7ec f151_aa3 f152_40a f153_40a f173_40a) (J136_aa3_1 fuel) kp136_aa3 fuel (bodyOf 1 Try.f136) (T136_aa3_1 (x0, x1, x2, x3, x4, x5, x6, x7, x8, x9, x10, x11, x12, x13, x14, x15, x16, x17, x18, x19, x20)) (lc kp136_aa3 12 1 R K) = Sg_coder_Decoder_Get_aa3_1 fuel f112_40a f150_7ec f151_aa3 f152_40a f153_40a f173_40a x0 x1 x2 x3 x4 x5 x6 x7 x8 x9 x10 x11 x12 x13 x14 x15 x16 x17 x18 x19 x20 (fun v => R (T136_aa3_1 v)) (E136_aa3_1 K) := by
  kernel_rfl
noncomputable def B136_aa3_1 (fuel : Nat) : Ev.Blk := fun st K => match canonO (kp136_aa3 12) st with
 | some s => (match s with
 | ⟨[(q0, .c (.ptr q1 q2)), (q3, .c (.int .i64 x0)), (q4, .c (.int .i64 x1)), (q5, .c (.ptr q6 q7)), (q8, .c (.int .i64 x2))], [(q9, .cells q10 cs0), (q11, .vec q12 (.int .i64) x11 false), (q13, .vec q14 (.int .u8) x12 false), (q15, .cells q16 cs1)], q17, q18⟩ => (match splitRun 2 ctn cs0 with | some ([.int .i64 x3, .own q19], [.int .u64 x4, .int .u64 x5, .own q20, .int .i64 x6, .int .u64 x7, .int .i64 x8, .bool x9, .bool x10]) => (match splitRun 2 ctn cs1 with | some ([.int .i64 x13, .own q21], [.int .u64 x14, .int .u64 x15, .own q22, .int .i64 x16, .int .u64 x17, .int .i64 x18, .bool x19, .bool x20]) => bif Nat.beq q0 0 && Nat.beq q1 0 && Nat.beq q2 0 && Nat.beq q3 1 && Nat.beq q4 6 && Nat.beq q5 8 && Nat.beq q6 3 && Nat.beq q7 0 && Nat.beq q8 9 && Nat.beq q9 0 && Nat.beq q10 163 && Nat.beq q11 1 && Nat.beq q12 3 && Nat.beq q13 2 && Nat.beq q14 5 && Nat.beq q15 3 && Nat.beq q16 163 && Nat.beq q17 4 && Nat.beq q18 3 && Nat.beq q19 1 && Nat.beq q20 2 && Nat.beq q21 1 && Nat.beq q22 2 then iter (S_coder_Decoder_Get_aa3_1 fuel) fuel (x0, x1, x2, x3, x4, x5, x6, x7, x8, x9, x10, x11, x12, x13, x14, x15, x16, x17, x18, x19, x20) (E136_aa3_1 K) else none | _ => none) | _ => none)
 | _ => none)
 | none => none
theorem B136_aa3_1_ok (fuel : Nat) (st : Ev.St) (K : Ev.Ex → Ev.St → Option Ans) (r : Ans) (h : B136_aa3_1 fuel st K = some r) : evalCode tab (G136_aa3 fuel) (J136_aa3_1 fuel) kp136_aa3 fuel (.block 1 (.loop (bodyOf 1 Try.f136))) st K = some r := by
  unfold B136_aa3_1 at h
  split at h
  · rename_i s hs
    split at h
    · skip
      split at h
      rotate_left 1
      · cases h
      rename_i hsp
      have esp := splitRun_eq hsp
      subst esp
      split at h
      rotate_left 1
      · cases h
      rename_i hsp
      have esp := splitRun_eq hsp
      subst esp
      obtain ⟨hb, h⟩ := cond_some' h
      simp only [Bool.and_eq_true, Nat.beq_eq, decide_eq_true_eq] at hb
      obtain ⟨⟨⟨⟨⟨⟨⟨⟨⟨⟨⟨⟨⟨⟨⟨⟨⟨⟨⟨⟨⟨⟨rfl, rfl⟩, rfl⟩, rfl⟩, rfl⟩, rfl⟩, rfl⟩, rfl⟩, rfl⟩, rfl⟩, rfl⟩, rfl⟩, rfl⟩, rfl⟩, rfl⟩, rfl⟩, rfl⟩, rfl⟩, rfl⟩, rfl⟩, rfl⟩, rfl⟩, rfl⟩ := hb
      exact blk_loop (S := T136_aa3_1) (ks := E136_aa3_1) (step := S_coder_Decoder_Get_aa3_1 fuel) (v := (_, _, _, _, _, _, _, _, _, _, _, _, _, _, _, _, _, _, _, _, _)) (by kernel_rfl) (by kernel_rfl) (fun R K v => by obtain ⟨x0, x1, x2, x3, x4, x5, x6, x7, x8, x9, x10, x11, x12, x13, x14, x15, x16, x17, x18, x19, x20⟩ := v; exact S136_aa3_1_okg fuel (F_coder_Decoder_shift_40a fuel) (F_coder_interval_take_7ec fuel) (F_coder_interval_mid_aa3 fuel) (F_coder_interval_same_40a fuel) (F_coder_interval_lose_40a fuel) (F_coder_Decoder_none_40a fuel) R K x0 x1 x2 x3 x4 x5 x6 x7 x8 x9 x10 x11 x12 x13 x14 x15 x16 x17 x18 x19 x20) hs h
    · cases h
  · cases h
noncomputable def J136_aa3 (fuel : Nat) (i : Nat) : Option Ev.Blk := Ev.look i [(100001, B136_aa3_1 fuel)]
noncomputable def Fg_coder_Decoder_Get_aa3 (fuel : Nat) (f112_40a : YF112_40a) (f150_7ec : YF150_7ec) (f151_aa3 : YF151_aa3) (f152_40a : YF152_40a) (f153_40a : YF153_40a) (f173_40a : YF173_40a) (x0 x1 : Int) (x2 x3 : Int) (x4 x5 x6 : Int) (x7 x8 : Bool) (x9 x10 : (List Int)) (k0 : (Int × Int × Int × Int × Int × Int × Int × Int × Bool × Bool × (List Int) × (List Int)) → Option Ans) : Option Ans :=
  (f173_40a (x1) (x2) (x3) (x4) (x5) (x6) (x7) (x8) (x9) (x10)
  (fun (y2_0, y2_1, y2_2, y2_3, y2_4, y2_5, y2_6, y2_7, y2_8, y2_9, y2_10) =>
  bif y2_0 then
  k0 ((0 : Int), (7 : Int), y2_1, y2_2, y2_3, y2_4, y2_5, y2_6, y2_7, y2_8, y2_9, y2_10)
  else
  bif decide (x0 < (0 : Int)) then
  k0 ((0 : Int), (2 : Int), y2_1, y2_2, y2_3, y2_4, y2_5, y2_6, y2_7, y2_8, y2_9, y2_10)
  else
  bif decide (x0 ≥ (↑y2_9.length : Int)) then
  k0 ((0 : Int), (2 : Int), y2_1, y2_2, y2_3, y2_4, y2_5, y2_6, y2_7, y2_8, y2_9, y2_10)
  else
  bif y2_7 then
  k0 ((0 : Int), (6 : Int), y2_1, y2_2, y2_3, y2_4, y2_5, y2_6, y2_7, y2_8, y2_9, y2_10)
  else
  (f151_aa3 (x0) (y2_1) (y2_2) (y2_3) (y2_4) (y2_5) (y2_6) (y2_7) (y2_8) (y2_9) (y2_10)
  (fun (y10_0, y10_1, y10_2, y10_3, y10_4, y10_5, y10_6, y10_7, y10_8, y10_9, y10_10) =>
  bif decide (y10_5 ≤ y10_0) then
  bif decide ((0 : Int) ≤ x0 ∧ x0 < (↑y10_9.length : Int)) then
  both ((f150_7ec (x0) ((1 : Int)) (y10_0) (y10_1) (y10_2) (y10_3) (y10_4) (y10_5) (y10_6) (y10_7) (y10_8) (y10_9) (y10_10)
  (fun (y18_0, y18_1, y18_2, y18_3, y18_4, y18_5, y18_6, y18_7, y18_8, y18_9) =>
  (L_coder_Decoder_Get_aa3_1 fuel (x0, (1 : Int), y10_9.getD x0.toNat (0 : Int), y18_0, y18_1, y18_2, y18_3, y18_4, y18_5, y18_6, y18_7, y18_8, y18_9, y10_1, y10_2, y10_3, y10_4, y10_5, y10_6, y10_7, y10_8)
  (fun (b1_0, b1_1, b1_2, b1_3, b1_4, b1_5, b1_6, b1_7, b1_8, b1_9, b1_10, b1_11, b1_12, b1_13, b1_14, b1_15, b1_16, b1_17, b1_18, b1_19, b1_20) =>
  bif decide (b1_8 > (4 : Int)) then
  bif decide ((0 : Int) ≤ b1_0 ∧ b1_0 < (↑b1_11.length : Int)) then
  k0 ((0 : Int), (6 : Int), b1_13, b1_14, b1_15, b1_16, b1_17, b1_18, true, b1_20, b1_11.set b1_0.toNat b1_2, b1_12)
  else none
  else
  k0 (b1_1, (0 : Int), b1_3, b1_4, b1_5, b1_6, b1_7, b1_8, b1_9, b1_10, b1_11, b1_12))))))
  (both ((f150_7ec (x0) ((1 : Int)) (y10_0) (y10_1) (y10_2) (y10_3) (y10_4) (y10_5) (y10_6) (y10_7) (y10_8) (y10_9) (y10_10)
  (fun (y20_0, y20_1, y20_2, y20_3, y20_4, y20_5, y20_6, y20_7, y20_8, y20_9) =>
  (L_coder_Decoder_Get_aa3_1 fuel (x0, (1 : Int), y10_9.getD x0.toNat (0 : Int), y20_0, y20_1, y20_2, y20_3, y20_4, y20_5, y20_6, y20_7, y20_8, y20_9, y10_1, y10_2, y10_3, y10_4, y10_5, y10_6, y10_7, y10_8)
  (fun (b1_0, b1_1, b1_2, b1_3, b1_4, b1_5, b1_6, b1_7, b1_8, b1_9, b1_10, b1_11, b1_12, b1_13, b1_14, b1_15, b1_16, b1_17, b1_18, b1_19, b1_20) =>
  bif decide (b1_8 > (4 : Int)) then
  bif decide ((0 : Int) ≤ b1_0 ∧ b1_0 < (↑b1_11.length : Int)) then
  k0 ((0 : Int), (6 : Int), b1_13, b1_14, b1_15, b1_16, b1_17, b1_18, true, b1_20, b1_11.set b1_0.toNat b1_2, b1_12)
  else none
  else
  k0 (b1_1, (0 : Int), b1_3, b1_4, b1_5, b1_6, b1_7, b1_8, b1_9, b1_10, b1_11, b1_12))))))
  ((f150_7ec (x0) ((1 : Int)) (y10_0) (y10_1) (y10_2) (y10_3) (y10_4) (y10_5) (y10_6) (y10_7) (y10_8) (y10_9) (y10_10)
  (fun (y20_0, y20_1, y20_2, y20_3, y20_4, y20_5, y20_6, y20_7, y20_8, y20_9) =>
  (L_coder_Decoder_Get_aa3_1 fuel (x0, (1 : Int), y10_9.getD x0.toNat (0 : Int), y20_0, y20_1, y20_2, y20_3, y20_4, y20_5, y20_6, y20_7, y20_8, y20_9, y10_1, y10_2, y10_3, y10_4, y10_5, y10_6, y10_7, y10_8)
  (fun (b1_0, b1_1, b1_2, b1_3, b1_4, b1_5, b1_6, b1_7, b1_8, b1_9, b1_10, b1_11, b1_12, b1_13, b1_14, b1_15, b1_16, b1_17, b1_18, b1_19, b1_20) =>
  bif decide (b1_8 > (4 : Int)) then
  bif decide ((0 : Int) ≤ b1_0 ∧ b1_0 < (↑b1_11.length : Int)) then
  k0 ((0 : Int), (6 : Int), b1_13, b1_14, b1_15, b1_16, b1_17, b1_18, true, b1_20, b1_11.set b1_0.toNat b1_2, b1_12)
  else none
  else
  k0 (b1_1, (0 : Int), b1_3, b1_4, b1_5, b1_6, b1_7, b1_8, b1_9, b1_10, b1_11, b1_12)))))))
  else none
  else
  bif decide ((0 : Int) ≤ x0 ∧ x0 < (↑y10_9.length : Int)) then
  both ((f150_7ec (x0) ((0 : Int)) (y10_0) (y10_1) (y10_2) (y10_3) (y10_4) (y10_5) (y10_6) (y10_7) (y10_8) (y10_9) (y10_10)
  (fun (y18_0, y18_1, y18_2, y18_3, y18_4, y18_5, y18_6, y18_7, y18_8, y18_9) =>
  (L_coder_Decoder_Get_aa3_1 fuel (x0, (0 : Int), y10_9.getD x0.toNat (0 : Int), y18_0, y18_1, y18_2, y18_3, y18_4, y18_5, y18_6, y18_7, y18_8, y18_9, y10_1, y10_2, y10_3, y10_4, y10_5, y10_6, y10_7, y10_8)
  (fun (b1_0, b1_1, b1_2, b1_3, b1_4, b1_5, b1_6, b1_7, b1_8, b1_9, b1_10, b1_11, b1_12, b1_13, b1_14, b1_15, b1_16, b1_17, b1_18, b1_19, b1_20) =>
  bif decide (b1_8 > (4 : Int)) then
  bif decide ((0 : Int) ≤ b1_0 ∧ b1_0 < (↑b1_11.length : Int)) then
  k0 ((0 : Int), (6 : Int), b1_13, b1_14, b1_15, b1_16, b1_17, b1_18, true, b1_20, b1_11.set b1_0.toNat b1_2, b1_12)
  else none
  else
  k0 (b1_1, (0 : Int), b1_3, b1_4, b1_5, b1_6, b1_7, b1_8, b1_9, b1_10, b1_11, b1_12))))))
  (both ((f150_7ec (x0) ((0 : Int)) (y10_0) (y10_1) (y10_2) (y10_3) (y10_4) (y10_5) (y10_6) (y10_7) (y10_8) (y10_9) (y10_10)
  (fun (y20_0, y20_1, y20_2, y20_3, y20_4, y20_5, y20_6, y20_7, y20_8, y20_9) =>
  (L_coder_Decoder_Get_aa3_1 fuel (x0, (0 : Int), y10_9.getD x0.toNat (0 : Int), y20_0, y20_1, y20_2, y20_3, y20_4, y20_5, y20_6, y20_7, y20_8, y20_9, y10_1, y10_2, y10_3, y10_4, y10_5, y10_6, y10_7, y10_8)
  (fun (b1_0, b1_1, b1_2, b1_3, b1_4, b1_5, b1_6, b1_7, b1_8, b1_9, b1_10, b1_11, b1_12, b1_13, b1_14, b1_15, b1_16, b1_17, b1_18, b1_19, b1_20) =>
  bif decide (b1_8 > (4 : Int)) then
  bif decide ((0 : Int) ≤ b1_0 ∧ b1_0 < (↑b1_11.length : Int)) then
  k0 ((0 : Int), (6 : Int), b1_13, b1_14, b1_15, b1_16, b1_17, b1_18, true, b1_20, b1_11.set b1_0.toNat b1_2, b1_12)
  else none
  else
  k0 (b1_1, (0 : Int), b1_3, b1_4, b1_5, b1_6, b1_7, b1_8, b1_9, b1_10, b1_11, b1_12))))))
  ((f150_7ec (x0) ((0 : Int)) (y10_0) (y10_1) (y10_2) (y10_3) (y10_4) (y10_5) (y10_6) (y10_7) (y10_8) (y10_9) (y10_10)
  (fun (y20_0, y20_1, y20_2, y20_3, y20_4, y20_5, y20_6, y20_7, y20_8, y20_9) =>
  (L_coder_Decoder_Get_aa3_1 fuel (x0, (0 : Int), y10_9.getD x0.toNat (0 : Int), y20_0, y20_1, y20_2, y20_3, y20_4, y20_5, y20_6, y20_7, y20_8, y20_9, y10_1, y10_2, y10_3, y10_4, y10_5, y10_6, y10_7, y10_8)
  (fun (b1_0, b1_1, b1_2, b1_3, b1_4, b1_5, b1_6, b1_7, b1_8, b1_9, b1_10, b1_11, b1_12, b1_13, b1_14, b1_15, b1_16, b1_17, b1_18, b1_19, b1_20) =>
  bif decide (b1_8 > (4 : Int)) then
  bif decide ((0 : Int) ≤ b1_0 ∧ b1_0 < (↑b1_11.length : Int)) then
  k0 ((0 : Int), (6 : Int), b1_13, b1_14, b1_15, b1_16, b1_17, b1_18, true, b1_20, b1_11.set b1_0.toNat b1_2, b1_12)
  else none
  else
  k0 (b1_1, (0 : Int), b1_3, b1_4, b1_5, b1_6, b1_7, b1_8, b1_9, b1_10, b1_11, b1_12)))))))
  else none))))
noncomputable def F_coder_Decoder_Get_aa3 (fuel : Nat) (x0 x1 : Int) (x2 x3 : Int) (x4 x5 x6 : Int) (x7 x8 : Bool) (x9 x10 : (List Int)) (k0 : (Int × Int × Int × Int × Int × Int × Int × Int × Bool × Bool × (List Int) × (List Int)) → Option Ans) : Option Ans := Fg_coder_Decoder_Get_aa3 fuel (F_coder_Decoder_shift_40a fuel) (F_coder_interval_take_7ec fuel) (F_coder_interval_mid_aa3 fuel) (F_coder_interval_same_40a fuel) (F_coder_interval_lose_40a fuel) (F_coder_Decoder_none_40a fuel) x0 x1 x2 x3 x4 x5 x6 x7 x8 x9 x10 k0
abbrev YF136_aa3 : Type := (Int) → (Int) → (Int) → (Int) → (Int) → (Int) → (Int) → (Bool) → (Bool) → ((List Int)) → ((List Int)) → ((Int × Int × Int × Int × Int × Int × Int × Int × Bool × Bool × (List Int) × (List Int)) → Option Ans) → Option Ans
theorem F136_aa3_eqg (fuel : Nat) (f112_40a : YF112_40a) (f150_7ec : YF150_7ec) (f151_aa3 : YF151_aa3) (f152_40a : YF152_40a) (f153_40a : YF153_40a) (f173_40a : YF173_40a) (x0 x1 : Int) (x2 x3 : Int) (x4 x5 x6 : Int) (x7 x8 : Bool) (x9 x10 : (List Int)) (k : Ev.Cont) : evalFn tab (Gg136_aa3 f112_40a f150_7ec f151_aa3 f152_40a f153_40a f173_40a) (J136_aa3 fuel) kp136_aa3 fuel Try.f136 [.c (.ptr 0 0), .c (.int .i64 x0)] [.cells 163 (.int .i64 x1 :: .own 1 :: ctb (.int .u64 x2 :: .int .u64 x3 :: .own 2 :: .int .i64 x4 :: .int .u64 x5 :: .int .i64 x6 :: .bool x7 :: .bool x8 :: [])), .vec 3 (.int .i64) x9 false, .vec 5 (.int .u8) x10 false] k = Fg_coder_Decoder_Get_aa3 fuel f112_40a f150_7ec f151_aa3 f152_40a f153_40a f173_40a x0 x1 x2 x3 x4 x5 x6 x7 x8 x9 x10 (fun r => match r with | (r0, r1, r2, r3, r4, r5, r6, r7, r8, r9, r10, r11) => k (.tup [(false, [.int .i64 r0]), (false, [.int .i64 r1])], [.cells 163 (.int .i64 r2 :: .own 1 :: ctb (.int .u64 r3 :: .int .u64 r4 :: .own 2 :: .int .i64 r5 :: .int .u64 r6 :: .int .i64 r7 :: .bool r8 :: .bool r9 :: [])), .vec 3 (.int .i64) r10 false, .vec 5 (.int .u8) r11 false])) := by
  kernel_rfl
theorem hG136_aa3 (fuel : Nat) : GOK Try.prog (G136_aa3 fuel) :=
  gok_cons ⟨ok112_40a fuel, enters_of Try.func112 (by kernel_rfl) rfl⟩ <|
  gok_cons ⟨ok150_7ec fuel, enters_of Try.func150 (by kernel_rfl) rfl⟩ <|
  gok_cons ⟨ok151_aa3 fuel, enters_of Try.func151 (by kernel_rfl) rfl⟩ <|
  gok_cons ⟨ok152_40a fuel, enters_of Try.func152 (by kernel_rfl) rfl⟩ <|
  gok_cons ⟨ok153_40a fuel, enters_of Try.func153 (by kernel_rfl) rfl⟩ <|
  gok_cons ⟨ok173_40a fuel, enters_of Try.func173 (by kernel_rfl) rfl⟩ <|
  gok_nil
theorem B136_aa3_1_blk (fuel : Nat) : BlkOK Try.prog Try.f136.ntmps (.block 1 (.loop (bodyOf 1 Try.f136))) (B136_aa3_1 fuel) :=
  blk_of (blk_of_code tab_ok (hG136_aa3 fuel) mixed (J := J136_aa3_1 fuel) (kp := kp136_aa3) (fuel := fuel) (by kernel_rfl) (fun q hq => by
    rw [(by kernel_rfl : obl (J136_aa3_1 fuel) (.block 1 (.loop (bodyOf 1 Try.f136))) = [])] at hq
    cases hq)) (B136_aa3_1_ok fuel)
theorem fok136_aa3 (fuel : Nat) : FnOK Try.prog 136 (evalFn tab (G136_aa3 fuel) (J136_aa3 fuel) kp136_aa3 fuel Try.f136) :=
  fn_ok tab_ok (hG136_aa3 fuel) mixed Try.func136 (c := (Try.f136.body).getD .skip) rfl (fun q hq => by
    rw [(by kernel_rfl : obl (J136_aa3 fuel) ((Try.f136.body).getD .skip) = [(.block 1 (.loop (bodyOf 1 Try.f136)), B136_aa3_1 fuel)])] at hq
    simp only [List.mem_cons, List.not_mem_nil, or_false] at hq
    subst hq
    · exact B136_aa3_1_blk fuel)
noncomputable def spg136_aa3 (F : YF136_aa3) : Ev.Spec := fun args objs k => match args, objs with
 | [.c (.ptr q0 q1), .c (.int .i64 x0)], [.cells q2 cs0, .vec q3 (.int .i64) x9 false, .vec q4 (.int .u8) x10 false] => (match splitRun 2 ctn cs0 with | some ([.int .i64 x1, .own q5], [.int .u64 x2, .int .u64 x3, .own q6, .int .i64 x4, .int .u64 x5, .int .i64 x6, .bool x7, .bool x8]) => bif Nat.beq q0 0 && Nat.beq q1 0 && Nat.beq q2 163 && Nat.beq q3 3 && Nat.beq q4 5 && Nat.beq q5 1 && Nat.beq q6 2 then F x0 x1 x2 x3 x4 x5 x6 x7 x8 x9 x10 (fun r => match r with | (r0, r1, r2, r3, r4, r5, r6, r7, r8, r9, r10, r11) => k (.tup [(false, [.int .i64 r0]), (false, [.int .i64 r1])], [.cells 163 (.int .i64 r2 :: .own 1 :: ctb (.int .u64 r3 :: .int .u64 r4 :: .own 2 :: .int .i64 r5 :: .int .u64 r6 :: .int .i64 r7 :: .bool r8 :: .bool r9 :: [])), .vec 3 (.int .i64) r10 false, .vec 5 (.int .u8) r11 false])) else none | _ => none)
 | _, _ => none
noncomputable def spec136_aa3 (fuel : Nat) : Ev.Spec := spg136_aa3 (F_coder_Decoder_Get_aa3 fuel)
theorem ok136_aa3 (fuel : Nat) : FnOK Try.prog 136 (spec136_aa3 fuel) := by
  intro args objs kk r h
  unfold spec136_aa3 spg136_aa3 at h
  split at h
  · skip
    split at h
    rotate_left 1
    · cases h
    rename_i hsp
    have esp := splitRun_eq hsp
    subst esp
    obtain ⟨hb, h⟩ := cond_some' h
    simp only [Bool.and_eq_true, Nat.beq_eq, decide_eq_true_eq] at hb
    obtain ⟨⟨⟨⟨⟨⟨rfl, rfl⟩, rfl⟩, rfl⟩, rfl⟩, rfl⟩, rfl⟩ := hb
    exact fok136_aa3 fuel _ _ kk r ((F136_aa3_eqg fuel (F_coder_Decoder_shift_40a fuel) (F_coder_interval_take_7ec fuel) (F_coder_interval_mid_aa3 fuel) (F_coder_interval_same_40a fuel) (F_coder_interval_lose_40a fuel) (F_coder_Decoder_none_40a fuel) _ _ _ _ _ _ _ _ _ _ _ kk).trans h)
  · cases h
end Go.Proofs.Ytipdidpalcmlhaa

set_option linter.unusedVariables false
set_option linter.unusedSimpArgs false
set_option maxRecDepth 100000
set_option maxHeartbeats 2000000
namespace Go.Proofs.Ytipdidpalcmlhaa
open Go Ev
def kp139_40a (i : Nat) : Option (List Nat) := Ev.look i []
noncomputable def Gg139_40a (f148 : YF148) (f173_40a : YF173_40a) (f : Nat) : Option Ev.Spec := Ev.look f [(148, spg148 f148), (173, spg173_40a f173_40a)]
noncomputable def G139_40a (fuel : Nat) : Nat → Option Ev.Spec := Gg139_40a (F_coder_clone fuel) (F_coder_Decoder_none_40a fuel)
noncomputable def J139_40a (fuel : Nat) (i : Nat) : Option Ev.Blk := Ev.look i []
noncomputable def Fg_coder_Decoder_Model_40a (fuel : Nat) (f148 : YF148) (f173_40a : YF173_40a) (x0 x1 : Int) (x2 x3 : Int) (x4 x5 : Int) (x6 x7 : Bool) (x8 x9 : (List Int)) (k0 : (Int × Int × Int × Int × Int × Int × Int × Bool × Bool × (List Int) × (List Int) × (List Int)) → Option Ans) : Option Ans :=
  (f173_40a (x0) (x1) (x2) (x3) (x4) (x5) (x6) (x7) (x8) (x9)
  (fun (y2_0, y2_1, y2_2, y2_3, y2_4, y2_5, y2_6, y2_7, y2_8, y2_9, y2_10) =>
  bif y2_0 then
  k0 ((0 : Int), y2_1, y2_2, y2_3, y2_4, y2_5, y2_6, y2_7, y2_8, y2_9, y2_10, [])
  else
  (f148 (y2_1) (y2_9)
  (fun (y7_0, y7_1) =>
  k0 (y7_0, y2_1, y2_2, y2_3, y2_4, y2_5, y2_6, y2_7, y2_8, y2_9, y2_10, y7_1)))))
noncomputable def F_coder_Decoder_Model_40a (fuel : Nat) (x0 x1 : Int) (x2 x3 : Int) (x4 x5 : Int) (x6 x7 : Bool) (x8 x9 : (List Int)) (k0 : (Int × Int × Int × Int × Int × Int × Int × Bool × Bool × (List Int) × (List Int) × (List Int)) → Option Ans) : Option Ans := Fg_coder_Decoder_Model_40a fuel (F_coder_clone fuel) (F_coder_Decoder_none_40a fuel) x0 x1 x2 x3 x4 x5 x6 x7 x8 x9 k0
abbrev YF139_40a : Type := (Int) → (Int) → (Int) → (Int) → (Int) → (Int) → (Bool) → (Bool) → ((List Int)) → ((List Int)) → ((Int × Int × Int × Int × Int × Int × Int × Bool × Bool × (List Int) × (List Int) × (List Int)) → Option Ans) → Option Ans
theorem F139_40a_eqg (fuel : Nat) (f148 : YF148) (f173_40a : YF173_40a) (x0 x1 : Int) (x2 x3 : Int) (x4 x5 : Int) (x6 x7 : Bool) (x8 x9 : (List Int)) (k : Ev.Cont) : evalFn tab (Gg139_40a f148 f173_40a) (J139_40a fuel) kp139_40a fuel Try.f139 [.c (.ptr 0 0)] [.cells 163 (.int .i64 x0 :: .own 1 :: ctb (.int .u64 x1 :: .int .u64 x2 :: .own 2 :: .int .i64 x3 :: .int .u64 x4 :: .int .i64 x5 :: .bool x6 :: .bool x7 :: [])), .vec 3 (.int .i64) x8 false, .vec 5 (.int .u8) x9 false] k = Fg_coder_Decoder_Model_40a fuel f148 f173_40a x0 x1 x2 x3 x4 x5 x6 x7 x8 x9 (fun r => match r with | (r0, r1, r2, r3, r4, r5, r6, r7, r8, r9, r10, r11) => k (.agg [.int .i64 r0, .own 3], [.cells 163 (.int .i64 r1 :: .own 1 :: ctb (.int .u64 r2 :: .int .u64 r3 :: .own 2 :: .int .i64 r4 :: .int .u64 r5 :: .int .i64 r6 :: .bool r7 :: .bool r8 :: [])), .vec 3 (.int .i64) r9 false, .vec 5 (.int .u8) r10 false, .vec 3 (.int .i64) r11 true])) := by
  kernel_rfl
theorem hG139_40a (fuel : Nat) : GOK Try.prog (G139_40a fuel) :=
  gok_cons ⟨ok148 fuel, enters_of Try.func148 (by kernel_rfl) rfl⟩ <|
  gok_cons ⟨ok173_40a fuel, enters_of Try.func173 (by kernel_rfl) rfl⟩ <|
  gok_nil
theorem fok139_40a (fuel : Nat) : FnOK Try.prog 139 (evalFn tab (G139_40a fuel) (J139_40a fuel) kp139_40a fuel Try.f139) :=
  fn_ok tab_ok (hG139_40a fuel) mixed Try.func139 (c := (Try.f139.body).getD .skip) rfl (fun q hq => by
    rw [(by kernel_rfl : obl (J139_40a fuel) ((Try.f139.body).getD .skip) = [])] at hq
    cases hq)
noncomputable def spg139_40a (F : YF139_40a) : Ev.Spec := fun args objs k => match args, objs with
 | [.c (.ptr q0 q1)], [.cells q2 cs0, .vec q3 (.int .i64) x8 false, .vec q4 (.int .u8) x9 false] => (match splitRun 2 ctn cs0 with | some ([.int .i64 x0, .own q5], [.int .u64 x1, .int .u64 x2, .own q6, .int .i64 x3, .int .u64 x4, .int .i64 x5, .bool x6, .bool x7]) => bif Nat.beq q0 0 && Nat.beq q1 0 && Nat.beq q2 163 && Nat.beq q3 3 && Nat.beq q4 5 && Nat.beq q5 1 && Nat.beq q6 2 then F x0 x1 x2 x3 x4 x5 x6 x7 x8 x9 (fun r => match r with | (r0, r1, r2, r3, r4, r5, r6, r7, r8, r9, r10, r11) => k (.agg [.int .i64 r0, .own 3], [.cells 163 (.int .i64 r1 :: .own 1 :: ctb (.int .u64 r2 :: .int .u64 r3 :: .own 2 :: .int .i64 r4 :: .int .u64 r5 :: .int .i64 r6 :: .bool r7 :: .bool r8 :: [])), .vec 3 (.int .i64) r9 false, .vec 5 (.int .u8) r10 false, .vec 3 (.int .i64) r11 true])) else none | _ => none)
 | _, _ => none
noncomputable def spec139_40a (fuel : Nat) : Ev.Spec := spg139_40a (F_coder_Decoder_Model_40a fuel)
theorem ok139_40a (fuel : Nat) : FnOK Try.prog 139 (spec139_40a fuel) := by
  intro args objs kk r h
  unfold spec139_40a spg139_40a at h
  split at h
  · skip
    split at h
    rotate_left 1
    · cases h
    rename_i hsp
    have esp := splitRun_eq hsp
    subst esp
    obtain ⟨hb, h⟩ := cond_some' h
    simp only [Bool.and_eq_true, Nat.beq_eq, decide_eq_true_eq] at hb
    obtain ⟨⟨⟨⟨⟨⟨rfl, rfl⟩, rfl⟩, rfl⟩, rfl⟩, rfl⟩, rfl⟩ := hb
    exact fok139_40a fuel _ _ kk r ((F139_40a_eqg fuel (F_coder_clone fuel) (F_coder_Decoder_none_40a fuel) _ _ _ _ _ _ _ _ _ _ kk).trans h)
  · cases h
end Go.Proofs.Ytipdidpalcmlhaa

set_option linter.unusedVariables false
set_option linter.unusedSimpArgs false
set_option maxRecDepth 100000
set_option maxHeartbeats 2000000
namespace Go.Proofs.Ytipdidpalcmlhaa
open Go Ev
def kp64 (i : Nat) : Option (List Nat) := Ev.look i [(200001, [1])]
noncomputable def Gg64 (f : Nat) : Option Ev.Spec := Ev.look f []
noncomputable def G64 (fuel : Nat) : Nat → Option Ev.Spec := Gg64
noncomputable def J64 (fuel : Nat) (i : Nat) : Option Ev.Blk := Ev.look i []
noncomputable def F_generic_Valid (fuel : Nat) (x0 x1 x2 : Int) (x3 : Bool) (x4 : Int) (k0 : (Bool) → Option Ans) : Option Ans :=
  bif decide (x0 ≥ (0 : Int)) then
  bif decide (x0 ≤ (3 : Int)) then
  bif x4 == (0 : Int) then
  bif decide (x1 ≥ (-8 : Int)) then
  bif decide (x1 ≤ (8 : Int)) then
  bif decide (x2 ≥ (-8 : Int)) then
  bif decide (x2 ≤ (0 : Int)) then
  bif decide (x2 < (0 : Int)) then
  k0 true
  else
  k0 (decide (x1 < (0 : Int)))
  else
  k0 false
  else
  k0 false
  else
  k0 false
  else
  k0 false
  else
  bif x4 == (1 : Int) then
  bif decide (x1 ≥ (-8 : Int)) then
  bif decide (x1 ≤ (8 : Int)) then
  bif decide (x2 ≥ (-8 : Int)) then
  bif decide (x2 ≤ (0 : Int)) then
  bif decide (x2 < (0 : Int)) then
  k0 true
  else
  k0 (decide (x1 < (0 : Int)))
  else
  k0 false
  else
  k0 false
  else
  k0 false
  else
  k0 false
  else
  k0 false
  else
  k0 false
  else
  k0 false
abbrev YF64 : Type := (Int) → (Int) → (Int) → (Bool) → (Int) → ((Bool) → Option Ans) → Option Ans
theorem F64_eq (fuel : Nat) (x0 x1 x2 : Int) (x3 : Bool) (x4 : Int) (k : Ev.Cont) : evalFn tab (G64 fuel) (J64 fuel) kp64 fuel Try.f64 [.agg [.int .i64 x0, .int .i64 x1, .int .i64 x2, .bool x3, .int .i64 x4]] [] k = F_generic_Valid fuel x0 x1 x2 x3 x4 (fun r => match r with | r0 => k (.c (.bool r0), [])) := by
  kernel_rfl
theorem hG64 (fuel : Nat) : GOK Try.prog (G64 fuel) :=
  gok_nil
theorem fok64 (fuel : Nat) : FnOK Try.prog 64 (evalFn tab (G64 fuel) (J64 fuel) kp64 fuel Try.f64) :=
  fn_ok tab_ok (hG64 fuel) mixed Try.func64 (c := (Try.f64.body).getD .skip) rfl (fun q hq => by
    rw [(by kernel_rfl : obl (J64 fuel) ((Try.f64.body).getD .skip) = [])] at hq
    cases hq)
noncomputable def spg64 (F : YF64) : Ev.Spec := fun args objs k => match args, objs with
 | [.agg [.int .i64 x0, .int .i64 x1, .int .i64 x2, .bool x3, .int .i64 x4]], [] => bif true then F x0 x1 x2 x3 x4 (fun r => match r with | r0 => k (.c (.bool r0), [])) else none
 | _, _ => none
noncomputable def spec64 (fuel : Nat) : Ev.Spec := spg64 (F_generic_Valid fuel)
theorem ok64 (fuel : Nat) : FnOK Try.prog 64 (spec64 fuel) := by
  intro args objs kk r h
  unfold spec64 spg64 at h
  split at h
  · skip
    obtain ⟨hb, h⟩ := cond_some' h
    simp only [Bool.and_eq_true, Nat.beq_eq, decide_eq_true_eq] at hb
    clear hb
    exact fok64 fuel _ _ kk r ((F64_eq fuel _ _ _ _ _ kk).trans h)
  · cases h
end Go.Proofs.Ytipdidpalcmlhaa

set_option linter.unusedVariables false
set_option linter.unusedSimpArgs false
set_option maxRecDepth 100000
set_option maxHeartbeats 2000000
namespace Go.Proofs.Ytipdidpalcmlhaa
open Go Ev
def kp120 (i : Nat) : Option (List Nat) := Ev.look i []
noncomputable def Gg120 (f : Nat) : Option Ev.Spec := Ev.look f []
noncomputable def G120 (fuel : Nat) : Nat → Option Ev.Spec := Gg120
noncomputable def J120 (fuel : Nat) (i : Nat) : Option Ev.Blk := Ev.look i []
noncomputable def F_generic_pixels (fuel : Nat) (x0 : Int) (k0 : ((List (Int × Int))) → Option Ans) : Option Ans :=
  bif x0 == (0 : Int) then
  k0 ([((-1 : Int), (-2 : Int)), ((0 : Int), (-2 : Int)), ((1 : Int), (-2 : Int)), ((-2 : Int), (-1 : Int)), ((-1 : Int), (-1 : Int)), ((0 : Int), (-1 : Int)), ((1 : Int), (-1 : Int)), ((2 : Int), (-1 : Int)), ((-2 : Int), (0 : Int)), ((-1 : Int), (0 : Int))])
  else
  bif x0 == (1 : Int) then
  k0 ([((-1 : Int), (-2 : Int)), ((0 : Int), (-2 : Int)), ((-1 : Int), (-1 : Int)), ((0 : Int), (-1 : Int)), ((1 : Int), (-1 : Int)), ((-2 : Int), (0 : Int)), ((-1 : Int), (0 : Int))])
  else
  bif x0 == (2 : Int) then
  k0 ([((-2 : Int), (-1 : Int)), ((-1 : Int), (-1 : Int)), ((0 : Int), (-1 : Int)), ((1 : Int), (-1 : Int)), ((2 : Int), (-1 : Int)), ((-2 : Int), (0 : Int)), ((-1 : Int), (0 : Int))])
  else
  k0 ([((-1 : Int), (-1 : Int)), ((0 : Int), (-1 : Int)), ((1 : Int), (-1 : Int)), ((-1 : Int), (0 : Int))])
abbrev YF120 : Type := (Int) → (((List (Int × Int))) → Option Ans) → Option Ans
theorem F120_eq (fuel : Nat) (x0 : Int) (k : Ev.Cont) : evalFn tab (G120 fuel) (J120 fuel) kp120 fuel Try.f120 [.c (.int .i64 x0)] [] k = F_generic_pixels fuel x0 (fun r => match r with | r0 => k (.c (.own 0), [.vec 22 (.pair (.int .i64) (.int .i64)) r0 true])) := by
  kernel_rfl
theorem hG120 (fuel : Nat) : GOK Try.prog (G120 fuel) :=
  gok_nil
theorem fok120 (fuel : Nat) : FnOK Try.prog 120 (evalFn tab (G120 fuel) (J120 fuel) kp120 fuel Try.f120) :=
  fn_ok tab_ok (hG120 fuel) mixed Try.func120 (c := (Try.f120.body).getD .skip) rfl (fun q hq => by
    rw [(by kernel_rfl : obl (J120 fuel) ((Try.f120.body).getD .skip) = [])] at hq
    cases hq)
noncomputable def spg120 (F : YF120) : Ev.Spec := fun args objs k => match args, objs with
 | [.c (.int .i64 x0)], [] => bif true then F x0 (fun r => match r with | r0 => k (.c (.own 0), [.vec 22 (.pair (.int .i64) (.int .i64)) r0 true])) else none
 | _, _ => none
noncomputable def spec120 (fuel : Nat) : Ev.Spec := spg120 (F_generic_pixels fuel)
theorem ok120 (fuel : Nat) : FnOK Try.prog 120 (spec120 fuel) := by
  intro args objs kk r h
  unfold spec120 spg120 at h
  split at h
  · skip
    obtain ⟨hb, h⟩ := cond_some' h
    simp only [Bool.and_eq_true, Nat.beq_eq, decide_eq_true_eq] at hb
    clear hb
    exact fok120 fuel _ _ kk r ((F120_eq fuel _ kk).trans h)
  · cases h
end Go.Proofs.Ytipdidpalcmlhaa

set_option linter.unusedVariables false
set_option linter.unusedSimpArgs false
set_option maxRecDepth 100000
set_option maxHeartbeats 2000000
namespace Go.Proofs.Ytipdidpalcmlhaa
open Go Ev
def kp71 (i : Nat) : Option (List Nat) := Ev.look i []
noncomputable def Gg71 (f120 : YF120) (f : Nat) : Option Ev.Spec := Ev.look f [(120, spg120 f120)]
noncomputable def G71 (fuel : Nat) : Nat → Option Ev.Spec := Gg71 (F_generic_pixels fuel)
noncomputable def J71 (fuel : Nat) (i : Nat) : Option Ev.Blk := Ev.look i []
noncomputable def Fg_generic_contexts (fuel : Nat) (f120 : YF120) (x0 x1 x2 : Int) (x3 : Bool) (x4 : Int) (k0 : (Int) → Option Ans) : Option Ans :=
  (f120 (x0)
  (fun y2 =>
  k0 (Ev.ishl IntKind.i64 (2 : Int) (↑y2.length : Int))))
noncomputable def F_generic_contexts (fuel : Nat) (x0 x1 x2 : Int) (x3 : Bool) (x4 : Int) (k0 : (Int) → Option Ans) : Option Ans := Fg_generic_contexts fuel (F_generic_pixels fuel) x0 x1 x2 x3 x4 k0
abbrev YF71 : Type := (Int) → (Int) → (Int) → (Bool) → (Int) → ((Int) → Option Ans) → Option Ans
theorem F71_eqg (fuel : Nat) (f120 : YF120) (x0 x1 x2 : Int) (x3 : Bool) (x4 : Int) (k : Ev.Cont) : evalFn tab (Gg71 f120) (J71 fuel) kp71 fuel Try.f71 [.agg [.int .i64 x0, .int .i64 x1, .int .i64 x2, .bool x3, .int .i64 x4]] [] k = Fg_generic_contexts fuel f120 x0 x1 x2 x3 x4 (fun r => match r with | r0 => k (.c (.int .i64 r0), [])) := by
  kernel_rfl
theorem hG71 (fuel : Nat) : GOK Try.prog (G71 fuel) :=
  gok_cons ⟨ok120 fuel, enters_of Try.func120 (by kernel_rfl) rfl⟩ <|
  gok_nil
theorem fok71 (fuel : Nat) : FnOK Try.prog 71 (evalFn tab (G71 fuel) (J71 fuel) kp71 fuel Try.f71) :=
  fn_ok tab_ok (hG71 fuel) mixed Try.func71 (c := (Try.f71.body).getD .skip) rfl (fun q hq => by
    rw [(by kernel_rfl : obl (J71 fuel) ((Try.f71.body).getD .skip) = [])] at hq
    cases hq)
noncomputable def spg71 (F : YF71) : Ev.Spec := fun args objs k => match args, objs with
 | [.agg [.int .i64 x0, .int .i64 x1, .int .i64 x2, .bool x3, .int .i64 x4]], [] => bif true then F x0 x1 x2 x3 x4 (fun r => match r with | r0 => k (.c (.int .i64 r0), [])) else none
 | _, _ => none
noncomputable def spec71 (fuel : Nat) : Ev.Spec := spg71 (F_generic_contexts fuel)
theorem ok71 (fuel : Nat) : FnOK Try.prog 71 (spec71 fuel) := by
  intro args objs kk r h
  unfold spec71 spg71 at h
  split at h
  · skip
    obtain ⟨hb, h⟩ := cond_some' h
    simp only [Bool.and_eq_true, Nat.beq_eq, decide_eq_true_eq] at hb
    clear hb
    exact fok71 fuel _ _ kk r ((F71_eqg fuel (F_generic_pixels fuel) _ _ _ _ _ kk).trans h)
  · cases h
end Go.Proofs.Ytipdidpalcmlhaa

set_option linter.unusedVariables false
set_option linter.unusedSimpArgs false
set_option maxRecDepth 100000
set_option maxHeartbeats 2000000
namespace Go.Proofs.Ytipdidpalcmlhaa
open Go Ev
def kp138 (i : Nat) : Option (List Nat) := Ev.look i [(200001, [3, 5])]
noncomputable def Gg138 (f71 : YF71) (f : Nat) : Option Ev.Spec := Ev.look f [(71, spg71 f71)]
noncomputable def G138 (fuel : Nat) : Nat → Option Ev.Spec := Gg138 (F_generic_contexts fuel)
noncomputable def J138 (fuel : Nat) (i : Nat) : Option Ev.Blk := Ev.look i []
noncomputable def Fg_generic_fits (fuel : Nat) (f71 : YF71) (x0 : Int) (x1 : (List Int)) (x2 x3 : Int) (x4 x5 : Int) (x6 : Bool) (x7 : Int) (k0 : (Bool) → Option Ans) : Option Ans :=
  bif decide (x2 ≥ (0 : Int)) then
  (f71 (x3) (x4) (x5) (x6) (x7)
  (fun y3 =>
  k0 (decide (x2 ≤ IntKind.i64.wrap (IntKind.i64.wrap ((↑x1.length : Int) - y3) - (1 : Int))))))
  else
  k0 false
noncomputable def F_generic_fits (fuel : Nat) (x0 : Int) (x1 : (List Int)) (x2 x3 : Int) (x4 x5 : Int) (x6 : Bool) (x7 : Int) (k0 : (Bool) → Option Ans) : Option Ans := Fg_generic_fits fuel (F_generic_contexts fuel) x0 x1 x2 x3 x4 x5 x6 x7 k0
abbrev YF138 : Type := (Int) → ((List Int)) → (Int) → (Int) → (Int) → (Int) → (Bool) → (Int) → ((Bool) → Option Ans) → Option Ans
theorem F138_eqg (fuel : Nat) (f71 : YF71) (x0 : Int) (x1 : (List Int)) (x2 x3 : Int) (x4 x5 : Int) (x6 : Bool) (x7 : Int) (k : Ev.Cont) : evalFn tab (Gg138 f71) (J138 fuel) kp138 fuel Try.f138 [.agg [.int .i64 x0, .sl (.int .i64) x1], .c (.int .i64 x2), .agg [.int .i64 x3, .int .i64 x4, .int .i64 x5, .bool x6, .int .i64 x7]] [] k = Fg_generic_fits fuel f71 x0 x1 x2 x3 x4 x5 x6 x7 (fun r => match r with | r0 => k (.c (.bool r0), [])) := by
  kernel_rfl
theorem hG138 (fuel : Nat) : GOK Try.prog (G138 fuel) :=
  gok_cons ⟨ok71 fuel, enters_of Try.func71 (by kernel_rfl) rfl⟩ <|
  gok_nil
theorem fok138 (fuel : Nat) : FnOK Try.prog 138 (evalFn tab (G138 fuel) (J138 fuel) kp138 fuel Try.f138) :=
  fn_ok tab_ok (hG138 fuel) mixed Try.func138 (c := (Try.f138.body).getD .skip) rfl (fun q hq => by
    rw [(by kernel_rfl : obl (J138 fuel) ((Try.f138.body).getD .skip) = [])] at hq
    cases hq)
noncomputable def spg138 (F : YF138) : Ev.Spec := fun args objs k => match args, objs with
 | [.agg [.int .i64 x0, .sl (.int .i64) x1], .c (.int .i64 x2), .agg [.int .i64 x3, .int .i64 x4, .int .i64 x5, .bool x6, .int .i64 x7]], [] => bif true then F x0 x1 x2 x3 x4 x5 x6 x7 (fun r => match r with | r0 => k (.c (.bool r0), [])) else none
 | _, _ => none
noncomputable def spec138 (fuel : Nat) : Ev.Spec := spg138 (F_generic_fits fuel)
theorem ok138 (fuel : Nat) : FnOK Try.prog 138 (spec138 fuel) := by
  intro args objs kk r h
  unfold spec138 spg138 at h
  split at h
  · skip
    obtain ⟨hb, h⟩ := cond_some' h
    simp only [Bool.and_eq_true, Nat.beq_eq, decide_eq_true_eq] at hb
    clear hb
    exact fok138 fuel _ _ kk r ((F138_eqg fuel (F_generic_contexts fuel) _ _ _ _ _ _ _ _ kk).trans h)
  · cases h
end Go.Proofs.Ytipdidpalcmlhaa

set_option linter.unusedVariables false
set_option linter.unusedSimpArgs false
set_option maxRecDepth 100000
set_option maxHeartbeats 2000000
namespace Go.Proofs.Ytipdidpalcmlhaa
open Go Ev
def kp121 (i : Nat) : Option (List Nat) := Ev.look i [(200001, [3])]
noncomputable def Gg121 (f120 : YF120) (f : Nat) : Option Ev.Spec := Ev.look f [(120, spg120 f120)]
noncomputable def G121 (fuel : Nat) : Nat → Option Ev.Spec := Gg121 (F_generic_pixels fuel)
noncomputable def J121 (fuel : Nat) (i : Nat) : Option Ev.Blk := Ev.look i []
noncomputable def Fg_generic_newPlane (fuel : Nat) (f120 : YF120) (x0 x1 x2 : Int) (x3 : Bool) (x4 x5 x6 : Int) (k0 : (Int × Int × (List Int) × (List (Int × Int))) → Option Ans) : Option Ans :=
  both (bif decide ((0 : Int) ≤ IntKind.i64.wrap (x5 * x6) ∧ IntKind.i64.wrap (x5 * x6) = IntKind.i64.wrap (x5 * x6) ∧ (↑(1 : Nat) : Int) * IntKind.i64.wrap (x5 * x6) ≤ (281474976710656 : Int) ∧ IntKind.i64.wrap (x5 * x6) ≤ (281474976710656 : Int)) then
  both ((f120 (x0)
  (fun y7 =>
  bif decide ((y7.length + [(x1, x2)].length) * (16 : Nat) ≤ (140737488355328 : Nat) ∧ y7.length + [(x1, x2)].length ≤ (140737488355328 : Nat)) then
  k0 (x5, x6, List.replicate (IntKind.i64.wrap (x5 * x6)).toNat (0 : Int), y7 ++ [(x1, x2)])
  else none)))
  ((f120 (x0)
  (fun y7 =>
  bif decide ((y7.length + [(x1, x2)].length) * (16 : Nat) ≤ (140737488355328 : Nat) ∧ y7.length + [(x1, x2)].length ≤ (140737488355328 : Nat)) then
  k0 (x5, x6, List.replicate (IntKind.i64.wrap (x5 * x6)).toNat (0 : Int), y7 ++ [(x1, x2)])
  else none)))
  else none)
  (both ((f120 (x0)
  (fun y6 =>
  both (bif decide ((0 : Int) ≤ IntKind.i64.wrap (x5 * x6) ∧ IntKind.i64.wrap (x5 * x6) = IntKind.i64.wrap (x5 * x6) ∧ (↑(1 : Nat) : Int) * IntKind.i64.wrap (x5 * x6) ≤ (281474976710656 : Int) ∧ IntKind.i64.wrap (x5 * x6) ≤ (281474976710656 : Int)) then
  bif decide ((y6.length + [(x1, x2)].length) * (16 : Nat) ≤ (140737488355328 : Nat) ∧ y6.length + [(x1, x2)].length ≤ (140737488355328 : Nat)) then
  k0 (x5, x6, List.replicate (IntKind.i64.wrap (x5 * x6)).toNat (0 : Int), y6 ++ [(x1, x2)])
  else none
  else none)
  (both (bif decide ((0 : Int) ≤ IntKind.i64.wrap (x5 * x6) ∧ IntKind.i64.wrap (x5 * x6) = IntKind.i64.wrap (x5 * x6) ∧ (↑(1 : Nat) : Int) * IntKind.i64.wrap (x5 * x6) ≤ (281474976710656 : Int) ∧ IntKind.i64.wrap (x5 * x6) ≤ (281474976710656 : Int)) then
  bif decide ((y6.length + [(x1, x2)].length) * (16 : Nat) ≤ (140737488355328 : Nat) ∧ y6.length + [(x1, x2)].length ≤ (140737488355328 : Nat)) then
  k0 (x5, x6, List.replicate (IntKind.i64.wrap (x5 * x6)).toNat (0 : Int), y6 ++ [(x1, x2)])
  else none
  else none)
  (bif decide ((y6.length + [(x1, x2)].length) * (16 : Nat) ≤ (140737488355328 : Nat) ∧ y6.length + [(x1, x2)].length ≤ (140737488355328 : Nat)) then
  bif decide ((0 : Int) ≤ IntKind.i64.wrap (x5 * x6) ∧ IntKind.i64.wrap (x5 * x6) = IntKind.i64.wrap (x5 * x6) ∧ (↑(1 : Nat) : Int) * IntKind.i64.wrap (x5 * x6) ≤ (281474976710656 : Int) ∧ IntKind.i64.wrap (x5 * x6) ≤ (281474976710656 : Int)) then
  k0 (x5, x6, List.replicate (IntKind.i64.wrap (x5 * x6)).toNat (0 : Int), y6 ++ [(x1, x2)])
  else none
  else none)))))
  (both (bif decide ((0 : Int) ≤ IntKind.i64.wrap (x5 * x6) ∧ IntKind.i64.wrap (x5 * x6) = IntKind.i64.wrap (x5 * x6) ∧ (↑(1 : Nat) : Int) * IntKind.i64.wrap (x5 * x6) ≤ (281474976710656 : Int) ∧ IntKind.i64.wrap (x5 * x6) ≤ (281474976710656 : Int)) then
  (f120 (x0)
  (fun y9 =>
  bif decide ((y9.length + [(x1, x2)].length) * (16 : Nat) ≤ (140737488355328 : Nat) ∧ y9.length + [(x1, x2)].length ≤ (140737488355328 : Nat)) then
  k0 (x5, x6, List.replicate (IntKind.i64.wrap (x5 * x6)).toNat (0 : Int), y9 ++ [(x1, x2)])
  else none))
  else none)
  ((f120 (x0)
  (fun y8 =>
  both (bif decide ((0 : Int) ≤ IntKind.i64.wrap (x5 * x6) ∧ IntKind.i64.wrap (x5 * x6) = IntKind.i64.wrap (x5 * x6) ∧ (↑(1 : Nat) : Int) * IntKind.i64.wrap (x5 * x6) ≤ (281474976710656 : Int) ∧ IntKind.i64.wrap (x5 * x6) ≤ (281474976710656 : Int)) then
  bif decide ((y8.length + [(x1, x2)].length) * (16 : Nat) ≤ (140737488355328 : Nat) ∧ y8.length + [(x1, x2)].length ≤ (140737488355328 : Nat)) then
  k0 (x5, x6, List.replicate (IntKind.i64.wrap (x5 * x6)).toNat (0 : Int), y8 ++ [(x1, x2)])
  else none
  else none)
  (bif decide ((y8.length + [(x1, x2)].length) * (16 : Nat) ≤ (140737488355328 : Nat) ∧ y8.length + [(x1, x2)].length ≤ (140737488355328 : Nat)) then
  bif decide ((0 : Int) ≤ IntKind.i64.wrap (x5 * x6) ∧ IntKind.i64.wrap (x5 * x6) = IntKind.i64.wrap (x5 * x6) ∧ (↑(1 : Nat) : Int) * IntKind.i64.wrap (x5 * x6) ≤ (281474976710656 : Int) ∧ IntKind.i64.wrap (x5 * x6) ≤ (281474976710656 : Int)) then
  k0 (x5, x6, List.replicate (IntKind.i64.wrap (x5 * x6)).toNat (0 : Int), y8 ++ [(x1, x2)])
  else none
  else none))))))
noncomputable def F_generic_newPlane (fuel : Nat) (x0 x1 x2 : Int) (x3 : Bool) (x4 x5 x6 : Int) (k0 : (Int × Int × (List Int) × (List (Int × Int))) → Option Ans) : Option Ans := Fg_generic_newPlane fuel (F_generic_pixels fuel) x0 x1 x2 x3 x4 x5 x6 k0
abbrev YF121 : Type := (Int) → (Int) → (Int) → (Bool) → (Int) → (Int) → (Int) → ((Int × Int × (List Int) × (List (Int × Int))) → Option Ans) → Option Ans
theorem F121_eqg (fuel : Nat) (f120 : YF120) (x0 x1 x2 : Int) (x3 : Bool) (x4 x5 x6 : Int) (k : Ev.Cont) : evalFn tab (Gg121 f120) (J121 fuel) kp121 fuel Try.f121 [.agg [.int .i64 x0, .int .i64 x1, .int .i64 x2, .bool x3, .int .i64 x4], .c (.int .i64 x5), .c (.int .i64 x6)] [] k = Fg_generic_newPlane fuel f120 x0 x1 x2 x3 x4 x5 x6 (fun r => match r with | (r0, r1, r2, r3) => k (.c (.ptr 0 0), [.cells 174 [.int .i64 r0, .int .i64 r1, .own 1, .own 2], .vec 5 (.int .u8) r2 true, .vec 22 (.pair (.int .i64) (.int .i64)) r3 true])) := by
  kernel_rfl
theorem hG121 (fuel : Nat) : GOK Try.prog (G121 fuel) :=
  gok_cons ⟨ok120 fuel, enters_of Try.func120 (by kernel_rfl) rfl⟩ <|
  gok_nil
theorem fok121 (fuel : Nat) : FnOK Try.prog 121 (evalFn tab (G121 fuel) (J121 fuel) kp121 fuel Try.f121) :=
  fn_ok tab_ok (hG121 fuel) mixed Try.func121 (c := (Try.f121.body).getD .skip) rfl (fun q hq => by
    rw [(by kernel_rfl : obl (J121 fuel) ((Try.f121.body).getD .skip) = [])] at hq
    cases hq)
noncomputable def spg121 (F : YF121) : Ev.Spec := fun args objs k => match args, objs with
 | [.agg [.int .i64 x0, .int .i64 x1, .int .i64 x2, .bool x3, .int .i64 x4], .c (.int .i64 x5), .c (.int .i64 x6)], [] => bif true then F x0 x1 x2 x3 x4 x5 x6 (fun r => match r with | (r0, r1, r2, r3) => k (.c (.ptr 0 0), [.cells 174 [.int .i64 r0, .int .i64 r1, .own 1, .own 2], .vec 5 (.int .u8) r2 true, .vec 22 (.pair (.int .i64) (.int .i64)) r3 true])) else none
 | _, _ => none
noncomputable def spec121 (fuel : Nat) : Ev.Spec := spg121 (F_generic_newPlane fuel)
theorem ok121 (fuel : Nat) : FnOK Try.prog 121 (spec121 fuel) := by
  intro args objs kk r h
  unfold spec121 spg121 at h
  split at h
  · skip
    obtain ⟨hb, h⟩ := cond_some' h
    simp only [Bool.and_eq_true, Nat.beq_eq, decide_eq_true_eq] at hb
    clear hb
    exact fok121 fuel _ _ kk r ((F121_eqg fuel (F_generic_pixels fuel) _ _ _ _ _ _ _ kk).trans h)
  · cases h
end Go.Proofs.Ytipdidpalcmlhaa

set_option linter.unusedVariables false
set_option linter.unusedSimpArgs false
set_option maxRecDepth 100000
set_option maxHeartbeats 2000000
namespace Go.Proofs.Ytipdidpalcmlhaa
open Go Ev
def kp165_b72 (i : Nat) : Option (List Nat) := Ev.look i [(200003, [0])]
noncomputable def Gg165_b72 (f : Nat) : Option Ev.Spec := Ev.look f []
noncomputable def G165_b72 (fuel : Nat) : Nat → Option Ev.Spec := Gg165_b72
noncomputable def J165_b72 (fuel : Nat) (i : Nat) : Option Ev.Blk := Ev.look i []
noncomputable def F_generic_plane_at_b72 (fuel : Nat) (x0 x1 : Int) (x2 x3 : Int) (x4 : (List Int)) (x5 : (List (Int × Int))) (k0 : (Int × Int × Int × (List Int) × (List (Int × Int))) → Option Ans) : Option Ans :=
  bif decide (x0 < (0 : Int)) then
  k0 ((0 : Int), x2, x3, x4, x5)
  else
  bif decide (x1 < (0 : Int)) then
  k0 ((0 : Int), x2, x3, x4, x5)
  else
  bif decide (x0 ≥ x2) then
  k0 ((0 : Int), x2, x3, x4, x5)
  else
  bif decide (x1 ≥ x3) then
  k0 ((0 : Int), x2, x3, x4, x5)
  else
  bif decide ((0 : Int) ≤ IntKind.i64.wrap (IntKind.i64.wrap (x1 * x2) + x0) ∧ IntKind.i64.wrap (IntKind.i64.wrap (x1 * x2) + x0) < (↑x4.length : Int)) then
  k0 (x4.getD (IntKind.i64.wrap (IntKind.i64.wrap (x1 * x2) + x0)).toNat (0 : Int), x2, x3, x4, x5)
  else none
abbrev YF165_b72 : Type := (Int) → (Int) → (Int) → (Int) → ((List Int)) → ((List (Int × Int))) → ((Int × Int × Int × (List Int) × (List (Int × Int))) → Option Ans) → Option Ans
theorem F165_b72_eq (fuel : Nat) (x0 x1 : Int) (x2 x3 : Int) (x4 : (List Int)) (x5 : (List (Int × Int))) (k : Ev.Cont) : evalFn tab (G165_b72 fuel) (J165_b72 fuel) kp165_b72 fuel Try.f165 [.c (.ptr 0 0), .c (.int .i64 x0), .c (.int .i64 x1)] [.cells 174 [.int .i64 x2, .int .i64 x3, .own 1, .own 2], .vec 5 (.int .u8) x4 false, .vec 22 (.pair (.int .i64) (.int .i64)) x5 false] k = F_generic_plane_at_b72 fuel x0 x1 x2 x3 x4 x5 (fun r => match r with | (r0, r1, r2, r3, r4) => k (.c (.int .u8 r0), [.cells 174 [.int .i64 r1, .int .i64 r2, .own 1, .own 2], .vec 5 (.int .u8) r3 false, .vec 22 (.pair (.int .i64) (.int .i64)) r4 false])) := by
  kernel_rfl
theorem hG165_b72 (fuel : Nat) : GOK Try.prog (G165_b72 fuel) :=
  gok_nil
theorem fok165_b72 (fuel : Nat) : FnOK Try.prog 165 (evalFn tab (G165_b72 fuel) (J165_b72 fuel) kp165_b72 fuel Try.f165) :=
  fn_ok tab_ok (hG165_b72 fuel) mixed Try.func165 (c := (Try.f165.body).getD .skip) rfl (fun q hq => by
    rw [(by kernel_rfl : obl (J165_b72 fuel) ((Try.f165.body).getD .skip) = [])] at hq
    cases hq)
noncomputable def spg165_b72 (F : YF165_b72) : Ev.Spec := fun args objs k => match args, objs with
 | [.c (.ptr q0 q1), .c (.int .i64 x0), .c (.int .i64 x1)], [.cells q2 [.int .i64 x2, .int .i64 x3, .own q3, .own q4], .vec q5 (.int .u8) x4 false, .vec q6 (.pair (.int .i64) (.int .i64)) x5 false] => bif Nat.beq q0 0 && Nat.beq q1 0 && Nat.beq q2 174 && Nat.beq q3 1 && Nat.beq q4 2 && Nat.beq q5 5 && Nat.beq q6 22 then F x0 x1 x2 x3 x4 x5 (fun r => match r with | (r0, r1, r2, r3, r4) => k (.c (.int .u8 r0), [.cells 174 [.int .i64 r1, .int .i64 r2, .own 1, .own 2], .vec 5 (.int .u8) r3 false, .vec 22 (.pair (.int .i64) (.int .i64)) r4 false])) else none
 | _, _ => none
noncomputable def spec165_b72 (fuel : Nat) : Ev.Spec := spg165_b72 (F_generic_plane_at_b72 fuel)
theorem ok165_b72 (fuel : Nat) : FnOK Try.prog 165 (spec165_b72 fuel) := by
  intro args objs kk r h
  unfold spec165_b72 spg165_b72 at h
  split at h
  · skip
    obtain ⟨hb, h⟩ := cond_some' h
    simp only [Bool.and_eq_true, Nat.beq_eq, decide_eq_true_eq] at hb
    obtain ⟨⟨⟨⟨⟨⟨rfl, rfl⟩, rfl⟩, rfl⟩, rfl⟩, rfl⟩, rfl⟩ := hb
    exact fok165_b72 fuel _ _ kk r ((F165_b72_eq fuel _ _ _ _ _ _ kk).trans h)
  · cases h
end Go.Proofs.Ytipdidpalcmlhaa

set_option linter.unusedVariables false
set_option linter.unusedSimpArgs false
set_option maxRecDepth 100000
set_option maxHeartbeats 2000000
namespace Go.Proofs.Ytipdidpalcmlhaa
open Go Ev
def kp124 (i : Nat) : Option (List Nat) := Ev.look i []
noncomputable def Gg124 (f : Nat) : Option Ev.Spec := Ev.look f []
noncomputable def G124 (fuel : Nat) : Nat → Option Ev.Spec := Gg124
noncomputable def J124 (fuel : Nat) (i : Nat) : Option Ev.Blk := Ev.look i []
noncomputable def F_generic_skips (fuel : Nat) (x0 x1 : Int) (x2 : (List Int)) (x3 : Int) (k0 : (Bool) → Option Ans) : Option Ans :=
  bif decide ((↑x2.length : Int) > (0 : Int)) then
  bif decide ((0 : Int) ≤ x3 ∧ x3 < (↑x2.length : Int)) then
  k0 (x2.getD x3.toNat (0 : Int) == (1 : Int))
  else none
  else
  k0 false
abbrev YF124 : Type := (Int) → (Int) → ((List Int)) → (Int) → ((Bool) → Option Ans) → Option Ans
theorem F124_eq (fuel : Nat) (x0 x1 : Int) (x2 : (List Int)) (x3 : Int) (k : Ev.Cont) : evalFn tab (G124 fuel) (J124 fuel) kp124 fuel Try.f124 [.agg [.int .i64 x0, .int .i64 x1, .sl (.int .u8) x2], .c (.int .i64 x3)] [] k = F_generic_skips fuel x0 x1 x2 x3 (fun r => match r with | r0 => k (.c (.bool r0), [])) := by
  kernel_rfl
theorem hG124 (fuel : Nat) : GOK Try.prog (G124 fuel) :=
  gok_nil
theorem fok124 (fuel : Nat) : FnOK Try.prog 124 (evalFn tab (G124 fuel) (J124 fuel) kp124 fuel Try.f124) :=
  fn_ok tab_ok (hG124 fuel) mixed Try.func124 (c := (Try.f124.body).getD .skip) rfl (fun q hq => by
    rw [(by kernel_rfl : obl (J124 fuel) ((Try.f124.body).getD .skip) = [])] at hq
    cases hq)
noncomputable def spg124 (F : YF124) : Ev.Spec := fun args objs k => match args, objs with
 | [.agg [.int .i64 x0, .int .i64 x1, .sl (.int .u8) x2], .c (.int .i64 x3)], [] => bif true then F x0 x1 x2 x3 (fun r => match r with | r0 => k (.c (.bool r0), [])) else none
 | _, _ => none
noncomputable def spec124 (fuel : Nat) : Ev.Spec := spg124 (F_generic_skips fuel)
theorem ok124 (fuel : Nat) : FnOK Try.prog 124 (spec124 fuel) := by
  intro args objs kk r h
  unfold spec124 spg124 at h
  split at h
  · skip
    obtain ⟨hb, h⟩ := cond_some' h
    simp only [Bool.and_eq_true, Nat.beq_eq, decide_eq_true_eq] at hb
    clear hb
    exact fok124 fuel _ _ kk r ((F124_eq fuel _ _ _ _ kk).trans h)
  · cases h
end Go.Proofs.Ytipdidpalcmlhaa

set_option linter.unusedVariables false
set_option linter.unusedSimpArgs false
set_option maxRecDepth 100000
set_option maxHeartbeats 2000000
namespace Go.Proofs.Ytipdidpalcmlhaa
open Go Ev
def kp123_3e8 (i : Nat) : Option (List Nat) := Ev.look i [(3, [0, 1, 5, 7, 15, 16]), (100000, [7]), (200005, [0, 5]), (400000, [6])]
noncomputable def Gg123_3e8 (f124 : YF124) (f165_b72 : YF165_b72) (f : Nat) : Option Ev.Spec := Ev.look f [(124, spg124 f124), (165, spg165_b72 f165_b72)]
noncomputable def G123_3e8 (fuel : Nat) : Nat → Option Ev.Spec := Gg123_3e8 (F_generic_skips fuel) (F_generic_plane_at_b72 fuel)
noncomputable def Sg_generic_plane_above_3e8_0 (fuel : Nat) (f124 : YF124) (f165_b72 : YF165_b72) (x0 x1 : Int) (x2 x3 x4 : Int) (x5 : (List Int)) (x6 : (List (Int × Int))) (x7 x8 : Int) (x9 x10 : (List Int)) (c : (Int × Int × Int × Int × Int × (List Int) × (List (Int × Int)) × Int × Int × (List Int) × (List Int)) → Option Ans) (B : (Int × Int × (List Int) × (List (Int × Int)) × (List Int) → Option Ans)) : Option Ans := match B with
 | b =>
  bif decide (x2 < x1) then
  (f124 (x7) (x8) (x9) (IntKind.i64.wrap (IntKind.i64.wrap (x0 * x3) + x2))
  (fun y3 =>
  bif !y3 then
  (f165_b72 (x2) (IntKind.i64.wrap (x0 - (1 : Int))) (x3) (x4) (x5) (x6)
  (fun (y8_0, y8_1, y8_2, y8_3, y8_4) =>
  bif decide ((0 : Int) ≤ x2 ∧ x2 < (↑x10.length : Int)) then
  c (x0, x1, IntKind.i64.wrap (x2 + (1 : Int)), y8_1, y8_2, y8_3, y8_4, x7, x8, x9, x10.set x2.toNat y8_0)
  else none))
  else
  c (x0, x1, IntKind.i64.wrap (x2 + (1 : Int)), x3, x4, x5, x6, x7, x8, x9, x10)))
  else
  b (x3, x4, x5, x6, x10)
noncomputable def S_generic_plane_above_3e8_0 (fuel : Nat) (v : Int × Int × Int × Int × Int × (List Int) × (List (Int × Int)) × Int × Int × (List Int) × (List Int)) (c : (Int × Int × Int × Int × Int × (List Int) × (List (Int × Int)) × Int × Int × (List Int) × (List Int)) → Option Ans) (B : (Int × Int × (List Int) × (List (Int × Int)) × (List Int) → Option Ans)) : Option Ans := match v with
 | (x0, x1, x2, x3, x4, x5, x6, x7, x8, x9, x10) => Sg_generic_plane_above_3e8_0 fuel (F_generic_skips fuel) (F_generic_plane_at_b72 fuel) x0 x1 x2 x3 x4 x5 x6 x7 x8 x9 x10 c B
noncomputable def L_generic_plane_above_3e8_0 (fuel : Nat) (v : Int × Int × Int × Int × Int × (List Int) × (List (Int × Int)) × Int × Int × (List Int) × (List Int)) (b : (Int × Int × (List Int) × (List (Int × Int)) × (List Int) → Option Ans)) : Option Ans := iter (S_generic_plane_above_3e8_0 fuel) fuel v b
noncomputable def J123_3e8_0 (fuel : Nat) (i : Nat) : Option Ev.Blk := Ev.look i []
noncomputable def T123_3e8_0 (v : Int × Int × Int × Int × Int × (List Int) × (List (Int × Int)) × Int × Int × (List Int) × (List Int)) : Ev.St := match v with | (x0, x1, x2, x3, x4, x5, x6, x7, x8, x9, x10) => ⟨[(0, .c (.ptr 0 0)), (1, .c (.int .i64 x0)), (5, .c (.ptr 3 0)), (7, .c (.own 4)), (15, .c (.int .i64 x1)), (16, .c (.int .i64 x2))], [(0, .cells 174 [.int .i64 x3, .int .i64 x4, .own 1, .own 2]), (1, .vec 5 (.int .u8) x5 false), (2, .vec 22 (.pair (.int .i64) (.int .i64)) x6 false), (3, .cells 35 [.int .i64 x7, .int .i64 x8, .sl (.int .u8) x9]), (4, .vec 5 (.int .u8) x10 true)], 5, 3⟩
noncomputable def E123_3e8_0 (K : Ev.Ex → Ev.St → Option Ans) : (Int × Int × (List Int) × (List (Int × Int)) × (List Int) → Option Ans) := (fun v => match v with | (x0, x1, x2, x3, x4) => K .normal ⟨[(7, .c (.own 3))], [(0, .cells 174 [.int .i64 x0, .int .i64 x1, .own 1, .own 2]), (1, .vec 5 (.int .u8) x2 false), (2, .vec 22 (.pair (.int .i64) (.int .i64)) x3 false), (3, .vec 5 (.int .u8) x4 true)], 4, 3⟩)
theorem S123_3e8_0_okg (fuel : Nat) (f124 : YF124) (f165_b72 : YF165_b72) (R : Ev.St → Option Ans) (K : Ev.Ex → Ev.St → Option Ans) (x0 x1 : Int) (x2 x3 x4 : Int) (x5 : (List Int)) (x6 : (List (Int × Int))) (x7 x8 : Int) (x9 x10 : (List Int)) : evalCode tab (Gg123_3e8 f124 f165_b72) (J123_3e8_0 fuel) kp123_3e8 fuel (bodyOf 0 Try.f123) (T123_3e8_0 (x0, x1, x2, x3, x4, x5, x6, x7, x8, x9, x10)) (lc kp123_3e8 3 0 R K) = Sg_generic_plane_above_3e8_0 fuel f124 f165_b72 x0 x1 x2 x3 x4 x5 x6 x7 x8 x9 x10 (fun v => R (T123_3e8_0 v)) (E123_3e8_0 K) := by
  kernel_rfl
noncomputable def B123_3e8_0 (fuel : Nat) : Ev.Blk := fun st K => match canonO (kp123_3e8 3) st with
 | some s => (match s with
 | ⟨[(q0, .c (.ptr q1 q2)), (q3, .c (.int .i64 x0)), (q4, .c (.ptr q5 q6)), (q7, .c (.own q8)), (q9, .c (.int .i64 x1)), (q10, .c (.int .i64 x2))], [(q11, .cells q12 [.int .i64 x3, .int .i64 x4, .own q13, .own q14]), (q15, .vec q16 (.int .u8) x5 false), (q17, .vec q18 (.pair (.int .i64) (.int .i64)) x6 false), (q19, .cells q20 [.int .i64 x7, .int .i64 x8, .sl (.int .u8) x9]), (q21, .vec q22 (.int .u8) x10 true)], q23, q24⟩ => bif Nat.beq q0 0 && Nat.beq q1 0 && Nat.beq q2 0 && Nat.beq q3 1 && Nat.beq q4 5 && Nat.beq q5 3 && Nat.beq q6 0 && Nat.beq q7 7 && Nat.beq q8 4 && Nat.beq q9 15 && Nat.beq q10 16 && Nat.beq q11 0 && Nat.beq q12 174 && Nat.beq q13 1 && Nat.beq q14 2 && Nat.beq q15 1 && Nat.beq q16 5 && Nat.beq q17 2 && Nat.beq q18 22 && Nat.beq q19 3 && Nat.beq q20 35 && Nat.beq q21 4 && Nat.beq q22 5 && Nat.beq q23 5 && Nat.beq q24 3 then iter (S_generic_plane_above_3e8_0 fuel) fuel (x0, x1, x2, x3, x4, x5, x6, x7, x8, x9, x10) (E123_3e8_0 K) else none
 | _ => none)
 | none => none
theorem B123_3e8_0_ok (fuel : Nat) (st : Ev.St) (K : Ev.Ex → Ev.St → Option Ans) (r : Ans) (h : B123_3e8_0 fuel st K = some r) : evalCode tab (G123_3e8 fuel) (J123_3e8_0 fuel) kp123_3e8 fuel (.block 0 (.loop (bodyOf 0 Try.f123))) st K = some r := by
  unfold B123_3e8_0 at h
  split at h
  · rename_i s hs
    split at h
    · skip
      obtain ⟨hb, h⟩ := cond_some' h
      simp only [Bool.and_eq_true, Nat.beq_eq, decide_eq_true_eq] at hb
      obtain ⟨⟨⟨⟨⟨⟨⟨⟨⟨⟨⟨⟨⟨⟨⟨⟨⟨⟨⟨⟨⟨⟨⟨⟨rfl, rfl⟩, rfl⟩, rfl⟩, rfl⟩, rfl⟩, rfl⟩, rfl⟩, rfl⟩, rfl⟩, rfl⟩, rfl⟩, rfl⟩, rfl⟩, rfl⟩, rfl⟩, rfl⟩, rfl⟩, rfl⟩, rfl⟩, rfl⟩, rfl⟩, rfl⟩, rfl⟩, rfl⟩ := hb
      exact blk_loop (S := T123_3e8_0) (ks := E123_3e8_0) (step := S_generic_plane_above_3e8_0 fuel) (v := (_, _, _, _, _, _, _, _, _, _, _)) (by kernel_rfl) (by kernel_rfl) (fun R K v => by obtain ⟨x0, x1, x2, x3, x4, x5, x6, x7, x8, x9, x10⟩ := v; exact S123_3e8_0_okg fuel (F_generic_skips fuel) (F_generic_plane_at_b72 fuel) R K x0 x1 x2 x3 x4 x5 x6 x7 x8 x9 x10) hs h
    · cases h
  · cases h
noncomputable def J123_3e8 (fuel : Nat) (i : Nat) : Option Ev.Blk := Ev.look i [(100000, B123_3e8_0 fuel)]
noncomputable def Fg_generic_plane_above_3e8 (fuel : Nat) (f124 : YF124) (f165_b72 : YF165_b72) (x0 x1 x2 : Int) (x3 : (List Int)) (x4 x5 : Int) (x6 : (List Int)) (x7 : (List (Int × Int))) (k0 : (Int × Int × (List Int) × (List (Int × Int)) × (List Int)) → Option Ans) : Option Ans :=
  bif decide ((0 : Int) ≤ x4 ∧ x4 = x4 ∧ (↑(1 : Nat) : Int) * x4 ≤ (281474976710656 : Int) ∧ x4 ≤ (281474976710656 : Int)) then
  (L_generic_plane_above_3e8_0 fuel (x0, (↑(List.replicate x4.toNat (0 : Int)).length : Int), (0 : Int), x4, x5, x6, x7, x1, x2, x3, List.replicate x4.toNat (0 : Int))
  (fun (b0_0, b0_1, b0_2, b0_3, b0_4) =>
  k0 (b0_0, b0_1, b0_2, b0_3, b0_4)))
  else none
noncomputable def F_generic_plane_above_3e8 (fuel : Nat) (x0 x1 x2 : Int) (x3 : (List Int)) (x4 x5 : Int) (x6 : (List Int)) (x7 : (List (Int × Int))) (k0 : (Int × Int × (List Int) × (List (Int × Int)) × (List Int)) → Option Ans) : Option Ans := Fg_generic_plane_above_3e8 fuel (F_generic_skips fuel) (F_generic_plane_at_b72 fuel) x0 x1 x2 x3 x4 x5 x6 x7 k0
abbrev YF123_3e8 : Type := (Int) → (Int) → (Int) → ((List Int)) → (Int) → (Int) → ((List Int)) → ((List (Int × Int))) → ((Int × Int × (List Int) × (List (Int × Int)) × (List Int)) → Option Ans) → Option Ans
theorem F123_3e8_eqg (fuel : Nat) (f124 : YF124) (f165_b72 : YF165_b72) (x0 x1 x2 : Int) (x3 : (List Int)) (x4 x5 : Int) (x6 : (List Int)) (x7 : (List (Int × Int))) (k : Ev.Cont) : evalFn tab (Gg123_3e8 f124 f165_b72) (J123_3e8 fuel) kp123_3e8 fuel Try.f123 [.c (.ptr 0 0), .c (.int .i64 x0), .agg [.int .i64 x1, .int .i64 x2, .sl (.int .u8) x3]] [.cells 174 [.int .i64 x4, .int .i64 x5, .own 1, .own 2], .vec 5 (.int .u8) x6 false, .vec 22 (.pair (.int .i64) (.int .i64)) x7 false] k = Fg_generic_plane_above_3e8 fuel f124 f165_b72 x0 x1 x2 x3 x4 x5 x6 x7 (fun r => match r with | (r0, r1, r2, r3, r4) => k (.c (.own 3), [.cells 174 [.int .i64 r0, .int .i64 r1, .own 1, .own 2], .vec 5 (.int .u8) r2 false, .vec 22 (.pair (.int .i64) (.int .i64)) r3 false, .vec 5 (.int .u8) r4 true])) := by
  kernel_rfl
theorem hG123_3e8 (fuel : Nat) : GOK Try.prog (G123_3e8 fuel) :=
  gok_cons ⟨ok124 fuel, enters_of Try.func124 (by kernel_rfl) rfl⟩ <|
  gok_cons ⟨ok165_b72 fuel, enters_of Try.func165 (by kernel_rfl) rfl⟩ <|
  gok_nil
theorem B123_3e8_0_blk (fuel : Nat) : BlkOK Try.prog Try.f123.ntmps (.block 0 (.loop (bodyOf 0 Try.f123))) (B123_3e8_0 fuel) :=
  blk_of (blk_of_code tab_ok (hG123_3e8 fuel) mixed (J := J123_3e8_0 fuel) (kp := kp123_3e8) (fuel := fuel) (by kernel_rfl) (fun q hq => by
    rw [(by kernel_rfl : obl (J123_3e8_0 fuel) (.block 0 (.loop (bodyOf 0 Try.f123))) = [])] at hq
    cases hq)) (B123_3e8_0_ok fuel)
theorem fok123_3e8 (fuel : Nat) : FnOK Try.prog 123 (evalFn tab (G123_3e8 fuel) (J123_3e8 fuel) kp123_3e8 fuel Try.f123) :=
  fn_ok tab_ok (hG123_3e8 fuel) mixed Try.func123 (c := (Try.f123.body).getD .skip) rfl (fun q hq => by
    rw [(by kernel_rfl : obl (J123_3e8 fuel) ((Try.f123.body).getD .skip) = [(.block 0 (.loop (bodyOf 0 Try.f123)), B123_3e8_0 fuel)])] at hq
    simp only [List.mem_cons, List.not_mem_nil, or_false] at hq
    subst hq
    · exact B123_3e8_0_blk fuel)
noncomputable def spg123_3e8 (F : YF123_3e8) : Ev.Spec := fun args objs k => match args, objs with
 | [.c (.ptr q0 q1), .c (.int .i64 x0), .agg [.int .i64 x1, .int .i64 x2, .sl (.int .u8) x3]], [.cells q2 [.int .i64 x4, .int .i64 x5, .own q3, .own q4], .vec q5 (.int .u8) x6 false, .vec q6 (.pair (.int .i64) (.int .i64)) x7 false] => bif Nat.beq q0 0 && Nat.beq q1 0 && Nat.beq q2 174 && Nat.beq q3 1 && Nat.beq q4 2 && Nat.beq q5 5 && Nat.beq q6 22 then F x0 x1 x2 x3 x4 x5 x6 x7 (fun r => match r with | (r0, r1, r2, r3, r4) => k (.c (.own 3), [.cells 174 [.int .i64 r0, .int .i64 r1, .own 1, .own 2], .vec 5 (.int .u8) r2 false, .vec 22 (.pair (.int .i64) (.int .i64)) r3 false, .vec 5 (.int .u8) r4 true])) else none
 | _, _ => none
noncomputable def spec123_3e8 (fuel : Nat) : Ev.Spec := spg123_3e8 (F_generic_plane_above_3e8 fuel)
theorem ok123_3e8 (fuel : Nat) : FnOK Try.prog 123 (spec123_3e8 fuel) := by
  intro args objs kk r h
  unfold spec123_3e8 spg123_3e8 at h
  split at h
  · skip
    obtain ⟨hb, h⟩ := cond_some' h
    simp only [Bool.and_eq_true, Nat.beq_eq, decide_eq_true_eq] at hb
    obtain ⟨⟨⟨⟨⟨⟨rfl, rfl⟩, rfl⟩, rfl⟩, rfl⟩, rfl⟩, rfl⟩ := hb
    exact fok123_3e8 fuel _ _ kk r ((F123_3e8_eqg fuel (F_generic_skips fuel) (F_generic_plane_at_b72 fuel) _ _ _ _ _ _ _ _ kk).trans h)
  · cases h
end Go.Proofs.Ytipdidpalcmlhaa

set_option linter.unusedVariables false
set_option linter.unusedSimpArgs false
set_option maxRecDepth 100000
set_option maxHeartbeats 2000000
namespace Go.Proofs.Ytipdidpalcmlhaa
open Go Ev
def kp125_b72 (i : Nat) : Option (List Nat) := Ev.look i [(3, [0, 1, 2, 7, 13, 14, 15]), (100000, [7]), (400000, [6])]
noncomputable def Gg125_b72 (f165_b72 : YF165_b72) (f : Nat) : Option Ev.Spec := Ev.look f [(165, spg165_b72 f165_b72)]
noncomputable def G125_b72 (fuel : Nat) : Nat → Option Ev.Spec := Gg125_b72 (F_generic_plane_at_b72 fuel)
noncomputable def Sg_generic_plane_context_b72_0 (fuel : Nat) (f165_b72 : YF165_b72) (x0 x1 : Int) (x2 x3 : Int) (x4 x5 x6 : Int) (x7 : (List Int)) (x8 : (List (Int × Int))) (c : (Int × Int × Int × Int × Int × Int × Int × (List Int) × (List (Int × Int))) → Option Ans) (B : (Int × Int × Int × (List Int) × (List (Int × Int)) → Option Ans)) : Option Ans := match B with
 | b =>
  bif decide (x4 < x3) then
  bif decide ((0 : Int) ≤ x4 ∧ x4 < (↑x8.length : Int)) then
  (f165_b72 (IntKind.i64.wrap (x0 + (x8.getD x4.toNat ((0 : Int), (0 : Int))).fst)) (IntKind.i64.wrap (x1 + (x8.getD x4.toNat ((0 : Int), (0 : Int))).snd)) (x5) (x6) (x7) (x8)
  (fun (y4_0, y4_1, y4_2, y4_3, y4_4) =>
  c (x0, x1, IntKind.i64.wrap (IntKind.i64.wrap ((2 : Int) * x2) + IntKind.i64.wrap y4_0), x3, IntKind.i64.wrap (x4 + (1 : Int)), y4_1, y4_2, y4_3, y4_4)))
  else none
  else
  b (x2, x5, x6, x7, x8)
noncomputable def S_generic_plane_context_b72_0 (fuel : Nat) (v : Int × Int × Int × Int × Int × Int × Int × (List Int) × (List (Int × Int))) (c : (Int × Int × Int × Int × Int × Int × Int × (List Int) × (List (Int × Int))) → Option Ans) (B : (Int × Int × Int × (List Int) × (List (Int × Int)) → Option Ans)) : Option Ans := match v with
 | (x0, x1, x2, x3, x4, x5, x6, x7, x8) => Sg_generic_plane_context_b72_0 fuel (F_generic_plane_at_b72 fuel) x0 x1 x2 x3 x4 x5 x6 x7 x8 c B
noncomputable def L_generic_plane_context_b72_0 (fuel : Nat) (v : Int × Int × Int × Int × Int × Int × Int × (List Int) × (List (Int × Int))) (b : (Int × Int × Int × (List Int) × (List (Int × Int)) → Option Ans)) : Option Ans := iter (S_generic_plane_context_b72_0 fuel) fuel v b
noncomputable def J125_b72_0 (fuel : Nat) (i : Nat) : Option Ev.Blk := Ev.look i []
noncomputable def T125_b72_0 (v : Int × Int × Int × Int × Int × Int × Int × (List Int) × (List (Int × Int))) : Ev.St := match v with | (x0, x1, x2, x3, x4, x5, x6, x7, x8) => ⟨[(0, .c (.ptr 0 0)), (1, .c (.int .i64 x0)), (2, .c (.int .i64 x1)), (7, .c (.int .i64 x2)), (13, .c (.own 2)), (14, .c (.int .i64 x3)), (15, .c (.int .i64 x4))], [(0, .cells 174 [.int .i64 x5, .int .i64 x6, .own 1, .own 2]), (1, .vec 5 (.int .u8) x7 false), (2, .vec 22 (.pair (.int .i64) (.int .i64)) x8 false)], 3, 3⟩
noncomputable def E125_b72_0 (K : Ev.Ex → Ev.St → Option Ans) : (Int × Int × Int × (List Int) × (List (Int × Int)) → Option Ans) := (fun v => match v with | (x0, x1, x2, x3, x4) => K .normal ⟨[(7, .c (.int .i64 x0))], [(0, .cells 174 [.int .i64 x1, .int .i64 x2, .own 1, .own 2]), (1, .vec 5 (.int .u8) x3 false), (2, .vec 22 (.pair (.int .i64) (.int .i64)) x4 false)], 3, 3⟩)
theorem S125_b72_0_okg (fuel : Nat) (f165_b72 : YF165_b72) (R : Ev.St → Option Ans) (K : Ev.Ex → Ev.St → Option Ans) (x0 x1 : Int) (x2 x3 : Int) (x4 x5 x6 : Int) (x7 : (List Int)) (x8 : (List (Int × Int))) : evalCode tab (Gg125_b72 f165_b72) (J125_b72_0 fuel) kp125_b72 fuel (bodyOf 0 Try.f125) (T125_b72_0 (x0, x1, x2, x3, x4, x5, x6, x7, x8)) (lc kp125_b72 3 0 R K) = Sg_generic_plane_context_b72_0 fuel f165_b72 x0 x1 x2 x3 x4 x5 x6 x7 x8 (fun v => R (T125_b72_0 v)) (E125_b72_0 K) := by
  kernel_rfl
noncomputable def B125_b72_0 (fuel : Nat) : Ev.Blk := fun st K => match canonO (kp125_b72 3) st with
 | some s => (match s with
 | ⟨[(q0, .c (.ptr q1 q2)), (q3, .c (.int .i64 x0)), (q4, .c (.int .i64 x1)), (q5, .c (.int .i64 x2)), (q6, .c (.own q7)), (q8, .c (.int .i64 x3)), (q9, .c (.int .i64 x4))], [(q10, .cells q11 [.int .i64 x5, .int .i64 x6, .own q12, .own q13]), (q14, .vec q15 (.int .u8) x7 false), (q16, .vec q17 (.pair (.int .i64) (.int .i64)) x8 false)], q18, q19⟩ => bif Nat.beq q0 0 && Nat.beq q1 0 && Nat.beq q2 0 && Nat.beq q3 1 && Nat.beq q4 2 && Nat.beq q5 7 && Nat.beq q6 13 && Nat.beq q7 2 && Nat.beq q8 14 && Nat.beq q9 15 && Nat.beq q10 0 && Nat.beq q11 174 && Nat.beq q12 1 && Nat.beq q13 2 && Nat.beq q14 1 && Nat.beq q15 5 && Nat.beq q16 2 && Nat.beq q17 22 && Nat.beq q18 3 && Nat.beq q19 3 then iter (S_generic_plane_context_b72_0 fuel) fuel (x0, x1, x2, x3, x4, x5, x6, x7, x8) (E125_b72_0 K) else none
 | _ => none)
 | none => none
theorem B125_b72_0_ok (fuel : Nat) (st : Ev.St) (K : Ev.Ex → Ev.St → Option Ans) (r : Ans) (h : B125_b72_0 fuel st K = some r) : evalCode tab (G125_b72 fuel) (J125_b72_0 fuel) kp125_b72 fuel (.block 0 (.loop (bodyOf 0 Try.f125))) st K = some r := by
  unfold B125_b72_0 at h
  split at h
  · rename_i s hs
    split at h
    · skip
      obtain ⟨hb, h⟩ := cond_some' h
      simp only [Bool.and_eq_true, Nat.beq_eq, decide_eq_true_eq] at hb
      obtain ⟨⟨⟨⟨⟨⟨⟨⟨⟨⟨⟨⟨⟨⟨⟨⟨⟨⟨⟨rfl, rfl⟩, rfl⟩, rfl⟩, rfl⟩, rfl⟩, rfl⟩, rfl⟩, rfl⟩, rfl⟩, rfl⟩, rfl⟩, rfl⟩, rfl⟩, rfl⟩, rfl⟩, rfl⟩, rfl⟩, rfl⟩, rfl⟩ := hb
      exact blk_loop (S := T125_b72_0) (ks := E125_b72_0) (step := S_generic_plane_context_b72_0 fuel) (v := (_, _, _, _, _, _, _, _, _)) (by kernel_rfl) (by kernel_rfl) (fun R K v => by obtain ⟨x0, x1, x2, x3, x4, x5, x6, x7, x8⟩ := v; exact S125_b72_0_okg fuel (F_generic_plane_at_b72 fuel) R K x0 x1 x2 x3 x4 x5 x6 x7 x8) hs h
    · cases h
  · cases h
noncomputable def J125_b72 (fuel : Nat) (i : Nat) : Option Ev.Blk := Ev.look i [(100000, B125_b72_0 fuel)]
noncomputable def Fg_generic_plane_context_b72 (fuel : Nat) (f165_b72 : YF165_b72) (x0 x1 : Int) (x2 x3 : Int) (x4 : (List Int)) (x5 : (List (Int × Int))) (k0 : (Int × Int × Int × (List Int) × (List (Int × Int))) → Option Ans) : Option Ans :=
  (L_generic_plane_context_b72_0 fuel (x0, x1, (0 : Int), (↑x5.length : Int), (0 : Int), x2, x3, x4, x5)
  (fun (b0_0, b0_1, b0_2, b0_3, b0_4) =>
  k0 (b0_0, b0_1, b0_2, b0_3, b0_4)))
noncomputable def F_generic_plane_context_b72 (fuel : Nat) (x0 x1 : Int) (x2 x3 : Int) (x4 : (List Int)) (x5 : (List (Int × Int))) (k0 : (Int × Int × Int × (List Int) × (List (Int × Int))) → Option Ans) : Option Ans := Fg_generic_plane_context_b72 fuel (F_generic_plane_at_b72 fuel) x0 x1 x2 x3 x4 x5 k0
abbrev YF125_b72 : Type := (Int) → (Int) → (Int) → (Int) → ((List Int)) → ((List (Int × Int))) → ((Int × Int × Int × (List Int) × (List (Int × Int))) → Option Ans) → Option Ans
theorem F125_b72_eqg (fuel : Nat) (f165_b72 : YF165_b72) (x0 x1 : Int) (x2 x3 : Int) (x4 : (List Int)) (x5 : (List (Int × Int))) (k : Ev.Cont) : evalFn tab (Gg125_b72 f165_b72) (J125_b72 fuel) kp125_b72 fuel Try.f125 [.c (.ptr 0 0), .c (.int .i64 x0), .c (.int .i64 x1)] [.cells 174 [.int .i64 x2, .int .i64 x3, .own 1, .own 2], .vec 5 (.int .u8) x4 false, .vec 22 (.pair (.int .i64) (.int .i64)) x5 false] k = Fg_generic_plane_context_b72 fuel f165_b72 x0 x1 x2 x3 x4 x5 (fun r => match r with | (r0, r1, r2, r3, r4) => k (.c (.int .i64 r0), [.cells 174 [.int .i64 r1, .int .i64 r2, .own 1, .own 2], .vec 5 (.int .u8) r3 false, .vec 22 (.pair (.int .i64) (.int .i64)) r4 false])) := by
  kernel_rfl
theorem hG125_b72 (fuel : Nat) : GOK Try.prog (G125_b72 fuel) :=
  gok_cons ⟨ok165_b72 fuel, enters_of Try.func165 (by kernel_rfl) rfl⟩ <|
  gok_nil
theorem B125_b72_0_blk (fuel : Nat) : BlkOK Try.prog Try.f125.ntmps (.block 0 (.loop (bodyOf 0 Try.f125))) (B125_b72_0 fuel) :=
  blk_of (blk_of_code tab_ok (hG125_b72 fuel) mixed (J := J125_b72_0 fuel) (kp := kp125_b72) (fuel := fuel) (by kernel_rfl) (fun q hq => by
    rw [(by kernel_rfl : obl (J125_b72_0 fuel) (.block 0 (.loop (bodyOf 0 Try.f125))) = [])] at hq
    cases hq)) (B125_b72_0_ok fuel)
theorem fok125_b72 (fuel : Nat) : FnOK Try.prog 125 (evalFn tab (G125_b72 fuel) (J125_b72 fuel) kp125_b72 fuel Try.f125) :=
  fn_ok tab_ok (hG125_b72 fuel) mixed Try.func125 (c := (Try.f125.body).getD .skip) rfl (fun q hq => by
    rw [(by kernel_rfl : obl (J125_b72 fuel) ((Try.f125.body).getD .skip) = [(.block 0 (.loop (bodyOf 0 Try.f125)), B125_b72_0 fuel)])] at hq
    simp only [List.mem_cons, List.not_mem_nil, or_false] at hq
    subst hq
    · exact B125_b72_0_blk fuel)
noncomputable def spg125_b72 (F : YF125_b72) : Ev.Spec := fun args objs k => match args, objs with
 | [.c (.ptr q0 q1), .c (.int .i64 x0), .c (.int .i64 x1)], [.cells q2 [.int .i64 x2, .int .i64 x3, .own q3, .own q4], .vec q5 (.int .u8) x4 false, .vec q6 (.pair (.int .i64) (.int .i64)) x5 false] => bif Nat.beq q0 0 && Nat.beq q1 0 && Nat.beq q2 174 && Nat.beq q3 1 && Nat.beq q4 2 && Nat.beq q5 5 && Nat.beq q6 22 then F x0 x1 x2 x3 x4 x5 (fun r => match r with | (r0, r1, r2, r3, r4) => k (.c (.int .i64 r0), [.cells 174 [.int .i64 r1, .int .i64 r2, .own 1, .own 2], .vec 5 (.int .u8) r3 false, .vec 22 (.pair (.int .i64) (.int .i64)) r4 false])) else none
 | _, _ => none
noncomputable def spec125_b72 (fuel : Nat) : Ev.Spec := spg125_b72 (F_generic_plane_context_b72 fuel)
theorem ok125_b72 (fuel : Nat) : FnOK Try.prog 125 (spec125_b72 fuel) := by
  intro args objs kk r h
  unfold spec125_b72 spg125_b72 at h
  split at h
  · skip
    obtain ⟨hb, h⟩ := cond_some' h
    simp only [Bool.and_eq_true, Nat.beq_eq, decide_eq_true_eq] at hb
    obtain ⟨⟨⟨⟨⟨⟨rfl, rfl⟩, rfl⟩, rfl⟩, rfl⟩, rfl⟩, rfl⟩ := hb
    exact fok125_b72 fuel _ _ kk r ((F125_b72_eqg fuel (F_generic_plane_at_b72 fuel) _ _ _ _ _ _ kk).trans h)
  · cases h
end Go.Proofs.Ytipdidpalcmlhaa

set_option linter.unusedVariables false
set_option linter.unusedSimpArgs false
set_option maxRecDepth 100000
set_option maxHeartbeats 2000000
namespace Go.Proofs.Ytipdidpalcmlhaa
open Go Ev
def kp140_894 (i : Nat) : Option (List Nat) := Ev.look i [(9, [0, 1, 2, 4, 11, 53, 54]), (100000, []), (200006, [11]), (200011, [0, 11]), (200015, [0]), (400000, [12])]
noncomputable def Gg140_894 (f71 : YF71) (f123_3e8 : YF123_3e8) (f124 : YF124) (f125_b72 : YF125_b72) (f136_aa3 : YF136_aa3) (f : Nat) : Option Ev.Spec := Ev.look f [(71, spg71 f71), (123, spg123_3e8 f123_3e8), (124, spg124 f124), (125, spg125_b72 f125_b72), (136, spg136_aa3 f136_aa3)]
noncomputable def G140_894 (fuel : Nat) : Nat → Option Ev.Spec := Gg140_894 (F_generic_contexts fuel) (F_generic_plane_above_3e8 fuel) (F_generic_skips fuel) (F_generic_plane_context_b72 fuel) (F_coder_Decoder_Get_aa3 fuel)
noncomputable def Sg_generic_plane_row_894_0 (fuel : Nat) (f71 : YF71) (f123_3e8 : YF123_3e8) (f124 : YF124) (f125_b72 : YF125_b72) (f136_aa3 : YF136_aa3) (x0 x1 : Int) (x2 x3 : Int) (x4 x5 : Int) (x6 x7 : Int) (x8 x9 : Int) (x10 x11 : Int) (x12 x13 : Bool) (x14 : (List Int)) (x15 : (List (Int × Int))) (x16 x17 : (List Int)) (x18 x19 : Int) (x20 : (List Int)) (c : (Int × Int × Int × Int × Int × Int × Int × Int × Int × Int × Int × Int × Bool × Bool × (List Int) × (List (Int × Int)) × (List Int) × (List Int) × Int × Int × (List Int)) → Option Ans) (B : (Int × Int × Int × Int × Int × Int × Int × Int × Int × Bool × Bool × (List Int) × (List (Int × Int)) × (List Int) × (List Int) → Option Ans) × (Int × Int × Int × Int × Int × Int × Int × Int × Bool × Bool × (List Int) × (List (Int × Int)) × (List Int) × (List Int) → Option Ans)) : Option Ans := match B with
 | (ret, b) =>
  bif decide (x3 < x2) then
  (f124 (x18) (x19) (x20) (IntKind.i64.wrap (IntKind.i64.wrap (x1 * x4) + x3))
  (fun y3 =>
  bif y3 then
  c (x0, x1, x2, IntKind.i64.wrap (x3 + (1 : Int)), x4, x5, x6, x7, x8, x9, x10, x11, x12, x13, x14, x15, x16, x17, x18, x19, x20)
  else
  (f125_b72 (x3) (x1) (x4) (x5) (x14) (x15)
  (fun (y8_0, y8_1, y8_2, y8_3, y8_4) =>
  (f136_aa3 (IntKind.i64.wrap (x0 + y8_0)) (x6) (x7) (x8) (x9) (x10) (x11) (x12) (x13) (x16) (x17)
  (fun (y12_0, y12_1, y12_2, y12_3, y12_4, y12_5, y12_6, y12_7, y12_8, y12_9, y12_10, y12_11) =>
  bif y12_1 != (0 : Int) then
  ret (y12_1, y8_1, y8_2, y12_2, y12_3, y12_4, y12_5, y12_6, y12_7, y12_8, y12_9, y8_3, y8_4, y12_10, y12_11)
  else
  bif decide ((0 : Int) ≤ IntKind.i64.wrap (IntKind.i64.wrap (x1 * y8_1) + x3) ∧ IntKind.i64.wrap (IntKind.i64.wrap (x1 * y8_1) + x3) < (↑y8_3.length : Int)) then
  c (x0, x1, x2, IntKind.i64.wrap (x3 + (1 : Int)), y8_1, y8_2, y12_2, y12_3, y12_4, y12_5, y12_6, y12_7, y12_8, y12_9, y8_3.set (IntKind.i64.wrap (IntKind.i64.wrap (x1 * y8_1) + x3)).toNat (IntKind.u8.wrap y12_0), y8_4, y12_10, y12_11, x18, x19, x20)
  else none))))))
  else
  b (x4, x5, x6, x7, x8, x9, x10, x11, x12, x13, x14, x15, x16, x17)
noncomputable def S_generic_plane_row_894_0 (fuel : Nat) (v : Int × Int × Int × Int × Int × Int × Int × Int × Int × Int × Int × Int × Bool × Bool × (List Int) × (List (Int × Int)) × (List Int) × (List Int) × Int × Int × (List Int)) (c : (Int × Int × Int × Int × Int × Int × Int × Int × Int × Int × Int × Int × Bool × Bool × (List Int) × (List (Int × Int)) × (List Int) × (List Int) × Int × Int × (List Int)) → Option Ans) (B : (Int × Int × Int × Int × Int × Int × Int × Int × Int × Bool × Bool × (List Int) × (List (Int × Int)) × (List Int) × (List Int) → Option Ans) × (Int × Int × Int × Int × Int × Int × Int × Int × Bool × Bool × (List Int) × (List (Int × Int)) × (List Int) × (List Int) → Option Ans)) : Option Ans := match v with
 | (x0, x1, x2, x3, x4, x5, x6, x7, x8, x9, x10, x11, x12, x13, x14, x15, x16, x17, x18, x19, x20) => Sg_generic_plane_row_894_0 fuel (F_generic_contexts fuel) (F_generic_plane_above_3e8 fuel) (F_generic_skips fuel) (F_generic_plane_context_b72 fuel) (F_coder_Decoder_Get_aa3 fuel) x0 x1 x2 x3 x4 x5 x6 x7 x8 x9 x10 x11 x12 x13 x14 x15 x16 x17 x18 x19 x20 c B
noncomputable def L_generic_plane_row_894_0 (fuel : Nat) (v : Int × Int × Int × Int × Int × Int × Int × Int × Int × Int × Int × Int × Bool × Bool × (List Int) × (List (Int × Int)) × (List Int) × (List Int) × Int × Int × (List Int)) (ret : (Int × Int × Int × Int × Int × Int × Int × Int × Int × Bool × Bool × (List Int) × (List (Int × Int)) × (List Int) × (List Int) → Option Ans)) (b : (Int × Int × Int × Int × Int × Int × Int × Int × Bool × Bool × (List Int) × (List (Int × Int)) × (List Int) × (List Int) → Option Ans)) : Option Ans := iter (S_generic_plane_row_894_0 fuel) fuel v (ret, b)
noncomputable def J140_894_0 (fuel : Nat) (i : Nat) : Option Ev.Blk := Ev.look i []
noncomputable def T140_894_0 (v : Int × Int × Int × Int × Int × Int × Int × Int × Int × Int × Int × Int × Bool × Bool × (List Int) × (List (Int × Int)) × (List Int) × (List Int) × Int × Int × (List Int)) : Ev.St := match v with | (x0, x1, x2, x3, x4, x5, x6, x7, x8, x9, x10, x11, x12, x13, x14, x15, x16, x17, x18, x19, x20) => ⟨[(0, .c (.ptr 0 0)), (1, .c (.ptr 1 0)), (2, .c (.int .i64 x0)), (4, .c (.int .i64 x1)), (11, .c (.ptr 6 0)), (53, .c (.int .i64 x2)), (54, .c (.int .i64 x3))], [(0, .cells 174 [.int .i64 x4, .int .i64 x5, .own 2, .own 3]), (1, .cells 163 (.int .i64 x6 :: .own 4 :: ctb (.int .u64 x7 :: .int .u64 x8 :: .own 5 :: .int .i64 x9 :: .int .u64 x10 :: .int .i64 x11 :: .bool x12 :: .bool x13 :: []))), (2, .vec 5 (.int .u8) x14 false), (3, .vec 22 (.pair (.int .i64) (.int .i64)) x15 false), (4, .vec 3 (.int .i64) x16 false), (5, .vec 5 (.int .u8) x17 false), (6, .cells 35 [.int .i64 x18, .int .i64 x19, .sl (.int .u8) x20])], 7, 6⟩
noncomputable def E140_894_0 (K : Ev.Ex → Ev.St → Option Ans) : (Int × Int × Int × Int × Int × Int × Int × Int × Int × Bool × Bool × (List Int) × (List (Int × Int)) × (List Int) × (List Int) → Option Ans) × (Int × Int × Int × Int × Int × Int × Int × Int × Bool × Bool × (List Int) × (List (Int × Int)) × (List Int) × (List Int) → Option Ans) := ((fun v => match v with | (x0, x1, x2, x3, x4, x5, x6, x7, x8, x9, x10, x11, x12, x13, x14) => K .ret ⟨[(12, .c (.int .i64 x0))], [(0, .cells 174 [.int .i64 x1, .int .i64 x2, .own 2, .own 3]), (1, .cells 163 (.int .i64 x3 :: .own 4 :: ctb (.int .u64 x4 :: .int .u64 x5 :: .own 5 :: .int .i64 x6 :: .int .u64 x7 :: .int .i64 x8 :: .bool x9 :: .bool x10 :: []))), (2, .vec 5 (.int .u8) x11 false), (3, .vec 22 (.pair (.int .i64) (.int .i64)) x12 false), (4, .vec 3 (.int .i64) x13 false), (5, .vec 5 (.int .u8) x14 false)], 6, 6⟩), (fun v => match v with | (x0, x1, x2, x3, x4, x5, x6, x7, x8, x9, x10, x11, x12, x13) => K .normal ⟨[], [(0, .cells 174 [.int .i64 x0, .int .i64 x1, .own 2, .own 3]), (1, .cells 163 (.int .i64 x2 :: .own 4 :: ctb (.int .u64 x3 :: .int .u64 x4 :: .own 5 :: .int .i64 x5 :: .int .u64 x6 :: .int .i64 x7 :: .bool x8 :: .bool x9 :: []))), (2, .vec 5 (.int .u8) x10 false), (3, .vec 22 (.pair (.int .i64) (.int .i64)) x11 false), (4, .vec 3 (.int .i64) x12 false), (5, .vec 5 (.int .u8) x13 false)], 6, 6⟩))
theorem S140_894_0_okg (fuel : Nat) (f71 : YF71) (f123_3e8 : YF123_3e8) (f124 : YF124) (f125_b72 : YF125_b72) (f136_aa3 : YF136_aa3) (R : Ev.St → Option Ans) (K : Ev.Ex → Ev.St → Option Ans) (x0 x1 : Int) (x2 x3 : Int) (x4 x5 : Int) (x6 x7 : Int) (x8 x9 : Int) (x10 x11 : Int) (x12 x13 : Bool) (x14 : (List Int)) (x15 : (List (Int × Int))) (x16 x17 : (List Int)) (x18 x19 : Int) (x20 : (List Int)) : evalCode tab (Gg140_894 f71 f123_3e8 f124 f125_b72 f136_aa3) (J140_894_0 fuel) kp140_894 fuel (bodyOf 0 Try.f140) (T140_894_0 (x0, x1, x2, x3, x4, x5, x6, x7, x8, x9, x10, x11, x12, x13, x14, x15, x16, x17, x18, x19, x20)) (lc kp140_894 9 0 R K) = Sg_generic_plane_row_894_0 fuel f71 f123_3e8 f124 f125_b72 f136_aa3 x0 x1 x2 x3 x4 x5 x6 x7 x8 x9 x10 x11 x12 x13 x14 x15 x16 x17 x18 x19 x20 (fun v => R (T140_894_0 v)) (E140_894_0 K) := by
  kernel_rfl
noncomputable def B140_894_0 (fuel : Nat) : Ev.Blk := fun st K => match canonO (kp140_894 9) st with
 | some s => (match s with
 | ⟨[(q0, .c (.ptr q1 q2)), (q3, .c (.ptr q4 q5)), (q6, .c (.int .i64 x0)), (q7, .c (.int .i64 x1)), (q8, .c (.ptr q9 q10)), (q11, .c (.int .i64 x2)), (q12, .c (.int .i64 x3))], [(q13, .cells q14 [.int .i64 x4, .int .i64 x5, .own q15, .own q16]), (q17, .cells q18 cs0), (q19, .vec q20 (.int .u8) x14 false), (q21, .vec q22 (.pair (.int .i64) (.int .i64)) x15 false), (q23, .vec q24 (.int .i64) x16 false), (q25, .vec q26 (.int .u8) x17 false), (q27, .cells q28 [.int .i64 x18, .int .i64 x19, .sl (.int .u8) x20])], q29, q30⟩ => (match splitRun 2 ctn cs0 with | some ([.int .i64 x6, .own q31], [.int .u64 x7, .int .u64 x8, .own q32, .int .i64 x9, .int .u64 x10, .int .i64 x11, .bool x12, .bool x13]) => bif Nat.beq q0 0 && Nat.beq q1 0 && Nat.beq q2 0 && Nat.beq q3 1 && Nat.beq q4 1 && Nat.beq q5 0 && Nat.beq q6 2 && Nat.beq q7 4 && Nat.beq q8 11 && Nat.beq q9 6 && Nat.beq q10 0 && Nat.beq q11 53 && Nat.beq q12 54 && Nat.beq q13 0 && Nat.beq q14 174 && Nat.beq q15 2 && Nat.beq q16 3 && Nat.beq q17 1 && Nat.beq q18 163 && Nat.beq q19 2 && Nat.beq q20 5 && Nat.beq q21 3 && Nat.beq q22 22 && Nat.beq q23 4 && Nat.beq q24 3 && Nat.beq q25 5 && Nat.beq q26 5 && Nat.beq q27 6 && Nat.beq q28 35 && Nat.beq q29 7 && Nat.beq q30 6 && Nat.beq q31 4 && Nat.beq q32 5 then iter (S_generic_plane_row_894_0 fuel) fuel (x0, x1, x2, x3, x4, x5, x6, x7, x8, x9, x10, x11, x12, x13, x14, x15, x16, x17, x18, x19, x20) (E140_894_0 K) else none | _ => none)
 | _ => none)
 | none => none
theorem B140_894_0_ok (fuel : Nat) (st : Ev.St) (K : Ev.Ex → Ev.St → Option Ans) (r : Ans) (h : B140_894_0 fuel st K = some r) : evalCode tab (G140_894 fuel) (J140_894_0 fuel) kp140_894 fuel (.block 0 (.loop (bodyOf 0 Try.f140))) st K = some r := by
  unfold B140_894_0 at h
  split at h
  · rename_i s hs
    split at h
    · skip
      split at h
      rotate_left 1
      · cases h
      rename_i hsp
      have esp := splitRun_eq hsp
      subst esp
      obtain ⟨hb, h⟩ := cond_some' h
      simp only [Bool.and_eq_true, Nat.beq_eq, decide_eq_true_eq] at hb
      obtain ⟨⟨⟨⟨⟨⟨⟨⟨⟨⟨⟨⟨⟨⟨⟨⟨⟨⟨⟨⟨⟨⟨⟨⟨⟨⟨⟨⟨⟨⟨⟨⟨rfl, rfl⟩, rfl⟩, rfl⟩, rfl⟩, rfl⟩, rfl⟩, rfl⟩, rfl⟩, rfl⟩, rfl⟩, rfl⟩, rfl⟩, rfl⟩, rfl⟩, rfl⟩, rfl⟩, rfl⟩, rfl⟩, rfl⟩, rfl⟩, rfl⟩, rfl⟩, rfl⟩, rfl⟩, rfl⟩, rfl⟩, rfl⟩, rfl⟩, rfl⟩, rfl⟩, rfl⟩, rfl⟩ := hb
      exact blk_loop (S := T140_894_0) (ks := E140_894_0) (step := S_generic_plane_row_894_0 fuel) (v := (_, _, _, _, _, _, _, _, _, _, _, _, _, _, _, _, _, _, _, _, _)) (by kernel_rfl) (by kernel_rfl) (fun R K v => by obtain ⟨x0, x1, x2, x3, x4, x5, x6, x7, x8, x9, x10, x11, x12, x13, x14, x15, x16, x17, x18, x19, x20⟩ := v; exact S140_894_0_okg fuel (F_generic_contexts fuel) (F_generic_plane_above_3e8 fuel) (F_generic_skips fuel) (F_generic_plane_context_b72 fuel) (F_coder_Decoder_Get_aa3 fuel) R K x0 x1 x2 x3 x4 x5 x6 x7 x8 x9 x10 x11 x12 x13 x14 x15 x16 x17 x18 x19 x20) hs h
    · cases h
  · cases h
noncomputable def J140_894 (fuel : Nat) (i : Nat) : Option Ev.Blk := Ev.look i [(100000, B140_894_0 fuel)]
noncomputable def Fg_generic_plane_row_894 (fuel : Nat) (f71 : YF71) (f123_3e8 : YF123_3e8) (f124 : YF124) (f125_b72 : YF125_b72) (f136_aa3 : YF136_aa3) (x0 x1 : Int) (x2 x3 : Int) (x4 : Bool) (x5 x6 : Int) (x7 x8 : Int) (x9 : (List Int)) (x10 x11 : Int) (x12 x13 : Int) (x14 x15 : Int) (x16 x17 : Int) (x18 x19 : Bool) (x20 : (List Int)) (x21 : (List (Int × Int))) (x22 x23 : (List Int)) (k0 : (Int × Int × Int × Int × Int × Int × Int × Int × Int × Bool × Bool × (List Int) × (List (Int × Int)) × (List Int) × (List Int)) → Option Ans) : Option Ans :=
  bif x4 then
  (f71 (x1) (x2) (x3) (x4) (x5)
  (fun y3 =>
  (f136_aa3 (IntKind.i64.wrap (x0 + y3)) (x12) (x13) (x14) (x15) (x16) (x17) (x18) (x19) (x22) (x23)
  (fun (y7_0, y7_1, y7_2, y7_3, y7_4, y7_5, y7_6, y7_7, y7_8, y7_9, y7_10, y7_11) =>
  bif y7_1 != (0 : Int) then
  k0 (y7_1, x10, x11, y7_2, y7_3, y7_4, y7_5, y7_6, y7_7, y7_8, y7_9, x20, x21, y7_10, y7_11)
  else
  bif y7_0 == (1 : Int) then
  both (both (bif decide ((0 : Int) ≤ Ev.loOf (some (IntKind.i64.wrap (x6 * x10))) ∧ Ev.loOf (some (IntKind.i64.wrap (x6 * x10))) ≤ Ev.hiOf Option.none (↑x20.length : Int) ∧ Ev.hiOf Option.none (↑x20.length : Int) ≤ (↑x20.length : Int)) then
  (f123_3e8 (x6) (x7) (x8) (x9) (x10) (x11) (x20) (x21)
  (fun (y18_0, y18_1, y18_2, y18_3, y18_4) =>
  k0 ((0 : Int), y18_0, y18_1, y7_2, y7_3, y7_4, y7_5, y7_6, y7_7, y7_8, y7_9, List.take (Ev.loOf (some (IntKind.i64.wrap (x6 * x10)))).toNat y18_2 ++ List.take (Ev.hiOf Option.none (↑x20.length : Int) - Ev.loOf (some (IntKind.i64.wrap (x6 * x10)))).toNat y18_4 ++ List.drop ((Ev.loOf (some (IntKind.i64.wrap (x6 * x10)))).toNat + Min.min (Ev.hiOf Option.none (↑x20.length : Int) - Ev.loOf (some (IntKind.i64.wrap (x6 * x10)))).toNat y18_4.length) y18_2, y18_3, y7_10, y7_11)))
  else none)
  ((f123_3e8 (x6) (x7) (x8) (x9) (x10) (x11) (x20) (x21)
  (fun (y17_0, y17_1, y17_2, y17_3, y17_4) =>
  bif decide ((0 : Int) ≤ Ev.loOf (some (IntKind.i64.wrap (x6 * y17_0))) ∧ Ev.loOf (some (IntKind.i64.wrap (x6 * y17_0))) ≤ Ev.hiOf Option.none (↑y17_2.length : Int) ∧ Ev.hiOf Option.none (↑y17_2.length : Int) ≤ (↑y17_2.length : Int)) then
  k0 ((0 : Int), y17_0, y17_1, y7_2, y7_3, y7_4, y7_5, y7_6, y7_7, y7_8, y7_9, List.take (Ev.loOf (some (IntKind.i64.wrap (x6 * y17_0)))).toNat y17_2 ++ List.take (Ev.hiOf Option.none (↑y17_2.length : Int) - Ev.loOf (some (IntKind.i64.wrap (x6 * y17_0)))).toNat y17_4 ++ List.drop ((Ev.loOf (some (IntKind.i64.wrap (x6 * y17_0)))).toNat + Min.min (Ev.hiOf Option.none (↑y17_2.length : Int) - Ev.loOf (some (IntKind.i64.wrap (x6 * y17_0)))).toNat y17_4.length) y17_2, y17_3, y7_10, y7_11)
  else none))))
  (both (both (bif decide ((0 : Int) ≤ Ev.loOf (some (IntKind.i64.wrap (x6 * x10))) ∧ Ev.loOf (some (IntKind.i64.wrap (x6 * x10))) ≤ Ev.hiOf Option.none (↑x20.length : Int) ∧ Ev.hiOf Option.none (↑x20.length : Int) ≤ (↑x20.length : Int)) then
  (f123_3e8 (x6) (x7) (x8) (x9) (x10) (x11) (x20) (x21)
  (fun (y20_0, y20_1, y20_2, y20_3, y20_4) =>
  k0 ((0 : Int), y20_0, y20_1, y7_2, y7_3, y7_4, y7_5, y7_6, y7_7, y7_8, y7_9, List.take (Ev.loOf (some (IntKind.i64.wrap (x6 * x10)))).toNat y20_2 ++ List.take (Ev.hiOf Option.none (↑x20.length : Int) - Ev.loOf (some (IntKind.i64.wrap (x6 * x10)))).toNat y20_4 ++ List.drop ((Ev.loOf (some (IntKind.i64.wrap (x6 * x10)))).toNat + Min.min (Ev.hiOf Option.none (↑x20.length : Int) - Ev.loOf (some (IntKind.i64.wrap (x6 * x10)))).toNat y20_4.length) y20_2, y20_3, y7_10, y7_11)))
  else none)
  ((f123_3e8 (x6) (x7) (x8) (x9) (x10) (x11) (x20) (x21)
  (fun (y19_0, y19_1, y19_2, y19_3, y19_4) =>
  bif decide ((0 : Int) ≤ Ev.loOf (some (IntKind.i64.wrap (x6 * x10))) ∧ Ev.loOf (some (IntKind.i64.wrap (x6 * x10))) ≤ Ev.hiOf Option.none (↑y19_2.length : Int) ∧ Ev.hiOf Option.none (↑y19_2.length : Int) ≤ (↑y19_2.length : Int)) then
  k0 ((0 : Int), y19_0, y19_1, y7_2, y7_3, y7_4, y7_5, y7_6, y7_7, y7_8, y7_9, List.take (Ev.loOf (some (IntKind.i64.wrap (x6 * x10)))).toNat y19_2 ++ List.take (Ev.hiOf Option.none (↑y19_2.length : Int) - Ev.loOf (some (IntKind.i64.wrap (x6 * x10)))).toNat y19_4 ++ List.drop ((Ev.loOf (some (IntKind.i64.wrap (x6 * x10)))).toNat + Min.min (Ev.hiOf Option.none (↑y19_2.length : Int) - Ev.loOf (some (IntKind.i64.wrap (x6 * x10)))).toNat y19_4.length) y19_2, y19_3, y7_10, y7_11)
  else none))))
  ((f123_3e8 (x6) (x7) (x8) (x9) (x10) (x11) (x20) (x21)
  (fun (y17_0, y17_1, y17_2, y17_3, y17_4) =>
  both (bif decide ((0 : Int) ≤ Ev.loOf (some (IntKind.i64.wrap (x6 * y17_0))) ∧ Ev.loOf (some (IntKind.i64.wrap (x6 * y17_0))) ≤ Ev.hiOf Option.none (↑y17_2.length : Int) ∧ Ev.hiOf Option.none (↑y17_2.length : Int) ≤ (↑y17_2.length : Int)) then
  k0 ((0 : Int), y17_0, y17_1, y7_2, y7_3, y7_4, y7_5, y7_6, y7_7, y7_8, y7_9, List.take (Ev.loOf (some (IntKind.i64.wrap (x6 * y17_0)))).toNat y17_2 ++ List.take (Ev.hiOf Option.none (↑y17_2.length : Int) - Ev.loOf (some (IntKind.i64.wrap (x6 * y17_0)))).toNat y17_4 ++ List.drop ((Ev.loOf (some (IntKind.i64.wrap (x6 * y17_0)))).toNat + Min.min (Ev.hiOf Option.none (↑y17_2.length : Int) - Ev.loOf (some (IntKind.i64.wrap (x6 * y17_0)))).toNat y17_4.length) y17_2, y17_3, y7_10, y7_11)
  else none)
  (bif decide ((0 : Int) ≤ Ev.loOf (some (IntKind.i64.wrap (x6 * y17_0))) ∧ Ev.loOf (some (IntKind.i64.wrap (x6 * y17_0))) ≤ Ev.hiOf Option.none (↑y17_2.length : Int) ∧ Ev.hiOf Option.none (↑y17_2.length : Int) ≤ (↑y17_2.length : Int)) then
  k0 ((0 : Int), y17_0, y17_1, y7_2, y7_3, y7_4, y7_5, y7_6, y7_7, y7_8, y7_9, List.take (Ev.loOf (some (IntKind.i64.wrap (x6 * y17_0)))).toNat y17_2 ++ List.take (Ev.hiOf Option.none (↑y17_2.length : Int) - Ev.loOf (some (IntKind.i64.wrap (x6 * y17_0)))).toNat y17_4 ++ List.drop ((Ev.loOf (some (IntKind.i64.wrap (x6 * y17_0)))).toNat + Min.min (Ev.hiOf Option.none (↑y17_2.length : Int) - Ev.loOf (some (IntKind.i64.wrap (x6 * y17_0)))).toNat y17_4.length) y17_2, y17_3, y7_10, y7_11)
  else none)))))
  else
  (L_generic_plane_row_894_0 fuel (x0, x6, x10, (0 : Int), x10, x11, y7_2, y7_3, y7_4, y7_5, y7_6, y7_7, y7_8, y7_9, x20, x21, y7_10, y7_11, x7, x8, x9)
  (fun (ret0_0, ret0_1, ret0_2, ret0_3, ret0_4, ret0_5, ret0_6, ret0_7, ret0_8, ret0_9, ret0_10, ret0_11, ret0_12, ret0_13, ret0_14) =>
  k0 (ret0_0, ret0_1, ret0_2, ret0_3, ret0_4, ret0_5, ret0_6, ret0_7, ret0_8, ret0_9, ret0_10, ret0_11, ret0_12, ret0_13, ret0_14))
  (fun (b0_0, b0_1, b0_2, b0_3, b0_4, b0_5, b0_6, b0_7, b0_8, b0_9, b0_10, b0_11, b0_12, b0_13) =>
  k0 ((0 : Int), b0_0, b0_1, b0_2, b0_3, b0_4, b0_5, b0_6, b0_7, b0_8, b0_9, b0_10, b0_11, b0_12, b0_13)))))))
  else
  (L_generic_plane_row_894_0 fuel (x0, x6, x10, (0 : Int), x10, x11, x12, x13, x14, x15, x16, x17, x18, x19, x20, x21, x22, x23, x7, x8, x9)
  (fun (ret0_0, ret0_1, ret0_2, ret0_3, ret0_4, ret0_5, ret0_6, ret0_7, ret0_8, ret0_9, ret0_10, ret0_11, ret0_12, ret0_13, ret0_14) =>
  k0 (ret0_0, ret0_1, ret0_2, ret0_3, ret0_4, ret0_5, ret0_6, ret0_7, ret0_8, ret0_9, ret0_10, ret0_11, ret0_12, ret0_13, ret0_14))
  (fun (b0_0, b0_1, b0_2, b0_3, b0_4, b0_5, b0_6, b0_7, b0_8, b0_9, b0_10, b0_11, b0_12, b0_13) =>
  k0 ((0 : Int), b0_0, b0_1, b0_2, b0_3, b0_4, b0_5, b0_6, b0_7, b0_8, b0_9, b0_10, b0_11, b0_12, b0_13)))
noncomputable def F_generic_plane_row_894 (fuel : Nat) (x0 x1 : Int) (x2 x3 : Int) (x4 : Bool) (x5 x6 : Int) (x7 x8 : Int) (x9 : (List Int)) (x10 x11 : Int) (x12 x13 : Int) (x14 x15 : Int) (x16 x17 : Int) (x18 x19 : Bool) (x20 : (List Int)) (x21 : (List (Int × Int))) (x22 x23 : (List Int)) (k0 : (Int × Int × Int × Int × Int × Int × Int × Int × Int × Bool × Bool × (List Int) × (List (Int × Int)) × (List Int) × (List Int)) → Option Ans) : Option Ans := Fg_generic_plane_row_894 fuel (F_generic_contexts fuel) (F_generic_plane_above_3e8 fuel) (F_generic_skips fuel) (F_generic_plane_context_b72 fuel) (F_coder_Decoder_Get_aa3 fuel) x0 x1 x2 x3 x4 x5 x6 x7 x8 x9 x10 x11 x12 x13 x14 x15 x16 x17 x18 x19 x20 x21 x22 x23 k0
abbrev YF140_894 : Type := (Int) → (Int) → (Int) → (Int) → (Bool) → (Int) → (Int) → (Int) → (Int) → ((List Int)) → (Int) → (Int) → (Int) → (Int) → (Int) → (Int) → (Int) → (Int) → (Bool) → (Bool) → ((List Int)) → ((List (Int × Int))) → ((List Int)) → ((List Int)) → ((Int × Int × Int × Int × Int × Int × Int × Int × Int × Bool × Bool × (List Int) × (List (Int × Int)) × (List Int) × (List Int)) → Option Ans) → Option Ans
theorem F140_894_eqg (fuel : Nat) (f71 : YF71) (f123_3e8 : YF123_3e8) (f124 : YF124) (f125_b72 : YF125_b72) (f136_aa3 : YF136_aa3) (x0 x1 : Int) (x2 x3 : Int) (x4 : Bool) (x5 x6 : Int) (x7 x8 : Int) (x9 : (List Int)) (x10 x11 : Int) (x12 x13 : Int) (x14 x15 : Int) (x16 x17 : Int) (x18 x19 : Bool) (x20 : (List Int)) (x21 : (List (Int × Int))) (x22 x23 : (List Int)) (k : Ev.Cont) : evalFn tab (Gg140_894 f71 f123_3e8 f124 f125_b72 f136_aa3) (J140_894 fuel) kp140_894 fuel Try.f140 [.c (.ptr 0 0), .c (.ptr 1 0), .c (.int .i64 x0), .agg [.int .i64 x1, .int .i64 x2, .int .i64 x3, .bool x4, .int .i64 x5], .c (.int .i64 x6), .agg [.int .i64 x7, .int .i64 x8, .sl (.int .u8) x9]] [.cells 174 [.int .i64 x10, .int .i64 x11, .own 2, .own 3], .cells 163 (.int .i64 x12 :: .own 4 :: ctb (.int .u64 x13 :: .int .u64 x14 :: .own 5 :: .int .i64 x15 :: .int .u64 x16 :: .int .i64 x17 :: .bool x18 :: .bool x19 :: [])), .vec 5 (.int .u8) x20 false, .vec 22 (.pair (.int .i64) (.int .i64)) x21 false, .vec 3 (.int .i64) x22 false, .vec 5 (.int .u8) x23 false] k = Fg_generic_plane_row_894 fuel f71 f123_3e8 f124 f125_b72 f136_aa3 x0 x1 x2 x3 x4 x5 x6 x7 x8 x9 x10 x11 x12 x13 x14 x15 x16 x17 x18 x19 x20 x21 x22 x23 (fun r => match r with | (r0, r1, r2, r3, r4, r5, r6, r7, r8, r9, r10, r11, r12, r13, r14) => k (.c (.int .i64 r0), [.cells 174 [.int .i64 r1, .int .i64 r2, .own 2, .own 3], .cells 163 (.int .i64 r3 :: .own 4 :: ctb (.int .u64 r4 :: .int .u64 r5 :: .own 5 :: .int .i64 r6 :: .int .u64 r7 :: .int .i64 r8 :: .bool r9 :: .bool r10 :: [])), .vec 5 (.int .u8) r11 false, .vec 22 (.pair (.int .i64) (.int .i64)) r12 false, .vec 3 (.int .i64) r13 false, .vec 5 (.int .u8) r14 false])) := by
  kernel_rfl
theorem hG140_894 (fuel : Nat) : GOK Try.prog (G140_894 fuel) :=
  gok_cons ⟨ok71 fuel, enters_of Try.func71 (by kernel_rfl) rfl⟩ <|
  gok_cons ⟨ok123_3e8 fuel, enters_of Try.func123 (by kernel_rfl) rfl⟩ <|
  gok_cons ⟨ok124 fuel, enters_of Try.func124 (by kernel_rfl) rfl⟩ <|
  gok_cons ⟨ok125_b72 fuel, enters_of Try.func125 (by kernel_rfl) rfl⟩ <|
  gok_cons ⟨ok136_aa3 fuel, enters_of Try.func136 (by kernel_rfl) rfl⟩ <|
  gok_nil
theorem B140_894_0_blk (fuel : Nat) : BlkOK Try.prog Try.f140.ntmps (.block 0 (.loop (bodyOf 0 Try.f140))) (B140_894_0 fuel) :=
  blk_of (blk_of_code tab_ok (hG140_894 fuel) mixed (J := J140_894_0 fuel) (kp := kp140_894) (fuel := fuel) (by kernel_rfl) (fun q hq => by
    rw [(by kernel_rfl : obl (J140_894_0 fuel) (.block 0 (.loop (bodyOf 0 Try.f140))) = [])] at hq
    cases hq)) (B140_894_0_ok fuel)
theorem fok140_894 (fuel : Nat) : FnOK Try.prog 140 (evalFn tab (G140_894 fuel) (J140_894 fuel) kp140_894 fuel Try.f140) :=
  fn_ok tab_ok (hG140_894 fuel) mixed Try.func140 (c := (Try.f140.body).getD .skip) rfl (fun q hq => by
    rw [(by kernel_rfl : obl (J140_894 fuel) ((Try.f140.body).getD .skip) = [(.block 0 (.loop (bodyOf 0 Try.f140)), B140_894_0 fuel)])] at hq
    simp only [List.mem_cons, List.not_mem_nil, or_false] at hq
    subst hq
    · exact B140_894_0_blk fuel)
noncomputable def spg140_894 (F : YF140_894) : Ev.Spec := fun args objs k => match args, objs with
 | [.c (.ptr q0 q1), .c (.ptr q2 q3), .c (.int .i64 x0), .agg [.int .i64 x1, .int .i64 x2, .int .i64 x3, .bool x4, .int .i64 x5], .c (.int .i64 x6), .agg [.int .i64 x7, .int .i64 x8, .sl (.int .u8) x9]], [.cells q4 [.int .i64 x10, .int .i64 x11, .own q5, .own q6], .cells q7 cs0, .vec q8 (.int .u8) x20 false, .vec q9 (.pair (.int .i64) (.int .i64)) x21 false, .vec q10 (.int .i64) x22 false, .vec q11 (.int .u8) x23 false] => (match splitRun 2 ctn cs0 with | some ([.int .i64 x12, .own q12], [.int .u64 x13, .int .u64 x14, .own q13, .int .i64 x15, .int .u64 x16, .int .i64 x17, .bool x18, .bool x19]) => bif Nat.beq q0 0 && Nat.beq q1 0 && Nat.beq q2 1 && Nat.beq q3 0 && Nat.beq q4 174 && Nat.beq q5 2 && Nat.beq q6 3 && Nat.beq q7 163 && Nat.beq q8 5 && Nat.beq q9 22 && Nat.beq q10 3 && Nat.beq q11 5 && Nat.beq q12 4 && Nat.beq q13 5 then F x0 x1 x2 x3 x4 x5 x6 x7 x8 x9 x10 x11 x12 x13 x14 x15 x16 x17 x18 x19 x20 x21 x22 x23 (fun r => match r with | (r0, r1, r2, r3, r4, r5, r6, r7, r8, r9, r10, r11, r12, r13, r14) => k (.c (.int .i64 r0), [.cells 174 [.int .i64 r1, .int .i64 r2, .own 2, .own 3], .cells 163 (.int .i64 r3 :: .own 4 :: ctb (.int .u64 r4 :: .int .u64 r5 :: .own 5 :: .int .i64 r6 :: .int .u64 r7 :: .int .i64 r8 :: .bool r9 :: .bool r10 :: [])), .vec 5 (.int .u8) r11 false, .vec 22 (.pair (.int .i64) (.int .i64)) r12 false, .vec 3 (.int .i64) r13 false, .vec 5 (.int .u8) r14 false])) else none | _ => none)
 | _, _ => none
noncomputable def spec140_894 (fuel : Nat) : Ev.Spec := spg140_894 (F_generic_plane_row_894 fuel)
theorem ok140_894 (fuel : Nat) : FnOK Try.prog 140 (spec140_894 fuel) := by
  intro args objs kk r h
  unfold spec140_894 spg140_894 at h
  split at h
  · skip
    split at h
    rotate_left 1
    · cases h
    rename_i hsp
    have esp := splitRun_eq hsp
    subst esp
    obtain ⟨hb, h⟩ := cond_some' h
    simp only [Bool.and_eq_true, Nat.beq_eq, decide_eq_true_eq] at hb
    obtain ⟨⟨⟨⟨⟨⟨⟨⟨⟨⟨⟨⟨⟨rfl, rfl⟩, rfl⟩, rfl⟩, rfl⟩, rfl⟩, rfl⟩, rfl⟩, rfl⟩, rfl⟩, rfl⟩, rfl⟩, rfl⟩, rfl⟩ := hb
    exact fok140_894 fuel _ _ kk r ((F140_894_eqg fuel (F_generic_contexts fuel) (F_generic_plane_above_3e8 fuel) (F_generic_skips fuel) (F_generic_plane_context_b72 fuel) (F_coder_Decoder_Get_aa3 fuel) _ _ _ _ _ _ _ _ _ _ _ _ _ _ _ _ _ _ _ _ _ _ _ _ kk).trans h)
  · cases h
end Go.Proofs.Ytipdidpalcmlhaa

set_option linter.unusedVariables false
set_option linter.unusedSimpArgs false
set_option maxRecDepth 100000
set_option maxHeartbeats 2000000
namespace Go.Proofs.Ytipdidpalcmlhaa
open Go Ev
def kp137 (i : Nat) : Option (List Nat) := Ev.look i []
noncomputable def Gg137 (f : Nat) : Option Ev.Spec := Ev.look f []
noncomputable def G137 (fuel : Nat) : Nat → Option Ev.Spec := Gg137
noncomputable def J137 (fuel : Nat) (i : Nat) : Option Ev.Blk := Ev.look i []
noncomputable def F_generic_sides (fuel : Nat) (x0 x1 : Int) (x2 : (List Int)) (x3 x4 : Int) (k0 : (Bool) → Option Ans) : Option Ans :=
  bif x0 == (0 : Int) then
  bif x1 == (0 : Int) then
  k0 true
  else
  bif x0 == x3 then
  k0 (x1 == x4)
  else
  k0 false
  else
  bif x0 == x3 then
  k0 (x1 == x4)
  else
  k0 false
abbrev YF137 : Type := (Int) → (Int) → ((List Int)) → (Int) → (Int) → ((Bool) → Option Ans) → Option Ans
theorem F137_eq (fuel : Nat) (x0 x1 : Int) (x2 : (List Int)) (x3 x4 : Int) (k : Ev.Cont) : evalFn tab (G137 fuel) (J137 fuel) kp137 fuel Try.f137 [.agg [.int .i64 x0, .int .i64 x1, .sl (.int .u8) x2], .c (.int .i64 x3), .c (.int .i64 x4)] [] k = F_generic_sides fuel x0 x1 x2 x3 x4 (fun r => match r with | r0 => k (.c (.bool r0), [])) := by
  kernel_rfl
theorem hG137 (fuel : Nat) : GOK Try.prog (G137 fuel) :=
  gok_nil
theorem fok137 (fuel : Nat) : FnOK Try.prog 137 (evalFn tab (G137 fuel) (J137 fuel) kp137 fuel Try.f137) :=
  fn_ok tab_ok (hG137 fuel) mixed Try.func137 (c := (Try.f137.body).getD .skip) rfl (fun q hq => by
    rw [(by kernel_rfl : obl (J137 fuel) ((Try.f137.body).getD .skip) = [])] at hq
    cases hq)
noncomputable def spg137 (F : YF137) : Ev.Spec := fun args objs k => match args, objs with
 | [.agg [.int .i64 x0, .int .i64 x1, .sl (.int .u8) x2], .c (.int .i64 x3), .c (.int .i64 x4)], [] => bif true then F x0 x1 x2 x3 x4 (fun r => match r with | r0 => k (.c (.bool r0), [])) else none
 | _, _ => none
noncomputable def spec137 (fuel : Nat) : Ev.Spec := spg137 (F_generic_sides fuel)
theorem ok137 (fuel : Nat) : FnOK Try.prog 137 (spec137 fuel) := by
  intro args objs kk r h
  unfold spec137 spg137 at h
  split at h
  · skip
    obtain ⟨hb, h⟩ := cond_some' h
    simp only [Bool.and_eq_true, Nat.beq_eq, decide_eq_true_eq] at hb
    clear hb
    exact fok137 fuel _ _ kk r ((F137_eq fuel _ _ _ _ _ kk).trans h)
  · cases h
end Go.Proofs.Ytipdidpalcmlhaa

