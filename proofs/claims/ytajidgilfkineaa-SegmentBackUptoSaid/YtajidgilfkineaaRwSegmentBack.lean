/- SegmentBack: the statement holds: whatever it is given, the law answers true, and what it is given reads as it did. No condition. -/
import Derived.Test.YtajidgilfkineaaRows
import Derived.Test.YtajidgilfkineaaEvV
import Derived.Test.YtajidgilfkineaaFsSegmentBack1
import Derived.Test.YtajidgilfkineaaPsSegmentBack1
import Derived.WalkKit
import Derived.ProofKit
import Derived.OpenShut
import Derived.ShutString
import Derived.ChangeOld
import Derived.Below
import Derived.Carry
import Derived.SizedLaws
import Derived.JoinedCond
import Derived.Deep.CondSized
namespace Go.Proofs.Ytajidgilfkineaa.segmentBackL
open Go Go.ChangeShapes Go.WideShapes Go.ChangeAt Go.RowKit Go.Proofs.Ytajidgilfkineaa Ev
open Go.ChangeMaps (open_string shut_string)
set_option linter.unusedVariables false
theorem own : ownKnob Try.prog.godebug = none := by kernel_rfl
theorem laidOut : laidOutB Try.prog = true := by kernel_rfl
theorem spec_eq (fuel : Nat) (x0 : Int) (x1 : Int) (x2 : Int) (x3 : (List Int)) (x4 : (List Bool)) (x5 : (List Int)) (x6 : (List Int)) (x7 : (List Int)) (k : Cont) : spec12 fuel [.agg [.int .i64 x0, .int .i64 x1, .int .i64 x2, .sl (.int .i64) x3, .sl .bool x4, .sl (.int .u8) x5], .c (.sl (.int .u8) x6), .c (.sl (.int .u8) x7)] [] k = F_law12_SegmentBack fuel x0 x1 x2 x3 x4 x5 x6 x7 (fun b => k (.c (.bool b), [])) := by kernel_rfl
set_option maxRecDepth 100000 in
theorem lifted (os : Os) (started : os.Started) (H : Type) (enc : TypeId × Value → H) (F : Stop.Interp) :
    ReturnsInHanded {} Try.checked os 12 .any ((Rows.OpenSpec.upto Rows.segmentBackSpec).pre6 enc Try.prog Try.f12 Rows.segmentBackUptoRow.domain false) (((Rows.OpenSpec.upto Rows.segmentBackSpec).at F).post enc Try.prog Try.f12 false true false false) := by
  refine returnsInHanded_of_cond_sized (C := Try.checked) (s := (Rows.OpenSpec.upto Rows.segmentBackSpec)) (k := Rows.uptoSmall) rfl own started (by kernel_rfl) Try.func12
    (OpenSpec.witness (enc := enc) (C := Try.checked) (s := (Rows.OpenSpec.upto Rows.segmentBackSpec)) (k := Rows.uptoSmall) rfl false ⟨#[], #[.agg #[.int .i64 0, .int .i64 0, .int .i64 0, .slice none 0 0, .slice none 0 0, .slice none 0 0], .slice none 0 0, .slice none 0 0], []⟩ 8 (by kernel_rfl) (by kernel_rfl) (by kernel_rfl) (x := ([.agg [.lit (.int .i64 0), .lit (.int .i64 0), .lit (.int .i64 0), .nil, .nil, .nil], .nil, .nil], [], [])) (by kernel_rfl) rfl (by kernel_rfl)) ?_
  intro W base args ds gs before hval0 hW0 hcnd hk hsz0 _
  suffices hgoal : Calls Try.prog 12 args W fun e W' => ∃ v, e = .returned v ∧ Rows.segmentBackSpec.post enc Try.prog Try.f12 false true false false W args v W' from hgoal
  have hW : DataW.Whole enc Try.prog Try.f12.params.toList Rows.segmentBackSpec.vars false W args.toList ds gs before := hW0
  have hsz : (DataW.weightsEach Try.prog (Try.f12.params.toList ++ Rows.segmentBackSpec.plain.varTypes Try.prog) (ds ++ gs)).all (· ≤ reachBytes) = true := hsz0
  have hval : ∀ (j : Nat) t v, Try.f12.params[j]? = some t → args[j]? = some v → Value.okWide Try.prog W .any base t v := hval0
  have hW' := hW
  obtain ⟨p, q, hA0, hV, rfl, hfz, hnd⟩ := hW
  have hA : DataW.TrodAll enc Try.prog W 0 (fun _ => true) true Try.f12.params.toList args.toList ds p := hA0
  rw [Try.params12] at hA hval hsz
  obtain ⟨v0, vs0, d0, ds0, p0, q0, hargs, rfl, rfl, h0, r0⟩ := trodAll_cons hA
  obtain ⟨v1, vs1, d1, ds1, p1, q1, rfl, rfl, rfl, h1, r1⟩ := trodAll_cons r0
  obtain ⟨v2, vs2, d2, ds2, p2, q2, rfl, rfl, rfl, h2, r2⟩ := trodAll_cons r1
  obtain ⟨rfl, rfl, rfl⟩ := trodAll_nil r2
  obtain rfl : args = #[v0, v1, v2] := by cases args; simp_all
  obtain ⟨rfl, rfl⟩ := trodVars_none hV
  obtain ⟨u0, rfl, _⟩ := okWide_struct Try.underlying63 (hval 0 63 v0 rfl rfl)
  have k0 := h0
  have lt0 := trod_blocks k0
  obtain ⟨⟨a0, a1, a2, a3, a4, a5⟩, y0, w0⟩ := arg_rv (m := 20) (.pair (.int .i64) (.pair (.int .i64) (.pair (.int .i64) (.pair (.sl (.int .i64)) (.pair (.sl .bool) (.sl (.int .u8))))))) (by kernel_rfl) h0 (light_of hsz (i := 0) rfl rfl)
  obtain ⟨b1, l1, c1, rfl⟩ := okWide_slice Try.underlying28 (hval 1 28 v1 rfl rfl)
  have k1 := h1
  have lt1 := trod_blocks k1
  obtain ⟨a6, y1, w1, z1⟩ := arg_rvB (m := 20) (.int .u8) (by kernel_rfl) h1 (light_of hsz (i := 1) rfl rfl) Try.underlying28
  have x1 : a6.length ≤ 1048576 := by have := bulk_small hk (i := 1) rfl; omega
  obtain ⟨b2, l2, c2, rfl⟩ := okWide_slice Try.underlying28 (hval 2 28 v2 rfl rfl)
  have k2 := h2
  have lt2 := trod_blocks k2
  obtain ⟨a7, y2, w2, z2⟩ := arg_rvB (m := 20) (.int .u8) (by kernel_rfl) h2 (light_of hsz (i := 2) rfl rfl) Try.underlying28
  have x2 : a7.length ≤ 1048576 := by have := bulk_small hk (i := 2) rfl; omega
  have hc := law_calls (w := W) (ok12 fuel) (args := [.agg [.int .i64 a0, .int .i64 a1, .int .i64 a2, .sl (.int .i64) a3, .sl .bool a4, .sl (.int .u8) a5], .c (.sl (.int .u8) a6), .c (.sl (.int .u8) a7)]) (.cons ⟨u0, rfl, y0⟩ (.cons y1.one (.cons y2.one .nil))) (fun k => (spec_eq fuel a0 a1 a2 a3 a4 a5 a6 a7 k).trans (PureSegmentBack.pure a0 a1 a2 a3 a4 a5 a6 a7 _ w0 w1 x1 w2 x2))
  refine hc.mono fun e W' ⟨he, bel⟩ => ?_
  subst he
  exact ⟨_, rfl, _, _, _, [], _, [], hW', trodAll_mk1 (shut_bool Try.underlying4 _), (trodAll_cons_mk (Below.trod laidOut (by kernel_rfl) (of_decide_eq_true (by kernel_rfl)) k0 bel lt0) (trodAll_cons_mk (Below.trod laidOut (by kernel_rfl) (of_decide_eq_true (by kernel_rfl)) k1 bel lt1) (trodAll_cons_mk (Below.trod laidOut (by kernel_rfl) (of_decide_eq_true (by kernel_rfl)) k2 bel lt2) trodAll_mk0))), rfl, bel.frame _, fun h => by cases h⟩
theorem over : Rows.segmentBackUptoRow.holds Try.pinned (Rows.OpenSpec.upto Rows.segmentBackSpec) :=
  OpenClaim.holds_of_cond 12 Try.f12 rfl rfl rfl rfl rfl rfl rfl ⟨rfl, rfl, rfl, rfl, rfl⟩ rfl rfl rfl rfl rfl (by kernel_rfl) Try.func12 (by kernel_rfl)
    (of_decide_eq_true (by kernel_rfl)) (by unfold Func.isWrapper; first | (rw [if_pos (by decide +kernel)]; kernel_rfl) | (rw [if_neg (by decide +kernel)]; exact ⟨rfl, rfl⟩))
    (fun os started H enc _ F => lifted os started H enc F)
end Go.Proofs.Ytajidgilfkineaa.segmentBackL
namespace Go.Proofs.Ytajidgilfkineaa
theorem segmentBack_holds : Rows.SegmentBackUptoSaid := segmentBackL.over
#print axioms segmentBack_holds
end Go.Proofs.Ytajidgilfkineaa
