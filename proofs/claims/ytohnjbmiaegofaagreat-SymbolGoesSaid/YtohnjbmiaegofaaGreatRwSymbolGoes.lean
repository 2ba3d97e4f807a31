/- SymbolGoes: the statement holds: whatever it is given, the law answers true, and what it is given reads as it did. No condition. -/
import Derived.Test.YtohnjbmiaegofaaGreatRows
import Derived.Test.YtohnjbmiaegofaaGreatEvS
import Derived.Test.YtohnjbmiaegofaaGreatFsSymbolGoes8
import Derived.Test.YtohnjbmiaegofaaGreatPsSymbolGoes3
import Derived.WalkKit
import Derived.ProofKit
import Derived.OpenShut
import Derived.ShutString
import Derived.ChangeOld
import Derived.Below
import Derived.Carry
import Derived.SizedLaws
namespace Go.Proofs.YtohnjbmiaegofaaGreat.symbolGoesL
open Go Go.ChangeShapes Go.WideShapes Go.ChangeAt Go.RowKit Go.Proofs.YtohnjbmiaegofaaGreat Ev
open Go.ChangeMaps (open_string shut_string)
set_option linter.unusedVariables false
theorem own : ownKnob Tryz.prog.godebug = none := by kernel_rfl
theorem laidOut : laidOutB Tryz.prog = true := by kernel_rfl
theorem spec_eq (fuel : Nat) (x0 : Int) (x1 : Int) (x2 : Int) (x3 : Bool) (x4 : Int) (x5 : Int) (x6 : (List (List (Int × Int × (List Int))))) (x7 : (List Bool)) (k : Cont) : po fuel [.agg [.int .i64 x0, .int .i64 x1, .int .i64 x2, .bool x3, .int .i64 x4, .int .i64 x5], .c (.sl (.sl (.pair (.int .i64) (.pair (.int .i64) (.sl (.int .u8))))) x6), .c (.sl .bool x7)] [] k = iN fuel x0 x1 x2 x3 x4 x5 x6 x7 (fun b => k (.c (.bool b), [])) := by kernel_rfl
set_option maxRecDepth 100000 in
theorem lifted (os : Os) (started : os.Started) (H : Type) (enc : TypeId × Value → H) :
    ReturnsInHanded {} Tryz.checked os 4 .any (Rows.symbolGoesSpec.pre6 enc Tryz.prog Tryz.f4 Rows.symbolGoesRow.domain false) (Rows.symbolGoesSpec.post enc Tryz.prog Tryz.f4 false true false false) := by
  refine returnsInHanded_of_change_sized (C := Tryz.checked) own started (by kernel_rfl) Tryz.func4
    (ChangeSpec.witness6 (enc := enc) (C := Tryz.checked) false ⟨#[], #[.agg #[.int .i64 0, .int .i64 0, .int .i64 0, .bool false, .int .i64 0, .int .i64 0], .slice none 0 0, .slice none 0 0], []⟩ 8 (by kernel_rfl) (by kernel_rfl) (by kernel_rfl) (by kernel_rfl)) ?_
  intro W base args ds gs before hval0 hW hcnd hsz0 _
  have hsz : (DataW.weightsEach Tryz.prog (Tryz.f4.params.toList ++ Rows.symbolGoesSpec.plain.varTypes Tryz.prog) (ds ++ gs)).all (· ≤ reachBytes) = true := hsz0
  have hval : ∀ (j : Nat) t v, Tryz.f4.params[j]? = some t → args[j]? = some v → Value.okWide Tryz.prog W .any base t v := hval0
  have hW' := hW
  obtain ⟨p, q, hA0, hV, rfl, hfz, hnd⟩ := hW
  have hA : DataW.TrodAll enc Tryz.prog W 0 (fun _ => true) true Tryz.f4.params.toList args.toList ds p := hA0
  rw [Tryz.params4] at hA hval hsz
  obtain ⟨v0, vs0, d0, ds0, p0, q0, hargs, rfl, rfl, h0, r0⟩ := trodAll_cons hA
  obtain ⟨v1, vs1, d1, ds1, p1, q1, rfl, rfl, rfl, h1, r1⟩ := trodAll_cons r0
  obtain ⟨v2, vs2, d2, ds2, p2, q2, rfl, rfl, rfl, h2, r2⟩ := trodAll_cons r1
  obtain ⟨rfl, rfl, rfl⟩ := trodAll_nil r2
  obtain rfl : args = #[v0, v1, v2] := by cases args; simp_all
  obtain ⟨rfl, rfl⟩ := trodVars_none hV
  obtain ⟨u0, rfl, _⟩ := okWide_struct Tryz.underlying26 (hval 0 26 v0 rfl rfl)
  have k0 := h0
  have lt0 := trod_blocks k0
  obtain ⟨⟨⟨a0, ⟨a1, a2⟩, a3, a4⟩, a5⟩, y0, w0⟩ := arg_rv (m := 20) (.pair (.pair (.int .i64) (.pair (.pair (.int .i64) (.int .i64)) (.pair .bool (.int .i64)))) (.int .i64)) (by kernel_rfl) h0 (light_of hsz (i := 0) rfl rfl)
  obtain ⟨b1, l1, c1, rfl⟩ := okWide_slice Tryz.underlying52 (hval 1 52 v1 rfl rfl)
  have k1 := h1
  have lt1 := trod_blocks k1
  obtain ⟨a6, y1, w1⟩ := arg_rv (m := 20) (.sl (.sl (.pair (.int .i64) (.pair (.int .i64) (.sl (.int .u8)))))) (by kernel_rfl) h1 (light_of hsz (i := 1) rfl rfl)
  obtain ⟨b2, l2, c2, rfl⟩ := okWide_slice Tryz.underlying44 (hval 2 44 v2 rfl rfl)
  have k2 := h2
  have lt2 := trod_blocks k2
  obtain ⟨a7, y2, w2⟩ := arg_rv (m := 20) (.sl .bool) (by kernel_rfl) h2 (light_of hsz (i := 2) rfl rfl)
  have hc := law_calls (w := W) (KE fuel) (args := [.agg [.int .i64 a0, .int .i64 a1, .int .i64 a2, .bool a3, .int .i64 a4, .int .i64 a5], .c (.sl (.sl (.pair (.int .i64) (.pair (.int .i64) (.sl (.int .u8))))) a6), .c (.sl .bool a7)]) (.cons ⟨u0, rfl, y0⟩ (.cons y1.one (.cons y2.one .nil))) (fun k => (spec_eq fuel a0 a1 a2 a3 a4 a5 a6 a7 k).trans (PureSymbolGoes.pure a0 a1 a2 a3 a4 a5 a6 a7 _ w0 w1 w2))
  refine hc.mono fun e W' ⟨he, bel⟩ => ?_
  subst he
  exact ⟨_, rfl, _, _, _, [], _, [], hW', trodAll_mk1 (shut_bool Tryz.underlying4 _), (trodAll_cons_mk (Below.trod laidOut (by kernel_rfl) (of_decide_eq_true (by kernel_rfl)) k0 bel lt0) (trodAll_cons_mk (Below.trod laidOut (by kernel_rfl) (of_decide_eq_true (by kernel_rfl)) k1 bel lt1) (trodAll_cons_mk (Below.trod laidOut (by kernel_rfl) (of_decide_eq_true (by kernel_rfl)) k2 bel lt2) trodAll_mk0))), rfl, bel.frame _, fun h => by cases h⟩
theorem over : Rows.symbolGoesRow.holds Tryz.pinned (OpenSpec.ofChange Rows.symbolGoesSpec) :=
  OpenClaim.holds_of_wide 4 Tryz.f4 rfl rfl rfl rfl rfl rfl rfl ⟨rfl, rfl, rfl, rfl, rfl⟩ rfl rfl rfl rfl rfl (by kernel_rfl) Tryz.func4 (by kernel_rfl)
    (of_decide_eq_true (by kernel_rfl)) (by unfold Func.isWrapper; first | (rw [if_pos (by decide +kernel)]; kernel_rfl) | (rw [if_neg (by decide +kernel)]; exact ⟨rfl, rfl⟩))
    (fun os started H enc _ => lifted os started H enc)
end Go.Proofs.YtohnjbmiaegofaaGreat.symbolGoesL
namespace Go.Proofs.YtohnjbmiaegofaaGreat
theorem symbolGoes_holds : Rows.SymbolGoesSaid := symbolGoesL.over
#print axioms symbolGoes_holds
end Go.Proofs.YtohnjbmiaegofaaGreat
