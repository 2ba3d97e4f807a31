/- ToneScreens: the statement holds: whatever it is given, the law answers true, and what it is given reads as it did. No condition. -/
import Derived.Test.YtipdidpalcmlhaaRows
import Derived.Test.YtipdidpalcmlhaaEvS
import Derived.Test.YtipdidpalcmlhaaFsToneScreens2
import Derived.Test.YtipdidpalcmlhaaPsToneScreens1
import Derived.WalkKit
import Derived.ProofKit
import Derived.OpenShut
import Derived.ShutString
import Derived.ChangeOld
import Derived.Below
import Derived.Carry
import Derived.SizedLaws
namespace Go.Proofs.Ytipdidpalcmlhaa.toneScreensL
open Go Go.ChangeShapes Go.WideShapes Go.ChangeAt Go.RowKit Go.Proofs.Ytipdidpalcmlhaa Ev
open Go.ChangeMaps (open_string shut_string)
set_option linter.unusedVariables false
theorem own : ownKnob Try.prog.godebug = none := by kernel_rfl
theorem laidOut : laidOutB Try.prog = true := by kernel_rfl
theorem spec_eq (fuel : Nat) (x0 : Int) (x1 : Int) (x2 : (List Int)) (x3 : Int) (x4 : Int) (k : Cont) : spec4 fuel [.agg [.int .i64 x0, .int .i64 x1, .sl (.int .i64) x2], .c (.int .i64 x3), .c (.int .i64 x4)] [] k = F_law11_ToneScreens fuel x0 x1 x2 x3 x4 (fun b => k (.c (.bool b), [])) := by kernel_rfl
set_option maxRecDepth 100000 in
theorem lifted (os : Os) (started : os.Started) (H : Type) (enc : TypeId × Value → H) :
    ReturnsInHanded {} Try.checked os 4 .any (Rows.toneScreensSpec.pre6 enc Try.prog Try.f4 Rows.toneScreensRow.domain false) (Rows.toneScreensSpec.post enc Try.prog Try.f4 false true false false) := by
  refine returnsInHanded_of_change_sized (C := Try.checked) own started (by kernel_rfl) Try.func4
    (ChangeSpec.witness6 (enc := enc) (C := Try.checked) false ⟨#[], #[.agg #[.int .i64 0, .int .i64 0, .slice none 0 0], .int .i64 0, .int .i64 0], []⟩ 8 (by kernel_rfl) (by kernel_rfl) (by kernel_rfl) (by kernel_rfl)) ?_
  intro W base args ds gs before hval0 hW hcnd hsz0 _
  have hsz : (DataW.weightsEach Try.prog (Try.f4.params.toList ++ Rows.toneScreensSpec.plain.varTypes Try.prog) (ds ++ gs)).all (· ≤ reachBytes) = true := hsz0
  have hval : ∀ (j : Nat) t v, Try.f4.params[j]? = some t → args[j]? = some v → Value.okWide Try.prog W .any base t v := hval0
  have hW' := hW
  obtain ⟨p, q, hA0, hV, rfl, hfz, hnd⟩ := hW
  have hA : DataW.TrodAll enc Try.prog W 0 (fun _ => true) true Try.f4.params.toList args.toList ds p := hA0
  rw [Try.params4] at hA hval hsz
  obtain ⟨v0, vs0, d0, ds0, p0, q0, hargs, rfl, rfl, h0, r0⟩ := trodAll_cons hA
  obtain ⟨v1, vs1, d1, ds1, p1, q1, rfl, rfl, rfl, h1, r1⟩ := trodAll_cons r0
  obtain ⟨v2, vs2, d2, ds2, p2, q2, rfl, rfl, rfl, h2, r2⟩ := trodAll_cons r1
  obtain ⟨rfl, rfl, rfl⟩ := trodAll_nil r2
  obtain rfl : args = #[v0, v1, v2] := by cases args; simp_all
  obtain ⟨rfl, rfl⟩ := trodVars_none hV
  obtain ⟨u0, rfl, _⟩ := okWide_struct Try.underlying40 (hval 0 40 v0 rfl rfl)
  have k0 := h0
  have lt0 := trod_blocks k0
  obtain ⟨⟨a0, a1, a2⟩, y0, w0⟩ := arg_rv (m := 20) (.pair (.int .i64) (.pair (.int .i64) (.sl (.int .i64)))) (by kernel_rfl) h0 (light_of hsz (i := 0) rfl rfl)
  obtain ⟨a3, rfl, rfl, rfl, w1⟩ := open_int Try.underlying3 (hval 1 3 v1 rfl rfl) h1
  obtain ⟨a4, rfl, rfl, rfl, w2⟩ := open_int Try.underlying3 (hval 2 3 v2 rfl rfl) h2
  have hc := law_calls (w := W) (ok4 fuel) (args := [.agg [.int .i64 a0, .int .i64 a1, .sl (.int .i64) a2], .c (.int .i64 a3), .c (.int .i64 a4)]) (.cons ⟨u0, rfl, y0⟩ (.cons rfl (.cons rfl .nil))) (fun k => (spec_eq fuel a0 a1 a2 a3 a4 k).trans (PureToneScreens.pure a0 a1 a2 a3 a4 _ w0 w1 w2))
  refine hc.mono fun e W' ⟨he, bel⟩ => ?_
  subst he
  exact ⟨_, rfl, _, _, _, [], _, [], hW', trodAll_mk1 (shut_bool Try.underlying4 _), (trodAll_cons_mk (Below.trod laidOut (by kernel_rfl) (of_decide_eq_true (by kernel_rfl)) k0 bel lt0) (trodAll_cons_mk (shut_int Try.underlying3 w1) (trodAll_cons_mk (shut_int Try.underlying3 w2) trodAll_mk0))), rfl, bel.frame _, fun h => by cases h⟩
theorem over : Rows.toneScreensRow.holds Try.pinned (OpenSpec.ofChange Rows.toneScreensSpec) :=
  OpenClaim.holds_of_wide 4 Try.f4 rfl rfl rfl rfl rfl rfl rfl ⟨rfl, rfl, rfl, rfl, rfl⟩ rfl rfl rfl rfl rfl (by kernel_rfl) Try.func4 (by kernel_rfl)
    (of_decide_eq_true (by kernel_rfl)) (by unfold Func.isWrapper; first | (rw [if_pos (by decide +kernel)]; kernel_rfl) | (rw [if_neg (by decide +kernel)]; exact ⟨rfl, rfl⟩))
    (fun os started H enc _ => lifted os started H enc)
end Go.Proofs.Ytipdidpalcmlhaa.toneScreensL
namespace Go.Proofs.Ytipdidpalcmlhaa
theorem toneScreens_holds : Rows.ToneScreensSaid := toneScreensL.over
#print axioms toneScreens_holds
end Go.Proofs.Ytipdidpalcmlhaa
