/- SymbolExported: the statement holds: whatever it is given, the law answers true, and what it is given reads as it did. No condition. -/
import Derived.Test.YtmjeeaemmbkioaaGreatRows
import Derived.Test.YtmjeeaemmbkioaaGreatEvS
import Derived.Test.YtmjeeaemmbkioaaGreatFsSymbolExported4
import Derived.Test.YtmjeeaemmbkioaaGreatPsSymbolExported1
import Derived.WalkKit
import Derived.ProofKit
import Derived.OpenShut
import Derived.ShutString
import Derived.ChangeOld
import Derived.Below
import Derived.Carry
import Derived.SizedLaws
namespace Go.Proofs.YtmjeeaemmbkioaaGreat.symbolExportedL
open Go Go.ChangeShapes Go.WideShapes Go.ChangeAt Go.RowKit Go.Proofs.YtmjeeaemmbkioaaGreat Ev
open Go.ChangeMaps (open_string shut_string)
set_option linter.unusedVariables false
theorem own : ownKnob Tryz.prog.godebug = none := by kernel_rfl
theorem laidOut : laidOutB Tryz.prog = true := by kernel_rfl
theorem spec_eq (fuel : Nat) (x0 : Int) (x1 : Int) (x2 : Int) (x3 : Bool) (x4 : Int) (x5 : Int) (x6 : Int) (x7 : (List Int)) (x8 : (List (Int × Int × (List Int)))) (x9 : (List ((Int × Int × (List Int)) × Int))) (x10 : (List Bool)) (k : Cont) : spec4 fuel [.agg [.int .i64 x0, .int .i64 x1, .int .i64 x2, .bool x3, .int .i64 x4, .int .i64 x5, .int .i64 x6, .sl (.int .i64) x7, .sl (.pair (.int .i64) (.pair (.int .i64) (.sl (.int .u8)))) x8, .sl (.pair (.pair (.int .i64) (.pair (.int .i64) (.sl (.int .u8)))) (.int .i64)) x9, .sl .bool x10]] [] k = F_law09_SymbolExported fuel x0 x1 x2 x3 x4 x5 x6 x7 x8 x9 x10 (fun b => k (.c (.bool b), [])) := by kernel_rfl
set_option maxRecDepth 100000 in
theorem lifted (os : Os) (started : os.Started) (H : Type) (enc : TypeId × Value → H) :
    ReturnsInHanded {} Tryz.checked os 4 .any (Rows.symbolExportedSpec.pre6 enc Tryz.prog Tryz.f4 Rows.symbolExportedRow.domain false) (Rows.symbolExportedSpec.post enc Tryz.prog Tryz.f4 false true false false) := by
  refine returnsInHanded_of_change_sized (C := Tryz.checked) own started (by kernel_rfl) Tryz.func4
    (ChangeSpec.witness6 (enc := enc) (C := Tryz.checked) false ⟨#[], #[.agg #[.int .i64 0, .int .i64 0, .int .i64 0, .bool false, .int .i64 0, .int .i64 0, .int .i64 0, .slice none 0 0, .slice none 0 0, .slice none 0 0, .slice none 0 0]], []⟩ 8 (by kernel_rfl) (by kernel_rfl) (by kernel_rfl) (by kernel_rfl)) ?_
  intro W base args ds gs before hval0 hW hcnd hsz0 _
  have hsz : (DataW.weightsEach Tryz.prog (Tryz.f4.params.toList ++ Rows.symbolExportedSpec.plain.varTypes Tryz.prog) (ds ++ gs)).all (· ≤ reachBytes) = true := hsz0
  have hval : ∀ (j : Nat) t v, Tryz.f4.params[j]? = some t → args[j]? = some v → Value.okWide Tryz.prog W .any base t v := hval0
  have hW' := hW
  obtain ⟨p, q, hA0, hV, rfl, hfz, hnd⟩ := hW
  have hA : DataW.TrodAll enc Tryz.prog W 0 (fun _ => true) true Tryz.f4.params.toList args.toList ds p := hA0
  rw [Tryz.params4] at hA hval hsz
  obtain ⟨v0, vs0, d0, ds0, p0, q0, hargs, rfl, rfl, h0, r0⟩ := trodAll_cons hA
  obtain ⟨rfl, rfl, rfl⟩ := trodAll_nil r0
  obtain rfl : args = #[v0] := by cases args; simp_all
  obtain ⟨rfl, rfl⟩ := trodVars_none hV
  obtain ⟨u0, rfl, _⟩ := okWide_struct Tryz.underlying39 (hval 0 39 v0 rfl rfl)
  have k0 := h0
  have lt0 := trod_blocks k0
  obtain ⟨⟨⟨⟨a0, ⟨a1, a2⟩, a3, a4⟩, a5⟩, ⟨a6, a7⟩, a8, a9, a10⟩, y0, w0⟩ := arg_rv (m := 20) (.pair (.pair (.pair (.int .i64) (.pair (.pair (.int .i64) (.int .i64)) (.pair .bool (.int .i64)))) (.int .i64)) (.pair (.pair (.int .i64) (.sl (.int .i64))) (.pair (.sl (.pair (.int .i64) (.pair (.int .i64) (.sl (.int .u8))))) (.pair (.sl (.pair (.pair (.int .i64) (.pair (.int .i64) (.sl (.int .u8)))) (.int .i64))) (.sl .bool))))) (by kernel_rfl) h0 (light_of hsz (i := 0) rfl rfl)
  have hc := law_calls (w := W) (ok4 fuel) (args := [.agg [.int .i64 a0, .int .i64 a1, .int .i64 a2, .bool a3, .int .i64 a4, .int .i64 a5, .int .i64 a6, .sl (.int .i64) a7, .sl (.pair (.int .i64) (.pair (.int .i64) (.sl (.int .u8)))) a8, .sl (.pair (.pair (.int .i64) (.pair (.int .i64) (.sl (.int .u8)))) (.int .i64)) a9, .sl .bool a10]]) (.cons ⟨u0, rfl, y0⟩ .nil) (fun k => (spec_eq fuel a0 a1 a2 a3 a4 a5 a6 a7 a8 a9 a10 k).trans (PureSymbolExported.pure a0 a1 a2 a3 a4 a5 a6 a7 a8 a9 a10 _ w0))
  refine hc.mono fun e W' ⟨he, bel⟩ => ?_
  subst he
  exact ⟨_, rfl, _, _, _, [], _, [], hW', trodAll_mk1 (shut_bool Tryz.underlying4 _), (trodAll_cons_mk (Below.trod laidOut (by kernel_rfl) (of_decide_eq_true (by kernel_rfl)) k0 bel lt0) trodAll_mk0), rfl, bel.frame _, fun h => by cases h⟩
theorem over : Rows.symbolExportedRow.holds Tryz.pinned (OpenSpec.ofChange Rows.symbolExportedSpec) :=
  OpenClaim.holds_of_wide 4 Tryz.f4 rfl rfl rfl rfl rfl rfl rfl ⟨rfl, rfl, rfl, rfl, rfl⟩ rfl rfl rfl rfl rfl (by kernel_rfl) Tryz.func4 (by kernel_rfl)
    (of_decide_eq_true (by kernel_rfl)) (by unfold Func.isWrapper; first | (rw [if_pos (by decide +kernel)]; kernel_rfl) | (rw [if_neg (by decide +kernel)]; exact ⟨rfl, rfl⟩))
    (fun os started H enc _ => lifted os started H enc)
end Go.Proofs.YtmjeeaemmbkioaaGreat.symbolExportedL
namespace Go.Proofs.YtmjeeaemmbkioaaGreat
theorem symbolExported_holds : Rows.SymbolExportedSaid := symbolExportedL.over
#print axioms symbolExported_holds
end Go.Proofs.YtmjeeaemmbkioaaGreat
