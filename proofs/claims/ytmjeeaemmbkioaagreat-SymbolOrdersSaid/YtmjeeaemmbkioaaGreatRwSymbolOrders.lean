/- SymbolOrders: the statement holds: whatever it is given, the law answers true, and what it is given reads as it did. No condition. -/
import Derived.Test.YtmjeeaemmbkioaaGreatRows
import Derived.Test.YtmjeeaemmbkioaaGreatEvS
import Derived.Test.YtmjeeaemmbkioaaGreatFsSymbolOrders4
import Derived.Test.YtmjeeaemmbkioaaGreatPsSymbolOrders1
import Derived.WalkKit
import Derived.ProofKit
import Derived.OpenShut
import Derived.ShutString
import Derived.ChangeOld
import Derived.Below
import Derived.Carry
import Derived.SizedLaws
namespace Go.Proofs.YtmjeeaemmbkioaaGreat.symbolOrdersL
open Go Go.ChangeShapes Go.WideShapes Go.ChangeAt Go.RowKit Go.Proofs.YtmjeeaemmbkioaaGreat Ev
open Go.ChangeMaps (open_string shut_string)
set_option linter.unusedVariables false
theorem own : ownKnob Tryz.prog.godebug = none := by kernel_rfl
theorem laidOut : laidOutB Tryz.prog = true := by kernel_rfl
theorem spec_eq (fuel : Nat) (x0 : (List (Int × Int × (List Int)))) (k : Cont) : spec5 fuel [.c (.sl (.pair (.int .i64) (.pair (.int .i64) (.sl (.int .u8)))) x0)] [] k = F_law09_SymbolOrders fuel x0 (fun b => k (.c (.bool b), [])) := by kernel_rfl
set_option maxRecDepth 100000 in
theorem lifted (os : Os) (started : os.Started) (H : Type) (enc : TypeId × Value → H) :
    ReturnsInHanded {} Tryz.checked os 5 .any (Rows.symbolOrdersSpec.pre6 enc Tryz.prog Tryz.f5 Rows.symbolOrdersRow.domain false) (Rows.symbolOrdersSpec.post enc Tryz.prog Tryz.f5 false true false false) := by
  refine returnsInHanded_of_change_sized (C := Tryz.checked) own started (by kernel_rfl) Tryz.func5
    (ChangeSpec.witness6 (enc := enc) (C := Tryz.checked) false ⟨#[], #[.slice none 0 0], []⟩ 8 (by kernel_rfl) (by kernel_rfl) (by kernel_rfl) (by kernel_rfl)) ?_
  intro W base args ds gs before hval0 hW hcnd hsz0 _
  have hsz : (DataW.weightsEach Tryz.prog (Tryz.f5.params.toList ++ Rows.symbolOrdersSpec.plain.varTypes Tryz.prog) (ds ++ gs)).all (· ≤ reachBytes) = true := hsz0
  have hval : ∀ (j : Nat) t v, Tryz.f5.params[j]? = some t → args[j]? = some v → Value.okWide Tryz.prog W .any base t v := hval0
  have hW' := hW
  obtain ⟨p, q, hA0, hV, rfl, hfz, hnd⟩ := hW
  have hA : DataW.TrodAll enc Tryz.prog W 0 (fun _ => true) true Tryz.f5.params.toList args.toList ds p := hA0
  rw [Tryz.params5] at hA hval hsz
  obtain ⟨v0, vs0, d0, ds0, p0, q0, hargs, rfl, rfl, h0, r0⟩ := trodAll_cons hA
  obtain ⟨rfl, rfl, rfl⟩ := trodAll_nil r0
  obtain rfl : args = #[v0] := by cases args; simp_all
  obtain ⟨rfl, rfl⟩ := trodVars_none hV
  obtain ⟨b0, l0, c0, rfl⟩ := okWide_slice Tryz.underlying35 (hval 0 35 v0 rfl rfl)
  have k0 := h0
  have lt0 := trod_blocks k0
  obtain ⟨a0, y0, w0⟩ := arg_rv (m := 20) (.sl (.pair (.int .i64) (.pair (.int .i64) (.sl (.int .u8))))) (by kernel_rfl) h0 (light_of hsz (i := 0) rfl rfl)
  have hc := law_calls (w := W) (ok5 fuel) (args := [.c (.sl (.pair (.int .i64) (.pair (.int .i64) (.sl (.int .u8)))) a0)]) (.cons y0.one .nil) (fun k => (spec_eq fuel a0 k).trans (PureSymbolOrders.pure a0 _ w0))
  refine hc.mono fun e W' ⟨he, bel⟩ => ?_
  subst he
  exact ⟨_, rfl, _, _, _, [], _, [], hW', trodAll_mk1 (shut_bool Tryz.underlying4 _), (trodAll_cons_mk (Below.trod laidOut (by kernel_rfl) (of_decide_eq_true (by kernel_rfl)) k0 bel lt0) trodAll_mk0), rfl, bel.frame _, fun h => by cases h⟩
theorem over : Rows.symbolOrdersRow.holds Tryz.pinned (OpenSpec.ofChange Rows.symbolOrdersSpec) :=
  OpenClaim.holds_of_wide 5 Tryz.f5 rfl rfl rfl rfl rfl rfl rfl ⟨rfl, rfl, rfl, rfl, rfl⟩ rfl rfl rfl rfl rfl (by kernel_rfl) Tryz.func5 (by kernel_rfl)
    (of_decide_eq_true (by kernel_rfl)) (by unfold Func.isWrapper; first | (rw [if_pos (by decide +kernel)]; kernel_rfl) | (rw [if_neg (by decide +kernel)]; exact ⟨rfl, rfl⟩))
    (fun os started H enc _ => lifted os started H enc)
end Go.Proofs.YtmjeeaemmbkioaaGreat.symbolOrdersL
namespace Go.Proofs.YtmjeeaemmbkioaaGreat
theorem symbolOrders_holds : Rows.SymbolOrdersSaid := symbolOrdersL.over
#print axioms symbolOrders_holds
end Go.Proofs.YtmjeeaemmbkioaaGreat
