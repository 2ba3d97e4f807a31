/- FileReads: the statement holds: whatever it is given, the law answers true, and what it is given reads as it did. No condition. -/
import Derived.Test.YtihfgpfofmjbaaaRows
import Derived.Test.YtihfgpfofmjbaaaEvS
import Derived.Test.YtihfgpfofmjbaaaFsFileReads3
import Derived.Test.YtihfgpfofmjbaaaPsFileReads2
import Derived.WalkKit
import Derived.ProofKit
import Derived.OpenShut
import Derived.ShutString
import Derived.ChangeOld
import Derived.Below
import Derived.Carry
import Derived.SizedLaws
namespace Go.Proofs.Ytihfgpfofmjbaaa.fileReadsL
open Go Go.ChangeShapes Go.WideShapes Go.ChangeAt Go.RowKit Go.Proofs.Ytihfgpfofmjbaaa Ev
open Go.ChangeMaps (open_string shut_string)
set_option linter.unusedVariables false
theorem own : ownKnob Try.prog.godebug = none := by kernel_rfl
theorem laidOut : laidOutB Try.prog = true := by kernel_rfl
theorem spec_eq (fuel : Nat) (x0 : (List Int)) (k : Cont) : spec13 fuel [.c (.sl (.int .u8) x0)] [] k = F_law14_FileReads fuel x0 (fun b => k (.c (.bool b), [])) := by kernel_rfl
set_option maxRecDepth 100000 in
theorem lifted (os : Os) (started : os.Started) (H : Type) (enc : TypeId × Value → H) :
    ReturnsInHanded {} Try.checked os 13 .any (Rows.fileReadsSpec.pre6 enc Try.prog Try.f13 Rows.fileReadsRow.domain false) (Rows.fileReadsSpec.post enc Try.prog Try.f13 false true false false) := by
  refine returnsInHanded_of_change_sized (C := Try.checked) own started (by kernel_rfl) Try.func13
    (ChangeSpec.witness6 (enc := enc) (C := Try.checked) false ⟨#[], #[.slice none 0 0], []⟩ 8 (by kernel_rfl) (by kernel_rfl) (by kernel_rfl) (by kernel_rfl)) ?_
  intro W base args ds gs before hval0 hW hcnd hsz0 _
  have hsz : (DataW.weightsEach Try.prog (Try.f13.params.toList ++ Rows.fileReadsSpec.plain.varTypes Try.prog) (ds ++ gs)).all (· ≤ reachBytes) = true := hsz0
  have hval : ∀ (j : Nat) t v, Try.f13.params[j]? = some t → args[j]? = some v → Value.okWide Try.prog W .any base t v := hval0
  have hW' := hW
  obtain ⟨p, q, hA0, hV, rfl, hfz, hnd⟩ := hW
  have hA : DataW.TrodAll enc Try.prog W 0 (fun _ => true) true Try.f13.params.toList args.toList ds p := hA0
  rw [Try.params13] at hA hval hsz
  obtain ⟨v0, vs0, d0, ds0, p0, q0, hargs, rfl, rfl, h0, r0⟩ := trodAll_cons hA
  obtain ⟨rfl, rfl, rfl⟩ := trodAll_nil r0
  obtain rfl : args = #[v0] := by cases args; simp_all
  obtain ⟨rfl, rfl⟩ := trodVars_none hV
  obtain ⟨b0, l0, c0, rfl⟩ := okWide_slice Try.underlying25 (hval 0 25 v0 rfl rfl)
  have k0 := h0
  have lt0 := trod_blocks k0
  obtain ⟨a0, y0, w0⟩ := arg_rv (m := 20) (.sl (.int .u8)) (by kernel_rfl) h0 (light_of hsz (i := 0) rfl rfl)
  have hc := law_calls (w := W) (ok13 fuel) (args := [.c (.sl (.int .u8) a0)]) (.cons y0.one .nil) (fun k => (spec_eq fuel a0 k).trans (PureFileReads.pure a0 _ w0))
  refine hc.mono fun e W' ⟨he, bel⟩ => ?_
  subst he
  exact ⟨_, rfl, _, _, _, [], _, [], hW', trodAll_mk1 (shut_bool Try.underlying4 _), (trodAll_cons_mk (Below.trod laidOut (by kernel_rfl) (of_decide_eq_true (by kernel_rfl)) k0 bel lt0) trodAll_mk0), rfl, bel.frame _, fun h => by cases h⟩
theorem over : Rows.fileReadsRow.holds Try.pinned (OpenSpec.ofChange Rows.fileReadsSpec) :=
  OpenClaim.holds_of_wide 13 Try.f13 rfl rfl rfl rfl rfl rfl rfl ⟨rfl, rfl, rfl, rfl, rfl⟩ rfl rfl rfl rfl rfl (by kernel_rfl) Try.func13 (by kernel_rfl)
    (of_decide_eq_true (by kernel_rfl)) (by unfold Func.isWrapper; first | (rw [if_pos (by decide +kernel)]; kernel_rfl) | (rw [if_neg (by decide +kernel)]; exact ⟨rfl, rfl⟩))
    (fun os started H enc _ => lifted os started H enc)
end Go.Proofs.Ytihfgpfofmjbaaa.fileReadsL
namespace Go.Proofs.Ytihfgpfofmjbaaa
theorem fileReads_holds : Rows.FileReadsSaid := fileReadsL.over
#print axioms fileReads_holds
end Go.Proofs.Ytihfgpfofmjbaaa
