/- From a function's contract to what a row asks. -/
import Derived.Test.YtohnjbmiaegofaaGreatEvO
set_option linter.unusedVariables false
namespace Go.Proofs.YtohnjbmiaegofaaGreat.Ev
open Go Go.RowKit
def saysTrue:Res→Option Ans
 | (.c (.bool true),_)=>some ()
 | _=>none
theorem saysTrue_iff {r:Res} {u:Ans} (h:saysTrue r = some u):r.1 = .c (.bool true):=by
 obtain ⟨v,o⟩:=r
 unfold saysTrue at h
 split at h
 ·rename_i e; cases e; rfl
 ·cases h
theorem law_calls {P:Program} {f:FuncId} {F:Spec} {args:List SV} {vals:List Value} {w:World} (hF:FnOK P f F) (hv:All2 (vr (fun b=>b < w.heap.size) w (fun _=>none)) args vals) (h:∀ k:Cont,F args [] k = k (.c (.bool true),[])):
  Calls P f vals.toArray w fun e w'=>e = .returned (.bool true)∧Below w.heap.size w w':=by
 have hcall:=hF args [] saysTrue () (by rw [h]; rfl) w (fun b=>b < w.heap.size) (fun _=>none) vals
  ⟨fun i o ho=>by simp at ho,fun i j b h1 _=>(by obtain ⟨o,v,h1,_⟩:=h1; simp at h1),fun i b h1=>(by obtain ⟨o,v,h1,_⟩:=h1; simp at h1),fun b hb=>hb⟩ (fun i v hv=>by cases hv) hv
 refine hcall.mono ?_
 rintro e w' ⟨v,res,objs',R',μ',rfl,hk,_,hB⟩
 have hk:res = .c (.bool true):=saysTrue_iff hk
 subst hk
 have:v = .bool true:=hB.res
 subst this
 refine ⟨rfl,hB.fr.os,hB.fr.tape,hB.fr.output,hB.fr.size,fun b hb=>hB.fr.block b hb ?_⟩
 rintro ⟨i,o,v,h1,_⟩
 simp at h1
end Go.Proofs.YtohnjbmiaegofaaGreat.Ev
