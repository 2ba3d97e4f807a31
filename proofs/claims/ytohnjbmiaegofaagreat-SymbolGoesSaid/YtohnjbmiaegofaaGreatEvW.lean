/- Maps with whole numbers as keys: what the machine does, and that it is what the evaluator says. -/
import Derived.MapFrom
import Derived.Carry
import Derived.Test.YtohnjbmiaegofaaGreatEvF
set_option linter.unusedVariables false
set_option linter.unusedSimpArgs false
set_option linter.unusedSectionVars false
namespace Go.Proofs.YtohnjbmiaegofaaGreat.Ev
open Go
abbrev DE (R:Nat→Prop) (w:World) (k:IntKind) (t:Ty) (x:Int×D t) (e:MapEntry):Prop:=e.key = .int k x.1∧rv R w t x.2 [e.val]
theorem All2.modify {α β:Type} {p:α→β→Prop} {f:β→β} {a:α}:∀ {l:List α} {m:List β},All2 p l m→∀ (j:Nat) (b:β),m[j]? = some b→p a (f b)→All2 p (l.set j a) (m.modify j f)
 | _,_,.nil,j,b,h,_=>by simp at h
 | _,_,.cons hp ht,0,b,h,hb=>by
  simp only [List.getElem?_cons_zero,Option.some.injEq] at h
  subst h
  exact .cons hb ht
 | _,_,.cons hp ht,j + 1,b,h,hb=>.cons hp (All2.modify ht j b (by simpa using h) hb)
theorem All2.erase {α β:Type} {p:α→β→Prop}:∀ {l:List α} {m:List β},All2 p l m→∀ (j:Nat),All2 p (l.eraseIdx j) (m.eraseIdx j)
 | _,_,.nil,j=>by simp; exact .nil
 | _,_,.cons hp ht,0=>ht
 | _,_,.cons hp ht,j + 1=>.cons hp (All2.erase ht j)
theorem find_spec {R:Nat→Prop} {w:World} {k:IntKind} {t:Ty} {n:Int}:∀ {es:List (Int×D t)} {l:List MapEntry} (i:Nat),All2 (DE R w k t) es l→
  (mhas n es = false∧(∀ d,mget d n es = d)∧(∀ u,mput n u es = es++ [(n,u)])∧mdel n es = es∧Instr.findNow (.int k) (.int k n) l i = some none)∨
  ∃ (j:Nat) (x:D t) (e:MapEntry),mhas n es = true∧l[j]? = some e∧e.key = .int k n∧(∀ d,mget d n es = x)∧rv R w t x [e.val]∧(∀ u,mput n u es = es.set j (n,u))∧mdel n es = es.eraseIdx j∧Instr.findNow (.int k) (.int k n) l i = some (some (i + j,e.val))
 | _,_,i,.nil=>.inl ⟨rfl,fun _=>rfl,fun _=>rfl,rfl,rfl⟩
 | (m,v)::es,e::l,i,.cons ⟨h1,h2⟩ ht=>by
  have hs:Instr.sameNow (.int k) (.int k n) e.key = some (n==m):=by rw [h1]; simp [Instr.sameNow]
  by_cases hnm:n = m
  ·subst hnm
   right
   refine ⟨0,v,e,by simp [mhas],rfl,h1,fun d=>by simp [mget],h2,fun u=>by simp [mput],by simp [mdel], ?_⟩
   simp [Instr.findNow,hs]
  ·have hs':Instr.sameNow (.int k) (.int k n) e.key = some false:=by rw [hs]; simp [hnm]
   rcases find_spec (n:=n) (i + 1) ht with ⟨a1,a2,a3,a4,a5⟩ | ⟨j,x,e',a1,a2,a3,a4,a5,a6,a7,a8⟩
   ·left
    refine ⟨by simp [mhas,hnm,a1],fun d=>by simp [mget,hnm,a2],fun u=>by simp [mput,hnm,a3],by simp [mdel,hnm,a4], ?_⟩
    simp [Instr.findNow,hs',a5]
   ·right
    refine ⟨j + 1,x,e',by simp [mhas,hnm,a1],by simpa using a2,a3,fun d=>by simp [mget,hnm,a4],a5,fun u=>by simp [mput,hnm,a6],by simp [mdel,hnm,a7], ?_⟩
    simp [Instr.findNow,hs',a8]
    omega
section
variable {P:Program} {tab:TypeId→Option TI} {G:Nat→Option Spec} (hP:TabOK P tab) {c:Cx} {st:St} {a:Act} {w:World} {k:SV→St→Option Ans} {r:Ans}
variable {Kp:Act→World→Prop} {Q:Exit→Act→World→Prop} {dst:Option Tmp} {ty:TypeId} {pos:String} {after:Array Edge} {guard:Option (Nat×Bool)}
include hP
theorem mapTI_ok {t:TypeId} {kk:IntKind} {ei:TI} (h:mapTI tab t = some (kk,ei)):∃ kt et,P.underlying t = some (.map kt et)∧P.underlying kt = some (.int kk)∧TIok P et ei:=by
 unfold mapTI at h
 split at h
 ·rename_i kt et _ _ _ _ _ ht
  split at h
  ·rename_i kk' _ _ _ _ _ ei' hk he
   cases h
   exact ⟨kt,et,(hP _ _ ht).und,(hP _ _ hk).und,hP _ _ he⟩
  ·cases h
 ·cases h
theorem s_makeMap {t:TypeId} {n:Option Operand} (h:evalOp tab G ⟨dst,.makeMap t n,ty,pos,after,guard⟩ st k = some r) (hr:Rel c st a w) (hk:Kok c a k r dst Kp):(⟨dst,.makeMap t n,ty,pos,after,guard⟩:Oper).wp P a w Kp Q:=by
 obtain ⟨R,μ,hr⟩:=hr
 cases n with
 | some n=>cases h
 | none=>
  simp only [evalOp,e_makeMap] at h
  split at h
  ·rename_i kk ei ht
   split at h
   ·rename_i ty' hty
    obtain ⟨hf,h⟩:=cond_some hP h
    refine wp_value (v:=.map (some w.heap.size)) (w':=w.alloc (.map #[] 0)) rfl (hk _ _ _ _ h ⟨R,_,hr.new (v:=.map (some w.heap.size)) (Chg.alloc _ w _) ⟨w.heap.size, #[],0,by simp [upd],(MapKept.heap_alloc w _).1,.nil⟩ (fun b hb=>by cases hb; exact Nat.le_refl _) (fun _ _ _ e=>by cases e), ?_⟩)
    exact ⟨by simp [upd],_,rfl⟩
   ·cases h
  ·cases h
theorem run_look {t kt et:TypeId} {kk:IntKind} {n:Int} {arr:Array MapEntry} {clk b:Nat} {ok:Bool} {zv:Value} {f:Option (Nat×Value)} (ht:P.underlying t = some (.map kt et)) (hk:P.underlying kt = some (.int kk))
  (hb:w.heap[b]? = some (.map arr clk)) (hz:(zeroValue et).run P w = .ok zv w) (hf:Instr.findNow (.int kk) (.int kk n) arr.toList 0 = some f):
  (Instr.lookup t (.map (some b)) (.int kk n) ok).run P w = .ok (match f with
   | some (_,v)=>if ok then .tuple #[v,.bool true] else v
   | none=>if ok then .tuple #[zv,.bool false] else zv) w:=by
 have hkey:MapKept.IsKey (.int kk) (.int kk n):=rfl
 cases f with
 | none=>simp [Instr.lookup,run_underlying ht,MapKept.run_getObj_map hb,MapKept.run_checkKey hk hkey,MapKept.run_findKey hk hf,hz,Result.andThen]
 | some p=>simp [Instr.lookup,run_underlying ht,MapKept.run_getObj_map hb,MapKept.run_checkKey hk hkey,MapKept.run_findKey hk hf,Result.andThen]
omit hP in
theorem flat_cell {R:Nat→Prop} {μ:Nat→Option Value} {t:Ty} {x:D t} {v:Value} (hf:flatTy t = true) (h:rv R w t x [v]):∃ z,toC t x = [z]∧cr R w μ z v:=by
 cases t with
 | int k=>simp only [rv] at h; cases h; exact ⟨_,rfl,rfl⟩
 | bool=>simp only [rv] at h; cases h; exact ⟨_,rfl,rfl⟩
 | _=>cases hf
theorem s_lookup {t:TypeId} {x y:Operand} {ok:Bool} (h:evalOp tab G ⟨dst,.lookup t x y ok,ty,pos,after,guard⟩ st k = some r) (hr:Rel c st a w) (hk:Kok c a k r dst Kp):(⟨dst,.lookup t x y ok,ty,pos,after,guard⟩:Oper).wp P a w Kp Q:=by
 obtain ⟨R,μ,hr⟩:=hr
 simp only [evalOp,e_lookup] at h
 split at h
 ·rename_i kk ei i kb n ht hx hy
  obtain ⟨kt,et,g1,g2,g3⟩:=mapTI_ok hP ht
  have ex:cr R w μ (.mp i) (a.eval x):=opd_vr hr hx
  have ey:a.eval y = .int kb n:=opd_vr hr hy
  split at h
  ·rename_i k2 ty1 es hl
   split at h
   ·rename_i ty' hty
    obtain ⟨hc,h'⟩:=cond_some hP h
    simp only [Bool.and_eq_true,decide_eq_true_eq,Bool.not_eq_true'] at hc
    clear h
    obtain ⟨⟨⟨⟨rfl,rfl⟩,rfl⟩,hfl⟩,hag⟩:=hc
    obtain ⟨b,arr,clk,e1,e2,e3⟩:=hr.mem.heap.ob _ _ hl
    have em:a.eval x = .map (some b):=by
     have:=ex.1
     rw [e1] at this
     exact (Option.some.inj this).symm
    obtain ⟨zv,z1,z2⟩:=g3.rflat w hag
    have hz:rv R w ty1 (dflt ty1) [zv]:=by
     obtain ⟨us,u1,u2⟩:=zok_rv (R:=R) (w:=w) (g3.zty _ hty)
     rw [z2,List.append_nil] at u1
     rw [u1]
     exact u2
    have main:∀ f (v:Value) (bb:Bool),Instr.findNow (.int kk) (.int kk n) arr.toList 0 = some f→(match f with | some (_,v)=>(v,true) | none=>(zv,false)) = (v,bb)→rv R w ty1 (mget (dflt ty1) n es) [v]→mhas n es = bb→(⟨dst,.lookup t x y ok,ty,pos,after,guard⟩:Oper).wp P a w Kp Q:=by
     intro f v bb hf hv hrv hbb
     obtain ⟨z,q1,q2⟩:=flat_cell (μ:=μ) hfl hrv
     have run:(execOp a.eval ⟨dst,.lookup t x y ok,ty,pos,after,guard⟩).run P w = .ok (.value (if ok then .tuple #[v,.bool bb] else v)) w:=by
      have:=run_look hP (ok:=ok) g1 g2 e2 z1 hf
      simp only [execOp,em,ey,Sem.run_bind,this,Result.andThen_ok,Sem.run_pure]
      cases f with
      | none=>cases hv; rfl
      | some p=>cases hv; rfl
     cases ok with
     | true=>
      refine wp_value run (hk _ _ _ _ h' ⟨R,μ,hr,_,rfl, ?_⟩)
      rw [q1,hbb]
      exact .cons ⟨z,rfl,q2⟩ (.cons ⟨_,rfl,rfl⟩ .nil)
     | false=>
      simp only [q1] at h'
      exact wp_value run (hk _ _ _ _ h' ⟨R,μ,hr,q2⟩)
    rcases find_spec (n:=n) 0 e3 with ⟨a1,a2,a3,a4,a5⟩ | ⟨j,v,e,a1,a2,a3,a4,a5,a6,a7,a8⟩
    ·exact main _ zv false a5 rfl (by rw [a2]; exact hz) a1
    ·exact main _ e.val true a8 rfl (by rw [a4]; exact a5) a1
   ·cases h
  ·cases h
 ·cases h
omit hP in
theorem Chg.map (w:World) (b:Nat) (o:Obj):Chg (· = b) w { w with heap:=w.heap.setIfInBounds b o }:=by
 refine ⟨rfl,rfl,rfl,by simp,fun b' hb hn=> ?_⟩
 simp [Ne.symm hn]
theorem s_mapUpdate {t:TypeId} {x y z:Operand} (h:evalOp tab G ⟨dst,.mapUpdate t x y z,ty,pos,after,guard⟩ st k = some r) (hr:Rel c st a w) (hk:Kok c a k r dst Kp):(⟨dst,.mapUpdate t x y z,ty,pos,after,guard⟩:Oper).wp P a w Kp Q:=by
 obtain ⟨R,μ,hr⟩:=hr
 simp only [evalOp,e_mapUpdate] at h
 split at h
 ·rename_i kk ei i kb n ht hx hy
  obtain ⟨kt,et,g1,g2,g3⟩:=mapTI_ok hP ht
  have ex:cr R w μ (.mp i) (a.eval x):=opd_vr hr hx
  have ey:a.eval y = .int kb n:=opd_vr hr hy
  split at h
  ·rename_i k2 ty1 es v hl hv
   obtain ⟨hc,h'⟩:=cond_some hP h
   simp only [Bool.and_eq_true,decide_eq_true_eq] at hc
   clear h
   obtain ⟨⟨rfl,rfl⟩,hfl⟩:=hc
   split at h'
   ·rename_i u hu
    have ev:cr R w μ v (a.eval z):=opd_vr hr hv
    have hrv:rv R w ty1 u [a.eval z]:=ofC1_rv hP hu (.cons ev .nil)
    obtain ⟨b,arr,clk,e1,e2,e3⟩:=hr.mem.heap.ob _ _ hl
    have em:a.eval x = .map (some b):=by
     have:=ex.1
     rw [e1] at this
     exact (Option.some.inj this).symm
    have hlb:lb μ (fun i=>look i st.hp) i b:=⟨_,_,hl,rfl,e1,rfl⟩
    have hkey:MapKept.IsKey (.int kk) (.int kk n):=rfl
    have hkeep:∀ o,Keeps R w { w with heap:=w.heap.setIfInBounds b o }:=fun o=>(Chg.map w b o).keeps fun b' hr' _ e'=>hr.mem.heap.out i b hlb (e' ▸ hr')
    rcases find_spec (n:=n) 0 e3 with ⟨a1,a2,a3,a4,a5⟩ | ⟨j,v',e,a1,a2,a3,a4,a5,a6,a7,a8⟩
    ·refine wp_skip' (w':= { w with heap:=w.heap.setIfInBounds b (.map (arr.push ⟨.int kk n,a.eval z,clk⟩) (clk + 1)) }) ?_ (hk _ _ _ _ h' ⟨R,μ,hr.store hlb (Chg.map w b _) ⟨b,_,_,e1,(MapKept.heap_set e2).1, ?_⟩ (fun _ _ _ e=>by cases e),trivial⟩)
     ·simp [execOp,em,ey,Instr.mapUpdate,run_underlying g1,MapKept.run_getObj_map e2,MapKept.run_checkKey g2 hkey,MapKept.run_findKey g2 a5,MapKept.run_setObj_map _ e2,Result.andThen]
     ·rw [a3,Array.toList_push]
      exact (e3.mono fun _ _ h=>⟨h.1,rv_keep (hkeep _) (fun _ h=>h) h.2⟩).append (.cons ⟨rfl,rv_keep (hkeep _) (fun _ h=>h) hrv⟩ .nil)
    ·have hj:arr[j]? = some e:=by simpa using a2
     refine wp_skip' (w':= { w with heap:=w.heap.setIfInBounds b (.map (arr.modify j fun e=> { e with key:=.int kk n,val:=a.eval z }) clk) }) ?_ (hk _ _ _ _ h' ⟨R,μ,hr.store hlb (Chg.map w b _) ⟨b,_,_,e1,(MapKept.heap_set e2).1, ?_⟩ (fun _ _ _ e=>by cases e),trivial⟩)
     ·simp [execOp,em,ey,Instr.mapUpdate,run_underlying g1,MapKept.run_getObj_map e2,MapKept.run_checkKey g2 hkey,MapKept.run_findKey g2 a8,hj,a3,MapKept.run_keyThatStays hkey,MapKept.run_setObj_map _ e2,Result.andThen]
     ·rw [a6,Array.toList_modify]
      exact (e3.mono fun _ _ h=>⟨h.1,rv_keep (hkeep _) (fun _ h=>h) h.2⟩).modify j e a2 ⟨rfl,rv_keep (hkeep _) (fun _ h=>h) hrv⟩
   ·cases h'
  ·cases h
 ·cases h
theorem run_del {t kt et ty:TypeId} {ats:List TypeId} {kk:IntKind} {n:Int} {arr:Array MapEntry} {clk b:Nat} {f:Option (Nat×Value)} (ht:P.underlying t = some (.map kt et)) (hk:P.underlying kt = some (.int kk))
  (hb:w.heap[b]? = some (.map arr clk)) (hf:Instr.findNow (.int kk) (.int kk n) arr.toList 0 = some f):
  (Builtin.delete_ (t::ats).toArray ty #[.map (some b),.int kk n]).run P w = .ok (.tuple #[]) { w with heap:=w.heap.setIfInBounds b (.map (match f with | some (j,_)=>arr.eraseIdxIfInBounds j | none=>arr) clk) }:=by
 have hkey:MapKept.IsKey (.int kk) (.int kk n):=rfl
 cases f with
 | none=>simp [Builtin.delete_,run_underlying ht,MapKept.run_getObj_map hb,MapKept.run_checkKey hk hkey,MapKept.run_findKey hk hf,MapKept.run_setObj_map _ hb,Result.andThen]
 | some p=>simp [Builtin.delete_,run_underlying ht,MapKept.run_getObj_map hb,MapKept.run_checkKey hk hkey,MapKept.run_findKey hk hf,MapKept.run_setObj_map _ hb,Result.andThen]
end
end Go.Proofs.YtohnjbmiaegofaaGreat.Ev
