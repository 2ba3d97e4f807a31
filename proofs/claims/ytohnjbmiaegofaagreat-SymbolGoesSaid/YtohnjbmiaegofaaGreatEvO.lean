/- Functions: a function of the program does what the evaluator says. -/
import Derived.Test.YtohnjbmiaegofaaGreatEvM
import Derived.Laws.Sem
set_option linter.unusedVariables false
set_option linter.unusedSimpArgs false
set_option linter.unusedSectionVars false
namespace Go.Proofs.YtohnjbmiaegofaaGreat.Ev
open Go
section
variable {P:Program} {tab:TypeId→Option TI} {G:Nat→Option Spec} (hP:TabOK P tab) (hG:GOK P G)
include hP hG
theorem res_list {c:Cx} {st:St} {a:Act} {w:World} {R:Nat→Prop} {μ:Nat→Option Value} (hr:RelB c st a w R μ) (g:ResultVar→Sem Value)
  (h1:∀ t,g (.tmp t) = pure (a.tmps.getD t Go.undef)) (h2:∀ x t,g (.cell x t) = do loadVar t (← asAddr (a.tmps.getD x Go.undef))):
  ∀ {rs:List ResultVar} {l:List (Bool×List SC)},resV tab st rs = some l→∃ us,(rs.mapM g).run P w = .ok us w∧All2 (pr R w μ) l us
 | [],l,h=>by cases h; exact ⟨[],rfl,.nil⟩
 | .tmp t::rs,l,h=>by
  simp only [resV] at h
  split at h
  ·rename_i x hx
   split at h
   ·rename_i l' hl
    cases h
    obtain ⟨us,e1,e2⟩:=res_list hr g h1 h2 hl
    refine ⟨a.tmps.getD t Go.undef::us, ?_,.cons ⟨x,rfl,hr.env t _ hx⟩ e2⟩
    rw [List.mapM_cons]
    simp [h1,e1]
   ·cases h
  ·rename_i cs hx
   split at h
   ·rename_i l' hl
    cases h
    obtain ⟨us,e1,e2⟩:=res_list hr g h1 h2 hl
    refine ⟨a.tmps.getD t Go.undef::us, ?_,.cons (hr.env t _ hx) e2⟩
    rw [List.mapM_cons]
    simp [h1,e1]
   ·cases h
  ·cases h
 | .cell x t::rs,l,h=>by
  simp only [resV] at h
  split at h
  ·rename_i i ti hx ht
   have ht:=hP _ _ ht
   obtain ⟨b,hm,he⟩:=hr.env x _ hx
   split at h
   ·rename_i e cs hl
    obtain ⟨b',arr,g1,g2,g3,g4⟩:=hr.mem.heap.ob i _ hl
    rw [hm] at g1
    cases g1
    have hat:At w b 0 arr.toList:=fun j u hj=>by
     rw [Nat.zero_add]
     have:=cell_of_row w b j arr e (0,0) g2
     rw [this, ← Array.getElem?_toList]
     exact hj
    split at h
    ·rename_i cs' hp
     split at h
     ·rename_i l' hl'
      cases h
      obtain ⟨us,e1,e2⟩:=res_list hr g h1 h2 hl'
      obtain ⟨u,hu,hv⟩:=run_loadVar_at ht g3 hat hp
      rw [Nat.zero_add] at hu
      refine ⟨u::us, ?_,.cons hv e2⟩
      rw [List.mapM_cons]
      simp [h2,he,asAddr,hu,e1]
     ·cases h
    ·rename_i x' hp
     split at h
     ·rename_i l' hl'
      cases h
      obtain ⟨us,e1,e2⟩:=res_list hr g h1 h2 hl'
      obtain ⟨u,hu,hv⟩:=run_loadVar_at ht g3 hat hp
      rw [Nat.zero_add] at hu
      refine ⟨u::us, ?_,.cons ⟨x',rfl,hv⟩ e2⟩
      rw [List.mapM_cons]
      simp [h2,he,asAddr,hu,e1]
     ·cases h
    ·cases h
   ·cases h
  ·cases h
theorem resOf_vr {R:Nat→Prop} {w:World} {μ:Nat→Option Value} {l:List (Bool×List SC)} {us:List Value} (h:All2 (pr R w μ) l us):
  vr R w μ (resOf l) (if h:us.toArray.size = 1 then us.toArray[0] else .tuple us.toArray):=by
 have hl:=h.length
 unfold resOf
 split
 ·cases h with
  | cons hp ht=>
   cases ht
   exact hp
 ·cases h with
  | cons hp ht=>
   cases ht
   obtain ⟨y,e,hc⟩:=hp
   cases e
   exact hc
 ·rename_i hn1 hn2
  split
  ·rename_i h1
   exfalso
   have h1:us.length = 1:=by simpa using h1
   cases h with
   | nil=>simp at h1
   | @cons p u _ _ hp ht=>
    cases ht with
    | cons _ _=>simp at h1
    | nil=>
     obtain ⟨b,cs⟩:=p
     cases b with
     | true=>exact hn1 cs rfl
     | false=>
      obtain ⟨y,e,hc⟩:=hp
      subst e
      exact hn2 y rfl
  ·exact ⟨us.toArray,rfl,by simpa using h⟩
variable (hm:P.follows .mixedOrders = true)
variable {J:Nat→Option Blk} {kp:Nat→Option (List Nat)} {fuel:Nat}
include hm
theorem fn_ok {f:FuncId} {fn:Func} {c:Code} (hf:P.funcs[f]? = some fn) (hb:fn.body = some c) (hJ:∀ q ∈ obl J c,BlkOK P fn.ntmps q.1 q.2):FnOK P f (evalFn tab G J kp fuel fn):=by
 intro args objs k r h w R μ vals hH hdom hargs
 unfold evalFn at h
 rw [hb] at h
 simp only at h
 cases hc:(Nat.ble args.length fn.ntmps&&codeFit fn.ntmps c) with
 | false=>rw [hc] at h; cases h
 | true=>
 rw [hc] at h
 simp only [cond_true] at h
 simp only [Bool.and_eq_true] at hc
 obtain ⟨hle,hfit⟩:=hc
 have hle:=Nat.le_of_ble_eq_true hle
 have hlen:=hargs.length
 let cx:Cx:=⟨w,fun b=>∃ i,lb μ (fun i=>objs[i]?) i b,R,μ,fun _=>True,fn.ntmps,objs.length⟩
 have hhp:(fun i=>look i (number 0 objs)) = fun i=>objs[i]? :=by
  funext i
  rw [look_number hP hG]
  simp
 have hrel:Rel cx { env:=number 0 args,hp:=number 0 objs,nx:=objs.length,n:=objs.length } { tmps:=vals.toArray++Array.replicate (fn.ntmps - vals.toArray.size) Go.undef,defers:=[] } w:=by
  refine ⟨R,μ,⟨fun d v hd=> ?_,⟨by rw [hhp]; exact hH,hdom,⟨rfl,rfl,rfl,Nat.le_refl _,fun _ _ _=>rfl⟩,fun _ h=>h,fun _ h _=>.inl h,fun i b hi _=>⟨i,by rw [hhp] at hi; exact hi⟩,fun _ _ _ h _=>h,rfl,fun i e t xs hi=>⟨?_,trivial,rfl⟩⟩, ?_,rfl⟩⟩
  ·have hd:look d (number 0 args) = some v:=hd
   rw [look_number hP hG] at hd
   simp only [Nat.zero_le,if_true,Nat.sub_zero] at hd
   obtain ⟨u,hu,hv⟩:=hargs.get d v hd
   have hdl:d < vals.length:=(List.getElem?_eq_some_iff.1 hu).1
   simp only [Array.getD_eq_getD_getElem?]
   rw [Array.getElem?_append_left (by simpa using hdl)]
   simp only [List.getElem?_toArray,hu,Option.getD_some]
   exact hv
  ·have hi:(fun i=>look i (number 0 objs)) i = some (.vec e t xs false):=hi
   rw [hhp] at hi
   exact (List.getElem?_eq_some_iff.1 hi).1
  ·show (vals.toArray++Array.replicate (fn.ntmps - vals.toArray.size) Go.undef).size = fn.ntmps
   simp
   omega
 refine calls_of_wp hf hb (code_ok hP hG hm c (c:=cx) hfit hJ h hrel ?_)
 have fin:∀ st a w2,(match finish tab fn.results.toList st with | some r=>k r | none=>none) = some r→Rel cx st a w2→
   a.defers = []∧∃ v,(results fn a.tmps).run P w2 = .ok v w2∧∃ v' res objs' R' μ',(Ending.returned v = .returned v')∧k (res,objs') = some r∧objs.length≤objs'.length∧Behind w R μ objs res objs' v' w2 R' μ':=by
  rintro st a w2 h ⟨R2,μ2,hr⟩
  refine ⟨hr.defs, ?_⟩
  split at h
  ·rename_i res hfin
   unfold finish at hfin
   split at hfin
   ·rename_i l hl
    simp only at hfin
    generalize clos st.hp 200 (addAll (upto st.n 0) ((resOf l).cells.flatMap SC.refs)) (addAll (upto st.n 0) ((resOf l).cells.flatMap SC.refs)) = ids at hfin
    cases hq:(nodup ids&&Ev.first st.n ids) with
    | false=>rw [hq] at hfin; cases hfin
    | true=>
     rw [hq] at hfin
     simp only [cond_true,Option.some.injEq] at hfin
     subst hfin
     simp only [Bool.and_eq_true] at hq
     obtain ⟨hnd,hfi⟩:=hq
     have hnd:=nodup_iff hnd
     have hfi:=first_get hP hG st.n 0 ids hfi
     have hn:st.n = objs.length:=hr.mem.n
     obtain ⟨us,e1,e2⟩:=res_list hP hG hr (fun | .tmp t=>pure (a.tmps.getD t Go.undef) | .cell x t=>do loadVar t (← asAddr (a.tmps.getD x Go.undef))) (fun _=>rfl) (fun _ _=>rfl) hl
     have hres:=resOf_vr hP hG e2
     refine ⟨(if h:us.toArray.size = 1 then us.toArray[0] else .tuple us.toArray), ?_,_,(resOf l).map (ren ids),obs st.hp ids ids,R2,fun j=>(ids[j]?).bind μ2,rfl,h, ?_, ?_⟩
     ·unfold results
      rw [Array.mapM_eq_mapM_toList]
      simp only [Sem.run_bind,map_eq_pure_bind]
      erw [e1]
      rfl
     ·rw [obs_len, ← hn]
      rcases Nat.eq_zero_or_pos st.n with h0 | h0
      ·omega
      ·have:=hfi (st.n - 1) (by omega)
       have:=(List.getElem?_eq_some_iff.1 this).1
       omega
     ·obtain ⟨hH2,hlb⟩:=obs_inv hP hG hr.mem.heap hnd
      refine ⟨map_vr (fun x u=>ren_cr ?_) hres,hH2,fun j v hv=> ?_,hr.mem.fr,hr.mem.rlo,hr.mem.rhi,fun j b hj hb=> ?_,fun i v hi hv hs=> ?_,fun i e t xs hi hl=> ?_⟩
      ·intro i j hj v hv
       rw [idx_some hj]
       exact hv
      ·rw [obs_len]
       cases hj:ids[j]? with
       | none=>simp only [hj] at hv; cases hv
       | some i=>exact (List.getElem?_eq_some_iff.1 hj).1
      ·obtain ⟨i,_,hi⟩:=hlb j b hj
       exact hr.mem.own i b hi hb
      ·have h1:=hr.mem.pins i v hi hv hs
       have h2:=hfi i (by rw [hn]; exact hi)
       simp only [h2,Nat.zero_add]
       exact h1
      ·obtain ⟨i',xs',h8,h9⟩:=obs_vec hP hG hi
       have h2:=hfi i (by rw [hn]; exact hl)
       rw [Nat.zero_add] at h2
       rw [h2] at h8
       cases h8
       simp only [h2]
       exact (hr.mem.stay i e t xs' h9).2.2
   ·cases hfin
  ·cases h
 intro e st a w2 h hr
 have hfz:Rel cx (frzRes tab (kp 600000) fn.results.toList st) a w2:=by
  unfold frzRes
  split
  ·exact hr
  ·split
   ·obtain ⟨R,μ,hr⟩:=hr
    exact ⟨_,μ,hr.frozen _⟩
   ·exact hr
 cases e with
 | exit i=>cases h
 | normal=>exact fin _ a w2 h hfz
 | ret=>exact fin _ a w2 h hfz
end
def wkC (l:List Nat) (k:Cont):Cont:=fun r=>k (r.1,weak l 0 r.2)
theorem weak_len {l:List Nat}:∀ {n:Nat} {os:List Ob},(weak l n os).length = os.length
 | _,[]=>rfl
 | n,o::os=>by simp [weak,weak_len (n:=n + 1) (os:=os)]
theorem weak_get2 {keep:List Nat}:∀ {n:Nat} {l:List Ob} (j:Nat) (o:Ob),(weak keep n l)[j]? = some o→∃ o':Ob,l[j]? = some o'∧(o = o'∨o = o'.flag true)
 | _,[],j,o,h=>by simp [weak] at h
 | n,x::l,j,o,h=>by
  simp only [weak] at h
  cases j with
  | zero=>
   refine ⟨x,rfl, ?_⟩
   cases hb:has (1000000 + n) keep with
   | true=>rw [hb] at h; simp at h; exact .inr h.symm
   | false=>rw [hb] at h; simp at h; exact .inl h.symm
  | succ j=>simpa using weak_get2 (n:=n + 1) (l:=l) j o (by simpa using h)
theorem Behind.wk {w:World} {R:Nat→Prop} {μ:Nat→Option Value} {objs:List Ob} {res:SV} {objs':List Ob} {v:Value} {w':World} {R':Nat→Prop} {μ':Nat→Option Value} (l:List Nat) (h:Behind w R μ objs res objs' v w' R' μ'):
  Behind w R μ objs res (weak l 0 objs') v w' R' μ':=by
 have hlbw:∀ j b,lb μ' (fun i=>(weak l 0 objs')[i]?) j b→lb μ' (fun i=>objs'[i]?) j b:=by
  rintro j b ⟨o,v,h1,h2,h3,h4⟩
  obtain ⟨o',h5,rfl | rfl⟩:=weak_get2 j o h1
  ·exact ⟨_,v,h5,h2,h3,h4⟩
  ·exact ⟨o',v,h5,by rw [← flag_live true]; exact h2,h3,h4⟩
 refine ⟨h.res,⟨fun j o ho=> ?_,fun i j b h1 h2=>h.heap.apart i j b (hlbw i b h1) (hlbw j b h2),fun j b h1=>h.heap.out j b (hlbw j b h1),h.heap.ex⟩,fun i v hv=>by rw [weak_len]; exact h.dom i v hv,h.fr,h.rlo,h.rhi,fun i b hb hs=>h.own i b (hlbw i b hb) hs,h.pins,fun i e t xs hi hl=> ?_⟩
 ·obtain ⟨o',h5,rfl | rfl⟩:=weak_get2 j o ho
  ·exact h.heap.ob j _ h5
  ·exact flag_obr (h.heap.ob j _ h5)
 ·obtain ⟨o',h5,h6⟩:=weak_get2 i _ hi
  have h7:o' = .vec e t xs false:=by
   rcases h6 with h6 | h6
   ·exact h6.symm
   ·cases o' with
    | vec _ _ _ m=>simp [Ob.flag] at h6
    | _=>cases h6
  subst h7
  exact h.stay i e t xs h5 hl
theorem FnOK.wk {P:Program} {f:FuncId} {F:Spec} (h:FnOK P f F) (l:List Nat):FnOK P f (fun args objs k=>F args objs (wkC l k)):=by
 intro args objs k r hr w R μ vals h1 h2 h3
 intro cs
 obtain ⟨e,w',fr,⟨v,res,objs',R',μ',e1,e2,e3,e4⟩,rest⟩:=h args objs (wkC l k) r hr w R μ vals h1 h2 h3 cs
 exact ⟨e,w',fr,⟨v,res,weak l 0 objs',R',μ',e1,e2,by rw [weak_len]; exact e3,e4.wk l⟩,rest⟩
theorem FnOK.of {P:Program} {f:FuncId} {F F':Spec} (h:FnOK P f F) (hs:∀ args objs k r,F' args objs k = some r→F args objs k = some r):FnOK P f F':=
 fun args objs k r hr=>h args objs k r (hs args objs k r hr)
theorem enters_of {P:Program} {f:FuncId} {fn:Func} {c:Code} (hf:P.funcs[f]? = some fn) (hn:(fn.name== "runtime.NumGoroutine") = false) (hb:fn.body = some c):Enters P f:=
 fun args w=>by
  have h1:fn.name ≠ "runtime.NumGoroutine" :=by simpa using hn
  simp [callFunc,hf,h1,hb]
theorem gok_nil {P:Program}:GOK P (fun f=>Ev.look f ([]:List (Nat×Spec))):=fun _ _ h=>by cases h
theorem gok_cons {P:Program} {k:Nat} {v:Spec} {r:List (Nat×Spec)} (h:FnOK P (k % 1000000) v∧Enters P (k % 1000000)) (hr:GOK P (fun f=>Ev.look f r)):GOK P (fun f=>Ev.look f ((k,v)::r)):=by
 intro f F hl
 simp only [look_cons] at hl
 split at hl
 ·rename_i e; subst e; cases hl; exact h
 ·exact hr f F hl
def fuel:Nat:=18446744073709551616
def iter {V B:Type} (step:V→(V→Option Ans)→B→Option Ans):Nat→V→B→Option Ans
 | 0,_,_=>none
 | n + 1,v,b=>step v (fun v'=>iter step n v' b) b
def lc (kp:Nat→Option (List Nat)) (ky id:Nat) (R:St→Option Ans) (K:Ex→St→Option Ans):Ex→St→Option Ans:=fun e st=>match e with
 | .normal=>(match canonO (kp ky) st with | some st=>R st | none=>none)
 | .exit i=>bif Nat.beq i id then (match canonO (kp (100000 + id)) st with | some st=>K .normal st | none=>none) else (match canonO (kp (400000 + id)) st with | some st=>K (.exit i) st | none=>none)
 | .ret=>(match canonO (kp (400000 + id)) st with | some st=>K .ret st | none=>none)
theorem blk_loop {tab:TypeId→Option TI} {G:Nat→Option Spec} {J:Nat→Option Blk} {kp:Nat→Option (List Nat)} {fuel:Nat} {V B:Type} {S:V→St} {ks:(Ex→St→Option Ans)→B} {step:V→(V→Option Ans)→B→Option Ans} {c0:Code} {ky id:Nat}
  (hky:key c0 = ky) (hJ:J (100000 + id) = none) (hstep:∀ R K v,evalCode tab G J kp fuel c0 (S v) (lc kp ky id R K) = step v (fun v=>R (S v)) (ks K))
  {st:St} {K:Ex→St→Option Ans} {r:Ans} {v:V} (hs:canonO (kp ky) st = some (S v)) (h:iter step fuel v (ks K) = some r):evalCode tab G J kp fuel (.block id (.loop c0)) st K = some r:=by
 subst hky
 simp only [evalCode,hJ,hs]
 have key:∀ n v,loopK (evalCode tab G J kp fuel c0) (canonO (kp (key c0))) (fun e st=>match e with
   | .normal=>(match canonO (kp (100000 + id)) st with | some st=>K .normal st | none=>none)
   | .exit i=>bif Nat.beq i id then (match canonO (kp (100000 + id)) st with | some st=>K .normal st | none=>none) else (match canonO (kp (400000 + id)) st with | some st=>K (.exit i) st | none=>none)
   | .ret=>(match canonO (kp (400000 + id)) st with | some st=>K .ret st | none=>none)) n (S v) = iter step n v (ks K):=by
  intro n
  induction n with
  | zero=>intro v; rfl
  | succ n ih=>
   intro v
   simp only [loopK,iter]
   rw [← funext ih, ← hstep]
   congr 1
 exact (key fuel v).trans h
theorem blk_of {P:Program} {nt:Nat} {b:Code} {sp sp':Blk} (h:BlkOK P nt b sp) (hs:∀ st K r,sp' st K = some r→sp st K = some r):BlkOK P nt b sp':=
 fun c hc st K r a w Q hr=>h c hc st K r a w Q (hs st K r hr)
def findBlk (id:Nat):Code→Option Code
 | .seq a b=>match findBlk id a with | some c=>some c | none=>findBlk id b
 | .cond _ a b=>match findBlk id a with | some c=>some c | none=>findBlk id b
 | .block i c=>bif Nat.beq i id then some (.block i c) else findBlk id c
 | .loop c=>findBlk id c
 | _=>none
def bodyOf (id:Nat) (fn:Func):Code:=match fn.body with
 | some c=>(match findBlk id c with
  | some (.block _ (.loop d))=>d
  | _=>.skip)
 | none=>.skip
theorem cond_some' {b:Bool} {x:Option Ans} {r:Ans} (h:(bif b then x else none) = some r):b = true∧x = some r:=by
 cases b with
 | true=>exact ⟨rfl,h⟩
 | false=>cases h
theorem tiok_of {P:Program} {t:TypeId} {ti:TI} (h1:P.underlying t = some ti.desc) (h2:(P.info? t).map (fun i=>(i.size,i.bytes,i.zero.map fun z=>(z.cells.toList,aggV z))) = some (ti.size,ti.bytes,some (ti.zv,isAggD ti.desc)))
  (h3:(match ti.ty with | some ty=>zok ty ti.zv | none=>some []) = some [])
  (h4:(!ti.eqs || (!P.stoodInHeld t&&!P.eqGuardType P.depth t&&(match ti.desc with | .struct fs=>fs.toList.all fun f=>f.name != "_" | _=>true))) = true):TIok P t ti:=by
 refine ⟨h1, ?_,fun ty h=>by rw [h] at h3; exact h3,fun i zv hi hz=> ?_,fun he=> ?_⟩
 rotate_left
 ·rw [hi] at h2
  simp only [Option.map_some,hz,Option.some.injEq,Prod.mk.injEq] at h2
  exact h2.2.2.2
 ·rw [he] at h4
  simp only [Bool.not_true,Bool.false_or,Bool.and_eq_true,Bool.not_eq_true'] at h4
  refine ⟨h4.1.1,h4.1.2,fun fs hfs f hf=> ?_⟩
  have:=h4.2
  rw [hfs] at this
  have:=List.all_eq_true.1 this f hf
  simpa using this
 cases hi:P.info? t with
 | none=>rw [hi] at h2; cases h2
 | some i=>
  rw [hi] at h2
  simp only [Option.map_some,Option.some.injEq,Prod.mk.injEq] at h2
  obtain ⟨a,b,c⟩:=h2
  cases hz:i.zero with
  | none=>rw [hz] at c; cases c
  | some z=>
   rw [hz] at c
   simp only [Option.map_some,Option.some.injEq,Prod.mk.injEq] at c
   exact ⟨i,z,rfl,a,b,hz,c.1⟩
def alt (m:List SV→List Ob→Bool) (s t:Spec):Spec:=fun a o k=>bif m a o then s a o k else t a o k
theorem alt_ok {P:Program} {f:FuncId} {m:List SV→List Ob→Bool} {s t:Spec} (hs:FnOK P f s) (ht:FnOK P f t):FnOK P f (alt m s t):=by
 intro args objs k r h
 unfold alt at h
 cases hm:m args objs with
 | true=>rw [hm] at h; exact hs args objs k r h
 | false=>rw [hm] at h; exact ht args objs k r h
end Go.Proofs.YtohnjbmiaegofaaGreat.Ev
