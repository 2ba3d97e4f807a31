/- Regions, code, functions: the machine does what the evaluator says. -/
import Derived.Test.YtohnjbmiaegofaaGreatEvN
import Derived.LoopN
set_option linter.unusedVariables false
set_option linter.unusedSimpArgs false
set_option linter.unusedSectionVars false
namespace Go.Proofs.YtohnjbmiaegofaaGreat.Ev
open Go
section
variable {P:Program} {tab:TypeId→Option TI} {G:Nat→Option Spec} (hP:TabOK P tab) (hG:GOK P G)
include hP hG
theorem first_get:∀ (n i:Nat) (l:List Nat),first.go n i l = true→∀ j,j < n→l[j]? = some (i + j)
 | 0,i,l,h,j,hj=>by omega
 | n + 1,i,[],h,j,hj=>by cases h
 | n + 1,i,x::l,h,j,hj=>by
  simp only [first.go] at h
  cases hb:Nat.beq i x with
  | false=>rw [hb] at h; cases h
  | true=>
   rw [hb] at h
   have hb:=Nat.eq_of_beq_eq_true hb
   subst hb
   cases j with
   | zero=>rfl
   | succ j=>
    have:=first_get n (i + 1) l h j (by omega)
    simp only [List.getElem?_cons_succ,this]
    congr 1
    omega
theorem look_number {α:Type}:∀ (l:List α) (n i:Nat),look i (number n l) = if n≤i then l[i - n]? else none
 | [],n,i=>by simp [number,look]
 | x::l,n,i=>by
  simp only [number]
  rw [look_cons,look_number l (n + 1) i]
  by_cases h:n = i
  ·subst h; simp
  ·rw [if_neg h]
   by_cases h2:n≤i
   ·rw [if_pos (by omega),if_pos h2]
    rw [show i - n = (i - (n + 1)) + 1 from by omega,List.getElem?_cons_succ]
   ·rw [if_neg (by omega),if_neg h2]
theorem look_keepE {env:List (Nat×SV)} {d:Nat} {v:SV}:∀ {keep:List Nat},look d (keepE keep env) = some v→look d env = some v
 | [],h=>by simp [keepE,look] at h
 | e::keep,h=>by
  simp only [keepE] at h
  split at h
  ·rename_i u hu
   rw [look_cons] at h
   split at h
   ·rename_i he; cases h; subst he; exact hu
   ·exact look_keepE h
  ·exact look_keepE h
theorem obs_inv {R:Nat→Prop} {w:World} {μ:Nat→Option Value} {hp:List (Nat×Ob)} (hH:HInv R w μ (fun i=>look i hp)) {ids:List Nat} (hnd:Inj ids):
  HInv R w (fun j=>(ids[j]?).bind μ) (fun i=>(obs hp ids ids)[i]?)∧∀ j b,lb (fun j=>(ids[j]?).bind μ) (fun i=>(obs hp ids ids)[i]?) j b→∃ i,ids[j]? = some i∧lb μ (fun i=>look i hp) i b:=by
 have hidx:∀ i j,idx i ids = some j→∀ v,μ i = some v→(ids[j]?).bind μ = some v:=by
  intro i j hj v hv
  rw [idx_some hj]
  exact hv
 have hlb:∀ j b,lb (fun j=>(ids[j]?).bind μ) (fun i=>(obs hp ids ids)[i]?) j b→∃ i,ids[j]? = some i∧lb μ (fun i=>look i hp) i b:=by
  rintro j b ⟨o,v,h1,h2,h3,h4⟩
  simp only [obs_get] at h1
  cases hj:ids[j]? with
  | none=>rw [hj] at h1; cases h1
  | some i=>
   rw [hj] at h1
   simp only [Option.map_some,Option.some.injEq] at h1
   have h3':μ i = some v:=by simp only [hj] at h3; exact h3
   cases ho:look i hp with
   | none=>rw [ho] at h1; subst h1; cases h2
   | some o'=>
    rw [ho] at h1
    simp only at h1
    subst h1
    rw [live_map] at h2
    exact ⟨i,rfl,o',v,ho,h2,h3',h4⟩
 refine ⟨⟨fun j o ho=> ?_,fun i j b h1 h2=> ?_,fun j b h1 hr'=> ?_,hH.ex⟩,hlb⟩
 ·simp only [obs_get] at ho
  cases hj:ids[j]? with
  | none=>rw [hj] at ho; cases ho
  | some i=>
   rw [hj] at ho
   simp only [Option.map_some,Option.some.injEq] at ho
   cases ho':look i hp with
   | none=>rw [ho'] at ho; subst ho; trivial
   | some o'=>
    rw [ho'] at ho
    simp only at ho
    subst ho
    refine map_obr (Keeps.refl R w) (fun _ h=>h) (fun x u=>ren_cr hidx) (fun _ v hv=> ?_) (fun _ _ _ _ _=>rfl) (hH.ob i o' ho')
    simp only [hj]
    exact hv
 ·obtain ⟨i1,e1,g1⟩:=hlb i b h1
  obtain ⟨i2,e2,g2⟩:=hlb j b h2
  have:=hH.apart i1 i2 b g1 g2
  subst this
  exact nodup_inj hnd e1 e2
 ·obtain ⟨i1,e1,g1⟩:=hlb j b h1
  exact hH.out i1 b g1 hr'
theorem weak_get {keep:List Nat}:∀ {n:Nat} {l:List Ob} (j:Nat) (o:Ob),(weak keep n l)[j]? = some o→∃ o':Ob,l[j]? = some o'∧(o = o'∨o = o'.flag true)
 | _,[],j,o,h=>by simp [weak] at h
 | n,x::l,j,o,h=>by
  simp only [weak] at h
  cases j with
  | zero=>
   refine ⟨x,rfl, ?_⟩
   cases hb:has (1000000 + n) keep with
   | true=>rw [hb] at h; simp at h; exact .inr h.symm
   | false=>rw [hb] at h; simp at h; exact .inl h.symm
  | succ j=>simpa using weak_get (n:=n + 1) (l:=l) j o (by simpa using h)
theorem obs_vec {hp:List (Nat×Ob)} {ids0 l:List Nat} {j:Nat} {e:TypeId} {t:Ty} {xs:List (D t)} (h:(obs hp ids0 l)[j]? = some (.vec e t xs false)):∃ (i:Nat) (ys:List (D t)),l[j]? = some i∧look i hp = some (.vec e t ys false):=by
 rw [obs_get] at h
 cases hj:l[j]? with
 | none=>rw [hj] at h; cases h
 | some i=>
  rw [hj] at h
  simp only [Option.map_some,Option.some.injEq] at h
  cases ho:look i hp with
  | none=>rw [ho] at h; cases h
  | some o=>
   rw [ho] at h
   cases o with
   | vec e' t' xs' m=>
    simp only [Ob.map,Ob.vec.injEq] at h
    obtain ⟨rfl,rfl,h3,rfl⟩:=h
    exact ⟨i,xs',rfl,ho⟩
   | _=>cases h
theorem canon_ok {keep:List Nat} {c:Cx} {st st':St} {a:Act} {w:World} (h:canon keep st = some st') (hr:Rel c st a w):Rel c st' a w:=by
 unfold canon at h
 rw [forceN_eq] at h
 simp only at h
 generalize clos st.hp 200 (addAll (upto st.n 0) ((keepE keep st.env).flatMap fun p=>p.2.cells.flatMap SC.refs)) (addAll (upto st.n 0) ((keepE keep st.env).flatMap fun p=>p.2.cells.flatMap SC.refs)) = ids at h
 cases hb:(nodup ids&&first st.n ids) with
 | false=>rw [hb] at h; cases h
 | true=>
 rw [hb] at h
 simp only [cond_true,Option.some.injEq] at h
 subst h
 simp only [Bool.and_eq_true] at hb
 obtain ⟨hnd,hfi⟩:=hb
 have hnd:=nodup_iff hnd
 have hfi:=first_get hP hG st.n 0 ids hfi
 obtain ⟨R,μ,hr⟩:=hr
 obtain ⟨hH,hlb⟩:=obs_inv hP hG hr.mem.heap hnd
 have hhp:(fun i=>look i (number 0 (weak keep 0 (obs st.hp ids ids)))) = fun i=>(weak keep 0 (obs st.hp ids ids))[i]? :=by
  funext i
  rw [look_number hP hG]
  simp
 have hwk:∀ j o,(weak keep 0 (obs st.hp ids ids))[j]? = some o→∃ o':Ob,(obs st.hp ids ids)[j]? = some o'∧(o = o'∨o = o'.flag true):=weak_get hP hG
 have hlbw:∀ j b,lb (fun j=>(ids[j]?).bind μ) (fun i=>(weak keep 0 (obs st.hp ids ids))[i]?) j b→lb (fun j=>(ids[j]?).bind μ) (fun i=>(obs st.hp ids ids)[i]?) j b:=by
  rintro j b ⟨o,v,h1,h2,h3,h4⟩
  obtain ⟨o',h5,rfl | rfl⟩:=hwk j o h1
  ·exact ⟨_,v,h5,h2,h3,h4⟩
  ·exact ⟨o',v,h5,by rw [← flag_live true]; exact h2,h3,h4⟩
 have hHw:HInv R w (fun j=>(ids[j]?).bind μ) (fun i=>(weak keep 0 (obs st.hp ids ids))[i]?):=by
  refine ⟨fun j o ho=> ?_,fun i j b h1 h2=>hH.apart i j b (hlbw i b h1) (hlbw j b h2),fun j b h1=>hH.out j b (hlbw j b h1),hH.ex⟩
  obtain ⟨o',h5,rfl | rfl⟩:=hwk j o ho
  ·exact hH.ob j _ h5
  ·exact flag_obr (hH.ob j _ h5)
 refine ⟨R,fun j=>(ids[j]?).bind μ,⟨fun d v hd=> ?_,⟨by rw [hhp]; exact hHw,fun j v hv=> ?_,hr.mem.fr,hr.mem.rlo,hr.mem.rhi,fun j b hj=> ?_,fun i u hi hu hs=> ?_,hr.mem.n,fun j e t xs hj=> ?_⟩,hr.size,hr.defs⟩⟩
 ·have hd:look d (mapE (ren ids) (keepE keep st.env)) = some v:=hd
  rw [look_mapE] at hd
  cases hx:look d (keepE keep st.env) with
  | none=>rw [hx] at hd; cases hd
  | some x0=>
   rw [hx] at hd
   simp only [Option.map_some,Option.some.injEq] at hd
   subst hd
   refine map_vr (fun x u=>ren_cr ?_) (hr.env d x0 (look_keepE hP hG hx))
   intro i j hj v hv
   rw [idx_some hj]
   exact hv
 ·show j < ids.length
  cases hj:ids[j]? with
  | none=>simp only [hj] at hv; cases hv
  | some i=>exact (List.getElem?_eq_some_iff.1 hj).1
 ·rw [hhp] at hj
  obtain ⟨i,_,hi⟩:=hlb j b (hlbw j b hj)
  exact hr.mem.own i b hi
 ·have h1:=hr.mem.pins i u hi hu hs
  have h2:=hfi i (by rw [hr.mem.n]; exact hi)
  simp only [h2,Nat.zero_add]
  exact h1
 ·have hj:look j (number 0 (weak keep 0 (obs st.hp ids ids))) = some (.vec e t xs false):=hj
  have hj':(weak keep 0 (obs st.hp ids ids))[j]? = some (.vec e t xs false):=by rw [← hj]; exact (congrFun hhp j).symm
  obtain ⟨o',h5,h6⟩:=hwk j _ hj'
  have h7:o' = .vec e t xs false:=by
   rcases h6 with h6 | h6
   ·exact h6.symm
   ·cases o' with
    | vec _ _ _ m=>simp [Ob.flag] at h6
    | _=>cases h6
  subst h7
  obtain ⟨i,xs',h8,h9⟩:=obs_vec hP hG h5
  have hst:=hr.mem.stay i e t xs' h9
  have h2:=hfi i (by rw [hr.mem.n]; exact hst.1)
  rw [Nat.zero_add] at h2
  have hij:=hnd _ _ _ h8 h2
  subst hij
  exact ⟨hst.1,hst.2.1,by simp only [h8]; exact hst.2.2⟩
def exOf:Ex→Exit
 | .normal=>.normal
 | .exit i=>.exit i
 | .ret=>.ret
def BlkOK (P:Program) (nt:Nat) (b:Code) (sp:Blk):Prop:=
 ∀ (c:Cx),c.nt = nt→∀ st K r a w Q,sp st K = some r→Rel c st a w→(∀ e st a w,K e st = some r→Rel c st a w→Q (exOf e) a w)→b.wp P Q a w
def obl (J:Nat→Option Blk):Code→List (Code×Blk)
 | .seq a b=>obl J a++(match J (key b) with
  | some sp=>[(b,sp)]
  | none=>obl J b)
 | .cond _ a b=>obl J a++obl J b
 | .block id b=>match J (100000 + id) with
  | some sp=>[(.block id b,sp)]
  | none=>obl J b
 | .loop b=>obl J b
 | _=>[]
variable {J:Nat→Option Blk} {kp:Nat→Option (List Nat)} {fuel:Nat}
theorem canonO_ok {l:Option (List Nat)} {c:Cx} {st st':St} {a:Act} {w:World} (h:canonO l st = some st') (hr:Rel c st a w):Rel c st' a w:=by
 cases l with
 | none=>cases h; exact hr
 | some l=>exact canon_ok hP hG h hr
theorem loopK_ok {P:Program} {c:Cx} {body:Code} {f:Blk} {cn:St→Option St} {K:Ex→St→Option Ans} {r:Ans} {Q:Exit→Act→World→Prop}
  (hf:∀ {st:St} {K:Ex→St→Option Ans} {a:Act} {w:World} {Q:Exit→Act→World→Prop},f st K = some r→Rel c st a w→(∀ e st a w,K e st = some r→Rel c st a w→Q (exOf e) a w)→body.wp P Q a w)
  (hc:∀ {st st':St} {a:Act} {w:World},cn st = some st'→Rel c st a w→Rel c st' a w) (hK:∀ e st a w,K e st = some r→Rel c st a w→Q (exOf e) a w):
  ∀ (n:Nat) {st:St} {a:Act} {w:World},loopK f cn K n st = some r→Rel c st a w→Code.rounds P body Q n a w
 | 0,st,a,w,h,_=>by cases h
 | n + 1,st,a,w,h,hr=>by
  rw [rounds_succ]
  simp only [loopK] at h
  refine hf h hr ?_
  intro e st2 a2 w2 h2 hr2
  cases e with
  | normal=>
   simp only at h2
   split at h2
   ·rename_i st3 h3
    exact loopK_ok hf hc hK n h2 (hc h3 hr2)
   ·cases h2
  | exit i=>exact hK (.exit i) st2 a2 w2 h2 hr2
  | ret=>exact hK .ret st2 a2 w2 h2 hr2
variable (hm:P.follows .mixedOrders = true)
include hm
theorem code_ok {c:Cx}:∀ (b:Code),codeFit c.nt b = true→(∀ q ∈ obl J b,BlkOK P c.nt q.1 q.2)→
  ∀ {st:St} {K:Ex→St→Option Ans} {r:Ans} {a:Act} {w:World} {Q:Exit→Act→World→Prop},evalCode tab G J kp fuel b st K = some r→Rel c st a w→(∀ e st a w,K e st = some r→Rel c st a w→Q (exOf e) a w)→b.wp P Q a w
 | .skip,hfit,hJ,st,K,r,a,w,Q,h,hr,hK=>wp_skip (hK .normal st a w h hr)
 | .region id ops draw,hfit,hJ,st,K,r,a,w,Q,h,hr,hK=>by
  simp only [evalCode] at h
  cases hx:opsFit c.nt ops.toList with
  | false=>simp only [codeFit,hx] at hfit; cases hfit
  | true=>
  cases draw with
  | false=>
   refine wp_region ?_
   rw [List.range_eq_range', ← Array.length_toList]
   exact ops_ok hP hG (fun st a w=>hK .normal st a w) ops.toList 0 rfl hx h hr
  | true=>
   simp only at h
   simp only [codeFit,hx,cond_true] at hfit
   exact region_any (K:=normK (kp (900000 + id)) (K .normal)) hP hG hm hfit hx h hr (fun st a w h hr=>by
    unfold normK at h
    split at h
    ·exact hK .normal st a w h hr
    ·split at h
     ·rename_i st' hc
      rw [forceSt_eq] at h
      exact hK .normal st' a w h (canon_ok hP hG hc hr)
     ·cases h)
 | .seq x y,hfit,hJ,st,K,r,a,w,Q,h,hr,hK=>by
  simp only [codeFit] at hfit
  obtain ⟨f1,f2⟩:codeFit c.nt x = true∧codeFit c.nt y = true:=by
   cases hx:codeFit c.nt x with
   | false=>rw [hx] at hfit; cases hfit
   | true=>rw [hx] at hfit; exact ⟨rfl,hfit⟩
  simp only [evalCode] at h
  refine wp_seq (code_ok x f1 (fun q hq=>hJ q (by simp [obl,hq])) h hr ?_)
  intro e st1 a1 w1 h1 hr1
  cases e with
  | normal=>
   simp only at h1
   show y.wp P Q a1 w1
   split at h1
   ·rename_i sp hsp
    exact hJ (y,sp) (by simp [obl,hsp]) c rfl st1 K r a1 w1 Q h1 hr1 hK
   ·rename_i hsp
    exact code_ok y f2 (fun q hq=>hJ q (by simp [obl,hsp,hq])) h1 hr1 hK
  | exit i=>exact hK (.exit i) st1 a1 w1 h1 hr1
  | ret=>exact hK .ret st1 a1 w1 h1 hr1
 | .cond o x y,hfit,hJ,st,K,r,a,w,Q,h,hr,hK=>by
  simp only [codeFit] at hfit
  obtain ⟨f1,f2⟩:codeFit c.nt x = true∧codeFit c.nt y = true:=by
   cases hx:codeFit c.nt x with
   | false=>rw [hx] at hfit; cases hfit
   | true=>rw [hx] at hfit; exact ⟨rfl,hfit⟩
  simp only [evalCode] at h
  split at h
  ·rename_i p ho
   have hv:a.eval o = .bool p:=by
    obtain ⟨R,μ,hr⟩:=hr
    exact opd_vr hr ho
   cases p with
   | true=>exact wp_cond_true hv (code_ok x f1 (fun q hq=>hJ q (by simp [obl,hq])) h hr hK)
   | false=>exact wp_cond_false hv (code_ok y f2 (fun q hq=>hJ q (by simp [obl,hq])) h hr hK)
  ·cases h
 | .block id b,hfit,hJ,st,K,r,a,w,Q,h,hr,hK=>by
  simp only [evalCode] at h
  split at h
  ·rename_i sp hsp
   exact hJ (.block id b,sp) (by simp [obl,hsp]) c rfl st K r a w Q h hr hK
  ·rename_i hsp
   refine wp_block (code_ok b hfit (fun q hq=>hJ q (by simp [obl,hsp,hq])) h hr ?_)
   intro e st1 a1 w1 h1 hr1
   cases e with
   | normal=>
    simp only at h1
    split at h1
    ·rename_i st2 h2
     exact hK .normal st2 a1 w1 h1 (canonO_ok hP hG h2 hr1)
    ·cases h1
   | exit i=>
    simp only at h1
    show (if i = id then Q .normal a1 w1 else Q (.exit i) a1 w1)
    cases hb:Nat.beq i id with
    | true=>
     rw [hb] at h1
     rw [if_pos (Nat.eq_of_beq_eq_true hb)]
     simp only [cond_true] at h1
     split at h1
     ·rename_i st2 h2
      exact hK .normal st2 a1 w1 h1 (canonO_ok hP hG h2 hr1)
     ·cases h1
    | false=>
     rw [hb] at h1
     rw [if_neg (fun e=>by subst e; simp at hb)]
     simp only [cond_false] at h1
     split at h1
     ·rename_i st2 h2
      exact hK (.exit i) st2 a1 w1 h1 (canonO_ok hP hG h2 hr1)
     ·cases h1
   | ret=>
    simp only at h1
    split at h1
    ·rename_i st2 h2
     exact hK .ret st2 a1 w1 h1 (canonO_ok hP hG h2 hr1)
    ·cases h1
 | .loop b,hfit,hJ,st,K,r,a,w,Q,h,hr,hK=>by
  simp only [evalCode] at h
  split at h
  ·rename_i st1 h1
   refine wp_loop_rounds fuel (loopK_ok hP hG (f:=evalCode tab G J kp fuel b) ?_ (canonO_ok hP hG) hK fuel h (canonO_ok hP hG h1 hr))
   intro st K a w Q h hr hK
   exact code_ok b hfit (fun q hq=>hJ q (by simp [obl,hq])) h hr hK
  ·cases h
 | .exit id,hfit,hJ,st,K,r,a,w,Q,h,hr,hK=>wp_exit (hK (.exit id) st a w h hr)
 | .ret,hfit,hJ,st,K,r,a,w,Q,h,hr,hK=>wp_ret (hK .ret st a w h hr)
 | .rangeFunc _ _ _ _,hfit,hJ,st,K,r,a,w,Q,h,hr,hK=>by cases h
 | .scope _,hfit,hJ,st,K,r,a,w,Q,h,hr,hK=>by cases h
 | .label _,hfit,hJ,st,K,r,a,w,Q,h,hr,hK=>by cases h
 | .goto _,hfit,hJ,st,K,r,a,w,Q,h,hr,hK=>by cases h
 | .refuse _,hfit,hJ,st,K,r,a,w,Q,h,hr,hK=>by cases h
theorem blk_of_code {b:Code} {nt:Nat} (hfit:codeFit nt b = true) (hJ:∀ q ∈ obl J b,BlkOK P nt q.1 q.2):BlkOK P nt b (evalCode tab G J kp fuel b):=by
 intro c hc st K r a w Q h hr hK
 subst hc
 exact code_ok hP hG hm b hfit hJ h hr hK
end
end Go.Proofs.YtohnjbmiaegofaaGreat.Ev
