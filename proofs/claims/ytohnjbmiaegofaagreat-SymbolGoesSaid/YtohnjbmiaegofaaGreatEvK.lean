/- Calls, regions, code, functions: the machine does what the evaluator says. -/
import Derived.Test.YtohnjbmiaegofaaGreatEvI
set_option linter.unusedVariables false
set_option linter.unusedSimpArgs false
set_option linter.unusedSectionVars false
namespace Go.Proofs.YtohnjbmiaegofaaGreat.Ev
open Go
theorem mem_addAll:∀ (l acc:List Nat) (i:Nat),(i ∈ acc∨i ∈ l)→i ∈ addAll acc l:=by
 intro l
 induction l with
 | nil=>
  intro acc i h
  rcases h with h | h
  ·exact h
  ·cases h
 | cons j l ih=>
  intro acc i h
  simp only [addAll]
  apply ih
  cases hh:has j acc with
  | true=>
   simp only [cond_true]
   rcases h with h | h
   ·exact .inl h
   ·rcases List.mem_cons.1 h with rfl | h
    ·exact .inl ((has_iff _ _).1 hh)
    ·exact .inr h
  | false=>
   simp only [cond_false,List.mem_append,List.mem_singleton]
   rcases h with h | h
   ·exact .inl (.inl h)
   ·rcases List.mem_cons.1 h with rfl | h
    ·exact .inl (.inr rfl)
    ·exact .inr h
theorem lent_mem:∀ {args:List SV} {v:SV},v ∈ args→∀ {x:SC},x ∈ v.cells→∀ {i:Nat},i ∈ x.owns→i ∈ lentIds args
 | [],v,h,_,_,_,_=>by cases h
 | u::r,v,h,x,hx,i,hi=>by
  simp only [lentIds]
  rcases List.mem_cons.1 h with rfl | h
  ·exact mem_addAll _ _ _ (.inl (mem_addAll _ _ _ (.inr (List.mem_flatMap.2 ⟨x,hx,hi⟩))))
  ·exact mem_addAll _ _ _ (.inr (lent_mem h hx hi))
theorem map_vr_mem {R R':Nat→Prop} {w w':World} {μ μ':Nat→Option Value} {f:SC→SC} {v:SV} {u:Value} (hf:∀ x ∈ v.cells,∀ u,cr R w μ x u→cr R' w' μ' (f x) u) (h:vr R w μ v u):vr R' w' μ' (v.map f) u:=by
 have hl:∀ {cs:List SC} {us:List Value},(∀ x ∈ cs,∀ u,cr R w μ x u→cr R' w' μ' (f x) u)→All2 (cr R w μ) cs us→All2 (cr R' w' μ') (cs.map f) us:=by
  intro cs us hc h
  induction h with
  | nil=>exact .nil
  | cons hp _ ih=>exact .cons (hc _ (by simp) _ hp) (ih fun x hx=>hc x (by simp [hx]))
 cases v with
 | c x=>exact hf x (by simp [SV.cells]) u h
 | agg cs=>obtain ⟨us,rfl,h⟩:=h; exact ⟨us,rfl,hl hf h⟩
 | tup vs=>
  obtain ⟨us,rfl,h⟩:=h
  refine ⟨us,rfl, ?_⟩
  have hf':∀ p ∈ vs,∀ x ∈ p.2,∀ u,cr R w μ x u→cr R' w' μ' (f x) u:=fun p hp x hx=>hf x (List.mem_flatMap.2 ⟨p,hp,hx⟩)
  clear hf
  generalize us.toList = ul at h
  induction h with
  | nil=>exact .nil
  | cons hp _ ih=>
   rename_i p u vs' ul' _
   refine .cons ?_ (ih fun q hq=>hf' q (by simp [hq]))
   obtain ⟨b,cs⟩:=p
   cases b
   ·obtain ⟨x,rfl,h⟩:=hp; exact ⟨f x,rfl,hf' (false,[x]) List.mem_cons_self x (by simp) _ h⟩
   ·obtain ⟨us,rfl,h⟩:=hp; exact ⟨us,rfl,hl (hf' (true,cs) List.mem_cons_self) h⟩
theorem nofro_cr {R R':Nat→Prop} {w:World} {μ:Nat→Option Value} {x:SC} {u:Value} (hx:fro x = false) (h:cr R w μ x u):cr R' w μ x u:=by
 cases x <;> first | exact h | (cases hx; done)
theorem id_map_vr {R:Nat→Prop} {w:World} {μ:Nat→Option Value} {v:SV} {u:Value} (h:vr R w μ (v.map fun x=>x) u):vr R w μ v u:=by
 have:v.map (fun x=>x) = v:=by
  cases v with
  | c x=>rfl
  | agg cs=>simp [SV.map]
  | tup vs=>simp [SV.map]
 rwa [this] at h
theorem nofro_vr {R R':Nat→Prop} {w:World} {μ:Nat→Option Value} {v:SV} {u:Value} (hv:v.cells.any fro = false) (h:vr R w μ v u):vr R' w μ v u:=
 id_map_vr (map_vr_mem (f:=fun x=>x) (fun x hx u hc=>nofro_cr (by
  have:=List.any_eq_false.1 hv x hx
  simpa using this) hc) h)
theorem nofro_rows {R R':Nat→Prop} {w:World} {t:Ty} (ht:(∃ k,t = .int k)∨t = .bool):∀ {xs:List (D t)} {vs:List Value},rows R w t xs vs→rows R' w t xs vs
 | [],_,h=>h
 | x::xs,vs,h=>by
  obtain ⟨us,us',e,h1,h2⟩:=h
  refine ⟨us,us',e, ?_,nofro_rows ht h2⟩
  rcases ht with ⟨k,rfl⟩ | rfl
  ·exact h1
  ·exact h1
theorem nofro_obr {R R':Nat→Prop} {w:World} {μ:Nat→Option Value} {o:Ob} {i:Nat} (ho:froOb o = false) (h:obr R w μ i o):obr R' w μ i o:=by
 cases o with
 | dead=>trivial
 | cells e cs=>
  obtain ⟨b,arr,h1,h2,h3,h4⟩:=h
  refine ⟨b,arr,h1,h2, ?_,h4⟩
  have hv:∀ x ∈ cs,fro x = false:=fun x hx=>by
   have:=List.any_eq_false.1 ho x hx
   simpa using this
  clear ho h4 h2
  generalize arr.toList = l at h3
  induction h3 with
  | nil=>exact .nil
  | cons hp _ ih=>exact .cons (nofro_cr (hv _ (by simp)) hp) (ih fun x hx=>hv x (by simp [hx]))
 | vec e t xs=>
  obtain ⟨v,flat,h0,h1,h2,h3⟩:=h
  refine ⟨v,flat,h0,h1,nofro_rows ?_ h2,h3⟩
  cases t with
  | int k=>exact .inl ⟨k,rfl⟩
  | bool=>exact .inr rfl
  | _=>cases ho
 | dict q t es=>
  obtain ⟨b,arr,clk,h1,h2,h3⟩:=h
  refine ⟨b,arr,clk,h1,h2,h3.mono fun x e hx=>⟨hx.1, ?_⟩⟩
  have:=hx.2
  cases t with
  | int k=>exact this
  | bool=>exact this
  | _=>cases ho
section
variable {P:Program}
theorem callX_ok {g:SC→SC} {lent:List Nat} {F:Spec} {f:FuncId} (hF:FnOK P f F) {args:List SV} {st:St} {k:SV→St→Option Ans} {r:Ans} (h:callX g lent F args st k = some r) {c:Cx} {a:Act} {w:World} {R:Nat→Prop} {μ:Nat→Option Value} (hr:RelB c st a w R μ)
  {vals:List Value} (hall:All2 (vr R w μ) args vals) (hg:∀ v ∈ args,∀ x ∈ v.cells,∀ u,cr R w μ x u→cr (fun b=>R b∨∃ i ∈ lent,lb μ (fun i=>look i st.hp) i b) w μ (g x) u):
  Calls P f vals.toArray w fun e w'=>∃ v sv st',e = .returned v∧k sv st' = some r∧RelV c st' a w' sv v:=by
 unfold callX at h
 simp only at h
 generalize hids:clos st.hp 200 (addAll [] ((args.map (SV.map g)).flatMap fun v=>v.cells.flatMap SC.refs)) (addAll [] ((args.map (SV.map g)).flatMap fun v=>v.cells.flatMap SC.refs)) = ids at h
 cases hb:(okArgs args&&nodup ids&&!(meets lent ids)&&ltAll st.nx ids) with
 | false=>rw [hb] at h; cases h
 | true=>
 rw [hb] at h
 simp only [cond_true] at h
 simp only [Bool.and_eq_true,Bool.not_eq_true'] at hb
 obtain ⟨⟨⟨_,hnd⟩,hmt⟩,hlt⟩:=hb
 have hnd:=nodup_iff hnd
 have hlt:=ltAll_iff hlt
 have hmt:=meets_iff hmt
 have hcall:=hF _ _ _ _ h
 clear h
 let Rc:Nat→Prop:=fun b=>R b∨∃ i ∈ lent,lb μ (fun i=>look i st.hp) i b
 let μc:Nat→Option Value:=fun j=>(ids[j]?).bind μ
 have hRc:∀ b,R b→Rc b:=fun b hb=>.inl hb
 have hidx:∀ i j,idx i ids = some j→∀ v,μ i = some v→μc j = some v:=by
  intro i j hj v hv
  show (ids[j]?).bind μ = some v
  rw [idx_some hj]
  exact hv
 have hren:∀ x u,cr Rc w μ x u→cr Rc w μc (ren ids x) u:=fun x u=>ren_cr hidx
 have hlb:∀ j b,lb μc (fun i=>(obs st.hp ids ids)[i]?) j b→∃ i,ids[j]? = some i∧lb μ (fun i=>look i st.hp) i b:=by
  rintro j b ⟨o,v,h1,h2,h3,h4⟩
  simp only [obs_get] at h1
  cases hj:ids[j]? with
  | none=>rw [hj] at h1; cases h1
  | some i=>
   rw [hj] at h1
   simp only [Option.map_some,Option.some.injEq] at h1
   have h3':μ i = some v:=by
    have:(ids[j]?).bind μ = some v:=h3
    rw [hj] at this
    exact this
   cases ho:look i st.hp with
   | none=>rw [ho] at h1; subst h1; cases h2
   | some o'=>
    rw [ho] at h1
    simp only at h1
    subst h1
    rw [live_map] at h2
    exact ⟨i,rfl,o',v,ho,h2,h3',h4⟩
 have hH:HInv Rc w μc (fun i=>(obs st.hp ids ids)[i]?):=by
  refine ⟨fun j o ho=> ?_,fun i j b h1 h2=> ?_,fun j b h1 hr'=> ?_,fun b hb=> ?_⟩
  ·simp only [obs_get] at ho
   cases hj:ids[j]? with
   | none=>rw [hj] at ho; cases ho
   | some i=>
    rw [hj] at ho
    simp only [Option.map_some,Option.some.injEq] at ho
    cases ho':look i st.hp with
    | none=>rw [ho'] at ho; subst ho; trivial
    | some o'=>
     rw [ho'] at ho
     simp only at ho
     subst ho
     refine map_obr (Keeps.refl Rc w) (fun _ h=>h) hren (fun _ v hv=> ?_) (fun _ _ _ _ _=>rfl) (obr_keep (Keeps.refl R w) hRc (Ext.refl μ) (fun _ _ _ _ _=>rfl) (hr.mem.heap.ob i o' ho'))
     show (ids[j]?).bind μ = some v
     rw [hj]
     exact hv
  ·obtain ⟨i1,e1,g1⟩:=hlb i b h1
   obtain ⟨i2,e2,g2⟩:=hlb j b h2
   have:=hr.mem.heap.apart i1 i2 b g1 g2
   subst this
   exact nodup_inj hnd e1 e2
  ·obtain ⟨i1,e1,g1⟩:=hlb j b h1
   rcases hr' with hr' | ⟨i2,e2,g2⟩
   ·exact hr.mem.heap.out i1 b g1 hr'
   ·have:=hr.mem.heap.apart i1 i2 b g1 g2
    subst this
    exact hmt i1 e2 (List.mem_of_getElem? e1)
  ·rcases hb with hb | ⟨i,_,g⟩
   ·exact hr.mem.heap.ex b hb
   ·exact lb_lt hr.mem.heap g
 have hcl:∀ (j:Nat) (o:Ob),((obs st.hp ids ids).map Ob.clean)[j]? = some o→∃ o':Ob,(obs st.hp ids ids)[j]? = some o'∧o = o'.clean:=by
  intro j o ho
  rw [List.getElem?_map] at ho
  cases ho':(obs st.hp ids ids)[j]? with
  | none=>rw [ho'] at ho; cases ho
  | some o'=>rw [ho'] at ho; cases ho; exact ⟨o',rfl,rfl⟩
 have hlbc:∀ j b,lb μc (fun i=>((obs st.hp ids ids).map Ob.clean)[i]?) j b→lb μc (fun i=>(obs st.hp ids ids)[i]?) j b:=by
  rintro j b ⟨o,v,h1,h2,h3,h4⟩
  obtain ⟨o',h5,rfl⟩:=hcl j o h1
  exact ⟨o',v,h5,by rw [← clean_live]; exact h2,h3,h4⟩
 have hH:HInv Rc w μc (fun i=>((obs st.hp ids ids).map Ob.clean)[i]?):=
  ⟨fun j o ho=>by obtain ⟨o',h1,rfl⟩:=hcl j o ho; exact clean_obr (hH.ob j o' h1),fun i j b h1 h2=>hH.apart i j b (hlbc i b h1) (hlbc j b h2),fun j b h1=>hH.out j b (hlbc j b h1),hH.ex⟩
 have hlb:=fun j b h=>hlb j b (hlbc j b h)
 have hlenC:((obs st.hp ids ids).map Ob.clean).length = ids.length:=by rw [List.length_map,obs_len]
 have hdom:∀ j v,μc j = some v→j < ((obs st.hp ids ids).map Ob.clean).length:=by
  intro j v hv
  rw [hlenC]
  have:(ids[j]?).bind μ = some v:=hv
  cases hj:ids[j]? with
  | none=>rw [hj] at this; cases this
  | some i=>exact (List.getElem?_eq_some_iff.1 hj).1
 have hargs:All2 (vr Rc w μc) ((args.map (SV.map g)).map (SV.map (ren ids))) vals:=by
  rw [List.map_map]
  apply All2.map.1
  have:∀ {l:List SV} {us:List Value},All2 (vr R w μ) l us→(∀ v ∈ l,v ∈ args)→All2 (fun v u=>vr Rc w μc ((SV.map (ren ids) ∘ SV.map g) v) u) l us:=by
   intro l us hh
   induction hh with
   | nil=>intro _; exact .nil
   | cons hp _ ih=>
    intro hm
    refine .cons (map_vr hren (map_vr_mem (fun x hx u hc=> ?_) hp)) (ih fun v hv=>hm v (by simp [hv]))
    exact hg _ (hm _ (by simp)) x hx u hc
  exact this hall fun v hv=>hv
 refine (hcall w Rc μc vals hH hdom hargs).mono ?_
 rintro e w' ⟨v,res,objs',RN,μ',rfl,hk,hlen,hB⟩
 cases hfr:hasFro res objs' with
 | true=>
  simp only [hfr,cond_true] at hk
  refine ⟨v,_,_,rfl,hk, ?_⟩
  have hF:=hr.frozen lent
  have hnx:(freeze lent st).nx = st.nx:=by unfold freeze; split <;> rfl
  have:=after_call hF hnd (by rw [hnx]; exact hlt) hlenC hlen (fun j=>rfl) (fun j b hl=> ?_) hB hB.res hB.heap.ob hB.rlo hB.heap.ex hB.rhi hB.heap.out
  ·rw [hnx] at this; exact this
  ·obtain ⟨i,e1,o,v0,h1,h2,h3,h4⟩:=hlb j b hl
   have hni:i ∉ lent:=fun hm=>hmt i hm (List.mem_of_getElem? e1)
   refine ⟨i,e1,o.map (frzC st.hp lent),v0, ?_,by rw [live_map]; exact h2,h3,h4⟩
   show look i (freeze lent st).hp = _
   cases hl:lent with
   | nil=>
    show look i st.hp = _
    have h1':look i st.hp = some o:=h1
    rw [h1']
    congr 1
    cases o with
    | cells e cs=>
     simp only [Ob.map]
     congr 1
     conv=>lhs; rw [← List.map_id cs]
     apply List.map_congr_left
     intro x _
     cases x <;> rfl
    | _=>rfl
   | cons i0 r0=>
    rw [← hl]
    have:freeze lent st = { st with env:=mapE (frzC st.hp lent) st.env,hp:=deads lent++mapH (frzC st.hp lent) st.hp }:=by rw [hl]; rfl
    rw [this]
    show look i (deads lent++mapH (frzC st.hp lent) st.hp) = _
    have h1':look i st.hp = some o:=h1
    rw [look_deads,if_neg hni,look_mapH,h1']
    rfl
 | false=>
  simp only [hfr,cond_false] at hk
  refine ⟨v,_,_,rfl,hk, ?_⟩
  unfold hasFro at hfr
  simp only [Bool.or_eq_false_iff] at hfr
  obtain ⟨hf1,hf2⟩:=hfr
  refine after_call hr hnd hlt hlenC hlen (fun j=>rfl) hlb hB (R2:=R) (nofro_vr hf1 hB.res) (fun j o ho=> ?_) (fun _ h=>h) (fun b hb=>Nat.lt_of_lt_of_le (hr.mem.heap.ex b hb) hB.fr.size) (fun b hb _=>.inl hb) (fun j b hl hb=>hB.heap.out j b hl (hB.rlo b (hRc b hb)))
  refine nofro_obr ?_ (hB.heap.ob j o ho)
  have:=List.any_eq_false.1 hf2 o (List.mem_of_getElem? ho)
  simpa using this
theorem callG_ok {F:Spec} {f:FuncId} (hF:FnOK P f F) {args:List SV} {st:St} {k:SV→St→Option Ans} {r:Ans} (h:callG F args st k = some r) {c:Cx} {a:Act} {w:World} {R:Nat→Prop} {μ:Nat→Option Value} (hr:RelB c st a w R μ)
  {vals:List Value} (hall:All2 (vr R w μ) args vals):
  Calls P f vals.toArray w fun e w'=>∃ v sv st',e = .returned v∧k sv st' = some r∧RelV c st' a w' sv v:=
 callX_ok hF h hr hall fun v hv x hx u hc=>fz_cr (a:=a) hr.mem (fun _ h=>.inl h) hc fun i hi b hb=>.inr ⟨i,lent_mem hv hx hi,hb⟩
theorem callW_ok {F:Spec} {f:FuncId} (hF:FnOK P f F) {args:List SV} {st:St} {k:SV→St→Option Ans} {r:Ans} (h:callW F args st k = some r) {c:Cx} {a:Act} {w:World} {R:Nat→Prop} {μ:Nat→Option Value} (hr:RelB c st a w R μ)
  {vals:List Value} (hall:All2 (vr R w μ) args vals):
  Calls P f vals.toArray w fun e w'=>∃ v sv st',e = .returned v∧k sv st' = some r∧RelV c st' a w' sv v:=
 callX_ok hF h hr hall fun v hv x hx u hc=>cr_keep (Keeps.refl _ _) (fun _ h=>.inl h) (Ext.refl μ) hc
end
end Go.Proofs.YtohnjbmiaegofaaGreat.Ev
