/- Each operation of the machine does what the evaluator says: composite values, new slices, cuts, builtin functions. -/
import Derived.Test.YtohnjbmiaegofaaGreatEvW
set_option linter.unusedVariables false
set_option linter.unusedSimpArgs false
set_option linter.unusedSectionVars false
namespace Go.Proofs.YtohnjbmiaegofaaGreat.Ev
open Go
theorem fold_set (off:Nat):∀ (vs:List Value) (k:Nat) (cur:Array Value),off + k + vs.length≤cur.size→
  ((vs.zipIdx k).foldl (fun cs p=>cs.setIfInBounds (off + p.2) p.1) cur).toList = cur.toList.take (off + k)++vs++cur.toList.drop (off + k + vs.length)
 | [],k,cur,h=>by simp
 | v::vs,k,cur,h=>by
  simp only [List.zipIdx_cons,List.foldl_cons]
  rw [fold_set off vs (k + 1) _ (by simp at h ⊢; omega)]
  have e:=list_seg_step cur.toList (off + k) v vs (by simp at h ⊢; omega)
  simpa [Array.toList_setIfInBounds,Nat.add_assoc] using e
theorem fill_one (cells vs:Array Value) (off:Nat) (h:off + vs.size≤cells.size):
  (vs.zipIdx.foldl (fun cs (c,j)=>cs.setIfInBounds (off + j) c) cells).toList = cells.toList.take off++vs.toList++cells.toList.drop (off + vs.toList.length):=by
 rw [← Array.foldl_toList,Array.toList_zipIdx]
 exact fold_set off vs.toList 0 cells (by simpa using h)
theorem madeCells_flat (z:Array Value) (hz:0 < z.size):∀ n,(madeCells z (n * z.size)).toList = (List.replicate n z.toList).flatten
 | 0=>by simp [madeCells]
 | n + 1=>by
  have ih:=madeCells_flat z hz n
  have hzl:(List.range z.size).map (z[·]!) = z.toList:=by
   apply List.ext_getElem
   ·simp
   ·intro i h1 h2
    simp at h1
    simp [h1]
  have hr:(madeCells z ((n + 1) * z.size)).toList = (madeCells z (n * z.size)).toList++z.toList:=by
   simp only [madeCells,Array.toList_map,Array.toList_range]
   rw [Nat.add_mul,Nat.one_mul,List.range_add,List.map_append,List.map_map]
   congr 1
   rw [← hzl]
   apply List.map_congr_left
   intro i hi
   simp only [List.mem_range] at hi
   simp only [Function.comp]
   rw [Nat.add_comm,Nat.add_mul_mod_self_right,Nat.mod_eq_of_lt hi]
  rw [hr,ih]
  rw [show (List.replicate (n + 1) z.toList) = List.replicate n z.toList++ [z.toList] from by rw [List.replicate_succ']]
  simp
theorem rows_made {R:Nat→Prop} {w:World} {t:Ty} {z:Array Value} (h:zok t z.toList = some []) (hs:z.size = t.size) (hp:0 < t.size) (n:Nat):rows R w t (List.replicate n (dflt t)) (madeCells z (n * t.size)).toList:=by
 obtain ⟨us,e,hrv⟩:=zok_rv (R:=R) (w:=w) h
 rw [List.append_nil] at e
 rw [← hs,madeCells_flat z (by omega),e]
 exact rows_replicate hrv n
section
variable {P:Program} {tab:TypeId→Option TI} {G:Nat→Option Spec} (hP:TabOK P tab) {c:Cx} {st:St} {a:Act} {w:World} {k:SV→St→Option Ans} {r:Ans}
variable {Kp:Act→World→Prop} {Q:Exit→Act→World→Prop} {dst:Option Tmp} {ty:TypeId} {pos:String} {after:Array Edge} {guard:Option (Nat×Bool)}
include hP
abbrev PartR (R:Nat→Prop) (w:World) (μ:Nat→Option Value) (p:Nat×SV) (q:Nat×Value):Prop:=p.1 = q.1∧vr R w μ p.2 q.2
theorem partsV_ok {R:Nat→Prop} {ft:Nat→TypeId}:∀ {ps:List (Nat×Operand)} {st st':St} {μ:Nat→Option Value} {vs:List (Nat×SV)},RelB c st a w R μ→partsV tab ft ps st = some (vs,st')→
  ∃ μ',RelB c st' a w R μ'∧Ext μ μ'∧All2 (PartR R w μ') vs (ps.map fun p=>(p.1,a.eval p.2))
 | [],st,st',μ,vs,h,hp=>by cases hp; exact ⟨μ,h,Ext.refl μ,.nil⟩
 | (i,x)::ps,st,st',μ,vs,h,hp=>by
  simp only [partsV] at hp
  split at hp
  ·rename_i v st1 hx
   split at hp
   ·rename_i vs' st2 hvs
    cases hp
    obtain ⟨μ1,a1,a2,a3⟩:=opdT_ok h hx
    obtain ⟨μ2,b1,b2,b3⟩:=partsV_ok a1 hvs
    exact ⟨μ2,b1,fun i v hv=>b2 i v (a2 i v hv),.cons ⟨rfl,vr_keep (Keeps.refl R w) (fun _ h=>h) b2 a3⟩ b3⟩
   ·cases hp
  ·cases hp
theorem fillP_ok {R:Nat→Prop} {μ:Nat→Option Value} {place:Nat→Option (Nat×Nat)}:∀ {vs:List (Nat×SV)} {us:List (Nat×Value)} {cs cs':List SC} {cells:Array Value},All2 (PartR R w μ) vs us→All2 (cr R w μ) cs cells.toList→fillP place vs cs = some cs'→
  ∃ cells',Instr.fill place cells us = some cells'∧All2 (cr R w μ) cs' cells'.toList
 | [],us,cs,cs',cells,h,hc,hf=>by cases h; cases hf; exact ⟨cells,rfl,hc⟩
 | (i,v)::vs,us,cs,cs',cells,h,hc,hf=>by
  cases h with
  | cons hp ht=>
   rename_i q us'
   obtain ⟨j,u⟩:=q
   obtain ⟨rfl,hv⟩:=hp
   simp only [fillP] at hf
   split at hf
   ·rename_i off sz ws hpl hws
    cases hb:Nat.beq ws.length sz with
    | false=>rw [hb] at hf; cases hf
    | true=>
     rw [hb] at hf
     simp only [cond_true] at hf
     have hb:=Nat.eq_of_beq_eq_true hb
     split at hf
     ·rename_i cs1 hsp
      obtain ⟨hall,_⟩:=vr_cells hP hv hws
      obtain ⟨hfit,hall'⟩:=splice_ok hP hc hall hsp
      have hsz:u.cells.size = sz:=by rw [← hb,hall.length,Array.length_toList]
      have hfit':off + u.cells.size≤cells.size:=by simpa using hfit
      rw [← fill_one cells u.cells off hfit'] at hall'
      obtain ⟨cells',e1,e2⟩:=fillP_ok ht hall' hf
      refine ⟨cells', ?_,e2⟩
      simp only [Instr.fill,hpl,hsz,ne_eq,not_true_eq_false,decide_false,Bool.false_or,decide_eq_true_eq]
      rw [if_neg (by rw [← hsz]; omega)]
      exact e1
     ·cases hf
   ·cases hf
theorem places_run:∀ {fs:List Field} {pl:List (Nat×Nat)},placesOf tab fs = some pl→(fs.mapM fun f=>do pure (f.offset, ← sizeOf f.type):Sem (List (Nat×Nat))).run P w = .ok pl w
 | [],pl,h=>by cases h; rfl
 | f::fs,pl,h=>by
  simp only [placesOf] at h
  split at h
  ·rename_i fi l hf hl
   cases h
   have ih:=places_run hl
   simp only [List.mapM_cons,Sem.run_bind,(hP _ _ hf).rsize,Result.andThen_ok,Sem.run_pure,ih]
  ·cases h
theorem s_build {t:TypeId} {ps:Array (Nat×Operand)} (h:evalOp tab G ⟨dst,.build t ps,ty,pos,after,guard⟩ st k = some r) (hr:Rel c st a w) (hk:Kok c a k r dst Kp):(⟨dst,.build t ps,ty,pos,after,guard⟩:Oper).wp P a w Kp Q:=by
 simp only [evalOp,e_build] at h
 obtain ⟨R,μ,hr⟩:=hr
 split at h
 ·rename_i ti ht
  have ht:=hP _ _ ht
  obtain ⟨zv,hzv,hzc⟩:=ht.rzero w
  split at h
  ·rename_i fs hd
   split at h
   ·rename_i zs st1 pl hz hpl
    split at h
    ·rename_i vs st2 hps
     split at h
     ·rename_i cs hf
      obtain ⟨μ1,a1,a2,a3⟩:=zeroC_ok hP hr hz
      obtain ⟨μ2,b1,b2,b3⟩:=partsV_ok hP a1 hps
      rw [← hzc] at a3
      have a3':=a3.mono fun x u hx=>cr_keep (Keeps.refl R w) (fun _ h=>h) b2 hx
      obtain ⟨cells',e1,e2⟩:=fillP_ok hP b3 a3' hf
      have hu:=ht.und
      rw [hd] at hu
      have hpr:=places_run hP (w:=w) hpl
      refine wp_value (v:=.agg cells') (w':=w) ?_ (hk _ _ _ _ h ⟨R,μ2,b1,cells',rfl,e2⟩)
      have e1':Instr.fill (fun x=>pl.toArray[x]?) zv.cells (ps.map fun p=>(p.1,a.eval p.2)).toList = some cells':=by
       rw [Array.toList_map]
       simpa using e1
      simp only [execOp,Instr.build,Sem.run_bind,hzv,Result.andThen_ok,run_underlying hu,Array.mapM_eq_mapM_toList,Sem.run_map,hpr,e1',Sem.run_pure]
     ·cases h
    ·cases h
   ·cases h
  ·rename_i n e hd
   split at h
   ·rename_i ei he
    split at h
    ·rename_i zs st1 hz
     split at h
     ·rename_i vs st2 hps
      split at h
      ·rename_i cs hf
       obtain ⟨μ1,a1,a2,a3⟩:=zeroC_ok hP hr hz
       obtain ⟨μ2,b1,b2,b3⟩:=partsV_ok hP a1 hps
       rw [← hzc] at a3
       have a3':=a3.mono fun x u hx=>cr_keep (Keeps.refl R w) (fun _ h=>h) b2 hx
       obtain ⟨cells',e1,e2⟩:=fillP_ok hP b3 a3' hf
       have hu:=ht.und
       rw [hd] at hu
       refine wp_value (v:=.agg cells') (w':=w) ?_ (hk _ _ _ _ h ⟨R,μ2,b1,cells',rfl,e2⟩)
       have e1':Instr.fill (fun i=>some (i * ei.size,ei.size)) zv.cells (ps.map fun p=>(p.1,a.eval p.2)).toList = some cells':=by
        rw [Array.toList_map]
        exact e1
       simp only [execOp,Instr.build,Sem.run_bind,hzv,Result.andThen_ok,run_underlying hu,(hP _ _ he).rsize,e1',Sem.run_pure]
      ·cases h
     ·cases h
    ·cases h
   ·cases h
  ·cases h
 ·cases h
theorem setParts_ok {R:Nat→Prop} {μ:Nat→Option Value} (hm:Mem c st w R μ) {t:Ty} (hpos:0 < t.size) {ids:List Nat}:∀ {vs:List (Nat×SV)} {us:List (Nat×Value)} {xs ys:List (D t)} {cells:Array Value},All2 (PartR R w μ) vs us→
  (∀ p ∈ vs,∀ x ∈ p.2.cells,∀ i ∈ x.owns,i ∈ ids)→rows (fun b=>R b∨∃ i ∈ ids,lb μ (fun i=>look i st.hp) i b) w t xs cells.toList→setParts t st.hp vs xs = some ys→
  ∃ cells',Instr.fill (fun i=>some (i * t.size,t.size)) cells us = some cells'∧rows (fun b=>R b∨∃ i ∈ ids,lb μ (fun i=>look i st.hp) i b) w t ys cells'.toList∧ys.length = xs.length
 | [],us,xs,ys,cells,h,hid,hr,hs=>by cases h; cases hs; exact ⟨cells,rfl,hr,rfl⟩
 | (i,v)::vs,us,xs,ys,cells,h,hid,hr,hs=>by
  cases h with
  | cons hp ht=>
   rename_i q us'
   obtain ⟨j,u⟩:=q
   obtain ⟨rfl,hv⟩:=hp
   simp only [setParts] at hs
   cases hb:Nat.blt i xs.length with
   | false=>rw [hb] at hs; cases hs
   | true=>
    rw [hb] at hs
    simp only [cond_true] at hs
    have hi:i < xs.length:=Nat.le_of_ble_eq_true hb
    split at hs
    ·rename_i ws hws
     split at hs
     ·rename_i x hx
      obtain ⟨hall,_⟩:=vr_cells hP hv hws
      have hwc:∀ y ∈ ws,y ∈ v.cells:=by
       intro y hy
       cases v with
       | c z=>
        simp only [cellsOf] at hws
        cases hst:storable [z] with
        | false=>rw [hst] at hws; cases hws
        | true=>rw [hst] at hws; cases hws; exact hy
       | agg cs=>
        simp only [cellsOf] at hws
        cases hst:storable cs with
        | false=>rw [hst] at hws; cases hws
        | true=>rw [hst] at hws; cases hws; exact hy
       | tup _=>cases hws
      have hfz:=fz_all hP hm hall (ids:=ids) (fun y hy i hi=>hid _ List.mem_cons_self y (hwc y hy) i hi)
      have hnew:=ofC1_rv hP hx hfz
      have hlen:u.cells.toList.length = t.size:=rv_length hnew
      have hcl:=rows_length hr
      have hm1:(i + 1) * t.size≤xs.length * t.size:=Nat.mul_le_mul_right _ hi
      have hexp:(i + 1) * t.size = i * t.size + t.size:=by rw [Nat.add_mul]; omega
      have hsz:u.cells.size = t.size:=by rw [← hlen,Array.length_toList]
      have hfit:i * t.size + u.cells.size≤cells.size:=by rw [Array.length_toList] at hcl; omega
      have hrows:=rows_set hr i hi hnew
      have hone:=fill_one cells u.cells (i * t.size) hfit
      rw [hlen, ← hexp] at hone
      rw [← hone] at hrows
      obtain ⟨cells',e1,e2,e3⟩:=setParts_ok hm hpos ht (fun p hp=>hid p (by simp [hp])) hrows hs
      refine ⟨cells', ?_,e2,by rw [e3,List.length_set]⟩
      simp only [Instr.fill,hsz,ne_eq,not_true_eq_false,decide_false,Bool.false_or,decide_eq_true_eq]
      rw [if_neg (by omega)]
      exact e1
     ·cases hs
    ·cases hs
theorem owns_parts {vs:List (Nat×SV)}:∀ p ∈ vs,∀ x ∈ p.2.cells,∀ i ∈ x.owns,i ∈ addAll [] (vs.flatMap fun p=>p.2.cells.flatMap SC.owns):=by
 intro p hp x hx i hi
 have h:vs.flatMap (fun p=>p.2.cells.flatMap SC.owns) = (vs.flatMap fun p=>p.2.cells).flatMap SC.owns:=by rw [List.flatMap_assoc]
 rw [h]
 exact owns_mem hP (List.mem_flatMap.2 ⟨p,hp,hx⟩) hi
theorem new_vec {R:Nat→Prop} {μ:Nat→Option Value} (h:RelB c st a w R μ) {w':World} (hg:w.grownBy w' none) (e:TypeId) {t:Ty} {xs:List (D t)} {flat:List Value} {n:Nat} (hn:xs.length = n)
  (ho:orow w' e t.size (.slice (some ⟨w.heap.size,0,none⟩) n n) n flat) (hrw:rows R w' t xs flat) (hpos:0 < t.size):
  RelV c (st.new (.vec e t xs true)) a w' (.c (.own st.nx)) (.slice (some ⟨w.heap.size,0,none⟩) n n):=by
 subst hn
 have hnn:=nx_none hP h
 have hm:upd μ st.nx (.slice (some ⟨w.heap.size,0,none⟩) xs.length xs.length) st.nx = some (.slice (some ⟨w.heap.size,0,none⟩) xs.length xs.length):=by simp [upd]
 have hc:Chg (fun _=>False) w w':=(Chg.grown hg).mono fun b _ e=>by cases e
 refine ⟨R,upd μ st.nx (.slice (some ⟨w.heap.size,0,none⟩) xs.length xs.length),h.new hc ⟨_,flat,hm,ho,hrw,hpos⟩ ?_ (fun _ _ _ e=>by cases e),hm,_,_,_,rfl⟩
 intro b hb
 simp only [blk,Option.some.injEq] at hb
 omega
theorem s_buildSlice {t:TypeId} {n:Nat} {ps:Array (Nat×Operand)} (h:evalOp tab G ⟨dst,.buildSlice t n ps,ty,pos,after,guard⟩ st k = some r) (hr:Rel c st a w) (hk:Kok c a k r dst Kp):(⟨dst,.buildSlice t n ps,ty,pos,after,guard⟩:Oper).wp P a w Kp Q:=by
 simp only [evalOp,e_buildSlice] at h
 obtain ⟨R,μ,hr⟩:=hr
 split at h
 ·rename_i e _ _ _ _ _ ht
  have hu:=(hP _ _ ht).und
  split at h
  ·rename_i ei he
   have he:=hP _ _ he
   split at h
   ·rename_i ty' hty
    split at h
    ·rename_i vs st1 hps
     split at h
     ·rename_i xs hset
      obtain ⟨hb,h⟩:=cond_some hP h
      simp only [Bool.and_eq_true] at hb
      obtain ⟨⟨hb1,hb2⟩,hb3⟩:=hb
      have hb1:=Nat.eq_of_beq_eq_true hb1
      have hpos:0 < ty'.size:=Nat.le_of_ble_eq_true hb2
      have hb3:=Nat.le_of_ble_eq_true hb3
      obtain ⟨μ1,a1,a2,a3⟩:=partsV_ok hP hr hps
      have hid:=owns_parts hP (vs:=vs)
      generalize addAll [] (vs.flatMap fun p=>p.2.cells.flatMap SC.owns) = ids at h hid
      have hfr:=a1.frozen ids
      obtain ⟨zv,hzv,hzc⟩:=he.rzero w
      have hz:=he.zty ty' hty
      rw [← hzc] at hz
      have hzs:zv.cells.size = ty'.size:=by
       obtain ⟨us,e1,e2⟩:=zok_rv (R:=R) (w:=w) hz
       rw [List.append_nil] at e1
       rw [← Array.length_toList,e1,rv_length e2]
      have hrows:=rows_made (R:=fun b=>R b∨∃ i ∈ ids,lb μ1 (fun i=>look i st1.hp) i b) (w:=w) hz hzs hpos n
      obtain ⟨cells',e1,e2,e3⟩:=setParts_ok hP a1.mem hpos a3 hid hrows hset
      have hxl:xs.length = n:=by rw [e3,List.length_replicate]
      have hlen:=rows_length e2
      rw [Array.length_toList,hxl] at hlen
      have hml:n≤maxLen:=by
       have:n≤n * ei.size:=Nat.le_mul_of_pos_right _ (by omega)
       simp only [maxLen]; omega
      have hown:=orow_of (World.ownsRow_lit (base:=0) (e:=e) (size:=ty'.size) w cells' n (Nat.zero_le _) hml hlen)
      have hgr:=World.grownBy_alloc w (.cells cells' e) none
      refine wp_value (v:=.slice (some ⟨w.heap.size,0,none⟩) n n) (w':=w.alloc (.cells cells' e)) ?_ (hk _ _ _ _ h ?_)
      ·have e1':Instr.fill (fun i=>some (i * ei.size,ei.size)) (madeCells zv.cells (n * ei.size)) (ps.map fun p=>(p.1,a.eval p.2)).toList = some cells':=by
        rw [Array.toList_map,hb1]
        exact e1
       have h24:¬ (n * ei.size > 2 ^ 24):=by omega
       by_cases h0:n * ei.size = 0
       ·rw [h0] at e1'
        have e1'':Instr.fill (fun i=>some (i * ei.size,ei.size)) ((Array.range (n * ei.size)).map ((#[]:Array Value)[· % (#[]:Array Value).size]!)) (ps.map fun p=>(p.1,a.eval p.2)).toList = some cells':=by
         rw [h0]
         have er:(Array.range 0:Array Nat) = #[]:=by rfl
         simp only [madeCells,er,List.map_toArray,List.map_nil] at e1' ⊢
         exact e1'
        simp only [execOp,Instr.buildSlice,Sem.run_bind,run_underlying hu,Result.andThen_ok,he.rsize,if_neg h24,if_pos h0,Sem.run_pure,e1'',newRow,newObj,Sem.run]
        rfl
       ·have e1'':Instr.fill (fun i=>some (i * ei.size,ei.size)) ((Array.range (n * ei.size)).map (zv.cells[· % zv.cells.size]!)) (ps.map fun p=>(p.1,a.eval p.2)).toList = some cells':=e1'
        simp only [execOp,Instr.buildSlice,Sem.run_bind,run_underlying hu,Result.andThen_ok,he.rsize,if_neg h24,if_neg h0,hzv,Sem.run_pure,e1'',newRow,newObj,Sem.run]
        rfl
      ·have:=hfr.quiet (chg_alloc hP (w:=w) (.cells cells' e))
       have hnx:(freeze ids st1).nx = st1.nx:=by cases ids <;> rfl
       have hv:=new_vec hP hfr hgr e hxl hown (rows_keep ((chg_alloc hP (w:=w) (.cells cells' e)).keeps fun _ _ _ h=>h) (fun _ h=>h) e2) hpos
       exact hv
     ·cases h
    ·cases h
   ·cases h
  ·cases h
 ·cases h
theorem s_makeSlice {t:TypeId} {l m:Operand} (h:evalOp tab G ⟨dst,.makeSlice t l m,ty,pos,after,guard⟩ st k = some r) (hr:Rel c st a w) (hk:Kok c a k r dst Kp):(⟨dst,.makeSlice t l m,ty,pos,after,guard⟩:Oper).wp P a w Kp Q:=by
 simp only [evalOp,e_makeSlice] at h
 obtain ⟨R,μ,hr⟩:=hr
 split at h
 ·rename_i e _ _ _ _ _ ht
  have hu:=(hP _ _ ht).und
  split at h
  ·rename_i ei n m' he hl hm
   have he:=hP _ _ he
   have hl:a.eval l = .int .i64 n:=opd_vr hr hl
   have hm:a.eval m = .int .i64 m':=opd_vr hr hm
   split at h
   ·rename_i ty' hty
    obtain ⟨hb,h2⟩:=cond_some hP h
    obtain ⟨hd,h3⟩:=cond_some hP h2
    clear h h2
    simp only [Bool.and_eq_true] at hb
    obtain ⟨⟨hb1,hb2⟩,hb3⟩:=hb
    have hb1:=Nat.eq_of_beq_eq_true hb1
    have hpos:0 < ty'.size:=Nat.le_of_ble_eq_true hb2
    obtain ⟨h0,rfl,hby,h48⟩:=of_decide_eq_true hd
    have h:=h3
    clear h3
    obtain ⟨i,zv,g1,g2,g3,g4,g5⟩:=he.inf
    have hz:=he.zty ty' hty
    rw [← g5] at hz
    have hzs:zv.cells.size = ty'.size:=by
     obtain ⟨us,e1,e2⟩:=zok_rv (R:=R) (w:=w) hz
     rw [List.append_nil] at e1
     rw [← Array.length_toList,e1,rv_length e2]
    obtain ⟨nn,rfl⟩:=Int.eq_ofNat_of_zero_le h0
    rw [Int.toNat_natCast] at h
    have hby':i.bytes * nn≤281474976710656:=by
     rw [g3]
     have:((ei.bytes * nn:Nat):Int)≤281474976710656:=by rw [Int.natCast_mul]; exact hby
     omega
    obtain ⟨w',k1,k2,k3⟩:=run_make_full (P:=P) w 0 t e i zv i.size hu g1 g4 rfl .i64 .i64 nn hby' (by simp only [maxLen]; omega) (Nat.zero_le _)
    rw [g2,hb1] at k2
    have hc:Chg (fun _=>False) w w':=(Chg.grown k3).mono fun b _ e=>by cases e
    refine wp_value (v:=.slice (some ⟨w.heap.size,0,none⟩) nn nn) (w':=w') ?_ (hk _ _ _ _ h (new_vec hP hr k3 e (by simp) (orow_of k2) (rows_made hz hzs hpos nn) hpos))
    simp only [execOp,hl,hm,Sem.run_bind,k1,Result.andThen_ok,Sem.run_pure]
   ·cases h
  ·cases h
 ·cases h
theorem sliceB_ok {R:Nat→Prop} {μ:Nat→Option Value} (hr:RelB c st a w R μ) {x:Option Operand} {o:Option Int} (h:sliceB x st = some o):(x = none∧o = none)∨∃ p n kd,x = some p∧o = some n∧a.eval p = .int kd n:=by
 unfold sliceB at h
 split at h
 ·cases h; exact .inl ⟨rfl,rfl⟩
 ·rename_i p
  split at h
  ·rename_i kd n hx
   cases h
   exact .inr ⟨p,n,kd,rfl,rfl,opd_vr hr hx⟩
  ·cases h
theorem bound_run {v:Value} {kd:IntKind} {i:Int} {y:Nat} {code:BoundsCode} (hv:v = .int kd i) (h:0≤i∧i≤(y:Int)):(Instr.sliceBound v y code).run P w = .ok i.toNat w:=by
 subst hv
 simp only [Instr.sliceBound,asIntOf,Sem.run_bind,Sem.run_pure,Result.andThen_ok,if_pos h]
theorem bounds_run {R:Nat→Prop} {μ:Nat→Option Value} (hr:RelB c st a w R μ) {lo hi:Option Operand} {ol oh:Option Int} (h1:sliceB lo st = some ol) (h2:sliceB hi st = some oh) {isS:Bool} {n cap:Nat} (hnc:n≤cap)
  (hd:0≤loOf ol∧loOf ol≤hiOf oh n∧hiOf oh n≤(n:Int)):
  (Instr.sliceBounds isS n cap (lo.map a.eval) (hi.map a.eval) none).run P w = .ok ((loOf ol).toNat,(hiOf oh n).toNat,cap) w:=by
 rcases sliceB_ok hP hr h1 with ⟨rfl,rfl⟩ | ⟨p,l,kd,rfl,rfl,e1⟩ <;> rcases sliceB_ok hP hr h2 with ⟨rfl,rfl⟩ | ⟨q,hh,kd',rfl,rfl,e2⟩
 ·simp [Instr.sliceBounds,loOf,hiOf]
 ·simp only [loOf,hiOf] at hd ⊢
  simp only [Instr.sliceBounds,Option.map_none,Option.map_some,Sem.run_bind,Sem.run_pure,Result.andThen_ok,bound_run hP e2 (show 0≤hh∧hh≤(cap:Int) by omega)]
  rfl
 ·simp only [loOf,hiOf] at hd ⊢
  simp only [Instr.sliceBounds,Option.map_none,Option.map_some,Sem.run_bind,Sem.run_pure,Result.andThen_ok,bound_run hP e1 (show 0≤l∧l≤(n:Int) by omega),Int.toNat_natCast]
 ·simp only [loOf,hiOf] at hd ⊢
  simp only [Instr.sliceBounds,Option.map_none,Option.map_some,Sem.run_bind,Sem.run_pure,Result.andThen_ok,bound_run hP e2 (show 0≤hh∧hh≤(cap:Int) by omega),bound_run hP e1 (show 0≤l∧l≤((hh.toNat:Nat):Int) by omega)]
theorem s_slice {t:TypeId} {x:Operand} {lo hi mx:Option Operand} (h:evalOp tab G ⟨dst,.slice t x lo hi mx,ty,pos,after,guard⟩ st k = some r) (hr:Rel c st a w) (hk:Kok c a k r dst Kp):(⟨dst,.slice t x lo hi mx,ty,pos,after,guard⟩:Oper).wp P a w Kp Q:=by
 simp only [evalOp,e_slice] at h
 obtain ⟨R,μ,hr⟩:=hr
 split at h
 ·rename_i av ol oh hx hlo hhi
  have hx':=opd_vr hr hx
  split at h
  ·rename_i e _ _ _ _ _ ht
   have hu:=(hP _ _ ht).und
   split at h
   ·rename_i ei he
    have he:=hP _ _ he
    split at h
    ·rename_i n hn
     obtain ⟨hd0,h2⟩:=cond_some hP h
     clear h
     have hd:=of_decide_eq_true hd0
     clear hd0
     have run:∀ (A:Option Addr) (m cap:Nat),a.eval x = .slice A m cap→(m:Int) = n→m≤cap→
       (execOp a.eval ⟨dst,.slice t x lo hi none,ty,pos,after,guard⟩).run P w = .ok (.value (.slice (if cap = (loOf ol).toNat then A else A.map (·.add ((loOf ol).toNat * ei.size))) ((hiOf oh n).toNat - (loOf ol).toNat) (cap - (loOf ol).toNat))) w:=by
      intro A m cap hv hmn hle
      subst hmn
      have hb:=bounds_run hP hr hlo hhi (isS:=true) hle hd
      simp only [execOp,Instr.sliceAt,Sem.run_bind,run_underlying hu,Result.andThen_ok,Option.map_none,Instr.slice,hv,hb,he.rsize,Sem.run_pure]
     generalize loOf ol = L at h2 hd run
     generalize hiOf oh n = H at h2 hd run
     have hHL:(H - L).toNat = H.toNat - L.toNat:=by omega
     split at h2
     ·rename_i ty' xs
      obtain ⟨hb,h⟩:=cond_some hP h2
      clear h2
      have hb:=Nat.eq_of_beq_eq_true hb
      simp only [lenOfC,Option.some.injEq] at hn
      obtain ⟨A,cc,hv,hle,hel⟩:=slv_form.1 hx'
      refine wp_value (run A xs.length cc hv hn hle) (hk _ _ _ _ h ⟨R,μ,hr, ?_⟩)
      rw [← hHL]
      refine slv_cut hle (by omega) hel (fun h0=> ?_) (by omega)
      obtain ⟨b,o,us,hA,_⟩:=hel L.toNat (by omega)
      subst hA
      refine ⟨b,o,rfl, ?_⟩
      rw [if_neg (by omega),hb]
      simp [add_at]
     ·rename_i i
      split at h2
      ·rename_i e' ty' xs _ hl
       obtain ⟨hb,h⟩:=cond_some hP h2
       clear h2
       have hb:=Nat.eq_of_beq_eq_true hb
       simp only [lenOfC,hl,Option.some.injEq] at hn
       obtain ⟨v0,flat,g1,g2,g3,g4⟩:=hr.mem.heap.ob i _ hl
       obtain ⟨hm,_⟩:=hx'
       rw [g1] at hm
       have hm:=Option.some.inj hm
       rcases g2.2 with ⟨e1,e2⟩ | ⟨g,cap,cur,e1,_,g5,g6,_⟩
       ·rw [hm] at e1
        refine wp_value (run none 0 0 e1 (by rw [← hn,e2]) (Nat.le_refl _)) (hk _ _ _ _ h ⟨R,μ,hr, ?_⟩)
        refine ⟨none,0 - L.toNat, ?_,by omega,none,0,0,by rw [g1,hm,e1],by omega,fun h0=>by omega⟩
        rw [← hHL]
        split <;> rfl
       ·rw [hm] at e1
        refine wp_value (run _ xs.length cap e1 hn g6) (hk _ _ _ _ h ⟨R,μ,hr, ?_⟩)
        refine ⟨_,cap - L.toNat,by rw [← hHL],by omega,some ⟨g,0,none⟩,xs.length,cap,by rw [g1,hm,e1],by omega,fun h0=>⟨g,rfl, ?_⟩⟩
        rw [if_neg (by omega),hb]
        simp [add_at]
      ·cases h2
     ·rename_i i sz lo' n'
      obtain ⟨hb,h⟩:=cond_some hP h2
      clear h2
      have hb:=Nat.eq_of_beq_eq_true hb
      simp only [lenOfC,Option.some.injEq] at hn
      obtain ⟨A,cc,hv,hnc,A',m,c',hm,hle,hA⟩:=hx'
      refine wp_value (run A n' cc hv hn hnc) (hk _ _ _ _ h ⟨R,μ,hr, ?_⟩)
      refine ⟨_,cc - L.toNat,by rw [← hHL],by omega,A',m,c',hm,by omega,fun h0=> ?_⟩
      obtain ⟨b,e1,e2⟩:=hA (by omega)
      refine ⟨b,e1, ?_⟩
      rw [if_neg (by omega),hb,e2,Nat.add_mul]
      simp [add_at]
     ·cases h2
    ·cases h
   ·cases h
  ·rename_i ht
   have hu:=(hP _ _ ht).und
   split at h
   ·rename_i s
    obtain ⟨hd,h2⟩:=cond_some hP h
    have hd:=of_decide_eq_true hd
    have hv:a.eval x = .string s:=hx'
    have hb:=bounds_run hP hr hlo hhi (isS:=false) (Nat.le_refl s.size) hd
    refine wp_value (v:=.string _) (w':=w) ?_ (hk _ _ _ _ h2 ⟨R,μ,hr,rfl⟩)
    simp only [execOp,Instr.sliceAt,Sem.run_bind,run_underlying hu,Result.andThen_ok,Option.map_none,Instr.slice,hv,hb,Sem.run_pure,Option.isSome_none,Bool.false_eq_true,if_false]
   ·cases h
  ·cases h
 ·cases h
theorem opds_ok {R:Nat→Prop}:∀ {xs:List Operand} {ts:List TypeId} {st st':St} {μ:Nat→Option Value} {vs:List SV},RelB c st a w R μ→opds tab xs ts st = some (vs,st')→
  ∃ μ',RelB c st' a w R μ'∧Ext μ μ'∧All2 (vr R w μ') vs (xs.map a.eval)
 | [],ts,st,st',μ,vs,h,hp=>by cases hp; exact ⟨μ,h,Ext.refl μ,.nil⟩
 | x::xs,[],st,st',μ,vs,h,hp=>by simp [opds] at hp
 | x::xs,t::ts,st,st',μ,vs,h,hp=>by
  simp only [opds] at hp
  split at hp
  ·rename_i v st1 hx
   split at hp
   ·rename_i vs' st2 hvs
    cases hp
    obtain ⟨μ1,a1,a2,a3⟩:=opdT_ok h hx
    obtain ⟨μ2,b1,b2,b3⟩:=opds_ok a1 hvs
    exact ⟨μ2,b1,fun i v hv=>b2 i v (a2 i v hv),.cons (vr_keep (Keeps.refl R w) (fun _ h=>h) b2 a3) b3⟩
   ·cases hp
  ·cases hp
theorem listAt_ok {R:Nat→Prop} {μ:Nat→Option Value} (hm:Mem c st w R μ) {t:Ty} {x:SC} {ys:List (D t)} (h:listAt t st.hp x = some ys) {u:Value} (hx:cr R w μ x u):
  ∃ A cc,u = .slice A ys.length cc∧∀ (i:Nat) (h:i < ys.length),∃ b o us,A = some ⟨b,o,none⟩∧rv R w t ys[i] us∧At w b (o + i * t.size) us:=by
 unfold listAt at h
 split at h
 ·rename_i t' zs hz
  split at h
  ·rename_i e
   subst e
   have hy:zs = ys:=Option.some.inj h
   subst hy
   cases x with
   | sl t2 xs2=>
    simp only [fz] at hz
    cases hz
    obtain ⟨A,cc,e1,e2,e3⟩:=slv_form.1 hx
    refine ⟨A,cc,e1,fun i hi=> ?_⟩
    obtain ⟨b,o,us,g1,_,_,g2,g3⟩:=e3 i hi
    exact ⟨b,o,us,g1,g2,g3⟩
   | own i=>
    simp only [fz] at hz
    split at hz
    ·rename_i e' t2 xs2 _ hl
     cases hz
     obtain ⟨v0,flat,g1,g2,g3,g4⟩:=hm.heap.ob i _ hl
     obtain ⟨e1,_⟩:=hx
     rw [g1] at e1
     cases e1
     rcases g2.2 with ⟨e1,e2⟩ | ⟨g,cap,cur,e1,_⟩
     ·refine ⟨none,0,by rw [e1,e2],fun i hi=>by omega⟩
     ·refine ⟨some ⟨g,0,none⟩,cap,e1,fun i hi=> ?_⟩
      rw [e1] at g2
      obtain ⟨us,k1,k2,_⟩:=row_here g2 g3 i hi
      exact ⟨g,0,us,rfl,k1,by rw [Nat.zero_add]; exact k2⟩
    ·cases hz
   | sub i sz lo n=>
    simp only [fz] at hz
    split at hz
    ·rename_i e' t2 xs2 _ hl
     cases hsz:Nat.beq sz t2.size with
     | false=>rw [hsz] at hz; cases hz
     | true=>
      rw [hsz] at hz
      simp only [cond_true] at hz
      have hsz:=Nat.eq_of_beq_eq_true hsz
      subst hsz
      cases hz
      obtain ⟨v0,flat,g1,g2,g3,g4⟩:=hm.heap.ob i _ hl
      obtain ⟨A,cc,e1,hnc,A',m,c',hmu,hle,hA⟩:=hx
      rw [g1] at hmu
      have hmu:=Option.some.inj hmu
      have hxm:xs2.length = m:=by
       rcases g2.2 with ⟨e1,e2⟩ | ⟨g,cap,cur,e1,_⟩ <;> rw [e1] at hmu <;> cases hmu <;> first | exact e2 | rfl
      have hl2:((xs2.drop lo).take n).length = n:=by simp; omega
      refine ⟨A,cc,by rw [hl2]; exact e1,fun i hi=> ?_⟩
      rw [hl2] at hi
      obtain ⟨b,e3,e4⟩:=hA (by omega)
      rw [hmu,e3] at g2
      obtain ⟨us,k1,k2,_⟩:=row_here g2 g3 (lo + i) (by omega)
      refine ⟨b,_,us,e4,by simpa using k1, ?_⟩
      rw [← Nat.add_mul]
      exact k2
    ·cases hz
   | _=>simp only [fz] at hz; cases hz
  ·cases h
 ·cases h
theorem gather {R:Nat→Prop} {t:Ty}:∀ (ys:List (D t)) (b o:Nat),(∀ (i:Nat) (h:i < ys.length),∃ us,rv R w t ys[i] us∧At w b (o + i * t.size) us)→∃ news,rows R w t ys news∧At w b o news
 | [],b,o,_=>⟨[],rfl,fun j u h=>by simp at h⟩
 | y::ys,b,o,h=>by
  obtain ⟨us,h1,h2⟩:=h 0 (by simp)
  obtain ⟨news,g1,g2⟩:=gather ys b (o + t.size) (fun i hi=>by
   obtain ⟨us,k1,k2⟩:=h (i + 1) (by simpa using hi)
   refine ⟨us,by simpa using k1, ?_⟩
   rw [show o + t.size + i * t.size = o + (i + 1) * t.size from by rw [Nat.add_mul]; omega]
   exact k2)
  refine ⟨us++news,⟨us,news,rfl,h1,g1⟩,fun j u hj=> ?_⟩
  rw [List.getElem?_append] at hj
  have hl:=rv_length h1
  split at hj
  ·have:=h2 j u hj
   rwa [Nat.zero_mul,Nat.add_zero] at this
  ·have:=g2 _ u hj
   rw [hl] at this
   rename_i hn
   rwa [show o + t.size + (j - t.size) = o + j from by omega] at this
theorem run_append_none {t ty e:TypeId} {i:TypeInfo} {size:Nat} (ht:P.underlying t = some (.slice e)) (hi:P.info? e = some i)
  {v:Value} {n:Nat} {xs:List Value} (hown:orow w e size v n xs) (cc:Nat):(Builtin.append_ #[t,t] ty #[v,.slice none 0 cc]).run P w = .ok v w:=by
 rcases hown.2 with ⟨rfl,rfl⟩ | ⟨g,cap,cur,rfl,_,_,hnc,_⟩
 ·simp [Builtin.append_,run_underlying ht,sizeOf,typeInfo,hi,Builtin.lenOf,Builtin.firstCells]
 ·simp [Builtin.append_,run_underlying ht,sizeOf,typeInfo,hi,Builtin.lenOf,Builtin.firstCells,hnc,storeCells]
theorem append_orow0 {t t' ty e:TypeId} {kk:IntKind} {i:TypeInfo} {z:Value} (ht:P.underlying t = some (.slice e)) (hx:P.underlying t' = some (.int kk)) (hi:P.info? e = some i) (hz:i.zero = some z) (hzs:z.cells.size = i.size) (hsz:0 < i.size)
  {v:Value} {n:Nat} {xs:List Value} (hown:orow w e i.size v n xs) (m:Nat)
  (h1:∀ u ∈ (Builtin.zeroCells z.cells m).toList,u.oneCell' = true) (h63:n + m≤140737488355328) (hbytes:(n + m) * i.bytes≤140737488355328):
  ∃ v' w',(Builtin.append_ #[t,t'] ty #[v,.int .i64 (m:Int)]).run P w = .ok v' w'∧orow w' e i.size v' (n + m) (xs++(Builtin.zeroCells z.cells m).toList)∧w.grownBy w' v.ownBlock∧(v'.ownBlock = v.ownBlock∨v'.ownBlock = some w.heap.size):=by
 have hnl:(Builtin.zeroCells z.cells m).toList.length = m * i.size:=by rw [Array.length_toList,size_zeroCells,hzs]
 have hlen:(xs++(Builtin.zeroCells z.cells m).toList).length = (n + m) * i.size:=by rw [List.length_append,hown.1,hnl,Nat.add_mul]
 have hwr:IntKind.i64.wrap (m:Int) = m:=by
  simp [IntKind.wrap,IntKind.min,IntKind.max,IntKind.signed,IntKind.bits]
  omega
 have hneg:¬ ((m:Int) < 0):=by omega
 have hmb:¬ ((281474976710656:Int) < (m:Int) * (i.bytes:Int)):=by
  have:m * i.bytes≤(n + m) * i.bytes:=Nat.mul_le_mul_right _ (by omega)
  have e1:(m:Int) * (i.bytes:Int) = ((m * i.bytes:Nat):Int):=(Int.natCast_mul _ _).symm
  omega
 have h63':¬ (9223372036854775807 < ((n:Int) + (m:Int))):=by omega
 have grow:∀ (base:Option Addr) (cap:Nat),n≤cap→cap < n + m→(Builtin.firstCells i.size n (.slice base n cap)).run P w.drew = .ok xs.toArray w.drew→
   ∃ v' w',(Builtin.append_ #[t,t'] ty #[.slice base n cap,.int .i64 (m:Int)]).run P w = .ok v' w'∧orow w' e i.size v' (n + m) (xs++(Builtin.zeroCells z.cells m).toList)∧w.grownBy w' (Value.ownBlock (.slice base n cap))∧(v'.ownBlock = Value.ownBlock (.slice base n cap)∨v'.ownBlock = some w.heap.size):=by
  intro base cap hc0 hc hfo
  have hn:¬ (n + m≤cap):=by omega
  have hfit:=growslice_fits (by omega:cap < n + m) hbytes
  have h48':¬ (281474976710656 < Builtin.nextslicecap (n + m) cap * i.bytes):=by omega
  have hmz:¬ (m * i.size = 0):=by
   intro e0
   rcases Nat.mul_eq_zero.1 e0 with e0 | e0 <;> omega
  have hge:=grownCap_ge w (n + m) cap e
  have hr:(Builtin.append_ #[t,t'] ty #[.slice base n cap,.int .i64 (m:Int)]).run P w =
    .ok (.slice (some ⟨w.heap.size,0,none⟩) (n + m) (grownCap w (n + m) cap e))
     (w.drew.alloc (.cells (xs.toArray++Builtin.zeroCells z.cells m++Builtin.zeroCells z.cells (grownCap w (n + m) cap e - (n + m))) e)):=by
   simp [Builtin.append_,run_underlying ht,run_underlying hx,sizeOf,typeInfo,zeroValue,hi,hz,hn,h63',h48',Question.forced,hfo,newRow,grownCap,hwr,hneg,hmb,hmz,asInt,asIntOf]
  refine ⟨_,_,hr,⟨hlen,.inr ⟨w.heap.size,_,_,rfl,trivial,⟨(0,0),.inl rfl,heap_alloc_new w.drew _⟩,hge,grownCap_le_maxLen w (n + m) cap e (by simp only [maxLen]; omega), ?_, ?_⟩⟩,⟨rfl,rfl,rfl,by simp,fun k hk _=>heap_alloc_old w.drew _ k hk⟩,.inr rfl⟩
  ·simp only [Array.size_append,List.size_toArray,size_zeroCells,hzs,hown.1, ← Nat.add_mul]
   congr 1
   omega
  ·simp only [Array.toList_append]
   rw [← hlen]
   exact List.take_left
 rcases hown.2 with ⟨rfl,rfl⟩ | ⟨g,cap,cur,rfl,_,hg,hnc,hcm,hcs,htake⟩
 ·have hx0:xs = []:=List.eq_nil_of_length_eq_zero (by rw [hown.1,Nat.zero_mul])
  subst hx0
  by_cases hm:m = 0
  ·subst hm
   have hz0:(Builtin.zeroCells z.cells 0).toList = []:=List.eq_nil_of_length_eq_zero (by rw [hnl,Nat.zero_mul])
   refine ⟨.slice none 0 0,w, ?_,⟨by rw [hz0]; simp,.inl ⟨rfl,rfl⟩⟩,⟨rfl,rfl,rfl,Nat.le_refl _,fun _ _ _=>rfl⟩,Or.inl rfl⟩
   have hw0:IntKind.i64.wrap 0 = 0:=rfl
   simp [Builtin.append_,run_underlying ht,run_underlying hx,sizeOf,typeInfo,hi,asInt,asIntOf,hw0]
  ·exact grow none 0 (Nat.le_refl _) (by omega) (by simp [Builtin.firstCells])
 ·by_cases hroom:n + m≤cap
  ·have hfit:n * i.size + (Builtin.zeroCells z.cells m).toList.length≤cur.size:=by rw [hnl,hcs, ← Nat.add_mul]; exact Nat.mul_le_mul_right _ hroom
   have hst:=storeCells_row (P:=P) hg hfit h1
   refine ⟨.slice (some ⟨g,0,none⟩) (n + m) cap,w.setRow g (cur.toList.take (n * i.size)++(Builtin.zeroCells z.cells m).toList++cur.toList.drop (n * i.size + (Builtin.zeroCells z.cells m).toList.length)).toArray, ?_,⟨hlen,.inr ⟨g,cap,_,rfl,trivial,rowAt_set hg _ ?_,hroom,hcm, ?_, ?_⟩⟩,⟨rfl,rfl,rfl,by simp,fun k _ hk=>setRow_other w g k _ (fun e=>hk (by simp [Value.ownBlock,e]))⟩,.inl rfl⟩
   ·by_cases hm:m * i.size = 0
    ·have hz0:(Builtin.zeroCells z.cells m).toList = []:=List.eq_nil_of_length_eq_zero (by rw [hnl,hm])
     rw [hz0] at hst ⊢
     simp [Builtin.append_,run_underlying ht,run_underlying hx,sizeOf,typeInfo,hi,hroom,hwr,hneg,hmb,hm,asInt,asIntOf,Addr.add_lit,hst]
    ·simp [Builtin.append_,run_underlying ht,run_underlying hx,sizeOf,typeInfo,zeroValue,hi,hz,hroom,hwr,hneg,hmb,hm,asInt,asIntOf,Addr.add_lit,hst]
   ·simp only [List.size_toArray,List.length_append,List.length_take,List.length_drop,Array.length_toList] at hfit ⊢
    omega
   ·simp only [List.size_toArray,List.length_append,List.length_take,List.length_drop,Array.length_toList] at hfit ⊢
    omega
   ·rw [htake, ← hlen]
    exact List.take_left
  ·have holds:∀ j u,xs[j]? = some u→w.cell? ((⟨g,0,none⟩:Addr).add j) = some u:=fun j u hj=>by
    rw [add_at,Nat.zero_add]
    exact orow_cells hown (g:=g) rfl j u hj
   exact grow (some ⟨g,0,none⟩) cap hnc (by omega) (run_firstCells_some (P:=P) w.drew i.size n ⟨g,0,none⟩ n cap xs hown.1 (by simpa using holds))
theorem append_orow {t ty e:TypeId} {i:TypeInfo} {z:Value} (ht:P.underlying t = some (.slice e)) (hi:P.info? e = some i) (hz:i.zero = some z) (hzs:z.cells.size = i.size) (hsz:0 < i.size)
  {v:Value} {n:Nat} {xs:List Value} (hown:orow w e i.size v n xs) (ad:Addr) (m cc:Nat) (news:List Value) (hl:news.length = m * i.size) (hnews:∀ j u,news[j]? = some u→w.cell? (ad.add j) = some u)
  (h1:∀ u ∈ news,u.oneCell' = true) (h63:n + m≤maxLen) (hbytes:(n + m) * i.bytes≤140737488355328):
  ∃ v' w',(Builtin.append_ #[t,t] ty #[v,.slice (some ad) m cc]).run P w = .ok v' w'∧orow w' e i.size v' (n + m) (xs++news)∧w.grownBy w' v.ownBlock∧(v'.ownBlock = v.ownBlock∨v'.ownBlock = some w.heap.size):=by
 have hlen:(xs++news).length = (n + m) * i.size:=by rw [List.length_append,hown.1,hl,Nat.add_mul]
 rcases hown.2 with h | ⟨g,cap,cur,rfl,_,hg,hnc,hcm,hcs,htake⟩
 ·obtain ⟨v',w',q1,q2,q3,_,q5⟩:=run_append_own_at (P:=P) w 0 t ty e i z i.size i.bytes ht hi hz rfl rfl hzs hsz v n xs ⟨hown.1,.inl h⟩ ad m cc news hl hnews h1 h63 hbytes (Nat.zero_le _)
  exact ⟨v',w',q1,orow_of q2,q3,q5⟩
 ·by_cases hroom:n + m≤cap
  ·have hfit:n * i.size + news.length≤cur.size:=by rw [hl,hcs, ← Nat.add_mul]; exact Nat.mul_le_mul_right _ hroom
   have hf:=run_firstCells_some (P:=P) w i.size m ad m cc news hl hnews
   have hst:=storeCells_row (P:=P) hg hfit h1
   refine ⟨.slice (some ⟨g,0,none⟩) (n + m) cap,w.setRow g (cur.toList.take (n * i.size)++news++cur.toList.drop (n * i.size + news.length)).toArray, ?_,⟨hlen,.inr ⟨g,cap,_,rfl,trivial,rowAt_set hg _ ?_,hroom,hcm, ?_, ?_⟩⟩,⟨rfl,rfl,rfl,by simp,fun k _ hk=>setRow_other w g k _ (fun e=>hk (by simp [Value.ownBlock,e]))⟩,.inl rfl⟩
   ·simp [Builtin.append_,run_underlying ht,sizeOf,typeInfo,hi,Builtin.lenOf,hroom,hf,Addr.add_lit,hst]
   ·simp only [List.size_toArray,List.length_append,List.length_take,List.length_drop,Array.length_toList]
    omega
   ·simp only [List.size_toArray,List.length_append,List.length_take,List.length_drop,Array.length_toList]
    omega
   ·rw [htake, ← hlen]
    exact List.take_left
  ·have holds:∀ j u,xs[j]? = some u→w.cell? ((⟨g,0,none⟩:Addr).add j) = some u:=fun j u hj=>by
    rw [add_at,Nat.zero_add]
    exact orow_cells hown (g:=g) rfl j u hj
   have hr:=run_append_grow (P:=P) w t ty e i z ht hi hz ⟨g,0,none⟩ n cap xs hown.1 holds ad m cc news hl hnews (by omega) (by simp only [maxLen] at h63; omega) (growslice_fits (by omega) hbytes)
   have hge:=grownCap_ge w (n + m) cap e
   refine ⟨_,_,hr,⟨hlen,.inr ⟨w.heap.size,_,_,rfl,trivial,⟨(0,0),.inl rfl,heap_alloc_new w.drew _⟩,hge,grownCap_le_maxLen w (n + m) cap e h63, ?_, ?_⟩⟩,⟨rfl,rfl,rfl,by simp,fun k hk _=>heap_alloc_old w.drew _ k hk⟩,.inr rfl⟩
   ·simp only [Array.size_append,List.size_toArray,size_zeroCells,hzs,hown.1,hl, ← Nat.add_mul]
    congr 1
    omega
   ·simp only [Array.toList_append,List.append_assoc]
    rw [← List.append_assoc, ← hlen]
    exact List.take_left
omit hP in
theorem rows_take {R:Nat→Prop} {w:World} {t:Ty}:∀ {xs:List (D t)} {vs:List Value},rows R w t xs vs→∀ n,rows R w t (xs.take n) (vs.take (n * t.size))
 | [],vs,h,n=>by simp only [rows] at h; subst h; simp [rows]
 | x::xs,vs,h,0=>by simp [rows]
 | x::xs,vs,h,n + 1=>by
  obtain ⟨us,us',rfl,h1,h2⟩:=h
  have hl:=rv_length h1
  refine ⟨us,us'.take (n * t.size), ?_,h1,rows_take h2 n⟩
  rw [List.take_append,List.take_of_length_le (by rw [hl,Nat.add_mul]; omega),hl,Nat.add_mul]
  congr 2
  omega
omit hP in
theorem rows_drop {R:Nat→Prop} {w:World} {t:Ty}:∀ {xs:List (D t)} {vs:List Value},rows R w t xs vs→∀ n,rows R w t (xs.drop n) (vs.drop (n * t.size))
 | [],vs,h,n=>by simp only [rows] at h; subst h; simp [rows]
 | x::xs,vs,h,0=>by simpa using h
 | x::xs,vs,h,n + 1=>by
  obtain ⟨us,us',rfl,h1,h2⟩:=h
  have hl:=rv_length h1
  have:=rows_drop h2 n
  have e1:us.drop ((n + 1) * t.size) = []:=List.drop_eq_nil_of_le (by rw [hl,Nat.add_mul]; omega)
  have e2:(n + 1) * t.size - us.length = n * t.size:=by rw [hl,Nat.add_mul]; omega
  rw [List.drop_append,e1,e2,List.nil_append]
  exact this
omit hP in
theorem seg2 {α:Type} (C ws:List α) (p N:Nat) (h1:p + ws.length≤N) (h2:N≤C.length):
  (C.take p++ws++C.drop (p + ws.length)).take N = (C.take N).take p++ws++(C.take N).drop (p + ws.length):=by
 apply List.ext_getElem?
 intro n
 simp only [List.getElem?_take,List.getElem?_append,List.length_append,List.length_take,List.length_drop,List.getElem?_drop]
 have e1:min p C.length = p:=by omega
 have e2:min p (min N C.length) = p:=by omega
 rw [e1,e2]
 by_cases a1:n < p
 ·have:n < N:=by omega
  have:n < p + ws.length:=by omega
  simp [*]
 ·by_cases a2:n < p + ws.length
  ·have:n < N:=by omega
   simp [*]
  ·have e3:p + ws.length + (n - (p + ws.length)) = n:=by omega
   rw [e3]
   by_cases a3:n < N <;> simp [*]
theorem RelB.reset {R:Nat→Prop} {μ:Nat→Option Value} (h:RelB c st a w R μ) {i:Nat} {o:Ob} (hl:look i st.hp = some o):RelB c (st.set i o) a w R μ:=by
 have e:(fun j=>look j (st.set i o).hp) = fun j=>look j st.hp:=by
  funext j
  show look j ((i,o)::st.hp) = _
  rw [look_cons]
  split
  ·rename_i he; subst he; exact hl.symm
  ·rfl
 have e':∀ j,look j (st.set i o).hp = look j st.hp:=fun j=>congrFun e j
 exact ⟨h.env,⟨by rw [e]; exact h.mem.heap,h.mem.dom,h.mem.fr,h.mem.rlo,h.mem.rhi,by rw [e]; exact h.mem.own,h.mem.pins,h.mem.n,fun j e1 t xs hj=>h.mem.stay j e1 t xs (by rw [← e' j]; exact hj)⟩,h.size,h.defs⟩
theorem copy_none {t t' ty e:TypeId} {i:TypeInfo} (ht:P.underlying t = some (.slice e)) (hi:P.info? e = some i) {A A':Option Addr} {n m cc c':Nat} (h0:Nat.min m n = 0):
  (Builtin.copy_ #[t,t'] ty #[.slice A n cc,.slice A' m c']).run P w = .ok (.int .i64 0) w:=by
 have h0':min m n = 0:=h0
 cases A <;> cases A' <;> simp [Builtin.copy_,run_underlying ht,sizeOf,typeInfo,hi,Builtin.lenOf,Builtin.firstCells,h0,h0',loadCells,loadCellsFrom,storeCells,goInt]
theorem copy_ok {t t' ty e:TypeId} {inf:TypeInfo} (hu:P.underlying t = some (.slice e)) (hi:P.info? e = some inf) (hs1:inf.size = 1) {R:Nat→Prop} {μ:Nat→Option Value} (hr:RelB c st a w R μ) {i sz lo n:Nat} {x:SC} {u0 u1:Value}
  (hx:cr R w μ (.sub i sz lo n) u0) (hy:cr R w μ x u1) {e':TypeId} {ty':Ty} {xs:List (D ty')} {m:Bool} (hl:look i st.hp = some (.vec e' ty' xs m)) {ys:List (D ty')} (hys:listAt ty' st.hp x = some ys) (hsz:sz = 1) (hty:ty'.size = 1):
  ∃ w',(Builtin.copy_ #[t,t'] ty #[u0,u1]).run P w = .ok (.int .i64 ((min n ys.length:Nat):Int)) w'∧RelB c (st.set i (.vec e' ty' (xs.take lo++ys.take n++xs.drop (lo + min n ys.length)) m)) a w' R μ:=by
 subst hsz
 obtain ⟨A,cc,rfl,hnc,A',mm,c',hm,hle,hA⟩:=hx
 obtain ⟨v0,flat,g1,g2,g3,g4⟩:=hr.mem.heap.ob i _ hl
 rw [hm] at g1
 cases g1
 obtain ⟨As,cs,rfl,hel⟩:=listAt_ok hP hr.mem hys hy
 by_cases hc:min n ys.length = 0
 ·refine ⟨w, ?_, ?_⟩
  ·rw [hc]
   exact copy_none hP hu hi (by rw [Nat.min_comm] at hc; exact hc)
  ·have:xs.take lo++ys.take n++xs.drop (lo + min n ys.length) = xs:=by
    rw [hc,Nat.add_zero]
    have:ys.take n = []:=by
     rcases Nat.eq_zero_or_pos n with h | h
     ·subst h; simp
     ·have:ys.length = 0:=by omega
      rw [List.eq_nil_of_length_eq_zero this]; simp
    rw [this,List.append_nil,List.take_append_drop]
   rw [this]
   exact hr.reset hP hl
 ·obtain ⟨b,rfl,rfl⟩:=hA (by omega)
  rcases g2.2 with ⟨e1,_⟩ | ⟨g,cap,cur,e1,_,g5,g6,g7,g8,g9⟩
  ·cases e1
  simp only [Value.slice.injEq,Option.some.injEq,Addr.mk.injEq,and_true] at e1
  obtain ⟨rfl,rfl,rfl⟩:=e1
  obtain ⟨bs,os,us0,rfl,_,_⟩:=hel 0 (by omega)
  obtain ⟨news,n1,n2⟩:=gather hP (R:=R) (t:=ty') ys bs os (fun j hj=>by
   obtain ⟨b',o',us',e1,k1,k2⟩:=hel j hj
   cases e1
   exact ⟨us',k1,k2⟩)
  have hnl:news.length = ys.length:=by rw [rows_length n1,hty,Nat.mul_one]
  have hfl:flat.length = xs.length:=by rw [g2.1,hty,Nat.mul_one]
  rw [hty] at g8 g9
  have hlen:(news.take n).length = min n ys.length:=by rw [List.length_take,hnl]
  have hfit:lo + (news.take n).length≤cur.size:=by rw [hlen]; omega
  have hone:∀ v ∈ news.take n,v.oneCell' = true:=fun v hv=>rows_one n1 v (List.mem_of_mem_take hv)
  have run:=run_copy_cells (P:=P) w t t' ty e b (lo * 1) n cc ⟨bs,os,none⟩ ys.length cs (news.take n) hu (by rw [hi,Option.map_some,hs1]) (by rw [hlen]; exact Nat.min_comm _ _) (fun j u hj=>by
    rw [add_at]
    refine n2 j u ?_
    rw [List.getElem?_take] at hj
    split at hj
    ·exact hj
    ·cases hj) (fun j hj=>by rw [rowAt_cell g5,Nat.mul_one,Array.getElem?_eq_getElem (by omega)]; rfl) (fun j hj=>rowAt_free g5 _ (by omega)) hone
  have hset:w.setCells b (lo * 1) (news.take n) = w.setRow b (cur.toList.take lo++news.take n++cur.toList.drop (lo + (news.take n).length)).toArray:=by
   obtain ⟨f,_,kf⟩:=g5
   rw [Nat.mul_one]
   exact setCells_row b e' f _ lo w cur kf hfit
  rw [hset] at run
  have hlb:lb μ (fun i=>look i st.hp) i b:=⟨_,_,hl,rfl,hm,rfl⟩
  have hkeep:∀ cs,Keeps R w (w.setRow b cs):=fun cs=>(Chg.setRow w b cs).keeps fun b' hr' _ e'=>hr.mem.heap.out i b hlb (e' ▸ hr')
  have hxl:(xs.take lo++ys.take n++xs.drop (lo + min n ys.length)).length = xs.length:=by
   simp only [List.length_append,List.length_take,List.length_drop]
   omega
  have hcl:cur.toList.length = cur.size:=Array.length_toList
  rw [hlen] at run
  refine ⟨_,by rw [run]; rfl,hr.store hlb (Chg.setRow w b _) ⟨_,flat.take lo++news.take n++flat.drop (lo + min n ys.length),hm,⟨?_,.inr ⟨b,_,_,by rw [hxl],trivial,rowAt_set g5 _ ?_,by rw [hxl]; exact g6,g7, ?_, ?_⟩⟩, ?_,g4⟩ (fun _ _ _ e=>by cases e; exact ⟨_,_,_,hl⟩)⟩
  ·rw [hxl]
   simp only [List.length_append,List.length_take,List.length_drop,hfl,hnl,hty]
   omega
  ·simp only [List.size_toArray,List.length_append,List.length_take,List.length_drop,hcl,hnl]
   omega
  ·simp only [List.size_toArray,List.length_append,List.length_take,List.length_drop,hcl,hnl,hty]
   omega
  ·rw [hxl,hty, ← g9, ← hlen]
   exact seg2 cur.toList (news.take n) lo (xs.length * 1) (by rw [hlen]; omega) (by rw [hcl]; omega)
  ·have hk2:=hkeep (cur.toList.take lo++news.take n++cur.toList.drop (lo + min n ys.length)).toArray
   have r1:=rows_take (rows_keep hk2 (fun _ h=>h) g3) lo
   have r2:=rows_take (rows_keep hk2 (fun _ h=>h) n1) n
   have r3:=rows_drop (rows_keep hk2 (fun _ h=>h) g3) (lo + min n ys.length)
   rw [hty,Nat.mul_one] at r1 r2 r3
   exact rows_append (rows_append r1 r2) r3
theorem builtin_ok {b:Builtin} {args:List SV} {us:List Value} {ats:List TypeId} {consts:Array Bool} (h:evalBuiltin tab b args ats st k = some r) {R:Nat→Prop} {μ:Nat→Option Value} (hr:RelB c st a w R μ) (hall:All2 (vr R w μ) args us):
  ∃ v st' u w',k v st' = some r∧RelV c st' a w' v u∧(builtin b ats.toArray ty consts us.toArray).run P w = .ok (.value u) w':=by
 unfold evalBuiltin at h
 split at h
 ·-- len
  rename_i x
  cases hall with
  | cons hx0 ht0=>
  cases ht0
  rename_i u0
  have hx:cr R w μ x u0:=hx0
  split at h
  ·rename_i t
   split at h
   ·rename_i ht
    have hu:=(hP _ _ ht).und
    split at h
    ·rename_i n hn
     have:(∃ A m cc,u0 = .slice A m cc∧(m:Int) = n):=by
      unfold lenOfC at hn
      split at hn
      ·cases hn
       obtain ⟨A,cc,e1,_⟩:=slv_form.1 hx
       exact ⟨A,_,cc,e1,rfl⟩
      ·split at hn
       ·rename_i i _ _ xs _ hl
        cases hn
        obtain ⟨v0,flat,g1,g2,g3,g4⟩:=hr.mem.heap.ob _ _ hl
        have e1:=hx.1
        rw [g1] at e1
        cases e1
        rcases g2.2 with ⟨e1,e2⟩ | ⟨g,cap,cur,e1,_⟩
        ·exact ⟨none,0,0,e1,by rw [e2]⟩
        ·exact ⟨_,_,_,e1,rfl⟩
       ·cases hn
      ·cases hn
       obtain ⟨A,cc,e1,_⟩:=hx
       exact ⟨A,_,cc,e1,rfl⟩
      ·cases hn
     obtain ⟨A,m,cc,rfl,hmn⟩:=this
     exact ⟨_,_,.int .i64 n,w,h,⟨R,μ,hr,rfl⟩,by simp [builtin,Builtin.len_,run_underlying hu,goInt,hmn]⟩
    ·cases h
   ·rename_i s ht
    have hu:=(hP _ _ ht).und
    have hx:u0 = .string s:=hx0
    subst hx
    exact ⟨_,_,.int .i64 s.size,w,h,⟨R,μ,hr,rfl⟩,by simp [builtin,Builtin.len_,run_underlying hu,goInt]⟩
   ·cases h
  ·cases h
 ·-- append of zeros
  rename_i i m
  cases hall with
  | cons hx0 ht0=>
  cases ht0 with
  | cons hy0 ht1=>
  cases ht1
  rename_i u0 u1
  have hx:=hx0.1
  have hy:u1 = .int .i64 m:=hy0
  subst hy
  split at h
  ·rename_i t t'
   split at h
   ·rename_i e _ _ _ _ _ kk _ _ _ _ _ e' k2 xs _ ht htt hl
    have hu:=(hP _ _ ht).und
    have hut:=(hP _ _ htt).und
    split at h
    ·rename_i ti he
     have he:=hP _ _ he
     split at h
     ·rename_i k1 hty
      obtain ⟨hb,h2⟩:=cond_some hP h
      obtain ⟨hd,h3⟩:=cond_some hP h2
      clear h h2
      simp only [Bool.and_eq_true] at hb
      obtain ⟨⟨⟨hb1,hb2⟩,hb3⟩,hb4⟩:=hb
      have hb1:=of_decide_eq_true hb1
      have hb2:=Nat.eq_of_beq_eq_true hb2
      have hb3:=Nat.eq_of_beq_eq_true hb3
      subst hb1
      subst hb2
      obtain ⟨hd0,hd1,hd2⟩:=of_decide_eq_true hd
      obtain ⟨mm,rfl⟩:=Int.eq_ofNat_of_zero_le hd0
      rw [Int.toNat_natCast] at hd1 hd2 h3
      have h:=h3
      clear h3
      obtain ⟨v0,flat,g1,g2,g3,g4⟩:=hr.mem.heap.ob i _ hl
      rw [g1] at hx
      have hx:=Option.some.inj hx
      subst hx
      obtain ⟨inf,zv,j1,j2,j3,j4,j5⟩:=he.inf
      have hz:=he.zty _ hty
      rw [← j5] at hz
      have hzs:zv.cells.size = (Ty.int k1).size:=by
       obtain ⟨us,e1,e2⟩:=zok_rv (R:=R) (w:=w) hz
       rw [List.append_nil] at e1
       rw [← Array.length_toList,e1,rv_length e2]
      have hslice:∃ A n c',v0 = .slice A n c':=by
       rcases g2.2 with ⟨e1,e2⟩ | ⟨g,cap,cur,e1,_⟩
       ·exact ⟨_,_,_,e1⟩
       ·exact ⟨_,_,_,e1⟩
      have q6:rows R w (.int k1) (List.replicate mm (dflt (.int k1))) (Builtin.zeroCells zv.cells mm).toList:=by
       have q:=rows_made (R:=R) (w:=w) hz hzs g4 mm
       rw [← hzs] at q
       exact q
      have hsi:inf.size = (Ty.int k1).size:=by rw [j2,hb3]; rfl
      rw [← hsi] at g2 hzs g4
      have hd1':(xs.length + mm) * ti.bytes≤140737488355328:=by
       have e1:((xs.length + mm:Nat):Int) * (ti.bytes:Int) = (((xs.length + mm) * ti.bytes:Nat):Int):=(Int.natCast_mul _ _).symm
       omega
      obtain ⟨v1,w1,q1,q2,q3,q5⟩:=append_orow0 hP (ty:=ty) hu hut j1 j4 hzs g4 g2 mm (rows_one q6) hd2 (by rw [j3]; exact hd1')
      rw [hsi] at q2
      have hob:=own_blk g2
      have hob1:=own_blk q2
      have hch:Chg (fun b=>blk v0 = some b) w w1:=(Chg.grown q3).mono fun b _ e=>by rw [← hob, ← e]
      have hlb:∀ b,blk v0 = some b→lb μ (fun i=>look i st.hp) i b:=fun b hb=>⟨_,_,hl,rfl,g1,hb⟩
      have hkeep:Keeps R w w1:=hch.keeps fun b hb _ e=>hr.mem.heap.out i b (hlb b e) hb
      rw [hsi] at g4
      refine ⟨_,_,v1,w1,h,⟨R,upd μ i v1,hr.rehead hl rfl g1 hslice hch (fun b hb=> ?_) ⟨v1,flat++(Builtin.zeroCells zv.cells mm).toList,by simp [upd],by rw [List.length_append,List.length_replicate]; exact q2,rows_append (rows_keep hkeep (fun _ h=>h) g3) (rows_keep hkeep (fun _ h=>h) q6),g4⟩ (fun _ _ _ e=>by cases e), ?_⟩, ?_⟩
      ·rw [← hob1] at hb
       rcases q5 with q5 | q5
       ·rw [q5,hob] at hb; exact .inl hb
       ·rw [q5] at hb; cases hb; exact .inr (Nat.le_refl _)
      ·refine ⟨by simp [upd], ?_⟩
       rcases q2.2 with ⟨e1,_⟩ | ⟨g,cap,cur,e1,_⟩
       ·exact ⟨_,_,_,e1⟩
       ·exact ⟨_,_,_,e1⟩
      ·simp only [builtin,Sem.run_bind,q1,Result.andThen_ok,Sem.run_pure]
     ·cases h
    ·cases h
   ·cases h
  ·cases h
 ·-- append
  rename_i i x _
  cases hall with
  | cons hx0 ht0=>
  cases ht0 with
  | cons hy0 ht1=>
  cases ht1
  rename_i u0 u1
  have hx:=hx0.1
  have hy:cr R w μ x u1:=hy0
  split at h
  ·rename_i t t'
   split at h
   ·rename_i e _ _ _ _ _ e' ty' xs _ ht hl
    have hu:=(hP _ _ ht).und
    split at h
    ·rename_i ti ys he hys
     have he:=hP _ _ he
     obtain ⟨hb,h2⟩:=cond_some hP h
     obtain ⟨hd,h3⟩:=cond_some hP h2
     clear h h2
     simp only [Bool.and_eq_true] at hb
     obtain ⟨⟨⟨⟨hb1,hb2⟩,hb3⟩,hb4⟩,hb5⟩:=hb
     have hb1:=Nat.eq_of_beq_eq_true hb1
     have hb2:=Nat.eq_of_beq_eq_true hb2
     have hb3:=Nat.eq_of_beq_eq_true hb3
     have hb4:0 < ti.size:=Nat.le_of_ble_eq_true hb4
     have hb5:=Nat.eq_of_beq_eq_true hb5
     subst hb1
     subst hb2
     obtain ⟨hd1,hd2⟩:=of_decide_eq_true hd
     have hh:has i x.owns = false∧k (.c (.own i)) { st with env:=mapE (kill (Nat.beq i)) st.env,hp:=(i,.vec e ty' (xs++ys) true)::mapH (kill (Nat.beq i)) st.hp } = some r:=by
      cases hh:has i x.owns with
      | true=>simp only [hh,cond_true] at h3; cases h3
      | false=>simp only [hh,cond_false] at h3; exact ⟨rfl,h3⟩
     clear h3
     obtain ⟨_,h⟩:=hh
     obtain ⟨v0,flat,g1,g2,g3,g4⟩:=hr.mem.heap.ob i _ hl
     rw [g1] at hx
     have hx:=Option.some.inj hx
     subst hx
     obtain ⟨inf,zv,j1,j2,j3,j4,j5⟩:=he.inf
     have hzs:zv.cells.size = ty'.size:=by rw [← Array.length_toList,j5,hb5,hb3]
     obtain ⟨A,cc,rfl,hel⟩:=listAt_ok hP hr.mem hys hy
     have hslice:∃ A n c',v0 = .slice A n c':=by
      rcases g2.2 with ⟨e1,e2⟩ | ⟨g,cap,cur,e1,_⟩
      ·exact ⟨_,_,_,e1⟩
      ·exact ⟨_,_,_,e1⟩
     have:∃ v1 w1 news,(Builtin.append_ #[t,t] ty #[v0,.slice A ys.length cc]).run P w = .ok v1 w1∧orow w1 e ty'.size v1 (xs.length + ys.length) (flat++news)∧w.grownBy w1 v0.ownBlock∧(v1.ownBlock = v0.ownBlock∨v1.ownBlock = some w.heap.size)∧rows R w ty' ys news:=by
      cases A with
      | none=>
       have hy0:ys = []:=by
        cases ys with
        | nil=>rfl
        | cons y ys=>obtain ⟨b,o,us,e1,_⟩:=hel 0 (by simp); cases e1
       subst hy0
       exact ⟨v0,w,[],run_append_none hP hu j1 g2 cc,by simpa using g2,⟨rfl,rfl,rfl,Nat.le_refl _,fun _ _ _=>rfl⟩,.inl rfl,rfl⟩
      | some ad=>
       have hg:∃ news,rows R w ty' ys news∧(0 < ys.length→∃ b o,ad = ⟨b,o,none⟩∧At w b o news):=by
        cases ys with
        | nil=>exact ⟨[],rfl,fun h=>by simp at h⟩
        | cons y ys=>
         obtain ⟨b,o,us,e1,_⟩:=hel 0 (by simp)
         cases e1
         obtain ⟨news,n1,n2⟩:=gather hP (R:=R) (t:=ty') (y::ys) b o (fun i hi=>by
          obtain ⟨b',o',us',e1,k1,k2⟩:=hel i hi
          cases e1
          exact ⟨us',k1,k2⟩)
         exact ⟨news,n1,fun _=>⟨b,o,rfl,n2⟩⟩
       obtain ⟨news,n1,n2⟩:=hg
       have hnl:=rows_length n1
       have hcells:∀ j u,news[j]? = some u→w.cell? (ad.add j) = some u:=by
        intro j u hj
        cases ys with
        | nil=>simp only [rows] at n1; subst n1; simp at hj
        | cons y ys=>
         obtain ⟨b,o,rfl,hat⟩:=n2 (by simp)
         rw [add_at]
         exact hat j u hj
       have hsi:inf.size = ty'.size:=by rw [j2,hb3]
       rw [← hsi] at g2 hzs g4 hnl
       obtain ⟨v1,w1,q1,q2,q3,q5⟩:=append_orow hP (ty:=ty) hu j1 j4 hzs g4 g2 ad ys.length cc news hnl hcells (rows_one n1) (by simp only [maxLen]; omega) (by rw [j3]; exact hd1)
       rw [hsi] at q2
       exact ⟨v1,w1,news,q1,q2,q3,q5,n1⟩
     obtain ⟨v1,w1,news,q1,q2,q3,q5,q6⟩:=this
     have hob:=own_blk g2
     have hob1:=own_blk q2
     have hch:Chg (fun b=>blk v0 = some b) w w1:=(Chg.grown q3).mono fun b _ e=>by rw [← hob, ← e]
     have hlb:∀ b,blk v0 = some b→lb μ (fun i=>look i st.hp) i b:=fun b hb=>⟨_,_,hl,rfl,g1,hb⟩
     have hkeep:Keeps R w w1:=hch.keeps fun b hb _ e=>hr.mem.heap.out i b (hlb b e) hb
     refine ⟨_,_,v1,w1,h,⟨R,upd μ i v1,hr.rehead hl rfl g1 hslice hch (fun b hb=> ?_) ⟨v1,flat++news,by simp [upd],by rw [List.length_append]; exact q2,rows_append (rows_keep hkeep (fun _ h=>h) g3) (rows_keep hkeep (fun _ h=>h) q6),g4⟩ (fun _ _ _ e=>by cases e), ?_⟩, ?_⟩
     ·rw [← hob1] at hb
      rcases q5 with q5 | q5
      ·rw [q5,hob] at hb; exact .inl hb
      ·rw [q5] at hb; cases hb; exact .inr (Nat.le_refl _)
     ·refine ⟨by simp [upd], ?_⟩
      rcases q2.2 with ⟨e1,_⟩ | ⟨g,cap,cur,e1,_⟩
      ·exact ⟨_,_,_,e1⟩
      ·exact ⟨_,_,_,e1⟩
     ·simp only [builtin,Sem.run_bind,q1,Result.andThen_ok,Sem.run_pure]
    ·cases h
   ·cases h
  ·cases h
 ·-- copy
  rename_i i sz lo n x
  cases hall with
  | cons hx0 ht0=>
  cases ht0 with
  | cons hy0 ht1=>
  cases ht1
  rename_i u0 u1
  split at h
  ·rename_i t t'
   split at h
   ·rename_i e _ _ _ _ _ e' ty' xs m ht hl
    have hu:=(hP _ _ ht).und
    split at h
    ·rename_i ti ys he hys
     have he:=hP _ _ he
     obtain ⟨hb,h2⟩:=cond_some hP h
     simp only [Bool.and_eq_true] at hb
     obtain ⟨⟨hb1,hb2⟩,hb3⟩:=hb
     have hb1:=Nat.eq_of_beq_eq_true hb1
     have hb2:=Nat.eq_of_beq_eq_true hb2
     obtain ⟨inf,zv,j1,j2,j3,j4,j5⟩:=he.inf
     have hty:ty'.size = 1:=by cases ty' <;> first | rfl | cases hb3
     obtain ⟨w',q1,q2⟩:=copy_ok hP (t':=t') (ty:=ty) hu j1 (by rw [j2,hb1]) hr hx0 hy0 hl hys hb2 hty
     exact ⟨_,_,.int .i64 _,w',h2,⟨R,μ,q2,rfl⟩,by simp only [builtin,Sem.run_bind,q1,Result.andThen_ok,Sem.run_pure]⟩
    ·cases h
   ·cases h
  ·cases h
 ·-- delete
  rename_i i kb n
  cases hall with
  | cons hx0 ht0=>
  cases ht0 with
  | cons hy0 ht1=>
  cases ht1
  rename_i u0 u1
  have hx:cr R w μ (.mp i) u0:=hx0
  have hy:u1 = .int kb n:=hy0
  subst hy
  split at h
  ·rename_i t ats'
   split at h
   ·rename_i kk ei k2 ty1 es ht hl
    obtain ⟨hc,h'⟩:=cond_some hP h
    clear h
    simp only [Bool.and_eq_true,decide_eq_true_eq] at hc
    obtain ⟨rfl,rfl⟩:=hc
    obtain ⟨kt,et,g1,g2,g3⟩:=mapTI_ok hP ht
    obtain ⟨b,arr,clk,e1,e2,e3⟩:=hr.mem.heap.ob _ _ hl
    have em:u0 = .map (some b):=by
     have:=hx.1
     rw [e1] at this
     exact (Option.some.inj this).symm
    subst em
    have hlb:lb μ (fun i=>look i st.hp) i b:=⟨_,_,hl,rfl,e1,rfl⟩
    have hkeep:∀ o,Keeps R w { w with heap:=w.heap.setIfInBounds b o }:=fun o=>(Chg.map w b o).keeps fun b' hr' _ e'=>hr.mem.heap.out i b hlb (e' ▸ hr')
    have e3':∀ o,All2 (DE R { w with heap:=w.heap.setIfInBounds b o } kk ty1) es arr.toList:=fun o=>e3.mono fun _ _ h=>⟨h.1,rv_keep (hkeep _) (fun _ h=>h) h.2⟩
    rcases find_spec (n:=n) 0 e3 with ⟨a1,a2,a3,a4,a5⟩ | ⟨j,v',e,a1,a2,a3,a4,a5,a6,a7,a8⟩
    ·refine ⟨_,_,_,_,h',⟨R,μ,hr.store hlb (Chg.map w b (.map arr clk)) ⟨b,_,_,e1,(MapKept.heap_set e2).1, ?_⟩ (fun _ _ _ e=>by cases e),_,rfl,.nil⟩, ?_⟩
     ·rw [a4]
      exact e3' _
     ·have:=run_del hP (ty:=ty) (ats:=ats') g1 g2 e2 a5
      simp only [builtin,Sem.run_bind,this,Result.andThen_ok,Sem.run_pure]
    ·have hj:j < arr.toList.length:=by
      rcases Nat.lt_or_ge j arr.toList.length with h | h
      ·exact h
      ·rw [List.getElem?_eq_none h] at a2; cases a2
     refine ⟨_,_,_,_,h',⟨R,μ,hr.store hlb (Chg.map w b (.map (arr.eraseIdxIfInBounds (0 + j)) clk)) ⟨b,_,_,e1,(MapKept.heap_set e2).1, ?_⟩ (fun _ _ _ e=>by cases e),_,rfl,.nil⟩, ?_⟩
     ·have:(arr.eraseIdxIfInBounds (0 + j)).toList = arr.toList.eraseIdx j:=by
       rw [Nat.zero_add]
       unfold Array.eraseIdxIfInBounds
       rw [dif_pos (by simpa using hj)]
       simp
      rw [a7,this]
      exact (e3' _).erase j
     ·have:=run_del hP (ty:=ty) (ats:=ats') g1 g2 e2 a8
      simp only [builtin,Sem.run_bind,this,Result.andThen_ok,Sem.run_pure]
   ·cases h
  ·cases h
 ·rename_i ka p kb q
  cases hall with
  | cons hx0 ht0=>
  cases ht0 with
  | cons hy0 ht1=>
  cases ht1
  rename_i u0 u1
  have hx:u0 = .int ka p:=hx0
  have hy:u1 = .int kb q:=hy0
  subst hx
  subst hy
  refine ⟨_,_,.int ka (bif decide (q < p) then q else p),w,h,⟨R,μ,hr,rfl⟩, ?_⟩
  by_cases hq:q < p <;> simp [builtin,Builtin.min_,Builtin.min2,hq]
 ·rename_i ka p kb q
  cases hall with
  | cons hx0 ht0=>
  cases ht0 with
  | cons hy0 ht1=>
  cases ht1
  rename_i u0 u1
  have hx:u0 = .int ka p:=hx0
  have hy:u1 = .int kb q:=hy0
  subst hx
  subst hy
  refine ⟨_,_,.int ka (bif decide (q > p) then q else p),w,h,⟨R,μ,hr,rfl⟩, ?_⟩
  by_cases hq:q > p <;> simp [builtin,Builtin.max_,Builtin.max2,hq]
 ·rename_i ka p kb q kc r' kd s'
  cases hall with
  | cons hx0 ht0=>
  cases ht0 with
  | cons hy0 ht1=>
  cases ht1 with
  | cons hz0 ht2=>
  cases ht2 with
  | cons hw0 ht3=>
  cases ht3
  rename_i u0 u1 u2 u3
  have hx:u0 = .int ka p:=hx0
  have hy:u1 = .int kb q:=hy0
  have hz:u2 = .int kc r':=hz0
  have hw:u3 = .int kd s':=hw0
  subst hx
  subst hy
  subst hz
  subst hw
  refine ⟨_,_,.int ka (imax (imax (imax p q) r') s'),w,h,⟨R,μ,hr,rfl⟩, ?_⟩
  unfold imax
  simp only [Bool.cond_decide]
  by_cases hq:q > p <;> simp [builtin,Builtin.max_,Builtin.max2,hq]
 ·cases h
end
end Go.Proofs.YtohnjbmiaegofaaGreat.Ev
