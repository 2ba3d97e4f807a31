/- Renaming of objects; calls. -/
import Derived.Test.YtohnjbmiaegofaaGreatEvH
set_option linter.unusedVariables false
set_option linter.unusedSimpArgs false
set_option linter.unusedSectionVars false
namespace Go.Proofs.YtohnjbmiaegofaaGreat.Ev
open Go
theorem idx_some {i:Nat}:∀ {l:List Nat} {j:Nat},idx i l = some j→l[j]? = some i
 | [],j,h=>by cases h
 | k::r,j,h=>by
  simp only [idx] at h
  cases hb:Nat.beq i k with
  | true=>
   rw [hb] at h
   cases h
   rw [Nat.eq_of_beq_eq_true hb]
   rfl
  | false=>
   rw [hb] at h
   simp only [cond_false] at h
   split at h
   ·rename_i n hn
    cases h
    have:=idx_some hn
    simpa using this
   ·cases h
theorem idx_none {i:Nat}:∀ {l:List Nat},idx i l = none→i ∉ l
 | [],h=>by simp
 | k::r,h=>by
  simp only [idx] at h
  cases hb:Nat.beq i k with
  | true=>rw [hb] at h; cases h
  | false=>
   rw [hb] at h
   simp only [cond_false] at h
   split at h
   ·cases h
   ·rename_i hn
    have hne:i ≠ k:=fun e=>by subst e; simp at hb
    simp [hne,idx_none hn]
def Inj (l:List Nat):Prop:=∀ i j k:Nat,l[i]? = some k→l[j]? = some k→i = j
theorem nodup_iff:∀ {l:List Nat},nodup l = true→Inj l
 | [],_=>fun i j k h=>by simp at h
 | x::r,h=>by
  simp only [nodup] at h
  cases hb:has x r with
  | true=>rw [hb] at h; cases h
  | false=>
   rw [hb] at h
   have ih:=nodup_iff h
   have hx:∀ i,r[i]? ≠ some x:=fun i hi=>by
    rw [(has_iff _ _).2 (List.mem_of_getElem? hi)] at hb
    cases hb
   intro i j k hi hj
   cases i with
   | zero=>
    cases j with
    | zero=>rfl
    | succ j=>
     simp only [List.getElem?_cons_zero,Option.some.injEq] at hi
     subst hi
     exact absurd (by simpa using hj) (hx j)
   | succ i=>
    cases j with
    | zero=>
     simp only [List.getElem?_cons_zero,Option.some.injEq] at hj
     subst hj
     exact absurd (by simpa using hi) (hx i)
    | succ j=>rw [ih i j k (by simpa using hi) (by simpa using hj)]
theorem nodup_inj {l:List Nat} (h:Inj l) {i j k:Nat} (hi:l[i]? = some k) (hj:l[j]? = some k):i = j:=h i j k hi hj
theorem idx_of {l:List Nat} (h:Inj l) {i j:Nat} (hj:l[j]? = some i):idx i l = some j:=by
 cases hi:idx i l with
 | none=>exact absurd (List.mem_of_getElem? hj) (idx_none hi)
 | some k=>rw [nodup_inj h (idx_some hi) hj]
theorem ltAll_iff {n:Nat}:∀ {l:List Nat},ltAll n l = true→∀ i ∈ l,i < n
 | [],_,i,hi=>by cases hi
 | k::r,h,i,hi=>by
  simp only [ltAll] at h
  cases hb:Nat.blt k n with
  | false=>rw [hb] at h; cases h
  | true=>
   rw [hb] at h
   rcases List.mem_cons.1 hi with rfl | hi
   ·exact Nat.le_of_ble_eq_true hb
   ·exact ltAll_iff h i hi
theorem meets_iff:∀ {l m:List Nat},meets l m = false→∀ i ∈ l,i ∉ m
 | [],m,_,i,hi=>by cases hi
 | k::r,m,h,i,hi=>by
  simp only [meets] at h
  cases hb:has k m with
  | true=>rw [hb] at h; cases h
  | false=>
   rw [hb] at h
   rcases List.mem_cons.1 hi with rfl | hi
   ·intro hm; rw [(has_iff _ _).2 hm] at hb; cases hb
   ·exact meets_iff h i hi
theorem shift_get {nx:Nat}:∀ (n i j:Nat),(shift nx n i)[j]? = if j < n then some (nx + (i + j)) else none
 | 0,i,j=>by simp [shift]
 | n + 1,i,j=>by
  cases j with
  | zero=>simp [shift]
  | succ j=>
   simp only [shift,List.getElem?_cons_succ,shift_get n (i + 1) j]
   by_cases h:j < n
   ·rw [if_pos h,if_pos (by omega)]; congr 1; omega
   ·rw [if_neg h,if_neg (by omega)]
theorem shift_len {nx:Nat}:∀ (n i:Nat),(shift nx n i).length = n
 | 0,i=>rfl
 | n + 1,i=>by simp [shift,shift_len n]
theorem look_zipH (i:Nat) (rest:List (Nat×Ob)):∀ (all:List Nat) (l:List Ob),all.length = l.length→look i (zipH all l++rest) = match idx i all with | some j=>l[j]? | none=>look i rest
 | [],l,h=>by cases l <;> simp [zipH,idx] at h ⊢
 | k::r,[],h=>by simp at h
 | k::r,o::os,h=>by
  show look i ((k,o)::(zipH r os++rest)) = _
  rw [look_cons]
  simp only [idx]
  by_cases e:k = i
  ·subst e; simp
  ·have hb:Nat.beq i k = false:=by
    cases hb:Nat.beq i k with
    | false=>rfl
    | true=>exact absurd (Nat.eq_of_beq_eq_true hb).symm e
   rw [if_neg e,hb,look_zipH i rest r os (by simpa using h)]
   simp only [cond_false]
   cases idx i r <;> rfl
theorem obs_get (hp:List (Nat×Ob)) (ids0:List Nat):∀ (l:List Nat) (j:Nat),(obs hp ids0 l)[j]? = (l[j]?).map fun i=>match look i hp with | some o=>o.map (ren ids0) | none=>.dead
 | [],j=>by simp [obs]
 | k::r,j=>by
  cases j with
  | zero=>rfl
  | succ j=>simp only [obs,List.getElem?_cons_succ,obs_get hp ids0 r j]
theorem obs_len (hp:List (Nat×Ob)) (ids0:List Nat):∀ (l:List Nat),(obs hp ids0 l).length = l.length
 | []=>rfl
 | k::r=>by simp [obs,obs_len hp ids0 r]
theorem ren_cr {R:Nat→Prop} {w:World} {μ μ':Nat→Option Value} {ids:List Nat} (hm:∀ i j,idx i ids = some j→∀ v,μ i = some v→μ' j = some v) {x:SC} {u:Value} (h:cr R w μ x u):cr R w μ' (ren ids x) u:=by
 cases x with
 | own i=>
  simp only [ren]
  split
  ·rename_i j hj; exact ⟨hm i j hj _ h.1,h.2⟩
  ·trivial
 | sub i a b c=>
  simp only [ren]
  split
  ·rename_i j hj
   obtain ⟨A,c,h1,h2,A',m,c',h3,h4⟩:=h
   exact ⟨A,c,h1,h2,A',m,c',hm i j hj _ h3,h4⟩
  ·trivial
 | ptr i o=>
  simp only [ren]
  split
  ·rename_i j hj; obtain ⟨b,h1,h2⟩:=h; exact ⟨b,hm i j hj _ h1,h2⟩
  ·trivial
 | vel i a b c=>
  simp only [ren]
  split
  ·rename_i j hj; obtain ⟨b,m,c,h1,h2⟩:=h; exact ⟨b,m,c,hm i j hj _ h1,h2⟩
  ·trivial
 | mp i=>
  simp only [ren]
  split
  ·rename_i j hj; exact ⟨hm i j hj _ h.1,h.2⟩
  ·trivial
 | clo f caps=>
  simp only [ren]
  split
  ·rename_i l hl
   obtain ⟨us,h1,h2⟩:=h
   refine ⟨us,h1, ?_⟩
   have:∀ {caps l:List Nat} {us:List Value},ren.caps1 ids caps = some l→All2 (fun i u=>μ i = some u∧∃ b,u = .pointer (some ⟨b,0,none⟩)) caps us→All2 (fun i u=>μ' i = some u∧∃ b,u = .pointer (some ⟨b,0,none⟩)) l us:=by
    intro caps
    induction caps with
    | nil=>intro l us hl h; cases h; cases hl; exact .nil
    | cons i caps ih=>
     intro l us hl h
     cases h with
     | cons hp ht=>
      simp only [ren.caps1] at hl
      split at hl
      ·rename_i j l' hj hl'
       cases hl
       exact .cons ⟨hm i j hj _ hp.1,hp.2⟩ (ih hl' ht)
      ·cases hl
   exact this hl h2
  ·trivial
 | _=>exact h
theorem renB_cr {R:Nat→Prop} {w:World} {μ μ':Nat→Option Value} {all:List Nat} (hm:∀ i j,all[i]? = some j→∀ v,μ i = some v→μ' j = some v) {x:SC} {u:Value} (h:cr R w μ x u):cr R w μ' (renB all x) u:=by
 cases x with
 | own i=>
  simp only [renB]
  split
  ·rename_i j hj; exact ⟨hm i j hj _ h.1,h.2⟩
  ·trivial
 | sub i a b c=>
  simp only [renB]
  split
  ·rename_i j hj
   obtain ⟨A,c,h1,h2,A',m,c',h3,h4⟩:=h
   exact ⟨A,c,h1,h2,A',m,c',hm i j hj _ h3,h4⟩
  ·trivial
 | ptr i o=>
  simp only [renB]
  split
  ·rename_i j hj; obtain ⟨b,h1,h2⟩:=h; exact ⟨b,hm i j hj _ h1,h2⟩
  ·trivial
 | vel i a b c=>
  simp only [renB]
  split
  ·rename_i j hj; obtain ⟨b,m,c,h1,h2⟩:=h; exact ⟨b,m,c,hm i j hj _ h1,h2⟩
  ·trivial
 | mp i=>
  simp only [renB]
  split
  ·rename_i j hj; exact ⟨hm i j hj _ h.1,h.2⟩
  ·trivial
 | clo f caps=>
  simp only [renB]
  split
  ·rename_i l hl
   obtain ⟨us,h1,h2⟩:=h
   refine ⟨us,h1, ?_⟩
   have:∀ {caps l:List Nat} {us:List Value},renB.capsB all caps = some l→All2 (fun i u=>μ i = some u∧∃ b,u = .pointer (some ⟨b,0,none⟩)) caps us→All2 (fun i u=>μ' i = some u∧∃ b,u = .pointer (some ⟨b,0,none⟩)) l us:=by
    intro caps
    induction caps with
    | nil=>intro l us hl h; cases h; cases hl; exact .nil
    | cons i caps ih=>
     intro l us hl h
     cases h with
     | cons hp ht=>
      simp only [renB.capsB] at hl
      split at hl
      ·rename_i j l' hj hl'
       cases hl
       exact .cons ⟨hm i j hj _ hp.1,hp.2⟩ (ih hl' ht)
      ·cases hl
   exact this hl h2
  ·trivial
 | _=>exact h
structure Behind (w:World) (R:Nat→Prop) (μ:Nat→Option Value) (objs:List Ob) (res:SV) (objs':List Ob) (v:Value) (w':World) (R':Nat→Prop) (μ':Nat→Option Value):Prop where
 res:vr R' w' μ' res v
 heap:HInv R' w' μ' (fun i=>objs'[i]?)
 dom:∀ i v,μ' i = some v→i < objs'.length
 fr:Fr w (fun b=>∃ i,lb μ (fun i=>objs[i]?) i b) w'
 rlo:∀ b,R b→R' b
 rhi:∀ b,R' b→b < w.heap.size→R b∨∃ i,lb μ (fun i=>objs[i]?) i b
 own:∀ i b,lb μ' (fun i=>objs'[i]?) i b→b < w.heap.size→∃ i,lb μ (fun i=>objs[i]?) i b
 pins:∀ i v,i < objs.length→μ i = some v→(∀ A n cc,v ≠ .slice A n cc)→μ' i = some v
 stay:∀ i e t xs,objs'[i]? = some (.vec e t xs false)→i < objs.length→μ' i = μ i
def FnOK (P:Program) (f:FuncId) (F:Spec):Prop:=
 ∀ args objs k r,F args objs k = some r→∀ (w:World) (R:Nat→Prop) (μ:Nat→Option Value) (vals:List Value),HInv R w μ (fun i=>objs[i]?)→(∀ i v,μ i = some v→i < objs.length)→All2 (vr R w μ) args vals→
   Calls P f vals.toArray w fun e w'=>∃ v res objs' R' μ',e = .returned v∧k (res,objs') = some r∧objs.length≤objs'.length∧Behind w R μ objs res objs' v w' R' μ'
def Enters (P:Program) (f:FuncId):Prop:=∀ args w,(callFunc f args).run P w = .ok (.enter f args) w
def GOK (P:Program) (G:Nat→Option Spec):Prop:=∀ f F,G f = some F→FnOK P (f % 1000000) F∧Enters P (f % 1000000)
theorem others_iff {hp:List (Nat×Ob)} {i:Nat}:∀ {ids:List Nat} {os:List Ob} {j:Nat},ids[j]? = some i→i ∉ others hp ids os→isCells (look i hp) = true∨∃ e t xs,os[j]? = some (.vec e t xs false)
 | [],_,j,h,_=>by simp at h
 | k::r,[],j,h,hn=>by
  simp only [others,List.mem_cons,not_or] at hn
  cases j with
  | zero=>simp at h; exact absurd h.symm hn.1
  | succ j=>rcases others_iff (j:=j) (by simpa using h) hn.2 with h | ⟨e,t,xs,h⟩; exact .inl h; simp at h
 | k::r,o::os,j,h,hn=>by
  simp only [others] at hn
  cases hb:(isCells (look k hp) || o.still) with
  | true=>
   rw [hb] at hn
   simp only [cond_true] at hn
   cases j with
   | zero=>
    simp at h
    subst h
    simp only [Bool.or_eq_true] at hb
    rcases hb with hb | hb
    ·exact .inl hb
    ·right
     cases o with
     | vec e t xs m=>
      simp [Ob.still] at hb
      subst hb
      exact ⟨e,t,xs,rfl⟩
     | _=>cases hb
   | succ j=>simpa using others_iff (j:=j) (by simpa using h) hn
  | false=>
   rw [hb] at hn
   simp only [cond_false,List.mem_cons,not_or] at hn
   cases j with
   | zero=>simp at h; exact absurd h.symm hn.1
   | succ j=>simpa using others_iff (j:=j) (by simpa using h) hn.2
theorem flag_map (f:SC→SC) (b:Bool) (o:Ob):(o.flag b).map f = (o.map f).flag b:=by cases o <;> rfl
theorem flag_live (b:Bool) (o:Ob):(o.flag b).live = o.live:=by cases o <;> rfl
theorem flag_obr {R:Nat→Prop} {w:World} {μ:Nat→Option Value} {i:Nat} {o:Ob} {b:Bool} (h:obr R w μ i o):obr R w μ i (o.flag b):=by cases o <;> exact h
theorem clean_obr {R:Nat→Prop} {w:World} {μ:Nat→Option Value} {i:Nat} {o:Ob} (h:obr R w μ i o):obr R w μ i o.clean:=by cases o <;> exact h
theorem clean_live (o:Ob):o.clean.live = o.live:=by cases o <;> rfl
theorem reflag_get {hp:List (Nat×Ob)}:∀ {ids:List Nat} {os:List Ob} {j:Nat},(reflag hp ids os)[j]? = (os[j]?).map (Ob.flag (match ids[j]? with | some i=>flagOf (look i hp) | none=>true))
 | ids,[],j=>by cases ids <;> simp [reflag]
 | [],o::os,j=>by
  simp only [reflag]
  cases j with
  | zero=>simp
  | succ j=>simpa using reflag_get (ids:=[]) (os:=os) (j:=j)
 | i::r,o::os,j=>by
  simp only [reflag]
  cases j with
  | zero=>simp
  | succ j=>simpa using reflag_get (ids:=r) (os:=os) (j:=j)
theorem reflag_len {hp:List (Nat×Ob)}:∀ {ids:List Nat} {os:List Ob},(reflag hp ids os).length = os.length
 | ids,[]=>by cases ids <;> simp [reflag]
 | [],o::os=>by simp [reflag,reflag_len (ids:=[]) (os:=os)]
 | i::r,o::os=>by simp [reflag,reflag_len (ids:=r) (os:=os)]
theorem after_call {c:Cx} {st:St} {a:Act} {w w':World} {RB RN R':Nat→Prop} {μ μc μ':Nat→Option Value} (h:RelB c st a w RB μ) {ids:List Nat} (hnd:Inj ids) (hlt:∀ i ∈ ids,i < st.nx)
  {objs objs':List Ob} (hlen0:objs.length = ids.length) (hlen:objs.length≤objs'.length) (hμc:∀ j,μc j = (ids[j]?).bind μ)
  (hlb:∀ j b,lb μc (fun i=>objs[i]?) j b→∃ i,ids[j]? = some i∧lb μ (fun i=>look i st.hp) i b)
  {res:SV} {v:Value} (hB:Behind w R' μc objs res objs' v w' RN μ') {R2:Nat→Prop}
  (hres:vr R2 w' μ' res v) (hobs:∀ j o,objs'[j]? = some o→obr R2 w' μ' j o)
  (r1:∀ b,RB b→R2 b) (r2:∀ b,R2 b→b < w'.heap.size) (r3:∀ b,R2 b→b < w.heap.size→RB b∨∃ j,lb μc (fun i=>objs[i]?) j b) (r4:∀ j b,lb μ' (fun i=>objs'[i]?) j b→¬ R2 b)
  :RelV c (behind ids objs' st) a w' (res.map (renB (ids++shift st.nx (objs'.length - ids.length) 0))) v:=by
 generalize hall:ids++shift st.nx (objs'.length - ids.length) 0 = all
 have hal:all.length = objs'.length:=by rw [← hall,List.length_append,shift_len]; omega
 have hget:∀ j i,all[j]? = some i→(j < ids.length∧ids[j]? = some i)∨(ids.length≤j∧i = st.nx + (j - ids.length)):=by
  intro j i hj
  rw [← hall,List.getElem?_append] at hj
  split at hj
  ·rename_i hl; exact .inl ⟨hl,hj⟩
  ·rename_i hl
   rw [shift_get] at hj
   split at hj
   ·cases hj; exact .inr ⟨by omega,by omega⟩
   ·cases hj
 have hand:Inj all:=by
  intro i j k hi hk
  have hki:=hget i k hi
  have hkj:=hget j k hk
  rcases hki with ⟨a1,a2⟩ | ⟨a1,a2⟩ <;> rcases hkj with ⟨b1,b2⟩ | ⟨b1,b2⟩
  ·exact nodup_inj hnd a2 b2
  ·have:=hlt k (List.mem_of_getElem? a2); omega
  ·have:=hlt k (List.mem_of_getElem? b2); omega
  ·omega
 let μ2:Nat→Option Value:=fun i=>match idx i all with | some j=>μ' j | none=>μ i
 have h2in:∀ i j,all[j]? = some i→μ2 i = μ' j:=by
  intro i j hj
  show (match idx i all with | some j=>μ' j | none=>μ i) = _
  rw [idx_of hand hj]
 have h2out:∀ i,i ∉ all→μ2 i = μ i:=by
  intro i hi
  show (match idx i all with | some j=>μ' j | none=>μ i) = _
  cases hx:idx i all with
  | none=>rfl
  | some j=>exact absurd (List.mem_of_getElem? (idx_some hx)) hi
 have hback:∀ x u,cr R2 w' μ' x u→cr R2 w' μ2 (renB all x) u:=fun x u=>renB_cr fun i j hj v hv=>by rw [h2in j i hj]; exact hv
 have hkeepB:∀ b,b < w.heap.size→(¬ ∃ j,lb μc (fun i=>objs[i]?) j b)→w'.heap[b]? = w.heap[b]? :=hB.fr.block
 have hk:Keeps RB w w':=⟨hB.fr.size,fun b hb hl=>hkeepB b hl fun ⟨j,hj⟩=>by
  obtain ⟨i,_,hi⟩:=hlb j b hj
  exact h.mem.heap.out i b hi hb⟩
 have hkill:∀ i u,μ i = some u→(has i (others st.hp ids objs') = false∨∀ A n cc,u ≠ .slice A n cc)→μ2 i = some u:=by
  intro i u hu hor
  by_cases hi:i ∈ all
  ·obtain ⟨j,hj⟩:=List.mem_iff_getElem?.1 hi
   rw [h2in i j hj]
   rcases hget j i hj with ⟨a1,a2⟩ | ⟨a1,a2⟩
   ·have hmc:μc j = some u:=by rw [hμc,a2]; exact hu
    rcases hor with hor | hor
    ·have hno:i ∉ others st.hp ids objs':=fun hm=>by rw [(has_iff _ _).2 hm] at hor; cases hor
     rcases others_iff a2 hno with hc | ⟨e',t',xs',hc⟩
     case inr=>rw [hB.stay j e' t' xs' hc (by omega)]; exact hmc
     refine hB.pins j u (by omega) hmc ?_
     cases hl:look i st.hp with
     | none=>rw [hl] at hc; cases hc
     | some o=>
      rw [hl] at hc
      cases o with
      | cells e cs=>
       obtain ⟨b,arr,g1,_⟩:=h.mem.heap.ob i _ hl
       rw [hu] at g1
       cases g1
       intro A n cc e; cases e
      | _=>cases hc
    ·exact hB.pins j u (by omega) hmc hor
   ·have:=h.mem.dom i u hu; omega
  ·rw [h2out i hi]; exact hu
 have hcr:∀ x u,cr RB w μ x u→cr R2 w' μ2 (kill (fun i=>has i (others st.hp ids objs')) x) u:=fun x u hx=>cr_keep (Keeps.refl R2 w') (fun _ h=>h) (Ext.refl μ2) (cr_keep (Keeps.refl _ w') r1 (Ext.refl μ2) (kill_cr hk hkill hx))
 have hlk:∀ i,look i (behind ids objs' st).hp = match idx i all with | some j=>((reflag st.hp ids objs')[j]?).map (Ob.map (renB all)) | none=>(look i st.hp).map (Ob.map (kill fun i=>has i (others st.hp ids objs'))):=by
  intro i
  show look i (zipH (ids++shift st.nx (objs'.length - ids.length) 0) ((reflag st.hp ids objs').map (Ob.map (renB (ids++shift st.nx (objs'.length - ids.length) 0))))++mapH (kill fun i=>has i (others st.hp ids objs')) st.hp) = _
  rw [hall,look_zipH _ _ _ _ (by simpa [reflag_len] using hal)]
  cases hx:idx i all with
  | none=>exact look_mapH _ _ _
  | some j=>simp
 have hl2:∀ i b,lb μ2 (fun i=>look i (behind ids objs' st).hp) i b→(∃ j,all[j]? = some i∧lb μ' (fun i=>objs'[i]?) j b)∨(i ∉ all∧lb μ (fun i=>look i st.hp) i b):=by
  rintro i b ⟨o,u,e1,e2,e3,e4⟩
  simp only [hlk] at e1
  cases hx:idx i all with
  | some j=>
   left
   have hj:=idx_some hx
   rw [hx] at e1
   simp only [reflag_get] at e1
   cases ho:objs'[j]? with
   | none=>rw [ho] at e1; cases e1
   | some o'=>
    rw [ho] at e1
    simp only [Option.map_some,Option.some.injEq] at e1
    subst e1
    rw [live_map,flag_live] at e2
    rw [h2in i j hj] at e3
    exact ⟨j,hj,o',u,ho,e2,e3,e4⟩
  | none=>
   right
   have hn:=idx_none hx
   rw [hx] at e1
   simp only at e1
   cases ho:look i st.hp with
   | none=>rw [ho] at e1; cases e1
   | some o'=>
    rw [ho] at e1
    simp only [Option.map_some,Option.some.injEq] at e1
    subst e1
    rw [live_map] at e2
    rw [h2out i hn] at e3
    exact ⟨hn,o',u,ho,e2,e3,e4⟩
 have hold:∀ i b,i ∉ all→lb μ (fun i=>look i st.hp) i b→¬ ∃ j,lb μc (fun i=>objs[i]?) j b:=by
  rintro i b hi hl ⟨j,hj⟩
  obtain ⟨i',hi',hl'⟩:=hlb j b hj
  have:=h.mem.heap.apart i' i b hl' hl
  subst this
  exact hi (by rw [← hall]; exact List.mem_append_left _ (List.mem_of_getElem? hi'))
 have hownlt:∀ j b,lb μ' (fun i=>objs'[i]?) j b→∀ i,i ∉ all→lb μ (fun i=>look i st.hp) i b→False:=by
  intro j b hj i hi hl
  exact hold i b hi hl (hB.own j b hj (lb_lt h.mem.heap hl))
 refine ⟨R2,μ2,⟨fun d x hd=> ?_,⟨⟨fun i o ho=> ?_,fun i1 i2 b h1 h2=> ?_,fun i b h1 hr=> ?_,r2⟩,fun i u hu=> ?_, ?_,fun b hb=>r1 b (h.mem.rlo b hb),fun b hb hl=> ?_,fun i b h1 h2=> ?_,fun i u hi hu hs=>hkill i u (h.mem.pins i u hi hu hs) (.inr hs),h.mem.n,fun i e t xs hi=> ?_⟩,h.size,h.defs⟩,map_vr hback hres⟩
 ·have hd:look d (mapE (kill fun i=>has i (others st.hp ids objs')) st.env) = some x:=hd
  rw [look_mapE] at hd
  cases hx:look d st.env with
  | none=>rw [hx] at hd; cases hd
  | some x0=>
   rw [hx] at hd
   simp only [Option.map_some,Option.some.injEq] at hd
   subst hd
   exact map_vr hcr (h.env d x0 hx)
 ·simp only [hlk] at ho
  cases hx:idx i all with
  | some j=>
   have hj:=idx_some hx
   rw [hx] at ho
   simp only [reflag_get] at ho
   cases ho':objs'[j]? with
   | none=>rw [ho'] at ho; cases ho
   | some o'=>
    rw [ho'] at ho
    simp only [Option.map_some,Option.some.injEq] at ho
    subst ho
    exact map_obr (Keeps.refl R2 w') (fun _ h=>h) hback (fun _ v hv=>by rw [h2in i j hj]; exact hv) (fun _ _ _ _ _=>rfl) (flag_obr (hobs j o' ho'))
  | none=>
   have hn:=idx_none hx
   rw [hx] at ho
   simp only at ho
   cases ho':look i st.hp with
   | none=>rw [ho'] at ho; cases ho
   | some o'=>
    rw [ho'] at ho
    simp only [Option.map_some,Option.some.injEq] at ho
    subst ho
    refine map_obr hk r1 hcr (fun _ v hv=>by rw [h2out i hn]; exact hv) (fun hli v b hv hb=> ?_) (h.mem.heap.ob i o' ho')
    have hlj:lb μ (fun i=>look i st.hp) i b:=⟨o',v,ho',hli,hv,hb⟩
    exact hkeepB b (lb_lt h.mem.heap hlj) (hold i b hn hlj)
 ·rcases hl2 i1 b h1 with ⟨j1,a1,g1⟩ | ⟨a1,g1⟩ <;> rcases hl2 i2 b h2 with ⟨j2,a2,g2⟩ | ⟨a2,g2⟩
  ·have:=hB.heap.apart j1 j2 b g1 g2
   subst this
   rw [a1] at a2
   exact Option.some.inj a2
  ·exact (hownlt j1 b g1 i2 a2 g2).elim
  ·exact (hownlt j2 b g2 i1 a1 g1).elim
  ·exact h.mem.heap.apart i1 i2 b g1 g2
 ·rcases hl2 i b h1 with ⟨j,a1,g1⟩ | ⟨a1,g1⟩
  ·exact r4 j b g1 hr
  ·rcases r3 b hr (lb_lt h.mem.heap g1) with hr | hr
   ·exact h.mem.heap.out i b g1 hr
   ·exact hold i b a1 g1 hr
 ·show i < st.nx + (objs'.length - ids.length)
  by_cases hi:i ∈ all
  ·obtain ⟨j,hj⟩:=List.mem_iff_getElem?.1 hi
   have hjl:j < all.length:=(List.getElem?_eq_some_iff.1 hj).1
   rcases hget j i hj with ⟨a1,a2⟩ | ⟨a1,a2⟩
   ·have:=hlt i (List.mem_of_getElem? a2); omega
   ·omega
  ·rw [h2out i hi] at hu
   have:=h.mem.dom i u hu
   omega
 ·have f:=h.mem.fr
  have g:=hB.fr
  refine ⟨g.os.trans f.os,g.tape.trans f.tape,g.output.trans f.output,Nat.le_trans f.size g.size,fun b hb hn=> ?_⟩
  refine (g.block b (Nat.lt_of_lt_of_le hb f.size) ?_).trans (f.block b hb hn)
  rintro ⟨j,hj⟩
  obtain ⟨i,_,hi⟩:=hlb j b hj
  exact hn (h.mem.own i b hi hb)
 ·rcases r3 b hb (Nat.lt_of_lt_of_le hl h.mem.fr.size) with hr | ⟨j,hj⟩
  ·exact h.mem.rhi b hr hl
  ·obtain ⟨i,_,hi⟩:=hlb j b hj
   exact .inr (h.mem.own i b hi hl)
 ·rcases hl2 i b h1 with ⟨j,a1,g1⟩ | ⟨a1,g1⟩
  ·obtain ⟨j',hj'⟩:=hB.own j b g1 (Nat.lt_of_lt_of_le h2 h.mem.fr.size)
   obtain ⟨i',_,hi'⟩:=hlb j' b hj'
   exact h.mem.own i' b hi' h2
  ·exact h.mem.own i b g1 h2
 ·have hi:look i (behind ids objs' st).hp = some (.vec e t xs false):=hi
  rw [hlk] at hi
  have vec_of:∀ {f:SC→SC} {o:Ob},o.map f = .vec e t xs false→o = .vec e t xs false:=by
   intro f o ho
   cases o with
   | vec _ _ _ _=>exact ho
   | _=>cases ho
  cases hx:idx i all with
  | some j=>
   have hj:=idx_some hx
   rw [hx] at hi
   simp only [reflag_get] at hi
   cases ho':objs'[j]? with
   | none=>rw [ho'] at hi; cases hi
   | some o'=>
    rw [ho'] at hi
    simp only [Option.map_some,Option.some.injEq] at hi
    have hi:=vec_of hi
    cases o' with
    | vec e' t' xs' m=>
     simp only [Ob.flag,Ob.vec.injEq,Bool.or_eq_false_iff] at hi
     obtain ⟨rfl,rfl,hxs,hm,hfl⟩:=hi
     subst hm
     rcases hget j i hj with ⟨a1,a2⟩ | ⟨a1,a2⟩
     ·rw [a2] at hfl
      simp only at hfl
      cases hli:look i st.hp with
      | none=>rw [hli] at hfl; cases hfl
      | some o2=>
       cases o2 with
       | vec e2 t2 xs2 m2=>
        rw [hli] at hfl
        simp only [flagOf] at hfl
        subst hfl
        have hst:=h.mem.stay i e2 t2 xs2 hli
        refine ⟨hst.1,hst.2.1, ?_⟩
        rw [h2in i j hj,hB.stay j _ _ _ ho' (by omega),hμc,a2]
        exact hst.2.2
       | _=>rw [hli] at hfl; cases hfl
     ·rw [List.getElem?_eq_none a1] at hfl
      cases hfl
    | _=>cases hi
  | none=>
   have hn:=idx_none hx
   rw [hx] at hi
   simp only at hi
   cases ho':look i st.hp with
   | none=>rw [ho'] at hi; cases hi
   | some o'=>
    rw [ho'] at hi
    simp only [Option.map_some,Option.some.injEq] at hi
    have hi:=vec_of hi
    subst hi
    have hst:=h.mem.stay i e t xs ho'
    refine ⟨hst.1,hst.2.1, ?_⟩
    rw [h2out i hn]
    exact hst.2.2
end Go.Proofs.YtohnjbmiaegofaaGreat.Ev
