/- Every operation, and regions in order. -/
import Derived.Test.YtohnjbmiaegofaaGreatEvJ
set_option linter.unusedVariables false
set_option linter.unusedSimpArgs false
set_option linter.unusedSectionVars false
namespace Go.Proofs.YtohnjbmiaegofaaGreat.Ev
open Go
section
variable {P:Program} {tab:TypeId→Option TI} {G:Nat→Option Spec} (hP:TabOK P tab) (hG:GOK P G)
include hP hG
theorem s_call {cl:Call} {c:Cx} {st:St} {a:Act} {w:World} {k:SV→St→Option Ans} {r:Ans} {Kp:Act→World→Prop} {Q:Exit→Act→World→Prop} {dst:Option Tmp} {ty:TypeId} {pos:String} {after:Array Edge} {guard:Option (Nat×Bool)}
  (h:evalOp tab G ⟨dst,.call cl,ty,pos,after,guard⟩ st k = some r) (hr:Rel c st a w) (hk:Kok c a k r dst Kp):(⟨dst,.call cl,ty,pos,after,guard⟩:Oper).wp P a w Kp Q:=by
 simp only [evalOp,e_call] at h
 obtain ⟨R,μ,hr⟩:=hr
 split at h
 ·rename_i b hc
  split at h
  ·rename_i vs st1 hop
   obtain ⟨μ1,a1,a2,a3⟩:=opds_ok hP hr hop
   obtain ⟨v,st2,u,w2,h1,h2,h3⟩:=builtin_ok hP (ty:=ty) (consts:=cl.args.map fun | .const _=>true | _=>false) h a1 a3
   refine wp_value (v:=u) (w':=w2) ?_ (hk _ _ _ _ h1 h2)
   have e:(cl.args.toList.map a.eval).toArray = cl.args.map a.eval:=by rw [← Array.toList_map]
   rw [e] at h3
   simp only [execOp,resolve,hc,Sem.run_bind,Sem.run_pure,Result.andThen_ok,invoke]
   exact h3
  ·cases h
 ·rename_i fo hc
  split at h
  ·rename_i g caps vs st1 hf hop
   obtain ⟨hlt,h⟩:=cond_some hP h
   have hlt:g < 1000000:=Nat.le_of_ble_eq_true hlt
   obtain ⟨μ1,a1,a2,a3⟩:=opds_ok hP hr hop
   obtain ⟨us,hfe,hcaps⟩:=opd_vr hr hf
   have hall:All2 (vr R w μ1) (vs++caps.map fun i=>SV.c (.ptr i 0)) (cl.args.toList.map a.eval++us.toList):=by
    refine a3.append ?_
    apply All2.map.1
    exact hcaps.mono fun i u hu=>by
     obtain ⟨hm,b,rfl⟩:=hu
     exact ⟨b,a2 _ _ hm,rfl⟩
   have main:Enters P g→(Calls P g (cl.args.toList.map a.eval++us.toList).toArray w fun e w'=>∃ v sv st',e = .returned v∧k sv st' = some r∧RelV c st' a w' sv v)→(⟨dst,.call cl,ty,pos,after,guard⟩:Oper).wp P a w Kp Q:=by
    intro hEn hcall
    unfold Oper.wp
    have hrun:(execOp a.eval ⟨dst,.call cl,ty,pos,after,guard⟩).run P w = .ok (.enter g (cl.args.toList.map a.eval++us.toList).toArray) w:=by
     have e:(cl.args.toList.map a.eval++us.toList).toArray = #[]++cl.args.map a.eval++us:=by
      apply Array.ext'
      simp
     rw [e]
     simp only [execOp,resolve,hc,hfe,Deferred.ofValue,Sem.run_bind,Sem.run_pure,Result.andThen_ok,invoke]
     exact hEn _ w
    rw [hrun]
    simp only [Oper.upon]
    refine hcall.mono ?_
    rintro e w' ⟨v,sv,st',rfl,h1,h2⟩
    exact hk _ _ _ _ h1 h2
   split at h
   ·rename_i F hF
    obtain ⟨hFn,hEn⟩:=hG _ F hF
    have e:(1000000 + g) % 1000000 = g:=by omega
    rw [e] at hFn hEn
    exact main hEn (callW_ok hFn h a1 hall)
   ·split at h
    ·rename_i F hF
     obtain ⟨hFn,hEn⟩:=hG g F hF
     have e:g % 1000000 = g:=by omega
     rw [e] at hFn hEn
     exact main hEn (callG_ok hFn h a1 hall)
    ·cases h
  ·cases h
 ·cases h
theorem op_ok {o:Oper} {c:Cx} {st:St} {a:Act} {w:World} {k:SV→St→Option Ans} {r:Ans} {Kp:Act→World→Prop} {Q:Exit→Act→World→Prop}
  (h:evalOp tab G o st k = some r) (hr:Rel c st a w) (hk:Kok c a k r o.dst Kp):o.wp P a w Kp Q:=by
 obtain ⟨dst,op,ty,pos,after,guard⟩:=o
 cases op with
 | move x=>exact s_move hP h hr hk
 | assign x=>exact s_assign hP h hr hk
 | pick x y z=>exact s_pick hP h hr hk
 | alloc e=>exact s_alloc hP h hr hk
 | box e x=>exact s_box hP h hr hk
 | build t ps=>exact s_build hP h hr hk
 | buildSlice t n ps=>exact s_buildSlice hP h hr hk
 | load t x=>exact s_load hP h hr hk
 | store t x y=>exact s_store hP h hr hk
 | nilCheck x=>exact s_nilCheck hP h hr hk
 | binOp op xt x y yt=>exact s_binOp hP h hr hk
 | unOp op xt x=>exact s_unOp hP h hr hk
 | convert s d x=>exact s_convert hP h hr hk
 | makeSlice t l m=>exact s_makeSlice hP h hr hk
 | slice t x lo hi mx=>exact s_slice hP h hr hk
 | fieldAddr s x f=>exact s_fieldAddr hP h hr hk
 | field s x f=>exact s_field hP h hr hk
 | indexAddr t x ix=>exact s_indexAddr hP h hr hk
 | index t x ix=>exact s_index hP h hr hk
 | extract x i=>exact s_extract hP h hr hk
 | makeFunc fn first caps=>exact s_makeFunc hP h hr hk
 | makeMap t n=>exact s_makeMap hP h hr hk
 | lookup t x y ok=>exact s_lookup hP h hr hk
 | mapUpdate t x y z=>exact s_mapUpdate hP h hr hk
 | call cl=>exact s_call hP hG h hr hk
 | _=>cases h
theorem rebind_ok {c:Cx} {st:St} {a:Act} {w:World} {s:Nat} {p:Bool} (hr:Rel c st a w) (hs:look s st.env = some (.c (.bool p))):Rel c (rebind st s p) a w:=by
 obtain ⟨R,μ,hr⟩:=hr
 refine ⟨R,μ,⟨fun d v hd=> ?_,⟨hr.mem.heap,hr.mem.dom,hr.mem.fr,hr.mem.rlo,hr.mem.rhi,hr.mem.own,hr.mem.pins,hr.mem.n,hr.mem.stay⟩,hr.size,hr.defs⟩⟩
 have hd:look d ((s,.c (.bool p))::st.env) = some v:=hd
 rw [look_cons] at hd
 split at hd
 ·rename_i e; cases hd; subst e; exact hr.env _ _ hs
 ·exact hr.env d v hd
theorem yielded_of {c:Cx} {st:St} {a:Act} {w:World} {ops:Array Oper} {j s:Nat} (hj:(ops[j]?).bind (·.dst) = some s) {p:Bool} (hr:Rel c st a w) (hs:look s st.env = some (.c (.bool p))):yielded ops a.tmps j = some p:=by
 obtain ⟨R,μ,hr⟩:=hr
 have hv:a.tmps.getD s Go.undef = .bool p:=hr.env _ _ hs
 unfold yielded
 rw [hj]
 simp only [Option.bind_some]
 rw [Array.getD_eq_getD_getElem?] at hv
 cases ht:a.tmps[s]? with
 | none=>rw [ht] at hv; cases hv
 | some u=>rw [ht] at hv; simp only [Option.getD_some] at hv; subst hv; rfl
theorem yielded_und {c:Cx} {st:St} {a:Act} {w:World} {ops:Array Oper} {j s:Nat} (hj:(ops[j]?).bind (·.dst) = some s) (hr:Rel c st a w) (hs:look s st.env = some (.c .und)):yielded ops a.tmps j = none:=by
 obtain ⟨R,μ,hr⟩:=hr
 have hv:a.tmps.getD s Go.undef = Go.undef:=hr.env _ _ hs
 unfold yielded
 rw [hj]
 simp only [Option.bind_some]
 rw [Array.getD_eq_getD_getElem?] at hv
 cases ht:a.tmps[s]? with
 | none=>rfl
 | some u=>rw [ht] at hv; simp only [Option.getD_some] at hv; subst hv; rfl
theorem skip_ok {c:Cx} {st:St} {a:Act} {w:World} (hr:Rel c st a w) (d:Option Tmp) (hd:∀ e,d = some e→e < c.nt):Rel c (st.put d (.c .und)) (a.put d Go.undef) w:=by
 obtain ⟨R,μ,hr⟩:=hr
 exact RelV.put (v:=.c .und) (u:=Go.undef) ⟨R,μ,hr,rfl⟩ d hd
theorem opsFit_iff {nt:Nat}:∀ {l:List Oper},opsFit nt l = true→∀ o ∈ l,∀ d,o.dst = some d→d < nt
 | [],_,o,ho,_,_=>by cases ho
 | x::l,h,o,ho,d,hd=>by
  simp only [opsFit] at h
  have:(match x.dst with | some d=>Nat.blt d nt | none=>true) = true∧opsFit nt l = true:=by
   cases hx:x.dst with
   | none=>rw [hx] at h; exact ⟨rfl,h⟩
   | some e=>
    rw [hx] at h
    simp only at h ⊢
    cases hb:Nat.blt e nt with
    | false=>rw [hb] at h; cases h
    | true=>rw [hb] at h; exact ⟨rfl,h⟩
  rcases List.mem_cons.1 ho with rfl | ho
  ·have h1:=this.1
   rw [hd] at h1
   exact Nat.le_of_ble_eq_true h1
  ·exact opsFit_iff this.2 o ho d hd
theorem opsFit_tail {nt:Nat} {x:Oper} {l:List Oper} (h:opsFit nt (x::l) = true):opsFit nt l = true:=by
 simp only [opsFit] at h
 cases hx:x.dst with
 | none=>rw [hx] at h; exact h
 | some e=>
  rw [hx] at h
  simp only at h
  cases hb:Nat.blt e nt with
  | false=>rw [hb] at h; cases h
  | true=>rw [hb] at h; exact h
theorem ops_ok {ops:Array Oper} {c:Cx} {r:Ans} {k:St→Option Ans} {Q:Exit→Act→World→Prop} (hk:∀ st a w,k st = some r→Rel c st a w→Q .normal a w):
  ∀ (l:List Oper) (n:Nat),ops.toList.drop n = l→opsFit c.nt l = true→∀ {st:St} {a:Act} {w:World},evalOps tab G ops l st k = some r→Rel c st a w→wpOps P ops Q (List.range' n l.length) a w
 | [],n,hl,hf,st,a,w,h,hr=>hk st a w h hr
 | o::l,n,hl,hf,st,a,w,h,hr=>by
  have ho:ops[n]? = some o:=by
   have:(ops.toList.drop n)[0]? = some o:=by rw [hl]; rfl
   rw [List.getElem?_drop] at this
   rw [← Array.getElem?_toList]
   simpa using this
  have hl':ops.toList.drop (n + 1) = l:=by
   rw [← List.drop_drop,hl]
   rfl
  have hfit:=opsFit_iff hP hG hf
  have hd:∀ e,o.dst = some e→e < c.nt:=hfit o List.mem_cons_self
  have hf':opsFit c.nt l = true:=opsFit_tail hP hG hf
  have ih:∀ {st:St} {a:Act} {w:World},evalOps tab G ops l st k = some r→Rel c st a w→wpOps P ops Q (List.range' (n + 1) l.length) a w:=fun h hr=>ops_ok hk l (n + 1) hl' hf' h hr
  have run:∀ {st:St} {a:Act} {w:World},Rel c st a w→evalOp tab G o st (fun v st=>evalOps tab G ops l (st.put o.dst v) k) = some r→o.wp P a w (wpOps P ops Q (List.range' (n + 1) l.length)) Q:=by
   intro st a w hr h
   refine op_ok hP hG h hr ?_
   intro v st' u w' h1 h2
   exact ih h1 (h2.put o.dst hd)
  simp only [List.length_cons,List.range'_succ,wpOps,ho]
  simp only [evalOps] at h
  cases hg:o.guard with
  | none=>
   rw [hg] at h
   rw [if_pos (by simp [Region.wanted,hg])]
   exact .inl (run hr h)
  | some jw=>
   obtain ⟨j,want⟩:=jw
   rw [hg] at h
   simp only at h
   split at h
   ·rename_i s hs
    split at h
    ·rename_i p hp
     have hy:=yielded_of hP hG hs hr hp
     cases p with
     | true=>
      simp only at h
      cases want with
      | true=>
       simp only at h
       rw [if_pos (by simp [Region.wanted,hg,hy])]
       exact .inl (run (rebind_ok hP hG hr hp) h)
      | false=>
       simp only at h
       rw [if_neg (by simp [Region.wanted,hg,hy])]
       exact ih h (skip_ok hP hG (rebind_ok hP hG hr hp) o.dst hd)
     | false=>
      simp only at h
      cases want with
      | true=>
       simp only at h
       rw [if_neg (by simp [Region.wanted,hg,hy])]
       exact ih h (skip_ok hP hG (rebind_ok hP hG hr hp) o.dst hd)
      | false=>
       simp only at h
       rw [if_pos (by simp [Region.wanted,hg,hy])]
       exact .inl (run (rebind_ok hP hG hr hp) h)
    ·rename_i hp
     have hy:=yielded_und hP hG hs hr hp
     rw [if_neg (by simp [Region.wanted,hg,hy])]
     exact ih h (skip_ok hP hG hr o.dst hd)
    ·cases h
   ·cases h
end
end Go.Proofs.YtohnjbmiaegofaaGreat.Ev
