/- What a state of the evaluator says of the machine's frame and world; how it changes. -/
import Derived.Test.YtohnjbmiaegofaaGreatEvB
set_option linter.unusedVariables false
namespace Go.Proofs.YtohnjbmiaegofaaGreat.Ev
open Go
theorem look_cons {α:Type} (n k:Nat) (v:α) (r:List (Nat×α)):look n ((k,v)::r) = if k = n then some v else look n r:=by
 simp only [look]
 by_cases h:k = n
 ·subst h; simp
 ·have:Nat.beq k n = false:=by
   cases hb:Nat.beq k n with
   | false=>rfl
   | true=>exact absurd (Nat.eq_of_beq_eq_true hb) h
  simp [this,h]
theorem look_put {st:St} {d n:Nat} {v:SV}:look n (st.put (some d) v).env = if d = n then some v else look n st.env:=look_cons _ _ _ _
theorem look_mapE (f:SC→SC) (n:Nat):∀ (l:List (Nat×SV)),look n (mapE f l) = (look n l).map (SV.map f)
 | []=>rfl
 | (k,v)::r=>by
  simp only [mapE,look_cons]
  split
  ·rfl
  ·exact look_mapE f n r
theorem look_mapH (f:SC→SC) (n:Nat):∀ (l:List (Nat×Ob)),look n (mapH f l) = (look n l).map (Ob.map f)
 | []=>rfl
 | (k,v)::r=>by
  simp only [mapH,look_cons]
  split
  ·rfl
  ·exact look_mapH f n r
structure Cx where
 w0:World
 I:Nat→Prop
 R0:Nat→Prop
 μ0:Nat→Option Value
 p0:Nat→Prop
 nt:Nat
 n:Nat
structure Fr (w0:World) (I:Nat→Prop) (w:World):Prop where
 os:w.os = w0.os
 tape:w.tape = w0.tape
 output:w.output = w0.output
 size:w0.heap.size≤w.heap.size
 block:∀ b,b < w0.heap.size→¬ I b→w.heap[b]? = w0.heap[b]?
structure Mem (c:Cx) (st:St) (w:World) (R:Nat→Prop) (μ:Nat→Option Value):Prop where
 heap:HInv R w μ (fun i=>look i st.hp)
 dom:∀ i v,μ i = some v→i < st.nx
 fr:Fr c.w0 c.I w
 rlo:∀ b,c.R0 b→R b
 rhi:∀ b,R b→b < c.w0.heap.size→c.R0 b∨c.I b
 own:∀ i b,lb μ (fun i=>look i st.hp) i b→b < c.w0.heap.size→c.I b
 pins:∀ i u,i < c.n→c.μ0 i = some u→(∀ A n cc,u ≠ .slice A n cc)→μ i = some u
 n:st.n = c.n
 stay:∀ i e t xs,look i st.hp = some (.vec e t xs false)→i < c.n∧c.p0 i∧μ i = c.μ0 i
structure RelB (c:Cx) (st:St) (a:Act) (w:World) (R:Nat→Prop) (μ:Nat→Option Value):Prop where
 env:∀ d v,look d st.env = some v→vr R w μ v (a.tmps.getD d Go.undef)
 mem:Mem c st w R μ
 size:a.tmps.size = c.nt
 defs:a.defers = []
def Rel (c:Cx) (st:St) (a:Act) (w:World):Prop:=∃ R μ,RelB c st a w R μ
def RelV (c:Cx) (st:St) (a:Act) (w:World) (v:SV) (u:Value):Prop:=∃ R μ,RelB c st a w R μ∧vr R w μ v u
theorem getD_put {a:Act} {d n:Nat} {u:Value} (hd:d < a.tmps.size):(a.put (some d) u).tmps.getD n Go.undef = if d = n then u else a.tmps.getD n Go.undef:=by
 simp only [Act.put,Array.getD_eq_getD_getElem?,Array.getElem?_setIfInBounds]
 by_cases h:d = n
 ·subst h; simp [hd]
 ·simp [h]
theorem RelV.put {c:Cx} {st:St} {a:Act} {w:World} {v:SV} {u:Value} (h:RelV c st a w v u) (d:Option Tmp) (hd:∀ e,d = some e→e < c.nt):Rel c (st.put d v) (a.put d u) w:=by
 obtain ⟨R,μ,hr,hv⟩:=h
 cases d with
 | none=>exact ⟨R,μ,hr⟩
 | some d=>
  have hd':d < a.tmps.size:=by rw [hr.size]; exact hd d rfl
  refine ⟨R,μ,⟨fun e x hx=> ?_,⟨hr.mem.heap,hr.mem.dom,hr.mem.fr,hr.mem.rlo,hr.mem.rhi,hr.mem.own,hr.mem.pins,hr.mem.n,hr.mem.stay⟩,by simp [Act.put,hr.size],by simp [Act.put,hr.defs]⟩⟩
  rw [look_put] at hx
  rw [getD_put hd']
  split at hx
  ·rename_i he; cases hx; rw [if_pos he]; exact hv
  ·rename_i he; rw [if_neg he]; exact hr.env e x hx
structure Chg (S:Nat→Prop) (w w':World):Prop where
 os:w'.os = w.os
 tape:w'.tape = w.tape
 output:w'.output = w.output
 size:w.heap.size≤w'.heap.size
 block:∀ b,b < w.heap.size→¬ S b→w'.heap[b]? = w.heap[b]?
theorem Chg.refl (S:Nat→Prop) (w:World):Chg S w w:=⟨rfl,rfl,rfl,Nat.le_refl _,fun _ _ _=>rfl⟩
theorem Chg.alloc (S:Nat→Prop) (w:World) (o:Obj):Chg S w (w.alloc o):=⟨rfl,rfl,rfl,by simp,fun b hb _=>heap_alloc_old w o b hb⟩
theorem Chg.drew (S:Nat→Prop) (w:World):Chg S w w.drew:=⟨rfl,rfl,rfl,Nat.le_refl _,fun _ _ _=>rfl⟩
theorem Chg.trans {S:Nat→Prop} {a b c:World} (h:Chg S a b) (k:Chg S b c):Chg S a c:=
 ⟨k.os.trans h.os,k.tape.trans h.tape,k.output.trans h.output,Nat.le_trans h.size k.size,fun x hx hs=>(k.block x (Nat.lt_of_lt_of_le hx h.size) hs).trans (h.block x hx hs)⟩
theorem Chg.mono {S S':Nat→Prop} {a b:World} (h:Chg S a b) (hs:∀ x,x < a.heap.size→S x→S' x):Chg S' a b:=⟨h.os,h.tape,h.output,h.size,fun x hx hn=>h.block x hx fun hs'=>hn (hs x hx hs')⟩
theorem Chg.setRow (w:World) (g:Nat) (cs:Array Value):Chg (· = g) w (w.setRow g cs):=by
 refine ⟨rfl,rfl,rfl,by simp,fun b hb hn=> ?_⟩
 simp only [World.setRow,Array.getElem?_modify]
 rw [if_neg (fun e=>hn e.symm)]
theorem Chg.grown {w w':World} {row:Option Nat} (h:w.grownBy w' row):Chg (fun b=>some b = row) w w':=⟨h.os,h.tape,h.output,h.size,fun b hb hn=>h.block b hb hn⟩
theorem Chg.keeps {S:Nat→Prop} {w w':World} (h:Chg S w w') {R:Nat→Prop} (hr:∀ b,R b→b < w.heap.size→¬ S b):Keeps R w w':=⟨h.size,fun b hb hl=>h.block b hl (hr b hb hl)⟩
theorem Fr.chg {w0 w w':World} {I:Nat→Prop} (h:Fr w0 I w) {S:Nat→Prop} (k:Chg S w w') (hs:∀ b,S b→b < w0.heap.size→I b):Fr w0 I w':=
 ⟨k.os.trans h.os,k.tape.trans h.tape,k.output.trans h.output,Nat.le_trans h.size k.size,fun b hb hn=>(k.block b (Nat.lt_of_lt_of_le hb h.size) fun hsb=>hn (hs b hsb hb)).trans (h.block b hb hn)⟩
theorem RelB.quiet {c:Cx} {st:St} {a:Act} {w w':World} {R:Nat→Prop} {μ:Nat→Option Value} (h:RelB c st a w R μ) (k:Chg (fun _=>False) w w'):RelB c st a w' R μ:=by
 have hk:∀ R:Nat→Prop,Keeps R w w':=fun R=>k.keeps fun _ _ _ h=>h
 refine ⟨fun d v hd=>vr_keep (hk R) (fun _ h=>h) (Ext.refl μ) (h.env d v hd),⟨⟨fun i o ho=> ?_,h.mem.heap.apart,h.mem.heap.out,fun b hb=>Nat.lt_of_lt_of_le (h.mem.heap.ex b hb) k.size⟩,h.mem.dom,h.mem.fr.chg k (fun _ h=>h.elim),h.mem.rlo,h.mem.rhi,h.mem.own,h.mem.pins,h.mem.n,h.mem.stay⟩,h.size,h.defs⟩
 exact obr_keep (hk R) (fun _ h=>h) (Ext.refl μ) (fun hl v b hv hb=>k.block b (lb_lt h.mem.heap ⟨o,v,ho,hl,hv,hb⟩) fun h=>h) (h.mem.heap.ob i o ho)
theorem Rel.quiet {c:Cx} {st:St} {a:Act} {w w':World} (h:Rel c st a w) (k:Chg (fun _=>False) w w'):Rel c st a w':=by
 obtain ⟨R,μ,h⟩:=h
 exact ⟨R,μ,h.quiet k⟩
def upd (μ:Nat→Option Value) (i:Nat) (v:Value):Nat→Option Value:=fun j=>if j = i then some v else μ j
theorem upd_ext {μ:Nat→Option Value} {i:Nat} {v:Value} (h:μ i = none):Ext μ (upd μ i v):=by
 intro j u hj
 unfold upd
 split
 ·rename_i e; subst e; rw [h] at hj; cases hj
 ·exact hj
theorem RelB.new {c:Cx} {st:St} {a:Act} {w w':World} {R:Nat→Prop} {μ:Nat→Option Value} (h:RelB c st a w R μ) (k:Chg (fun _=>False) w w') {o:Ob} {v:Value}
  (ho:obr R w' (upd μ st.nx v) st.nx o) (hb:∀ b,blk v = some b→w.heap.size≤b) (hf:∀ e t xs,o ≠ .vec e t xs false):RelB c (st.new o) a w' R (upd μ st.nx v):=by
 have hn:μ st.nx = none:=by
  cases hm:μ st.nx with
  | none=>rfl
  | some u=>exact absurd (h.mem.dom _ _ hm) (Nat.lt_irrefl _)
 have hx:=upd_ext (v:=v) hn
 have hk:∀ R:Nat→Prop,Keeps R w w':=fun R=>k.keeps fun _ _ _ h=>h
 have hl:∀ i,look i (st.new o).hp = if st.nx = i then some o else look i st.hp:=fun i=>look_cons _ _ _ _
 have hlb:∀ i b,lb (upd μ st.nx v) (fun i=>look i (st.new o).hp) i b→(i = st.nx∧w.heap.size≤b)∨(i ≠ st.nx∧lb μ (fun i=>look i st.hp) i b):=by
  rintro i b ⟨o',v',h1,h2,h3,h4⟩
  by_cases e:i = st.nx
  ·left
   refine ⟨e, ?_⟩
   simp only [upd,e,if_true] at h3
   cases h3
   exact hb b h4
  ·right
   simp only [upd,e,if_false] at h3
   simp only [hl] at h1
   rw [if_neg (fun x=>e x.symm)] at h1
   exact ⟨e,o',v',h1,h2,h3,h4⟩
 refine ⟨fun d x hd=>vr_keep (hk R) (fun _ h=>h) hx (h.env d x hd),⟨⟨fun i o' ho'=> ?_,fun i j b h1 h2=> ?_,fun i b h1 hr=> ?_,fun b hb=>Nat.lt_of_lt_of_le (h.mem.heap.ex b hb) k.size⟩,fun i u hu=> ?_,h.mem.fr.chg k (fun _ h=>h.elim),h.mem.rlo,h.mem.rhi,fun i b h1 h2=> ?_,fun i u hi hu hs=>hx i u (h.mem.pins i u hi hu hs),h.mem.n,fun i e t xs hi=> ?_⟩,h.size,h.defs⟩
 ·simp only [hl] at ho'
  split at ho'
  ·rename_i e; cases ho'; subst e; exact ho
  ·exact obr_keep (hk R) (fun _ h=>h) hx (fun hli v b hv hb=>k.block b (lb_lt h.mem.heap ⟨o',v,ho',hli,hv,hb⟩) fun h=>h) (h.mem.heap.ob i o' ho')
 ·rcases hlb i b h1 with ⟨e1,g1⟩ | ⟨e1,g1⟩ <;> rcases hlb j b h2 with ⟨e2,g2⟩ | ⟨e2,g2⟩
  ·rw [e1,e2]
  ·have:=lb_lt h.mem.heap g2; omega
  ·have:=lb_lt h.mem.heap g1; omega
  ·exact h.mem.heap.apart i j b g1 g2
 ·rcases hlb i b h1 with ⟨e1,g1⟩ | ⟨e1,g1⟩
  ·have:=h.mem.heap.ex b hr; omega
  ·exact h.mem.heap.out i b g1 hr
 ·unfold upd at hu
  show i < st.nx + 1
  split at hu
  ·omega
  ·have:=h.mem.dom i u hu; omega
 ·rcases hlb i b h1 with ⟨e1,g1⟩ | ⟨e1,g1⟩
  ·have:=h.mem.fr.size; omega
  ·exact h.mem.own i b g1 h2
 ·rw [hl] at hi
  split at hi
  ·cases hi; exact absurd rfl (hf e t xs)
  ·rename_i e1
   have:=h.mem.stay i e t xs hi
   refine ⟨this.1,this.2.1, ?_⟩
   unfold upd
   rw [if_neg (fun x=>e1 x.symm)]
   exact this.2.2
theorem RelB.newV {c:Cx} {st:St} {a:Act} {w w':World} {R:Nat→Prop} {μ:Nat→Option Value} (h:RelB c st a w R μ) (k:Chg (fun _=>False) w w') {v:Value} (hn:True) {x:SV} {u:Value} (hv:vr R w μ x u):vr R w' (upd μ st.nx v) x u:=by
 have hn:μ st.nx = none:=by
  cases hm:μ st.nx with
  | none=>rfl
  | some u=>exact absurd (h.mem.dom _ _ hm) (Nat.lt_irrefl _)
 exact vr_keep (k.keeps fun _ _ _ h=>h) (fun _ h=>h) (upd_ext hn) hv
theorem RelB.store {c:Cx} {st:St} {a:Act} {w w':World} {R:Nat→Prop} {μ:Nat→Option Value} (h:RelB c st a w R μ) {i b:Nat} (hl:lb μ (fun i=>look i st.hp) i b) (k:Chg (· = b) w w') {o:Ob}
  (ho:obr R w' μ i o) (hf:∀ e t xs,o = .vec e t xs false→∃ e t xs,look i st.hp = some (.vec e t xs false)):RelB c (st.set i o) a w' R μ:=by
 have hk:Keeps R w w':=k.keeps fun b' hr _ e=>h.mem.heap.out i b hl (e ▸ hr)
 have hlk:∀ j,look j (st.set i o).hp = if i = j then some o else look j st.hp:=fun j=>look_cons _ _ _ _
 have hlb:∀ j b',lb μ (fun j=>look j (st.set i o).hp) j b'→lb μ (fun j=>look j st.hp) j b':=by
  rintro j b' ⟨o',v',h1,h2,h3,h4⟩
  by_cases e:i = j
  ·subst e
   obtain ⟨o2,v2,g1,g2,g3,g4⟩:=hl
   rw [h3] at g3
   cases g3
   exact ⟨o2,v',g1,g2,h3,h4⟩
  ·simp only [hlk] at h1
   rw [if_neg e] at h1
   exact ⟨o',v',h1,h2,h3,h4⟩
 refine ⟨fun d x hd=>vr_keep hk (fun _ h=>h) (Ext.refl μ) (h.env d x hd),⟨⟨fun j o' ho'=> ?_,fun i j b h1 h2=>h.mem.heap.apart i j b (hlb i b h1) (hlb j b h2),fun i b h1=>h.mem.heap.out i b (hlb i b h1),fun b hb=>Nat.lt_of_lt_of_le (h.mem.heap.ex b hb) k.size⟩,h.mem.dom,h.mem.fr.chg k (fun b' e hb=>h.mem.own i b' (e ▸ hl) hb),h.mem.rlo,h.mem.rhi,fun i b h1=>h.mem.own i b (hlb i b h1),h.mem.pins,h.mem.n,fun j e t xs hj=> ?_⟩,h.size,h.defs⟩
 rotate_left
 ·rw [hlk] at hj
  split at hj
  ·rename_i e1
   cases hj
   subst e1
   obtain ⟨e',t',xs',h1⟩:=hf e t xs rfl
   exact h.mem.stay i e' t' xs' h1
  ·exact h.mem.stay j e t xs hj
 simp only [hlk] at ho'
 split at ho'
 ·rename_i e; cases ho'; subst e; exact ho
 ·rename_i e
  refine obr_keep hk (fun _ h=>h) (Ext.refl μ) (fun hli v b' hv hb=> ?_) (h.mem.heap.ob j o' ho')
  have hlj:lb μ (fun i=>look i st.hp) j b':=⟨o',v,ho',hli,hv,hb⟩
  exact k.block b' (lb_lt h.mem.heap hlj) fun e'=>e (h.mem.heap.apart i j b hl (e' ▸ hlj))
theorem kill_cr {R:Nat→Prop} {w w':World} {μ μ':Nat→Option Value} {p:Nat→Bool} (hk:Keeps R w w')
  (hm:∀ i v,μ i = some v→(p i = false∨∀ A n c,v ≠ .slice A n c)→μ' i = some v) {x:SC} {u:Value} (h:cr R w μ x u):cr R w' μ' (kill p x) u:=by
 cases x with
 | own i=>
  simp only [kill]
  cases hp:p i with
  | true=>trivial
  | false=>exact ⟨hm _ _ h.1 (.inl hp),h.2⟩
 | sub i a b c=>
  simp only [kill]
  cases hp:p i with
  | true=>trivial
  | false=>
   obtain ⟨A,c,h1,h2,A',m,c',h3,h4⟩:=h
   exact ⟨A,c,h1,h2,A',m,c',hm _ _ h3 (.inl hp),h4⟩
 | vel i a b c=>
  simp only [kill]
  cases hp:p i with
  | true=>trivial
  | false=>obtain ⟨b,m,c,h1,h2⟩:=h; exact ⟨b,m,c,hm _ _ h1 (.inl hp),h2⟩
 | ptr i o=>obtain ⟨b,h1,h2⟩:=h; exact ⟨b,hm _ _ h1 (.inr fun _ _ _ e=>by cases e),h2⟩
 | clo f caps=>obtain ⟨us,h1,h2⟩:=h; exact ⟨us,h1,h2.mono fun i u hu=>⟨hm _ _ hu.1 (.inr fun _ _ _ e=>by obtain ⟨b,hb⟩:=hu.2; rw [hb] at e; cases e),hu.2⟩⟩
 | mp i=>exact ⟨hm _ _ h.1 (.inr fun _ _ _ e=>by obtain ⟨b,hb⟩:=h.2; rw [hb] at e; cases e),h.2⟩
 | sl t xs=>exact cr_keep hk (fun _ h=>h) (Ext.refl μ) (μ:=μ) h
 | el t x off=>
  obtain ⟨b,o,us,rfl,hb,hx,ha⟩:=h
  exact ⟨b,o,us,rfl,hb,rv_keep hk (fun _ h=>h) hx,ha.keep hk hb⟩
 | _=>exact h
theorem map_vr {R R':Nat→Prop} {w w':World} {μ μ':Nat→Option Value} {f:SC→SC} (hf:∀ x u,cr R w μ x u→cr R' w' μ' (f x) u) {v:SV} {u:Value} (h:vr R w μ v u):vr R' w' μ' (v.map f) u:=by
 have hl:∀ {cs:List SC} {us:List Value},All2 (cr R w μ) cs us→All2 (cr R' w' μ') (cs.map f) us:=fun h=>All2.map.1 (h.mono hf)
 cases v with
 | c x=>exact hf x u h
 | agg cs=>obtain ⟨us,rfl,h⟩:=h; exact ⟨us,rfl,hl h⟩
 | tup vs=>
  obtain ⟨us,rfl,h⟩:=h
  refine ⟨us,rfl,All2.map.1 (h.mono fun p u hp=> ?_)⟩
  obtain ⟨b,cs⟩:=p
  cases b
  ·obtain ⟨x,rfl,h⟩:=hp; exact ⟨f x,rfl,hf _ _ h⟩
  ·obtain ⟨us,rfl,h⟩:=hp; exact ⟨us,rfl,hl h⟩
theorem live_map (f:SC→SC) (o:Ob):(o.map f).live = o.live:=by cases o <;> rfl
theorem map_obr {R R':Nat→Prop} {w w':World} {μ μ':Nat→Option Value} {f:SC→SC} (hk:Keeps R w w') (hr:∀ b,R b→R' b) (hf:∀ x u,cr R w μ x u→cr R' w' μ' (f x) u) {i j:Nat} {o:Ob} (hm:o.live = true→∀ v,μ i = some v→μ' j = some v)
  (hb:o.live = true→∀ v b,μ i = some v→blk v = some b→w'.heap[b]? = w.heap[b]?) (h:obr R w μ i o):obr R' w' μ' j (o.map f):=by
 cases o with
 | dead=>trivial
 | cells e cs=>
  obtain ⟨b,arr,h1,h2,h3,h4⟩:=h
  exact ⟨b,arr,hm rfl _ h1,(hb rfl _ b h1 rfl).trans h2,All2.map.1 (h3.mono hf),h4⟩
 | vec e t xs m=>
  obtain ⟨v,flat,h0,h1,h2,h3⟩:=h
  refine ⟨v,flat,hm rfl _ h0,⟨h1.1, ?_⟩,rows_keep hk hr h2,h3⟩
  rcases h1.2 with h | ⟨g,cap,cur,e1,e2,e3,e4⟩
  ·exact .inl h
  ·exact .inr ⟨g,cap,cur,e1,e2,rowAt_keep (hb rfl v g h0 (by rw [e1]; rfl)) e3,e4⟩
 | dict k t es=>
  obtain ⟨r,arr,clk,h1,h2,h3⟩:=h
  exact ⟨r,arr,clk,hm rfl _ h1,(hb rfl _ r h1 rfl).trans h2,h3.mono fun _ _ h=>⟨h.1,rv_keep hk hr h.2⟩⟩
theorem RelB.rehead {c:Cx} {st:St} {a:Act} {w w':World} {R:Nat→Prop} {μ:Nat→Option Value} (h:RelB c st a w R μ) {i:Nat} {v v':Value} {o o':Ob}
  (hi:look i st.hp = some o) (ho:o.live = true) (hv:μ i = some v) (hs:∃ A n c,v = .slice A n c) (k:Chg (fun b=>blk v = some b) w w') (hb:∀ b,blk v' = some b→blk v = some b∨w.heap.size≤b)
  (ho':obr R w' (upd μ i v') i o') (hf:∀ e t xs,o' ≠ .vec e t xs false):
  RelB c { st with env:=mapE (kill (Nat.beq i)) st.env,hp:=(i,o')::mapH (kill (Nat.beq i)) st.hp } a w' R (upd μ i v'):=by
 have hlb0:∀ b,blk v = some b→lb μ (fun i=>look i st.hp) i b:=fun b hb=>⟨o,v,hi,ho,hv,hb⟩
 have hk:Keeps R w w':=k.keeps fun b' hr _ e=>h.mem.heap.out i b' (hlb0 b' e) hr
 have hm:∀ j u,μ j = some u→(Nat.beq i j = false∨∀ A n c,u ≠ .slice A n c)→upd μ i v' j = some u:=by
  intro j u hj hor
  unfold upd
  split
  ·rename_i e
   subst e
   rcases hor with hor | hor
   ·simp at hor
   ·obtain ⟨A,n,cc,e⟩:=hs
    rw [hv] at hj
    cases hj
    exact absurd e (hor A n cc)
  ·exact hj
 have hcr:∀ x u,cr R w μ x u→cr R w' (upd μ i v') (kill (Nat.beq i) x) u:=fun x u=>kill_cr hk hm
 have hlk:∀ j,look j ((i,o')::mapH (kill (Nat.beq i)) st.hp) = if i = j then some o' else (look j st.hp).map (Ob.map (kill (Nat.beq i))):=fun j=>by rw [look_cons,look_mapH]
 have hlb:∀ j b,lb (upd μ i v') (fun j=>look j ((i,o')::mapH (kill (Nat.beq i)) st.hp)) j b→(j = i∧w.heap.size≤b)∨lb μ (fun j=>look j st.hp) j b:=by
  rintro j b ⟨o1,v1,h1,h2,h3,h4⟩
  by_cases e:i = j
  ·subst e
   simp only [upd,if_true] at h3
   cases h3
   rcases hb b h4 with h5 | h5
   ·exact .inr (hlb0 b h5)
   ·exact .inl ⟨rfl,h5⟩
  ·right
   simp only [hlk] at h1
   rw [if_neg e] at h1
   simp only [upd] at h3
   rw [if_neg (fun x=>e x.symm)] at h3
   cases hj:look j st.hp with
   | none=>rw [hj] at h1; cases h1
   | some o2=>
    rw [hj] at h1
    simp only [Option.map_some,Option.some.injEq] at h1
    subst h1
    exact ⟨o2,v1,hj,by rw [← live_map (kill (Nat.beq i))]; exact h2,h3,h4⟩
 refine ⟨fun d x hd=> ?_,⟨⟨fun j o1 ho1=> ?_,fun j1 j2 b h1 h2=> ?_,fun j b h1 hr=> ?_,fun b hb=>Nat.lt_of_lt_of_le (h.mem.heap.ex b hb) k.size⟩,fun j u hu=> ?_,h.mem.fr.chg k (fun b e hb=>h.mem.own i b (hlb0 b e) hb),h.mem.rlo,h.mem.rhi,fun j b h1 h2=> ?_,fun j u hj hu hsl=> ?_,h.mem.n,fun j e t xs hj=> ?_⟩,h.size,h.defs⟩
 ·simp only [look_mapE] at hd
  cases hx:look d st.env with
  | none=>rw [hx] at hd; cases hd
  | some x0=>
   rw [hx] at hd
   simp only [Option.map_some,Option.some.injEq] at hd
   subst hd
   exact map_vr hcr (h.env d x0 hx)
 ·simp only [hlk] at ho1
  split at ho1
  ·rename_i e; cases ho1; subst e; exact ho'
  ·rename_i e
   cases hj:look j st.hp with
   | none=>rw [hj] at ho1; cases ho1
   | some o2=>
    rw [hj] at ho1
    simp only [Option.map_some,Option.some.injEq] at ho1
    subst ho1
    refine map_obr hk (fun _ h=>h) hcr (fun _ u hu=> ?_) (fun hli u b hu hbu=> ?_) (h.mem.heap.ob j o2 hj)
    ·unfold upd; rw [if_neg (fun x=>e x.symm)]; exact hu
    ·have hlj:lb μ (fun i=>look i st.hp) j b:=⟨o2,u,hj,hli,hu,hbu⟩
     exact k.block b (lb_lt h.mem.heap hlj) fun e'=>e (h.mem.heap.apart i j b (hlb0 b e') hlj)
 ·rcases hlb j1 b h1 with ⟨e1,g1⟩ | g1 <;> rcases hlb j2 b h2 with ⟨e2,g2⟩ | g2
  ·rw [e1,e2]
  ·have:=lb_lt h.mem.heap g2; omega
  ·have:=lb_lt h.mem.heap g1; omega
  ·exact h.mem.heap.apart j1 j2 b g1 g2
 ·rcases hlb j b h1 with ⟨e1,g1⟩ | g1
  ·have:=h.mem.heap.ex b hr; omega
  ·exact h.mem.heap.out j b g1 hr
 ·unfold upd at hu
  split at hu
  ·rename_i e; subst e; exact h.mem.dom _ _ hv
  ·exact h.mem.dom j u hu
 ·rcases hlb j b h1 with ⟨e1,g1⟩ | g1
  ·have:=h.mem.fr.size; omega
  ·exact h.mem.own j b g1 h2
 ·have h1:=h.mem.pins j u hj hu hsl
  unfold upd
  rw [if_neg (fun (e:j = i)=>by
   subst e
   obtain ⟨A,n,cc,e⟩:=hs
   rw [hv] at h1
   cases h1
   exact hsl A n cc e)]
  exact h1
 ·rw [hlk] at hj
  split at hj
  ·cases hj; exact absurd rfl (hf e t xs)
  ·rename_i e1
   cases hl:look j st.hp with
   | none=>rw [hl] at hj; cases hj
   | some o2=>
    rw [hl] at hj
    simp only [Option.map_some,Option.some.injEq] at hj
    have hl':look j st.hp = some (.vec e t xs false):=by
     rw [hl]
     cases o2 with
     | vec _ _ _ _=>exact congrArg some hj
     | _=>cases hj
    have:=h.mem.stay j e t xs hl'
    refine ⟨this.1,this.2.1, ?_⟩
    unfold upd
    rw [if_neg (fun x=>e1 x.symm)]
    exact this.2.2
theorem rows_at {R:Nat→Prop} {w:World} {t:Ty} {xs:List (D t)} {flat:List Value} {e:TypeId} {v:Value} (ho:orow w e t.size v xs.length flat) (hr:rows R w t xs flat) {R':Nat→Prop} (hR:∀ b,R b→R' b) (hb:∀ b,blk v = some b→R' b) (hs:0 < t.size):
  ∃ A c,v = .slice A xs.length c∧xs.length≤c∧∀ (i:Nat) (h:i < xs.length),∃ b us,A = some ⟨b,0,none⟩∧blk v = some b∧R' b∧b < w.heap.size∧rv R' w t xs[i] us∧At w b (i * t.size) us:=by
 rcases ho.2 with ⟨rfl,h0⟩ | ⟨g,cap,cur,rfl,_,hg,hle,hm,hsz,htk⟩
 ·exact ⟨none,0,by rw [h0],by omega,fun i h=>by omega⟩
 ·refine ⟨_,cap,rfl,hle,fun i h=> ?_⟩
  obtain ⟨us,hu,eu⟩:=rows_get hr i h
  refine ⟨g,us,rfl,rfl,hb g rfl,rowAt_lt hg,rv_keep (Keeps.refl R w) hR hu,fun j u hj=> ?_⟩
  exact orow_cells ho (g:=g) rfl (i * t.size + j) u (by
   rw [eu] at hj
   rw [List.getElem?_take] at hj
   split at hj
   ·rw [List.getElem?_drop] at hj; exact hj
   ·cases hj)
theorem slv_of_own {R:Nat→Prop} {w:World} {t:Ty} {xs:List (D t)} {flat:List Value} {e:TypeId} {v:Value} (ho:orow w e t.size v xs.length flat) (hr:rows R w t xs flat) {R':Nat→Prop} (hR:∀ b,R b→R' b) (hb:∀ b,blk v = some b→R' b) (hs:0 < t.size):slv R' w t xs v:=by
 obtain ⟨A,c,h1,h2,h3⟩:=rows_at ho hr hR hb hs
 refine slv_form.2 ⟨A,c,h1,h2,fun i h=> ?_⟩
 obtain ⟨b,us,g1,_,g2,g3,g4,g5⟩:=h3 i h
 exact ⟨b,0,us,g1,g2,g3,g4,by rw [Nat.zero_add]; exact g5⟩
theorem slv_cut {R:Nat→Prop} {w:World} {t:Ty} {xs:List (D t)} {A:Option Addr} {c lo n:Nat} (hc:xs.length≤c) (hle:lo + n≤xs.length)
  (h:∀ (i:Nat) (h:i < xs.length),∃ b o us,A = some ⟨b,o,none⟩∧R b∧b < w.heap.size∧rv R w t xs[i] us∧At w b (o + i * t.size) us) {A':Option Addr} (hA:0 < n→∃ b o,A = some ⟨b,o,none⟩∧A' = some ⟨b,o + lo * t.size,none⟩) {c':Nat} (hc':n≤c'):
  slv R w t ((xs.drop lo).take n) (.slice A' n c'):=by
 have hl:((xs.drop lo).take n).length = n:=by simp; omega
 refine slv_form.2 ⟨A',c',by rw [hl],by omega,fun i hi=> ?_⟩
 rw [hl] at hi
 obtain ⟨b,o,us,g1,g2,g3,g4,g5⟩:=h (lo + i) (by omega)
 obtain ⟨b',o',e1,e2⟩:=hA (by omega)
 rw [g1] at e1
 cases e1
 refine ⟨b,o + lo * t.size,us,e2,g2,g3, ?_, ?_⟩
 ·simpa using g4
 ·rw [Nat.add_assoc, ← Nat.add_mul]; exact g5
theorem own_blk {w:World} {e:TypeId} {size n:Nat} {v:Value} {xs:List Value} (h:orow w e size v n xs):v.ownBlock = blk v:=by
 rcases h.2 with ⟨rfl,_⟩ | ⟨g,cap,cur,rfl,_⟩ <;> rfl
theorem fz_cr {c:Cx} {st:St} {a:Act} {w:World} {R:Nat→Prop} {μ:Nat→Option Value} (h:Mem c st w R μ) {R':Nat→Prop} (hR:∀ b,R b→R' b) {x:SC} {u:Value} (hx:cr R w μ x u) (hb:∀ i ∈ x.owns,∀ b,lb μ (fun i=>look i st.hp) i b→R' b):
  cr R' w μ (fz st.hp x) u:=by
 cases x with
 | own i=>
  simp only [fz]
  cases hl:look i st.hp with
  | none=>trivial
  | some o=>
   cases o with
   | dead=>trivial
   | cells e cs=>trivial
   | dict _ _ _=>trivial
   | vec e t xs m=>
    obtain ⟨v,flat,g1,g2,g3,g4⟩:=h.heap.ob i _ hl
    have e1:=hx.1
    rw [g1] at e1
    cases e1
    exact slv_of_own g2 g3 hR (fun b hbb=>hb i (by simp [SC.owns]) b ⟨_,_,hl,rfl,g1,hbb⟩) g4
 | sub i sz lo n=>
  simp only [fz]
  cases hl:look i st.hp with
  | none=>trivial
  | some o=>
   cases o with
   | dead=>trivial
   | cells e cs=>trivial
   | dict _ _ _=>trivial
   | vec e t xs m=>
    obtain ⟨v,flat,g1,g2,g3,g4⟩:=h.heap.ob i _ hl
    obtain ⟨A,c',rfl,hnc,A',m,c'',e1,hle,hA⟩:=hx
    rw [g1] at e1
    cases e1
    obtain ⟨A2,c2,e2,h2,h3⟩:=rows_at g2 g3 hR (fun b hbb=>hb i (by simp [SC.owns]) b ⟨_,_,hl,rfl,g1,hbb⟩) g4
    cases e2
    show cr R' w μ (bif Nat.beq sz t.size then .sl t ((xs.drop lo).take n) else .undef) _
    cases hsz:Nat.beq sz t.size with
    | false=>trivial
    | true=>
     have hsz:=Nat.eq_of_beq_eq_true hsz
     subst hsz
     refine slv_cut (A:=A') h2 hle (fun i hi=> ?_) (fun hn=> ?_) hnc
     ·obtain ⟨b,us,k1,_,k2,k3,k4,k5⟩:=h3 i hi
      exact ⟨b,0,us,k1,k2,k3,k4,by rw [Nat.zero_add]; exact k5⟩
     ·obtain ⟨b,e1,e2⟩:=hA hn
      exact ⟨b,0,e1,by rw [Nat.zero_add]; exact e2⟩
 | _=>exact cr_keep (Keeps.refl R w) hR (Ext.refl μ) hx
theorem has_iff (i:Nat):∀ (l:List Nat),has i l = true↔i ∈ l
 | []=>by simp [has]
 | j::r=>by
  simp only [has,List.mem_cons]
  cases hb:Nat.beq i j with
  | true=>have:=Nat.eq_of_beq_eq_true hb; simp [this]
  | false=>
   have hne:i ≠ j:=fun e=>by subst e; simp at hb
   simp [hne,has_iff i r]
theorem look_deads (i:Nat) (l:List (Nat×Ob)):∀ (ids:List Nat),look i (deads ids++l) = if i ∈ ids then some .dead else look i l
 | []=>by simp [deads]
 | j::r=>by
  show look i ((j,.dead)::(deads r++l)) = _
  rw [look_cons,look_deads i l r]
  by_cases h:j = i
  ·subst h; simp
  ·have h':¬ i = j:=fun e=>h e.symm
   simp [h,h']
theorem frz_cr {c:Cx} {st:St} {w:World} {R:Nat→Prop} {μ:Nat→Option Value} (h:Mem c st w R μ) {ids:List Nat} {R':Nat→Prop} (hR:∀ b,R b→R' b) (hb:∀ i ∈ ids,∀ b,lb μ (fun i=>look i st.hp) i b→R' b) {x:SC} {u:Value} (hx:cr R w μ x u):
  cr R' w μ (frzC st.hp ids x) u:=by
 cases x with
 | own i=>
  simp only [frzC]
  cases hh:has i ids with
  | false=>exact cr_keep (Keeps.refl R w) hR (Ext.refl μ) hx
  | true=>
   refine fz_cr (a:=⟨#[],[]⟩) h hR hx ?_
   intro j hj
   simp only [SC.owns,List.mem_singleton] at hj
   subst hj
   exact hb j ((has_iff _ _).1 hh)
 | sub i a b d=>
  simp only [frzC]
  cases hh:has i ids with
  | false=>exact cr_keep (Keeps.refl R w) hR (Ext.refl μ) hx
  | true=>
   refine fz_cr (a:=⟨#[],[]⟩) h hR hx ?_
   intro j hj
   simp only [SC.owns,List.mem_singleton] at hj
   subst hj
   exact hb j ((has_iff _ _).1 hh)
 | vel i a b d=>
  simp only [frzC]
  cases hh:has i ids with
  | false=>exact cr_keep (Keeps.refl R w) hR (Ext.refl μ) hx
  | true=>trivial
 | _=>exact cr_keep (Keeps.refl R w) hR (Ext.refl μ) hx
theorem RelB.frozen {c:Cx} {st:St} {a:Act} {w:World} {R:Nat→Prop} {μ:Nat→Option Value} (h:RelB c st a w R μ) (ids:List Nat):
  RelB c (freeze ids st) a w (fun b=>R b∨∃ i ∈ ids,lb μ (fun i=>look i st.hp) i b) μ:=by
 cases hids:ids with
 | nil=>
  show RelB c st a w _ μ
  have e:(fun b=>R b∨∃ i ∈ ([]:List Nat),lb μ (fun i=>look i st.hp) i b) = R:=by
   funext b; simp
  rw [e]
  exact h
 | cons i0 r0=>
 rw [← hids]
 have hR:∀ b,R b→(R b∨∃ i ∈ ids,lb μ (fun i=>look i st.hp) i b):=fun b hb=>.inl hb
 have hcr:∀ x u,cr R w μ x u→cr (fun b=>R b∨∃ i ∈ ids,lb μ (fun i=>look i st.hp) i b) w μ (frzC st.hp ids x) u:=fun x u hx=>frz_cr h.mem hR (fun i hi b hb=>.inr ⟨i,hi,hb⟩) hx
 have hst:freeze ids st = { st with env:=mapE (frzC st.hp ids) st.env,hp:=deads ids++mapH (frzC st.hp ids) st.hp }:=by rw [hids]; rfl
 rw [hst]
 have hlk:∀ j,look j (deads ids++mapH (frzC st.hp ids) st.hp) = if j ∈ ids then some .dead else (look j st.hp).map (Ob.map (frzC st.hp ids)):=fun j=>by rw [look_deads,look_mapH]
 have hlb:∀ j b,lb μ (fun j=>look j (deads ids++mapH (frzC st.hp ids) st.hp)) j b→j ∉ ids∧lb μ (fun j=>look j st.hp) j b:=by
  rintro j b ⟨o1,v1,h1,h2,h3,h4⟩
  simp only [hlk] at h1
  split at h1
  ·cases h1; cases h2
  ·rename_i hn
   cases hj:look j st.hp with
   | none=>rw [hj] at h1; cases h1
   | some o2=>
    rw [hj] at h1
    simp only [Option.map_some,Option.some.injEq] at h1
    subst h1
    exact ⟨hn,o2,v1,hj,by rw [← live_map (frzC st.hp ids)]; exact h2,h3,h4⟩
 refine ⟨fun d x hd=> ?_,⟨⟨fun j o1 ho1=> ?_,fun j1 j2 b h1 h2=>h.mem.heap.apart j1 j2 b (hlb j1 b h1).2 (hlb j2 b h2).2,fun j b h1 hr=> ?_,fun b hb=> ?_⟩,h.mem.dom,h.mem.fr,fun b hb=>.inl (h.mem.rlo b hb),fun b hb hlt=> ?_,fun j b h1=>h.mem.own j b (hlb j b h1).2,h.mem.pins,h.mem.n,fun j e t xs hj=> ?_⟩,h.size,h.defs⟩
 ·simp only [look_mapE] at hd
  cases hx:look d st.env with
  | none=>rw [hx] at hd; cases hd
  | some x0=>
   rw [hx] at hd
   simp only [Option.map_some,Option.some.injEq] at hd
   subst hd
   exact map_vr hcr (h.env d x0 hx)
 ·simp only [hlk] at ho1
  split at ho1
  ·cases ho1; trivial
  ·rename_i hn
   cases hj:look j st.hp with
   | none=>rw [hj] at ho1; cases ho1
   | some o2=>
    rw [hj] at ho1
    simp only [Option.map_some,Option.some.injEq] at ho1
    subst ho1
    exact map_obr (Keeps.refl R w) hR hcr (fun _ u hu=>hu) (fun _ _ _ _ _=>rfl) (h.mem.heap.ob j o2 hj)
 ·obtain ⟨hn,hl⟩:=hlb j b h1
  rcases hr with hr | ⟨i,hi,hl'⟩
  ·exact h.mem.heap.out j b hl hr
  ·exact hn (h.mem.heap.apart i j b hl' hl ▸ hi)
 ·rcases hb with hb | ⟨i,hi,hl⟩
  ·exact h.mem.heap.ex b hb
  ·exact lb_lt h.mem.heap hl
 ·rcases hb with hb | ⟨i,hi,hl⟩
  ·exact h.mem.rhi b hb hlt
  ·exact .inr (h.mem.own i b hl hlt)
 ·rw [hlk] at hj
  split at hj
  ·cases hj
  ·cases hl:look j st.hp with
   | none=>rw [hl] at hj; cases hj
   | some o2=>
    rw [hl] at hj
    simp only [Option.map_some,Option.some.injEq] at hj
    have hl':look j st.hp = some (.vec e t xs false):=by
     rw [hl]
     cases o2 with
     | vec _ _ _ _=>exact congrArg some hj
     | _=>cases hj
    exact h.mem.stay j e t xs hl'
end Go.Proofs.YtohnjbmiaegofaaGreat.Ev
