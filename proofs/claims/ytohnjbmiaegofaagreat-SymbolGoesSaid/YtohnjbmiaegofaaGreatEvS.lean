/- What a row reads of an argument, as a typed value. -/
import Derived.Test.YtohnjbmiaegofaaGreatEvR
import Derived.OpenShut
import Derived.ChangeArms
import Derived.ChangeOld
import Derived.SizedLaws
import Derived.WideShapes
set_option linter.unusedVariables false
namespace Go.Proofs.YtohnjbmiaegofaaGreat.Ev
open Go
def _root_.Go.Proofs.YtohnjbmiaegofaaGreat.Ev.Ty.bytes:Ty→Nat
 | .int k=>k.bits / 8
 | .bool=>1
 | .str=>16
 | .sl _=>24
 | .unit=>0
 | .pair a b=>a.bytes + b.bytes
def given:(t:Ty)→D t→Prop
 | .int k,n=>(Lit.int k n).wf = true
 | .bool,_=>True
 | .str,s=>s.size≤140737488351232
 | .sl t,xs=>List.length xs * t.bytes≤140737488351232∧∀ x ∈ (xs:List (D t)),given t x
 | .unit,_=>True
 | .pair a b,x=>given a x.1∧given b x.2
def fitParts (r:TypeId→Ty→Bool) (P:Program):Nat→List (TypeId×Nat)→Ty→Bool
 | _,[],ty=>(match ty with | .unit=>true | _=>false)
 | off,(t,o)::q,ty=>match q with
  | []=>Nat.beq o off&&r t ty&&Nat.beq (P.cellsOf t) ty.size
  | _::_=>match ty with
   | .pair a b=>Nat.beq o off&&r t a&&Nat.beq (P.cellsOf t) a.size&&fitParts r P (off + a.size) q b
   | _=>false
def fits (P:Program):Nat→TypeId→Ty→Bool
 | 0,_,_=>false
 | n + 1,t,ty=>match P.underlying t with
  | some .bool=>(match ty with | .bool=>true | _=>false)
  | some (.int k)=>(match ty with | .int k'=>decide (k = k') | _=>false)
  | some .string=>(match ty with | .str=>true | _=>false)
  | some (.slice e)=>(match ty with | .sl ty'=>fits P n e ty'&&Nat.beq (P.cellsOf e) ty'.size&&Nat.blt 0 ty'.size&&Nat.ble ty'.bytes (P.bytesOf e) | _=>false)
  | some (.struct fs)=>fitParts (fits P n) P 0 (fs.toList.map fun f=>(f.type,f.offset)) ty&&Nat.beq (P.cellsOf t) ty.size
  | some (.array m e)=>fitParts (fits P n) P 0 ((List.range m).map fun i=>(e,i * P.cellsOf e)) ty&&Nat.beq (P.cellsOf t) ty.size
  | _=>false
theorem list_of {α:Type} {Q:Nat→α→Prop}:∀ (n:Nat),(∀ i,i < n→∃ y,Q i y)→∃ l:List α,l.length = n∧∀ (i:Nat) (h:i < l.length),Q i l[i]
 | 0,_=>⟨[],rfl,fun i h=>by simp at h⟩
 | n + 1,h=>by
  obtain ⟨l,hl,hq⟩:=list_of n fun i hi=>h i (by omega)
  obtain ⟨y,hy⟩:=h n (by omega)
  refine ⟨l++ [y],by simp [hl],fun i hi=> ?_⟩
  rcases Nat.lt_or_ge i l.length with hi' | hi'
  ·rw [List.getElem_append_left hi']
   exact hq i hi'
  ·have:i = n:=by simp [hl] at hi; omega
   subst this
   rw [List.getElem_append_right hi']
   simpa using hy
section
variable {H:Type} {enc:TypeId×Value→H} {P:Program} {w:World} {sp:Nat→Bool} {held:Bool}
theorem weightsAll_mem {e:TypeId} {n:Nat} {d:DataW H} (hn:n ∈ d.weights P e):∀ {l:List (DataW H)},d ∈ l→n ∈ DataW.weightsAll P e l
 | [],h=>by cases h
 | x::l,h=>by
  unfold DataW.weightsAll
  rcases List.mem_cons.1 h with rfl | h
  ·exact List.mem_append_left _ hn
  ·exact List.mem_append_right _ (weightsAll_mem hn h)
theorem weightsEach_mem {n:Nat}:∀ {ts:List TypeId} {l:List (DataW H)} {i:Nat} {t:TypeId} {d:DataW H},ts[i]? = some t→l[i]? = some d→n ∈ d.weights P t→n ∈ DataW.weightsEach P ts l
 | [],_,i,_,_,h,_,_=>by simp at h
 | _::_,[],i,_,_,_,h,_=>by simp at h
 | t::ts,d::l,i,t',d',ht,hd,hn=>by
  unfold DataW.weightsEach
  cases i with
  | zero=>simp at ht hd; subst ht; subst hd; exact List.mem_append_left _ hn
  | succ i=>exact List.mem_append_right _ (weightsEach_mem (i:=i) (by simpa using ht) (by simpa using hd) hn)
def Light (P:Program) (t:TypeId) (d:DataW H):Prop:=∀ n ∈ d.weights P t,n≤reachBytes
theorem reach_eq:reachBytes = 140737488351232:=rfl
theorem parts_rv {r:TypeId→Ty→Bool} {n:Nat} {cs:List Value}
  (hr:∀ (t:TypeId) (ty:Ty) (cs:List Value) (x:DataW H×List MemPlace),r t ty = true→DataW.trod enc P w 0 sp held n t cs = some x→Light P t x.1→∃ y:D ty,rv (fun b=>b < w.heap.size) w ty y cs∧given ty y):
  ∀ (l:List (TypeId×Nat)) (off:Nat) (ty:Ty),fitParts r P off l ty = true→(∀ p ∈ l,∃ x,DataW.trod enc P w 0 sp held n p.1 ((cs.drop p.2).take (P.cellsOf p.1)) = some x∧Light P p.1 x.1)→cs.length = off + ty.size→
   ∃ y:D ty,rv (fun b=>b < w.heap.size) w ty y (cs.drop off)∧given ty y
 | [],off,ty,hf,hx,hl=>by
  unfold fitParts at hf
  split at hf
  ·refine ⟨(), ?_,trivial⟩
   simp only [rv]
   exact List.drop_eq_nil_of_le (by simp [Ty.size] at hl; omega)
  ·cases hf
 | [(t,o)],off,ty,hf,hx,hl=>by
  simp only [fitParts,Bool.and_eq_true,Nat.beq_eq] at hf
  obtain ⟨⟨rfl,h1⟩,h2⟩:=hf
  obtain ⟨x,hx,hlx⟩:=hx (t,o) (by simp)
  have e:(cs.drop o).take (P.cellsOf t) = cs.drop o:=List.take_of_length_le (by simp; omega)
  simp only [e] at hx
  exact hr t ty _ x h1 hx hlx
 | (t,o)::q::l,off,ty,hf,hx,hl=>by
  unfold fitParts at hf
  simp only at hf
  split at hf
  ·rename_i a b
   simp only [Bool.and_eq_true,Nat.beq_eq] at hf
   obtain ⟨⟨⟨rfl,h1⟩,h2⟩,h3⟩:=hf
   obtain ⟨x,hx1,hlx⟩:=hx (t,o) (by simp)
   obtain ⟨y1,g1,g2⟩:=hr t a _ x h1 hx1 hlx
   obtain ⟨y2,k1,k2⟩:=parts_rv hr (q::l) (o + a.size) b h3 (fun p hp=>hx p (by simp [hp])) (by simp [Ty.size] at hl; omega)
   refine ⟨(y1,y2), ?_,g2,k2⟩
   simp only [rv]
   refine ⟨_,_, ?_,g1,k1⟩
   rw [h2, ← List.drop_drop,List.take_append_drop]
  ·cases hf
theorem trod_rv:∀ (m:Nat) (t:TypeId) (ty:Ty) (fuel:Nat) (cs:List Value) (x:DataW H×List MemPlace),fits P m t ty = true→DataW.trod enc P w 0 sp held fuel t cs = some x→Light P t x.1→
  ∃ y:D ty,rv (fun b=>b < w.heap.size) w ty y cs∧given ty y
 | 0,t,ty,fuel,cs,x,hf,h,hw=>by cases hf
 | m + 1,t,ty,fuel,cs,x,hf,h,hw=>by
  unfold fits at hf
  split at hf
  ·rename_i ht
   split at hf
   ·obtain ⟨b,rfl,_⟩:=DataW.trod_bool ht h
    exact ⟨b,rfl,trivial⟩
   ·cases hf
  ·rename_i k ht
   split at hf
   ·have hf:=of_decide_eq_true hf
    subst hf
    obtain ⟨b,rfl,_,hw'⟩:=DataW.trod_int ht h
    exact ⟨b,rfl,hw'⟩
   ·cases hf
  ·rename_i ht
   split at hf
   ·obtain ⟨b,rfl,rfl,hw'⟩:=DataW.trod_string ht h
    refine ⟨b,rfl, ?_⟩
    have:=hw b.data.toList.length (by simp [DataW.weights])
    rw [reach_eq,Array.length_toList] at this
    exact this
   ·cases hf
  ·rename_i e ht
   split at hf
   ·rename_i ty'
    simp only [Bool.and_eq_true,Nat.beq_eq,Nat.blt_eq] at hf
    obtain ⟨⟨⟨hf,h2⟩,h3⟩,h4⟩:=hf
    have h4:=Nat.le_of_ble_eq_true h4
    rcases DataW.trod_slice ht h with ⟨rfl,_⟩ | ⟨a,len,cap,elems,rest,n,rfl,rfl,rfl,hb,hl,hc,he,hi,_,_⟩
    ·refine ⟨[], ?_,by simp [given]⟩
     simp only [rv]
     exact ⟨none,0,rfl,Nat.le_refl _,fun i h=>by simp at h⟩
    ·have hq:∀ i,i < len→∃ y:D ty',∃ us,rv (fun b=>b < w.heap.size) w ty' y us∧given ty' y∧a.spot = none∧a.block < w.heap.size∧At w a.block (a.off + i * ty'.size) us:=by
      intro i hlt
      have hx:=hi i hlt
      have hlt':i < elems.length:=by omega
      rw [List.getElem?_eq_getElem hlt'] at hx
      simp only [Option.bind_eq_some_iff] at hx
      obtain ⟨cs',hc1,hc2⟩:=hx
      obtain ⟨y,hy,gy⟩:=trod_rv m e ty' n cs' _ hf hc2 (fun k hk=>hw k (by
       simp only [DataW.weights,ht]
       exact List.mem_cons_of_mem _ (List.mem_append_left _ (weightsAll_mem hk (List.mem_map.2 ⟨_,List.getElem_mem hlt',rfl⟩)))))
      obtain ⟨_,l1,l2⟩:=World.cells?_some hc1
      have hs:a.spot = none:=by
       have hx0:=hi 0 (by omega)
       rw [List.getElem?_eq_getElem (show 0 < elems.length by omega)] at hx0
       simp only [Option.bind_eq_some_iff] at hx0
       obtain ⟨cs0,hc0,_⟩:=hx0
       obtain ⟨_,m1,m2⟩:=World.cells?_some hc0
       have:=m2 0 (by omega)
       rw [List.getElem?_eq_getElem (show 0 < cs0.length by omega)] at this
       simp only [Nat.zero_mul,Addr.add,if_true] at this
       unfold World.cell? at this
       split at this
       ·split at this
        ·cases this
        ·rename_i hn
         simpa using hn
       ·cases this
      have hblk:=World.cells?_block hc1 (by omega)
      refine ⟨y,cs',hy,gy,hs, ?_, ?_⟩
      ·have:(a.add (i * P.cellsOf e)).block = a.block:=by unfold Addr.add; split <;> rfl
       rw [← this]; exact hblk
      ·intro j u hj
       have hjl:j < cs'.length:=by
        rcases Nat.lt_or_ge j cs'.length with h | h
        ·exact h
        ·rw [List.getElem?_eq_none h] at hj; cases hj
       have:=l2 j (by omega)
       rw [hj] at this
       rw [← this, ← h2]
       congr 1
       obtain ⟨ab,ao,as⟩:=a
       simp only at hs
       subst hs
       unfold Addr.add
       split <;> split <;> simp <;> omega
     obtain ⟨ys,hlen,hys⟩:=list_of len hq
     refine ⟨ys, ?_, ?_⟩
     ·simp only [rv]
      refine ⟨some a,cap,by rw [hlen],by omega,fun i hlt=> ?_⟩
      obtain ⟨us,e1,e2,e3,e4,e5⟩:=hys i hlt
      obtain ⟨ab,ao,as⟩:=a
      simp only at e3 e4 e5
      subst e3
      exact ⟨ab,ao,us,rfl,e4,e4,e1,e5⟩
     ·simp only [given]
      refine ⟨?_,fun y hy=> ?_⟩
      ·have:=hw ((elems.map (·.1)).length * P.bytesOf e + (rest.map (·.1)).length * P.bytesOf e) (by
        simp only [DataW.weights,ht,Nat.add_mul]
        exact List.mem_cons_self)
       rw [reach_eq,List.length_map,he] at this
       rw [hlen]
       have:=Nat.mul_le_mul_left len h4
       omega
      obtain ⟨i,hlt,rfl⟩:=List.mem_iff_getElem.1 hy
      obtain ⟨us,e1,e2,_⟩:=hys i hlt
      exact e2
   ·cases hf
  ·rename_i fs ht
   simp only [Bool.and_eq_true,Nat.beq_eq] at hf
   obtain ⟨xs,n,rfl,rfl,hl,hxl,hx⟩:=DataW.trod_struct ht h
   have:=parts_rv (cs:=cs) (n:=n) (fun t ty cs x=>trod_rv m t ty n cs x) _ 0 ty hf.1 (fun p hp=>by
    simp only [List.mem_map] at hp
    obtain ⟨f,hf1,rfl⟩:=hp
    obtain ⟨i,hi,hfi⟩:=List.mem_iff_getElem.1 hf1
    have:=hx i f (by rw [← hfi, ← Array.getElem?_toList,List.getElem?_eq_getElem hi])
    have hi':i < xs.length:=by simp at hi; omega
    exact ⟨xs[i],by rw [this,List.getElem?_eq_getElem hi'],fun k hk=>hw k (by
     simp only [DataW.weights,ht]
     exact weightsEach_mem (i:=i) (by rw [List.getElem?_map,List.getElem?_eq_getElem hi,hfi]; rfl) (by simp [hi']) hk)⟩) (by rw [hl,hf.2]; simp)
   simpa using this
  ·rename_i k e ht
   simp only [Bool.and_eq_true,Nat.beq_eq] at hf
   obtain ⟨xs,n,rfl,rfl,hl,hxl,hx⟩:=DataW.trod_array ht h
   have:=parts_rv (cs:=cs) (n:=n) (fun t ty cs x=>trod_rv m t ty n cs x) _ 0 ty hf.1 (fun p hp=>by
    simp only [List.mem_map,List.mem_range] at hp
    obtain ⟨i,hi,rfl⟩:=hp
    have:=hx i hi
    have hi':i < xs.length:=by omega
    exact ⟨xs[i],by rw [this,List.getElem?_eq_getElem hi'],fun k hk=>hw k (by
     simp only [DataW.weights,ht]
     exact weightsAll_mem hk (List.mem_map.2 ⟨_,List.getElem_mem hi',rfl⟩))⟩) (by rw [hl,hf.2]; simp)
   simpa using this
  ·cases hf
theorem arg_rv {m:Nat} {t:TypeId} (ty:Ty) {v:Value} {d:DataW H} {ps:List MemPlace} (hf:fits P m t ty = true) (h:DataW.Trod enc P w 0 sp held t v d ps) (hw:Light P t d):
  ∃ y:D ty,All2 (cr (fun b=>b < w.heap.size) w (fun _=>none)) (toC ty y) v.cells.toList∧given ty y:=by
 obtain ⟨fuel,h⟩:=h
 obtain ⟨y,h1,h2⟩:=trod_rv m t ty fuel _ _ hf h hw
 exact ⟨y,toC_rv h1,h2⟩
theorem light_of {ts:List TypeId} {ds:List (DataW H)} (h:(DataW.weightsEach P ts ds).all (· ≤reachBytes) = true) {i:Nat} {t:TypeId} {d:DataW H} (ht:ts[i]? = some t) (hd:ds[i]? = some d):Light P t d:=fun n hn=>by
 have:=List.all_eq_true.1 h n (weightsEach_mem ht hd hn)
 simpa using this
theorem All2.one {α β:Type} {p:α→β→Prop} {a:α} {b:β} (h:All2 p [a] [b]):p a b:=by
 cases h with
 | cons h _=>exact h
theorem trod_blocks {t:TypeId} {v:Value} {d:DataW H} {ps:List MemPlace} (h:DataW.Trod enc P w 0 sp held t v d ps):∀ x ∈ ps,x.block < w.heap.size:=by
 obtain ⟨m,hm⟩:=h
 exact DataW.trod_lt m _ _ _ hm
end
end Go.Proofs.YtohnjbmiaegofaaGreat.Ev
