/- Regions that draw their order: every order does what the evaluator says. -/
import Derived.Test.YtohnjbmiaegofaaGreatEvL
set_option linter.unusedVariables false
set_option linter.unusedSimpArgs false
set_option linter.unusedSectionVars false
namespace Go.Proofs.YtohnjbmiaegofaaGreat.Ev
open Go
theorem nthB_get:∀ (ls:List Bool) (i:Nat) (d:Bool),nthB ls i d = ls.toArray.getD i d
 | [],i,d=>by simp [nthB]
 | b::r,0,d=>by simp [nthB]
 | b::r,i + 1,d=>by
  have:=nthB_get r i d
  simp only [nthB,this]
  simp
theorem nthO_get:∀ (l:List Oper) (i:Nat),nthO l i = l[i]?
 | [],i=>by simp [nthO]
 | o::r,0=>rfl
 | o::r,i + 1=>by simp [nthO,nthO_get r i]
theorem bnd_eq (e:Edge):bnd e = Region.binds .any e:=by
 unfold bnd Region.binds
 cases e.ground <;> rfl
theorem edgesIn_iff {ls:List Bool}:∀ {l:List Edge},edgesIn ls l = true↔∀ e ∈ l,Region.binds .any e = true→ls.toArray.getD e.on false = true
 | []=>by simp [edgesIn]
 | e::r=>by
  simp only [edgesIn,bnd_eq,nthB_get]
  have ih:=edgesIn_iff (ls:=ls) (l:=r)
  cases hb:Region.binds .any e with
  | false=>
   simp only [cond_false,cond_true,ih,List.mem_cons,forall_eq_or_imp,hb]
   simp
  | true=>
   cases hg:ls.toArray.getD e.on false with
   | true=>simp only [cond_true,ih,List.mem_cons,forall_eq_or_imp,hg]; simp
   | false=>simp only [cond_true,cond_false,List.mem_cons,forall_eq_or_imp,hg,hb]; simp
theorem rdy_mem {all:List Bool} {j:Nat}:∀ {ls:List Bool} {ops:List Oper} {i:Nat},j ∈ rdy all ls ops i↔∃ m,j = i + m∧ls[m]? = some false∧∃ o,ops[m]? = some o∧edgesIn all o.after.toList = true
 | [],ops,i=>by simp [rdy]
 | b::ls,[],i=>by simp [rdy]
 | b::ls,o::ops,i=>by
  have ih:=rdy_mem (all:=all) (j:=j) (ls:=ls) (ops:=ops) (i:=i + 1)
  have step:(∃ m,j = i + m∧(b::ls)[m]? = some false∧∃ o',(o::ops)[m]? = some o'∧edgesIn all o'.after.toList = true)↔
    (j = i∧b = false∧edgesIn all o.after.toList = true)∨∃ m,j = i + 1 + m∧ls[m]? = some false∧∃ o',ops[m]? = some o'∧edgesIn all o'.after.toList = true:=by
   constructor
   ·rintro ⟨m,h1,h2,o',h3,h4⟩
    cases m with
    | zero=>
     simp only [List.getElem?_cons_zero,Option.some.injEq] at h2 h3
     subst h2; subst h3
     exact .inl ⟨h1,rfl,h4⟩
    | succ m=>exact .inr ⟨m,by omega,by simpa using h2,o',by simpa using h3,h4⟩
   ·rintro (⟨h1,h2,h3⟩ | ⟨m,h1,h2,o',h3,h4⟩)
    ·exact ⟨0,by omega,by simp [h2],o,rfl,h3⟩
    ·exact ⟨m + 1,by omega,by simpa using h2,o',by simpa using h3,h4⟩
  rw [step, ← ih]
  simp only [rdy]
  cases b with
  | true=>simp
  | false=>
   cases he:edgesIn all o.after.toList with
   | true=>simp
   | false=>simp
theorem rdy_ready {ops:Array Oper} {ls:List Bool} (hl:ls.length = ops.size) {j:Nat}:j ∈ rdy ls ls ops.toList 0↔j ∈ Region.ready .any ops ls.toArray:=by
 rw [rdy_mem,mem_ready]
 constructor
 ·rintro ⟨m,h1,h2,o,h3,h4⟩
  have:j = m:=by omega
  subst this
  refine ⟨by simp [List.getElem?_toArray,Array.getD_eq_getD_getElem?,h2],o,by simpa using h3,fun e he=>edgesIn_iff.1 h4 e (by simpa using he)⟩
 ·rintro ⟨h1,o,h2,h3⟩
  refine ⟨j,by omega, ?_,o,by simpa using h2,edgesIn_iff.2 fun e he=>h3 e (by simpa using he)⟩
  have hj:j < ls.length:=by rw [hl]; exact (Array.getElem?_eq_some_iff.1 h2).1
  simp only [Array.getD_eq_getD_getElem?,List.getElem?_toArray,List.getElem?_eq_getElem hj,Option.getD_some] at h1
  rw [List.getElem?_eq_getElem hj,h1]
theorem ready_nil {ops:Array Oper} {ls:List Bool} (hl:ls.length = ops.size) (h:rdy ls ls ops.toList 0 = []):Region.ready .any ops ls.toArray = []:=by
 cases hr:Region.ready .any ops ls.toArray with
 | nil=>rfl
 | cons x r=>
  have:x ∈ rdy ls ls ops.toList 0:=(rdy_ready hl).2 (by rw [hr]; exact List.mem_cons_self)
  rw [h] at this
  cases this
theorem has_contains (d:Nat) (l:List Nat):l.contains d = has d l:=by
 cases h:has d l with
 | true=>exact List.contains_iff_mem.2 ((has_iff _ _).1 h)
 | false=>
  cases hc:l.contains d with
  | false=>rfl
  | true=>rw [(has_iff _ _).2 (List.contains_iff_mem.1 hc)] at h; cases h
theorem reads_eq (ops:Array Oper) (o:Oper):readsL ops.toList o = o.looksAt ops:=by
 unfold readsL Oper.looksAt
 congr 1
 cases o.guard with
 | none=>rfl
 | some g=>
  obtain ⟨g,w⟩:=g
  simp only [nthO_get,Array.getElem?_toList]
  cases ops[g]? <;> rfl
theorem apart_of {ops:Array Oper} {x y:Oper} (h:apartB ops.toList x y = true):x.apart ops y = true:=by
 unfold apartB at h
 unfold Oper.apart
 simp only [reads_eq, ← has_contains] at h
 simp only [Bool.and_eq_true] at h ⊢
 refine ⟨?_,h.2⟩
 have h1:=h.1
 cases hx:x.dst with
 | none=>rfl
 | some d=>
  rw [hx] at h1
  simp only [Bool.and_eq_true] at h1 ⊢
  refine ⟨h1.1, ?_⟩
  have h2:=h1.2
  cases hy:y.dst with
  | none=>rfl
  | some e=>
   rw [hy] at h2
   simp only [Bool.not_eq_true'] at h2
   simp only [bne_iff_ne,ne_eq,Option.some.injEq]
   intro he
   subst he
   simp at h2
theorem waits_of {o:Oper} {i:Nat} (h:waitsB o i = true):∃ e ∈ o.after,Region.binds .any e = true∧e.on = i:=by
 unfold waitsB at h
 obtain ⟨e,he,hb⟩:=List.any_eq_true.1 h
 simp only [Bool.and_eq_true,bnd_eq] at hb
 exact ⟨e,by simpa using he,hb.1,Nat.eq_of_beq_eq_true hb.2⟩
theorem pairB_get {ops:List Oper} {i:Nat} {x:Oper}:∀ {l:List Oper} {j:Nat},pairB ops i x l j = true→∀ m y,l[m]? = some y→(Nat.beq i (j + m) || waitsB x (j + m) || waitsB y i || apartB ops x y) = true
 | [],j,h,m,y,hm=>by simp at hm
 | z::l,j,h,m,y,hm=>by
  simp only [pairB] at h
  cases hb:(Nat.beq i j || waitsB x j || waitsB z i || apartB ops x z) with
  | false=>rw [hb] at h; cases h
  | true=>
   rw [hb] at h
   cases m with
   | zero=>
    simp only [List.getElem?_cons_zero,Option.some.injEq] at hm
    subst hm
    exact hb
   | succ m=>
    have:=pairB_get (l:=l) h m y (by simpa using hm)
    rw [show j + (m + 1) = j + 1 + m from by omega]
    exact this
theorem pairsB_get {ops:List Oper}:∀ {l:List Oper} {i:Nat},pairsB ops l i = true→∀ m x,l[m]? = some x→notSel x.op = true∧pairB ops (i + m) x ops 0 = true
 | [],i,h,m,x,hm=>by simp at hm
 | z::l,i,h,m,x,hm=>by
  simp only [pairsB] at h
  cases hb:(notSel z.op&&pairB ops i z ops 0) with
  | false=>rw [hb] at h; cases h
  | true=>
   rw [hb] at h
   cases m with
   | zero=>
    simp only [List.getElem?_cons_zero,Option.some.injEq] at hm
    subst hm
    simpa using hb
   | succ m=>
    have:=pairsB_get (l:=l) h m x (by simpa using hm)
    rw [show i + (m + 1) = i + 1 + m from by omega]
    exact this
theorem free_of {ops:Array Oper} (h:pairsB ops.toList ops.toList 0 = true) {listed:Array Bool} {i:Nat} {oi:Oper} (hi:ops[i]? = some oi) (hr:i ∈ Region.ready .any ops listed) (j:Nat) (oj:Oper)
  (hj:ops[j]? = some oj) (hne:j ≠ i) (hun:listed.getD j true = false) (hno:∀ e ∈ oj.after,Region.binds .any e = true→e.on ≠ i):oi.apart ops oj = true:=by
 have h1:=(pairsB_get h i oi (by simpa using hi)).2
 have h2:=pairB_get h1 j oj (by simpa using hj)
 simp only [Nat.zero_add,Bool.or_eq_true] at h2
 rcases h2 with ((h2 | h2) | h2) | h2
 ·exact absurd (Nat.eq_of_beq_eq_true h2).symm hne
 ·obtain ⟨e,he,hb,hon⟩:=waits_of h2
  obtain ⟨_,o',ho',hall⟩:=mem_ready.1 hr
  rw [hi] at ho'
  cases ho'
  have h3:=hall e he hb
  rw [hon] at h3
  rcases Nat.lt_or_ge j listed.size with h' | h'
  ·simp [h'] at hun h3; rw [hun] at h3; cases h3
  ·simp [Array.getElem?_eq_none h'] at h3
 ·obtain ⟨e,he,hb,hon⟩:=waits_of h2
  exact absurd hon (hno e he hb)
 ·exact apart_of h2
theorem noSel_of {ops:Array Oper} (h:pairsB ops.toList ops.toList 0 = true) (j:Nat) (o:Oper) (cs:Array SelectCase) (b:Bool) (ho:ops[j]? = some o):o.op ≠ .select cs b:=by
 intro e
 have:=(pairsB_get h j o (by simpa using ho)).1
 rw [e] at this
 cases this
def Sx (c:Cx) (w:World):Prop:=∀ b,b < c.w0.heap.size→¬ c.I b→w.heap[b]? = c.w0.heap[b]?
theorem Rel.sx {c:Cx} {st:St} {a:Act} {w:World} (h:Rel c st a w):Sx c w:=by
 obtain ⟨R,μ,h⟩:=h
 exact h.mem.fr.block
structure Sub (c' c:Cx):Prop where
 nt:c'.nt = c.nt
 rel:∀ st a w,Rel c' st a w→Rel c st a w
 sx:∀ w,Sx c' w→Sx c w
theorem Sub.refl (c:Cx):Sub c c:=⟨rfl,fun _ _ _ h=>h,fun _ h=>h⟩
theorem Sub.trans {a b c:Cx} (h:Sub a b) (k:Sub b c):Sub a c:=⟨h.nt.trans k.nt,fun _ _ _ x=>k.rel _ _ _ (h.rel _ _ _ x),fun _ x=>k.sx _ (h.sx _ x)⟩
def nowCx (c:Cx) (st:St) (w:World) (R:Nat→Prop) (μ:Nat→Option Value):Cx:=⟨w,fun b=>∃ i,lb μ (fun i=>look i st.hp) i b,R,μ,fun i=>∃ e t xs,look i st.hp = some (.vec e t xs false),c.nt,c.n⟩
theorem now_rel {c:Cx} {st:St} {a:Act} {w:World} {R:Nat→Prop} {μ:Nat→Option Value} (h:RelB c st a w R μ):RelB (nowCx c st w R μ) st a w R μ:=
 ⟨h.env,⟨h.mem.heap,h.mem.dom,⟨rfl,rfl,rfl,Nat.le_refl _,fun _ _ _=>rfl⟩,fun _ h=>h,fun _ h _=>.inl h,fun i b h _=>⟨i,h⟩,fun _ _ _ h _=>h,h.mem.n,fun i e t xs hi=>⟨(h.mem.stay i e t xs hi).1,⟨e,t,xs,hi⟩,rfl⟩⟩,h.size,h.defs⟩
theorem now_sub {c:Cx} {st:St} {a:Act} {w:World} {R:Nat→Prop} {μ:Nat→Option Value} (h:RelB c st a w R μ):Sub (nowCx c st w R μ) c:=by
 refine ⟨rfl, ?_, ?_⟩
 ·rintro st2 a2 w2 ⟨R2,μ2,k⟩
  have f:=h.mem.fr
  have g:=k.mem.fr
  have g1:w.heap.size≤w2.heap.size:=g.size
  refine ⟨R2,μ2,⟨k.env,⟨k.mem.heap,k.mem.dom,⟨g.os.trans f.os,g.tape.trans f.tape,g.output.trans f.output,Nat.le_trans f.size g1,fun b hb hn=> ?_⟩,fun b hb=>k.mem.rlo b (h.mem.rlo b hb),fun b hb hl=> ?_,fun i b hi hl=> ?_,fun i u hi hu hs=>k.mem.pins i u hi (h.mem.pins i u hi hu hs) hs,k.mem.n,fun i e t xs hi=> ?_⟩,k.size,k.defs⟩⟩
  ·refine (g.block b (Nat.lt_of_lt_of_le hb f.size) ?_).trans (f.block b hb hn)
   rintro ⟨i,hi⟩
   exact hn (h.mem.own i b hi hb)
  ·rcases k.mem.rhi b hb (Nat.lt_of_lt_of_le hl f.size) with hr | ⟨i,hi⟩
   ·exact h.mem.rhi b hr hl
   ·exact .inr (h.mem.own i b hi hl)
  ·obtain ⟨j,hj⟩:=k.mem.own i b hi (Nat.lt_of_lt_of_le hl f.size)
   exact h.mem.own j b hj hl
  ·obtain ⟨h1,⟨e',t',xs',h2⟩,h3⟩:=k.mem.stay i e t xs hi
   have h4:=h.mem.stay i e' t' xs' h2
   exact ⟨h1,h4.2.1,h3.trans h4.2.2⟩
 ·intro w2 hs b hb hn
  have f:=h.mem.fr
  refine (hs b (Nat.lt_of_lt_of_le hb f.size) ?_).trans (f.block b hb hn)
  rintro ⟨i,hi⟩
  exact hn (h.mem.own i b hi hb)
theorem plain_cr {R R':Nat→Prop} {w w':World} {μ μ':Nat→Option Value} (hk:Keeps R w w') (hr:∀ b,R b→R' b) {x:SC} {u:Value} (hx:plain x = true) (h:cr R w μ x u):cr R' w' μ' x u:=by
 cases x with
 | sl t xs=>exact rv_keep hk hr (t:=.sl _) h
 | el t x off=>
  obtain ⟨b,o,us,rfl,hb,hx,ha⟩:=h
  exact ⟨b,o,us,rfl,hr b hb,rv_keep hk hr hx,ha.keep hk hb⟩
 | own _=>cases hx
 | sub _ _ _ _=>cases hx
 | ptr _ _=>cases hx
 | vel _ _ _ _=>cases hx
 | clo _ _=>cases hx
 | mp _=>cases hx
 | _=>exact h
theorem plain_all {R R':Nat→Prop} {w w':World} {μ μ':Nat→Option Value} (hk:Keeps R w w') (hr:∀ b,R b→R' b) {cs:List SC} {us:List Value} (h:All2 (cr R w μ) cs us):cs.all plain = true→All2 (cr R' w' μ') cs us:=by
 induction h with
 | nil=>intro _; exact .nil
 | cons hp _ ih=>
  intro hx
  simp only [List.all_cons,Bool.and_eq_true] at hx
  exact .cons (plain_cr hk hr hx.1 hp) (ih hx.2)
def crT (c:Cx) (x:SC) (v:Value):Prop:=match x with
 | .own j=>(∃ A n cc,v = .slice A n cc)∧(c.p0 j→c.μ0 j = some v)
 | .ptr j off=>j < c.n∧∃ b,c.μ0 j = some (.pointer (some ⟨b,0,none⟩))∧v = .pointer (some ⟨b,off,none⟩)
 | x=>plain x = true∧cr c.R0 c.w0 c.μ0 x v
theorem crT_plain {c:Cx} {x:SC} {v:Value} (hp:plain x = true) (h:cr c.R0 c.w0 c.μ0 x v):crT c x v:=by
 cases x <;> first | exact ⟨hp,h⟩ | cases hp
theorem All2.imp {α β:Type} {p q:α→β→Prop} {l:List α} {m:List β} (h:All2 p l m) (hq:∀ a b,a ∈ l→p a b→q a b):All2 q l m:=by
 induction h with
 | nil=>exact .nil
 | cons hp _ ih=>exact .cons (hq _ _ (by simp) hp) (ih fun a b ha=>hq a b (by simp [ha]))
theorem ownsOk_mem {hp:List (Nat×Ob)} {j:Nat}:∀ {l:List SC},ownsOk hp l = true→.own j ∈ l→∃ e t xs,look j hp = some (.vec e t xs false)
 | [],_,hm=>by cases hm
 | x::l,h,hm=>by
  cases x with
  | own i=>
   unfold ownsOk at h
   split at h
   ·rename_i e t xs hl
    rcases List.mem_cons.1 hm with hm | hm
    ·cases hm; exact ⟨e,t,xs,hl⟩
    ·exact ownsOk_mem h hm
   ·cases h
  | _=>
   rcases List.mem_cons.1 hm with hm | hm
   ·cases hm
   ·exact ownsOk_mem (l:=l) h hm
def Tok (c:Cx) (ts:List (Nat×Ob)):Prop:=∀ i o,look i ts = some o→∃ e cs b arr,o = .cells e cs∧
 b < c.w0.heap.size∧¬ c.I b∧¬ c.R0 b∧c.w0.heap[b]? = some (.cells arr e (0,0))∧All2 (crT c) cs arr.toList∧(∀ u ∈ arr.toList,u.oneCell' = true)∧c.μ0 i = some (.pointer (some ⟨b,0,none⟩))∧i < c.n
def Good (c:Cx):Prop:=∀ b,c.R0 b→b < c.w0.heap.size∧¬ c.I b
theorem RelB.keeps0 {c:Cx} {st:St} {a:Act} {w:World} {R:Nat→Prop} {μ:Nat→Option Value} (h:RelB c st a w R μ) (hI:Good c):Keeps c.R0 c.w0 w:=
 ⟨h.mem.fr.size,fun b hb hl=>h.mem.fr.block b hl (hI b hb).2⟩
theorem now_good {c:Cx} {st:St} {a:Act} {w:World} {R:Nat→Prop} {μ:Nat→Option Value} (h:RelB c st a w R μ):Good (nowCx c st w R μ):=
 fun b hb=>⟨h.mem.heap.ex b hb,fun ⟨i,hi⟩=>h.mem.heap.out i b hi hb⟩
theorem crT_now {c:Cx} {st:St} {a:Act} {w:World} {R:Nat→Prop} {μ:Nat→Option Value} (h:RelB c st a w R μ) (hg:Good c) {cs:List SC} {us:List Value} (hall:All2 (crT c) cs us) (ho:ownsOk st.hp cs = true):All2 (cr R w μ) cs us:=by
 refine hall.imp fun x v hx hc=> ?_
 cases x with
 | own j=>
  obtain ⟨e,t,xs,hl⟩:=ownsOk_mem ho hx
  obtain ⟨_,h2,h3⟩:=h.mem.stay j e t xs hl
  exact ⟨h3.trans (hc.2 h2),hc.1⟩
 | ptr j off=>
  obtain ⟨hj,b,h1,h2⟩:=hc
  exact ⟨b,h.mem.pins j _ hj h1 (fun A n cc e=>by cases e),h2⟩
 | _=>exact plain_cr (h.keeps0 hg) h.mem.rlo hc.1 hc.2
theorem now_tok {c:Cx} {st:St} {a:Act} {w:World} {R:Nat→Prop} {μ:Nat→Option Value} (h:RelB c st a w R μ) (hg:Good c) {ts:List (Nat×Ob)} (hT:Tok c ts):Tok (nowCx c st w R μ) ts:=by
 intro i o ho
 obtain ⟨e,cs,b,arr,rfl,h2,h3,h4,h5,h6,h7,h8,h9⟩:=hT i o ho
 refine ⟨e,cs,b,arr,rfl,Nat.lt_of_lt_of_le h2 h.mem.fr.size, ?_, ?_,(h.mem.fr.block b h2 h3).trans h5,h6.imp fun x v _ hc=> ?_,h7,h.mem.pins i _ h9 h8 (fun A n cc e=>by cases e),h9⟩
 rotate_left 2
 ·cases x with
  | own j=>
   refine ⟨hc.1,fun ⟨e,t,xs,hl⟩=> ?_⟩
   obtain ⟨_,h2,h3⟩:=h.mem.stay j e t xs hl
   exact h3.trans (hc.2 h2)
  | ptr j off=>
   obtain ⟨hj,b,h1,h2⟩:=hc
   exact ⟨hj,b,h.mem.pins j _ hj h1 (fun A n cc e=>by cases e),h2⟩
  | _=>exact ⟨hc.1,plain_cr (h.keeps0 hg) h.mem.rlo hc.1 hc.2⟩
 ·rintro ⟨j,hj⟩
  exact h3 (h.mem.own j b hj h2)
 ·intro hr
  rcases h.mem.rhi b hr h2 with hr | hr
  ·exact h4 hr
  ·exact h3 hr
section
variable {P:Program} {tab:TypeId→Option TI} {G:Nat→Option Spec} (hP:TabOK P tab) (hG:GOK P G)
def PV (P:Program) (s:Sem Next):Prop:=Pu P s∧∀ w n w1,s.run P w = .ok n w1→∃ u,n = .value u
theorem pv_pure (u:Value):PV P (pure (.value u):Sem Next):=by
 refine ⟨pu_pure _,fun w n w1 h=> ?_⟩
 simp only [Sem.run_pure,Result.ok.injEq] at h
 exact ⟨u,h.1.symm⟩
theorem PV.bind {α:Type} {s:Sem α} {f:α→Sem Next} (h:Pu P s) (hf:∀ x,PV P (f x)):PV P (s >>= f):=by
 refine ⟨h.bind fun x=>(hf x).1,fun w n w1 hr=> ?_⟩
 rw [Sem.run_bind] at hr
 cases hs:s.run P w with
 | halt x w2=>rw [hs] at hr; cases hr
 | ok x w2=>rw [hs] at hr; exact (hf x).2 _ _ _ hr
theorem pv_val {s:Sem Value} (h:Pu P s):PV P (do pure (.value (← s)):Sem Next):=PV.bind h fun x=>pv_pure x
include hP hG
theorem pure_case {o:Oper} {c:Cx} {st:St} {a:Act} {w:World} {k:SV→St→Option Ans} {r:Ans} (h:evalOp tab G o st k = some r) (hr:Rel c st a w) (hd:∀ e,o.dst = some e→e < c.nt) (hpv:PV P (execOp a.eval o)):
  ∃ u v st',k v st' = some r∧Rel c (st'.put o.dst v) (a.put o.dst u) w∧∀ w',(execOp a.eval o).run P w' = .ok (.value u) w':=by
 have hw:=op_ok hP hG (Kp:=fun a' w'=>∃ v st',k v st' = some r∧Rel c (st'.put o.dst v) a' w') (Q:=fun _ _ _=>False) h hr (by
  intro v st' u w2 hk hrv
  exact ⟨v,st',hk,hrv.put o.dst hd⟩)
 unfold Oper.wp at hw
 cases hrun:(execOp a.eval o).run P w with
 | halt x w1=>
  rw [hrun] at hw
  cases x <;> exact hw.elim
 | ok n w1=>
  rw [hrun] at hw
  obtain ⟨u,rfl⟩:=hpv.2 _ _ _ hrun
  obtain ⟨rfl,hall⟩:=hpv.1 _ _ _ hrun
  obtain ⟨v,st',h1,h2⟩:=hw
  exact ⟨u,v,st',h1,h2,hall⟩
theorem run_load_all {t:TypeId} {ti:TI} (ht:TIok P t ti) {R:Nat→Prop} {w:World} {μ:Nat→Option Value} {cs:List SC} {us:List Value} (h:All2 (cr R w μ) cs us) {b o off:Nat} {v:SV} (hp:Ev.part ti cs off = some v):
  ∃ u,vr R w μ v u∧∀ w',At w' b o us→(loadVar t ⟨b,o + off,none⟩).run P w' = .ok u w':=by
 rcases part_ok h hp with ⟨h1,h2,h3⟩ | ⟨h1,u,h2,h3⟩
 ·refine ⟨_,h3,fun w' ha=> ?_⟩
  have hl:=run_loadCells_list (P:=P) w' ⟨b,o + off,none⟩ ((us.drop off).take ti.size) (fun j v hj=>by rw [add_at]; exact ((ha.drop off).take ti.size) j v hj)
  have hlen:((us.drop off).take ti.size).length = ti.size:=by simp; omega
  rw [hlen] at hl
  simp only [loadVar,Sem.run_bind,ht.ragg,h1,Result.andThen_ok,if_true,ht.rsize,hl,Sem.run_pure]
 ·refine ⟨u,h3,fun w' ha=> ?_⟩
  have hc:=ha off u h2
  simp only [loadVar,Sem.run_bind,ht.ragg,h1,Result.andThen_ok,Bool.false_eq_true,if_false,run_load,hc]
theorem lenArg_ok {c:Cx} {st:St} {a:Act} {w:World} {R:Nat→Prop} {μ:Nat→Option Value} (h:RelB c st a w R μ) {x:Operand} (hl:lenArg (opd st x) = true):(∃ A n c,a.eval x = .slice A n c)∨∃ s,a.eval x = .string s:=by
 cases ho:opd st x with
 | none=>rw [ho] at hl; cases hl
 | some v=>
  have hv:=opd_vr h ho
  rw [ho] at hl
  cases v with
  | c y=>
   cases y with
   | sl t xs=>obtain ⟨A,cc,e,_⟩:=slv_form.1 hv; exact .inl ⟨_,_,_,e⟩
   | own i=>obtain ⟨_,A,n,cc,e⟩:=hv; exact .inl ⟨_,_,_,e⟩
   | sub i a b d=>obtain ⟨A,cc,e,_⟩:=hv; exact .inl ⟨_,_,_,e⟩
   | str s=>exact .inr ⟨s,hv⟩
   | _=>cases hl
  | _=>cases hl
theorem quiet_ok {o:Oper} {c:Cx} {st:St} {a:Act} {w:World} {ts:List (Nat×Ob)} {k:SV→St→Option Ans} {r:Ans} (hq:quiet tab G ts o st k = some (some r)) (hr:Rel c st a w) (hd:∀ e,o.dst = some e→e < c.nt) (hT:Tok c ts) (hg:Good c):
  ∃ c' u v st',Sub c' c∧Good c'∧Tok c' ts∧k v st' = some r∧Rel c' (st'.put o.dst v) (a.put o.dst u) w∧∀ w',Sx c' w'→(execOp a.eval o).run P w' = .ok (.value u) w':=by
 have pure_:evalOp tab G o st k = some r→PV P (execOp a.eval o)→∃ c' u v st',Sub c' c∧Good c'∧Tok c' ts∧k v st' = some r∧Rel c' (st'.put o.dst v) (a.put o.dst u) w∧∀ w',Sx c' w'→(execOp a.eval o).run P w' = .ok (.value u) w':=by
  intro h hpv
  obtain ⟨u,v,st',h1,h2,h3⟩:=pure_case hP hG h hr hd hpv
  exact ⟨c,u,v,st',Sub.refl c,hg,hT,h1,h2,fun w' _=>h3 w'⟩
 obtain ⟨dst,op,ty,pos,after,guard⟩:=o
 unfold quiet at hq
 cases op with
 | load t x=>
  simp only at hq
  obtain ⟨R,μ,hr⟩:=hr
  split at hq
  ·rename_i ti ty' y off ht hx
   have ht:=hP _ _ ht
   obtain ⟨b,o,us,he,hb,hrv,hat⟩:=opd_vr hr hx
   simp only [Option.some.injEq] at hq
   split at hq
   ·rename_i v hp
    obtain ⟨u,hv,hu⟩:=run_load_all hP hG (b:=b) (o:=o) ht (toC_rv (μ:=μ) hrv) hp
    refine ⟨nowCx c st w R μ,u,v,st,now_sub hr,now_good hr,now_tok hr hg hT,hq,RelV.put ⟨R,μ,now_rel hr,hv⟩ dst hd,fun w' hs=> ?_⟩
    have hbl:=now_good hr b hb
    have hat':At w' b o us:=fun j v hj=>by
     rw [World.cell?_of_block (hs b hbl.1 hbl.2)]
     exact hat j v hj
    simp [execOp,Instr.loadAt,he,Instr.sureAddr,hu w' hat']
   ·cases hq
  ·rename_i ti i off ht hx
   have ht:=hP _ _ ht
   obtain ⟨b,hm,he⟩:=opd_vr hr hx
   split at hq
   ·rename_i e cs hl
    simp only [Option.some.injEq] at hq
    split at hq
    ·rename_i v hp
     obtain ⟨e',cs',b',arr,ho,h2,h3,h4,h5,h6,h7,h8,h9⟩:=hT i _ hl
     cases ho
     obtain ⟨hown,hq⟩:=cond_some hP hq
     have hm':=hr.mem.pins i _ h9 h8 (fun A n cc e=>by cases e)
     rw [hm] at hm'
     cases hm'
     obtain ⟨u,hv,hu⟩:=run_load_all hP hG (b:=b) (o:=0) ht (crT_now hr hg h6 hown:All2 (cr R w μ) cs arr.toList) hp
     refine ⟨c,u,v,st,Sub.refl c,hg,hT,hq,RelV.put ⟨R,μ,hr,hv⟩ dst hd,fun w' hs=> ?_⟩
     have hat:At w' b 0 arr.toList:=fun j v hj=>by
      rw [Nat.zero_add]
      have:=cell_of_row w' b j arr e (0,0) ((hs b h2 h3).trans h5)
      rw [this, ← Array.getElem?_toList]
      exact hj
     have:=hu w' hat
     rw [Nat.zero_add] at this
     simp [execOp,Instr.loadAt,he,Instr.sureAddr,this]
    ·cases hq
   ·cases hq
  ·cases hq
 | move x=>
  simp only at hq
  simp only [Option.some.injEq] at hq
  exact pure_ hq (pv_pure _)
 | assign x=>
  simp only at hq
  simp only [Option.some.injEq] at hq
  exact pure_ hq (pv_pure _)
 | pick x y z=>
  simp only at hq
  simp only [Option.some.injEq] at hq
  exact pure_ hq (PV.bind (pu_asBool _) fun _=>pv_pure _)
 | unOp op' xt x=>
  simp only at hq
  simp only [Option.some.injEq] at hq
  exact pure_ hq (pv_val (pu_unary _ _))
 | nilCheck x=>
  simp only at hq
  obtain ⟨R,μ,hr'⟩:=hr
  split at hq
  ·rename_i hx
   simp only [Option.some.injEq] at hq
   obtain ⟨b,_,he⟩:=opd_vr hr' hx
   refine pure_ hq ?_
   simp only [execOp,he]
   exact pv_pure _
  ·rename_i hx
   simp only [Option.some.injEq] at hq
   obtain ⟨b,o,us,he,_⟩:=opd_vr hr' hx
   refine pure_ hq ?_
   simp only [execOp,he]
   exact pv_pure _
  ·rename_i hx
   simp only [Option.some.injEq] at hq
   obtain ⟨b,m,cc,_,_,he⟩:=opd_vr hr' hx
   refine pure_ hq ?_
   simp only [execOp,he]
   exact pv_pure _
  ·cases hq
 | fieldAddr s x f=>
  simp only at hq
  simp only [Option.some.injEq] at hq
  refine pure_ hq (pv_val ?_)
  simp only [evalOp,e_fieldAddr] at hq
  split at hq
  ·rename_i fs _ _ _ _ _ hs
   split at hq
   ·rename_i fl hf
    split at hq
    ·rename_i fi hfi
     cases hb:Nat.blt 0 fi.size with
     | false=>rw [hb] at hq; cases hq
     | true=>exact pu_fieldAt s _ f (fun w=>run_underlying (hP _ _ hs).und w) hf (fun w=>(hP _ _ hfi).rsize w) (Nat.le_of_ble_eq_true hb)
    ·cases hq
   ·cases hq
  ·cases hq
 | field s x f=>
  simp only at hq
  simp only [Option.some.injEq] at hq
  exact pure_ hq (pv_val (pu_field _ _ _))
 | indexAddr t x ix=>
  simp only at hq
  simp only [Option.some.injEq] at hq
  exact pure_ hq (pv_val (pu_indexAt _ _ _))
 | index t x ix=>
  simp only at hq
  simp only [Option.some.injEq] at hq
  exact pure_ hq (pv_val (pu_index _ _ _))
 | extract x i=>
  simp only at hq
  simp only [Option.some.injEq] at hq
  exact pure_ hq (pv_val (pu_extract _ _))
 | slice t x lo hi mx=>
  simp only at hq
  simp only [Option.some.injEq] at hq
  exact pure_ hq (pv_val (pu_sliceAt _ _ _ _ _))
 | binOp op' xt x y yt=>
  simp only at hq
  obtain ⟨R,μ,hr'⟩:=hr
  split at hq
  ·rename_i hx hy
   simp only [Option.some.injEq] at hq
   have h1:=opd_vr hr' hx
   have h2:=opd_vr hr' hy
   have hor:(∃ k n k' m,a.eval x = Value.int k n∧a.eval y = Value.int k' m)∨∃ p q,a.eval x = Value.bool p∧a.eval y = Value.bool q:=.inl ⟨_,_,_,_,h1,h2⟩
   exact pure_ hq (pv_val (Pu.bind (pu_guard _ _ _ _ _ _ hor) fun _=>pu_bin _ _ _ _ hor))
  ·rename_i hx hy
   simp only [Option.some.injEq] at hq
   have h1:=opd_vr hr' hx
   have h2:=opd_vr hr' hy
   have hor:(∃ k n k' m,a.eval x = Value.int k n∧a.eval y = Value.int k' m)∨∃ p q,a.eval x = Value.bool p∧a.eval y = Value.bool q:=.inr ⟨_,_,h1,h2⟩
   exact pure_ hq (pv_val (Pu.bind (pu_guard _ _ _ _ _ _ hor) fun _=>pu_bin _ _ _ _ hor))
  ·cases hq
 | convert s d x=>
  simp only at hq
  obtain ⟨R,μ,hr'⟩:=hr
  split at hq
  ·rename_i kd _ _ _ _ _ kx n ht hx
   simp only [Option.some.injEq] at hq
   have h1:a.eval _ = .int kx n:=opd_vr hr' hx
   refine pure_ hq (pv_val ?_)
   rw [h1]
   exact pu_convInt _ _ fun w=>run_underlying (hP _ _ ht).und w
  ·cases hq
 | call cl=>
  simp only at hq
  obtain ⟨R,μ,hr'⟩:=hr
  split at hq
  ·rename_i x hc hx
   cases hb:lenArg (opd st x) with
   | false=>rw [hb] at hq; cases hq
   | true=>
    rw [hb] at hq
    simp only [cond_true,Option.some.injEq] at hq
    refine pure_ hq ?_
    have hl:=lenArg_ok hP hG hr' hb
    have ha:cl.args = #[x]:=by
     apply Array.toList_inj.1
     simpa using hx
    have e:execOp a.eval ⟨dst,.call cl,ty,pos,after,guard⟩ = (do pure (.value (← Builtin.len_ cl.argTypes ty #[a.eval x])):Sem Next):=by
     have e2:Array.map a.eval #[x] = #[a.eval x]:=by simp
     simp only [execOp,resolve,hc,ha,e2]
     rfl
    rw [e]
    exact pv_val (pu_len _ _ _ hl)
  ·cases hq
 | _=>cases hq
theorem wpAnyH_S {ops:Array Oper} {Q:Exit→Act→World→Prop} {S S':World→Prop} (hS:∀ w,S' w→S w):∀ (n:Nat) {l:Array Bool} {a:Act} {w:World},wpAnyH P .any ops Q S' n l a w→wpAnyH P .any ops Q S n l a w
 | 0,l,a,w,h=>h
 | n + 1,l,a,w,h=>⟨h.1,fun i hi=>wpOp_mono (fun a' w' h'=>⟨hS w' h'.1,wpAnyH_S hS n h'.2⟩) (h.2 i hi)⟩
theorem both_some {x y:Option Ans} {r:Ans} (h:both x y = some r):x = some r∧y = some r:=by
 unfold both at h
 cases x with
 | none=>cases h
 | some u=>cases u; cases r; exact ⟨rfl,h⟩
theorem set_arr (ls:List Bool) (i:Nat):ls.toArray.setIfInBounds i true = (ls.set i true).toArray:=by simp
theorem bindO {ops:Array Oper} {j:Nat}:(nthO ops.toList j).bind (·.dst) = (ops[j]?).bind (·.dst):=by
 rw [nthO_get,Array.getElem?_toList]
theorem runOne_ok {ops:Array Oper} {Q:Exit→Act→World→Prop} {o:Oper} {i:Nat} {c:Cx} {st:St} {a:Act} {w:World} {k:St→Option Ans} {r:Ans} {K:Act→World→Prop} (hi:ops[i]? = some o) (hd:∀ e,o.dst = some e→e < c.nt)
  (h:runOne tab G ops.toList o st k = some r) (hr:Rel c st a w) (hK:∀ st a w,k st = some r→Rel c st a w→K a w):wpOp P ops Q i K a w:=by
 have run:evalOp tab G o st (fun v st=>k (st.put o.dst v)) = some r→o.wp P a w K Q:=fun h=>
  op_ok hP hG h hr fun v st' u w' h1 h2=>hK _ _ _ h1 (h2.put o.dst hd)
 unfold Go.wpOp
 simp only [hi]
 unfold runOne at h
 cases hg:o.guard with
 | none=>
  rw [hg] at h
  rw [if_pos (by simp [Region.wanted,hg])]
  exact .inl (run h)
 | some jw=>
  obtain ⟨j,want⟩:=jw
  rw [hg] at h
  simp only [bindO hP hG] at h
  split at h
  ·rename_i s hs
   split at h
   ·rename_i p hp
    have hy:=yielded_of hP hG hs hr hp
    cases p with
    | true=>
     simp only at h
     cases want with
     | true=>
      rw [if_pos (by simp [Region.wanted,hg,hy])]
      exact .inl (run h)
     | false=>
      rw [if_neg (by simp [Region.wanted,hg,hy])]
      exact hK _ _ _ h (skip_ok hP hG hr o.dst hd)
    | false=>
     simp only at h
     cases want with
     | true=>
      rw [if_neg (by simp [Region.wanted,hg,hy])]
      exact hK _ _ _ h (skip_ok hP hG hr o.dst hd)
     | false=>
      rw [if_pos (by simp [Region.wanted,hg,hy])]
      exact .inl (run h)
   ·rename_i hp
    have hy:=yielded_und hP hG hs hr hp
    rw [if_neg (by simp [Region.wanted,hg,hy])]
    exact hK _ _ _ h (skip_ok hP hG hr o.dst hd)
   ·cases h
  ·cases h
theorem branch_all {ops:List Oper} {ls:List Bool} {self:List Bool→St→Option Ans} {st:St} {r:Ans}:∀ {l:List Nat},branch tab G ops ls self st l = some r→∀ i ∈ l,∃ o,nthO ops i = some o∧runOne tab G ops o st (fun st=>self (ls.set i true) st) = some r
 | [],h,i,hi=>by cases hi
 | j::l,h,i,hi=>by
  simp only [branch] at h
  split at h
  ·cases h
  ·rename_i o ho
   cases l with
   | nil=>
    simp only [List.mem_singleton] at hi
    subst hi
    exact ⟨o,ho,h⟩
   | cons y l=>
    obtain ⟨h1,h2⟩:=both_some hP hG h
    rcases List.mem_cons.1 hi with rfl | hi
    ·exact ⟨o,ho,h1⟩
    ·exact branch_all h2 i hi
theorem any_ok {ops:Array Oper} (hpr:pairsB ops.toList ops.toList 0 = true) {nt:Nat} (hfit:opsFit nt ops.toList = true) {k:St→Option Ans} {r:Ans} {Q:Exit→Act→World→Prop} (hQ:∀ x a w,¬ Q (.panic x) a w) {ts:List (Nat×Ob)}:
  ∀ (n:Nat) {ls:List Bool} {c:Cx} {st:St} {a:Act} {w:World},ls.length = ops.size→c.nt = nt→Good c→Tok c ts→evalAny tab G ops.toList ts k n ls st = some r→Rel c st a w→
   (∀ st a w,k st = some r→Rel c st a w→Q .normal a w)→wpAnyH P .any ops Q (Sx c) n ls.toArray a w
 | 0,ls,c,st,a,w,hl,hnt,hg,hT,h,hr,hk=>by
  simp only [evalAny,forceB_eq] at h
  split at h
  ·rename_i h0
   exact ⟨ready_nil hl h0,hk _ _ _ h hr⟩
  ·cases h
 | n + 1,ls,c,st,a,w,hl,hnt,hg,hT,h,hr,hk=>by
  simp only [evalAny,forceB_eq] at h
  split at h
  ·rename_i h0
   exact wpAnyH_done (ready_nil hl h0) (hk _ _ _ h hr) _
  ·rename_i i0 r0 h0
   have hrd:∀ i ∈ i0::r0,i ∈ Region.ready .any ops ls.toArray:=fun i hi=>(rdy_ready hl).1 (by rw [h0]; exact hi)
   have hrd':∀ i ∈ Region.ready .any ops ls.toArray,i ∈ i0::r0:=fun i hi=>by rw [← h0]; exact (rdy_ready hl).2 hi
   generalize hall:i0::r0 = all at h hrd hrd'
   have hne:all ≠ []:=by rw [← hall]; simp
   have hfi:∀ (i:Nat) (o:Oper),ops[i]? = some o→∀ e,o.dst = some e→e < c.nt:=fun i o ho=>by
    rw [hnt]
    exact opsFit_iff hP hG hfit o (by rw [← Array.getElem?_toList] at ho; exact List.mem_of_getElem? ho)
   have take:∀ {i:Nat} {o:Oper} {st:St} {x:Option Ans},i ∈ all→ops[i]? = some o→Region.wanted o (yielded ops a.tmps) = true→Rel c st a w→
     quiet tab G ts o st (fun v st=>evalAny tab G ops.toList ts k n (ls.set i true) (st.put o.dst v)) = some x→x = some r→wpAnyH P .any ops Q (Sx c) (n + 1) ls.toArray a w:=by
    intro i o st x hi ho hw hr hq hx
    subst hx
    obtain ⟨c',u,v,st',s1,s2,s3,s4,s5,s6⟩:=quiet_ok hP hG hq hr (hfi i o ho) hT hg
    refine wpAnyH_S hP hG s1.sx _ (wpAnyH_first ho (fun j o cs b=>noSel_of hpr j o cs b) (fun c a w hx=>absurd hx (hQ _ _ _)) n _ _ _ (fun j oj=>free_of hpr ho (hrd i hi) j oj) (hrd i hi) (.inl ⟨hw,s6⟩) s5.sx ?_)
    rw [set_arr hP hG]
    exact any_ok hpr hfit hQ n (by simpa using hl) (s1.nt.trans hnt) s2 s3 s4 s5 fun st a w h1 h2=>hk st a w h1 (s1.rel _ _ _ h2)
   have pass:∀ {i:Nat} {o:Oper} {st:St},i ∈ all→ops[i]? = some o→Region.wanted o (yielded ops a.tmps) = false→Rel c st a w→
     evalAny tab G ops.toList ts k n (ls.set i true) (st.put o.dst (.c .und)) = some r→wpAnyH P .any ops Q (Sx c) (n + 1) ls.toArray a w:=by
    intro i o st hi ho hw hr hq
    have h5:=skip_ok hP hG hr o.dst (hfi i o ho)
    refine wpAnyH_first ho (fun j o cs b=>noSel_of hpr j o cs b) (fun c a w hx=>absurd hx (hQ _ _ _)) n _ _ _ (fun j oj=>free_of hpr ho (hrd i hi) j oj) (hrd i hi) (.inr ⟨hw,rfl⟩) h5.sx ?_
    rw [set_arr hP hG]
    exact any_ok hpr hfit hQ n (by simpa using hl) hnt hg hT hq h5 hk
   have pick:∀ {l:List Nat} {st:St},(∀ i ∈ l,i ∈ all)→pickQ tab G ops.toList ts ls all (evalAny tab G ops.toList ts k n) l st = some r→Rel c st a w→wpAnyH P .any ops Q (Sx c) (n + 1) ls.toArray a w:=by
    intro l
    induction l with
    | nil=>
     intro st _ h hr
     simp only [pickQ] at h
     have hb:=branch_all hP hG h
     refine ⟨fun h1=> ?_,fun i hi=> ?_⟩
     ·cases hx:all with
      | nil=>exact absurd hx hne
      | cons x y=>
       have:=hrd x (by rw [hx]; exact List.mem_cons_self)
       rw [h1] at this
       cases this
     ·obtain ⟨o,ho,h2⟩:=hb i (hrd' i hi)
      rw [nthO_get,Array.getElem?_toList] at ho
      refine runOne_ok hP hG ho (hfi i o ho) h2 hr fun st a w h3 h4=>⟨h4.sx, ?_⟩
      rw [set_arr hP hG]
      exact any_ok hpr hfit hQ n (by simpa using hl) hnt hg hT h3 h4 hk
    | cons i l ih=>
     intro st hsub h hr
     have hi:=hsub i List.mem_cons_self
     have ih:=fun {st:St}=>@ih st (fun j hj=>hsub j (List.mem_cons_of_mem _ hj))
     simp only [pickQ] at h
     split at h
     ·cases h
     ·rename_i o ho
      rw [nthO_get,Array.getElem?_toList] at ho
      split at h
      ·rename_i hgd
       split at h
       ·rename_i x hq
        exact take hi ho (by simp [Region.wanted,hgd]) hr hq h
       ·exact ih h hr
      ·rename_i j want hgd
       simp only [bindO hP hG] at h
       split at h
       ·rename_i s hs
        split at h
        ·rename_i p hp
         have hy:=yielded_of hP hG hs hr hp
         cases p with
         | true=>
          simp only at h
          cases want with
          | true=>
           simp only at h
           split at h
           ·rename_i x hq
            exact take hi ho (by simp [Region.wanted,hgd,hy]) (rebind_ok hP hG hr hp) hq h
           ·exact ih h (rebind_ok hP hG hr hp)
          | false=>
           exact pass hi ho (by simp [Region.wanted,hgd,hy]) (rebind_ok hP hG hr hp) h
         | false=>
          simp only at h
          cases want with
          | true=>
           exact pass hi ho (by simp [Region.wanted,hgd,hy]) (rebind_ok hP hG hr hp) h
          | false=>
           simp only at h
           split at h
           ·rename_i x hq
            exact take hi ho (by simp [Region.wanted,hgd,hy]) (rebind_ok hP hG hr hp) hq h
           ·exact ih h (rebind_ok hP hG hr hp)
        ·rename_i hp
         have hy:=yielded_und hP hG hs hr hp
         exact pass hi ho (by simp [Region.wanted,hgd,hy]) hr h
        ·cases h
       ·cases h
   exact pick (fun i hi=>hi) h hr
theorem aside_look {st:St} {i:Nat} {o:Ob}:∀ {l:List Nat},look i (aside st l) = some o→∃ e cs,o = .cells e cs∧look i st.hp = some o∧cs.all (plainO st.hp) = true∧i < st.nx
 | [],h=>by cases h
 | j::l,h=>by
  simp only [aside] at h
  split at h
  ·rename_i e cs hl
   cases hb:(cs.all (plainO st.hp)&&Nat.blt j st.nx) with
   | false=>rw [hb] at h; exact aside_look h
   | true=>
    rw [hb] at h
    simp only [cond_true,look_cons] at h
    split at h
    ·rename_i hj
     subst hj
     cases h
     simp only [Bool.and_eq_true] at hb
     exact ⟨e,cs,rfl,hl,hb.1,Nat.le_of_ble_eq_true hb.2⟩
    ·exact aside_look h
  ·exact aside_look h
theorem look_app {α:Type} {i:Nat} {l m:List (Nat×α)}:look i (l++m) = match look i l with | some v=>some v | none=>look i m:=by
 induction l with
 | nil=>rfl
 | cons x l ih=>
  obtain ⟨k,v⟩:=x
  rw [List.cons_append,look_cons,look_cons,ih]
  split <;> rfl
theorem look_keys {α:Type} {i:Nat}:∀ {l:List (Nat×α)},i ∈ l.map (·.1)↔∃ o,look i l = some o
 | []=>by simp [look]
 | (k,v)::l=>by
  rw [look_cons,List.map_cons,List.mem_cons,look_keys (l:=l)]
  by_cases h:k = i
  ·subst h; simp
  ·rw [if_neg h]
   constructor
   ·rintro (h' | h')
    ·exact absurd h'.symm h
    ·exact h'
   ·exact .inr
theorem look_mapI {f:Nat→Ob→Ob} {i:Nat}:∀ {l:List (Nat×Ob)},look i (mapI f l) = (look i l).map (f i)
 | []=>rfl
 | (k,o)::l=>by
  simp only [mapI,look_cons]
  split
  ·rename_i h; subst h; rfl
  ·exact look_mapI
theorem cl_live {o:Ob}:o.clean.live = o.live:=by cases o <;> rfl
theorem fl_live {b:Bool} {o:Ob}:(o.flag b).live = o.live:=by cases o <;> rfl
theorem cl_obr {R:Nat→Prop} {w:World} {μ:Nat→Option Value} {i:Nat} {o:Ob} (h:obr R w μ i o):obr R w μ i o.clean:=by cases o <;> exact h
theorem fl_obr {R:Nat→Prop} {w:World} {μ:Nat→Option Value} {i:Nat} {b:Bool} {o:Ob} (h:obr R w μ i o):obr R w μ i (o.flag b):=by cases o <;> exact h
theorem cl_vec {x:Option Ob} {e:TypeId} {t:Ty} {xs:List (D t)} (h:x.map Ob.clean = some (.vec e t xs false)):∃ m,x = some (.vec e t xs m):=by
 cases x with
 | none=>cases h
 | some o=>cases o <;> simp [Ob.clean] at h; obtain ⟨rfl,rfl,h⟩:=h; cases h; exact ⟨_,rfl⟩
theorem fl_vec {x:Option Ob} {b:Bool} {e:TypeId} {t:Ty} {xs:List (D t)} (h:x.map (Ob.flag b) = some (.vec e t xs false)):x = some (.vec e t xs false)∧b = false:=by
 cases x with
 | none=>cases h
 | some o=>
  cases o <;> simp [Ob.flag] at h
  obtain ⟨rfl,rfl,h,rfl,rfl⟩:=h
  cases h
  exact ⟨rfl,rfl⟩
theorem flagT_false {hp:List (Nat×Ob)} {i:Nat} (h:flagT hp i = false):∃ e t xs,look i hp = some (.vec e t xs false):=by
 unfold flagT at h
 split at h
 ·rename_i e t xs m hl
  subst h
  exact ⟨e,t,xs,hl⟩
 ·cases h
theorem asideOk_look {hp:List (Nat×Ob)} {i:Nat} {e:TypeId} {cs:List SC}:∀ {ts:List (Nat×Ob)},asideOk hp ts = true→look i ts = some (.cells e cs)→ownsOk hp cs = true
 | [],_,h=>by cases h
 | (k,o)::ts,h,hl=>by
  rw [look_cons] at hl
  cases o with
  | cells e' cs'=>
   unfold asideOk at h
   cases hb:ownsOk hp cs' with
   | false=>rw [hb] at h; cases h
   | true=>
    rw [hb] at h
    split at hl
    ·cases hl; exact hb
    ·exact asideOk_look h hl
  | _=>
   split at hl
   ·cases hl
   ·exact asideOk_look (ts:=ts) h hl
theorem region_any {id:Nat} {ops:Array Oper} (hm:P.follows .mixedOrders = true) (hpr:pairsB ops.toList ops.toList 0 = true) {c:Cx} (hfit:opsFit c.nt ops.toList = true) {ids:List Nat} {st:St} {K:St→Option Ans} {r:Ans} {a:Act} {w:World} {Q:Exit→Act→World→Prop}
  (h:evalAny tab G ops.toList (aside st ids) (fun st2=>bif asideOk st2.hp (aside st ids) then K { st2 with hp:=aside st ids++mapI (fun i=>Ob.flag (flagT st.hp i)) st2.hp,n:=st.n } else none) ops.toList.length (List.replicate ops.toList.length false) { st with hp:=deads ((aside st ids).map (·.1))++mapI (fun _=>Ob.clean) st.hp,n:=st.nx } = some r)
  (hr:Rel c st a w) (hK:∀ st a w,K st = some r→Rel c st a w→Q .normal a w):(Code.region id ops true).wp P Q a w:=by
 obtain ⟨R,μ,hr⟩:=hr
 generalize hts:aside st ids = ts at h
 have hta:∀ i o,look i ts = some o→∃ e cs,o = .cells e cs∧look i st.hp = some o∧cs.all (plainO st.hp) = true∧i < st.nx:=fun i o ho=>aside_look hP hG (l:=ids) (by rw [hts]; exact ho)
 have hr:=hr.quiet (w':= { w with drawn:=w.drawn + 1 }) ⟨rfl,rfl,rfl,Nat.le_refl _,fun _ _ _=>rfl⟩
 generalize hw1:({ w with drawn:=w.drawn + 1 }:World) = w1 at hr
 let st1:St:= { st with hp:=deads (ts.map (·.1))++mapI (fun _=>Ob.clean) st.hp,n:=st.nx }
 have hlk:∀ i,look i st1.hp = if i ∈ ts.map (·.1) then some .dead else (look i st.hp).map Ob.clean:=fun i=>by
  show look i (deads (ts.map (·.1))++mapI (fun _=>Ob.clean) st.hp) = _
  rw [look_deads,look_mapI hP hG]
 have hlb:∀ i b,lb μ (fun i=>look i st1.hp) i b→i ∉ ts.map (·.1)∧lb μ (fun i=>look i st.hp) i b:=by
  rintro i b ⟨o,v,h1,h2,h3,h4⟩
  simp only [hlk] at h1
  split at h1
  ·cases h1; cases h2
  ·rename_i hn
   cases ho':look i st.hp with
   | none=>rw [ho'] at h1; cases h1
   | some o'=>
    rw [ho'] at h1
    simp only [Option.map_some,Option.some.injEq] at h1
    subst h1
    exact ⟨hn,o',v,ho',by rw [← cl_live hP hG]; exact h2,h3,h4⟩
 let c1:Cx:=⟨w1,fun b=>∃ i,lb μ (fun i=>look i st1.hp) i b,R,μ,fun i=>∃ e t xs m,look i st.hp = some (.vec e t xs m),c.nt,st.nx⟩
 have hr1:RelB c1 st1 a w1 R μ:=by
  refine ⟨hr.env,⟨⟨fun i o ho=> ?_,fun i j b h1 h2=>hr.mem.heap.apart i j b (hlb i b h1).2 (hlb j b h2).2,fun i b h1=>hr.mem.heap.out i b (hlb i b h1).2,hr.mem.heap.ex⟩,hr.mem.dom,⟨rfl,rfl,rfl,Nat.le_refl _,fun _ _ _=>rfl⟩,fun _ h=>h,fun _ h _=>.inl h,fun i b h1 _=>⟨i,h1⟩,fun _ _ _ h _=>h,rfl,fun i e t xs hi=> ?_⟩,hr.size,hr.defs⟩
  rotate_left
  ·rw [hlk] at hi
   split at hi
   ·cases hi
   ·obtain ⟨m,hi⟩:=cl_vec hP hG hi
    obtain ⟨v,flat,g1,_⟩:=hr.mem.heap.ob i _ hi
    exact ⟨hr.mem.dom i v g1,⟨e,t,xs,m,hi⟩,rfl⟩
  simp only [hlk] at ho
  split at ho
  ·cases ho; trivial
  ·cases ho':look i st.hp with
   | none=>rw [ho'] at ho; cases ho
   | some o'=>
    rw [ho'] at ho
    simp only [Option.map_some,Option.some.injEq] at ho
    subst ho
    exact cl_obr hP hG (hr.mem.heap.ob i o' ho')
 have hg:Good c1:=fun b hb=>⟨hr.mem.heap.ex b hb,fun ⟨i,hi⟩=>hr.mem.heap.out i b (hlb i b hi).2 hb⟩
 have hT:Tok c1 ts:=by
  intro i o ho
  obtain ⟨e,cs,rfl,h1,h2,h3⟩:=hta i o ho
  obtain ⟨b,arr,g1,g2,g3,g4⟩:=hr.mem.heap.ob i _ h1
  have hl:lb μ (fun i=>look i st.hp) i b:=⟨_,_,h1,rfl,g1,rfl⟩
  refine ⟨e,cs,b,arr,rfl,(Array.getElem?_eq_some_iff.1 g2).1, ?_,fun hb=>hr.mem.heap.out i b hl hb,g2,g3.imp fun x v hx hc=> ?_,g4,g1,h3⟩
  rotate_left
  ·have hpl:=List.all_eq_true.1 h2 x hx
   cases x with
   | own j=>exact ⟨hc.2,fun _=>hc.1⟩
   | ptr j off=>
    obtain ⟨b',k1,k2⟩:=hc
    exact ⟨hr.mem.dom j _ k1,b',k1,k2⟩
   | _=>exact crT_plain hpl hc
  rintro ⟨j,hj⟩
  obtain ⟨hn,hj⟩:=hlb j b hj
  have:=hr.mem.heap.apart i j b hl hj
  subst this
  exact hn (look_keys hP hG |>.2 ⟨_,ho⟩)
 have back:∀ st2 a2 w2,asideOk st2.hp ts = true→Rel c1 st2 a2 w2→Rel c { st2 with hp:=ts++mapI (fun i=>Ob.flag (flagT st.hp i)) st2.hp,n:=st.n } a2 w2:=by
  rintro st2 a2 w2 hao ⟨R2,μ2,k⟩
  have f:=hr.mem.fr
  have g:=k.mem.fr
  have gs:w1.heap.size≤w2.heap.size:=g.size
  have hlk2:∀ i,look i (ts++mapI (fun i=>Ob.flag (flagT st.hp i)) st2.hp) = match look i ts with | some v=>some v | none=>(look i st2.hp).map (Ob.flag (flagT st.hp i)):=fun i=>by
   rw [look_app hP hG,look_mapI hP hG]
   cases look i ts <;> rfl
  have hin:∀ i o,look i ts = some o→∃ e cs b arr,o = .cells e cs∧μ2 i = some (.pointer (some ⟨b,0,none⟩))∧b < w1.heap.size∧¬ c1.I b∧¬ R b∧w2.heap[b]? = some (.cells arr e (0,0))∧All2 (cr R2 w2 μ2) cs arr.toList∧(∀ u ∈ arr.toList,u.oneCell' = true)∧lb μ (fun i=>look i st.hp) i b:=by
   intro i o ho
   obtain ⟨e,cs,b,arr,rfl,h2,h3,h4,h5,h6,h7,h8,h9⟩:=hT i o ho
   obtain ⟨e',cs',he,h10,_,_⟩:=hta i _ ho
   exact ⟨e,cs,b,arr,rfl,k.mem.pins i _ h9 h8 (fun A n cc e=>by cases e),h2,h3,h4,(g.block b h2 h3).trans h5,crT_now k hg h6 (asideOk_look hP hG hao ho),h7,_,_,h10,rfl,h8,rfl⟩
  have hlb2:∀ i b,lb μ2 (fun i=>look i (ts++mapI (fun i=>Ob.flag (flagT st.hp i)) st2.hp)) i b→((∃ o,look i ts = some o)∧b < w1.heap.size∧¬ c1.I b∧¬ R b∧lb μ (fun i=>look i st.hp) i b)∨(look i ts = none∧lb μ2 (fun i=>look i st2.hp) i b):=by
   rintro i b ⟨o,v,h1,h2,h3,h4⟩
   simp only [hlk2] at h1
   cases ht:look i ts with
   | none=>
    rw [ht] at h1
    cases ho':look i st2.hp with
    | none=>rw [ho'] at h1; cases h1
    | some o'=>
     rw [ho'] at h1
     simp only [Option.map_some,Option.some.injEq] at h1
     subst h1
     exact .inr ⟨rfl,o',v,ho',by rw [← fl_live hP hG]; exact h2,h3,h4⟩
   | some o'=>
    obtain ⟨e,cs,b',arr,_,g1,g2,g3,g4,_,_,_,g8⟩:=hin i o' ht
    rw [h3] at g1
    cases g1
    simp only [blk,Option.some.injEq] at h4
    subst h4
    exact .inl ⟨⟨o',rfl⟩,g2,g3,g4,g8⟩
  refine ⟨R2,μ2,⟨k.env,⟨⟨fun i o ho=> ?_,fun i j b h1 h2=> ?_,fun i b h1 hb=> ?_,k.mem.heap.ex⟩,k.mem.dom,⟨g.os.trans f.os,g.tape.trans f.tape,g.output.trans f.output,Nat.le_trans f.size gs,fun b hb hn=> ?_⟩,fun b hb=>k.mem.rlo b (hr.mem.rlo b hb),fun b hb hl=> ?_,fun i b hi hl=> ?_,fun i u hi hu hs=> ?_,hr.mem.n,fun i e t xs hi=> ?_⟩,k.size,k.defs⟩⟩
  ·simp only [hlk2] at ho
   cases ht:look i ts with
   | none=>
    rw [ht] at ho
    cases ho':look i st2.hp with
    | none=>rw [ho'] at ho; cases ho
    | some o'=>
     rw [ho'] at ho
     simp only [Option.map_some,Option.some.injEq] at ho
     subst ho
     exact fl_obr hP hG (k.mem.heap.ob i o' ho')
   | some o'=>
    rw [ht] at ho
    cases ho
    obtain ⟨e,cs,b,arr,rfl,g1,_,_,_,g5,g6,g7,_⟩:=hin i _ ht
    exact ⟨b,arr,g1,g5,g6,g7⟩
  ·rcases hlb2 i b h1 with ⟨_,a1,a2,a3,a4⟩ | ⟨_,a1⟩ <;> rcases hlb2 j b h2 with ⟨_,b1,b2,b3,b4⟩ | ⟨_,b1⟩
   ·exact hr.mem.heap.apart i j b a4 b4
   ·exact absurd (k.mem.own j b b1 a1) a2
   ·exact absurd (k.mem.own i b a1 b1) b2
   ·exact k.mem.heap.apart i j b a1 b1
  ·rcases hlb2 i b h1 with ⟨_,a1,a2,a3,a4⟩ | ⟨_,a1⟩
   ·rcases k.mem.rhi b hb a1 with h5 | h5
    ·exact a3 h5
    ·exact a2 h5
   ·exact k.mem.heap.out i b a1 hb
  ·refine (g.block b (Nat.lt_of_lt_of_le hb f.size) ?_).trans (f.block b hb hn)
   rintro ⟨i,hi⟩
   exact hn (hr.mem.own i b (hlb i b hi).2 hb)
  ·rcases k.mem.rhi b hb (Nat.lt_of_lt_of_le hl f.size) with h5 | ⟨i,hi⟩
   ·exact hr.mem.rhi b h5 hl
   ·exact .inr (hr.mem.own i b (hlb i b hi).2 hl)
  ·rcases hlb2 i b hi with ⟨_,a1,a2,a3,a4⟩ | ⟨_,a1⟩
   ·exact hr.mem.own i b a4 hl
   ·obtain ⟨j,hj⟩:=k.mem.own i b a1 (Nat.lt_of_lt_of_le hl f.size)
    exact hr.mem.own j b (hlb j b hj).2 hl
  ·have h5:=hr.mem.pins i u hi hu hs
   exact k.mem.pins i u (hr.mem.dom i u h5) h5 hs
  ·simp only [hlk2] at hi
   cases ht:look i ts with
   | some o'=>
    rw [ht] at hi
    cases hi
    obtain ⟨e',cs',he',_⟩:=hta i _ ht
    cases he'
   | none=>
    rw [ht] at hi
    obtain ⟨hi,hf⟩:=fl_vec hP hG hi
    obtain ⟨_,_,h3⟩:=k.mem.stay i e t xs hi
    obtain ⟨e',t',xs',h2⟩:=flagT_false hP hG hf
    have h4:=hr.mem.stay i e' t' xs' h2
    exact ⟨h4.1,h4.2.1,h3.trans h4.2.2⟩
 have H:=any_ok hP hG hpr (nt:=c.nt) hfit (Q:=fun e a w=>match e with | .panic _=>False | e=>Q e a w) (fun _ _ _ h=>h) ops.size (ls:=List.replicate ops.toList.length false) (c:=c1) (st:=st1) (a:=a) (w:=w1) (by simp) rfl hg hT (by rw [← Array.length_toList]; exact h) ⟨R,μ,hr1⟩
  fun st a w h1 h2=>by
   obtain ⟨hb,h1⟩:=cond_some hP h1
   exact hK _ _ _ h1 (back _ _ _ hb h2)
 have H2:=wp_region_held (id:=id) (w:=w) hm (by rw [hw1]; simpa using H)
 refine wp_mono H2 ?_
 intro e a w he
 cases e <;> first | exact he | exact he.elim
end
end Go.Proofs.YtohnjbmiaegofaaGreat.Ev
