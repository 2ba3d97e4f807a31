/- The evaluator's words: typed values, abstract cells, what they stand for in a world. -/
import Derived.Calls
import Derived.Below
import Derived.Maps.AppendAt
import Derived.Laws.AppendOwn
import Derived.Laws.OwnMore
import Derived.Laws.MakeOwn
import Derived.Laws.Rows
import Derived.Laws.World
import Derived.Laws.IdiomCopy
import Derived.Laws.CopyRow
import Derived.Laws.IdiomStrings
import Derived.Orders
import Derived.KernelRfl
set_option linter.unusedVariables false
namespace Go.Proofs.YtohnjbmiaegofaaGreat.Ev
open Go
inductive Ty where
 | int (k:IntKind)
 | bool
 | str
 | sl (t:Ty)
 | unit
 | pair (a b:Ty)
 deriving DecidableEq
abbrev D:Ty→Type
 | .int _=>Int
 | .bool=>Bool
 | .str=>ByteArray
 | .sl t=>List (D t)
 | .unit=>Unit
 | .pair a b=>D a×D b
def Ty.size:Ty→Nat
 | .int _=>1
 | .bool=>1
 | .str=>1
 | .sl _=>1
 | .unit=>0
 | .pair a b=>a.size + b.size
def dflt:(t:Ty)→D t
 | .int _=>(0:Int)
 | .bool=>false
 | .str=>ByteArray.empty
 | .sl t=>([]:List (D t))
 | .unit=>()
 | .pair a b=>(dflt a,dflt b)
inductive SC where
 | undef
 | und
 | int (k:IntKind) (n:Int)
 | bool (b:Bool)
 | str (s:ByteArray)
 | sl (t:Ty) (xs:List (D t))
 | own (i:Nat)
 | sub (i sz lo n:Nat)
 | ptr (i off:Nat)
 | el (t:Ty) (x:D t) (off:Nat)
 | vel (i sz j off:Nat)
 | nilptr
 | clo (f:Nat) (caps:List Nat)
 | mp (i:Nat)
inductive SV where
 | c (x:SC)
 | agg (cs:List SC)
 | tup (vs:List (Bool×List SC))
inductive Ob where
 | dead
 | cells (e:TypeId) (cs:List SC)
 | vec (e:TypeId) (t:Ty) (xs:List (D t)) (m:Bool)
 | dict (k:IntKind) (t:Ty) (es:List (Int×D t))
def Ob.live:Ob→Bool
 | .dead=>false
 | _=>true
def look {α:Type} (n:Nat):List (Nat×α)→Option α
 | []=>none
 | (k,v)::r=>bif Nat.beq k n then some v else look n r
inductive All2 {α β:Type} (p:α→β→Prop):List α→List β→Prop where
 | nil:All2 p [] []
 | cons {a b l m}:p a b→All2 p l m→All2 p (a::l) (b::m)
theorem All2.length {α β:Type} {p:α→β→Prop} {l:List α} {m:List β} (h:All2 p l m):l.length = m.length:=by
 induction h with
 | nil=>rfl
 | cons _ _ ih=>simp [ih]
theorem All2.mono {α β:Type} {p q:α→β→Prop} {l:List α} {m:List β} (h:All2 p l m) (hq:∀ a b,p a b→q a b):All2 q l m:=by
 induction h with
 | nil=>exact .nil
 | cons h _ ih=>exact .cons (hq _ _ h) ih
theorem All2.get {α β:Type} {p:α→β→Prop} {l:List α} {m:List β} (h:All2 p l m):∀ (i:Nat) (a:α),l[i]? = some a→∃ b,m[i]? = some b∧p a b:=by
 induction h with
 | nil=>intro i a h; simp at h
 | cons hp _ ih=>
  intro i a h
  cases i with
  | zero=>simp at h; subst h; exact ⟨_,rfl,hp⟩
  | succ i=>simpa using ih i a (by simpa using h)
theorem All2.get' {α β:Type} {p:α→β→Prop} {l:List α} {m:List β} (h:All2 p l m):∀ (i:Nat) (b:β),m[i]? = some b→∃ a,l[i]? = some a∧p a b:=by
 induction h with
 | nil=>intro i a h; simp at h
 | cons hp _ ih=>
  intro i a h
  cases i with
  | zero=>simp at h; subst h; exact ⟨_,rfl,hp⟩
  | succ i=>simpa using ih i a (by simpa using h)
theorem All2.append {α β:Type} {p:α→β→Prop} {l l':List α} {m m':List β} (h:All2 p l m) (h':All2 p l' m'):All2 p (l++l') (m++m'):=by
 induction h with
 | nil=>exact h'
 | cons hp _ ih=>exact .cons hp ih
theorem All2.take {α β:Type} {p:α→β→Prop} {l:List α} {m:List β} (h:All2 p l m):∀ n,All2 p (l.take n) (m.take n):=by
 induction h with
 | nil=>intro n; simp; exact .nil
 | cons hp _ ih=>
  intro n
  cases n with
  | zero=>exact .nil
  | succ n=>exact .cons hp (ih n)
theorem All2.drop {α β:Type} {p:α→β→Prop} {l:List α} {m:List β} (h:All2 p l m):∀ n,All2 p (l.drop n) (m.drop n):=by
 induction h with
 | nil=>intro n; simp; exact .nil
 | cons hp ht ih=>
  intro n
  cases n with
  | zero=>exact .cons hp ht
  | succ n=>exact ih n
theorem All2.set {α β:Type} {p:α→β→Prop} {l:List α} {m:List β} (h:All2 p l m) {a:α} {b:β} (hab:p a b):∀ n,All2 p (l.set n a) (m.set n b):=by
 induction h with
 | nil=>intro n; simp; exact .nil
 | cons hp ht ih=>
  intro n
  cases n with
  | zero=>exact .cons hab ht
  | succ n=>exact .cons hp (ih n)
theorem All2.of_append {α β:Type} {p:α→β→Prop} {l l':List α}:∀ {m:List β},All2 p (l++l') m→∃ m1 m2,m = m1++m2∧All2 p l m1∧All2 p l' m2:=by
 induction l with
 | nil=>intro m h; exact ⟨[],m,rfl,.nil,h⟩
 | cons a l ih=>
  intro m h
  cases h with
  | cons hp ht=>
   obtain ⟨m1,m2,rfl,h1,h2⟩:=ih ht
   exact ⟨_::m1,m2,rfl,.cons hp h1,h2⟩
theorem All2.map {α β γ:Type} {p:γ→β→Prop} {f:α→γ} {l:List α} {m:List β}:All2 (fun a b=>p (f a) b) l m↔All2 p (l.map f) m:=by
 constructor
 ·intro h
  induction h with
  | nil=>exact .nil
  | cons hp _ ih=>exact .cons hp ih
 ·intro h
  generalize hl:l.map f = l' at h
  induction h generalizing l with
  | nil=>cases l with
   | nil=>exact .nil
   | cons _ _=>simp at hl
  | cons hp _ ih=>cases l with
   | nil=>simp at hl
   | cons a l=>simp at hl; obtain ⟨rfl,hl⟩:=hl; exact .cons hp (ih hl)
def At (w:World) (b o:Nat) (us:List Value):Prop:=∀ j u,us[j]? = some u→w.cell? ⟨b,o + j,none⟩ = some u
def rv (R:Nat→Prop) (w:World):(t:Ty)→D t→List Value→Prop
 | .int k,n,vs=>vs = [.int k n]
 | .bool,b,vs=>vs = [.bool b]
 | .str,s,vs=>vs = [.string s]
 | .sl t,xs,vs=>∃ A c,vs = [.slice A (List.length xs) c]∧List.length xs≤c∧
   ∀ (i:Nat) (h:i < List.length xs),∃ b o us,A = some ⟨b,o,none⟩∧R b∧b < w.heap.size∧rv R w t xs[i] us∧At w b (o + i * t.size) us
 | .unit,_,vs=>vs = []
 | .pair s t,x,vs=>∃ us us',vs = us++us'∧rv R w s x.1 us∧rv R w t x.2 us'
theorem rv_length {R:Nat→Prop} {w:World}:∀ {t:Ty} {x:D t} {vs:List Value},rv R w t x vs→vs.length = t.size
 | .int k,n,vs,h=>by simp only [rv] at h; subst h; rfl
 | .bool,n,vs,h=>by simp only [rv] at h; subst h; rfl
 | .str,n,vs,h=>by simp only [rv] at h; subst h; rfl
 | .sl t,n,vs,h=>by simp only [rv] at h; obtain ⟨A,c,rfl,_⟩:=h; rfl
 | .unit,n,vs,h=>by simp only [rv] at h; subst h; rfl
 | .pair s t,x,vs,h=>by
  simp only [rv] at h
  obtain ⟨us,us',rfl,h1,h2⟩:=h
  simp [Ty.size,rv_length h1,rv_length h2]
theorem rv_one {R:Nat→Prop} {w:World}:∀ {t:Ty} {x:D t} {vs:List Value},rv R w t x vs→∀ u ∈ vs,u.oneCell' = true
 | .int k,n,vs,h=>by simp only [rv] at h; subst h; simp [Value.oneCell']
 | .bool,n,vs,h=>by simp only [rv] at h; subst h; simp [Value.oneCell']
 | .str,n,vs,h=>by simp only [rv] at h; subst h; simp [Value.oneCell']
 | .sl t,n,vs,h=>by simp only [rv] at h; obtain ⟨A,c,rfl,_⟩:=h; simp [Value.oneCell']
 | .unit,n,vs,h=>by simp only [rv] at h; subst h; simp
 | .pair s t,x,vs,h=>by
  simp only [rv] at h
  obtain ⟨us,us',rfl,h1,h2⟩:=h
  intro u hu
  rcases List.mem_append.1 hu with hu | hu
  ·exact rv_one h1 u hu
  ·exact rv_one h2 u hu
def Keeps (R:Nat→Prop) (w w':World):Prop:=w.heap.size≤w'.heap.size∧∀ b,R b→b < w.heap.size→w'.heap[b]? = w.heap[b]?
theorem Keeps.refl (R:Nat→Prop) (w:World):Keeps R w w:=⟨Nat.le_refl _,fun _ _ _=>rfl⟩
theorem Keeps.trans {R:Nat→Prop} {a b c:World} (h:Keeps R a b) (k:Keeps R b c):Keeps R a c:=
 ⟨Nat.le_trans h.1 k.1,fun x hx hl=>(k.2 x hx (Nat.lt_of_lt_of_le hl h.1)).trans (h.2 x hx hl)⟩
theorem Keeps.mono {R R':Nat→Prop} {a b:World} (h:Keeps R a b) (hr:∀ x,R' x→R x):Keeps R' a b:=⟨h.1,fun x hx hl=>h.2 x (hr x hx) hl⟩
theorem Keeps.cell {R:Nat→Prop} {w w':World} (h:Keeps R w w') {b o:Nat} {u:Value} (hb:R b) (hc:w.cell? ⟨b,o,none⟩ = some u):w'.cell? ⟨b,o,none⟩ = some u:=by
 rw [World.cell?_of_block (h.2 b hb (World.block_lt_of_cell? w _ hc))]
 exact hc
theorem At.keep {R:Nat→Prop} {w w':World} (h:Keeps R w w') {b o:Nat} {us:List Value} (hb:R b) (ha:At w b o us):At w' b o us:=
 fun j u hj=>h.cell hb (ha j u hj)
theorem rv_keep {R R':Nat→Prop} {w w':World} (hk:Keeps R w w') (hr:∀ b,R b→R' b):∀ {t:Ty} {x:D t} {vs:List Value},rv R w t x vs→rv R' w' t x vs
 | .int k,n,vs,h=>h
 | .bool,n,vs,h=>h
 | .str,n,vs,h=>h
 | .sl t,xs,vs,h=>by
  simp only [rv] at h ⊢
  obtain ⟨A,c,rfl,hl,hi⟩:=h
  refine ⟨A,c,rfl,hl,fun i hlt=> ?_⟩
  obtain ⟨b,o,us,hA,hb,hbl,hx,ha⟩:=hi i hlt
  exact ⟨b,o,us,hA,hr b hb,Nat.lt_of_lt_of_le hbl hk.1,rv_keep hk hr hx,ha.keep hk hb⟩
 | .unit,n,vs,h=>h
 | .pair s t,x,vs,h=>by
  simp only [rv] at h ⊢
  obtain ⟨us,us',rfl,h1,h2⟩:=h
  exact ⟨us,us',rfl,rv_keep hk hr h1,rv_keep hk hr h2⟩
def slv (R:Nat→Prop) (w:World) (t:Ty) (xs:List (D t)) (v:Value):Prop:=rv R w (.sl t) xs [v]
theorem slv_form {R:Nat→Prop} {w:World} {t:Ty} {xs:List (D t)} {v:Value}:slv R w t xs v↔∃ A c,v = .slice A xs.length c∧xs.length≤c∧
   ∀ (i:Nat) (h:i < xs.length),∃ b o us,A = some ⟨b,o,none⟩∧R b∧b < w.heap.size∧rv R w t xs[i] us∧At w b (o + i * t.size) us:=by
 unfold slv
 simp only [rv]
 constructor
 ·rintro ⟨A,c,h,h'⟩; simp at h; exact ⟨A,c,h,h'⟩
 ·rintro ⟨A,c,h,h'⟩; exact ⟨A,c,by simp [h],h'⟩
def blk:Value→Option Nat
 | .pointer (some a)=>some a.block
 | .slice (some a) _ _=>some a.block
 | .map (some r)=>some r
 | _=>none
def cr (R:Nat→Prop) (w:World) (μ:Nat→Option Value):SC→Value→Prop
 | .undef,_=>True
 | .und,v=>v = Go.undef
 | .int k n,v=>v = .int k n
 | .bool b,v=>v = .bool b
 | .str s,v=>v = .string s
 | .sl t xs,v=>slv R w t xs v
 | .own i,v=>μ i = some v∧∃ A n c,v = .slice A n c
 | .sub i sz lo n,v=>∃ A c,v = .slice A n c∧n≤c∧∃ A' m c',μ i = some (.slice A' m c')∧lo + n≤m∧(0 < n→∃ b,A' = some ⟨b,0,none⟩∧A = some ⟨b,lo * sz,none⟩)
 | .ptr i off,v=>∃ b,μ i = some (.pointer (some ⟨b,0,none⟩))∧v = .pointer (some ⟨b,off,none⟩)
 | .el t x off,v=>∃ b o us,v = .pointer (some ⟨b,o + off,none⟩)∧R b∧rv R w t x us∧At w b o us
 | .vel i sz j off,v=>∃ b m c,μ i = some (.slice (some ⟨b,0,none⟩) m c)∧j < m∧v = .pointer (some ⟨b,j * sz + off,none⟩)
 | .nilptr,v=>v = .pointer none
 | .clo f caps,v=>∃ us,v = .func (.func f) #[] us∧All2 (fun i u=>μ i = some u∧∃ b,u = .pointer (some ⟨b,0,none⟩)) caps us.toList
 | .mp i,v=>μ i = some v∧∃ r,v = .map r
def pr (R:Nat→Prop) (w:World) (μ:Nat→Option Value):Bool×List SC→Value→Prop
 | (true,cs),v=>∃ us,v = .agg us∧All2 (cr R w μ) cs us.toList
 | (false,cs),v=>∃ x,cs = [x]∧cr R w μ x v
def vr (R:Nat→Prop) (w:World) (μ:Nat→Option Value):SV→Value→Prop
 | .c x,v=>cr R w μ x v
 | .agg cs,v=>∃ us,v = .agg us∧All2 (cr R w μ) cs us.toList
 | .tup vs,v=>∃ us,v = .tuple us∧All2 (pr R w μ) vs us.toList
def rows (R:Nat→Prop) (w:World) (t:Ty):List (D t)→List Value→Prop
 | [],vs=>vs = []
 | x::xs,vs=>∃ us us',vs = us++us'∧rv R w t x us∧rows R w t xs us'
def rowAt (w:World) (g:Nat) (cur:Array Value) (e:TypeId):Prop:=∃ f:Nat×Nat,(f = (0,0)∨cur.size≤f.1)∧w.heap[g]? = some (.cells cur e f)
def orow (w:World) (e:TypeId) (size:Nat) (v:Value) (n:Nat) (xs:List Value):Prop:=
 xs.length = n * size∧((v = .slice none 0 0∧n = 0)∨
  ∃ g cap cur,v = .slice (some ⟨g,0,none⟩) n cap∧True∧rowAt w g cur e∧n≤cap∧cap≤maxLen∧cur.size = cap * size∧cur.toList.take (n * size) = xs)
theorem rowAt_keep {w w':World} {g:Nat} {cur:Array Value} {e:TypeId} (h:w'.heap[g]? = w.heap[g]?) (k:rowAt w g cur e):rowAt w' g cur e:=by
 obtain ⟨f,k1,k2⟩:=k
 exact ⟨f,k1,h.trans k2⟩
theorem rowAt_lt {w:World} {g:Nat} {cur:Array Value} {e:TypeId} (k:rowAt w g cur e):g < w.heap.size:=by
 obtain ⟨f,k1,k2⟩:=k
 exact (Array.getElem?_eq_some_iff.1 k2).1
theorem rowAt_cell {w:World} {g:Nat} {cur:Array Value} {e:TypeId} (k:rowAt w g cur e) (j:Nat):w.cell? ⟨g,j,none⟩ = cur[j]? :=by
 obtain ⟨f,k1,k2⟩:=k
 simp [World.cell?,k2]
theorem rowAt_free {w:World} {g:Nat} {cur:Array Value} {e:TypeId} (k:rowAt w g cur e) (j:Nat) (hj:j < cur.size):w.frozen? ⟨g,j,none⟩ = false:=by
 obtain ⟨⟨lo,hi⟩,k1,k2⟩:=k
 simp only [World.frozen?,k2]
 rcases k1 with k1 | k1
 ·cases k1
  simp
 ·simp only at k1
  have h:¬ lo≤j:=by omega
  simp [h]
theorem rowAt_set {w:World} {g:Nat} {cur:Array Value} {e:TypeId} (k:rowAt w g cur e) (cs:Array Value) (hs:cs.size = cur.size):rowAt (w.setRow g cs) g cs e:=by
 obtain ⟨f,k1,k2⟩:=k
 exact ⟨f,by rw [hs]; exact k1,setRow_heap w g cur cs e f k2⟩
theorem rowAt_mark {w:World} {g:Nat} {cur:Array Value} {e:TypeId} (k:rowAt w g cur e):rowAt (w.freeze ⟨g,cur.size,none⟩ 1) g cur e:=by
 obtain ⟨⟨lo,hi⟩,k1,k2⟩:=k
 have hlt:g < w.heap.size:=(Array.getElem?_eq_some_iff.1 k2).1
 have hv:w.heap[g] = .cells cur e (lo,hi):=(Array.getElem?_eq_some_iff.1 k2).2
 refine ⟨if lo==hi then (cur.size,cur.size + 1) else (min lo cur.size,max hi (cur.size + 1)), ?_, ?_⟩
 ·right
  rcases k1 with k1 | k1
  ·cases k1; simp
  ·simp only at k1
   split <;> simp <;> omega
 ·unfold World.freeze
  rw [if_neg (by decide)]
  show (w.heap.modify g _)[g]? = _
  rw [Array.getElem?_eq_getElem (by simpa using hlt),Array.getElem_modify]
  simp [hv]
theorem orow_of {w:World} {base:Nat} {e:TypeId} {size:Nat} {v:Value} {n:Nat} {xs:List Value} (h:w.ownsRow base e size v n xs):orow w e size v n xs:=by
 refine ⟨h.1, ?_⟩
 rcases h.2 with h | ⟨g,cap,cur,e1,_,e2,e3⟩
 ·exact .inl h
 ·exact .inr ⟨g,cap,cur,e1,trivial,⟨(0,0),.inl rfl,e2⟩,e3⟩
theorem orow_cells {w:World} {e:TypeId} {size:Nat} {v:Value} {n:Nat} {xs:List Value} (h:orow w e size v n xs) {g:Nat} (hg:v.ownBlock = some g):∀ j u,xs[j]? = some u→w.cell? ⟨g,j,none⟩ = some u:=by
 rcases h.2 with ⟨rfl,_⟩ | ⟨g',cap,cur,rfl,_,e2,e3,e4,e5,e6⟩
 ·cases hg
 ·simp only [Value.ownBlock,Option.some.injEq] at hg
  subst hg
  intro j u hj
  rw [rowAt_cell e2, ← Array.getElem?_toList]
  rw [← e6,List.getElem?_take] at hj
  split at hj
  ·exact hj
  ·cases hj
def obr (R:Nat→Prop) (w:World) (μ:Nat→Option Value) (i:Nat):Ob→Prop
 | .dead=>True
 | .cells e cs=>∃ b arr,μ i = some (.pointer (some ⟨b,0,none⟩))∧w.heap[b]? = some (.cells arr e (0,0))∧All2 (cr R w μ) cs arr.toList∧∀ u ∈ arr.toList,u.oneCell' = true
 | .vec e t xs _=>∃ v flat,μ i = some v∧orow w e t.size v xs.length flat∧rows R w t xs flat∧0 < t.size
 | .dict k t es=>∃ r arr clk,μ i = some (.map (some r))∧w.heap[r]? = some (.map arr clk)∧All2 (fun (x:Int×D t) (e:MapEntry)=>e.key = .int k x.1∧rv R w t x.2 [e.val]) es arr.toList
def Ext (μ μ':Nat→Option Value):Prop:=∀ i v,μ i = some v→μ' i = some v
theorem Ext.refl (μ:Nat→Option Value):Ext μ μ:=fun _ _ h=>h
theorem cr_keep {R R':Nat→Prop} {w w':World} {μ μ':Nat→Option Value} (hk:Keeps R w w') (hr:∀ b,R b→R' b) (hm:Ext μ μ') {x:SC} {v:Value} (h:cr R w μ x v):cr R' w' μ' x v:=by
 cases x with
 | sl t xs=>exact rv_keep hk hr (t:=.sl _) h
 | el t x off=>
  obtain ⟨b,o,us,rfl,hb,hx,ha⟩:=h
  exact ⟨b,o,us,rfl,hr b hb,rv_keep hk hr hx,ha.keep hk hb⟩
 | own i=>exact ⟨hm _ _ h.1,h.2⟩
 | sub i a b c=>
  obtain ⟨A,c,h1,h2,A',m,c',h3,h4⟩:=h
  exact ⟨A,c,h1,h2,A',m,c',hm _ _ h3,h4⟩
 | ptr i o=>obtain ⟨b,h1,h2⟩:=h; exact ⟨b,hm _ _ h1,h2⟩
 | vel i a b c=>obtain ⟨b,m,c,h1,h2⟩:=h; exact ⟨b,m,c,hm _ _ h1,h2⟩
 | clo f caps=>obtain ⟨us,h1,h2⟩:=h; exact ⟨us,h1,h2.mono fun i u hu=>⟨hm _ _ hu.1,hu.2⟩⟩
 | mp i=>exact ⟨hm _ _ h.1,h.2⟩
 | _=>exact h
theorem pr_keep {R R':Nat→Prop} {w w':World} {μ μ':Nat→Option Value} (hk:Keeps R w w') (hr:∀ b,R b→R' b) (hm:Ext μ μ') {x:Bool×List SC} {v:Value} (h:pr R w μ x v):pr R' w' μ' x v:=by
 obtain ⟨b,cs⟩:=x
 cases b
 ·obtain ⟨x,rfl,h⟩:=h; exact ⟨x,rfl,cr_keep hk hr hm h⟩
 ·obtain ⟨us,rfl,h⟩:=h; exact ⟨us,rfl,h.mono fun _ _=>cr_keep hk hr hm⟩
theorem vr_keep {R R':Nat→Prop} {w w':World} {μ μ':Nat→Option Value} (hk:Keeps R w w') (hr:∀ b,R b→R' b) (hm:Ext μ μ') {x:SV} {v:Value} (h:vr R w μ x v):vr R' w' μ' x v:=by
 cases x
 ·exact cr_keep hk hr hm h
 ·obtain ⟨us,rfl,h⟩:=h; exact ⟨us,rfl,h.mono fun _ _=>cr_keep hk hr hm⟩
 ·obtain ⟨us,rfl,h⟩:=h; exact ⟨us,rfl,h.mono fun _ _=>pr_keep hk hr hm⟩
theorem rows_keep {R R':Nat→Prop} {w w':World} (hk:Keeps R w w') (hr:∀ b,R b→R' b) {t:Ty}:∀ {xs:List (D t)} {vs:List Value},rows R w t xs vs→rows R' w' t xs vs
 | [],_,h=>h
 | x::xs,vs,⟨us,us',e,h1,h2⟩=>⟨us,us',e,rv_keep hk hr h1,rows_keep hk hr h2⟩
theorem rows_length {R:Nat→Prop} {w:World} {t:Ty}:∀ {xs:List (D t)} {vs:List Value},rows R w t xs vs→vs.length = xs.length * t.size
 | [],_,h=>by simp only [rows] at h; subst h; simp
 | x::xs,vs,h=>by
  obtain ⟨us,us',rfl,h1,h2⟩:=h
  rw [List.length_append,rv_length h1,rows_length h2,List.length_cons,Nat.add_mul,Nat.one_mul,Nat.add_comm]
theorem rows_one {R:Nat→Prop} {w:World} {t:Ty}:∀ {xs:List (D t)} {vs:List Value},rows R w t xs vs→∀ u ∈ vs,u.oneCell' = true
 | [],_,h=>by simp only [rows] at h; subst h; simp
 | x::xs,vs,h=>by
  obtain ⟨us,us',rfl,h1,h2⟩:=h
  intro u hu
  rcases List.mem_append.1 hu with hu | hu
  ·exact rv_one h1 u hu
  ·exact rows_one h2 u hu
theorem rows_append {R:Nat→Prop} {w:World} {t:Ty}:∀ {xs ys:List (D t)} {vs us:List Value},rows R w t xs vs→rows R w t ys us→rows R w t (xs++ys) (vs++us)
 | [],ys,vs,us,h,h'=>by simp only [rows] at h; subst h; exact h'
 | x::xs,ys,vs,us,h,h'=>by
  obtain ⟨u1,u2,rfl,h1,h2⟩:=h
  exact ⟨u1,u2++us,by simp,h1,rows_append h2 h'⟩
theorem rows_get {R:Nat→Prop} {w:World} {t:Ty}:∀ {xs:List (D t)} {vs:List Value},rows R w t xs vs→∀ (i:Nat) (h:i < xs.length),∃ us,rv R w t xs[i] us∧us = (vs.drop (i * t.size)).take t.size
 | [],vs,h,i,hi=>by simp at hi
 | x::xs,vs,h,i,hi=>by
  obtain ⟨us,us',rfl,h1,h2⟩:=h
  cases i with
  | zero=>exact ⟨us,h1,by simp [rv_length h1]⟩
  | succ i=>
   obtain ⟨ws,hw,e⟩:=rows_get h2 i (by simpa using hi)
   refine ⟨ws,hw, ?_⟩
   rw [e,List.drop_append]
   have hl:=rv_length h1
   have e1:us.drop ((i + 1) * t.size) = []:=by apply List.drop_eq_nil_of_le; rw [hl,Nat.add_mul]; omega
   have e2:(i + 1) * t.size - us.length = i * t.size:=by rw [hl,Nat.add_mul]; omega
   rw [e1,e2,List.nil_append]
theorem rows_set {R:Nat→Prop} {w:World} {t:Ty}:∀ {xs:List (D t)} {vs:List Value},rows R w t xs vs→∀ (i:Nat) (h:i < xs.length) {y:D t} {us:List Value},rv R w t y us→
  rows R w t (xs.set i y) (vs.take (i * t.size)++us++vs.drop ((i + 1) * t.size))
 | [],vs,h,i,hi,_,_,_=>by simp at hi
 | x::xs,vs,h,i,hi,y,ws,hy=>by
  obtain ⟨us,us',rfl,h1,h2⟩:=h
  have hl:=rv_length h1
  cases i with
  | zero=>exact ⟨ws,us',by simp [hl],hy,h2⟩
  | succ i=>
   refine ⟨us,us'.take (i * t.size)++ws++us'.drop ((i + 1) * t.size), ?_,h1,rows_set h2 i (by simpa using hi) hy⟩
   have a1:(i + 1) * t.size = us.length + i * t.size:=by rw [hl,Nat.add_mul]; omega
   have a2:(i + 1 + 1) * t.size = us.length + (i + 1) * t.size:=by rw [hl,Nat.add_mul (i + 1)]; omega
   rw [a2]
   generalize (i + 1) * t.size = k at a1 ⊢
   subst a1
   rw [List.take_append,List.drop_append]
   have e1:us.take (us.length + i * t.size) = us:=List.take_of_length_le (by omega)
   have e2:us.drop (us.length + (us.length + i * t.size)) = []:=List.drop_eq_nil_of_le (by omega)
   rw [e1,e2]
   simp
theorem rows_replicate {R:Nat→Prop} {w:World} {t:Ty} {x:D t} {us:List Value} (h:rv R w t x us):∀ n,rows R w t (List.replicate n x) (List.replicate n us).flatten
 | 0=>rfl
 | n + 1=>⟨us,_,by simp [List.replicate_succ],h,rows_replicate h n⟩
theorem obr_keep {R R':Nat→Prop} {w w':World} {μ μ':Nat→Option Value} (hk:Keeps R w w') (hr:∀ b,R b→R' b) (hm:Ext μ μ') {i:Nat} {o:Ob}
  (hb:o.live = true→∀ v b,μ i = some v→blk v = some b→w'.heap[b]? = w.heap[b]?) (h:obr R w μ i o):obr R' w' μ' i o:=by
 cases o with
 | dead=>trivial
 | cells e cs=>
  obtain ⟨b,arr,h1,h2,h3,h4⟩:=h
  exact ⟨b,arr,hm _ _ h1,(hb rfl _ b h1 rfl).trans h2,h3.mono fun _ _=>cr_keep hk hr hm,h4⟩
 | vec e t xs m=>
  obtain ⟨v,flat,h0,h1,h2,h3⟩:=h
  refine ⟨v,flat,hm _ _ h0,⟨h1.1, ?_⟩,rows_keep hk hr h2,h3⟩
  rcases h1.2 with h | ⟨g,cap,cur,e1,e2,e3,e4⟩
  ·exact .inl h
  ·exact .inr ⟨g,cap,cur,e1,e2,rowAt_keep (hb rfl v g h0 (by rw [e1]; rfl)) e3,e4⟩
 | dict k t es=>
  obtain ⟨r,arr,clk,h1,h2,h3⟩:=h
  exact ⟨r,arr,clk,hm _ _ h1,(hb rfl _ r h1 rfl).trans h2,h3.mono fun _ _ h=>⟨h.1,rv_keep hk hr h.2⟩⟩
def lb (μ:Nat→Option Value) (h:Nat→Option Ob) (i b:Nat):Prop:=∃ o v,h i = some o∧o.live = true∧μ i = some v∧blk v = some b
structure HInv (R:Nat→Prop) (w:World) (μ:Nat→Option Value) (h:Nat→Option Ob):Prop where
 ob:∀ i o,h i = some o→obr R w μ i o
 apart:∀ i j b,lb μ h i b→lb μ h j b→i = j
 out:∀ i b,lb μ h i b→¬ R b
 ex:∀ b,R b→b < w.heap.size
theorem lb_lt {R:Nat→Prop} {w:World} {μ:Nat→Option Value} {h:Nat→Option Ob} (hi:HInv R w μ h) {i b:Nat} (hl:lb μ h i b):b < w.heap.size:=by
 obtain ⟨o,v,h1,h2,h3,h4⟩:=hl
 have:=hi.ob i o h1
 cases o with
 | dead=>cases h2
 | cells e cs=>
  obtain ⟨b',arr,e1,e2,_⟩:=this
  rw [h3] at e1
  cases e1
  simp only [blk,Option.some.injEq] at h4
  subst h4
  exact (Array.getElem?_eq_some_iff.1 e2).1
 | vec e t xs m=>
  obtain ⟨v',flat,e0,e1,_⟩:=this
  rw [h3] at e0
  cases e0
  rcases e1.2 with ⟨e1,_⟩ | ⟨g,cap,cur,e1,_,e3,_⟩
  ·subst e1; cases h4
  ·subst e1
   simp only [blk,Option.some.injEq] at h4
   subst h4
   exact rowAt_lt e3
 | dict k t es=>
  obtain ⟨r,arr,clk,e1,e2,_⟩:=this
  rw [h3] at e1
  cases e1
  simp only [blk,Option.some.injEq] at h4
  subst h4
  exact (Array.getElem?_eq_some_iff.1 e2).1
end Go.Proofs.YtohnjbmiaegofaaGreat.Ev
