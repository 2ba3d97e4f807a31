/- The evaluator: what a Go function's code does to typed values, by computation. -/
import Derived.Test.YtohnjbmiaegofaaGreatEvA
import Derived.Laws.BytesArg
set_option linter.unusedVariables false
namespace Go.Proofs.YtohnjbmiaegofaaGreat.Ev
open Go
abbrev Res:=SV×List Ob
abbrev Ans:=Unit
abbrev Cont:=Res→Option Ans
abbrev Spec:=List SV→List Ob→Cont→Option Ans
structure St where
 env:List (Nat×SV)
 hp:List (Nat×Ob)
 nx:Nat
 n:Nat
structure TI where
 eqs:Bool
 desc:TypeDesc
 size:Nat
 bytes:Nat
 zv:List Value
 cts:List TypeId
 ty:Option Ty
def toC:(t:Ty)→D t→List SC
 | .int k,n=>[.int k n]
 | .bool,b=>[.bool b]
 | .str,s=>[.str s]
 | .sl t,xs=>[.sl t xs]
 | .unit,_=>[]
 | .pair a b,x=>toC a x.1++toC b x.2
def castL {t' t:Ty} (h:t' = t) (xs:List (D t')):List (D t):=h ▸ xs
def ofC:(t:Ty)→List SC→Option (D t×List SC)
 | .int k=>fun l=>match l with
  | .int k' n::r=>if k = k' then some (n,r) else none
  | _=>none
 | .bool=>fun l=>match l with
  | .bool b::r=>some (b,r)
  | _=>none
 | .str=>fun l=>match l with
  | .str s::r=>some (s,r)
  | _=>none
 | .sl t=>fun l=>match l with
  | .sl t' xs::r=>if h:t' = t then some (castL h xs,r) else none
  | _=>none
 | .unit=>fun l=>some ((),l)
 | .pair a b=>fun l=>match ofC a l with
  | some (x,r)=>match ofC b r with
   | some (y,r')=>some ((x,y),r')
   | none=>none
  | none=>none
def ofC1 (t:Ty) (l:List SC):Option (D t):=
 match ofC t l with
 | some (x,[])=>some x
 | _=>none
def has (i:Nat):List Nat→Bool
 | []=>false
 | j::r=>bif Nat.beq i j then true else has i r
def idx (i:Nat):List Nat→Option Nat
 | []=>none
 | j::r=>bif Nat.beq i j then some 0 else (match idx i r with | some n=>some (n + 1) | none=>none)
def addAll:List Nat→List Nat→List Nat
 | acc,[]=>acc
 | acc,i::r=>addAll (bif has i acc then acc else acc++ [i]) r
def SC.refs:SC→List Nat
 | .own i | .sub i _ _ _ | .ptr i _ | .vel i _ _ _ | .mp i=>[i]
 | .clo _ caps=>caps
 | _=>[]
def SC.owns:SC→List Nat
 | .own i | .sub i _ _ _=>[i]
 | _=>[]
def SV.cells:SV→List SC
 | .c x=>[x]
 | .agg cs=>cs
 | .tup vs=>vs.flatMap (·.2)
def SV.map (f:SC→SC):SV→SV
 | .c x=>.c (f x)
 | .agg cs=>.agg (cs.map f)
 | .tup vs=>.tup (vs.map fun p=>(p.1,p.2.map f))
def Ob.map (f:SC→SC):Ob→Ob
 | .cells e cs=>.cells e (cs.map f)
 | o=>o
def Ob.refs:Ob→List Nat
 | .cells _ cs=>cs.flatMap SC.refs
 | _=>[]
def mapE (f:SC→SC):List (Nat×SV)→List (Nat×SV)
 | []=>[]
 | (k,v)::r=>(k,v.map f)::mapE f r
def mapH (f:SC→SC):List (Nat×Ob)→List (Nat×Ob)
 | []=>[]
 | (k,v)::r=>(k,v.map f)::mapH f r
def fz (hp:List (Nat×Ob)):SC→SC
 | .own i=>match look i hp with
  | some (.vec _ t xs _)=>.sl t xs
  | _=>.undef
 | .sub i sz lo n=>match look i hp with
  | some (.vec _ t xs _)=>bif Nat.beq sz t.size then .sl t ((xs.drop lo).take n) else .undef
  | _=>.undef
 | x=>x
def kill (p:Nat→Bool):SC→SC
 | .own i=>bif p i then .undef else .own i
 | .sub i a b c=>bif p i then .undef else .sub i a b c
 | .vel i a b c=>bif p i then .undef else .vel i a b c
 | x=>x
def frzC (hp:List (Nat×Ob)) (ids:List Nat) (x:SC):SC:=
 match x with
 | .own i=>bif has i ids then fz hp x else x
 | .sub i _ _ _=>bif has i ids then fz hp x else x
 | .vel i _ _ _=>bif has i ids then .undef else x
 | x=>x
def deads:List Nat→List (Nat×Ob)
 | []=>[]
 | i::r=>(i,.dead)::deads r
def freeze (ids:List Nat) (st:St):St:=
 match ids with
 | []=>st
 | _=> { st with env:=mapE (frzC st.hp ids) st.env,hp:=deads ids++mapH (frzC st.hp ids) st.hp }
def ren (ids:List Nat):SC→SC
 | .own i=>match idx i ids with | some j=>.own j | none=>.undef
 | .sub i a b c=>match idx i ids with | some j=>.sub j a b c | none=>.undef
 | .ptr i o=>match idx i ids with | some j=>.ptr j o | none=>.undef
 | .vel i a b c=>match idx i ids with | some j=>.vel j a b c | none=>.undef
 | .mp i=>match idx i ids with | some j=>.mp j | none=>.undef
 | .clo f caps=>match caps1 ids caps with | some l=>.clo f l | none=>.undef
 | x=>x
where caps1 (ids:List Nat):List Nat→Option (List Nat)
 | []=>some []
 | i::r=>match idx i ids,caps1 ids r with
  | some j,some l=>some (j::l)
  | _,_=>none
def clos (hp:List (Nat×Ob)):Nat→List Nat→List Nat→List Nat
 | 0,_,ids=>ids
 | _ + 1,[],ids=>ids
 | n + 1,i::pend,ids=>
  let new:=match look i hp with | some o=>o.refs.filter (fun j=>!(has j ids)) | none=>[]
  clos hp n (pend++new) (addAll ids new)
def obs (hp:List (Nat×Ob)) (ids0:List Nat):List Nat→List Ob
 | []=>[]
 | i::r=>(match look i hp with | some o=>o.map (ren ids0) | none=>.dead)::obs hp ids0 r
def number {α:Type}:Nat→List α→List (Nat×α)
 | _,[]=>[]
 | n,a::r=>(n,a)::number (n + 1) r
def keepE (keep:List Nat) (env:List (Nat×SV)):List (Nat×SV):=
 match keep with
 | []=>[]
 | d::r=>match look d env with
  | some v=>(d,v)::keepE r env
  | none=>keepE r env
def nodup:List Nat→Bool
 | []=>true
 | i::r=>bif has i r then false else nodup r
def first (n:Nat) (ids:List Nat):Bool:=go n 0 ids
where go:Nat→Nat→List Nat→Bool
 | 0,_,_=>true
 | n + 1,i,j::r=>bif Nat.beq i j then go n (i + 1) r else false
 | _ + 1,_,[]=>false
def upto:Nat→Nat→List Nat
 | 0,_=>[]
 | n + 1,i=>i::upto n (i + 1)
def Ob.flag (b:Bool):Ob→Ob
 | .vec e t xs m=>.vec e t xs (m || b)
 | o=>o
def weak (keep:List Nat):Nat→List Ob→List Ob
 | _,[]=>[]
 | i,o::os=>(bif has (1000000 + i) keep then o.flag true else o)::weak keep (i + 1) os
def forceN {α:Sort _}:Nat→(Nat→α)→α
 | 0,k=>k 0
 | n + 1,k=>forceN n fun m=>k (m + 1)
theorem forceN_eq {α:Sort _}:∀ (n:Nat) (k:Nat→α),forceN n k = k n
 | 0,_=>rfl
 | n + 1,k=>forceN_eq n _
def canon (keep:List Nat) (st:St):Option St:=
 forceN st.n fun n0=>
 let env:=keepE keep st.env
 let s:=addAll (upto n0 0) (env.flatMap fun p=>p.2.cells.flatMap SC.refs)
 let ids:=clos st.hp 200 s s
 bif nodup ids&&first n0 ids then some { env:=mapE (ren ids) env,hp:=number 0 (weak keep 0 (obs st.hp ids ids)),nx:=ids.length,n:=n0 } else none
def St.put (st:St) (d:Option Tmp) (v:SV):St:=
 match d with
 | some d=> { st with env:=(d,v)::st.env }
 | none=>st
def St.new (st:St) (o:Ob):St:= { st with hp:=(st.nx,o)::st.hp,nx:=st.nx + 1 }
def St.set (st:St) (i:Nat) (o:Ob):St:= { st with hp:=(i,o)::st.hp }
def constV:Value→Option SV
 | .int k n=>some (.c (.int k n))
 | .bool b=>some (.c (.bool b))
 | .string s=>some (.c (.str s))
 | .pointer none=>some (.c .nilptr)
 | .map none=>some (.c .undef)
 | _=>none
def opd (st:St):Operand→Option SV
 | .tmp t=>look t st.env
 | .const v=>constV v
 | .func f=>some (.c (.clo f []))
 | .global _=>none
section
variable (tab:TypeId→Option TI)
def nilC (t:TypeId) (st:St):Option (SC×St):=
 match tab t with
 | some { desc:=.slice e,.. }=>match tab e with
  | some { ty:=some ty,.. }=>bif Nat.blt 0 ty.size then some (.own st.nx,st.new (.vec e ty [] true)) else none
  | _=>none
 | _=>none
def zeroC:List Value→List TypeId→St→Option (List SC×St)
 | [],_,st=>some ([],st)
 | v::vs,t::ts,st=>
  match (match v with
   | .int k n=>some (SC.int k n,st)
   | .bool b=>some (.bool b,st)
   | .string s=>some (.str s,st)
   | .pointer none=>some (.nilptr,st)
   | .slice none 0 0=>nilC tab t st
   | _=>some (.undef,st)) with
  | some (x,st)=>match zeroC vs ts st with
   | some (xs,st)=>some (x::xs,st)
   | none=>none
  | none=>none
 | _::_,[],_=>none
def opdT (t:TypeId) (st:St):Operand→Option (SV×St)
 | .tmp n=>match look n st.env with | some v=>some (v,st) | none=>none
 | .func f=>some (.c (.clo f []),st)
 | .global _=>none
 | .const (.slice none 0 0)=>match nilC tab t st with | some (x,st)=>some (.c x,st) | none=>none
 | .const v=>match constV v with | some v=>some (v,st) | none=>none
def isAggD:TypeDesc→Bool
 | .struct _=>true
 | .array _ _=>true
 | _=>false
def part (ti:TI) (cs:List SC) (off:Nat):Option SV:=
 bif isAggD ti.desc then (bif Nat.ble (off + ti.size) cs.length then some (.agg ((cs.drop off).take ti.size)) else none)
 else match cs[off]? with
  | some x=>some (.c x)
  | none=>none
def splice (cs:List SC) (off:Nat) (vs:List SC):Option (List SC):=
 bif Nat.ble (off + vs.length) cs.length then some (cs.take off++vs++cs.drop (off + vs.length)) else none
def storable:List SC→Bool
 | []=>true
 | .undef::_=>false
 | .und::_=>false
 | _::r=>storable r
def cellsOf:SV→Option (List SC)
 | .c x=>bif storable [x] then some [x] else none
 | .agg cs=>bif storable cs then some cs else none
 | .tup _=>none
def iand (k:IntKind) (x y:Int):Int:=k.wrap (BitVec.ofInt k.bits x&&& BitVec.ofInt k.bits y).toNat
def ior (k:IntKind) (x y:Int):Int:=k.wrap (BitVec.ofInt k.bits x ||| BitVec.ofInt k.bits y).toNat
def ixor (k:IntKind) (x y:Int):Int:=k.wrap (BitVec.ofInt k.bits x ^^^ BitVec.ofInt k.bits y).toNat
def iandNot (k:IntKind) (x y:Int):Int:=k.wrap (BitVec.ofInt k.bits x&&& ~~~BitVec.ofInt k.bits y).toNat
def ishl (k:IntKind) (x y:Int):Int:=k.wrap (x * 2 ^ min y.toNat k.bits)
def ishr (k:IntKind) (x y:Int):Int:=x.fdiv (2 ^ min y.toNat k.bits)
def evalInt (op:BinOp) (k:IntKind) (x y:Int) (K:SC→Option Ans):Option Ans:=
 match op with
 | .add=>K (.int k (k.wrap (x + y)))
 | .sub=>K (.int k (k.wrap (x - y)))
 | .mul=>K (.int k (k.wrap (x * y)))
 | .quo=>bif decide (y = 0) then none else K (.int k (k.wrap (x.tdiv y)))
 | .rem=>bif decide (y = 0) then none else K (.int k (x.tmod y))
 | .and=>K (.int k (iand k x y))
 | .or=>K (.int k (ior k x y))
 | .xor=>K (.int k (ixor k x y))
 | .andNot=>K (.int k (iandNot k x y))
 | .eql=>K (.bool (x==y))
 | .neq=>K (.bool (x != y))
 | .lss=>K (.bool (decide (x < y)))
 | .leq=>K (.bool (decide (x≤y)))
 | .gtr=>K (.bool (decide (x > y)))
 | .geq=>K (.bool (decide (x≥y)))
 | _=>none
def evalBin (op:BinOp) (xt:TypeId) (x y:SC) (K:SC→Option Ans):Option Ans:=
 match x,y with
 | .int k a,.int k' b=>
  match op with
  | .shl=>bif decide (b < 0) then none else K (.int k (ishl k a b))
  | .shr=>bif decide (b < 0) then none else K (.int k (ishr k a b))
  | op=>if k = k' then evalInt op k a b K else none
 | .bool a,.bool b=>match tab xt,op with
  | some { desc:=.bool,.. },.eql=>K (.bool (a==b))
  | some { desc:=.bool,.. },.neq=>K (.bool (!(a==b)))
  | _,_=>none
 | .str a,.str b=>match op with
  | .eql=>K (.bool (a.toList==b.toList))
  | .neq=>K (.bool (!(a.toList==b.toList)))
  | _=>none
 | .ptr _ _,.nilptr=>match tab xt,op with
  | some { desc:=.pointer _,.. },.eql=>K (.bool false)
  | some { desc:=.pointer _,.. },.neq=>K (.bool true)
  | _,_=>none
 | .nilptr,.nilptr=>match tab xt,op with
  | some { desc:=.pointer _,.. },.eql=>K (.bool true)
  | some { desc:=.pointer _,.. },.neq=>K (.bool false)
  | _,_=>none
 | _,_=>none
def eqFs (r:TypeId→SV→SV→Option Bool):List Field→List SC→List SC→Option Bool
 | [],_,_=>some true
 | f::fs,as,bs=>match tab f.type with
  | some fi=>match part fi as f.offset,part fi bs f.offset with
   | some x,some y=>match r f.type x y,eqFs r fs as bs with
    | some p,some q=>some (p&&q)
    | _,_=>none
   | _,_=>none
  | none=>none
def eqEs (r:SV→SV→Option Bool) (ei:TI) (as bs:List SC):List Nat→Option Bool
 | []=>some true
 | i::is=>match part ei as (i * ei.size),part ei bs (i * ei.size) with
  | some x,some y=>match r x y,eqEs r ei as bs is with
   | some p,some q=>some (p&&q)
   | _,_=>none
  | _,_=>none
def eqV:Nat→TypeId→SV→SV→Option Bool
 | 0,_,_,_=>none
 | n + 1,t,x,y=>match tab t with
  | some ti=>match ti.desc,x,y with
   | .int _,.c (.int k a),.c (.int k' b)=>if k = k' then some (a==b) else none
   | .bool,.c (.bool a),.c (.bool b)=>some (a==b)
   | .string,.c (.str a),.c (.str b)=>some (a.toList==b.toList)
   | .struct fs,.agg as,.agg bs=>bif ti.eqs then eqFs tab (eqV n) fs.toList as bs else none
   | .array m e,.agg as,.agg bs=>(match tab e with
    | some ei=>eqEs (eqV n e) ei as bs (List.range m)
    | none=>none)
   | _,_,_=>none
  | none=>none
def byIdx (i:Int) (f:Nat→Option Ans):Nat→Nat→Option Ans
 | 0,_=>none
 | m + 1,j=>bif decide (i = (j:Int)) then f j else byIdx i f m (j + 1)
def evalConv (src dst:TypeId) (hp:List (Nat×Ob)) (x:SC) (K:SC→Option Ans):Option Ans:=
 match tab src,tab dst,x with
 | some _,some { desc:=.int k,.. },.int _ n=>K (.int k (k.wrap n))
 | some { desc:=.slice e,.. },some { desc:=.string,.. },.sl (.int .u8) xs=>match tab e with
  | some { desc:=.int .u8,.. }=>K (.str (strOfNums xs))
  | _=>none
 | some { desc:=.slice e,.. },some { desc:=.string,.. },.own i=>match tab e,look i hp with
  | some { desc:=.int .u8,.. },some (.vec _ (.int .u8) xs _)=>K (.str (strOfNums xs))
  | _,_=>none
 | some { desc:=.slice e,.. },some { desc:=.string,.. },.sub i sz lo n=>match tab e,fz hp (.sub i sz lo n) with
  | some { desc:=.int .u8,.. },.sl (.int .u8) xs=>K (.str (strOfNums xs))
  | _,_=>none
 | _,_,_=>none
def numsOf (s:ByteArray):List Int:=s.data.toList.map fun b=>(b.toNat:Int)
def strSrc (src dst:TypeId) (x:SC):Option (TypeId×ByteArray):=
 match tab src,tab dst,x with
 | some { desc:=.string,.. },some { desc:=.slice e,.. },.str s=>match tab e with
  | some { desc:=.int .u8,.. }=>some (e,s)
  | _=>none
 | _,_,_=>none
def sameSl (src dst:TypeId) (hp:List (Nat×Ob)) (x:SC):Option Nat:=
 bif Nat.beq src dst then (match tab src,x with
  | some { desc:=.slice e,.. },.own i=>match tab e,look i hp with
   | some { desc:=.int .u8,.. },some (.vec _ _ xs _)=>bif Nat.blt 0 xs.length then some i else none
   | _,_=>none
  | _,_=>none) else none
def lentIds:List SV→List Nat
 | []=>[]
 | v::r=>addAll (addAll [] (v.cells.flatMap SC.owns)) (lentIds r)
def fro:SC→Bool
 | .sl _ _=>true
 | .el _ _ _=>true
 | _=>false
def froOb:Ob→Bool
 | .cells _ cs=>cs.any fro
 | .vec _ (.int _) _ _=>false
 | .vec _ .bool _ _=>false
 | .dict _ (.int _) _=>false
 | .dict _ .bool _=>false
 | .dead=>false
 | _=>true
def hasFro (r:SV) (os:List Ob):Bool:=(r.cells.any fro) || (os.any froOb)
def okArgs:List SV→Bool
 | []=>true
 | .c (.vel _ _ _ _)::_=>false
 | .tup _::_=>false
 | _::r=>okArgs r
def isCells:Option Ob→Bool
 | some (.cells _ _)=>true
 | _=>false
def ltAll (n:Nat):List Nat→Bool
 | []=>true
 | i::r=>bif Nat.blt i n then ltAll n r else false
def Ob.still:Ob→Bool
 | .vec _ _ _ m=>!m
 | _=>false
def others (hp:List (Nat×Ob)):List Nat→List Ob→List Nat
 | [],_=>[]
 | i::r,[]=>i::others hp r []
 | i::r,o::os=>bif isCells (look i hp) || o.still then others hp r os else i::others hp r os
def Ob.clean:Ob→Ob
 | .vec e t xs _=>.vec e t xs false
 | o=>o
def flagOf:Option Ob→Bool
 | some (.vec _ _ _ m)=>m
 | _=>true
def reflag (hp:List (Nat×Ob)):List Nat→List Ob→List Ob
 | _,[]=>[]
 | [],o::os=>o.flag true::reflag hp [] os
 | i::r,o::os=>o.flag (flagOf (look i hp))::reflag hp r os
def shift (nx:Nat):Nat→Nat→List Nat
 | 0,_=>[]
 | n + 1,i=>(nx + i)::shift nx n (i + 1)
def zipH:List Nat→List Ob→List (Nat×Ob)
 | i::r,o::os=>(i,o)::zipH r os
 | _,_=>[]
def renB (all:List Nat):SC→SC
 | .own i=>match all[i]? with | some j=>.own j | none=>.undef
 | .sub i a b c=>match all[i]? with | some j=>.sub j a b c | none=>.undef
 | .ptr i o=>match all[i]? with | some j=>.ptr j o | none=>.undef
 | .vel i a b c=>match all[i]? with | some j=>.vel j a b c | none=>.undef
 | .mp i=>match all[i]? with | some j=>.mp j | none=>.undef
 | .clo f caps=>match capsB all caps with | some l=>.clo f l | none=>.undef
 | x=>x
where capsB (all:List Nat):List Nat→Option (List Nat)
 | []=>some []
 | i::r=>match all[i]?,capsB all r with
  | some j,some l=>some (j::l)
  | _,_=>none
def meets (l m:List Nat):Bool:=match l with
 | []=>false
 | i::r=>bif has i m then true else meets r m
def behind (ids:List Nat) (objs:List Ob) (st:St):St:=
 let all:=ids++shift st.nx (objs.length - ids.length) 0
 let ks:=others st.hp ids objs
 { st with env:=mapE (kill fun i=>has i ks) st.env,hp:=zipH all ((reflag st.hp ids objs).map (Ob.map (renB all)))++mapH (kill fun i=>has i ks) st.hp,nx:=st.nx + (objs.length - ids.length) }
def callX (g:SC→SC) (lent:List Nat) (F:Spec) (args:List SV) (st:St) (k:SV→St→Option Ans):Option Ans:=
 let args1:=args.map (SV.map g)
 let s:=addAll [] (args1.flatMap fun v=>v.cells.flatMap SC.refs)
 let ids:=clos st.hp 200 s s
 bif okArgs args&&nodup ids&&!(meets lent ids)&&ltAll st.nx ids then
  F (args1.map (SV.map (ren ids))) ((obs st.hp ids ids).map Ob.clean) fun r=>
   let stB:=bif hasFro r.1 r.2 then freeze lent st else st
   k (r.1.map (renB (ids++shift st.nx (r.2.length - ids.length) 0))) (behind ids r.2 stB)
 else none
def callG (F:Spec) (args:List SV) (st:St) (k:SV→St→Option Ans):Option Ans:=callX (fz st.hp) (lentIds args) F args st k
def callW (F:Spec) (args:List SV) (st:St) (k:SV→St→Option Ans):Option Ans:=callX (fun x=>x) [] F args st k
variable (G:Nat→Option Spec)
def opds (tab:TypeId→Option TI):List Operand→List TypeId→St→Option (List SV×St)
 | [],_,st=>some ([],st)
 | x::xs,t::ts,st=>match opdT tab t st x with
  | some (v,st)=>match opds tab xs ts st with
   | some (vs,st)=>some (v::vs,st)
   | none=>none
  | none=>none
 | _::_,[],_=>none
def lenOfC (hp:List (Nat×Ob)):SC→Option Int
 | .sl _ xs=>some (xs.length:Int)
 | .own i=>match look i hp with | some (.vec _ _ xs _)=>some (xs.length:Int) | _=>none
 | .sub _ _ _ n=>some (n:Int)
 | _=>none
def listAt (t:Ty) (hp:List (Nat×Ob)) (x:SC):Option (List (D t)):=
 match fz hp x with
 | .sl t' xs=>if h:t' = t then some (castL h xs) else none
 | _=>none
def mhas {α:Type} (n:Int):List (Int×α)→Bool
 | []=>false
 | (m,_)::r=>bif decide (n = m) then true else mhas n r
def mget {α:Type} (d:α) (n:Int):List (Int×α)→α
 | []=>d
 | (m,v)::r=>bif decide (n = m) then v else mget d n r
def mput {α:Type} (n:Int) (x:α):List (Int×α)→List (Int×α)
 | []=>[(n,x)]
 | (m,v)::r=>bif decide (n = m) then (n,x)::r else (m,v)::mput n x r
def mdel {α:Type} (n:Int):List (Int×α)→List (Int×α)
 | []=>[]
 | (m,v)::r=>bif decide (n = m) then r else (m,v)::mdel n r
def mapTI (t:TypeId):Option (IntKind×TI):=match tab t with
 | some { desc:=.map kt et,.. }=>match tab kt,tab et with
  | some { desc:=.int kk,.. },some ei=>some (kk,ei)
  | _,_=>none
 | _=>none
def flatTy:Ty→Bool
 | .int _=>true
 | .bool=>true
 | _=>false
def imax (a b:Int):Int:=bif decide (b > a) then b else a
def evalBuiltin (b:Builtin) (args:List SV) (ats:List TypeId) (st:St) (k:SV→St→Option Ans):Option Ans:=
 match b,args with
 | .len,[.c x]=>match ats with
  | [t]=>match tab t,x with
   | some { desc:=.slice _,.. },x=>match lenOfC st.hp x with | some n=>k (.c (.int .i64 n)) st | none=>none
   | some { desc:=.string,.. },.str s=>k (.c (.int .i64 (s.size:Int))) st
   | _,_=>none
  | _=>none
 | .append,[.c (.own i),.c (.int .i64 m)]=>match ats with   -- so many zeros (of a make that is never made)
  | [t,t']=>match tab t,tab t',look i st.hp with
   | some { desc:=.slice e,.. },some { desc:=.int _,.. },some (.vec e' (.int k2) xs _)=>match tab e with
    | some ti=>match ti.ty with
     | some (.int k1)=>
      bif decide (k1 = k2)&&Nat.beq e e'&&Nat.beq ti.size 1&&Nat.beq ti.zv.length 1 then
       bif decide (0≤m∧((xs.length + m.toNat:Nat):Int) * ti.bytes≤140737488355328∧xs.length + m.toNat≤140737488355328) then
        k (.c (.own i)) { st with env:=mapE (kill (Nat.beq i)) st.env,hp:=(i,.vec e (.int k2) (xs++List.replicate m.toNat 0) true)::mapH (kill (Nat.beq i)) st.hp }
       else none
      else none
     | _=>none
    | none=>none
   | _,_,_=>none
  | _=>none
 | .append,[.c (.own i),.c x]=>match ats with
  | [t,t']=>match tab t,look i st.hp with
   | some { desc:=.slice e,.. },some (.vec e' ty xs _)=>match tab e,listAt ty st.hp x with
    | some ti,some ys=>
     bif Nat.beq e e'&&Nat.beq t t'&&Nat.beq ti.size ty.size&&Nat.blt 0 ti.size&&Nat.beq ti.zv.length ti.size then
      bif decide ((xs.length + ys.length) * ti.bytes≤140737488355328∧xs.length + ys.length≤140737488355328) then
       let fzs:=x.owns
       bif has i fzs then none else
       k (.c (.own i)) { st with env:=mapE (kill (Nat.beq i)) st.env,hp:=(i,.vec e ty (xs++ys) true)::mapH (kill (Nat.beq i)) st.hp }
      else none
     else none
    | _,_=>none
   | _,_=>none
  | _=>none
 | .copy,[.c (.sub i sz lo n),.c x]=>match ats with
  | [t,_]=>match tab t,look i st.hp with
   | some { desc:=.slice e,.. },some (.vec e' ty xs m)=>match tab e,listAt ty st.hp x with
    | some ti,some ys=>
     bif Nat.beq ti.size 1&&Nat.beq sz 1&&flatTy ty then
      k (.c (.int .i64 ((min n ys.length:Nat):Int))) (st.set i (.vec e' ty (xs.take lo++ys.take n++xs.drop (lo + min n ys.length)) m))
     else none
    | _,_=>none
   | _,_=>none
  | _=>none
 | .delete,[.c (.mp i),.c (.int kb n)]=>match ats with
  | t::_=>match mapTI tab t,look i st.hp with
   | some (kk,_),some (.dict k2 ty es)=>bif decide (kk = kb)&&decide (kk = k2) then k (.tup []) (st.set i (.dict k2 ty (mdel n es))) else none
   | _,_=>none
  | _=>none
 | .min,[.c (.int ka a),.c (.int kb b)]=>k (.c (.int ka (bif decide (b < a) then b else a))) st
 | .max,[.c (.int ka a),.c (.int kb b)]=>k (.c (.int ka (bif decide (b > a) then b else a))) st
 | .max,[.c (.int ka a),.c (.int kb b),.c (.int kc c),.c (.int kd d)]=>k (.c (.int ka (imax (imax (imax a b) c) d))) st
 | _,_=>none
def fillP (place:Nat→Option (Nat×Nat)):List (Nat×SV)→List SC→Option (List SC)
 | [],cs=>some cs
 | (i,v)::r,cs=>match place i,cellsOf v with
  | some (off,sz),some vs=>bif Nat.beq vs.length sz then (match splice cs off vs with | some cs'=>fillP place r cs' | none=>none) else none
  | _,_=>none
def placesOf (tab:TypeId→Option TI):List Field→Option (List (Nat×Nat))
 | []=>some []
 | f::r=>match tab f.type,placesOf tab r with
  | some fi,some l=>some ((f.offset,fi.size)::l)
  | _,_=>none
def partsV (tab:TypeId→Option TI) (ft:Nat→TypeId):List (Nat×Operand)→St→Option (List (Nat×SV)×St)
 | [],st=>some ([],st)
 | (i,x)::r,st=>match opdT tab (ft i) st x with
  | some (v,st)=>match partsV tab ft r st with
   | some (vs,st)=>some ((i,v)::vs,st)
   | none=>none
  | none=>none
def setParts (t:Ty) (hp:List (Nat×Ob)):List (Nat×SV)→List (D t)→Option (List (D t))
 | [],xs=>some xs
 | (i,v)::r,xs=>bif Nat.blt i xs.length then (match cellsOf v with
   | some vs=>(match ofC1 t (vs.map (fz hp)) with
    | some x=>setParts t hp r (xs.set i x)
    | none=>none)
   | none=>none) else none
def capIds (st:St):List Operand→Option (List Nat)
 | []=>some []
 | x::r=>match opd st x with
  | some (.c (.ptr i 0))=>(match capIds st r with | some l=>some (i::l) | none=>none)
  | _=>none
def loOf (o:Option Int):Int:=match o with | some l=>l | none=>0
def hiOf (o:Option Int) (n:Int):Int:=match o with | some h=>h | none=>n
def sliceB (x:Option Operand) (st:St):Option (Option Int):=
 match x with
 | none=>some none
 | some o=>match opd st o with
  | some (.c (.int _ n))=>some (some n)
  | _=>none
def both (x y:Option Ans):Option Ans:=
 match x with
 | some _=>y
 | none=>none
def nilSl:Operand→Bool
 | .const (.slice none 0 0)=>true
 | _=>false
def e_move (st:St) (k:SV→St→Option Ans) (ty0:TypeId) (x:Operand):Option Ans:=
 match opdT tab ty0 st x with
  | some (v,st)=>k v st
  | none=>none
def e_pick (st:St) (k:SV→St→Option Ans) (ty0:TypeId) (c a b:Operand):Option Ans:=
 match opd st c with
  | some (.c (.bool p))=>match p with
   | true=>(match opdT tab ty0 st a with | some (v,st)=>k v st | none=>none)
   | false=>(match opdT tab ty0 st b with | some (v,st)=>k v st | none=>none)
  | _=>none
def e_box (st:St) (k:SV→St→Option Ans) (e:TypeId) (x:Operand):Option Ans:=
 match opdT tab e st x with
  | some (v,st)=>match cellsOf v with
   | some vs=>k (.c (.ptr st.nx 0)) (st.new (.cells e vs))
   | none=>none
  | none=>none
def e_alloc (st:St) (k:SV→St→Option Ans) (e:TypeId):Option Ans:=
 match tab e with
  | some ti=>match zeroC tab ti.zv ti.cts st with
   | some (cs,st)=>bif storable cs then k (.c (.ptr st.nx 0)) (st.new (.cells e cs)) else none
   | none=>none
  | none=>none
def e_build (st:St) (k:SV→St→Option Ans) (t:TypeId) (ps:Array (Nat×Operand)):Option Ans:=
 match tab t with
  | some ti=>match ti.desc with
   | .struct fs=>match zeroC tab ti.zv ti.cts st,placesOf tab fs.toList with
    | some (zs,st),some pl=>match partsV tab (fun i=>match fs[i]? with | some f=>f.type | none=>0) ps.toList st with
     | some (vs,st)=>match fillP (fun i=>pl[i]?) vs zs with
      | some cs=>k (.agg cs) st
      | none=>none
     | none=>none
    | _,_=>none
   | .array _ e=>match tab e with
    | some ei=>match zeroC tab ti.zv ti.cts st with
     | some (zs,st)=>match partsV tab (fun _=>e) ps.toList st with
      | some (vs,st)=>match fillP (fun i=>some (i * ei.size,ei.size)) vs zs with
       | some cs=>k (.agg cs) st
       | none=>none
      | none=>none
     | none=>none
    | none=>none
   | _=>none
  | none=>none
def e_buildSlice (st:St) (k:SV→St→Option Ans) (t:TypeId) (n:Nat) (ps:Array (Nat×Operand)):Option Ans:=
 match tab t with
  | some { desc:=.slice e,.. }=>match tab e with
   | some ei=>match ei.ty with
    | some ty=>match partsV tab (fun _=>e) ps.toList st with
     | some (vs,st)=>match setParts ty st.hp vs (List.replicate n (dflt ty)) with
      | some xs=>
       bif Nat.beq ei.size ty.size&&Nat.blt 0 ty.size&&Nat.ble (n * ei.size) 16777216 then
        let st:=freeze (addAll [] (vs.flatMap fun p=>p.2.cells.flatMap SC.owns)) st
        k (.c (.own st.nx)) (st.new (.vec e ty xs true))
       else none
      | none=>none
     | none=>none
    | none=>none
   | none=>none
  | _=>none
def e_load (st:St) (k:SV→St→Option Ans) (t:TypeId) (a:Operand):Option Ans:=
 match tab t,opd st a with
  | some ti,some (.c (.ptr i off))=>match look i st.hp with
   | some (.cells _ cs)=>(match part ti cs off with | some v=>k v st | none=>none)
   | _=>none
  | some ti,some (.c (.el ty x off))=>(match part ti (toC ty x) off with | some v=>k v st | none=>none)
  | some ti,some (.c (.vel i sz j off))=>match look i st.hp with
   | some (.vec _ ty xs _)=>bif Nat.beq sz ty.size then (match part ti (toC ty (xs.getD j (dflt ty))) off with | some v=>k v st | none=>none) else none
   | _=>none
  | _,_=>none
def e_store (st:St) (k:SV→St→Option Ans) (t:TypeId) (a x:Operand):Option Ans:=
 match tab t,opdT tab t st x with
  | some ti,some (v,st)=>match cellsOf v with
   | some vs=>
    bif Nat.beq vs.length ti.size then
     match opd st a with
     | some (.c (.ptr i off))=>match look i st.hp with
      | some (.cells e cs)=>(match splice cs off vs with | some cs'=>k (.c .undef) (st.set i (.cells e cs')) | none=>none)
      | _=>none
     | some (.c (.vel i sz j off))=>match look i st.hp with
      | some (.vec e ty xs m)=>
       bif Nat.beq sz ty.size then
        match splice (toC ty (xs.getD j (dflt ty))) off (vs.map (fz st.hp)) with
        | some cs'=>match ofC1 ty cs' with
         | some y=>
          let ids:=addAll [] (vs.flatMap SC.owns)
          bif has i ids then none else k (.c .undef) ((freeze ids st).set i (.vec e ty (xs.set j y) m))
         | none=>none
        | none=>none
       else none
      | _=>none
     | _=>none
    else none
   | none=>none
  | _,_=>none
def e_makeMap (st:St) (k:SV→St→Option Ans) (t:TypeId):Option Ans:=
 match mapTI tab t with
  | some (kk,ei)=>match ei.ty with
   | some ty=>bif flatTy ty then k (.c (.mp st.nx)) (st.new (.dict kk ty [])) else none
   | none=>none
  | none=>none
def e_lookup (st:St) (k:SV→St→Option Ans) (t:TypeId) (x y:Operand) (ok:Bool):Option Ans:=
 match mapTI tab t,opd st x,opd st y with
  | some (kk,ei),some (.c (.mp i)),some (.c (.int kb n))=>match look i st.hp with
   | some (.dict k2 ty es)=>match ei.ty with
    | some ty'=>bif decide (kk = kb)&&decide (kk = k2)&&decide (ty = ty')&&flatTy ty&&!isAggD ei.desc then (match ok with
     | true=>k (.tup [(false,toC ty (mget (dflt ty) n es)),(false,[.bool (mhas n es)])]) st
     | false=>match toC ty (mget (dflt ty) n es) with
      | [z]=>k (.c z) st
      | _=>none) else none
    | none=>none
   | _=>none
  | _,_,_=>none
def e_mapUpdate (st:St) (k:SV→St→Option Ans) (t:TypeId) (x y z:Operand):Option Ans:=
 match mapTI tab t,opd st x,opd st y with
  | some (kk,_),some (.c (.mp i)),some (.c (.int kb n))=>match look i st.hp,opd st z with
   | some (.dict k2 ty es),some (.c v)=>bif decide (kk = kb)&&decide (kk = k2)&&flatTy ty then (match ofC1 ty [v] with
    | some u=>k (.c .undef) (st.set i (.dict k2 ty (mput n u es)))
    | none=>none) else none
   | _,_=>none
  | _,_,_=>none
def e_nilCheck (st:St) (k:SV→St→Option Ans) (x:Operand):Option Ans:=
 match opd st x with
  | some (.c (.ptr i o))=>k (.c (.ptr i o)) st
  | some (.c (.el t x o))=>k (.c (.el t x o)) st
  | some (.c (.vel i a b c))=>k (.c (.vel i a b c)) st
  | some (.c (.clo f caps))=>k (.c (.clo f caps)) st
  | _=>none
def e_binOp (st:St) (k:SV→St→Option Ans) (op:BinOp) (xt:TypeId) (x y:Operand):Option Ans:=
 bif nilSl y then (match tab xt,opd st x with
  | some { desc:=.slice _,.. },some (.c a)=>match lenOfC st.hp a with
   | some n=>match op with
    | .eql=>bif decide (n = 0) then both (k (.c (.bool true)) st) (k (.c (.bool false)) st) else k (.c (.bool false)) st
    | .neq=>bif decide (n = 0) then both (k (.c (.bool false)) st) (k (.c (.bool true)) st) else k (.c (.bool true)) st
    | _=>none
   | none=>none
  | _,_=>none) else match opd st x,opd st y with
  | some (.c a),some (.c b)=>evalBin tab op xt a b fun r=>k (.c r) st
  | some (.agg as),some (.agg bs)=>(match tab xt with
   | some ti=>bif ti.eqs then (match op with
    | .eql=>(match eqV tab 12 xt (.agg as) (.agg bs) with | some b=>k (.c (.bool b)) st | none=>none)
    | .neq=>(match eqV tab 12 xt (.agg as) (.agg bs) with | some b=>k (.c (.bool (!b))) st | none=>none)
    | _=>none) else none
   | none=>none)
  | _,_=>none
def e_unOp (st:St) (k:SV→St→Option Ans) (op:UnOp) (x:Operand):Option Ans:=
 match op,opd st x with
  | .neg,some (.c (.int kd n))=>k (.c (.int kd (kd.wrap (0 - n)))) st
  | .not,some (.c (.bool b))=>k (.c (.bool !b)) st
  | .xor,some (.c (.int kd n))=>k (.c (.int kd (ixor kd (if kd.signed then -1 else kd.max) n))) st
  | _,_=>none
def e_convert (st:St) (k:SV→St→Option Ans) (src dst:TypeId) (x:Operand):Option Ans:=
 match opd st x with
  | some (.c a)=>(match sameSl tab src dst st.hp a with
   | some i=>(match look i st.hp with
    | some o=>k (.c (.own i)) (st.set i o)
    | none=>none)
   | none=>match strSrc tab src dst a with
   | some (e,s)=>bif decide (s.size≤140737488355328) then k (.c (.own st.nx)) (st.new (.vec e (.int .u8) (numsOf s) true)) else none
   | none=>evalConv tab src dst st.hp a fun r=>k (.c r) st)
  | _=>none
def e_makeSlice (st:St) (k:SV→St→Option Ans) (t:TypeId) (l c:Operand):Option Ans:=
 match tab t with
  | some { desc:=.slice e,.. }=>match tab e,opd st l,opd st c with
   | some ei,some (.c (.int .i64 n)),some (.c (.int .i64 m))=>match ei.ty with
    | some ty=>
     bif Nat.beq ei.size ty.size&&Nat.blt 0 ty.size&&Nat.beq ei.zv.length ei.size then
      bif decide (0≤n∧n = m∧ei.bytes * n≤281474976710656∧n≤281474976710656) then
       k (.c (.own st.nx)) (st.new (.vec e ty (List.replicate n.toNat (dflt ty)) true))
      else none
     else none
    | none=>none
   | _,_,_=>none
  | _=>none
def e_slice (st:St) (k:SV→St→Option Ans) (t:TypeId) (x:Operand) (lo hi mx:Option Operand):Option Ans:=
 match mx,opd st x,sliceB lo st,sliceB hi st with
  | none,some (.c a),some lo,some hi=>match tab t with
   | some { desc:=.slice e,.. }=>match tab e with
    | some ei=>match lenOfC st.hp a with
     | some n=>
      bif decide (0≤loOf lo∧loOf lo≤hiOf hi n∧hiOf hi n≤n) then
       (match a with
       | .sl ty xs=>bif Nat.beq ei.size ty.size then k (.c (.sl ty ((xs.drop (loOf lo).toNat).take (hiOf hi n - loOf lo).toNat))) st else none
       | .own i=>match look i st.hp with
        | some (.vec _ ty _ _)=>bif Nat.beq ei.size ty.size then k (.c (.sub i ty.size (loOf lo).toNat (hiOf hi n - loOf lo).toNat)) st else none
        | _=>none
       | .sub i sz lo' _=>bif Nat.beq ei.size sz then k (.c (.sub i sz (lo' + (loOf lo).toNat) (hiOf hi n - loOf lo).toNat)) st else none
       | _=>none)
      else none
     | none=>none
    | none=>none
   | some { desc:=.string,.. }=>match a with
    | .str s=>
     bif decide (0≤loOf lo∧loOf lo≤hiOf hi s.size∧hiOf hi s.size≤(s.size:Int)) then k (.c (.str (s.extract (loOf lo).toNat (hiOf hi s.size).toNat))) st else none
    | _=>none
   | _=>none
  | _,_,_,_=>none
def e_fieldAddr (st:St) (k:SV→St→Option Ans) (s:TypeId) (x:Operand) (f:Nat):Option Ans:=
 match tab s with
  | some { desc:=.struct fs,.. }=>match fs[f]? with
   | some fl=>match tab fl.type with
    | some fi=>
     bif Nat.blt 0 fi.size then
      match opd st x with
      | some (.c (.ptr i o))=>k (.c (.ptr i (o + fl.offset))) st
      | some (.c (.el t x o))=>k (.c (.el t x (o + fl.offset))) st
      | some (.c (.vel i a b o))=>k (.c (.vel i a b (o + fl.offset))) st
      | _=>none
     else none
    | none=>none
   | none=>none
  | _=>none
def e_field (st:St) (k:SV→St→Option Ans) (s:TypeId) (x:Operand) (f:Nat):Option Ans:=
 match tab s with
  | some { desc:=.struct fs,.. }=>match fs[f]? with
   | some fl=>match tab fl.type,opd st x with
    | some fi,some (.agg cs)=>(match part fi cs fl.offset with | some v=>k v st | none=>none)
    | _,_=>none
   | none=>none
  | _=>none
def e_indexAddr (st:St) (k:SV→St→Option Ans) (t:TypeId) (x ix:Operand):Option Ans:=
 match opd st x,opd st ix with
  | some (.c a),some (.c (.int _ i))=>match tab t with
   | some { desc:=.slice e,.. }=>match tab e with
    | some ei=>
     (match a with
     | .sl ty xs=>bif Nat.beq ei.size ty.size then (bif decide (0≤i∧i < (xs.length:Int)) then k (.c (.el ty (xs.getD i.toNat (dflt ty)) 0)) st else none) else none
     | .own id=>match look id st.hp with
      | some (.vec _ ty xs _)=>bif Nat.beq ei.size ty.size then (bif decide (0≤i∧i < (xs.length:Int)) then k (.c (.vel id ty.size i.toNat 0)) st else none) else none
      | _=>none
     | .sub id sz lo n=>bif Nat.beq ei.size sz then (bif decide (0≤i∧i < (n:Int)) then k (.c (.vel id sz (lo + i.toNat) 0)) st else none) else none
     | _=>none)
    | none=>none
   | some { desc:=.array n e,.. }=>match tab e with
    | some ei=>
     (match a with
     | .ptr id o=>bif decide (0≤i∧i < (n:Int)) then byIdx i (fun j=>k (.c (.ptr id (o + j * ei.size))) st) n 0 else none
     | .el t x o=>bif decide (0≤i∧i < (n:Int)) then byIdx i (fun j=>k (.c (.el t x (o + j * ei.size))) st) n 0 else none
     | .vel id a b o=>bif decide (0≤i∧i < (n:Int)) then byIdx i (fun j=>k (.c (.vel id a b (o + j * ei.size))) st) n 0 else none
     | _=>none)
    | none=>none
   | _=>none
  | _,_=>none
def e_index (st:St) (k:SV→St→Option Ans) (t:TypeId) (x ix:Operand):Option Ans:=
 match tab t,opd st x,opd st ix with
  | some { desc:=.array n e,.. },some (.agg cs),some (.c (.int _ i))=>match tab e with
   | some ei=>bif decide (0≤i∧i < (n:Int)) then byIdx i (fun j=>match part ei cs (j * ei.size) with | some v=>k v st | none=>none) n 0 else none
   | none=>none
  | some { desc:=.string,.. },some (.c (.str s)),some (.c (.int _ i))=>
   bif decide (0≤i∧i < (s.size:Int)) then k (.c (.int .u8 ((s.data.toList.getD i.toNat 0).toNat:Int))) st else none
  | _,_,_=>none
def e_extract (st:St) (k:SV→St→Option Ans) (x:Operand) (i:Nat):Option Ans:=
 match opd st x with
  | some (.tup vs)=>match vs[i]? with
   | some (true,cs)=>k (.agg cs) st
   | some (false,[x])=>k (.c x) st
   | _=>none
  | _=>none
def e_makeFunc (st:St) (k:SV→St→Option Ans) (fn:Fn) (first caps:Array Operand):Option Ans:=
 match fn,first.toList,capIds st caps.toList with
  | .func f,[],some l=>k (.c (.clo f l)) st
  | _,_,_=>none
def e_call (st:St) (k:SV→St→Option Ans) (c:Call):Option Ans:=
 match c.callee with
  | .builtin b=>match opds tab c.args.toList c.argTypes.toList st with
   | some (vs,st)=>evalBuiltin tab b vs c.argTypes.toList st k
   | none=>none
  | .value f=>match opd st f,opds tab c.args.toList c.argTypes.toList st with
   | some (.c (.clo g caps)),some (vs,st)=>bif Nat.blt g 1000000 then (match G (1000000 + g) with
    | some F=>callW F (vs++caps.map fun i=>.c (.ptr i 0)) st k
    | none=>match G g with
     | some F=>callG F (vs++caps.map fun i=>.c (.ptr i 0)) st k
     | none=>none) else none
   | _,_=>none
  | _=>none
def evalOp (o:Oper) (st:St) (k:SV→St→Option Ans):Option Ans:=
 match o.op with
 | .move x | .assign x=>e_move tab st k o.type x
 | .pick c a b=>e_pick tab st k o.type c a b
 | .box e x=>e_box tab st k e x
 | .alloc e=>e_alloc tab st k e
 | .build t ps=>e_build tab st k t ps
 | .buildSlice t n ps=>e_buildSlice tab st k t n ps
 | .load t a=>e_load tab st k t a
 | .store t a x=>e_store tab st k t a x
 | .makeMap t none=>e_makeMap tab st k t
 | .lookup t x y ok=>e_lookup tab st k t x y ok
 | .mapUpdate t x y z=>e_mapUpdate tab st k t x y z
 | .nilCheck x=>e_nilCheck st k x
 | .binOp op xt x y _=>e_binOp tab st k op xt x y
 | .unOp op _ x=>e_unOp st k op x
 | .convert src dst x=>e_convert tab st k src dst x
 | .makeSlice t l c=>e_makeSlice tab st k t l c
 | .slice t x lo hi mx=>e_slice tab st k t x lo hi mx
 | .fieldAddr s x f=>e_fieldAddr tab st k s x f
 | .field s x f=>e_field tab st k s x f
 | .indexAddr t x ix=>e_indexAddr tab st k t x ix
 | .index t x ix=>e_index tab st k t x ix
 | .extract x i=>e_extract st k x i
 | .makeFunc fn first caps=>e_makeFunc st k fn first caps
 | .call c=>e_call tab G st k c
 | _=>none
def rebind (st:St) (s:Nat) (b:Bool):St:= { st with env:=(s,.c (.bool b))::st.env }
def evalOps (ops:Array Oper):List Oper→St→(St→Option Ans)→Option Ans
 | [],st,k=>k st
 | o::r,st,k=>match o.guard with
  | none=>evalOp tab G o st fun v st=>evalOps ops r (st.put o.dst v) k
  | some (j,want)=>match (ops[j]?).bind (·.dst) with
   | some s=>match look s st.env with
    | some (.c (.bool p))=>match p with
     | true=>(match want with
      | true=>evalOp tab G o (rebind st s true) fun v st=>evalOps ops r (st.put o.dst v) k
      | false=>evalOps ops r ((rebind st s true).put o.dst (.c .und)) k)
     | false=>(match want with
      | true=>evalOps ops r ((rebind st s false).put o.dst (.c .und)) k
      | false=>evalOp tab G o (rebind st s false) fun v st=>evalOps ops r (st.put o.dst v) k)
    | some (.c .und)=>evalOps ops r (st.put o.dst (.c .und)) k
    | _=>none
   | none=>none
def bnd (e:Edge):Bool:=
 match e.ground with
 | .textOnly _=>false
 | .gcOnly _=>false
 | _=>true
def nthB:List Bool→Nat→Bool→Bool
 | [],_,d=>d
 | b::_,0,_=>b
 | _::r,n + 1,d=>nthB r n d
def edgesIn (ls:List Bool):List Edge→Bool
 | []=>true
 | e::r=>bif (bif bnd e then nthB ls e.on false else true) then edgesIn ls r else false
def rdy (all:List Bool):List Bool→List Oper→Nat→List Nat
 | b::ls,o::ops,i=>bif b then rdy all ls ops (i + 1) else (bif edgesIn all o.after.toList then i::rdy all ls ops (i + 1) else rdy all ls ops (i + 1))
 | _,_,_=>[]
def nthO:List Oper→Nat→Option Oper
 | [],_=>none
 | o::_,0=>some o
 | _::r,n + 1=>nthO r n
def waitsB (o:Oper) (i:Nat):Bool:=o.after.toList.any fun e=>bnd e&&Nat.beq e.on i
def readsL (ops:List Oper) (o:Oper):List Nat:=
 (o.op.operands.toList.filterMap fun | .tmp t=>some t | _=>none)++
 (match o.guard with
 | some (g,_)=>(match nthO ops g with | some x=>x.dst.toList | none=>[])
 | none=>[])
def apartB (ops:List Oper) (x y:Oper):Bool:=
 (match x.dst with
 | some d=>!(has d (readsL ops y))&&(match y.dst with | some e=>!(Nat.beq d e) | none=>true)
 | none=>true)&&
 (match y.dst with
 | some d=>!(has d (readsL ops x))
 | none=>true)
def notSel:Op→Bool
 | .select .. =>false
 | _=>true
def pairB (ops:List Oper) (i:Nat) (x:Oper):List Oper→Nat→Bool
 | [],_=>true
 | y::r,j=>bif Nat.beq i j || waitsB x j || waitsB y i || apartB ops x y then pairB ops i x r (j + 1) else false
def pairsB (ops:List Oper):List Oper→Nat→Bool
 | [],_=>true
 | x::r,i=>bif notSel x.op&&pairB ops i x ops 0 then pairsB ops r (i + 1) else false
def lenArg:Option SV→Bool
 | some (.c (.sl _ _))=>true
 | some (.c (.own _))=>true
 | some (.c (.sub _ _ _ _))=>true
 | some (.c (.str _))=>true
 | _=>false
def plain:SC→Bool
 | .own _=>false
 | .sub .. =>false
 | .ptr .. =>false
 | .vel .. =>false
 | .clo .. =>false
 | .mp _=>false
 | _=>true
def plainO (hp:List (Nat×Ob)):SC→Bool
 | .own j=>(match look j hp with | some (.vec _ _ _ _)=>true | _=>false)
 | .ptr _ _=>true
 | x=>plain x
def ownsOk (hp:List (Nat×Ob)):List SC→Bool
 | []=>true
 | .own j::r=>(match look j hp with | some (.vec _ _ _ false)=>ownsOk hp r | _=>false)
 | _::r=>ownsOk hp r
def asideOk (hp:List (Nat×Ob)):List (Nat×Ob)→Bool
 | []=>true
 | (_,.cells _ cs)::r=>bif ownsOk hp cs then asideOk hp r else false
 | _::r=>asideOk hp r
def mapI (f:Nat→Ob→Ob):List (Nat×Ob)→List (Nat×Ob)
 | []=>[]
 | (i,o)::r=>(i,f i o)::mapI f r
def flagT (hp:List (Nat×Ob)) (i:Nat):Bool:=match look i hp with
 | some (.vec _ _ _ m)=>m
 | _=>true
def quiet (hpT:List (Nat×Ob)) (o:Oper) (st:St) (k:SV→St→Option Ans):Option (Option Ans):=
 match o.op with
 | .load t a=>match tab t,opd st a with
  | some ti,some (.c (.el ty x off))=>some (match part ti (toC ty x) off with | some v=>k v st | none=>none)
  | some ti,some (.c (.ptr i off))=>match look i hpT with
   | some (.cells _ cs)=>some (match part ti cs off with | some v=>(bif ownsOk st.hp cs then k v st else none) | none=>none)
   | _=>none
  | _,_=>none
 | .move _=>some (evalOp tab G o st k)
 | .assign _=>some (evalOp tab G o st k)
 | .pick .. =>some (evalOp tab G o st k)
 | .unOp .. =>some (evalOp tab G o st k)
 | .nilCheck x=>match opd st x with
  | some (.c (.ptr _ _))=>some (evalOp tab G o st k)
  | some (.c (.el _ _ _))=>some (evalOp tab G o st k)
  | some (.c (.vel _ _ _ _))=>some (evalOp tab G o st k)
  | _=>none
 | .fieldAddr .. =>some (evalOp tab G o st k)
 | .field .. =>some (evalOp tab G o st k)
 | .indexAddr .. =>some (evalOp tab G o st k)
 | .index .. =>some (evalOp tab G o st k)
 | .extract .. =>some (evalOp tab G o st k)
 | .slice .. =>some (evalOp tab G o st k)
 | .binOp _ _ x y _=>match opd st x,opd st y with
  | some (.c (.int _ _)),some (.c (.int _ _))=>some (evalOp tab G o st k)
  | some (.c (.bool _)),some (.c (.bool _))=>some (evalOp tab G o st k)
  | _,_=>none
 | .convert _ d x=>match tab d,opd st x with
  | some { desc:=.int _,.. },some (.c (.int _ _))=>some (evalOp tab G o st k)
  | _,_=>none
 | .call c=>match c.callee,c.args.toList with
  | .builtin .len,[x]=>bif lenArg (opd st x) then some (evalOp tab G o st k) else none
  | _,_=>none
 | _=>none
def runOne (ops:List Oper) (o:Oper) (st:St) (k:St→Option Ans):Option Ans:=
 match o.guard with
 | none=>evalOp tab G o st fun v st=>k (st.put o.dst v)
 | some (j,want)=>match (nthO ops j).bind (·.dst) with
  | some s=>match look s st.env with
   | some (.c (.bool p))=>match p with
    | true=>(match want with
     | true=>evalOp tab G o st fun v st=>k (st.put o.dst v)
     | false=>k (st.put o.dst (.c .und)))
    | false=>(match want with
     | true=>k (st.put o.dst (.c .und))
     | false=>evalOp tab G o st fun v st=>k (st.put o.dst v))
   | some (.c .und)=>k (st.put o.dst (.c .und))
   | _=>none
  | none=>none
def branch (ops:List Oper) (ls:List Bool) (self:List Bool→St→Option Ans) (st:St):List Nat→Option Ans
 | []=>none
 | i::r=>match nthO ops i with
  | none=>none
  | some o=>
   let x:=runOne tab G ops o st fun st=>self (ls.set i true) st
   match r with
   | []=>x
   | _::_=>both x (branch ops ls self st r)
def pickQ (ops:List Oper) (hpT:List (Nat×Ob)) (ls:List Bool) (all:List Nat) (self:List Bool→St→Option Ans):List Nat→St→Option Ans
 | [],st=>branch tab G ops ls self st all
 | i::r,st=>match nthO ops i with
  | none=>none
  | some o=>match o.guard with
   | none=>(match quiet tab G hpT o st (fun v st=>self (ls.set i true) (st.put o.dst v)) with
    | some x=>x
    | none=>pickQ ops hpT ls all self r st)
   | some (j,want)=>match (nthO ops j).bind (·.dst) with
    | some s=>match look s st.env with
     | some (.c (.bool p))=>match p with
      | true=>(match want with
       | true=>(match quiet tab G hpT o (rebind st s true) (fun v st=>self (ls.set i true) (st.put o.dst v)) with
        | some x=>x
        | none=>pickQ ops hpT ls all self r (rebind st s true))
       | false=>self (ls.set i true) ((rebind st s true).put o.dst (.c .und)))
      | false=>(match want with
       | true=>self (ls.set i true) ((rebind st s false).put o.dst (.c .und))
       | false=>(match quiet tab G hpT o (rebind st s false) (fun v st=>self (ls.set i true) (st.put o.dst v)) with
        | some x=>x
        | none=>pickQ ops hpT ls all self r (rebind st s false)))
     | some (.c .und)=>self (ls.set i true) (st.put o.dst (.c .und))
     | _=>none
    | none=>none
def forceB {α:Sort _}:List Bool→(List Bool→α)→α
 | [],k=>k []
 | b::r,k=>match b with
  | true=>forceB r fun r'=>k (true::r')
  | false=>forceB r fun r'=>k (false::r')
theorem forceB_eq {α:Sort _}:∀ (l:List Bool) (k:List Bool→α),forceB l k = k l
 | [],k=>rfl
 | b::r,k=>by
  cases b
  ·exact forceB_eq r _
  ·exact forceB_eq r _
def evalAny (ops:List Oper) (hpT:List (Nat×Ob)) (k:St→Option Ans):Nat→List Bool→St→Option Ans
 | 0,ls,st=>match rdy ls ls ops 0 with
  | []=>k st
  | _::_=>none
 | n + 1,ls,st=>forceB ls fun ls=>match rdy ls ls ops 0 with
  | []=>k st
  | i::r=>pickQ tab G ops hpT ls (i::r) (evalAny ops hpT k n) (i::r) st
def aside (st:St):List Nat→List (Nat×Ob)
 | []=>[]
 | i::r=>match look i st.hp with
  | some (.cells e cs)=>bif cs.all (plainO st.hp)&&Nat.blt i st.nx then (i,.cells e cs)::aside st r else aside st r
  | _=>aside st r
def slotsOf (st:St):List Nat→List Nat
 | []=>[]
 | s::r=>match look s st.env with
  | some (.c (.ptr i _))=>i::slotsOf st r
  | _=>slotsOf st r
def stills:List Oper→Bool
 | []=>true
 | o::r=>bif (match o.op with
  | .load .. | .move _ | .assign _ | .pick .. | .unOp .. | .nilCheck _ | .fieldAddr .. | .field .. | .indexAddr .. | .index .. | .extract .. | .slice .. | .binOp .. | .convert .. =>true
  | .call c=>(match c.callee with | .builtin .len=>true | _=>false)
  | _=>false) then stills r else false
inductive Ex where
 | normal
 | exit (id:Nat)
 | ret
abbrev Blk:=St→(Ex→St→Option Ans)→Option Ans
def loopK (f:Blk) (cn:St→Option St) (K:Ex→St→Option Ans):Nat→St→Option Ans
 | 0,_=>none
 | n + 1,st=>f st fun e st=>match e with
  | .normal=>(match cn st with
   | some st=>loopK f cn K n st
   | none=>none)
  | .exit i=>K (.exit i) st
  | .ret=>K .ret st
def canonO (l:Option (List Nat)) (st:St):Option St:=
 match l with
 | some l=>canon l st
 | none=>some st
def key:Code→Nat
 | .region id _ _=>id
 | .seq a _=>key a
 | .block _ c=>key c
 | .loop c=>key c
 | _=>99999
def forceC {α:Sort _} (x:SC) (k:SC→α):α:=
 match x with
 | .undef=>k .undef
 | .und=>k .und
 | .int a n=>k (.int a n)
 | .bool b=>k (.bool b)
 | .str s=>k (.str s)
 | .sl t xs=>k (.sl t xs)
 | .own i=>k (.own i)
 | .sub i a b c=>k (.sub i a b c)
 | .ptr i o=>k (.ptr i o)
 | .el t x o=>k (.el t x o)
 | .vel i a b c=>k (.vel i a b c)
 | .nilptr=>k .nilptr
 | .clo f l=>k (.clo f l)
 | .mp i=>k (.mp i)
theorem forceC_eq {α:Sort _} (x:SC) (k:SC→α):forceC x k = k x:=by cases x <;> rfl
def forceCs {α:Sort _}:List SC→(List SC→α)→α
 | [],k=>k []
 | x::r,k=>forceC x fun x=>forceCs r fun r=>k (x::r)
theorem forceCs_eq {α:Sort _}:∀ (l:List SC) (k:List SC→α),forceCs l k = k l
 | [],_=>rfl
 | x::r,k=>by simp only [forceCs,forceC_eq,forceCs_eq r]
def forceE {α:Sort _}:List (Nat×SV)→(List (Nat×SV)→α)→α
 | [],k=>k []
 | (d,v)::r,k=>match v with
  | .c x=>forceC x fun x=>forceE r fun r=>k ((d,.c x)::r)
  | .agg cs=>forceCs cs fun cs=>forceE r fun r=>k ((d,.agg cs)::r)
  | .tup vs=>forceE r fun r=>k ((d,.tup vs)::r)
theorem forceE_eq {α:Sort _}:∀ (l:List (Nat×SV)) (k:List (Nat×SV)→α),forceE l k = k l
 | [],_=>rfl
 | (d,v)::r,k=>by cases v <;> simp only [forceE,forceC_eq,forceCs_eq,forceE_eq r]
def forceH {α:Sort _}:Nat→List (Nat×Ob)→(List (Nat×Ob)→α)→α
 | _,[],k=>k []
 | n,(d,o)::r,k=>bif Nat.beq d n then (match o with
  | .dead=>forceH (n + 1) r fun r=>k ((n,.dead)::r)
  | .cells e cs=>forceCs cs fun cs=>forceH (n + 1) r fun r=>k ((n,.cells e cs)::r)
  | .vec e t xs m=>(match m with
   | true=>forceH (n + 1) r fun r=>k ((n,.vec e t xs true)::r)
   | false=>forceH (n + 1) r fun r=>k ((n,.vec e t xs false)::r))
  | .dict a t es=>forceH (n + 1) r fun r=>k ((n,.dict a t es)::r)) else k ((d,o)::r)
theorem forceH_eq {α:Sort _}:∀ (n:Nat) (l:List (Nat×Ob)) (k:List (Nat×Ob)→α),forceH n l k = k l
 | _,[],_=>rfl
 | n,(d,o)::r,k=>by
  cases hb:Nat.beq d n with
  | false=>simp only [forceH,hb,cond_false]
  | true=>
   have hd:d = n:=Nat.eq_of_beq_eq_true hb
   subst hd
   cases o with
   | vec e t xs m=>cases m <;> simp only [forceH,hb,cond_true,forceH_eq _ r]
   | _=>simp only [forceH,hb,cond_true,forceCs_eq,forceH_eq _ r]
def forceSt {α:Sort _} (st:St) (k:St→α):α:=forceE st.env fun env=>forceH 0 st.hp fun hp=>forceN st.nx fun nx=>forceN st.n fun n=>k ⟨env,hp,nx,n⟩
theorem forceSt_eq {α:Sort _} (st:St) (k:St→α):forceSt st k = k st:=by simp only [forceSt,forceE_eq,forceH_eq,forceN_eq]
def normK (l:Option (List Nat)) (K:St→Option Ans) (st:St):Option Ans:=
 match l with
 | none=>K st
 | some l=>match canon l st with
  | some st=>forceSt st K
  | none=>none
variable (J:Nat→Option Blk) (kp:Nat→Option (List Nat)) (fuel:Nat)
def evalCode:Code→St→(Ex→St→Option Ans)→Option Ans
 | .skip,st,K=>K .normal st
 | .region id ops draw,st,K=>match draw with
  | false=>evalOps tab G ops ops.toList st (K .normal)
  | true=>
   let ts:=aside st (match kp (200000 + id) with
    | some l=>addAll [] (slotsOf st l)
    | none=>bif stills ops.toList then addAll [] (st.hp.map (·.1)) else [])
   evalAny tab G ops.toList ts (fun st2=>bif asideOk st2.hp ts then normK (kp (900000 + id)) (K .normal) { st2 with hp:=ts++mapI (fun i=>Ob.flag (flagT st.hp i)) st2.hp,n:=st.n } else none) ops.toList.length (List.replicate ops.toList.length false)
    { st with hp:=deads (ts.map (·.1))++mapI (fun _=>Ob.clean) st.hp,n:=st.nx }
 | .seq a b,st,K=>evalCode a st fun e st=>match e with
  | .normal=>(match J (key b) with
   | some sp=>sp st K
   | none=>evalCode b st K)
  | .exit i=>K (.exit i) st
  | .ret=>K .ret st
 | .cond c a b,st,K=>match opd st c with
  | some (.c (.bool p))=>match p with
   | true=>evalCode a st K
   | false=>evalCode b st K
  | _=>none
 | .block id c,st,K=>match J (100000 + id) with
  | some sp=>sp st K
  | none=>evalCode c st fun e st=>match e with
   | .normal=>(match canonO (kp (100000 + id)) st with | some st=>K .normal st | none=>none)
   | .exit i=>bif Nat.beq i id then (match canonO (kp (100000 + id)) st with | some st=>K .normal st | none=>none) else (match canonO (kp (400000 + id)) st with | some st=>K (.exit i) st | none=>none)
   | .ret=>(match canonO (kp (400000 + id)) st with | some st=>K .ret st | none=>none)
 | .loop c,st,K=>match canonO (kp (key c)) st with
  | some st=>loopK (evalCode c) (canonO (kp (key c))) K fuel st
  | none=>none
 | .exit id,st,K=>K (.exit id) st
 | .ret,st,K=>K .ret st
 | _,_,_=>none
def resV (st:St):List ResultVar→Option (List (Bool×List SC))
 | []=>some []
 | .tmp t::r=>match look t st.env with
  | some (.c x)=>(match resV st r with | some l=>some ((false,[x])::l) | none=>none)
  | some (.agg cs)=>(match resV st r with | some l=>some ((true,cs)::l) | none=>none)
  | _=>none
 | .cell a t::r=>match look a st.env,tab t with
  | some (.c (.ptr i 0)),some ti=>match look i st.hp with
   | some (.cells _ cs)=>(match part ti cs 0 with
    | some (.agg cs)=>(match resV st r with | some l=>some ((true,cs)::l) | none=>none)
    | some (.c x)=>(match resV st r with | some l=>some ((false,[x])::l) | none=>none)
    | _=>none)
   | _=>none
  | _,_=>none
def resOf:List (Bool×List SC)→SV
 | [(true,cs)]=>.agg cs
 | [(false,[x])]=>.c x
 | l=>.tup l
def finish (rs:List ResultVar) (st:St):Option Res:=
 match resV tab st rs with
 | some l=>
  let v:=resOf l
  let s:=addAll (upto st.n 0) (v.cells.flatMap SC.refs)
  let ids:=clos st.hp 200 s s
  bif nodup ids&&first st.n ids then some (v.map (ren ids),obs st.hp ids ids) else none
 | none=>none
def newer (n:Nat):List Nat→List Nat
 | []=>[]
 | i::r=>bif Nat.ble n i then i::newer n r else newer n r
def frzRes (l:Option (List Nat)) (rs:List ResultVar) (st:St):St:=
 match l with
 | none=>st
 | some _=>match resV tab st rs with
  | some l=>freeze (newer st.n (addAll [] (l.flatMap fun p=>p.2.flatMap SC.owns))) st
  | none=>st
def opsFit (nt:Nat):List Oper→Bool
 | []=>true
 | o::r=>bif (match o.dst with | some d=>Nat.blt d nt | none=>true) then opsFit nt r else false
def codeFit (nt:Nat):Code→Bool
 | .region _ ops draw=>bif opsFit nt ops.toList then (match draw with | true=>pairsB ops.toList ops.toList 0 | false=>true) else false
 | .seq a b=>bif codeFit nt a then codeFit nt b else false
 | .cond _ a b=>bif codeFit nt a then codeFit nt b else false
 | .block _ c=>codeFit nt c
 | .loop c=>codeFit nt c
 | _=>true
def evalFn (fn:Func):Spec:=fun args objs k=>match fn.body with
 | some c=>bif Nat.ble args.length fn.ntmps&&codeFit fn.ntmps c then
   evalCode tab G J kp fuel c { env:=number 0 args,hp:=number 0 objs,nx:=objs.length,n:=objs.length } fun e st=>match e with
    | .exit _=>none
    | .normal=>(match finish tab fn.results.toList (frzRes tab (kp 600000) fn.results.toList st) with | some r=>k r | none=>none)
    | .ret=>(match finish tab fn.results.toList (frzRes tab (kp 600000) fn.results.toList st) with | some r=>k r | none=>none)
  else none
 | none=>none
end
end Go.Proofs.YtohnjbmiaegofaaGreat.Ev
