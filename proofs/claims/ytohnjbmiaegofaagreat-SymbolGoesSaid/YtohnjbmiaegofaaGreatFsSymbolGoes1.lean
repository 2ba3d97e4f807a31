/- What the functions that SymbolGoes reaches do: their typed texts, each with the proof that the machine does it. No condition. -/
import Derived.Test.YtohnjbmiaegofaaGreatEvX
set_option linter.unusedVariables false
set_option linter.unusedSimpArgs false
set_option linter.unusedSectionVars false
namespace Go.Proofs.YtohnjbmiaegofaaGreat
open Go Ev Tryz
open Go.IntKind (i64 u64 u8 i32 u32 u16)
noncomputable section
def ctb (r:List SC):List SC:=.int .i64 2048::.int .i64 1792::.int .i64 1568::.int .i64 1372::.int .i64 1201::.int .i64 1051::.int .i64 920::.int .i64 805::.int .i64 705::.int .i64 617::.int .i64 540::.int .i64 473::.int .i64 414::.int .i64 363::.int .i64 318::.int .i64 279::.int .i64 245::.int .i64 215::.int .i64 189::.int .i64 166::.int .i64 146::.int .i64 128::.int .i64 112::.int .i64 98::.int .i64 86::.int .i64 76::.int .i64 67::.int .i64 59::.int .i64 52::.int .i64 46::.int .i64 41::.int .i64 36::r
def ctn:List (IntKind×Int):=[(.i64,2048),(.i64,1792),(.i64,1568),(.i64,1372),(.i64,1201),(.i64,1051),(.i64,920),(.i64,805),(.i64,705),(.i64,617),(.i64,540),(.i64,473),(.i64,414),(.i64,363),(.i64,318),(.i64,279),(.i64,245),(.i64,215),(.i64,189),(.i64,166),(.i64,146),(.i64,128),(.i64,112),(.i64,98),(.i64,86),(.i64,76),(.i64,67),(.i64,59),(.i64,52),(.i64,46),(.i64,41),(.i64,36)]
def u8t:List UInt8:=([(0:UInt8),(1:UInt8),(2:UInt8),(2:UInt8),(3:UInt8),(3:UInt8),(3:UInt8),(3:UInt8),(4:UInt8),(4:UInt8),(4:UInt8),(4:UInt8),(4:UInt8),(4:UInt8),(4:UInt8),(4:UInt8),(5:UInt8),(5:UInt8),(5:UInt8),(5:UInt8),(5:UInt8),(5:UInt8),(5:UInt8),(5:UInt8),(5:UInt8),(5:UInt8),(5:UInt8),(5:UInt8),(5:UInt8),(5:UInt8),(5:UInt8),(5:UInt8),(6:UInt8),(6:UInt8),(6:UInt8),(6:UInt8),(6:UInt8),(6:UInt8),(6:UInt8),(6:UInt8),(6:UInt8),(6:UInt8),(6:UInt8),(6:UInt8),(6:UInt8),(6:UInt8),(6:UInt8),(6:UInt8),(6:UInt8),(6:UInt8),(6:UInt8),(6:UInt8),(6:UInt8),(6:UInt8),(6:UInt8),(6:UInt8),(6:UInt8),(6:UInt8),(6:UInt8),(6:UInt8),(6:UInt8),(6:UInt8),(6:UInt8),(6:UInt8)].append [(7:UInt8),(7:UInt8),(7:UInt8),(7:UInt8),(7:UInt8),(7:UInt8),(7:UInt8),(7:UInt8),(7:UInt8),(7:UInt8),(7:UInt8),(7:UInt8),(7:UInt8),(7:UInt8),(7:UInt8),(7:UInt8),(7:UInt8),(7:UInt8),(7:UInt8),(7:UInt8),(7:UInt8),(7:UInt8),(7:UInt8),(7:UInt8),(7:UInt8),(7:UInt8),(7:UInt8),(7:UInt8),(7:UInt8),(7:UInt8),(7:UInt8),(7:UInt8),(7:UInt8),(7:UInt8),(7:UInt8),(7:UInt8),(7:UInt8),(7:UInt8),(7:UInt8),(7:UInt8),(7:UInt8),(7:UInt8),(7:UInt8),(7:UInt8),(7:UInt8),(7:UInt8),(7:UInt8),(7:UInt8),(7:UInt8),(7:UInt8),(7:UInt8),(7:UInt8),(7:UInt8),(7:UInt8),(7:UInt8),(7:UInt8),(7:UInt8),(7:UInt8),(7:UInt8),(7:UInt8),(7:UInt8),(7:UInt8),(7:UInt8),(7:UInt8)]).append ([(8:UInt8),(8:UInt8),(8:UInt8),(8:UInt8),(8:UInt8),(8:UInt8),(8:UInt8),(8:UInt8),(8:UInt8),(8:UInt8),(8:UInt8),(8:UInt8),(8:UInt8),(8:UInt8),(8:UInt8),(8:UInt8),(8:UInt8),(8:UInt8),(8:UInt8),(8:UInt8),(8:UInt8),(8:UInt8),(8:UInt8),(8:UInt8),(8:UInt8),(8:UInt8),(8:UInt8),(8:UInt8),(8:UInt8),(8:UInt8),(8:UInt8),(8:UInt8),(8:UInt8),(8:UInt8),(8:UInt8),(8:UInt8),(8:UInt8),(8:UInt8),(8:UInt8),(8:UInt8),(8:UInt8),(8:UInt8),(8:UInt8),(8:UInt8),(8:UInt8),(8:UInt8),(8:UInt8),(8:UInt8),(8:UInt8),(8:UInt8),(8:UInt8),(8:UInt8),(8:UInt8),(8:UInt8),(8:UInt8),(8:UInt8),(8:UInt8),(8:UInt8),(8:UInt8),(8:UInt8),(8:UInt8),(8:UInt8),(8:UInt8),(8:UInt8)].append [(8:UInt8),(8:UInt8),(8:UInt8),(8:UInt8),(8:UInt8),(8:UInt8),(8:UInt8),(8:UInt8),(8:UInt8),(8:UInt8),(8:UInt8),(8:UInt8),(8:UInt8),(8:UInt8),(8:UInt8),(8:UInt8),(8:UInt8),(8:UInt8),(8:UInt8),(8:UInt8),(8:UInt8),(8:UInt8),(8:UInt8),(8:UInt8),(8:UInt8),(8:UInt8),(8:UInt8),(8:UInt8),(8:UInt8),(8:UInt8),(8:UInt8),(8:UInt8),(8:UInt8),(8:UInt8),(8:UInt8),(8:UInt8),(8:UInt8),(8:UInt8),(8:UInt8),(8:UInt8),(8:UInt8),(8:UInt8),(8:UInt8),(8:UInt8),(8:UInt8),(8:UInt8),(8:UInt8),(8:UInt8),(8:UInt8),(8:UInt8),(8:UInt8),(8:UInt8),(8:UInt8),(8:UInt8),(8:UInt8),(8:UInt8),(8:UInt8),(8:UInt8),(8:UInt8),(8:UInt8),(8:UInt8),(8:UInt8),(8:UInt8),(8:UInt8)])
def qb:List Nat→List Nat→Bool
 | [],[]=>true
 | a::x,b::y=>Nat.beq a b&&qb x y
 | _,_=>false
theorem qb_eq:∀ {x y:List Nat},qb x y=true→x=y
 | [],[],_=>rfl
 | [],_::_,h=>by cases h
 | _::_,[],h=>by cases h
 | a::x,b::y,h=>by
  have h:(Nat.beq a b&&qb x y)=true:=h
  rw [Bool.and_eq_true] at h
  rw [Nat.eq_of_beq_eq_true h.1,qb_eq h.2]
theorem w6 {x:Int} (h1: -9223372036854775808≤x:=by omega) (h2:x≤9223372036854775807:=by omega):i64.wrap x=x:=by
 simp [IntKind.wrap,IntKind.min,IntKind.max,IntKind.signed,IntKind.bits]
 omega
theorem fo0 {G:Nat→Option Ev.Spec} {J:Nat→Option Ev.Blk} {kp:Nat→Option (List Nat)} {fuel:Nat} {f:FuncId} {fn:Func} (hG:GOK Tryz.prog G) (hf:Tryz.prog.funcs[f]? =some fn) (hb:fn.body=some (fn.body.getD .skip)) (h:obl J (fn.body.getD .skip)= []):FnOK Tryz.prog f (evalFn tab G J kp fuel fn):=
  fn_ok tab_ok hG mixed hf (c:=fn.body.getD .skip) hb (fun q hq=>by
    rw [h] at hq
    cases hq)
@[match_pattern] abbrev i6 (x:Int):Ev.SC:=.int .i64 x
abbrev LI:Type:=List Int
abbrev OA:Type:=Option Ans
abbrev KT:Type:=Ev.Ex→Ev.St→Option Ans
def J0 (i:Nat):Option Ev.Blk:=Ev.look i []
@[match_pattern] abbrev tq : Ev.Ty := .pair (.int .i64) (.pair (.int .i64) (.sl (.int .u8)))
@[match_pattern] abbrev ti : Ev.Ty := .int .i64
abbrev BM : Type := Int × (Int × LI)
theorem kr {p : Prop} (h : p := by kernel_rfl) : p := h
theorem q0 {p : Prop} (h : p := by omega) : p := h
theorem gc {k:Nat} {v:Ev.Spec} {r:List (Nat×Ev.Spec)} {fn:Func} {c:Code} (h:FnOK prog (k % 1000000) v) (hf:prog.funcs[k % 1000000]? =some fn) (hn:(fn.name== "runtime.NumGoroutine")=false) (hb:fn.body=some c) (hr:GOK prog (fun f=>Ev.look f r)):GOK prog (fun f=>Ev.look f ((k,v)::r)):=gok_cons ⟨h,enters_of hf hn hb⟩ hr
theorem bo0 {G:Nat→Option Ev.Spec} {J:Nat→Option Ev.Blk} {kp:Nat→Option (List Nat)} {Z nt:Nat} {b:Code} {sp:Ev.Blk} (hG:GOK prog G) (hfit:codeFit nt b=true) (h:obl J b= []) (hs:∀ st K r,sp st K=some r→evalCode tab G J kp Z b st K=some r):BlkOK prog nt b sp:=
 blk_of (blk_of_code tab_ok hG mixed hfit (fun q hq=>by
  rw [h] at hq
  cases hq)) hs
theorem fo1 {G:Nat→Option Ev.Spec} {J:Nat→Option Ev.Blk} {kp:Nat→Option (List Nat)} {Z:Nat} {f:FuncId} {fn:Func} {b:Code} {sp:Ev.Blk} (hG:GOK prog G) (hf:prog.funcs[f]? =some fn) (hb:fn.body=some (fn.body.getD .skip)) (hk:BlkOK prog fn.ntmps b sp) (h:obl J (fn.body.getD .skip)= [(b,sp)]):FnOK prog f (evalFn tab G J kp Z fn):=
 fn_ok tab_ok hG mixed hf (c:=fn.body.getD .skip) hb (fun q hq=>by
  rw [h] at hq
  simp only [List.mem_cons,List.not_mem_nil,or_false] at hq
  subst hq
  exact hk)
def Pc (i:Nat):Option (List Nat):=Ev.look i []
def JY (f:Nat):Option Ev.Spec:=Ev.look f []
def BV (Z:Nat):Nat→Option Ev.Spec:=JY
def aw (Z:Nat) (b c d:Int) (a:Bool) (e f:LI) (k0:(Bool×Int×Int×Int×Bool×LI×LI)→OA):OA:=k0 (!a,b,c,d,a,e,f)
abbrev aZ:Type:=Int→Int→Int→Bool→LI→LI→((Bool×Int×Int×Int×Bool×LI×LI)→OA)→OA
theorem GQ (Z:Nat) (a b d:Int) (e:Bool) (f g:LI) (k:Ev.Cont):evalFn tab (BV Z) J0 Pc Z Tryz.f81 [.c (.ptr 0 0)] [.cells 138 (i6 a::.own 1::ctb (.int .u64 b::.int .u64 d::.own 2::.bool e::[])),.vec 3 ti f false,.vec 5 (.int .u8) g false] k=aw Z a b d e f g (fun r=>match r with | (h,i,j,l,m,n,o)=>k (.c (.bool h),[.cells 138 (i6 i::.own 1::ctb (.int .u64 j::.int .u64 l::.own 2::.bool m::[])),.vec 3 ti n false,.vec 5 (.int .u8) o false])):=by
 kernel_rfl
theorem EF (Z:Nat):GOK prog (BV Z):=
 gok_nil
def jK (F:aZ):Ev.Spec:=fun args objs k=>match args,objs with | [.c (.ptr b d)],[.cells e a,.vec f ti g false,.vec h (.int .u8) i false]=>(match splitRun 2 ctn a with | some ([i6 j,.own l],[.int .u64 m,.int .u64 n,.own o,.bool p])=>bif qb [b,d,e,f,h,l,o] [0,0,138,3,5,1,2] then F j m n p g i (fun r=>match r with | (q,s,t,u,v,w,x)=>k (.c (.bool q),[.cells 138 (i6 s::.own 1::ctb (.int .u64 t::.int .u64 u::.own 2::.bool v::[])),.vec 3 ti w false,.vec 5 (.int .u8) x false])) else none | _=>none) | _,_=>none
theorem vw (Z:Nat):FnOK prog 81 (jK (aw Z)):=by
 intro args objs kk r h
 unfold jK at h
 split at h
 ·skip
  split at h
  rotate_left 1
  ·cases h
  rename_i hsp
  have esp:=splitRun_eq hsp
  subst esp
  obtain ⟨hb,h⟩:=cond_some' h
  cases qb_eq hb
  exact fo0 (EF Z) func81 rfl kr _ _ kk r ((GQ Z _ _ _ _ _ _ kk).trans h)
 ·cases h
def cQ (i:Nat):Option (List Nat):=Ev.look i [(5,[0,3,15]),(10,[0,3,37,38]),(100000,[3]),(100002,[3]),(200008,[0]),(400000,[2]),(400002,[2])]
def np (a:aZ) (f:Nat):Option Ev.Spec:=Ev.look f [(81,jK a)]
def oZ (Z:Nat):Nat→Option Ev.Spec:=np (aw Z)
abbrev ye:Type:=Int×Int×Int×Int×Int×Bool×LI×LI×LI
abbrev xe:Type:=(Int×Int×Int×Bool×LI×LI×LI→OA)
def mu (Z:Nat) (l:aZ) (f a:Int) (g h d:Int) (i:Bool) (j k e:LI) (c:ye→OA) (B:xe):OA:=match B with | b=>bif decide (a < f) then bif decide (i64.wrap (24 - i64.wrap (8*a)) < 0) then none else bif decide ((e.length+ [u8.wrap (Ev.ishr IntKind.u64 d (i64.wrap ((24:Int) - i64.wrap ((8:Int)*a))))].length)*(1:Nat)≤(140737488355328:Nat)∧e.length+ [u8.wrap (Ev.ishr IntKind.u64 d (i64.wrap ((24:Int) - i64.wrap ((8:Int)*a))))].length≤(140737488355328:Nat)) then c (f,i64.wrap (a+(1:Int)),g,h,d,i,j,k,e++ [u8.wrap (Ev.ishr IntKind.u64 d (i64.wrap ((24:Int) - i64.wrap ((8:Int)*a))))]) else none else b (g,h,d,i,j,k,e)
def gd (Z:Nat) (v:Int×Int×Int×Int×Int×Bool×LI×LI×LI) (c:(Int×Int×Int×Int×Int×Bool×LI×LI×LI)→OA) (B:(Int×Int×Int×Bool×LI×LI×LI→OA)):OA:=match v with | (a,b,d,e,f,g,h,i,j)=>mu Z (aw Z) a b d e f g h i j c B
def rf (Z:Nat) (v:ye) (b:xe):OA:=iter (gd Z) Z v b
def qY (v:ye):Ev.St:=match v with | (a,b,d,e,f,g,h,i,j)=>⟨[(0,.c (.ptr 0 0)),(3,.c (.own 3)),(37,.c (i6 a)),(38,.c (i6 b))],[(0,.cells 138 (i6 d::.own 1::ctb (.int .u64 e::.int .u64 f::.own 2::.bool g::[]))),(1,.vec 3 ti h false),(2,.vec 5 (.int .u8) i false),(3,.vec 5 (.int .u8) j true)],4,3⟩
def tw (K:KT):xe:=(fun v=>match v with | (a,b,d,e,f,g,h)=>K .normal ⟨[(3,.c (.own 3))],[(0,.cells 138 (i6 a::.own 1::ctb (.int .u64 b::.int .u64 d::.own 2::.bool e::[]))),(1,.vec 3 ti f false),(2,.vec 5 (.int .u8) g false),(3,.vec 5 (.int .u8) h true)],4,3⟩)
theorem FH (Z:Nat) (a:aZ) (R:Ev.St→OA) (K:KT) (b c:Int) (d e f:Int) (g:Bool) (h i j:LI):evalCode tab (np a) J0 cQ Z (bodyOf 2 Tryz.f33) (qY (b,c,d,e,f,g,h,i,j)) (lc cQ 10 2 R K)=mu Z a b c d e f g h i j (fun v=>R (qY v)) (tw K):=by
 kernel_rfl
def gt (Z:Nat):Ev.Blk:=fun st K=>match canonO (cQ 10) st with | some s=>(match s with | ⟨[(l,.c (.ptr m n)),(o,.c (.own p)),(q,.c (i6 r)),(t,.c (i6 u))],[(v,.cells w a),(x,.vec b ti y false),(d,.vec e (.int .u8) z false),(f,.vec g (.int .u8) A true)],h,i⟩=>(match splitRun 2 ctn a with | some ([i6 B,.own j],[.int .u64 C,.int .u64 D,.own k,.bool E])=>bif qb [l,m,n,o,p,q,t,v,w,x,b,d,e,f,g,h,i,j,k] [0,0,0,3,3,37,38,0,138,1,3,2,5,3,5,4,3,1,2] then iter (gd Z) Z (r,u,B,C,D,E,y,z,A) (tw K) else none | _=>none) | _=>none) | none=>none
theorem O1 (Z:Nat) (st:Ev.St) (K:KT) (r:Ans) (h:gt Z st K=some r):evalCode tab (oZ Z) J0 cQ Z (.block 2 (.loop (bodyOf 2 Tryz.f33))) st K=some r:=by
 unfold gt at h
 split at h
 ·rename_i s hs
  split at h
  ·skip
   split at h
   rotate_left 1
   ·cases h
   rename_i hsp
   have esp:=splitRun_eq hsp
   subst esp
   obtain ⟨hb,h⟩:=cond_some' h
   cases qb_eq hb
   exact blk_loop (S:=qY) (ks:=tw) (step:=gd Z) (v:=(_,_,_,_,_,_,_,_,_)) kr kr (fun R K v=>by obtain ⟨a,b,c,d,e,f,g,i,j⟩:=v; exact FH Z (aw Z) R K a b c d e f g i j) hs h
  ·cases h
 ·cases h
abbrev ux:Type:=Int×Int×Int×Int×Bool×LI×LI×LI
abbrev C7:Type:=(Int×Int×Int×Bool×LI×LI×LI→OA)×(Int×Int×Int×Bool×LI×LI×LI→OA)
def ny (Z:Nat) (r:aZ) (a f:Int) (d e:Int) (g:Bool) (h i j:LI) (c:ux→OA) (B:C7):OA:=match B with | (ret,b)=>bif decide (a < 5) then bif decide (u64.wrap (i64.wrap (32 - i64.wrap (8*a))) < 0) then none else bif decide (u64.wrap (i64.wrap (32 - i64.wrap (8*a))) < 0) then none else bif decide (Ev.ishl IntKind.u64 (Ev.ishr IntKind.u64 e (u64.wrap (i64.wrap (32 - i64.wrap (8*a))))) (u64.wrap (i64.wrap (32 - i64.wrap (8*a))))≥d) then (rf Z (a,0,f,d,e,g,h,i,j) (fun (k,l,m,n,o,p,q)=>ret (k,l,m,n,o,p,q))) else c (i64.wrap (a+1),f,d,e,g,h,i,j) else b (f,d,e,g,h,i,j)
def gz (Z:Nat) (v:Int×Int×Int×Int×Bool×LI×LI×LI) (c:(Int×Int×Int×Int×Bool×LI×LI×LI)→OA) (B:(Int×Int×Int×Bool×LI×LI×LI→OA)×(Int×Int×Int×Bool×LI×LI×LI→OA)):OA:=match v with | (a,b,d,e,f,g,h,i)=>ny Z (aw Z) a b d e f g h i c B
def Cb (Z:Nat) (v:ux) (ret:(Int×Int×Int×Bool×LI×LI×LI→OA)) (b:(Int×Int×Int×Bool×LI×LI×LI→OA)):OA:=iter (gz Z) Z v (ret,b)
def mC (Z:Nat) (i:Nat):Option Ev.Blk:=Ev.look i [(100002,gt Z)]
def oY (v:ux):Ev.St:=match v with | (a,b,d,e,f,g,h,i)=>⟨[(0,.c (.ptr 0 0)),(3,.c (.own 3)),(15,.c (i6 a))],[(0,.cells 138 (i6 b::.own 1::ctb (.int .u64 d::.int .u64 e::.own 2::.bool f::[]))),(1,.vec 3 ti g false),(2,.vec 5 (.int .u8) h false),(3,.vec 5 (.int .u8) i true)],4,3⟩
def wK (K:KT):C7:=((fun v=>match v with | (a,b,d,e,f,g,h)=>K .ret ⟨[(2,.c (.own 3))],[(0,.cells 138 (i6 a::.own 1::ctb (.int .u64 b::.int .u64 d::.own 2::.bool e::[]))),(1,.vec 3 ti f false),(2,.vec 5 (.int .u8) g false),(3,.vec 5 (.int .u8) h true)],4,3⟩),(fun v=>match v with | (a,b,d,e,f,g,h)=>K .normal ⟨[(3,.c (.own 3))],[(0,.cells 138 (i6 a::.own 1::ctb (.int .u64 b::.int .u64 d::.own 2::.bool e::[]))),(1,.vec 3 ti f false),(2,.vec 5 (.int .u8) g false),(3,.vec 5 (.int .u8) h true)],4,3⟩))
theorem Ip (Z:Nat) (a:aZ) (R:Ev.St→OA) (K:KT) (b c:Int) (d e:Int) (f:Bool) (g h i:LI):evalCode tab (np a) (mC Z) cQ Z (bodyOf 0 Tryz.f33) (oY (b,c,d,e,f,g,h,i)) (lc cQ 5 0 R K)=ny Z a b c d e f g h i (fun v=>R (oY v)) (wK K):=by
 kernel_rfl
def ms (Z:Nat):Ev.Blk:=fun st K=>match canonO (cQ 5) st with | some s=>(match s with | ⟨[(k,.c (.ptr l m)),(n,.c (.own o)),(p,.c (i6 q))],[(r,.cells t a),(u,.vec v ti w false),(b,.vec d (.int .u8) x false),(e,.vec f (.int .u8) y true)],g,h⟩=>(match splitRun 2 ctn a with | some ([i6 z,.own i],[.int .u64 A,.int .u64 B,.own j,.bool C])=>bif qb [k,l,m,n,o,p,r,t,u,v,b,d,e,f,g,h,i,j] [0,0,0,3,3,15,0,138,1,3,2,5,3,5,4,3,1,2] then iter (gz Z) Z (q,z,A,B,C,w,x,y) (wK K) else none | _=>none) | _=>none) | none=>none
theorem Kq (Z:Nat) (st:Ev.St) (K:KT) (r:Ans) (h:ms Z st K=some r):evalCode tab (oZ Z) (mC Z) cQ Z (.block 0 (.loop (bodyOf 0 Tryz.f33))) st K=some r:=by
 unfold ms at h
 split at h
 ·rename_i s hs
  split at h
  ·skip
   split at h
   rotate_left 1
   ·cases h
   rename_i hsp
   have esp:=splitRun_eq hsp
   subst esp
   obtain ⟨hb,h⟩:=cond_some' h
   cases qb_eq hb
   exact blk_loop (S:=oY) (ks:=wK) (step:=gz Z) (v:=(_,_,_,_,_,_,_,_)) kr kr (fun R K v=>by obtain ⟨a,b,c,d,e,f,g,i⟩:=v; exact Ip Z (aw Z) R K a b c d e f g i) hs h
  ·cases h
 ·cases h
def IW (Z:Nat) (i:Nat):Option Ev.Blk:=Ev.look i [(100002,gt Z),(100000,ms Z)]
def xT (Z:Nat) (g:aZ) (p q r:Int) (s:Bool) (t u:LI) (k0:(Int×Int×Int×Bool×LI×LI×LI)→OA):OA:=(g p q r s t u (fun (h,b,c,d,e,f,a)=>bif h then k0 (b,c,d,e,f,a,[]) else bif decide (((0:Nat)+a.length)*(1:Nat)≤(140737488355328:Nat)∧(0:Nat)+a.length≤(140737488355328:Nat)) then (Cb Z ((0:Int),b,c,d,e,f,a,[]++a) (fun (ret0_0,ret0_1,ret0_2,ret0_3,ret0_4,ret0_5,ret0_6)=>k0 (ret0_0,ret0_1,ret0_2,ret0_3,ret0_4,ret0_5,ret0_6)) (fun (i,j,k,l,m,n,o)=>k0 (i,j,k,l,m,n,o))) else none))
abbrev iY:Type:=Int→Int→Int→Bool→LI→LI→((Int×Int×Int×Bool×LI×LI×LI)→OA)→OA
def gW (Z:Nat):iY:=xT Z (aw Z)
theorem Il (Z:Nat) (a:aZ) (b d e:Int) (f:Bool) (g h:LI) (k:Ev.Cont):evalFn tab (np a) (IW Z) cQ Z Tryz.f33 [.c (.ptr 0 0)] [.cells 138 (i6 b::.own 1::ctb (.int .u64 d::.int .u64 e::.own 2::.bool f::[])),.vec 3 ti g false,.vec 5 (.int .u8) h false] k=xT Z a b d e f g h (fun r=>match r with | (i,j,l,m,n,o,p)=>k (.c (.own 3),[.cells 138 (i6 i::.own 1::ctb (.int .u64 j::.int .u64 l::.own 2::.bool m::[])),.vec 3 ti n false,.vec 5 (.int .u8) o false,.vec 5 (.int .u8) p true])):=by
 kernel_rfl
theorem vH (Z:Nat):GOK prog (oZ Z):=
 gc (vw Z) func81 kr rfl <|
 gok_nil
theorem ET (Z:Nat):BlkOK prog Tryz.f33.ntmps (.block 2 (.loop (bodyOf 2 Tryz.f33))) (gt Z):=bo0 (vH Z) kr kr (O1 Z)
theorem Lx (Z:Nat):BlkOK prog Tryz.f33.ntmps (.block 0 (.loop (bodyOf 0 Tryz.f33))) (ms Z):=
 blk_of (blk_of_code tab_ok (vH Z) mixed (J:=mC Z) (kp:=cQ) (fuel:=Z) kr (fun q hq=>by
  rw [(by kernel_rfl:obl (mC Z) (.block 0 (.loop (bodyOf 0 Tryz.f33)))= [(.block 2 (.loop (bodyOf 2 Tryz.f33)),gt Z)])] at hq
  simp only [List.mem_cons,List.not_mem_nil,or_false] at hq
  subst hq
  ·exact ET Z)) (Kq Z)
def wA (F:iY):Ev.Spec:=fun args objs k=>match args,objs with | [.c (.ptr b d)],[.cells e a,.vec f ti g false,.vec h (.int .u8) i false]=>(match splitRun 2 ctn a with | some ([i6 j,.own l],[.int .u64 m,.int .u64 n,.own o,.bool p])=>bif qb [b,d,e,f,h,l,o] [0,0,138,3,5,1,2] then F j m n p g i (fun r=>match r with | (q,s,t,u,v,w,x)=>k (.c (.own 3),[.cells 138 (i6 q::.own 1::ctb (.int .u64 s::.int .u64 t::.own 2::.bool u::[])),.vec 3 ti v false,.vec 5 (.int .u8) w false,.vec 5 (.int .u8) x true])) else none | _=>none) | _,_=>none
def yr (Z:Nat):Ev.Spec:=wA (gW Z)
theorem DB (Z:Nat):FnOK prog 33 (yr Z):=by
 intro args objs kk r h
 unfold yr wA at h
 split at h
 ·skip
  split at h
  rotate_left 1
  ·cases h
  rename_i hsp
  have esp:=splitRun_eq hsp
  subst esp
  obtain ⟨hb,h⟩:=cond_some' h
  cases qb_eq hb
  exact fo1 (vH Z) func33 rfl (Lx Z) kr _ _ kk r ((Il Z (aw Z) _ _ _ _ _ _ kk).trans h)
 ·cases h
def Qg (i:Nat):Option (List Nat):=Ev.look i [(200001,[1])]
def Js (f:Nat):Option Ev.Spec:=Ev.look f []
def Ed (Z:Nat):Nat→Option Ev.Spec:=Js
def bW (Z:Nat) (b:Int) (a:LI) (k0:(Int×LI)→OA):OA:=bif decide (((0:Nat)+a.length)*(8:Nat)≤(140737488355328:Nat)∧(0:Nat)+a.length≤(140737488355328:Nat)) then k0 (b,[]++a) else none
abbrev cR:Type:=Int→LI→((Int×LI)→OA)→OA
theorem Kh (Z:Nat) (a:Int) (b:LI) (k:Ev.Cont):evalFn tab (Ed Z) J0 Qg Z Tryz.f83 [.agg [i6 a,.sl ti b]] [] k=bW Z a b (fun r=>match r with | (c,d)=>k (.agg [i6 c,.own 0],[.vec 3 ti d true])):=by
 kernel_rfl
theorem EQ (Z:Nat):GOK prog (Ed Z):=
 gok_nil
def kP (F:cR):Ev.Spec:=fun args objs k=>match args,objs with | [.agg [i6 a,.sl ti b]],[]=>F a b (fun r=>match r with | (c,d)=>k (.agg [i6 c,.own 0],[.vec 3 ti d true])) | _,_=>none
theorem qX (Z:Nat):FnOK prog 83 (kP (bW Z)):=by
 intro args objs kk r h
 unfold kP at h
 split at h
 ·skip
  exact fo0 (EQ Z) func83 rfl kr _ _ kk r ((Kh Z _ _ kk).trans h)
 ·cases h
def N0 (i:Nat):Option (List Nat):=Ev.look i []
def Cc (a:aZ) (b:cR) (f:Nat):Option Ev.Spec:=Ev.look f [(81,jK a),(83,kP b)]
def OI (Z:Nat):Nat→Option Ev.Spec:=Cc (aw Z) (bW Z)
def tN (Z:Nat) (g:aZ) (k:cR) (l m n:Int) (o:Bool) (p q:LI) (k0:(Int×Int×Int×Int×Bool×LI×LI×LI)→OA):OA:=(g l m n o p q (fun (h,a,c,d,e,b,f)=>bif h then k0 (0,a,c,d,e,b,f,[]) else (k a b (fun (i,j)=>k0 (i,a,c,d,e,b,f,j)))))
abbrev aC:Type:=Int→Int→Int→Bool→LI→LI→((Int×Int×Int×Int×Bool×LI×LI×LI)→OA)→OA
def am (Z:Nat):aC:=tN Z (aw Z) (bW Z)
theorem Fs (Z:Nat) (a:aZ) (b:cR) (d e f:Int) (g:Bool) (h i:LI) (k:Ev.Cont):evalFn tab (Cc a b) J0 N0 Z Tryz.f35 [.c (.ptr 0 0)] [.cells 138 (i6 d::.own 1::ctb (.int .u64 e::.int .u64 f::.own 2::.bool g::[])),.vec 3 ti h false,.vec 5 (.int .u8) i false] k=tN Z a b d e f g h i (fun r=>match r with | (j,l,m,n,o,p,q,s)=>k (.agg [i6 j,.own 3],[.cells 138 (i6 l::.own 1::ctb (.int .u64 m::.int .u64 n::.own 2::.bool o::[])),.vec 3 ti p false,.vec 5 (.int .u8) q false,.vec 3 ti s true])):=by
 kernel_rfl
theorem GI (Z:Nat):GOK prog (OI Z):=
 gc (vw Z) func81 kr rfl <|
 gc (qX Z) func83 kr rfl <|
 gok_nil
def fp (F:aC):Ev.Spec:=fun args objs k=>match args,objs with | [.c (.ptr b d)],[.cells e a,.vec f ti g false,.vec h (.int .u8) i false]=>(match splitRun 2 ctn a with | some ([i6 j,.own l],[.int .u64 m,.int .u64 n,.own o,.bool p])=>bif qb [b,d,e,f,h,l,o] [0,0,138,3,5,1,2] then F j m n p g i (fun r=>match r with | (q,s,t,u,v,w,x,y)=>k (.agg [i6 q,.own 3],[.cells 138 (i6 s::.own 1::ctb (.int .u64 t::.int .u64 u::.own 2::.bool v::[])),.vec 3 ti w false,.vec 5 (.int .u8) x false,.vec 3 ti y true])) else none | _=>none) | _,_=>none
def u7 (Z:Nat):Ev.Spec:=fp (am Z)
theorem ij (Z:Nat):FnOK prog 35 (u7 Z):=by
 intro args objs kk r h
 unfold u7 fp at h
 split at h
 ·skip
  split at h
  rotate_left 1
  ·cases h
  rename_i hsp
  have esp:=splitRun_eq hsp
  subst esp
  obtain ⟨hb,h⟩:=cond_some' h
  cases qb_eq hb
  exact fo0 (GI Z) func35 rfl kr _ _ kk r ((Fs Z (aw Z) (bW Z) _ _ _ _ _ _ kk).trans h)
 ·cases h
def L6 (i:Nat):Option (List Nat):=Ev.look i []
def P2 (f:Nat):Option Ev.Spec:=Ev.look f []
def zS (Z:Nat):Nat→Option Ev.Spec:=P2
def aS (Z:Nat) (b c:Int) (d e:Int) (f g:Int) (h a:Bool) (i j:LI) (k0:(Bool×Int×Int×Int×Int×Int×Int×Bool×Bool×LI×LI)→OA):OA:=k0 (!a,b,c,d,e,f,g,h,a,i,j)
abbrev dr:Type:=Int→Int→Int→Int→Int→Int→Bool→Bool→LI→LI→((Bool×Int×Int×Int×Int×Int×Int×Bool×Bool×LI×LI)→OA)→OA
theorem MU (Z:Nat) (a b:Int) (d e:Int) (f g:Int) (h i:Bool) (j l:LI) (k:Ev.Cont):evalFn tab (zS Z) J0 L6 Z Tryz.f88 [.c (.ptr 0 0)] [.cells 147 (i6 a::.own 1::ctb (.int .u64 b::.int .u64 d::.own 2::i6 e::.int .u64 f::i6 g::.bool h::.bool i::[])),.vec 3 ti j false,.vec 5 (.int .u8) l false] k=aS Z a b d e f g h i j l (fun r=>match r with | (n,o,p,q,s,t,u,v,w,x,m)=>k (.c (.bool n),[.cells 147 (i6 o::.own 1::ctb (.int .u64 p::.int .u64 q::.own 2::i6 s::.int .u64 t::i6 u::.bool v::.bool w::[])),.vec 3 ti x false,.vec 5 (.int .u8) m false])):=by
 kernel_rfl
theorem Oh (Z:Nat):GOK prog (zS Z):=
 gok_nil
def mv (F:dr):Ev.Spec:=fun args objs k=>match args,objs with | [.c (.ptr d e)],[.cells f a,.vec g ti h false,.vec i (.int .u8) j false]=>(match splitRun 2 ctn a with | some ([i6 l,.own m],[.int .u64 n,.int .u64 o,.own p,i6 q,.int .u64 s,i6 t,.bool u,.bool v])=>bif qb [d,e,f,g,i,m,p] [0,0,147,3,5,1,2] then F l n o q s t u v h j (fun r=>match r with | (w,x,y,z,A,B,C,D,E,G,b)=>k (.c (.bool w),[.cells 147 (i6 x::.own 1::ctb (.int .u64 y::.int .u64 z::.own 2::i6 A::.int .u64 B::i6 C::.bool D::.bool E::[])),.vec 3 ti G false,.vec 5 (.int .u8) b false])) else none | _=>none) | _,_=>none
theorem Dj (Z:Nat):FnOK prog 88 (mv (aS Z)):=by
 intro args objs kk r h
 unfold mv at h
 split at h
 ·skip
  split at h
  rotate_left 1
  ·cases h
  rename_i hsp
  have esp:=splitRun_eq hsp
  subst esp
  obtain ⟨hb,h⟩:=cond_some' h
  cases qb_eq hb
  exact fo0 (Oh Z) func88 rfl kr _ _ kk r ((MU Z _ _ _ _ _ _ _ _ _ _ kk).trans h)
 ·cases h
def IO (i:Nat):Option (List Nat):=Ev.look i []
def CX (b:cR) (a:dr) (f:Nat):Option Ev.Spec:=Ev.look f [(83,kP b),(88,mv a)]
def Fd (Z:Nat):Nat→Option Ev.Spec:=CX (bW Z) (aS Z)
def eN (Z:Nat) (o:cR) (k:dr) (p q:Int) (r s:Int) (t u:Int) (v w:Bool) (x y:LI) (k0:(Int×Int×Int×Int×Int×Int×Int×Bool×Bool×LI×LI×LI)→OA):OA:=(k p q r s t u v w x y (fun (l,a,d,e,f,g,h,i,j,b,c)=>bif l then k0 (0,a,d,e,f,g,h,i,j,b,c,[]) else (o a b (fun (m,n)=>k0 (m,a,d,e,f,g,h,i,j,b,c,n)))))
abbrev ao:Type:=Int→Int→Int→Int→Int→Int→Bool→Bool→LI→LI→((Int×Int×Int×Int×Int×Int×Int×Bool×Bool×LI×LI×LI)→OA)→OA
def ak (Z:Nat):ao:=eN Z (bW Z) (aS Z)
theorem Ja (Z:Nat) (b:cR) (a:dr) (d e:Int) (f g:Int) (h i:Int) (j l:Bool) (m n:LI) (k:Ev.Cont):evalFn tab (CX b a) J0 IO Z Tryz.f40 [.c (.ptr 0 0)] [.cells 147 (i6 d::.own 1::ctb (.int .u64 e::.int .u64 f::.own 2::i6 g::.int .u64 h::i6 i::.bool j::.bool l::[])),.vec 3 ti m false,.vec 5 (.int .u8) n false] k=eN Z b a d e f g h i j l m n (fun r=>match r with | (q,s,t,u,v,w,x,y,z,A,o,p)=>k (.agg [i6 q,.own 3],[.cells 147 (i6 s::.own 1::ctb (.int .u64 t::.int .u64 u::.own 2::i6 v::.int .u64 w::i6 x::.bool y::.bool z::[])),.vec 3 ti A false,.vec 5 (.int .u8) o false,.vec 3 ti p true])):=by
 kernel_rfl
theorem JZ (Z:Nat):GOK prog (Fd Z):=
 gc (qX Z) func83 kr rfl <|
 gc (Dj Z) func88 kr rfl <|
 gok_nil
def fT (F:ao):Ev.Spec:=fun args objs k=>match args,objs with | [.c (.ptr e f)],[.cells g a,.vec h ti i false,.vec j (.int .u8) l false]=>(match splitRun 2 ctn a with | some ([i6 m,.own n],[.int .u64 o,.int .u64 p,.own q,i6 s,.int .u64 t,i6 u,.bool v,.bool w])=>bif qb [e,f,g,h,j,n,q] [0,0,147,3,5,1,2] then F m o p s t u v w i l (fun r=>match r with | (x,y,z,A,B,C,D,E,G,H,b,d)=>k (.agg [i6 x,.own 3],[.cells 147 (i6 y::.own 1::ctb (.int .u64 z::.int .u64 A::.own 2::i6 B::.int .u64 C::i6 D::.bool E::.bool G::[])),.vec 3 ti H false,.vec 5 (.int .u8) b false,.vec 3 ti d true])) else none | _=>none) | _,_=>none
def tV (Z:Nat):Ev.Spec:=fT (ak Z)
theorem iz (Z:Nat):FnOK prog 40 (tV Z):=by
 intro args objs kk r h
 unfold tV fT at h
 split at h
 ·skip
  split at h
  rotate_left 1
  ·cases h
  rename_i hsp
  have esp:=splitRun_eq hsp
  subst esp
  obtain ⟨hb,h⟩:=cond_some' h
  cases qb_eq hb
  exact fo0 (JZ Z) func40 rfl kr _ _ kk r ((Ja Z (bW Z) (aS Z) _ _ _ _ _ _ _ _ _ _ kk).trans h)
 ·cases h
def jR (i:Nat):Option (List Nat):=Ev.look i [(7,[3,24,25,26]),(100000,[]),(400000,[2])]
def Ka (f:Nat):Option Ev.Spec:=Ev.look f []
def nU (Z:Nat):Nat→Option Ev.Spec:=Ka
def bM (Z:Nat) (v:Int×LI×Int×Int) (c:(Int×LI×Int×Int)→OA) (B:(Bool→OA)×(Unit→OA)):OA:=match v,B with | (e,d,f,a),(ret,b)=>bif decide (a < f) then bif decide ((0:Int)≤a∧a < (↑d.length:Int)) then bif decide (d.getD a.toNat (0:Int) < (0:Int)) then ret false else bif decide (d.getD a.toNat (0:Int)≥e) then ret false else c (e,d,f,i64.wrap (a+(1:Int))) else none else b ()
def eA (Z:Nat) (v:Int×LI×Int×Int) (ret:(Bool→OA)) (b:(Unit→OA)):OA:=iter (bM Z) Z v (ret,b)
def ys (v:Int×LI×Int×Int):Ev.St:=match v with | (a,b,d,e)=>⟨[(3,.c (i6 a)),(24,.c (.sl ti b)),(25,.c (i6 d)),(26,.c (i6 e))],[],0,0⟩
def uo (K:KT):(Bool→OA)×(Unit→OA):=((fun v=>match v with | a=>K .ret ⟨[(2,.c (.bool a))],[],0,0⟩),(fun v=>match v with | ()=>K .normal ⟨[],[],0,0⟩))
theorem Lk (Z:Nat) (R:Ev.St→OA) (K:KT) (a:Int) (b:LI) (c d:Int):evalCode tab (nU Z) J0 jR Z (bodyOf 0 Tryz.f71) (ys (a,b,c,d)) (lc jR 7 0 R K)=bM Z (a,b,c,d) (fun v=>R (ys v)) (uo K):=by
 kernel_rfl
def nd (Z:Nat):Ev.Blk:=fun st K=>match canonO (jR 7) st with | some s=>(match s with | ⟨[(a,.c (i6 b)),(d,.c (.sl ti e)),(f,.c (i6 g)),(h,.c (i6 i))],[],j,k⟩=>bif qb [a,d,f,h,j,k] [3,24,25,26,0,0] then iter (bM Z) Z (b,e,g,i) (uo K) else none | _=>none) | none=>none
theorem FG (Z:Nat) (st:Ev.St) (K:KT) (r:Ans) (h:nd Z st K=some r):evalCode tab (nU Z) J0 jR Z (.block 0 (.loop (bodyOf 0 Tryz.f71))) st K=some r:=by
 unfold nd at h
 split at h
 ·rename_i s hs
  split at h
  ·skip
   obtain ⟨hb,h⟩:=cond_some' h
   cases qb_eq hb
   exact blk_loop (S:=ys) (ks:=uo) (step:=bM Z) (v:=(_,_,_,_)) kr kr (fun R K v=>by obtain ⟨a,b,c,d⟩:=v; exact Lk Z R K a b c d) hs h
  ·cases h
 ·cases h
def HF (Z:Nat) (i:Nat):Option Ev.Blk:=Ev.look i [(100000,nd Z)]
def aT (Z:Nat) (b:Int) (a:LI) (k0:(Bool)→OA):OA:=bif b != 0 then bif b != 1 then k0 false else bif decide ((↑a.length:Int) > 8192) then k0 false else bif b==1 then (eA Z (65536,a,(↑a.length:Int),0) (fun ret0_0=>k0 ret0_0) (fun ()=>k0 true)) else (eA Z (64,a,(↑a.length:Int),0) (fun ret0_0=>k0 ret0_0) (fun ()=>k0 true)) else bif decide ((↑a.length:Int) > 8192) then k0 false else bif b==1 then (eA Z (65536,a,(↑a.length:Int),0) (fun ret0_0=>k0 ret0_0) (fun ()=>k0 true)) else (eA Z (64,a,(↑a.length:Int),0) (fun ret0_0=>k0 ret0_0) (fun ()=>k0 true))
abbrev bY:Type:=Int→LI→(Bool→OA)→OA
theorem Nc (Z:Nat) (a:Int) (b:LI) (k:Ev.Cont):evalFn tab (nU Z) (HF Z) jR Z Tryz.f71 [.agg [i6 a,.sl ti b]] [] k=aT Z a b (fun r=>match r with | d=>k (.c (.bool d),[])):=by
 kernel_rfl
theorem D5 (Z:Nat):GOK prog (nU Z):=
 gok_nil
theorem Ma (Z:Nat):BlkOK prog Tryz.f71.ntmps (.block 0 (.loop (bodyOf 0 Tryz.f71))) (nd Z):=bo0 (D5 Z) kr kr (FG Z)
def i9 (F:bY):Ev.Spec:=fun args objs k=>match args,objs with | [.agg [i6 a,.sl ti b]],[]=>F a b (fun r=>match r with | d=>k (.c (.bool d),[])) | _,_=>none
def vb (Z:Nat):Ev.Spec:=i9 (aT Z)
theorem nK (Z:Nat):FnOK prog 71 (vb Z):=by
 intro args objs kk r h
 unfold vb i9 at h
 split at h
 ·skip
  exact fo1 (D5 Z) func71 rfl (Ma Z) kr _ _ kk r ((Nc Z _ _ kk).trans h)
 ·cases h
def MH (i:Nat):Option (List Nat):=Ev.look i []
def J1 (f:Nat):Option Ev.Spec:=Ev.look f []
def CQ (Z:Nat):Nat→Option Ev.Spec:=J1
def fI (Z:Nat) (a:Int) (k0:(Int)→OA):OA:=bif decide (a≥4294967296) then bif decide (Ev.ishr IntKind.u64 a (32:Int)≥(65536:Int)) then bif decide (Ev.ishr IntKind.u64 (Ev.ishr IntKind.u64 a (32:Int)) (16:Int)≥(256:Int)) then bif decide (0≤u8.wrap (Ev.ishr IntKind.u64 (Ev.ishr IntKind.u64 (Ev.ishr IntKind.u64 a 32) 16) 8)∧u8.wrap (Ev.ishr IntKind.u64 (Ev.ishr IntKind.u64 (Ev.ishr IntKind.u64 a 32) 16) 8) < (↑(ByteArray.mk (u8t).toArray).size:Int)) then k0 (i64.wrap (i64.wrap (i64.wrap ((32:Int)+(16:Int))+(8:Int))+i64.wrap (↑((ByteArray.mk (u8t).toArray).data.toList.getD (u8.wrap (Ev.ishr IntKind.u64 (Ev.ishr IntKind.u64 (Ev.ishr IntKind.u64 a (32:Int)) (16:Int)) (8:Int))).toNat (0:UInt8)).toNat:Int))) else none else bif decide (0≤u8.wrap (Ev.ishr IntKind.u64 (Ev.ishr IntKind.u64 a 32) 16)∧u8.wrap (Ev.ishr IntKind.u64 (Ev.ishr IntKind.u64 a 32) 16) < (↑(ByteArray.mk (u8t).toArray).size:Int)) then k0 (i64.wrap (i64.wrap ((32:Int)+(16:Int))+i64.wrap (↑((ByteArray.mk (u8t).toArray).data.toList.getD (u8.wrap (Ev.ishr IntKind.u64 (Ev.ishr IntKind.u64 a (32:Int)) (16:Int))).toNat (0:UInt8)).toNat:Int))) else none else bif decide (Ev.ishr IntKind.u64 a (32:Int)≥(256:Int)) then bif decide (0≤u8.wrap (Ev.ishr IntKind.u64 (Ev.ishr IntKind.u64 a 32) 8)∧u8.wrap (Ev.ishr IntKind.u64 (Ev.ishr IntKind.u64 a 32) 8) < (↑(ByteArray.mk (u8t).toArray).size:Int)) then k0 (i64.wrap (i64.wrap ((32:Int)+(8:Int))+i64.wrap (↑((ByteArray.mk (u8t).toArray).data.toList.getD (u8.wrap (Ev.ishr IntKind.u64 (Ev.ishr IntKind.u64 a (32:Int)) (8:Int))).toNat (0:UInt8)).toNat:Int))) else none else bif decide (0≤u8.wrap (Ev.ishr IntKind.u64 a 32)∧u8.wrap (Ev.ishr IntKind.u64 a 32) < (↑(ByteArray.mk (u8t).toArray).size:Int)) then k0 (i64.wrap (32+i64.wrap (↑((ByteArray.mk (u8t).toArray).data.toList.getD (u8.wrap (Ev.ishr IntKind.u64 a 32)).toNat (0:UInt8)).toNat:Int))) else none else bif decide (a≥65536) then bif decide (Ev.ishr IntKind.u64 a (16:Int)≥(256:Int)) then bif decide (0≤u8.wrap (Ev.ishr IntKind.u64 (Ev.ishr IntKind.u64 a 16) 8)∧u8.wrap (Ev.ishr IntKind.u64 (Ev.ishr IntKind.u64 a 16) 8) < (↑(ByteArray.mk (u8t).toArray).size:Int)) then k0 (i64.wrap (i64.wrap (i64.wrap ((0:Int)+(16:Int))+(8:Int))+i64.wrap (↑((ByteArray.mk (u8t).toArray).data.toList.getD (u8.wrap (Ev.ishr IntKind.u64 (Ev.ishr IntKind.u64 a (16:Int)) (8:Int))).toNat (0:UInt8)).toNat:Int))) else none else bif decide (0≤u8.wrap (Ev.ishr IntKind.u64 a 16)∧u8.wrap (Ev.ishr IntKind.u64 a 16) < (↑(ByteArray.mk (u8t).toArray).size:Int)) then k0 (i64.wrap (i64.wrap ((0:Int)+(16:Int))+i64.wrap (↑((ByteArray.mk (u8t).toArray).data.toList.getD (u8.wrap (Ev.ishr IntKind.u64 a (16:Int))).toNat (0:UInt8)).toNat:Int))) else none else bif decide (a≥256) then bif decide (0≤u8.wrap (Ev.ishr IntKind.u64 a 8)∧u8.wrap (Ev.ishr IntKind.u64 a 8) < (↑(ByteArray.mk (u8t).toArray).size:Int)) then k0 (i64.wrap (i64.wrap ((0:Int)+(8:Int))+i64.wrap (↑((ByteArray.mk (u8t).toArray).data.toList.getD (u8.wrap (Ev.ishr IntKind.u64 a (8:Int))).toNat (0:UInt8)).toNat:Int))) else none else bif decide (0≤u8.wrap a∧u8.wrap a < (↑(ByteArray.mk (u8t).toArray).size:Int)) then k0 (i64.wrap (0+i64.wrap (↑((ByteArray.mk (u8t).toArray).data.toList.getD (u8.wrap a).toNat (0:UInt8)).toNat:Int))) else none
abbrev ln:Type:=Int→(Int→OA)→OA
theorem KG (Z:Nat) (a:Int) (k:Ev.Cont):evalFn tab (CQ Z) J0 MH Z Tryz.f162 [.c (.int .u64 a)] [] k=fI Z a (fun r=>match r with | b=>k (.c (i6 b),[])):=by
 kernel_rfl
theorem JB (Z:Nat):GOK prog (CQ Z):=
 gok_nil
def xM (F:ln):Ev.Spec:=fun args objs k=>match args,objs with | [.c (.int .u64 a)],[]=>F a (fun r=>match r with | b=>k (.c (i6 b),[])) | _,_=>none
theorem PW (Z:Nat):FnOK prog 162 (xM (fI Z)):=by
 intro args objs kk r h
 unfold xM at h
 split at h
 ·skip
  exact fo0 (JB Z) func162 rfl kr _ _ kk r ((KG Z _ kk).trans h)
 ·cases h
def GN (i:Nat):Option (List Nat):=Ev.look i []
def zx (a:ln) (f:Nat):Option Ev.Spec:=Ev.look f [(162,xM a)]
def Lo (Z:Nat):Nat→Option Ev.Spec:=zx (fI Z)
def yL (Z:Nat) (a:ln) (b:Int) (k0:(Int)→OA):OA:=(a b (fun c=>k0 c))
abbrev bZ:Type:=Int→(Int→OA)→OA
def cg (Z:Nat):bZ:=yL Z (fI Z)
theorem Mp (Z:Nat) (a:ln) (b:Int) (k:Ev.Cont):evalFn tab (zx a) J0 GN Z Tryz.f127 [.c (.int .u64 b)] [] k=yL Z a b (fun r=>match r with | d=>k (.c (i6 d),[])):=by
 kernel_rfl
theorem KU (Z:Nat):GOK prog (Lo Z):=
 gc (PW Z) func162 kr rfl <|
 gok_nil
def ns (F:bZ):Ev.Spec:=fun args objs k=>match args,objs with | [.c (.int .u64 a)],[]=>F a (fun r=>match r with | b=>k (.c (i6 b),[])) | _,_=>none
theorem Dt (Z:Nat):FnOK prog 127 (ns (cg Z)):=by
 intro args objs kk r h
 unfold ns at h
 split at h
 ·skip
  exact fo0 (KU Z) func127 rfl kr _ _ kk r ((Mp Z (fI Z) _ kk).trans h)
 ·cases h
def P8 (i:Nat):Option (List Nat):=Ev.look i []
def AK (a:bZ) (f:Nat):Option Ev.Spec:=Ev.look f [(127,ns a)]
def PO (Z:Nat):Nat→Option Ev.Spec:=AK (cg Z)
def zT (Z:Nat) (b:bZ) (a:Int) (k0:(Int)→OA):OA:=bif decide (a < 1) then k0 (0) else (b (u64.wrap (i64.wrap (a - 1))) (fun c=>k0 c))
abbrev kL:Type:=Int→(Int→OA)→OA
def gv (Z:Nat):kL:=zT Z (cg Z)
theorem PZ (Z:Nat) (a:bZ) (b:Int) (k:Ev.Cont):evalFn tab (AK a) J0 P8 Z Tryz.f73 [.c (i6 b)] [] k=zT Z a b (fun r=>match r with | d=>k (.c (i6 d),[])):=by
 kernel_rfl
theorem El (Z:Nat):GOK prog (PO Z):=
 gc (Dt Z) func127 kr rfl <|
 gok_nil
def tO (F:kL):Ev.Spec:=fun args objs k=>match args,objs with | [.c (i6 a)],[]=>F a (fun r=>match r with | b=>k (.c (i6 b),[])) | _,_=>none
def sY (Z:Nat):Ev.Spec:=tO (gv Z)
theorem zU (Z:Nat):FnOK prog 73 (sY Z):=by
 intro args objs kk r h
 unfold sY tO at h
 split at h
 ·skip
  exact fo0 (El Z) func73 rfl kr _ _ kk r ((PZ Z (cg Z) _ kk).trans h)
 ·cases h
def Cy (i:Nat):Option (List Nat):=Ev.look i [(4,[0,1,2,4]),(100000,[0,1]),(400000,[0])]
def Fu (f:Nat):Option Ev.Spec:=Ev.look f []
def sG (Z:Nat):Nat→Option Ev.Spec:=Fu
def f8 (Z:Nat)  (k0:(Unit)→OA):OA:=k0 ()
abbrev ne:Type:=((Unit)→OA)→OA
theorem Lt (Z:Nat)  (k:Ev.Cont):evalFn tab (sG Z) J0 Cy 100 Tryz.f131 [] [] k=f8 Z  (fun r=>match r with | ()=>k (.agg (ctb []),[])):=by
 kernel_rfl
theorem Gi (Z:Nat):GOK prog (sG Z):=
 gok_nil
theorem NN (Z:Nat):FnOK prog 131 (evalFn tab (sG Z) J0 Cy 100 Tryz.f131):=
 fn_ok tab_ok (Gi Z) mixed func131 (c:=(Tryz.f131.body).getD .skip) rfl (fun q hq=>by
  rw [(by kernel_rfl:obl J0 ((Tryz.f131.body).getD .skip)= [])] at hq
  cases hq)
def oU (F:ne):Ev.Spec:=fun args objs k=>match args,objs with | [],[]=>F  (fun r=>match r with | ()=>k (.agg (ctb []),[])) | _,_=>none
theorem FQ (Z:Nat):FnOK prog 131 (oU (f8 Z)):=by
 intro args objs kk r h
 unfold oU at h
 split at h
 ·skip
  exact NN Z _ _ kk r ((Lt Z kk).trans h)
 ·cases h
def HM (i:Nat):Option (List Nat):=Ev.look i []
def Cq (b:cR) (a:ne) (f:Nat):Option Ev.Spec:=Ev.look f [(83,kP b),(131,oU a)]
def Nr (Z:Nat):Nat→Option Ev.Spec:=Cq (bW Z) (f8 Z)
def rI (Z:Nat) (d:cR) (a:ne) (e:Int) (f:LI) (k0:(Int×Int×Int×LI)→OA):OA:=(d e f (fun (b,c)=>(a (fun g=>k0 (b,0,4294967295,c)))))
abbrev cA:Type:=Int→LI→((Int×Int×Int×LI)→OA)→OA
def ck (Z:Nat):cA:=rI Z (bW Z) (f8 Z)
theorem Ks (Z:Nat) (b:cR) (a:ne) (c:Int) (d:LI) (k:Ev.Cont):evalFn tab (Cq b a) J0 HM Z Tryz.f76 [.agg [i6 c,.sl ti d]] [] k=rI Z b a c d (fun r=>match r with | (e,f,g,h)=>k (.agg (i6 e::.own 0::ctb (.int .u64 f::.int .u64 g::[])),[.vec 3 ti h true])):=by
 kernel_rfl
theorem Fk (Z:Nat):GOK prog (Nr Z):=
 gc (qX Z) func83 kr rfl <|
 gc (FQ Z) func131 kr rfl <|
 gok_nil
def lV (F:cA):Ev.Spec:=fun args objs k=>match args,objs with | [.agg [i6 a,.sl ti b]],[]=>F a b (fun r=>match r with | (c,d,e,f)=>k (.agg (i6 c::.own 0::ctb (.int .u64 d::.int .u64 e::[])),[.vec 3 ti f true])) | _,_=>none
def uN (Z:Nat):Ev.Spec:=lV (ck Z)
theorem yB (Z:Nat):FnOK prog 76 (uN Z):=by
 intro args objs kk r h
 unfold uN lV at h
 split at h
 ·skip
  exact fo0 (Fk Z) func76 rfl kr _ _ kk r ((Ks Z (bW Z) (f8 Z) _ _ kk).trans h)
 ·cases h
def Ko (i:Nat):Option (List Nat):=Ev.look i []
def Ps (f:Nat):Option Ev.Spec:=Ev.look f []
def Bc (Z:Nat):Nat→Option Ev.Spec:=Ps
def fh (Z:Nat) (b a:Int) (k0:(Int×Int×LI)→OA):OA:=bif b != 0 then bif b != 1 then k0 (0,2,[]) else bif decide (a < 0) then k0 (0,2,[]) else bif decide (a > 8192) then k0 (0,2,[]) else bif decide (0≤a∧a=a∧(↑(8:Nat):Int)*a≤281474976710656∧a≤281474976710656) then k0 (b,0,List.replicate a.toNat (0:Int)) else none else bif decide (a < 0) then k0 (0,2,[]) else bif decide (a > 8192) then k0 (0,2,[]) else bif decide (0≤a∧a=a∧(↑(8:Nat):Int)*a≤281474976710656∧a≤281474976710656) then k0 (b,0,List.replicate a.toNat (0:Int)) else none
abbrev oD:Type:=Int→Int→((Int×Int×LI)→OA)→OA
theorem PP (Z:Nat) (a b:Int) (k:Ev.Cont):evalFn tab (Bc Z) J0 Ko Z Tryz.f77 [.c (i6 a),.c (i6 b)] [] k=fh Z a b (fun r=>match r with | (d,e,f)=>k (.tup [(true,[i6 d,.own 0]),(false,[i6 e])],[.vec 3 ti f true])):=by
 kernel_rfl
theorem I9 (Z:Nat):GOK prog (Bc Z):=
 gok_nil
def rH (F:oD):Ev.Spec:=fun args objs k=>match args,objs with | [.c (i6 a),.c (i6 b)],[]=>F a b (fun r=>match r with | (d,e,f)=>k (.tup [(true,[i6 d,.own 0]),(false,[i6 e])],[.vec 3 ti f true])) | _,_=>none
def wD (Z:Nat):Ev.Spec:=rH (fh Z)
theorem D9 (Z:Nat):FnOK prog 77 (wD Z):=by
 intro args objs kk r h
 unfold wD rH at h
 split at h
 ·skip
  exact fo0 (I9 Z) func77 rfl kr _ _ kk r ((PP Z _ _ kk).trans h)
 ·cases h
def Lq (i:Nat):Option (List Nat):=Ev.look i []
def Ns (f:Nat):Option Ev.Spec:=Ev.look f []
def zR (Z:Nat):Nat→Option Ev.Spec:=Ns
def eo (Z:Nat) (b a c:Int) (d:Bool) (e f:LI) (k0:(Int×Int×Int×Int×Bool×LI×LI)→OA):OA:=k0 (u8.wrap (Ev.ishr IntKind.u64 a 24),b,Ev.iand IntKind.u64 (Ev.ishl IntKind.u64 a 8) 4294967295,Ev.ior IntKind.u64 (Ev.iand IntKind.u64 (Ev.ishl IntKind.u64 c 8) 4294967295) 255,d,e,f)
abbrev gQ:Type:=Int→Int→Int→Bool→LI→LI→((Int×Int×Int×Int×Bool×LI×LI)→OA)→OA
theorem Ji (Z:Nat) (a b d:Int) (e:Bool) (f g:LI) (k:Ev.Cont):evalFn tab (zR Z) J0 Lq Z Tryz.f168 [.c (.ptr 0 0)] [.cells 138 (i6 a::.own 1::ctb (.int .u64 b::.int .u64 d::.own 2::.bool e::[])),.vec 3 ti f false,.vec 5 (.int .u8) g false] k=eo Z a b d e f g (fun r=>match r with | (h,i,j,l,m,n,o)=>k (.c (.int .u8 h),[.cells 138 (i6 i::.own 1::ctb (.int .u64 j::.int .u64 l::.own 2::.bool m::[])),.vec 3 ti n false,.vec 5 (.int .u8) o false])):=by
 kernel_rfl
theorem FT (Z:Nat):GOK prog (zR Z):=
 gok_nil
def ts (F:gQ):Ev.Spec:=fun args objs k=>match args,objs with | [.c (.ptr b d)],[.cells e a,.vec f ti g false,.vec h (.int .u8) i false]=>(match splitRun 2 ctn a with | some ([i6 j,.own l],[.int .u64 m,.int .u64 n,.own o,.bool p])=>bif qb [b,d,e,f,h,l,o] [0,0,138,3,5,1,2] then F j m n p g i (fun r=>match r with | (q,s,t,u,v,w,x)=>k (.c (.int .u8 q),[.cells 138 (i6 s::.own 1::ctb (.int .u64 t::.int .u64 u::.own 2::.bool v::[])),.vec 3 ti w false,.vec 5 (.int .u8) x false])) else none | _=>none) | _,_=>none
theorem Li (Z:Nat):FnOK prog 168 (ts (eo Z)):=by
 intro args objs kk r h
 unfold ts at h
 split at h
 ·skip
  split at h
  rotate_left 1
  ·cases h
  rename_i hsp
  have esp:=splitRun_eq hsp
  subst esp
  obtain ⟨hb,h⟩:=cond_some' h
  cases qb_eq hb
  exact fo0 (FT Z) func168 rfl kr _ _ kk r ((Ji Z _ _ _ _ _ _ kk).trans h)
 ·cases h
def IZ (i:Nat):Option (List Nat):=Ev.look i []
def GB (f:Nat):Option Ev.Spec:=Ev.look f []
def Cv (Z:Nat):Nat→Option Ev.Spec:=GB
def cv (Z:Nat) (b a:Int) (k0:(Int)→OA):OA:=bif b==1 then bif decide (i64.wrap (i64.wrap (i64.wrap (2*i64.wrap (a.tdiv 256))+i64.wrap (2*a.tmod 256))+2)=0) then none else k0 (bif decide (4095 < bif decide (1 > i64.wrap ((i64.wrap (i64.wrap (i64.wrap (2*a.tmod 256)+1)*4096)).tdiv (i64.wrap (i64.wrap (i64.wrap (2*i64.wrap (a.tdiv 256))+i64.wrap (2*a.tmod 256))+2)))) then 1 else i64.wrap ((i64.wrap (i64.wrap (i64.wrap (2*a.tmod 256)+1)*4096)).tdiv (i64.wrap (i64.wrap (i64.wrap (2*i64.wrap (a.tdiv 256))+i64.wrap (2*a.tmod 256))+2)))) then 4095 else bif decide (1 > i64.wrap ((i64.wrap (i64.wrap (i64.wrap (2*a.tmod 256)+1)*4096)).tdiv (i64.wrap (i64.wrap (i64.wrap (2*i64.wrap (a.tdiv 256))+i64.wrap (2*a.tmod 256))+2)))) then 1 else i64.wrap ((i64.wrap (i64.wrap (i64.wrap (2*a.tmod 256)+1)*4096)).tdiv (i64.wrap (i64.wrap (i64.wrap (2*i64.wrap (a.tdiv 256))+i64.wrap (2*a.tmod 256))+2)))) else bif decide (a≥32) then bif decide (0≤i64.wrap (a - 32)∧i64.wrap (a - 32) < (↑(32:Nat):Int)) then bif decide (i64.wrap (a - 32)=(↑(0:Nat):Int)) then k0 (i64.wrap ((4096:Int) - (2048:Int))) else bif decide (i64.wrap (a - 32)=(↑(1:Nat):Int)) then k0 (i64.wrap ((4096:Int) - (1792:Int))) else bif decide (i64.wrap (a - 32)=(↑(2:Nat):Int)) then k0 (i64.wrap ((4096:Int) - (1568:Int))) else bif decide (i64.wrap (a - 32)=(↑(3:Nat):Int)) then k0 (i64.wrap ((4096:Int) - (1372:Int))) else bif decide (i64.wrap (a - 32)=(↑(4:Nat):Int)) then k0 (i64.wrap ((4096:Int) - (1201:Int))) else bif decide (i64.wrap (a - 32)=(↑(5:Nat):Int)) then k0 (i64.wrap ((4096:Int) - (1051:Int))) else bif decide (i64.wrap (a - 32)=(↑(6:Nat):Int)) then k0 (i64.wrap ((4096:Int) - (920:Int))) else bif decide (i64.wrap (a - 32)=(↑(7:Nat):Int)) then k0 (i64.wrap ((4096:Int) - (805:Int))) else bif decide (i64.wrap (a - 32)=(↑(8:Nat):Int)) then k0 (i64.wrap ((4096:Int) - (705:Int))) else bif decide (i64.wrap (a - 32)=(↑(9:Nat):Int)) then k0 (i64.wrap ((4096:Int) - (617:Int))) else bif decide (i64.wrap (a - 32)=(↑(10:Nat):Int)) then k0 (i64.wrap ((4096:Int) - (540:Int))) else bif decide (i64.wrap (a - 32)=(↑(11:Nat):Int)) then k0 (i64.wrap ((4096:Int) - (473:Int))) else bif decide (i64.wrap (a - 32)=(↑(12:Nat):Int)) then k0 (i64.wrap ((4096:Int) - (414:Int))) else bif decide (i64.wrap (a - 32)=(↑(13:Nat):Int)) then k0 (i64.wrap ((4096:Int) - (363:Int))) else bif decide (i64.wrap (a - 32)=(↑(14:Nat):Int)) then k0 (i64.wrap ((4096:Int) - (318:Int))) else bif decide (i64.wrap (a - 32)=(↑(15:Nat):Int)) then k0 (i64.wrap ((4096:Int) - (279:Int))) else bif decide (i64.wrap (a - 32)=(↑(16:Nat):Int)) then k0 (i64.wrap ((4096:Int) - (245:Int))) else bif decide (i64.wrap (a - 32)=(↑(17:Nat):Int)) then k0 (i64.wrap ((4096:Int) - (215:Int))) else bif decide (i64.wrap (a - 32)=(↑(18:Nat):Int)) then k0 (i64.wrap ((4096:Int) - (189:Int))) else bif decide (i64.wrap (a - 32)=(↑(19:Nat):Int)) then k0 (i64.wrap ((4096:Int) - (166:Int))) else bif decide (i64.wrap (a - 32)=(↑(20:Nat):Int)) then k0 (i64.wrap ((4096:Int) - (146:Int))) else bif decide (i64.wrap (a - 32)=(↑(21:Nat):Int)) then k0 (i64.wrap ((4096:Int) - (128:Int))) else bif decide (i64.wrap (a - 32)=(↑(22:Nat):Int)) then k0 (i64.wrap ((4096:Int) - (112:Int))) else bif decide (i64.wrap (a - 32)=(↑(23:Nat):Int)) then k0 (i64.wrap ((4096:Int) - (98:Int))) else bif decide (i64.wrap (a - 32)=(↑(24:Nat):Int)) then k0 (i64.wrap ((4096:Int) - (86:Int))) else bif decide (i64.wrap (a - 32)=(↑(25:Nat):Int)) then k0 (i64.wrap ((4096:Int) - (76:Int))) else bif decide (i64.wrap (a - 32)=(↑(26:Nat):Int)) then k0 (i64.wrap ((4096:Int) - (67:Int))) else bif decide (i64.wrap (a - 32)=(↑(27:Nat):Int)) then k0 (i64.wrap ((4096:Int) - (59:Int))) else bif decide (i64.wrap (a - 32)=(↑(28:Nat):Int)) then k0 (i64.wrap ((4096:Int) - (52:Int))) else bif decide (i64.wrap (a - 32)=(↑(29:Nat):Int)) then k0 (i64.wrap ((4096:Int) - (46:Int))) else bif decide (i64.wrap (a - 32)=(↑(30:Nat):Int)) then k0 (i64.wrap ((4096:Int) - (41:Int))) else bif decide (i64.wrap (a - 32)=(↑(31:Nat):Int)) then k0 (i64.wrap ((4096:Int) - (36:Int))) else none else none else bif decide (0≤a∧a < (↑(32:Nat):Int)) then bif decide (a=(↑(0:Nat):Int)) then k0 (2048) else bif decide (a=(↑(1:Nat):Int)) then k0 (1792) else bif decide (a=(↑(2:Nat):Int)) then k0 (1568) else bif decide (a=(↑(3:Nat):Int)) then k0 (1372) else bif decide (a=(↑(4:Nat):Int)) then k0 (1201) else bif decide (a=(↑(5:Nat):Int)) then k0 (1051) else bif decide (a=(↑(6:Nat):Int)) then k0 (920) else bif decide (a=(↑(7:Nat):Int)) then k0 (805) else bif decide (a=(↑(8:Nat):Int)) then k0 (705) else bif decide (a=(↑(9:Nat):Int)) then k0 (617) else bif decide (a=(↑(10:Nat):Int)) then k0 (540) else bif decide (a=(↑(11:Nat):Int)) then k0 (473) else bif decide (a=(↑(12:Nat):Int)) then k0 (414) else bif decide (a=(↑(13:Nat):Int)) then k0 (363) else bif decide (a=(↑(14:Nat):Int)) then k0 (318) else bif decide (a=(↑(15:Nat):Int)) then k0 (279) else bif decide (a=(↑(16:Nat):Int)) then k0 (245) else bif decide (a=(↑(17:Nat):Int)) then k0 (215) else bif decide (a=(↑(18:Nat):Int)) then k0 (189) else bif decide (a=(↑(19:Nat):Int)) then k0 (166) else bif decide (a=(↑(20:Nat):Int)) then k0 (146) else bif decide (a=(↑(21:Nat):Int)) then k0 (128) else bif decide (a=(↑(22:Nat):Int)) then k0 (112) else bif decide (a=(↑(23:Nat):Int)) then k0 (98) else bif decide (a=(↑(24:Nat):Int)) then k0 (86) else bif decide (a=(↑(25:Nat):Int)) then k0 (76) else bif decide (a=(↑(26:Nat):Int)) then k0 (67) else bif decide (a=(↑(27:Nat):Int)) then k0 (59) else bif decide (a=(↑(28:Nat):Int)) then k0 (52) else bif decide (a=(↑(29:Nat):Int)) then k0 (46) else bif decide (a=(↑(30:Nat):Int)) then k0 (41) else bif decide (a=(↑(31:Nat):Int)) then k0 (36) else none else none
abbrev fW:Type:=Int→Int→(Int→OA)→OA
theorem Kc (Z:Nat) (a b:Int) (k:Ev.Cont):evalFn tab (Cv Z) J0 IZ Z Tryz.f194 [.agg (ctb []),.c (i6 a),.c (i6 b)] [] k=cv Z a b (fun r=>match r with | d=>k (.c (i6 d),[])):=by
 kernel_rfl
theorem No (Z:Nat):GOK prog (Cv Z):=
 gok_nil
def lE (F:fW):Ev.Spec:=fun args objs k=>match args,objs with | [.agg a,.c (i6 b),.c (i6 d)],[]=>(match splitRun 0 ctn a with | some ([],[])=>bif true then F b d (fun r=>match r with | e=>k (.c (i6 e),[])) else none | _=>none) | _,_=>none
theorem Ag (Z:Nat):FnOK prog 194 (lE (cv Z)):=by
 intro args objs kk r h
 unfold lE at h
 split at h
 ·skip
  split at h
  rotate_left 1
  ·cases h
  rename_i hsp
  have esp:=splitRun_eq hsp
  subst esp
  exact fo0 (No Z) func194 rfl kr _ _ kk r ((Kc Z _ _ kk).trans h)
 ·cases h
def LG (i:Nat):Option (List Nat):=Ev.look i [(200001,[0])]
def D3 (a:fW) (f:Nat):Option Ev.Spec:=Ev.look f [(194,lE a)]
def NU (Z:Nat):Nat→Option Ev.Spec:=D3 (cv Z)
def wT (Z:Nat) (g:fW) (b e:Int) (a c:Int) (h:Bool) (d i:LI) (k0:(Int×Int×Int×Int×Bool×LI×LI)→OA):OA:=bif decide (0≤b∧b < (↑d.length:Int)) then (g e (d.getD b.toNat 0) (fun f=>k0 (u64.wrap (u64.wrap (a+u64.wrap (u64.wrap ((u64.wrap (c - a)).tdiv 4096)*u64.wrap f))+u64.wrap ((u64.wrap ((u64.wrap (c - a)).tmod 4096*u64.wrap f)).tdiv 4096)),e,a,c,h,d,i))) else none
abbrev fP:Type:=Int→Int→Int→Int→Bool→LI→LI→((Int×Int×Int×Int×Bool×LI×LI)→OA)→OA
def dM (Z:Nat):fP:=wT Z (cv Z)
theorem JS (Z:Nat) (a:fW) (b d:Int) (e f:Int) (g:Bool) (h i:LI) (k:Ev.Cont):evalFn tab (D3 a) J0 LG Z Tryz.f166 [.c (.ptr 0 0),.c (i6 b)] [.cells 138 (i6 d::.own 1::ctb (.int .u64 e::.int .u64 f::.own 2::.bool g::[])),.vec 3 ti h false,.vec 5 (.int .u8) i false] k=wT Z a b d e f g h i (fun r=>match r with | (j,l,m,n,o,p,q)=>k (.c (.int .u64 j),[.cells 138 (i6 l::.own 1::ctb (.int .u64 m::.int .u64 n::.own 2::.bool o::[])),.vec 3 ti p false,.vec 5 (.int .u8) q false])):=by
 kernel_rfl
theorem Mw (Z:Nat):GOK prog (NU Z):=
 gc (Ag Z) func194 kr rfl <|
 gok_nil
def pG (F:fP):Ev.Spec:=fun args objs k=>match args,objs with | [.c (.ptr b d),.c (i6 e)],[.cells f a,.vec g ti h false,.vec i (.int .u8) j false]=>(match splitRun 2 ctn a with | some ([i6 l,.own m],[.int .u64 n,.int .u64 o,.own p,.bool q])=>bif qb [b,d,f,g,i,m,p] [0,0,138,3,5,1,2] then F e l n o q h j (fun r=>match r with | (s,t,u,v,w,x,y)=>k (.c (.int .u64 s),[.cells 138 (i6 t::.own 1::ctb (.int .u64 u::.int .u64 v::.own 2::.bool w::[])),.vec 3 ti x false,.vec 5 (.int .u8) y false])) else none | _=>none) | _,_=>none
theorem Kk (Z:Nat):FnOK prog 166 (pG (dM Z)):=by
 intro args objs kk r h
 unfold pG at h
 split at h
 ·skip
  split at h
  rotate_left 1
  ·cases h
  rename_i hsp
  have esp:=splitRun_eq hsp
  subst esp
  obtain ⟨hb,h⟩:=cond_some' h
  cases qb_eq hb
  exact fo0 (Mw Z) func166 rfl kr _ _ kk r ((JS Z (cv Z) _ _ _ _ _ _ _ kk).trans h)
 ·cases h
def MW (i:Nat):Option (List Nat):=Ev.look i [(200001,[0])]
def E5 (f:Nat):Option Ev.Spec:=Ev.look f []
def AD (Z:Nat):Nat→Option Ev.Spec:=E5
def di (Z:Nat) (c a b:Int) (d:Bool) (e f:LI) (k0:(Bool×Int×Int×Int×Bool×LI×LI)→OA):OA:=k0 (Ev.ishr IntKind.u64 a 24==Ev.ishr IntKind.u64 b 24,c,a,b,d,e,f)
abbrev gr:Type:=Int→Int→Int→Bool→LI→LI→((Bool×Int×Int×Int×Bool×LI×LI)→OA)→OA
theorem PY (Z:Nat) (a b d:Int) (e:Bool) (f g:LI) (k:Ev.Cont):evalFn tab (AD Z) J0 MW Z Tryz.f167 [.c (.ptr 0 0)] [.cells 138 (i6 a::.own 1::ctb (.int .u64 b::.int .u64 d::.own 2::.bool e::[])),.vec 3 ti f false,.vec 5 (.int .u8) g false] k=di Z a b d e f g (fun r=>match r with | (h,i,j,l,m,n,o)=>k (.c (.bool h),[.cells 138 (i6 i::.own 1::ctb (.int .u64 j::.int .u64 l::.own 2::.bool m::[])),.vec 3 ti n false,.vec 5 (.int .u8) o false])):=by
 kernel_rfl
theorem HJ (Z:Nat):GOK prog (AD Z):=
 gok_nil
def tX (F:gr):Ev.Spec:=fun args objs k=>match args,objs with | [.c (.ptr b d)],[.cells e a,.vec f ti g false,.vec h (.int .u8) i false]=>(match splitRun 2 ctn a with | some ([i6 j,.own l],[.int .u64 m,.int .u64 n,.own o,.bool p])=>bif qb [b,d,e,f,h,l,o] [0,0,138,3,5,1,2] then F j m n p g i (fun r=>match r with | (q,s,t,u,v,w,x)=>k (.c (.bool q),[.cells 138 (i6 s::.own 1::ctb (.int .u64 t::.int .u64 u::.own 2::.bool v::[])),.vec 3 ti w false,.vec 5 (.int .u8) x false])) else none | _=>none) | _,_=>none
theorem NR (Z:Nat):FnOK prog 167 (tX (di Z)):=by
 intro args objs kk r h
 unfold tX at h
 split at h
 ·skip
  split at h
  rotate_left 1
  ·cases h
  rename_i hsp
  have esp:=splitRun_eq hsp
  subst esp
  obtain ⟨hb,h⟩:=cond_some' h
  cases qb_eq hb
  exact fo0 (HJ Z) func167 rfl kr _ _ kk r ((PY Z _ _ _ _ _ _ kk).trans h)
 ·cases h
def IM (i:Nat):Option (List Nat):=Ev.look i []
def Fc (f:Nat):Option Ev.Spec:=Ev.look f []
def Bp (Z:Nat):Nat→Option Ev.Spec:=Fc
def cD (Z:Nat) (c b a:Int) (k0:(Int)→OA):OA:=bif c==1 then bif decide (0≤a∧a < (↑(2:Nat):Int)) then bif decide (a=(↑(0:Nat):Int)) then bif i64.wrap (b.tdiv 256)==255 then bif decide (0≤a∧a < (↑(2:Nat):Int)) then bif decide (a=(↑(0:Nat):Int)) then bif decide (0≤a∧a < (↑(2:Nat):Int)) then bif decide (a=(↑(0:Nat):Int)) then k0 (i64.wrap (i64.wrap (256*i64.wrap (i64.wrap ((i64.wrap (b.tdiv 256)).tdiv 2)+1))+i64.wrap ((b.tmod 256).tdiv 2))) else bif decide (a=(↑(1:Nat):Int)) then k0 (i64.wrap (i64.wrap (256*i64.wrap ((i64.wrap (b.tdiv 256)).tdiv 2))+i64.wrap (i64.wrap ((i64.wrap (b.tdiv 256)).tdiv 2)+1))) else none else none else bif decide (a=(↑(1:Nat):Int)) then bif decide (0≤a∧a < (↑(2:Nat):Int)) then bif decide (a=(↑(0:Nat):Int)) then k0 (i64.wrap (i64.wrap (256*i64.wrap (i64.wrap ((b.tmod 256).tdiv 2)+1))+i64.wrap ((b.tmod 256).tdiv 2))) else bif decide (a=(↑(1:Nat):Int)) then k0 (i64.wrap (i64.wrap (256*i64.wrap ((i64.wrap (b.tdiv 256)).tdiv 2))+i64.wrap (i64.wrap ((b.tmod 256).tdiv 2)+1))) else none else none else none else none else bif decide (0≤a∧a < (↑(2:Nat):Int)) then bif decide (a=(↑(0:Nat):Int)) then bif decide (0≤a∧a < (↑(2:Nat):Int)) then bif decide (a=(↑(0:Nat):Int)) then k0 (i64.wrap (i64.wrap (256*i64.wrap (i64.wrap (b.tdiv 256)+1))+b.tmod 256)) else bif decide (a=(↑(1:Nat):Int)) then k0 (i64.wrap (i64.wrap (256*i64.wrap (b.tdiv 256))+i64.wrap (i64.wrap (b.tdiv 256)+1))) else none else none else bif decide (a=(↑(1:Nat):Int)) then bif decide (0≤a∧a < (↑(2:Nat):Int)) then bif decide (a=(↑(0:Nat):Int)) then k0 (i64.wrap (i64.wrap ((256:Int)*i64.wrap (b.tmod (256:Int)+(1:Int)))+b.tmod (256:Int))) else bif decide (a=(↑(1:Nat):Int)) then k0 (i64.wrap (i64.wrap ((256:Int)*i64.wrap (b.tdiv (256:Int)))+i64.wrap (b.tmod (256:Int)+(1:Int)))) else none else none else none else none else bif decide (a=(↑(1:Nat):Int)) then bif b.tmod (256:Int)==(255:Int) then bif decide (0≤a∧a < (↑(2:Nat):Int)) then bif decide (a=(↑(0:Nat):Int)) then bif decide (0≤a∧a < (↑(2:Nat):Int)) then bif decide (a=(↑(0:Nat):Int)) then k0 (i64.wrap (i64.wrap (256*i64.wrap (i64.wrap ((i64.wrap (b.tdiv 256)).tdiv 2)+1))+i64.wrap ((b.tmod 256).tdiv 2))) else bif decide (a=(↑(1:Nat):Int)) then k0 (i64.wrap (i64.wrap (256*i64.wrap ((i64.wrap (b.tdiv 256)).tdiv 2))+i64.wrap (i64.wrap ((i64.wrap (b.tdiv 256)).tdiv 2)+1))) else none else none else bif decide (a=(↑(1:Nat):Int)) then bif decide (0≤a∧a < (↑(2:Nat):Int)) then bif decide (a=(↑(0:Nat):Int)) then k0 (i64.wrap (i64.wrap (256*i64.wrap (i64.wrap ((b.tmod 256).tdiv 2)+1))+i64.wrap ((b.tmod 256).tdiv 2))) else bif decide (a=(↑(1:Nat):Int)) then k0 (i64.wrap (i64.wrap (256*i64.wrap ((i64.wrap (b.tdiv 256)).tdiv 2))+i64.wrap (i64.wrap ((b.tmod 256).tdiv 2)+1))) else none else none else none else none else bif decide (0≤a∧a < (↑(2:Nat):Int)) then bif decide (a=(↑(0:Nat):Int)) then bif decide (0≤a∧a < (↑(2:Nat):Int)) then bif decide (a=(↑(0:Nat):Int)) then k0 (i64.wrap (i64.wrap (256*i64.wrap (i64.wrap (b.tdiv 256)+1))+b.tmod 256)) else bif decide (a=(↑(1:Nat):Int)) then k0 (i64.wrap (i64.wrap (256*i64.wrap (b.tdiv 256))+i64.wrap (i64.wrap (b.tdiv 256)+1))) else none else none else bif decide (a=(↑(1:Nat):Int)) then bif decide (0≤a∧a < (↑(2:Nat):Int)) then bif decide (a=(↑(0:Nat):Int)) then k0 (i64.wrap (i64.wrap ((256:Int)*i64.wrap (b.tmod (256:Int)+(1:Int)))+b.tmod (256:Int))) else bif decide (a=(↑(1:Nat):Int)) then k0 (i64.wrap (i64.wrap ((256:Int)*i64.wrap (b.tdiv (256:Int)))+i64.wrap (b.tmod (256:Int)+(1:Int)))) else none else none else none else none else none else none else bif a==i64.wrap (b.tdiv 32) then k0 (i64.wrap (i64.wrap ((32:Int)*i64.wrap (b.tdiv (32:Int)))+bif decide ((31:Int) < i64.wrap (b.tmod (32:Int)+(1:Int))) then (31:Int) else i64.wrap (b.tmod (32:Int)+(1:Int)))) else bif b.tmod (32:Int)==(0:Int) then k0 (i64.wrap (i64.wrap (32*a)+b.tmod 32)) else k0 (i64.wrap (i64.wrap (32*i64.wrap (b.tdiv 32))+i64.wrap (b.tmod 32 - i64.wrap (1+i64.wrap ((b.tmod 32).tdiv 4)))))
abbrev eX:Type:=Int→Int→Int→(Int→OA)→OA
theorem Eo (Z:Nat) (a b d:Int) (k:Ev.Cont):evalFn tab (Bp Z) J0 IM Z Tryz.f193 [.c (i6 a),.c (i6 b),.c (i6 d)] [] k=cD Z a b d (fun r=>match r with | e=>k (.c (i6 e),[])):=by
 kernel_rfl
theorem Km (Z:Nat):GOK prog (Bp Z):=
 gok_nil
def lW (F:eX):Ev.Spec:=fun args objs k=>match args,objs with | [.c (i6 a),.c (i6 b),.c (i6 d)],[]=>F a b d (fun r=>match r with | e=>k (.c (i6 e),[])) | _,_=>none
theorem zF (Z:Nat):FnOK prog 193 (lW (cD Z)):=by
 intro args objs kk r h
 unfold lW at h
 split at h
 ·skip
  exact fo0 (Km Z) func193 rfl kr _ _ kk r ((Eo Z _ _ _ kk).trans h)
 ·cases h
def Lz (i:Nat):Option (List Nat):=Ev.look i [(200003,[0])]
def AE (a:eX) (f:Nat):Option Ev.Spec:=Ev.look f [(193,lW a)]
def MQ (Z:Nat):Nat→Option Ev.Spec:=AE (cD Z)
def te (Z:Nat) (f:eX) (a d:Int) (g c:Int) (j k:Int) (h:Bool) (b i:LI) (k0:(Int×Int×Int×Bool×LI×LI)→OA):OA:=bif d==1 then bif decide (0≤a∧a < (↑b.length:Int)) then (f c (b.getD a.toNat 0) d (fun e=>bif decide (0≤a∧a < (↑b.length:Int)) then k0 (c,j,g,h,b.set a.toNat e,i) else none)) else none else bif decide (0≤a∧a < (↑b.length:Int)) then (f c (b.getD a.toNat 0) d (fun e=>bif decide (0≤a∧a < (↑b.length:Int)) then k0 (c,u64.wrap (g+1),k,h,b.set a.toNat e,i) else none)) else none
abbrev fa:Type:=Int→Int→Int→Int→Int→Int→Bool→LI→LI→((Int×Int×Int×Bool×LI×LI)→OA)→OA
def et (Z:Nat):fa:=te Z (cD Z)
theorem Jl (Z:Nat) (a:eX) (b d:Int) (e f:Int) (g h:Int) (i:Bool) (j l:LI) (k:Ev.Cont):evalFn tab (AE a) J0 Lz Z Tryz.f165 [.c (.ptr 0 0),.c (i6 b),.c (i6 d),.c (.int .u64 e)] [.cells 138 (i6 f::.own 1::ctb (.int .u64 g::.int .u64 h::.own 2::.bool i::[])),.vec 3 ti j false,.vec 5 (.int .u8) l false] k=te Z a b d e f g h i j l (fun r=>match r with | (m,n,o,p,q,s)=>k (.tup [],[.cells 138 (i6 m::.own 1::ctb (.int .u64 n::.int .u64 o::.own 2::.bool p::[])),.vec 3 ti q false,.vec 5 (.int .u8) s false])):=by
 kernel_rfl
theorem Qk (Z:Nat):GOK prog (MQ Z):=
 gc (zF Z) func193 kr rfl <|
 gok_nil
def qk (F:fa):Ev.Spec:=fun args objs k=>match args,objs with | [.c (.ptr b d),.c (i6 e),.c (i6 f),.c (.int .u64 g)],[.cells h a,.vec i ti j false,.vec l (.int .u8) m false]=>(match splitRun 2 ctn a with | some ([i6 n,.own o],[.int .u64 p,.int .u64 q,.own s,.bool t])=>bif qb [b,d,h,i,l,o,s] [0,0,138,3,5,1,2] then F e f g n p q t j m (fun r=>match r with | (u,v,w,x,y,z)=>k (.tup [],[.cells 138 (i6 u::.own 1::ctb (.int .u64 v::.int .u64 w::.own 2::.bool x::[])),.vec 3 ti y false,.vec 5 (.int .u8) z false])) else none | _=>none) | _,_=>none
theorem Ih (Z:Nat):FnOK prog 165 (qk (et Z)):=by
 intro args objs kk r h
 unfold qk at h
 split at h
 ·skip
  split at h
  rotate_left 1
  ·cases h
  rename_i hsp
  have esp:=splitRun_eq hsp
  subst esp
  obtain ⟨hb,h⟩:=cond_some' h
  cases qb_eq hb
  exact fo0 (Qk Z) func165 rfl kr _ _ kk r ((Jl Z (cD Z) _ _ _ _ _ _ _ _ _ kk).trans h)
 ·cases h
def kN (i:Nat):Option (List Nat):=Ev.look i [(6,[0,1000002]),(100001,[]),(400001,[6]),(600000,[])]
def vd (e:aZ) (a:fa) (b:fP) (c:gr) (d:gQ) (f:Nat):Option Ev.Spec:=Ev.look f [(81,jK e),(165,qk a),(166,pG b),(167,tX c),(168,ts d)]
def Bw (Z:Nat):Nat→Option Ev.Spec:=vd (aw Z) (et Z) (dM Z) (di Z) (eo Z)
abbrev rB:Type:=Int×Int×Int×Bool×LI×LI
abbrev xy:Type:=(Int×Int×Int×Bool×LI×LI→OA)
def lZ (Z:Nat) (A:aZ) (y:fa) (z:fP) (q:gr) (p:gQ) (s t u:Int) (v:Bool) (w x:LI) (c:rB→OA) (B:xy):OA:=match B with | b=>(q s t u v w x (fun (r,j,k,l,m,n,o)=>bif r then both ((p j k l m n o (fun (a,e,f,g,h,i,d)=>bif decide ((d.length+ [a].length)*(1:Nat)≤(140737488355328:Nat)∧d.length+ [a].length≤(140737488355328:Nat)) then c (e,f,g,h,i,d++ [a]) else none))) ((p j k l m n o (fun (a,e,f,g,h,i,d)=>both (bif decide ((d.length+ [a].length)*(1:Nat)≤(140737488355328:Nat)∧d.length+ [a].length≤(140737488355328:Nat)) then c (e,f,g,h,i,d++ [a]) else none) (bif decide ((d.length+ [a].length)*(1:Nat)≤(140737488355328:Nat)∧d.length+ [a].length≤(140737488355328:Nat)) then c (e,f,g,h,i,d++ [a]) else none)))) else b (j,k,l,m,n,o)))
def io (Z:Nat) (v:Int×Int×Int×Bool×LI×LI) (c:(Int×Int×Int×Bool×LI×LI)→OA) (B:(Int×Int×Int×Bool×LI×LI→OA)):OA:=match v with | (a,b,d,e,f,g)=>lZ Z (aw Z) (et Z) (dM Z) (di Z) (eo Z) a b d e f g c B
def mq (Z:Nat) (v:rB) (b:xy):OA:=iter (io Z) Z v b
def wt (v:rB):Ev.St:=match v with | (a,b,d,e,f,g)=>⟨[(0,.c (.ptr 0 0))],[(0,.cells 138 (i6 a::.own 1::ctb (.int .u64 b::.int .u64 d::.own 2::.bool e::[]))),(1,.vec 3 ti f false),(2,.vec 5 (.int .u8) g true)],3,3⟩
def vW (K:KT):xy:=(fun v=>match v with | (a,b,c,d,e,f)=>K .normal ⟨[],[(0,.cells 138 (i6 a::.own 1::ctb (.int .u64 b::.int .u64 c::.own 2::.bool d::[]))),(1,.vec 3 ti e false),(2,.vec 5 (.int .u8) f true)],3,3⟩)
theorem N5 (Z:Nat) (e:aZ) (a:fa) (b:fP) (c:gr) (d:gQ) (R:Ev.St→OA) (K:KT) (f g h:Int) (i:Bool) (j k:LI):evalCode tab (vd e a b c d) J0 kN Z (bodyOf 1 Tryz.f132) (wt (f,g,h,i,j,k)) (lc kN 6 1 R K)=lZ Z e a b c d f g h i j k (fun v=>R (wt v)) (vW K):=by
 kernel_rfl
def nf (Z:Nat):Ev.Blk:=fun st K=>match canonO (kN 6) st with | some s=>(match s with | ⟨[(f,.c (.ptr g h))],[(i,.cells j a),(k,.vec l ti m false),(n,.vec o (.int .u8) p true)],q,b⟩=>(match splitRun 2 ctn a with | some ([i6 r,.own d],[.int .u64 t,.int .u64 u,.own e,.bool v])=>bif qb [f,g,h,i,j,k,l,n,o,q,b,d,e] [0,0,0,0,138,1,3,2,5,3,3,1,2] then iter (io Z) Z (r,t,u,v,m,p) (vW K) else none | _=>none) | _=>none) | none=>none
theorem PD (Z:Nat) (st:Ev.St) (K:KT) (r:Ans) (h:nf Z st K=some r):evalCode tab (Bw Z) J0 kN Z (.block 1 (.loop (bodyOf 1 Tryz.f132))) st K=some r:=by
 unfold nf at h
 split at h
 ·rename_i s hs
  split at h
  ·skip
   split at h
   rotate_left 1
   ·cases h
   rename_i hsp
   have esp:=splitRun_eq hsp
   subst esp
   obtain ⟨hb,h⟩:=cond_some' h
   cases qb_eq hb
   exact blk_loop (S:=wt) (ks:=vW) (step:=io Z) (v:=(_,_,_,_,_,_)) kr kr (fun R K v=>by obtain ⟨a,b,c,d,e,f⟩:=v; exact N5 Z (aw Z) (et Z) (dM Z) (di Z) (eo Z) R K a b c d e f) hs h
  ·cases h
 ·cases h
def KN (Z:Nat) (i:Nat):Option Ev.Blk:=Ev.look i [(100001,nf Z)]
def ke (Z:Nat) (q:aZ) (o:fa) (p:fP) (Y:gr) (a0:gQ) (g h:Int) (S T U:Int) (V:Bool) (W X:LI) (k0:(Int×Int×Int×Int×Bool×LI×LI)→OA) (k1:(Int×Int×Int×Int×Bool×LI×LI)→OA):OA:=(q S T U V W X (fun (R,b,c,d,e,a,f)=>bif R then k0 (7,b,c,d,e,a,f) else bif decide (g < 0) then k0 (2,b,c,d,e,a,f) else bif decide (g≥(↑a.length:Int)) then k0 (2,b,c,d,e,a,f) else bif h != 0 then bif h != 1 then k0 (2,b,c,d,e,a,f) else (p g b c d e a f (fun (r,s,t,u,v,w,x)=>(o g h r s t u v w x (fun (y,z,A,B,C,D)=>(mq Z (y,z,A,B,C,D) (fun (i,j,k,l,m,n)=>k1 (0,i,j,k,l,m,n))))))) else (p g b c d e a f (fun (E,F,G,H,I,J,K)=>(o g h E F G H I J K (fun (L,M,N,O,P,Q)=>(mq Z (L,M,N,O,P,Q) (fun (i,j,k,l,m,n)=>k1 (0,i,j,k,l,m,n)))))))))
abbrev ai:Type:=Int→Int→Int→Int→Int→Bool→LI→LI→((Int×Int×Int×Int×Bool×LI×LI)→OA)→((Int×Int×Int×Int×Bool×LI×LI)→OA)→OA
def ab (Z:Nat):ai:=ke Z (aw Z) (et Z) (dM Z) (di Z) (eo Z)
theorem Gc (Z:Nat) (n:aZ) (i:fa) (j:fP) (l:gr) (m:gQ) (o p:Int) (q s t:Int) (u:Bool) (v w:LI) (k:Ev.Cont):evalFn tab (vd n i j l m) (KN Z) kN Z Tryz.f132 [.c (.ptr 0 0),.c (i6 o),.c (i6 p)] [.cells 138 (i6 q::.own 1::ctb (.int .u64 s::.int .u64 t::.own 2::.bool u::[])),.vec 3 ti v false,.vec 5 (.int .u8) w false] k=ke Z n i j l m o p q s t u v w (fun r=>match r with | (a,b,d,e,f,g,h)=>k (.c (i6 a),[.cells 138 (i6 b::.own 1::ctb (.int .u64 d::.int .u64 e::.own 2::.bool f::[])),.vec 3 ti g false,.vec 5 (.int .u8) h false])) (fun r=>match r with | (a,b,d,e,f,g,h)=>k (.c (i6 a),[.cells 138 (i6 b::.own 1::ctb (.int .u64 d::.int .u64 e::.own 2::.bool f::[])),.vec 3 ti g false,.vec 5 (.int .u8) h true])):=by
 kernel_rfl
theorem Cl (Z:Nat):GOK prog (Bw Z):=
 gc (vw Z) func81 kr rfl <|
 gc (Ih Z) func165 kr rfl <|
 gc (Kk Z) func166 kr rfl <|
 gc (NR Z) func167 kr rfl <|
 gc (Li Z) func168 kr rfl <|
 gok_nil
theorem KH (Z:Nat):BlkOK prog Tryz.f132.ntmps (.block 1 (.loop (bodyOf 1 Tryz.f132))) (nf Z):=bo0 (Cl Z) kr kr (PD Z)
def dI (F:ai):Ev.Spec:=fun args objs k=>match args,objs with | [.c (.ptr j l),.c (i6 m),.c (i6 n)],[.cells o i,.vec p ti q false,.vec s (.int .u8) t false]=>(match splitRun 2 ctn i with | some ([i6 u,.own v],[.int .u64 w,.int .u64 x,.own y,.bool z])=>bif qb [j,l,o,p,s,v,y] [0,0,138,3,5,1,2] then F m n u w x z q t (fun r=>match r with | (a,b,d,e,f,g,h)=>k (.c (i6 a),[.cells 138 (i6 b::.own 1::ctb (.int .u64 d::.int .u64 e::.own 2::.bool f::[])),.vec 3 ti g false,.vec 5 (.int .u8) h false])) (fun r=>match r with | (a,b,d,e,f,g,h)=>k (.c (i6 a),[.cells 138 (i6 b::.own 1::ctb (.int .u64 d::.int .u64 e::.own 2::.bool f::[])),.vec 3 ti g false,.vec 5 (.int .u8) h true])) else none | _=>none) | _,_=>none
def vT (Z:Nat):Ev.Spec:=dI (ab Z)
theorem ef (Z:Nat):FnOK prog 132 (vT Z):=by
 intro args objs kk r h
 unfold vT dI at h
 split at h
 ·skip
  split at h
  rotate_left 1
  ·cases h
  rename_i hsp
  have esp:=splitRun_eq hsp
  subst esp
  obtain ⟨hb,h⟩:=cond_some' h
  cases qb_eq hb
  exact fo1 (Cl Z) func132 rfl (KH Z) kr _ _ kk r ((Gc Z (aw Z) (et Z) (dM Z) (di Z) (eo Z) _ _ _ _ _ _ _ _ kk).trans h)
 ·cases h
def N4 (i:Nat):Option (List Nat):=Ev.look i []
def Op (f:Nat):Option Ev.Spec:=Ev.look f []
def zE (Z:Nat):Nat→Option Ev.Spec:=Op
def dO (Z:Nat) (b:Bool) (a:Int) (k0:(Bool)→OA):OA:=bif b then k0 (a==0) else bif decide (a≥(-1048576:Int)) then k0 (decide (a≤1048576)) else k0 false
abbrev pm:Type:=Bool→Int→(Bool→OA)→OA
theorem PQ (Z:Nat) (a:Bool) (b:Int) (k:Ev.Cont):evalFn tab (zE Z) J0 N4 Z Tryz.f137 [.agg [.bool a,i6 b]] [] k=dO Z a b (fun r=>match r with | d=>k (.c (.bool d),[])):=by
 kernel_rfl
theorem OV (Z:Nat):GOK prog (zE Z):=
 gok_nil
def xD (F:pm):Ev.Spec:=fun args objs k=>match args,objs with | [.agg [.bool a,i6 b]],[]=>F a b (fun r=>match r with | d=>k (.c (.bool d),[])) | _,_=>none
theorem OS (Z:Nat):FnOK prog 137 (xD (dO Z)):=by
 intro args objs kk r h
 unfold xD at h
 split at h
 ·skip
  exact fo0 (OV Z) func137 rfl kr _ _ kk r ((PQ Z _ _ kk).trans h)
 ·cases h
end
end Go.Proofs.YtohnjbmiaegofaaGreat

