/- What the functions that SymbolRefines reaches do: their typed texts, each with the proof that the machine does it. No condition. -/
import Derived.Test.YtohnjbmiaegofaaGreatEvX
set_option linter.unusedVariables false
set_option linter.unusedSimpArgs false
set_option linter.unusedSectionVars false
namespace Go.Proofs.YtohnjbmiaegofaaGreat
open Go Ev
open Go.IntKind (i64 u64 u8 i32 u32 u16)
noncomputable section
def ctb (r:List SC):List SC:=.int .i64 2048::.int .i64 1792::.int .i64 1568::.int .i64 1372::.int .i64 1201::.int .i64 1051::.int .i64 920::.int .i64 805::.int .i64 705::.int .i64 617::.int .i64 540::.int .i64 473::.int .i64 414::.int .i64 363::.int .i64 318::.int .i64 279::.int .i64 245::.int .i64 215::.int .i64 189::.int .i64 166::.int .i64 146::.int .i64 128::.int .i64 112::.int .i64 98::.int .i64 86::.int .i64 76::.int .i64 67::.int .i64 59::.int .i64 52::.int .i64 46::.int .i64 41::.int .i64 36::r
def ctn:List (IntKind×Int):=[(.i64,2048),(.i64,1792),(.i64,1568),(.i64,1372),(.i64,1201),(.i64,1051),(.i64,920),(.i64,805),(.i64,705),(.i64,617),(.i64,540),(.i64,473),(.i64,414),(.i64,363),(.i64,318),(.i64,279),(.i64,245),(.i64,215),(.i64,189),(.i64,166),(.i64,146),(.i64,128),(.i64,112),(.i64,98),(.i64,86),(.i64,76),(.i64,67),(.i64,59),(.i64,52),(.i64,46),(.i64,41),(.i64,36)]
def qb:List Nat→List Nat→Bool
 | [],[]=>true
 | a::x,b::y=>Nat.beq a b&&qb x y
 | _,_=>false
theorem qb_eq:∀ {x y:List Nat},qb x y=true→x=y
 | [],[],_=>rfl
 | [],_::_,h=>by cases h
 | _::_,[],h=>by cases h
 | a::x,b::y,h=>by
  have h:(Nat.beq a b&&qb x y)=true:=h
  rw [Bool.and_eq_true] at h
  rw [Nat.eq_of_beq_eq_true h.1,qb_eq h.2]
theorem w6 {x:Int} (h1: -9223372036854775808≤x:=by omega) (h2:x≤9223372036854775807:=by omega):i64.wrap x=x:=by
 simp [IntKind.wrap,IntKind.min,IntKind.max,IntKind.signed,IntKind.bits]
 omega
theorem fo0 {G:Nat→Option Ev.Spec} {J:Nat→Option Ev.Blk} {kp:Nat→Option (List Nat)} {fuel:Nat} {f:FuncId} {fn:Func} (hG:GOK Tryz.prog G) (hf:Tryz.prog.funcs[f]? =some fn) (hb:fn.body=some (fn.body.getD .skip)) (h:obl J (fn.body.getD .skip)= []):FnOK Tryz.prog f (evalFn tab G J kp fuel fn):=
  fn_ok tab_ok hG mixed hf (c:=fn.body.getD .skip) hb (fun q hq=>by
    rw [h] at hq
    cases hq)
@[match_pattern] abbrev i6 (x:Int):Ev.SC:=.int .i64 x
abbrev LI:Type:=List Int
abbrev OA:Type:=Option Ans
abbrev KT:Type:=Ev.Ex→Ev.St→Option Ans
def J0 (i:Nat):Option Ev.Blk:=Ev.look i []
theorem gc {k:Nat} {v:Ev.Spec} {r:List (Nat×Ev.Spec)} {fn:Func} {c:Code} (h:FnOK Tryz.prog (k % 1000000) v) (hf:Tryz.prog.funcs[k % 1000000]? =some fn) (hn:(fn.name== "runtime.NumGoroutine")=false) (hb:fn.body=some c) (hr:GOK Tryz.prog (fun f=>Ev.look f r)):GOK Tryz.prog (fun f=>Ev.look f ((k,v)::r)):=gok_cons ⟨h,enters_of hf hn hb⟩ hr
theorem bo0 {G:Nat→Option Ev.Spec} {J:Nat→Option Ev.Blk} {kp:Nat→Option (List Nat)} {fuel nt:Nat} {b:Code} {sp:Ev.Blk} (hG:GOK Tryz.prog G) (hfit:codeFit nt b=true) (h:obl J b= []) (hs:∀ st K r,sp st K=some r→evalCode tab G J kp fuel b st K=some r):BlkOK Tryz.prog nt b sp:=
  blk_of (blk_of_code tab_ok hG mixed hfit (fun q hq=>by
    rw [h] at hq
    cases hq)) hs
theorem fo1 {G:Nat→Option Ev.Spec} {J:Nat→Option Ev.Blk} {kp:Nat→Option (List Nat)} {fuel:Nat} {f:FuncId} {fn:Func} {b:Code} {sp:Ev.Blk} (hG:GOK Tryz.prog G) (hf:Tryz.prog.funcs[f]? =some fn) (hb:fn.body=some (fn.body.getD .skip)) (hk:BlkOK Tryz.prog fn.ntmps b sp) (h:obl J (fn.body.getD .skip)= [(b,sp)]):FnOK Tryz.prog f (evalFn tab G J kp fuel fn):=
  fn_ok tab_ok hG mixed hf (c:=fn.body.getD .skip) hb (fun q hq=>by
    rw [h] at hq
    simp only [List.mem_cons,List.not_mem_nil,or_false] at hq
    subst hq
    exact hk)
def CC (i:Nat):Option (List Nat):=Ev.look i []
def IA (f:Nat):Option Ev.Spec:=Ev.look f []
def wL (fuel:Nat):Nat→Option Ev.Spec:=IA
def ar (fuel:Nat) (b c d:Int) (a:Bool) (e f:(List Int)) (k0:(Bool×Int×Int×Int×Bool×(List Int)×(List Int))→Option Ans):Option Ans:=k0 (!a,b,c,d,a,e,f)
abbrev aP:Type:=Int→Int→Int→Bool→LI→LI→((Bool×Int×Int×Int×Bool×LI×LI)→Option Ans)→Option Ans
theorem DD (fuel:Nat) (a b d:Int) (e:Bool) (f g:LI) (k:Ev.Cont):evalFn tab (wL fuel) J0 CC fuel Tryz.f81 [.c (.ptr 0 0)] [.cells 138 (i6 a::.own 1::ctb (.int .u64 b::.int .u64 d::.own 2::.bool e::[])),.vec 3 (.int .i64) f false,.vec 5 (.int .u8) g false] k=ar fuel a b d e f g (fun r=>match r with | (h,i,j,l,m,n,o)=>k (.c (.bool h),[.cells 138 (i6 i::.own 1::ctb (.int .u64 j::.int .u64 l::.own 2::.bool m::[])),.vec 3 (.int .i64) n false,.vec 5 (.int .u8) o false])):=by
  kernel_rfl
theorem Dm (fuel:Nat):GOK Tryz.prog (wL fuel):=
  gok_nil
def iy (F:aP):Ev.Spec:=fun args objs k=>match args,objs with | [.c (.ptr b d)],[.cells e a,.vec f (.int .i64) g false,.vec h (.int .u8) i false]=>(match splitRun 2 ctn a with | some ([i6 j,.own l],[.int .u64 m,.int .u64 n,.own o,.bool p])=>bif qb [b,d,e,f,h,l,o] [0,0,138,3,5,1,2] then F j m n p g i (fun r=>match r with | (q,s,t,u,v,w,x)=>k (.c (.bool q),[.cells 138 (i6 s::.own 1::ctb (.int .u64 t::.int .u64 u::.own 2::.bool v::[])),.vec 3 (.int .i64) w false,.vec 5 (.int .u8) x false])) else none | _=>none) | _,_=>none
theorem sZ (fuel:Nat):FnOK Tryz.prog 81 (iy (ar fuel)):=by
  intro args objs kk r h
  unfold iy at h
  split at h
  · skip
    split at h
    rotate_left 1
    · cases h
    rename_i hsp
    have esp:=splitRun_eq hsp
    subst esp
    obtain ⟨hb,h⟩:=cond_some' h
    cases qb_eq hb
    exact fo0 (Dm fuel) Tryz.func81 rfl (by kernel_rfl) _ _ kk r ((DD fuel _ _ _ _ _ _ kk).trans h)
  · cases h
def bY (i:Nat):Option (List Nat):=Ev.look i [(5,[0,3,15]),(10,[0,3,37,38]),(100000,[3]),(100002,[3]),(200008,[0]),(400000,[2]),(400002,[2])]
def kM (a:aP) (f:Nat):Option Ev.Spec:=Ev.look f [(81,iy a)]
def pP (fuel:Nat):Nat→Option Ev.Spec:=kM (ar fuel)
abbrev ny:Type:=Int×Int×Int×Int×Int×Bool×LI×LI×LI
abbrev si:Type:=(Int×Int×Int×Bool×LI×LI×LI→OA)
def lU (fuel:Nat) (l:aP) (f a:Int) (g h d:Int) (i:Bool) (j k e:LI) (c:ny→OA) (B:si):OA:=match B with | b=>bif decide (a < f) then bif decide (i64.wrap (24 - i64.wrap (8*a)) < 0) then none else bif decide ((e.length+ [u8.wrap (Ev.ishr IntKind.u64 d (i64.wrap ((24:Int) - i64.wrap ((8:Int)*a))))].length)*(1:Nat)≤(140737488355328:Nat)∧e.length+ [u8.wrap (Ev.ishr IntKind.u64 d (i64.wrap ((24:Int) - i64.wrap ((8:Int)*a))))].length≤(140737488355328:Nat)) then c (f,i64.wrap (a+(1:Int)),g,h,d,i,j,k,e++ [u8.wrap (Ev.ishr IntKind.u64 d (i64.wrap ((24:Int) - i64.wrap ((8:Int)*a))))]) else none else b (g,h,d,i,j,k,e)
def eZ (fuel:Nat) (v:Int×Int×Int×Int×Int×Bool×(List Int)×(List Int)×(List Int)) (c:(Int×Int×Int×Int×Int×Bool×(List Int)×(List Int)×(List Int))→Option Ans) (B:(Int×Int×Int×Bool×(List Int)×(List Int)×(List Int)→Option Ans)):Option Ans:=match v with | (a,b,d,e,f,g,h,i,j)=>lU fuel (ar fuel) a b d e f g h i j c B
def mj (fuel:Nat) (v:ny) (b:si):Option Ans:=iter (eZ fuel) fuel v b
def se (v:ny):Ev.St:=match v with | (a,b,d,e,f,g,h,i,j)=>⟨[(0,.c (.ptr 0 0)),(3,.c (.own 3)),(37,.c (i6 a)),(38,.c (i6 b))],[(0,.cells 138 (i6 d::.own 1::ctb (.int .u64 e::.int .u64 f::.own 2::.bool g::[]))),(1,.vec 3 (.int .i64) h false),(2,.vec 5 (.int .u8) i false),(3,.vec 5 (.int .u8) j true)],4,3⟩
def pF (K:KT):si:=(fun v=>match v with | (a,b,d,e,f,g,h)=>K .normal ⟨[(3,.c (.own 3))],[(0,.cells 138 (i6 a::.own 1::ctb (.int .u64 b::.int .u64 d::.own 2::.bool e::[]))),(1,.vec 3 (.int .i64) f false),(2,.vec 5 (.int .u8) g false),(3,.vec 5 (.int .u8) h true)],4,3⟩)
theorem Fn (fuel:Nat) (a:aP) (R:Ev.St→OA) (K:KT) (b c:Int) (d e f:Int) (g:Bool) (h i j:LI):evalCode tab (kM a) J0 bY fuel (bodyOf 2 Tryz.f33) (se (b,c,d,e,f,g,h,i,j)) (lc bY 10 2 R K)=lU fuel a b c d e f g h i j (fun v=>R (se v)) (pF K):=by
  kernel_rfl
def fB (fuel:Nat):Ev.Blk:=fun st K=>match canonO (bY 10) st with | some s=>(match s with | ⟨[(l,.c (.ptr m n)),(o,.c (.own p)),(q,.c (i6 r)),(t,.c (i6 u))],[(v,.cells w a),(x,.vec b (.int .i64) y false),(d,.vec e (.int .u8) z false),(f,.vec g (.int .u8) A true)],h,i⟩=>(match splitRun 2 ctn a with | some ([i6 B,.own j],[.int .u64 C,.int .u64 D,.own k,.bool E])=>bif qb [l,m,n,o,p,q,t,v,w,x,b,d,e,f,g,h,i,j,k] [0,0,0,3,3,37,38,0,138,1,3,2,5,3,5,4,3,1,2] then iter (eZ fuel) fuel (r,u,B,C,D,E,y,z,A) (pF K) else none | _=>none) | _=>none) | none=>none
theorem J9 (fuel:Nat) (st:Ev.St) (K:KT) (r:Ans) (h:fB fuel st K=some r):evalCode tab (pP fuel) J0 bY fuel (.block 2 (.loop (bodyOf 2 Tryz.f33))) st K=some r:=by
  unfold fB at h
  split at h
  · rename_i s hs
    split at h
    · skip
      split at h
      rotate_left 1
      · cases h
      rename_i hsp
      have esp:=splitRun_eq hsp
      subst esp
      obtain ⟨hb,h⟩:=cond_some' h
      cases qb_eq hb
      exact blk_loop (S:=se) (ks:=pF) (step:=eZ fuel) (v:=(_,_,_,_,_,_,_,_,_)) (by kernel_rfl) (by kernel_rfl) (fun R K v=>by obtain ⟨a,b,c,d,e,f,g,i,j⟩:=v; exact Fn fuel (ar fuel) R K a b c d e f g i j) hs h
    · cases h
  · cases h
abbrev ss:Type:=Int×Int×Int×Int×Bool×LI×LI×LI
abbrev wp:Type:=(Int×Int×Int×Bool×LI×LI×LI→OA)×(Int×Int×Int×Bool×LI×LI×LI→OA)
def lK (fuel:Nat) (r:aP) (a f:Int) (d e:Int) (g:Bool) (h i j:LI) (c:ss→OA) (B:wp):OA:=match B with | (ret,b)=>bif decide (a < 5) then bif decide (u64.wrap (i64.wrap (32 - i64.wrap (8*a))) < 0) then none else bif decide (u64.wrap (i64.wrap (32 - i64.wrap (8*a))) < 0) then none else bif decide (Ev.ishl IntKind.u64 (Ev.ishr IntKind.u64 e (u64.wrap (i64.wrap (32 - i64.wrap (8*a))))) (u64.wrap (i64.wrap (32 - i64.wrap (8*a))))≥d) then (mj fuel (a,0,f,d,e,g,h,i,j) (fun (k,l,m,n,o,p,q)=>ret (k,l,m,n,o,p,q))) else c (i64.wrap (a+1),f,d,e,g,h,i,j) else b (f,d,e,g,h,i,j)
def fK (fuel:Nat) (v:Int×Int×Int×Int×Bool×(List Int)×(List Int)×(List Int)) (c:(Int×Int×Int×Int×Bool×(List Int)×(List Int)×(List Int))→Option Ans) (B:(Int×Int×Int×Bool×(List Int)×(List Int)×(List Int)→Option Ans)×(Int×Int×Int×Bool×(List Int)×(List Int)×(List Int)→Option Ans)):Option Ans:=match v with | (a,b,d,e,f,g,h,i)=>lK fuel (ar fuel) a b d e f g h i c B
def wI (fuel:Nat) (v:ss) (ret:(Int×Int×Int×Bool×(List Int)×(List Int)×(List Int)→Option Ans)) (b:(Int×Int×Int×Bool×(List Int)×(List Int)×(List Int)→Option Ans)):Option Ans:=iter (fK fuel) fuel v (ret,b)
def jU (fuel:Nat) (i:Nat):Option Ev.Blk:=Ev.look i [(100002,fB fuel)]
def sU (v:ss):Ev.St:=match v with | (a,b,d,e,f,g,h,i)=>⟨[(0,.c (.ptr 0 0)),(3,.c (.own 3)),(15,.c (i6 a))],[(0,.cells 138 (i6 b::.own 1::ctb (.int .u64 d::.int .u64 e::.own 2::.bool f::[]))),(1,.vec 3 (.int .i64) g false),(2,.vec 5 (.int .u8) h false),(3,.vec 5 (.int .u8) i true)],4,3⟩
def pz (K:KT):wp:=((fun v=>match v with | (a,b,d,e,f,g,h)=>K .ret ⟨[(2,.c (.own 3))],[(0,.cells 138 (i6 a::.own 1::ctb (.int .u64 b::.int .u64 d::.own 2::.bool e::[]))),(1,.vec 3 (.int .i64) f false),(2,.vec 5 (.int .u8) g false),(3,.vec 5 (.int .u8) h true)],4,3⟩),(fun v=>match v with | (a,b,d,e,f,g,h)=>K .normal ⟨[(3,.c (.own 3))],[(0,.cells 138 (i6 a::.own 1::ctb (.int .u64 b::.int .u64 d::.own 2::.bool e::[]))),(1,.vec 3 (.int .i64) f false),(2,.vec 5 (.int .u8) g false),(3,.vec 5 (.int .u8) h true)],4,3⟩))
theorem zW (fuel:Nat) (a:aP) (R:Ev.St→OA) (K:KT) (b c:Int) (d e:Int) (f:Bool) (g h i:LI):evalCode tab (kM a) (jU fuel) bY fuel (bodyOf 0 Tryz.f33) (sU (b,c,d,e,f,g,h,i)) (lc bY 5 0 R K)=lK fuel a b c d e f g h i (fun v=>R (sU v)) (pz K):=by
  kernel_rfl
def jl (fuel:Nat):Ev.Blk:=fun st K=>match canonO (bY 5) st with | some s=>(match s with | ⟨[(k,.c (.ptr l m)),(n,.c (.own o)),(p,.c (i6 q))],[(r,.cells t a),(u,.vec v (.int .i64) w false),(b,.vec d (.int .u8) x false),(e,.vec f (.int .u8) y true)],g,h⟩=>(match splitRun 2 ctn a with | some ([i6 z,.own i],[.int .u64 A,.int .u64 B,.own j,.bool C])=>bif qb [k,l,m,n,o,p,r,t,u,v,b,d,e,f,g,h,i,j] [0,0,0,3,3,15,0,138,1,3,2,5,3,5,4,3,1,2] then iter (fK fuel) fuel (q,z,A,B,C,w,x,y) (pz K) else none | _=>none) | _=>none) | none=>none
theorem BB (fuel:Nat) (st:Ev.St) (K:KT) (r:Ans) (h:jl fuel st K=some r):evalCode tab (pP fuel) (jU fuel) bY fuel (.block 0 (.loop (bodyOf 0 Tryz.f33))) st K=some r:=by
  unfold jl at h
  split at h
  · rename_i s hs
    split at h
    · skip
      split at h
      rotate_left 1
      · cases h
      rename_i hsp
      have esp:=splitRun_eq hsp
      subst esp
      obtain ⟨hb,h⟩:=cond_some' h
      cases qb_eq hb
      exact blk_loop (S:=sU) (ks:=pz) (step:=fK fuel) (v:=(_,_,_,_,_,_,_,_)) (by kernel_rfl) (by kernel_rfl) (fun R K v=>by obtain ⟨a,b,c,d,e,f,g,i⟩:=v; exact zW fuel (ar fuel) R K a b c d e f g i) hs h
    · cases h
  · cases h
def FZ (fuel:Nat) (i:Nat):Option Ev.Blk:=Ev.look i [(100002,fB fuel),(100000,jl fuel)]
def qT (fuel:Nat) (g:aP) (p q r:Int) (s:Bool) (t u:LI) (k0:(Int×Int×Int×Bool×LI×LI×LI)→OA):OA:=(g p q r s t u (fun (h,b,c,d,e,f,a)=>bif h then k0 (b,c,d,e,f,a,[]) else bif decide (((0:Nat)+a.length)*(1:Nat)≤(140737488355328:Nat)∧(0:Nat)+a.length≤(140737488355328:Nat)) then (wI fuel ((0:Int),b,c,d,e,f,a,[]++a) (fun (ret0_0,ret0_1,ret0_2,ret0_3,ret0_4,ret0_5,ret0_6)=>k0 (ret0_0,ret0_1,ret0_2,ret0_3,ret0_4,ret0_5,ret0_6)) (fun (i,j,k,l,m,n,o)=>k0 (i,j,k,l,m,n,o))) else none))
abbrev ii:Type:=Int→Int→Int→Bool→LI→LI→((Int×Int×Int×Bool×LI×LI×LI)→Option Ans)→Option Ans
def fA (fuel:Nat):ii:=qT fuel (ar fuel)
theorem zv (fuel:Nat) (a:aP) (b d e:Int) (f:Bool) (g h:LI) (k:Ev.Cont):evalFn tab (kM a) (FZ fuel) bY fuel Tryz.f33 [.c (.ptr 0 0)] [.cells 138 (i6 b::.own 1::ctb (.int .u64 d::.int .u64 e::.own 2::.bool f::[])),.vec 3 (.int .i64) g false,.vec 5 (.int .u8) h false] k=qT fuel a b d e f g h (fun r=>match r with | (i,j,l,m,n,o,p)=>k (.c (.own 3),[.cells 138 (i6 i::.own 1::ctb (.int .u64 j::.int .u64 l::.own 2::.bool m::[])),.vec 3 (.int .i64) n false,.vec 5 (.int .u8) o false,.vec 5 (.int .u8) p true])):=by
  kernel_rfl
theorem mG (fuel:Nat):GOK Tryz.prog (pP fuel):=
  gc (sZ fuel) Tryz.func81 (by kernel_rfl) rfl <|
  gok_nil
theorem BV (fuel:Nat):BlkOK Tryz.prog Tryz.f33.ntmps (.block 2 (.loop (bodyOf 2 Tryz.f33))) (fB fuel):=bo0 (mG fuel) (by kernel_rfl) (by kernel_rfl) (J9 fuel)
theorem zq (fuel:Nat):BlkOK Tryz.prog Tryz.f33.ntmps (.block 0 (.loop (bodyOf 0 Tryz.f33))) (jl fuel):=
  blk_of (blk_of_code tab_ok (mG fuel) mixed (J:=jU fuel) (kp:=bY) (fuel:=fuel) (by kernel_rfl) (fun q hq=>by
    rw [(by kernel_rfl:obl (jU fuel) (.block 0 (.loop (bodyOf 0 Tryz.f33)))= [(.block 2 (.loop (bodyOf 2 Tryz.f33)),fB fuel)])] at hq
    simp only [List.mem_cons,List.not_mem_nil,or_false] at hq
    subst hq
    · exact BV fuel)) (BB fuel)
def tv (F:ii):Ev.Spec:=fun args objs k=>match args,objs with | [.c (.ptr b d)],[.cells e a,.vec f (.int .i64) g false,.vec h (.int .u8) i false]=>(match splitRun 2 ctn a with | some ([i6 j,.own l],[.int .u64 m,.int .u64 n,.own o,.bool p])=>bif qb [b,d,e,f,h,l,o] [0,0,138,3,5,1,2] then F j m n p g i (fun r=>match r with | (q,s,t,u,v,w,x)=>k (.c (.own 3),[.cells 138 (i6 q::.own 1::ctb (.int .u64 s::.int .u64 t::.own 2::.bool u::[])),.vec 3 (.int .i64) v false,.vec 5 (.int .u8) w false,.vec 5 (.int .u8) x true])) else none | _=>none) | _,_=>none
def rm (fuel:Nat):Ev.Spec:=tv (fA fuel)
theorem xX (fuel:Nat):FnOK Tryz.prog 33 (rm fuel):=by
  intro args objs kk r h
  unfold rm tv at h
  split at h
  · skip
    split at h
    rotate_left 1
    · cases h
    rename_i hsp
    have esp:=splitRun_eq hsp
    subst esp
    obtain ⟨hb,h⟩:=cond_some' h
    cases qb_eq hb
    exact fo1 (mG fuel) Tryz.func33 rfl (zq fuel) (by kernel_rfl) _ _ kk r ((zv fuel (ar fuel) _ _ _ _ _ _ kk).trans h)
  · cases h
def G5 (i:Nat):Option (List Nat):=Ev.look i [(200001,[1])]
def Es (f:Nat):Option Ev.Spec:=Ev.look f []
def yJ (fuel:Nat):Nat→Option Ev.Spec:=Es
def bl (fuel:Nat) (b:Int) (a:(List Int)) (k0:(Int×(List Int))→Option Ans):Option Ans:=bif decide (((0:Nat)+a.length)*(8:Nat)≤(140737488355328:Nat)∧(0:Nat)+a.length≤(140737488355328:Nat)) then k0 (b,[]++a) else none
abbrev ca:Type:=Int→LI→((Int×LI)→Option Ans)→Option Ans
theorem JP (fuel:Nat) (a:Int) (b:LI) (k:Ev.Cont):evalFn tab (yJ fuel) J0 G5 fuel Tryz.f83 [.agg [i6 a,.sl (.int .i64) b]] [] k=bl fuel a b (fun r=>match r with | (c,d)=>k (.agg [i6 c,.own 0],[.vec 3 (.int .i64) d true])):=by
  kernel_rfl
theorem EK (fuel:Nat):GOK Tryz.prog (yJ fuel):=
  gok_nil
def gY (F:ca):Ev.Spec:=fun args objs k=>match args,objs with | [.agg [i6 a,.sl (.int .i64) b]],[]=>F a b (fun r=>match r with | (c,d)=>k (.agg [i6 c,.own 0],[.vec 3 (.int .i64) d true])) | _,_=>none
theorem qH (fuel:Nat):FnOK Tryz.prog 83 (gY (bl fuel)):=by
  intro args objs kk r h
  unfold gY at h
  split at h
  · skip
    exact fo0 (EK fuel) Tryz.func83 rfl (by kernel_rfl) _ _ kk r ((JP fuel _ _ kk).trans h)
  · cases h
def FQ (i:Nat):Option (List Nat):=Ev.look i []
def vP (a:aP) (b:ca) (f:Nat):Option Ev.Spec:=Ev.look f [(81,iy a),(83,gY b)]
def Fs (fuel:Nat):Nat→Option Ev.Spec:=vP (ar fuel) (bl fuel)
def tL (fuel:Nat) (g:aP) (k:ca) (l m n:Int) (o:Bool) (p q:LI) (k0:(Int×Int×Int×Int×Bool×LI×LI×LI)→OA):OA:=(g l m n o p q (fun (h,a,c,d,e,b,f)=>bif h then k0 (0,a,c,d,e,b,f,[]) else (k a b (fun (i,j)=>k0 (i,a,c,d,e,b,f,j)))))
abbrev az:Type:=Int→Int→Int→Bool→LI→LI→((Int×Int×Int×Int×Bool×LI×LI×LI)→Option Ans)→Option Ans
def ak (fuel:Nat):az:=tL fuel (ar fuel) (bl fuel)
theorem Dl (fuel:Nat) (a:aP) (b:ca) (d e f:Int) (g:Bool) (h i:LI) (k:Ev.Cont):evalFn tab (vP a b) J0 FQ fuel Tryz.f35 [.c (.ptr 0 0)] [.cells 138 (i6 d::.own 1::ctb (.int .u64 e::.int .u64 f::.own 2::.bool g::[])),.vec 3 (.int .i64) h false,.vec 5 (.int .u8) i false] k=tL fuel a b d e f g h i (fun r=>match r with | (j,l,m,n,o,p,q,s)=>k (.agg [i6 j,.own 3],[.cells 138 (i6 l::.own 1::ctb (.int .u64 m::.int .u64 n::.own 2::.bool o::[])),.vec 3 (.int .i64) p false,.vec 5 (.int .u8) q false,.vec 3 (.int .i64) s true])):=by
  kernel_rfl
theorem DW (fuel:Nat):GOK Tryz.prog (Fs fuel):=
  gc (sZ fuel) Tryz.func81 (by kernel_rfl) rfl <|
  gc (qH fuel) Tryz.func83 (by kernel_rfl) rfl <|
  gok_nil
def eG (F:az):Ev.Spec:=fun args objs k=>match args,objs with | [.c (.ptr b d)],[.cells e a,.vec f (.int .i64) g false,.vec h (.int .u8) i false]=>(match splitRun 2 ctn a with | some ([i6 j,.own l],[.int .u64 m,.int .u64 n,.own o,.bool p])=>bif qb [b,d,e,f,h,l,o] [0,0,138,3,5,1,2] then F j m n p g i (fun r=>match r with | (q,s,t,u,v,w,x,y)=>k (.agg [i6 q,.own 3],[.cells 138 (i6 s::.own 1::ctb (.int .u64 t::.int .u64 u::.own 2::.bool v::[])),.vec 3 (.int .i64) w false,.vec 5 (.int .u8) x false,.vec 3 (.int .i64) y true])) else none | _=>none) | _,_=>none
def oG (fuel:Nat):Ev.Spec:=eG (ak fuel)
theorem gd (fuel:Nat):FnOK Tryz.prog 35 (oG fuel):=by
  intro args objs kk r h
  unfold oG eG at h
  split at h
  · skip
    split at h
    rotate_left 1
    · cases h
    rename_i hsp
    have esp:=splitRun_eq hsp
    subst esp
    obtain ⟨hb,h⟩:=cond_some' h
    cases qb_eq hb
    exact fo0 (DW fuel) Tryz.func35 rfl (by kernel_rfl) _ _ kk r ((Dl fuel (ar fuel) (bl fuel) _ _ _ _ _ _ kk).trans h)
  · cases h
def HF (i:Nat):Option (List Nat):=Ev.look i []
def Fq (f:Nat):Option Ev.Spec:=Ev.look f []
def vR (fuel:Nat):Nat→Option Ev.Spec:=Fq
def aJ (fuel:Nat) (b c:Int) (d e:Int) (f g:Int) (h a:Bool) (i j:(List Int)) (k0:(Bool×Int×Int×Int×Int×Int×Int×Bool×Bool×(List Int)×(List Int))→Option Ans):Option Ans:=k0 (!a,b,c,d,e,f,g,h,a,i,j)
abbrev cC:Type:=Int→Int→Int→Int→Int→Int→Bool→Bool→LI→LI→((Bool×Int×Int×Int×Int×Int×Int×Bool×Bool×LI×LI)→Option Ans)→Option Ans
theorem ET (fuel:Nat) (a b:Int) (d e:Int) (f g:Int) (h i:Bool) (j l:LI) (k:Ev.Cont):evalFn tab (vR fuel) J0 HF fuel Tryz.f88 [.c (.ptr 0 0)] [.cells 147 (i6 a::.own 1::ctb (.int .u64 b::.int .u64 d::.own 2::i6 e::.int .u64 f::i6 g::.bool h::.bool i::[])),.vec 3 (.int .i64) j false,.vec 5 (.int .u8) l false] k=aJ fuel a b d e f g h i j l (fun r=>match r with | (n,o,p,q,s,t,u,v,w,x,m)=>k (.c (.bool n),[.cells 147 (i6 o::.own 1::ctb (.int .u64 p::.int .u64 q::.own 2::i6 s::.int .u64 t::i6 u::.bool v::.bool w::[])),.vec 3 (.int .i64) x false,.vec 5 (.int .u8) m false])):=by
  kernel_rfl
theorem AJ (fuel:Nat):GOK Tryz.prog (vR fuel):=
  gok_nil
def lO (F:cC):Ev.Spec:=fun args objs k=>match args,objs with | [.c (.ptr d e)],[.cells f a,.vec g (.int .i64) h false,.vec i (.int .u8) j false]=>(match splitRun 2 ctn a with | some ([i6 l,.own m],[.int .u64 n,.int .u64 o,.own p,i6 q,.int .u64 s,i6 t,.bool u,.bool v])=>bif qb [d,e,f,g,i,m,p] [0,0,147,3,5,1,2] then F l n o q s t u v h j (fun r=>match r with | (w,x,y,z,A,B,C,D,E,G,b)=>k (.c (.bool w),[.cells 147 (i6 x::.own 1::ctb (.int .u64 y::.int .u64 z::.own 2::i6 A::.int .u64 B::i6 C::.bool D::.bool E::[])),.vec 3 (.int .i64) G false,.vec 5 (.int .u8) b false])) else none | _=>none) | _,_=>none
theorem vj (fuel:Nat):FnOK Tryz.prog 88 (lO (aJ fuel)):=by
  intro args objs kk r h
  unfold lO at h
  split at h
  · skip
    split at h
    rotate_left 1
    · cases h
    rename_i hsp
    have esp:=splitRun_eq hsp
    subst esp
    obtain ⟨hb,h⟩:=cond_some' h
    cases qb_eq hb
    exact fo0 (AJ fuel) Tryz.func88 rfl (by kernel_rfl) _ _ kk r ((ET fuel _ _ _ _ _ _ _ _ _ _ kk).trans h)
  · cases h
def zK (i:Nat):Option (List Nat):=Ev.look i []
def vI (b:ca) (a:cC) (f:Nat):Option Ev.Spec:=Ev.look f [(83,gY b),(88,lO a)]
def Af (fuel:Nat):Nat→Option Ev.Spec:=vI (bl fuel) (aJ fuel)
def el (fuel:Nat) (o:ca) (k:cC) (p q:Int) (r s:Int) (t u:Int) (v w:Bool) (x y:LI) (k0:(Int×Int×Int×Int×Int×Int×Int×Bool×Bool×LI×LI×LI)→OA):OA:=(k p q r s t u v w x y (fun (l,a,d,e,f,g,h,i,j,b,c)=>bif l then k0 (0,a,d,e,f,g,h,i,j,b,c,[]) else (o a b (fun (m,n)=>k0 (m,a,d,e,f,g,h,i,j,b,c,n)))))
abbrev am:Type:=Int→Int→Int→Int→Int→Int→Bool→Bool→LI→LI→((Int×Int×Int×Int×Int×Int×Int×Bool×Bool×LI×LI×LI)→Option Ans)→Option Ans
def ah (fuel:Nat):am:=el fuel (bl fuel) (aJ fuel)
theorem DA (fuel:Nat) (b:ca) (a:cC) (d e:Int) (f g:Int) (h i:Int) (j l:Bool) (m n:LI) (k:Ev.Cont):evalFn tab (vI b a) J0 zK fuel Tryz.f40 [.c (.ptr 0 0)] [.cells 147 (i6 d::.own 1::ctb (.int .u64 e::.int .u64 f::.own 2::i6 g::.int .u64 h::i6 i::.bool j::.bool l::[])),.vec 3 (.int .i64) m false,.vec 5 (.int .u8) n false] k=el fuel b a d e f g h i j l m n (fun r=>match r with | (q,s,t,u,v,w,x,y,z,A,o,p)=>k (.agg [i6 q,.own 3],[.cells 147 (i6 s::.own 1::ctb (.int .u64 t::.int .u64 u::.own 2::i6 v::.int .u64 w::i6 x::.bool y::.bool z::[])),.vec 3 (.int .i64) A false,.vec 5 (.int .u8) o false,.vec 3 (.int .i64) p true])):=by
  kernel_rfl
theorem Eg (fuel:Nat):GOK Tryz.prog (Af fuel):=
  gc (qH fuel) Tryz.func83 (by kernel_rfl) rfl <|
  gc (vj fuel) Tryz.func88 (by kernel_rfl) rfl <|
  gok_nil
def eA (F:am):Ev.Spec:=fun args objs k=>match args,objs with | [.c (.ptr e f)],[.cells g a,.vec h (.int .i64) i false,.vec j (.int .u8) l false]=>(match splitRun 2 ctn a with | some ([i6 m,.own n],[.int .u64 o,.int .u64 p,.own q,i6 s,.int .u64 t,i6 u,.bool v,.bool w])=>bif qb [e,f,g,h,j,n,q] [0,0,147,3,5,1,2] then F m o p s t u v w i l (fun r=>match r with | (x,y,z,A,B,C,D,E,G,H,b,d)=>k (.agg [i6 x,.own 3],[.cells 147 (i6 y::.own 1::ctb (.int .u64 z::.int .u64 A::.own 2::i6 B::.int .u64 C::i6 D::.bool E::.bool G::[])),.vec 3 (.int .i64) H false,.vec 5 (.int .u8) b false,.vec 3 (.int .i64) d true])) else none | _=>none) | _,_=>none
def rj (fuel:Nat):Ev.Spec:=eA (ah fuel)
theorem eT (fuel:Nat):FnOK Tryz.prog 40 (rj fuel):=by
  intro args objs kk r h
  unfold rj eA at h
  split at h
  · skip
    split at h
    rotate_left 1
    · cases h
    rename_i hsp
    have esp:=splitRun_eq hsp
    subst esp
    obtain ⟨hb,h⟩:=cond_some' h
    cases qb_eq hb
    exact fo0 (Eg fuel) Tryz.func40 rfl (by kernel_rfl) _ _ kk r ((DA fuel (bl fuel) (aJ fuel) _ _ _ _ _ _ _ _ _ _ kk).trans h)
  · cases h
def gW (i:Nat):Option (List Nat):=Ev.look i [(7,[3,24,25,26]),(100000,[]),(400000,[2])]
def Gx (f:Nat):Option Ev.Spec:=Ev.look f []
def kl (fuel:Nat):Nat→Option Ev.Spec:=Gx
def bn (fuel:Nat) (v:Int×(List Int)×Int×Int) (c:(Int×(List Int)×Int×Int)→Option Ans) (B:(Bool→Option Ans)×(Unit→Option Ans)):Option Ans:=match v,B with | (e,d,f,a),(ret,b)=>bif decide (a < f) then bif decide ((0:Int)≤a∧a < (↑d.length:Int)) then bif decide (d.getD a.toNat (0:Int) < (0:Int)) then ret false else bif decide (d.getD a.toNat (0:Int)≥e) then ret false else c (e,d,f,i64.wrap (a+(1:Int))) else none else b ()
def cZ (fuel:Nat) (v:Int×(List Int)×Int×Int) (ret:(Bool→Option Ans)) (b:(Unit→Option Ans)):Option Ans:=iter (bn fuel) fuel v (ret,b)
def qz (v:Int×LI×Int×Int):Ev.St:=match v with | (a,b,d,e)=>⟨[(3,.c (i6 a)),(24,.c (.sl (.int .i64) b)),(25,.c (i6 d)),(26,.c (i6 e))],[],0,0⟩
def mW (K:KT):(Bool→OA)×(Unit→OA):=((fun v=>match v with | a=>K .ret ⟨[(2,.c (.bool a))],[],0,0⟩),(fun v=>match v with | ()=>K .normal ⟨[],[],0,0⟩))
theorem HS (fuel:Nat) (R:Ev.St→OA) (K:KT) (a:Int) (b:LI) (c d:Int):evalCode tab (kl fuel) J0 gW fuel (bodyOf 0 Tryz.f71) (qz (a,b,c,d)) (lc gW 7 0 R K)=bn fuel (a,b,c,d) (fun v=>R (qz v)) (mW K):=by
  kernel_rfl
def lj (fuel:Nat):Ev.Blk:=fun st K=>match canonO (gW 7) st with | some s=>(match s with | ⟨[(a,.c (i6 b)),(d,.c (.sl (.int .i64) e)),(f,.c (i6 g)),(h,.c (i6 i))],[],j,k⟩=>bif qb [a,d,f,h,j,k] [3,24,25,26,0,0] then iter (bn fuel) fuel (b,e,g,i) (mW K) else none | _=>none) | none=>none
theorem BL (fuel:Nat) (st:Ev.St) (K:KT) (r:Ans) (h:lj fuel st K=some r):evalCode tab (kl fuel) J0 gW fuel (.block 0 (.loop (bodyOf 0 Tryz.f71))) st K=some r:=by
  unfold lj at h
  split at h
  · rename_i s hs
    split at h
    · skip
      obtain ⟨hb,h⟩:=cond_some' h
      cases qb_eq hb
      exact blk_loop (S:=qz) (ks:=mW) (step:=bn fuel) (v:=(_,_,_,_)) (by kernel_rfl) (by kernel_rfl) (fun R K v=>by obtain ⟨a,b,c,d⟩:=v; exact HS fuel R K a b c d) hs h
    · cases h
  · cases h
def zn (fuel:Nat) (i:Nat):Option Ev.Blk:=Ev.look i [(100000,lj fuel)]
def aM (fuel:Nat) (b:Int) (a:(List Int)) (k0:(Bool)→Option Ans):Option Ans:=bif b != 0 then bif b != 1 then k0 false else bif decide ((↑a.length:Int) > 8192) then k0 false else bif b==1 then (cZ fuel (65536,a,(↑a.length:Int),0) (fun ret0_0=>k0 ret0_0) (fun ()=>k0 true)) else (cZ fuel (64,a,(↑a.length:Int),0) (fun ret0_0=>k0 ret0_0) (fun ()=>k0 true)) else bif decide ((↑a.length:Int) > 8192) then k0 false else bif b==1 then (cZ fuel (65536,a,(↑a.length:Int),0) (fun ret0_0=>k0 ret0_0) (fun ()=>k0 true)) else (cZ fuel (64,a,(↑a.length:Int),0) (fun ret0_0=>k0 ret0_0) (fun ()=>k0 true))
abbrev bt:Type:=Int→LI→(Bool→Option Ans)→Option Ans
theorem BT (fuel:Nat) (a:Int) (b:LI) (k:Ev.Cont):evalFn tab (kl fuel) (zn fuel) gW fuel Tryz.f71 [.agg [i6 a,.sl (.int .i64) b]] [] k=aM fuel a b (fun r=>match r with | d=>k (.c (.bool d),[])):=by
  kernel_rfl
theorem xZ (fuel:Nat):GOK Tryz.prog (kl fuel):=
  gok_nil
theorem Cl (fuel:Nat):BlkOK Tryz.prog Tryz.f71.ntmps (.block 0 (.loop (bodyOf 0 Tryz.f71))) (lj fuel):=bo0 (xZ fuel) (by kernel_rfl) (by kernel_rfl) (BL fuel)
def io (F:bt):Ev.Spec:=fun args objs k=>match args,objs with | [.agg [i6 a,.sl (.int .i64) b]],[]=>F a b (fun r=>match r with | d=>k (.c (.bool d),[])) | _,_=>none
def rZ (fuel:Nat):Ev.Spec:=io (aM fuel)
theorem kf (fuel:Nat):FnOK Tryz.prog 71 (rZ fuel):=by
  intro args objs kk r h
  unfold rZ io at h
  split at h
  · skip
    exact fo1 (xZ fuel) Tryz.func71 rfl (Cl fuel) (by kernel_rfl) _ _ kk r ((BT fuel _ _ kk).trans h)
  · cases h
def Jv (i:Nat):Option (List Nat):=Ev.look i []
def HK (f:Nat):Option Ev.Spec:=Ev.look f []
def vJ (fuel:Nat):Nat→Option Ev.Spec:=HK
def dN (fuel:Nat) (a:Int) (k0:(Int)→Option Ans):Option Ans:=bif decide (a≥4294967296) then bif decide (Ev.ishr IntKind.u64 a (32:Int)≥(65536:Int)) then bif decide (Ev.ishr IntKind.u64 (Ev.ishr IntKind.u64 a (32:Int)) (16:Int)≥(256:Int)) then bif decide (0≤u8.wrap (Ev.ishr IntKind.u64 (Ev.ishr IntKind.u64 (Ev.ishr IntKind.u64 a 32) 16) 8)∧u8.wrap (Ev.ishr IntKind.u64 (Ev.ishr IntKind.u64 (Ev.ishr IntKind.u64 a 32) 16) 8) < (↑(ByteArray.mk (([(0:UInt8),(1:UInt8),(2:UInt8),(2:UInt8),(3:UInt8),(3:UInt8),(3:UInt8),(3:UInt8),(4:UInt8),(4:UInt8),(4:UInt8),(4:UInt8),(4:UInt8),(4:UInt8),(4:UInt8),(4:UInt8),(5:UInt8),(5:UInt8),(5:UInt8),(5:UInt8),(5:UInt8),(5:UInt8),(5:UInt8),(5:UInt8),(5:UInt8),(5:UInt8),(5:UInt8),(5:UInt8),(5:UInt8),(5:UInt8),(5:UInt8),(5:UInt8),(6:UInt8),(6:UInt8),(6:UInt8),(6:UInt8),(6:UInt8),(6:UInt8),(6:UInt8),(6:UInt8),(6:UInt8),(6:UInt8),(6:UInt8),(6:UInt8),(6:UInt8),(6:UInt8),(6:UInt8),(6:UInt8),(6:UInt8),(6:UInt8),(6:UInt8),(6:UInt8),(6:UInt8),(6:UInt8),(6:UInt8),(6:UInt8),(6:UInt8),(6:UInt8),(6:UInt8),(6:UInt8),(6:UInt8),(6:UInt8),(6:UInt8),(6:UInt8)].append [(7:UInt8),(7:UInt8),(7:UInt8),(7:UInt8),(7:UInt8),(7:UInt8),(7:UInt8),(7:UInt8),(7:UInt8),(7:UInt8),(7:UInt8),(7:UInt8),(7:UInt8),(7:UInt8),(7:UInt8),(7:UInt8),(7:UInt8),(7:UInt8),(7:UInt8),(7:UInt8),(7:UInt8),(7:UInt8),(7:UInt8),(7:UInt8),(7:UInt8),(7:UInt8),(7:UInt8),(7:UInt8),(7:UInt8),(7:UInt8),(7:UInt8),(7:UInt8),(7:UInt8),(7:UInt8),(7:UInt8),(7:UInt8),(7:UInt8),(7:UInt8),(7:UInt8),(7:UInt8),(7:UInt8),(7:UInt8),(7:UInt8),(7:UInt8),(7:UInt8),(7:UInt8),(7:UInt8),(7:UInt8),(7:UInt8),(7:UInt8),(7:UInt8),(7:UInt8),(7:UInt8),(7:UInt8),(7:UInt8),(7:UInt8),(7:UInt8),(7:UInt8),(7:UInt8),(7:UInt8),(7:UInt8),(7:UInt8),(7:UInt8),(7:UInt8)]).append ([(8:UInt8),(8:UInt8),(8:UInt8),(8:UInt8),(8:UInt8),(8:UInt8),(8:UInt8),(8:UInt8),(8:UInt8),(8:UInt8),(8:UInt8),(8:UInt8),(8:UInt8),(8:UInt8),(8:UInt8),(8:UInt8),(8:UInt8),(8:UInt8),(8:UInt8),(8:UInt8),(8:UInt8),(8:UInt8),(8:UInt8),(8:UInt8),(8:UInt8),(8:UInt8),(8:UInt8),(8:UInt8),(8:UInt8),(8:UInt8),(8:UInt8),(8:UInt8),(8:UInt8),(8:UInt8),(8:UInt8),(8:UInt8),(8:UInt8),(8:UInt8),(8:UInt8),(8:UInt8),(8:UInt8),(8:UInt8),(8:UInt8),(8:UInt8),(8:UInt8),(8:UInt8),(8:UInt8),(8:UInt8),(8:UInt8),(8:UInt8),(8:UInt8),(8:UInt8),(8:UInt8),(8:UInt8),(8:UInt8),(8:UInt8),(8:UInt8),(8:UInt8),(8:UInt8),(8:UInt8),(8:UInt8),(8:UInt8),(8:UInt8),(8:UInt8)].append [(8:UInt8),(8:UInt8),(8:UInt8),(8:UInt8),(8:UInt8),(8:UInt8),(8:UInt8),(8:UInt8),(8:UInt8),(8:UInt8),(8:UInt8),(8:UInt8),(8:UInt8),(8:UInt8),(8:UInt8),(8:UInt8),(8:UInt8),(8:UInt8),(8:UInt8),(8:UInt8),(8:UInt8),(8:UInt8),(8:UInt8),(8:UInt8),(8:UInt8),(8:UInt8),(8:UInt8),(8:UInt8),(8:UInt8),(8:UInt8),(8:UInt8),(8:UInt8),(8:UInt8),(8:UInt8),(8:UInt8),(8:UInt8),(8:UInt8),(8:UInt8),(8:UInt8),(8:UInt8),(8:UInt8),(8:UInt8),(8:UInt8),(8:UInt8),(8:UInt8),(8:UInt8),(8:UInt8),(8:UInt8),(8:UInt8),(8:UInt8),(8:UInt8),(8:UInt8),(8:UInt8),(8:UInt8),(8:UInt8),(8:UInt8),(8:UInt8),(8:UInt8),(8:UInt8),(8:UInt8),(8:UInt8),(8:UInt8),(8:UInt8),(8:UInt8)])).toArray).size:Int)) then k0 (i64.wrap (i64.wrap (i64.wrap ((32:Int)+(16:Int))+(8:Int))+i64.wrap (↑((ByteArray.mk (([(0:UInt8),(1:UInt8),(2:UInt8),(2:UInt8),(3:UInt8),(3:UInt8),(3:UInt8),(3:UInt8),(4:UInt8),(4:UInt8),(4:UInt8),(4:UInt8),(4:UInt8),(4:UInt8),(4:UInt8),(4:UInt8),(5:UInt8),(5:UInt8),(5:UInt8),(5:UInt8),(5:UInt8),(5:UInt8),(5:UInt8),(5:UInt8),(5:UInt8),(5:UInt8),(5:UInt8),(5:UInt8),(5:UInt8),(5:UInt8),(5:UInt8),(5:UInt8),(6:UInt8),(6:UInt8),(6:UInt8),(6:UInt8),(6:UInt8),(6:UInt8),(6:UInt8),(6:UInt8),(6:UInt8),(6:UInt8),(6:UInt8),(6:UInt8),(6:UInt8),(6:UInt8),(6:UInt8),(6:UInt8),(6:UInt8),(6:UInt8),(6:UInt8),(6:UInt8),(6:UInt8),(6:UInt8),(6:UInt8),(6:UInt8),(6:UInt8),(6:UInt8),(6:UInt8),(6:UInt8),(6:UInt8),(6:UInt8),(6:UInt8),(6:UInt8)].append [(7:UInt8),(7:UInt8),(7:UInt8),(7:UInt8),(7:UInt8),(7:UInt8),(7:UInt8),(7:UInt8),(7:UInt8),(7:UInt8),(7:UInt8),(7:UInt8),(7:UInt8),(7:UInt8),(7:UInt8),(7:UInt8),(7:UInt8),(7:UInt8),(7:UInt8),(7:UInt8),(7:UInt8),(7:UInt8),(7:UInt8),(7:UInt8),(7:UInt8),(7:UInt8),(7:UInt8),(7:UInt8),(7:UInt8),(7:UInt8),(7:UInt8),(7:UInt8),(7:UInt8),(7:UInt8),(7:UInt8),(7:UInt8),(7:UInt8),(7:UInt8),(7:UInt8),(7:UInt8),(7:UInt8),(7:UInt8),(7:UInt8),(7:UInt8),(7:UInt8),(7:UInt8),(7:UInt8),(7:UInt8),(7:UInt8),(7:UInt8),(7:UInt8),(7:UInt8),(7:UInt8),(7:UInt8),(7:UInt8),(7:UInt8),(7:UInt8),(7:UInt8),(7:UInt8),(7:UInt8),(7:UInt8),(7:UInt8),(7:UInt8),(7:UInt8)]).append ([(8:UInt8),(8:UInt8),(8:UInt8),(8:UInt8),(8:UInt8),(8:UInt8),(8:UInt8),(8:UInt8),(8:UInt8),(8:UInt8),(8:UInt8),(8:UInt8),(8:UInt8),(8:UInt8),(8:UInt8),(8:UInt8),(8:UInt8),(8:UInt8),(8:UInt8),(8:UInt8),(8:UInt8),(8:UInt8),(8:UInt8),(8:UInt8),(8:UInt8),(8:UInt8),(8:UInt8),(8:UInt8),(8:UInt8),(8:UInt8),(8:UInt8),(8:UInt8),(8:UInt8),(8:UInt8),(8:UInt8),(8:UInt8),(8:UInt8),(8:UInt8),(8:UInt8),(8:UInt8),(8:UInt8),(8:UInt8),(8:UInt8),(8:UInt8),(8:UInt8),(8:UInt8),(8:UInt8),(8:UInt8),(8:UInt8),(8:UInt8),(8:UInt8),(8:UInt8),(8:UInt8),(8:UInt8),(8:UInt8),(8:UInt8),(8:UInt8),(8:UInt8),(8:UInt8),(8:UInt8),(8:UInt8),(8:UInt8),(8:UInt8),(8:UInt8)].append [(8:UInt8),(8:UInt8),(8:UInt8),(8:UInt8),(8:UInt8),(8:UInt8),(8:UInt8),(8:UInt8),(8:UInt8),(8:UInt8),(8:UInt8),(8:UInt8),(8:UInt8),(8:UInt8),(8:UInt8),(8:UInt8),(8:UInt8),(8:UInt8),(8:UInt8),(8:UInt8),(8:UInt8),(8:UInt8),(8:UInt8),(8:UInt8),(8:UInt8),(8:UInt8),(8:UInt8),(8:UInt8),(8:UInt8),(8:UInt8),(8:UInt8),(8:UInt8),(8:UInt8),(8:UInt8),(8:UInt8),(8:UInt8),(8:UInt8),(8:UInt8),(8:UInt8),(8:UInt8),(8:UInt8),(8:UInt8),(8:UInt8),(8:UInt8),(8:UInt8),(8:UInt8),(8:UInt8),(8:UInt8),(8:UInt8),(8:UInt8),(8:UInt8),(8:UInt8),(8:UInt8),(8:UInt8),(8:UInt8),(8:UInt8),(8:UInt8),(8:UInt8),(8:UInt8),(8:UInt8),(8:UInt8),(8:UInt8),(8:UInt8),(8:UInt8)])).toArray).data.toList.getD (u8.wrap (Ev.ishr IntKind.u64 (Ev.ishr IntKind.u64 (Ev.ishr IntKind.u64 a (32:Int)) (16:Int)) (8:Int))).toNat (0:UInt8)).toNat:Int))) else none else bif decide (0≤u8.wrap (Ev.ishr IntKind.u64 (Ev.ishr IntKind.u64 a 32) 16)∧u8.wrap (Ev.ishr IntKind.u64 (Ev.ishr IntKind.u64 a 32) 16) < (↑(ByteArray.mk (([(0:UInt8),(1:UInt8),(2:UInt8),(2:UInt8),(3:UInt8),(3:UInt8),(3:UInt8),(3:UInt8),(4:UInt8),(4:UInt8),(4:UInt8),(4:UInt8),(4:UInt8),(4:UInt8),(4:UInt8),(4:UInt8),(5:UInt8),(5:UInt8),(5:UInt8),(5:UInt8),(5:UInt8),(5:UInt8),(5:UInt8),(5:UInt8),(5:UInt8),(5:UInt8),(5:UInt8),(5:UInt8),(5:UInt8),(5:UInt8),(5:UInt8),(5:UInt8),(6:UInt8),(6:UInt8),(6:UInt8),(6:UInt8),(6:UInt8),(6:UInt8),(6:UInt8),(6:UInt8),(6:UInt8),(6:UInt8),(6:UInt8),(6:UInt8),(6:UInt8),(6:UInt8),(6:UInt8),(6:UInt8),(6:UInt8),(6:UInt8),(6:UInt8),(6:UInt8),(6:UInt8),(6:UInt8),(6:UInt8),(6:UInt8),(6:UInt8),(6:UInt8),(6:UInt8),(6:UInt8),(6:UInt8),(6:UInt8),(6:UInt8),(6:UInt8)].append [(7:UInt8),(7:UInt8),(7:UInt8),(7:UInt8),(7:UInt8),(7:UInt8),(7:UInt8),(7:UInt8),(7:UInt8),(7:UInt8),(7:UInt8),(7:UInt8),(7:UInt8),(7:UInt8),(7:UInt8),(7:UInt8),(7:UInt8),(7:UInt8),(7:UInt8),(7:UInt8),(7:UInt8),(7:UInt8),(7:UInt8),(7:UInt8),(7:UInt8),(7:UInt8),(7:UInt8),(7:UInt8),(7:UInt8),(7:UInt8),(7:UInt8),(7:UInt8),(7:UInt8),(7:UInt8),(7:UInt8),(7:UInt8),(7:UInt8),(7:UInt8),(7:UInt8),(7:UInt8),(7:UInt8),(7:UInt8),(7:UInt8),(7:UInt8),(7:UInt8),(7:UInt8),(7:UInt8),(7:UInt8),(7:UInt8),(7:UInt8),(7:UInt8),(7:UInt8),(7:UInt8),(7:UInt8),(7:UInt8),(7:UInt8),(7:UInt8),(7:UInt8),(7:UInt8),(7:UInt8),(7:UInt8),(7:UInt8),(7:UInt8),(7:UInt8)]).append ([(8:UInt8),(8:UInt8),(8:UInt8),(8:UInt8),(8:UInt8),(8:UInt8),(8:UInt8),(8:UInt8),(8:UInt8),(8:UInt8),(8:UInt8),(8:UInt8),(8:UInt8),(8:UInt8),(8:UInt8),(8:UInt8),(8:UInt8),(8:UInt8),(8:UInt8),(8:UInt8),(8:UInt8),(8:UInt8),(8:UInt8),(8:UInt8),(8:UInt8),(8:UInt8),(8:UInt8),(8:UInt8),(8:UInt8),(8:UInt8),(8:UInt8),(8:UInt8),(8:UInt8),(8:UInt8),(8:UInt8),(8:UInt8),(8:UInt8),(8:UInt8),(8:UInt8),(8:UInt8),(8:UInt8),(8:UInt8),(8:UInt8),(8:UInt8),(8:UInt8),(8:UInt8),(8:UInt8),(8:UInt8),(8:UInt8),(8:UInt8),(8:UInt8),(8:UInt8),(8:UInt8),(8:UInt8),(8:UInt8),(8:UInt8),(8:UInt8),(8:UInt8),(8:UInt8),(8:UInt8),(8:UInt8),(8:UInt8),(8:UInt8),(8:UInt8)].append [(8:UInt8),(8:UInt8),(8:UInt8),(8:UInt8),(8:UInt8),(8:UInt8),(8:UInt8),(8:UInt8),(8:UInt8),(8:UInt8),(8:UInt8),(8:UInt8),(8:UInt8),(8:UInt8),(8:UInt8),(8:UInt8),(8:UInt8),(8:UInt8),(8:UInt8),(8:UInt8),(8:UInt8),(8:UInt8),(8:UInt8),(8:UInt8),(8:UInt8),(8:UInt8),(8:UInt8),(8:UInt8),(8:UInt8),(8:UInt8),(8:UInt8),(8:UInt8),(8:UInt8),(8:UInt8),(8:UInt8),(8:UInt8),(8:UInt8),(8:UInt8),(8:UInt8),(8:UInt8),(8:UInt8),(8:UInt8),(8:UInt8),(8:UInt8),(8:UInt8),(8:UInt8),(8:UInt8),(8:UInt8),(8:UInt8),(8:UInt8),(8:UInt8),(8:UInt8),(8:UInt8),(8:UInt8),(8:UInt8),(8:UInt8),(8:UInt8),(8:UInt8),(8:UInt8),(8:UInt8),(8:UInt8),(8:UInt8),(8:UInt8),(8:UInt8)])).toArray).size:Int)) then k0 (i64.wrap (i64.wrap ((32:Int)+(16:Int))+i64.wrap (↑((ByteArray.mk (([(0:UInt8),(1:UInt8),(2:UInt8),(2:UInt8),(3:UInt8),(3:UInt8),(3:UInt8),(3:UInt8),(4:UInt8),(4:UInt8),(4:UInt8),(4:UInt8),(4:UInt8),(4:UInt8),(4:UInt8),(4:UInt8),(5:UInt8),(5:UInt8),(5:UInt8),(5:UInt8),(5:UInt8),(5:UInt8),(5:UInt8),(5:UInt8),(5:UInt8),(5:UInt8),(5:UInt8),(5:UInt8),(5:UInt8),(5:UInt8),(5:UInt8),(5:UInt8),(6:UInt8),(6:UInt8),(6:UInt8),(6:UInt8),(6:UInt8),(6:UInt8),(6:UInt8),(6:UInt8),(6:UInt8),(6:UInt8),(6:UInt8),(6:UInt8),(6:UInt8),(6:UInt8),(6:UInt8),(6:UInt8),(6:UInt8),(6:UInt8),(6:UInt8),(6:UInt8),(6:UInt8),(6:UInt8),(6:UInt8),(6:UInt8),(6:UInt8),(6:UInt8),(6:UInt8),(6:UInt8),(6:UInt8),(6:UInt8),(6:UInt8),(6:UInt8)].append [(7:UInt8),(7:UInt8),(7:UInt8),(7:UInt8),(7:UInt8),(7:UInt8),(7:UInt8),(7:UInt8),(7:UInt8),(7:UInt8),(7:UInt8),(7:UInt8),(7:UInt8),(7:UInt8),(7:UInt8),(7:UInt8),(7:UInt8),(7:UInt8),(7:UInt8),(7:UInt8),(7:UInt8),(7:UInt8),(7:UInt8),(7:UInt8),(7:UInt8),(7:UInt8),(7:UInt8),(7:UInt8),(7:UInt8),(7:UInt8),(7:UInt8),(7:UInt8),(7:UInt8),(7:UInt8),(7:UInt8),(7:UInt8),(7:UInt8),(7:UInt8),(7:UInt8),(7:UInt8),(7:UInt8),(7:UInt8),(7:UInt8),(7:UInt8),(7:UInt8),(7:UInt8),(7:UInt8),(7:UInt8),(7:UInt8),(7:UInt8),(7:UInt8),(7:UInt8),(7:UInt8),(7:UInt8),(7:UInt8),(7:UInt8),(7:UInt8),(7:UInt8),(7:UInt8),(7:UInt8),(7:UInt8),(7:UInt8),(7:UInt8),(7:UInt8)]).append ([(8:UInt8),(8:UInt8),(8:UInt8),(8:UInt8),(8:UInt8),(8:UInt8),(8:UInt8),(8:UInt8),(8:UInt8),(8:UInt8),(8:UInt8),(8:UInt8),(8:UInt8),(8:UInt8),(8:UInt8),(8:UInt8),(8:UInt8),(8:UInt8),(8:UInt8),(8:UInt8),(8:UInt8),(8:UInt8),(8:UInt8),(8:UInt8),(8:UInt8),(8:UInt8),(8:UInt8),(8:UInt8),(8:UInt8),(8:UInt8),(8:UInt8),(8:UInt8),(8:UInt8),(8:UInt8),(8:UInt8),(8:UInt8),(8:UInt8),(8:UInt8),(8:UInt8),(8:UInt8),(8:UInt8),(8:UInt8),(8:UInt8),(8:UInt8),(8:UInt8),(8:UInt8),(8:UInt8),(8:UInt8),(8:UInt8),(8:UInt8),(8:UInt8),(8:UInt8),(8:UInt8),(8:UInt8),(8:UInt8),(8:UInt8),(8:UInt8),(8:UInt8),(8:UInt8),(8:UInt8),(8:UInt8),(8:UInt8),(8:UInt8),(8:UInt8)].append [(8:UInt8),(8:UInt8),(8:UInt8),(8:UInt8),(8:UInt8),(8:UInt8),(8:UInt8),(8:UInt8),(8:UInt8),(8:UInt8),(8:UInt8),(8:UInt8),(8:UInt8),(8:UInt8),(8:UInt8),(8:UInt8),(8:UInt8),(8:UInt8),(8:UInt8),(8:UInt8),(8:UInt8),(8:UInt8),(8:UInt8),(8:UInt8),(8:UInt8),(8:UInt8),(8:UInt8),(8:UInt8),(8:UInt8),(8:UInt8),(8:UInt8),(8:UInt8),(8:UInt8),(8:UInt8),(8:UInt8),(8:UInt8),(8:UInt8),(8:UInt8),(8:UInt8),(8:UInt8),(8:UInt8),(8:UInt8),(8:UInt8),(8:UInt8),(8:UInt8),(8:UInt8),(8:UInt8),(8:UInt8),(8:UInt8),(8:UInt8),(8:UInt8),(8:UInt8),(8:UInt8),(8:UInt8),(8:UInt8),(8:UInt8),(8:UInt8),(8:UInt8),(8:UInt8),(8:UInt8),(8:UInt8),(8:UInt8),(8:UInt8),(8:UInt8)])).toArray).data.toList.getD (u8.wrap (Ev.ishr IntKind.u64 (Ev.ishr IntKind.u64 a (32:Int)) (16:Int))).toNat (0:UInt8)).toNat:Int))) else none else bif decide (Ev.ishr IntKind.u64 a (32:Int)≥(256:Int)) then bif decide (0≤u8.wrap (Ev.ishr IntKind.u64 (Ev.ishr IntKind.u64 a 32) 8)∧u8.wrap (Ev.ishr IntKind.u64 (Ev.ishr IntKind.u64 a 32) 8) < (↑(ByteArray.mk (([(0:UInt8),(1:UInt8),(2:UInt8),(2:UInt8),(3:UInt8),(3:UInt8),(3:UInt8),(3:UInt8),(4:UInt8),(4:UInt8),(4:UInt8),(4:UInt8),(4:UInt8),(4:UInt8),(4:UInt8),(4:UInt8),(5:UInt8),(5:UInt8),(5:UInt8),(5:UInt8),(5:UInt8),(5:UInt8),(5:UInt8),(5:UInt8),(5:UInt8),(5:UInt8),(5:UInt8),(5:UInt8),(5:UInt8),(5:UInt8),(5:UInt8),(5:UInt8),(6:UInt8),(6:UInt8),(6:UInt8),(6:UInt8),(6:UInt8),(6:UInt8),(6:UInt8),(6:UInt8),(6:UInt8),(6:UInt8),(6:UInt8),(6:UInt8),(6:UInt8),(6:UInt8),(6:UInt8),(6:UInt8),(6:UInt8),(6:UInt8),(6:UInt8),(6:UInt8),(6:UInt8),(6:UInt8),(6:UInt8),(6:UInt8),(6:UInt8),(6:UInt8),(6:UInt8),(6:UInt8),(6:UInt8),(6:UInt8),(6:UInt8),(6:UInt8)].append [(7:UInt8),(7:UInt8),(7:UInt8),(7:UInt8),(7:UInt8),(7:UInt8),(7:UInt8),(7:UInt8),(7:UInt8),(7:UInt8),(7:UInt8),(7:UInt8),(7:UInt8),(7:UInt8),(7:UInt8),(7:UInt8),(7:UInt8),(7:UInt8),(7:UInt8),(7:UInt8),(7:UInt8),(7:UInt8),(7:UInt8),(7:UInt8),(7:UInt8),(7:UInt8),(7:UInt8),(7:UInt8),(7:UInt8),(7:UInt8),(7:UInt8),(7:UInt8),(7:UInt8),(7:UInt8),(7:UInt8),(7:UInt8),(7:UInt8),(7:UInt8),(7:UInt8),(7:UInt8),(7:UInt8),(7:UInt8),(7:UInt8),(7:UInt8),(7:UInt8),(7:UInt8),(7:UInt8),(7:UInt8),(7:UInt8),(7:UInt8),(7:UInt8),(7:UInt8),(7:UInt8),(7:UInt8),(7:UInt8),(7:UInt8),(7:UInt8),(7:UInt8),(7:UInt8),(7:UInt8),(7:UInt8),(7:UInt8),(7:UInt8),(7:UInt8)]).append ([(8:UInt8),(8:UInt8),(8:UInt8),(8:UInt8),(8:UInt8),(8:UInt8),(8:UInt8),(8:UInt8),(8:UInt8),(8:UInt8),(8:UInt8),(8:UInt8),(8:UInt8),(8:UInt8),(8:UInt8),(8:UInt8),(8:UInt8),(8:UInt8),(8:UInt8),(8:UInt8),(8:UInt8),(8:UInt8),(8:UInt8),(8:UInt8),(8:UInt8),(8:UInt8),(8:UInt8),(8:UInt8),(8:UInt8),(8:UInt8),(8:UInt8),(8:UInt8),(8:UInt8),(8:UInt8),(8:UInt8),(8:UInt8),(8:UInt8),(8:UInt8),(8:UInt8),(8:UInt8),(8:UInt8),(8:UInt8),(8:UInt8),(8:UInt8),(8:UInt8),(8:UInt8),(8:UInt8),(8:UInt8),(8:UInt8),(8:UInt8),(8:UInt8),(8:UInt8),(8:UInt8),(8:UInt8),(8:UInt8),(8:UInt8),(8:UInt8),(8:UInt8),(8:UInt8),(8:UInt8),(8:UInt8),(8:UInt8),(8:UInt8),(8:UInt8)].append [(8:UInt8),(8:UInt8),(8:UInt8),(8:UInt8),(8:UInt8),(8:UInt8),(8:UInt8),(8:UInt8),(8:UInt8),(8:UInt8),(8:UInt8),(8:UInt8),(8:UInt8),(8:UInt8),(8:UInt8),(8:UInt8),(8:UInt8),(8:UInt8),(8:UInt8),(8:UInt8),(8:UInt8),(8:UInt8),(8:UInt8),(8:UInt8),(8:UInt8),(8:UInt8),(8:UInt8),(8:UInt8),(8:UInt8),(8:UInt8),(8:UInt8),(8:UInt8),(8:UInt8),(8:UInt8),(8:UInt8),(8:UInt8),(8:UInt8),(8:UInt8),(8:UInt8),(8:UInt8),(8:UInt8),(8:UInt8),(8:UInt8),(8:UInt8),(8:UInt8),(8:UInt8),(8:UInt8),(8:UInt8),(8:UInt8),(8:UInt8),(8:UInt8),(8:UInt8),(8:UInt8),(8:UInt8),(8:UInt8),(8:UInt8),(8:UInt8),(8:UInt8),(8:UInt8),(8:UInt8),(8:UInt8),(8:UInt8),(8:UInt8),(8:UInt8)])).toArray).size:Int)) then k0 (i64.wrap (i64.wrap ((32:Int)+(8:Int))+i64.wrap (↑((ByteArray.mk (([(0:UInt8),(1:UInt8),(2:UInt8),(2:UInt8),(3:UInt8),(3:UInt8),(3:UInt8),(3:UInt8),(4:UInt8),(4:UInt8),(4:UInt8),(4:UInt8),(4:UInt8),(4:UInt8),(4:UInt8),(4:UInt8),(5:UInt8),(5:UInt8),(5:UInt8),(5:UInt8),(5:UInt8),(5:UInt8),(5:UInt8),(5:UInt8),(5:UInt8),(5:UInt8),(5:UInt8),(5:UInt8),(5:UInt8),(5:UInt8),(5:UInt8),(5:UInt8),(6:UInt8),(6:UInt8),(6:UInt8),(6:UInt8),(6:UInt8),(6:UInt8),(6:UInt8),(6:UInt8),(6:UInt8),(6:UInt8),(6:UInt8),(6:UInt8),(6:UInt8),(6:UInt8),(6:UInt8),(6:UInt8),(6:UInt8),(6:UInt8),(6:UInt8),(6:UInt8),(6:UInt8),(6:UInt8),(6:UInt8),(6:UInt8),(6:UInt8),(6:UInt8),(6:UInt8),(6:UInt8),(6:UInt8),(6:UInt8),(6:UInt8),(6:UInt8)].append [(7:UInt8),(7:UInt8),(7:UInt8),(7:UInt8),(7:UInt8),(7:UInt8),(7:UInt8),(7:UInt8),(7:UInt8),(7:UInt8),(7:UInt8),(7:UInt8),(7:UInt8),(7:UInt8),(7:UInt8),(7:UInt8),(7:UInt8),(7:UInt8),(7:UInt8),(7:UInt8),(7:UInt8),(7:UInt8),(7:UInt8),(7:UInt8),(7:UInt8),(7:UInt8),(7:UInt8),(7:UInt8),(7:UInt8),(7:UInt8),(7:UInt8),(7:UInt8),(7:UInt8),(7:UInt8),(7:UInt8),(7:UInt8),(7:UInt8),(7:UInt8),(7:UInt8),(7:UInt8),(7:UInt8),(7:UInt8),(7:UInt8),(7:UInt8),(7:UInt8),(7:UInt8),(7:UInt8),(7:UInt8),(7:UInt8),(7:UInt8),(7:UInt8),(7:UInt8),(7:UInt8),(7:UInt8),(7:UInt8),(7:UInt8),(7:UInt8),(7:UInt8),(7:UInt8),(7:UInt8),(7:UInt8),(7:UInt8),(7:UInt8),(7:UInt8)]).append ([(8:UInt8),(8:UInt8),(8:UInt8),(8:UInt8),(8:UInt8),(8:UInt8),(8:UInt8),(8:UInt8),(8:UInt8),(8:UInt8),(8:UInt8),(8:UInt8),(8:UInt8),(8:UInt8),(8:UInt8),(8:UInt8),(8:UInt8),(8:UInt8),(8:UInt8),(8:UInt8),(8:UInt8),(8:UInt8),(8:UInt8),(8:UInt8),(8:UInt8),(8:UInt8),(8:UInt8),(8:UInt8),(8:UInt8),(8:UInt8),(8:UInt8),(8:UInt8),(8:UInt8),(8:UInt8),(8:UInt8),(8:UInt8),(8:UInt8),(8:UInt8),(8:UInt8),(8:UInt8),(8:UInt8),(8:UInt8),(8:UInt8),(8:UInt8),(8:UInt8),(8:UInt8),(8:UInt8),(8:UInt8),(8:UInt8),(8:UInt8),(8:UInt8),(8:UInt8),(8:UInt8),(8:UInt8),(8:UInt8),(8:UInt8),(8:UInt8),(8:UInt8),(8:UInt8),(8:UInt8),(8:UInt8),(8:UInt8),(8:UInt8),(8:UInt8)].append [(8:UInt8),(8:UInt8),(8:UInt8),(8:UInt8),(8:UInt8),(8:UInt8),(8:UInt8),(8:UInt8),(8:UInt8),(8:UInt8),(8:UInt8),(8:UInt8),(8:UInt8),(8:UInt8),(8:UInt8),(8:UInt8),(8:UInt8),(8:UInt8),(8:UInt8),(8:UInt8),(8:UInt8),(8:UInt8),(8:UInt8),(8:UInt8),(8:UInt8),(8:UInt8),(8:UInt8),(8:UInt8),(8:UInt8),(8:UInt8),(8:UInt8),(8:UInt8),(8:UInt8),(8:UInt8),(8:UInt8),(8:UInt8),(8:UInt8),(8:UInt8),(8:UInt8),(8:UInt8),(8:UInt8),(8:UInt8),(8:UInt8),(8:UInt8),(8:UInt8),(8:UInt8),(8:UInt8),(8:UInt8),(8:UInt8),(8:UInt8),(8:UInt8),(8:UInt8),(8:UInt8),(8:UInt8),(8:UInt8),(8:UInt8),(8:UInt8),(8:UInt8),(8:UInt8),(8:UInt8),(8:UInt8),(8:UInt8),(8:UInt8),(8:UInt8)])).toArray).data.toList.getD (u8.wrap (Ev.ishr IntKind.u64 (Ev.ishr IntKind.u64 a (32:Int)) (8:Int))).toNat (0:UInt8)).toNat:Int))) else none else bif decide (0≤u8.wrap (Ev.ishr IntKind.u64 a 32)∧u8.wrap (Ev.ishr IntKind.u64 a 32) < (↑(ByteArray.mk (([(0:UInt8),(1:UInt8),(2:UInt8),(2:UInt8),(3:UInt8),(3:UInt8),(3:UInt8),(3:UInt8),(4:UInt8),(4:UInt8),(4:UInt8),(4:UInt8),(4:UInt8),(4:UInt8),(4:UInt8),(4:UInt8),(5:UInt8),(5:UInt8),(5:UInt8),(5:UInt8),(5:UInt8),(5:UInt8),(5:UInt8),(5:UInt8),(5:UInt8),(5:UInt8),(5:UInt8),(5:UInt8),(5:UInt8),(5:UInt8),(5:UInt8),(5:UInt8),(6:UInt8),(6:UInt8),(6:UInt8),(6:UInt8),(6:UInt8),(6:UInt8),(6:UInt8),(6:UInt8),(6:UInt8),(6:UInt8),(6:UInt8),(6:UInt8),(6:UInt8),(6:UInt8),(6:UInt8),(6:UInt8),(6:UInt8),(6:UInt8),(6:UInt8),(6:UInt8),(6:UInt8),(6:UInt8),(6:UInt8),(6:UInt8),(6:UInt8),(6:UInt8),(6:UInt8),(6:UInt8),(6:UInt8),(6:UInt8),(6:UInt8),(6:UInt8)].append [(7:UInt8),(7:UInt8),(7:UInt8),(7:UInt8),(7:UInt8),(7:UInt8),(7:UInt8),(7:UInt8),(7:UInt8),(7:UInt8),(7:UInt8),(7:UInt8),(7:UInt8),(7:UInt8),(7:UInt8),(7:UInt8),(7:UInt8),(7:UInt8),(7:UInt8),(7:UInt8),(7:UInt8),(7:UInt8),(7:UInt8),(7:UInt8),(7:UInt8),(7:UInt8),(7:UInt8),(7:UInt8),(7:UInt8),(7:UInt8),(7:UInt8),(7:UInt8),(7:UInt8),(7:UInt8),(7:UInt8),(7:UInt8),(7:UInt8),(7:UInt8),(7:UInt8),(7:UInt8),(7:UInt8),(7:UInt8),(7:UInt8),(7:UInt8),(7:UInt8),(7:UInt8),(7:UInt8),(7:UInt8),(7:UInt8),(7:UInt8),(7:UInt8),(7:UInt8),(7:UInt8),(7:UInt8),(7:UInt8),(7:UInt8),(7:UInt8),(7:UInt8),(7:UInt8),(7:UInt8),(7:UInt8),(7:UInt8),(7:UInt8),(7:UInt8)]).append ([(8:UInt8),(8:UInt8),(8:UInt8),(8:UInt8),(8:UInt8),(8:UInt8),(8:UInt8),(8:UInt8),(8:UInt8),(8:UInt8),(8:UInt8),(8:UInt8),(8:UInt8),(8:UInt8),(8:UInt8),(8:UInt8),(8:UInt8),(8:UInt8),(8:UInt8),(8:UInt8),(8:UInt8),(8:UInt8),(8:UInt8),(8:UInt8),(8:UInt8),(8:UInt8),(8:UInt8),(8:UInt8),(8:UInt8),(8:UInt8),(8:UInt8),(8:UInt8),(8:UInt8),(8:UInt8),(8:UInt8),(8:UInt8),(8:UInt8),(8:UInt8),(8:UInt8),(8:UInt8),(8:UInt8),(8:UInt8),(8:UInt8),(8:UInt8),(8:UInt8),(8:UInt8),(8:UInt8),(8:UInt8),(8:UInt8),(8:UInt8),(8:UInt8),(8:UInt8),(8:UInt8),(8:UInt8),(8:UInt8),(8:UInt8),(8:UInt8),(8:UInt8),(8:UInt8),(8:UInt8),(8:UInt8),(8:UInt8),(8:UInt8),(8:UInt8)].append [(8:UInt8),(8:UInt8),(8:UInt8),(8:UInt8),(8:UInt8),(8:UInt8),(8:UInt8),(8:UInt8),(8:UInt8),(8:UInt8),(8:UInt8),(8:UInt8),(8:UInt8),(8:UInt8),(8:UInt8),(8:UInt8),(8:UInt8),(8:UInt8),(8:UInt8),(8:UInt8),(8:UInt8),(8:UInt8),(8:UInt8),(8:UInt8),(8:UInt8),(8:UInt8),(8:UInt8),(8:UInt8),(8:UInt8),(8:UInt8),(8:UInt8),(8:UInt8),(8:UInt8),(8:UInt8),(8:UInt8),(8:UInt8),(8:UInt8),(8:UInt8),(8:UInt8),(8:UInt8),(8:UInt8),(8:UInt8),(8:UInt8),(8:UInt8),(8:UInt8),(8:UInt8),(8:UInt8),(8:UInt8),(8:UInt8),(8:UInt8),(8:UInt8),(8:UInt8),(8:UInt8),(8:UInt8),(8:UInt8),(8:UInt8),(8:UInt8),(8:UInt8),(8:UInt8),(8:UInt8),(8:UInt8),(8:UInt8),(8:UInt8),(8:UInt8)])).toArray).size:Int)) then k0 (i64.wrap (32+i64.wrap (↑((ByteArray.mk (([(0:UInt8),(1:UInt8),(2:UInt8),(2:UInt8),(3:UInt8),(3:UInt8),(3:UInt8),(3:UInt8),(4:UInt8),(4:UInt8),(4:UInt8),(4:UInt8),(4:UInt8),(4:UInt8),(4:UInt8),(4:UInt8),(5:UInt8),(5:UInt8),(5:UInt8),(5:UInt8),(5:UInt8),(5:UInt8),(5:UInt8),(5:UInt8),(5:UInt8),(5:UInt8),(5:UInt8),(5:UInt8),(5:UInt8),(5:UInt8),(5:UInt8),(5:UInt8),(6:UInt8),(6:UInt8),(6:UInt8),(6:UInt8),(6:UInt8),(6:UInt8),(6:UInt8),(6:UInt8),(6:UInt8),(6:UInt8),(6:UInt8),(6:UInt8),(6:UInt8),(6:UInt8),(6:UInt8),(6:UInt8),(6:UInt8),(6:UInt8),(6:UInt8),(6:UInt8),(6:UInt8),(6:UInt8),(6:UInt8),(6:UInt8),(6:UInt8),(6:UInt8),(6:UInt8),(6:UInt8),(6:UInt8),(6:UInt8),(6:UInt8),(6:UInt8)].append [(7:UInt8),(7:UInt8),(7:UInt8),(7:UInt8),(7:UInt8),(7:UInt8),(7:UInt8),(7:UInt8),(7:UInt8),(7:UInt8),(7:UInt8),(7:UInt8),(7:UInt8),(7:UInt8),(7:UInt8),(7:UInt8),(7:UInt8),(7:UInt8),(7:UInt8),(7:UInt8),(7:UInt8),(7:UInt8),(7:UInt8),(7:UInt8),(7:UInt8),(7:UInt8),(7:UInt8),(7:UInt8),(7:UInt8),(7:UInt8),(7:UInt8),(7:UInt8),(7:UInt8),(7:UInt8),(7:UInt8),(7:UInt8),(7:UInt8),(7:UInt8),(7:UInt8),(7:UInt8),(7:UInt8),(7:UInt8),(7:UInt8),(7:UInt8),(7:UInt8),(7:UInt8),(7:UInt8),(7:UInt8),(7:UInt8),(7:UInt8),(7:UInt8),(7:UInt8),(7:UInt8),(7:UInt8),(7:UInt8),(7:UInt8),(7:UInt8),(7:UInt8),(7:UInt8),(7:UInt8),(7:UInt8),(7:UInt8),(7:UInt8),(7:UInt8)]).append ([(8:UInt8),(8:UInt8),(8:UInt8),(8:UInt8),(8:UInt8),(8:UInt8),(8:UInt8),(8:UInt8),(8:UInt8),(8:UInt8),(8:UInt8),(8:UInt8),(8:UInt8),(8:UInt8),(8:UInt8),(8:UInt8),(8:UInt8),(8:UInt8),(8:UInt8),(8:UInt8),(8:UInt8),(8:UInt8),(8:UInt8),(8:UInt8),(8:UInt8),(8:UInt8),(8:UInt8),(8:UInt8),(8:UInt8),(8:UInt8),(8:UInt8),(8:UInt8),(8:UInt8),(8:UInt8),(8:UInt8),(8:UInt8),(8:UInt8),(8:UInt8),(8:UInt8),(8:UInt8),(8:UInt8),(8:UInt8),(8:UInt8),(8:UInt8),(8:UInt8),(8:UInt8),(8:UInt8),(8:UInt8),(8:UInt8),(8:UInt8),(8:UInt8),(8:UInt8),(8:UInt8),(8:UInt8),(8:UInt8),(8:UInt8),(8:UInt8),(8:UInt8),(8:UInt8),(8:UInt8),(8:UInt8),(8:UInt8),(8:UInt8),(8:UInt8)].append [(8:UInt8),(8:UInt8),(8:UInt8),(8:UInt8),(8:UInt8),(8:UInt8),(8:UInt8),(8:UInt8),(8:UInt8),(8:UInt8),(8:UInt8),(8:UInt8),(8:UInt8),(8:UInt8),(8:UInt8),(8:UInt8),(8:UInt8),(8:UInt8),(8:UInt8),(8:UInt8),(8:UInt8),(8:UInt8),(8:UInt8),(8:UInt8),(8:UInt8),(8:UInt8),(8:UInt8),(8:UInt8),(8:UInt8),(8:UInt8),(8:UInt8),(8:UInt8),(8:UInt8),(8:UInt8),(8:UInt8),(8:UInt8),(8:UInt8),(8:UInt8),(8:UInt8),(8:UInt8),(8:UInt8),(8:UInt8),(8:UInt8),(8:UInt8),(8:UInt8),(8:UInt8),(8:UInt8),(8:UInt8),(8:UInt8),(8:UInt8),(8:UInt8),(8:UInt8),(8:UInt8),(8:UInt8),(8:UInt8),(8:UInt8),(8:UInt8),(8:UInt8),(8:UInt8),(8:UInt8),(8:UInt8),(8:UInt8),(8:UInt8),(8:UInt8)])).toArray).data.toList.getD (u8.wrap (Ev.ishr IntKind.u64 a 32)).toNat (0:UInt8)).toNat:Int))) else none else bif decide (a≥65536) then bif decide (Ev.ishr IntKind.u64 a (16:Int)≥(256:Int)) then bif decide (0≤u8.wrap (Ev.ishr IntKind.u64 (Ev.ishr IntKind.u64 a 16) 8)∧u8.wrap (Ev.ishr IntKind.u64 (Ev.ishr IntKind.u64 a 16) 8) < (↑(ByteArray.mk (([(0:UInt8),(1:UInt8),(2:UInt8),(2:UInt8),(3:UInt8),(3:UInt8),(3:UInt8),(3:UInt8),(4:UInt8),(4:UInt8),(4:UInt8),(4:UInt8),(4:UInt8),(4:UInt8),(4:UInt8),(4:UInt8),(5:UInt8),(5:UInt8),(5:UInt8),(5:UInt8),(5:UInt8),(5:UInt8),(5:UInt8),(5:UInt8),(5:UInt8),(5:UInt8),(5:UInt8),(5:UInt8),(5:UInt8),(5:UInt8),(5:UInt8),(5:UInt8),(6:UInt8),(6:UInt8),(6:UInt8),(6:UInt8),(6:UInt8),(6:UInt8),(6:UInt8),(6:UInt8),(6:UInt8),(6:UInt8),(6:UInt8),(6:UInt8),(6:UInt8),(6:UInt8),(6:UInt8),(6:UInt8),(6:UInt8),(6:UInt8),(6:UInt8),(6:UInt8),(6:UInt8),(6:UInt8),(6:UInt8),(6:UInt8),(6:UInt8),(6:UInt8),(6:UInt8),(6:UInt8),(6:UInt8),(6:UInt8),(6:UInt8),(6:UInt8)].append [(7:UInt8),(7:UInt8),(7:UInt8),(7:UInt8),(7:UInt8),(7:UInt8),(7:UInt8),(7:UInt8),(7:UInt8),(7:UInt8),(7:UInt8),(7:UInt8),(7:UInt8),(7:UInt8),(7:UInt8),(7:UInt8),(7:UInt8),(7:UInt8),(7:UInt8),(7:UInt8),(7:UInt8),(7:UInt8),(7:UInt8),(7:UInt8),(7:UInt8),(7:UInt8),(7:UInt8),(7:UInt8),(7:UInt8),(7:UInt8),(7:UInt8),(7:UInt8),(7:UInt8),(7:UInt8),(7:UInt8),(7:UInt8),(7:UInt8),(7:UInt8),(7:UInt8),(7:UInt8),(7:UInt8),(7:UInt8),(7:UInt8),(7:UInt8),(7:UInt8),(7:UInt8),(7:UInt8),(7:UInt8),(7:UInt8),(7:UInt8),(7:UInt8),(7:UInt8),(7:UInt8),(7:UInt8),(7:UInt8),(7:UInt8),(7:UInt8),(7:UInt8),(7:UInt8),(7:UInt8),(7:UInt8),(7:UInt8),(7:UInt8),(7:UInt8)]).append ([(8:UInt8),(8:UInt8),(8:UInt8),(8:UInt8),(8:UInt8),(8:UInt8),(8:UInt8),(8:UInt8),(8:UInt8),(8:UInt8),(8:UInt8),(8:UInt8),(8:UInt8),(8:UInt8),(8:UInt8),(8:UInt8),(8:UInt8),(8:UInt8),(8:UInt8),(8:UInt8),(8:UInt8),(8:UInt8),(8:UInt8),(8:UInt8),(8:UInt8),(8:UInt8),(8:UInt8),(8:UInt8),(8:UInt8),(8:UInt8),(8:UInt8),(8:UInt8),(8:UInt8),(8:UInt8),(8:UInt8),(8:UInt8),(8:UInt8),(8:UInt8),(8:UInt8),(8:UInt8),(8:UInt8),(8:UInt8),(8:UInt8),(8:UInt8),(8:UInt8),(8:UInt8),(8:UInt8),(8:UInt8),(8:UInt8),(8:UInt8),(8:UInt8),(8:UInt8),(8:UInt8),(8:UInt8),(8:UInt8),(8:UInt8),(8:UInt8),(8:UInt8),(8:UInt8),(8:UInt8),(8:UInt8),(8:UInt8),(8:UInt8),(8:UInt8)].append [(8:UInt8),(8:UInt8),(8:UInt8),(8:UInt8),(8:UInt8),(8:UInt8),(8:UInt8),(8:UInt8),(8:UInt8),(8:UInt8),(8:UInt8),(8:UInt8),(8:UInt8),(8:UInt8),(8:UInt8),(8:UInt8),(8:UInt8),(8:UInt8),(8:UInt8),(8:UInt8),(8:UInt8),(8:UInt8),(8:UInt8),(8:UInt8),(8:UInt8),(8:UInt8),(8:UInt8),(8:UInt8),(8:UInt8),(8:UInt8),(8:UInt8),(8:UInt8),(8:UInt8),(8:UInt8),(8:UInt8),(8:UInt8),(8:UInt8),(8:UInt8),(8:UInt8),(8:UInt8),(8:UInt8),(8:UInt8),(8:UInt8),(8:UInt8),(8:UInt8),(8:UInt8),(8:UInt8),(8:UInt8),(8:UInt8),(8:UInt8),(8:UInt8),(8:UInt8),(8:UInt8),(8:UInt8),(8:UInt8),(8:UInt8),(8:UInt8),(8:UInt8),(8:UInt8),(8:UInt8),(8:UInt8),(8:UInt8),(8:UInt8),(8:UInt8)])).toArray).size:Int)) then k0 (i64.wrap (i64.wrap (i64.wrap ((0:Int)+(16:Int))+(8:Int))+i64.wrap (↑((ByteArray.mk (([(0:UInt8),(1:UInt8),(2:UInt8),(2:UInt8),(3:UInt8),(3:UInt8),(3:UInt8),(3:UInt8),(4:UInt8),(4:UInt8),(4:UInt8),(4:UInt8),(4:UInt8),(4:UInt8),(4:UInt8),(4:UInt8),(5:UInt8),(5:UInt8),(5:UInt8),(5:UInt8),(5:UInt8),(5:UInt8),(5:UInt8),(5:UInt8),(5:UInt8),(5:UInt8),(5:UInt8),(5:UInt8),(5:UInt8),(5:UInt8),(5:UInt8),(5:UInt8),(6:UInt8),(6:UInt8),(6:UInt8),(6:UInt8),(6:UInt8),(6:UInt8),(6:UInt8),(6:UInt8),(6:UInt8),(6:UInt8),(6:UInt8),(6:UInt8),(6:UInt8),(6:UInt8),(6:UInt8),(6:UInt8),(6:UInt8),(6:UInt8),(6:UInt8),(6:UInt8),(6:UInt8),(6:UInt8),(6:UInt8),(6:UInt8),(6:UInt8),(6:UInt8),(6:UInt8),(6:UInt8),(6:UInt8),(6:UInt8),(6:UInt8),(6:UInt8)].append [(7:UInt8),(7:UInt8),(7:UInt8),(7:UInt8),(7:UInt8),(7:UInt8),(7:UInt8),(7:UInt8),(7:UInt8),(7:UInt8),(7:UInt8),(7:UInt8),(7:UInt8),(7:UInt8),(7:UInt8),(7:UInt8),(7:UInt8),(7:UInt8),(7:UInt8),(7:UInt8),(7:UInt8),(7:UInt8),(7:UInt8),(7:UInt8),(7:UInt8),(7:UInt8),(7:UInt8),(7:UInt8),(7:UInt8),(7:UInt8),(7:UInt8),(7:UInt8),(7:UInt8),(7:UInt8),(7:UInt8),(7:UInt8),(7:UInt8),(7:UInt8),(7:UInt8),(7:UInt8),(7:UInt8),(7:UInt8),(7:UInt8),(7:UInt8),(7:UInt8),(7:UInt8),(7:UInt8),(7:UInt8),(7:UInt8),(7:UInt8),(7:UInt8),(7:UInt8),(7:UInt8),(7:UInt8),(7:UInt8),(7:UInt8),(7:UInt8),(7:UInt8),(7:UInt8),(7:UInt8),(7:UInt8),(7:UInt8),(7:UInt8),(7:UInt8)]).append ([(8:UInt8),(8:UInt8),(8:UInt8),(8:UInt8),(8:UInt8),(8:UInt8),(8:UInt8),(8:UInt8),(8:UInt8),(8:UInt8),(8:UInt8),(8:UInt8),(8:UInt8),(8:UInt8),(8:UInt8),(8:UInt8),(8:UInt8),(8:UInt8),(8:UInt8),(8:UInt8),(8:UInt8),(8:UInt8),(8:UInt8),(8:UInt8),(8:UInt8),(8:UInt8),(8:UInt8),(8:UInt8),(8:UInt8),(8:UInt8),(8:UInt8),(8:UInt8),(8:UInt8),(8:UInt8),(8:UInt8),(8:UInt8),(8:UInt8),(8:UInt8),(8:UInt8),(8:UInt8),(8:UInt8),(8:UInt8),(8:UInt8),(8:UInt8),(8:UInt8),(8:UInt8),(8:UInt8),(8:UInt8),(8:UInt8),(8:UInt8),(8:UInt8),(8:UInt8),(8:UInt8),(8:UInt8),(8:UInt8),(8:UInt8),(8:UInt8),(8:UInt8),(8:UInt8),(8:UInt8),(8:UInt8),(8:UInt8),(8:UInt8),(8:UInt8)].append [(8:UInt8),(8:UInt8),(8:UInt8),(8:UInt8),(8:UInt8),(8:UInt8),(8:UInt8),(8:UInt8),(8:UInt8),(8:UInt8),(8:UInt8),(8:UInt8),(8:UInt8),(8:UInt8),(8:UInt8),(8:UInt8),(8:UInt8),(8:UInt8),(8:UInt8),(8:UInt8),(8:UInt8),(8:UInt8),(8:UInt8),(8:UInt8),(8:UInt8),(8:UInt8),(8:UInt8),(8:UInt8),(8:UInt8),(8:UInt8),(8:UInt8),(8:UInt8),(8:UInt8),(8:UInt8),(8:UInt8),(8:UInt8),(8:UInt8),(8:UInt8),(8:UInt8),(8:UInt8),(8:UInt8),(8:UInt8),(8:UInt8),(8:UInt8),(8:UInt8),(8:UInt8),(8:UInt8),(8:UInt8),(8:UInt8),(8:UInt8),(8:UInt8),(8:UInt8),(8:UInt8),(8:UInt8),(8:UInt8),(8:UInt8),(8:UInt8),(8:UInt8),(8:UInt8),(8:UInt8),(8:UInt8),(8:UInt8),(8:UInt8),(8:UInt8)])).toArray).data.toList.getD (u8.wrap (Ev.ishr IntKind.u64 (Ev.ishr IntKind.u64 a (16:Int)) (8:Int))).toNat (0:UInt8)).toNat:Int))) else none else bif decide (0≤u8.wrap (Ev.ishr IntKind.u64 a 16)∧u8.wrap (Ev.ishr IntKind.u64 a 16) < (↑(ByteArray.mk (([(0:UInt8),(1:UInt8),(2:UInt8),(2:UInt8),(3:UInt8),(3:UInt8),(3:UInt8),(3:UInt8),(4:UInt8),(4:UInt8),(4:UInt8),(4:UInt8),(4:UInt8),(4:UInt8),(4:UInt8),(4:UInt8),(5:UInt8),(5:UInt8),(5:UInt8),(5:UInt8),(5:UInt8),(5:UInt8),(5:UInt8),(5:UInt8),(5:UInt8),(5:UInt8),(5:UInt8),(5:UInt8),(5:UInt8),(5:UInt8),(5:UInt8),(5:UInt8),(6:UInt8),(6:UInt8),(6:UInt8),(6:UInt8),(6:UInt8),(6:UInt8),(6:UInt8),(6:UInt8),(6:UInt8),(6:UInt8),(6:UInt8),(6:UInt8),(6:UInt8),(6:UInt8),(6:UInt8),(6:UInt8),(6:UInt8),(6:UInt8),(6:UInt8),(6:UInt8),(6:UInt8),(6:UInt8),(6:UInt8),(6:UInt8),(6:UInt8),(6:UInt8),(6:UInt8),(6:UInt8),(6:UInt8),(6:UInt8),(6:UInt8),(6:UInt8)].append [(7:UInt8),(7:UInt8),(7:UInt8),(7:UInt8),(7:UInt8),(7:UInt8),(7:UInt8),(7:UInt8),(7:UInt8),(7:UInt8),(7:UInt8),(7:UInt8),(7:UInt8),(7:UInt8),(7:UInt8),(7:UInt8),(7:UInt8),(7:UInt8),(7:UInt8),(7:UInt8),(7:UInt8),(7:UInt8),(7:UInt8),(7:UInt8),(7:UInt8),(7:UInt8),(7:UInt8),(7:UInt8),(7:UInt8),(7:UInt8),(7:UInt8),(7:UInt8),(7:UInt8),(7:UInt8),(7:UInt8),(7:UInt8),(7:UInt8),(7:UInt8),(7:UInt8),(7:UInt8),(7:UInt8),(7:UInt8),(7:UInt8),(7:UInt8),(7:UInt8),(7:UInt8),(7:UInt8),(7:UInt8),(7:UInt8),(7:UInt8),(7:UInt8),(7:UInt8),(7:UInt8),(7:UInt8),(7:UInt8),(7:UInt8),(7:UInt8),(7:UInt8),(7:UInt8),(7:UInt8),(7:UInt8),(7:UInt8),(7:UInt8),(7:UInt8)]).append ([(8:UInt8),(8:UInt8),(8:UInt8),(8:UInt8),(8:UInt8),(8:UInt8),(8:UInt8),(8:UInt8),(8:UInt8),(8:UInt8),(8:UInt8),(8:UInt8),(8:UInt8),(8:UInt8),(8:UInt8),(8:UInt8),(8:UInt8),(8:UInt8),(8:UInt8),(8:UInt8),(8:UInt8),(8:UInt8),(8:UInt8),(8:UInt8),(8:UInt8),(8:UInt8),(8:UInt8),(8:UInt8),(8:UInt8),(8:UInt8),(8:UInt8),(8:UInt8),(8:UInt8),(8:UInt8),(8:UInt8),(8:UInt8),(8:UInt8),(8:UInt8),(8:UInt8),(8:UInt8),(8:UInt8),(8:UInt8),(8:UInt8),(8:UInt8),(8:UInt8),(8:UInt8),(8:UInt8),(8:UInt8),(8:UInt8),(8:UInt8),(8:UInt8),(8:UInt8),(8:UInt8),(8:UInt8),(8:UInt8),(8:UInt8),(8:UInt8),(8:UInt8),(8:UInt8),(8:UInt8),(8:UInt8),(8:UInt8),(8:UInt8),(8:UInt8)].append [(8:UInt8),(8:UInt8),(8:UInt8),(8:UInt8),(8:UInt8),(8:UInt8),(8:UInt8),(8:UInt8),(8:UInt8),(8:UInt8),(8:UInt8),(8:UInt8),(8:UInt8),(8:UInt8),(8:UInt8),(8:UInt8),(8:UInt8),(8:UInt8),(8:UInt8),(8:UInt8),(8:UInt8),(8:UInt8),(8:UInt8),(8:UInt8),(8:UInt8),(8:UInt8),(8:UInt8),(8:UInt8),(8:UInt8),(8:UInt8),(8:UInt8),(8:UInt8),(8:UInt8),(8:UInt8),(8:UInt8),(8:UInt8),(8:UInt8),(8:UInt8),(8:UInt8),(8:UInt8),(8:UInt8),(8:UInt8),(8:UInt8),(8:UInt8),(8:UInt8),(8:UInt8),(8:UInt8),(8:UInt8),(8:UInt8),(8:UInt8),(8:UInt8),(8:UInt8),(8:UInt8),(8:UInt8),(8:UInt8),(8:UInt8),(8:UInt8),(8:UInt8),(8:UInt8),(8:UInt8),(8:UInt8),(8:UInt8),(8:UInt8),(8:UInt8)])).toArray).size:Int)) then k0 (i64.wrap (i64.wrap ((0:Int)+(16:Int))+i64.wrap (↑((ByteArray.mk (([(0:UInt8),(1:UInt8),(2:UInt8),(2:UInt8),(3:UInt8),(3:UInt8),(3:UInt8),(3:UInt8),(4:UInt8),(4:UInt8),(4:UInt8),(4:UInt8),(4:UInt8),(4:UInt8),(4:UInt8),(4:UInt8),(5:UInt8),(5:UInt8),(5:UInt8),(5:UInt8),(5:UInt8),(5:UInt8),(5:UInt8),(5:UInt8),(5:UInt8),(5:UInt8),(5:UInt8),(5:UInt8),(5:UInt8),(5:UInt8),(5:UInt8),(5:UInt8),(6:UInt8),(6:UInt8),(6:UInt8),(6:UInt8),(6:UInt8),(6:UInt8),(6:UInt8),(6:UInt8),(6:UInt8),(6:UInt8),(6:UInt8),(6:UInt8),(6:UInt8),(6:UInt8),(6:UInt8),(6:UInt8),(6:UInt8),(6:UInt8),(6:UInt8),(6:UInt8),(6:UInt8),(6:UInt8),(6:UInt8),(6:UInt8),(6:UInt8),(6:UInt8),(6:UInt8),(6:UInt8),(6:UInt8),(6:UInt8),(6:UInt8),(6:UInt8)].append [(7:UInt8),(7:UInt8),(7:UInt8),(7:UInt8),(7:UInt8),(7:UInt8),(7:UInt8),(7:UInt8),(7:UInt8),(7:UInt8),(7:UInt8),(7:UInt8),(7:UInt8),(7:UInt8),(7:UInt8),(7:UInt8),(7:UInt8),(7:UInt8),(7:UInt8),(7:UInt8),(7:UInt8),(7:UInt8),(7:UInt8),(7:UInt8),(7:UInt8),(7:UInt8),(7:UInt8),(7:UInt8),(7:UInt8),(7:UInt8),(7:UInt8),(7:UInt8),(7:UInt8),(7:UInt8),(7:UInt8),(7:UInt8),(7:UInt8),(7:UInt8),(7:UInt8),(7:UInt8),(7:UInt8),(7:UInt8),(7:UInt8),(7:UInt8),(7:UInt8),(7:UInt8),(7:UInt8),(7:UInt8),(7:UInt8),(7:UInt8),(7:UInt8),(7:UInt8),(7:UInt8),(7:UInt8),(7:UInt8),(7:UInt8),(7:UInt8),(7:UInt8),(7:UInt8),(7:UInt8),(7:UInt8),(7:UInt8),(7:UInt8),(7:UInt8)]).append ([(8:UInt8),(8:UInt8),(8:UInt8),(8:UInt8),(8:UInt8),(8:UInt8),(8:UInt8),(8:UInt8),(8:UInt8),(8:UInt8),(8:UInt8),(8:UInt8),(8:UInt8),(8:UInt8),(8:UInt8),(8:UInt8),(8:UInt8),(8:UInt8),(8:UInt8),(8:UInt8),(8:UInt8),(8:UInt8),(8:UInt8),(8:UInt8),(8:UInt8),(8:UInt8),(8:UInt8),(8:UInt8),(8:UInt8),(8:UInt8),(8:UInt8),(8:UInt8),(8:UInt8),(8:UInt8),(8:UInt8),(8:UInt8),(8:UInt8),(8:UInt8),(8:UInt8),(8:UInt8),(8:UInt8),(8:UInt8),(8:UInt8),(8:UInt8),(8:UInt8),(8:UInt8),(8:UInt8),(8:UInt8),(8:UInt8),(8:UInt8),(8:UInt8),(8:UInt8),(8:UInt8),(8:UInt8),(8:UInt8),(8:UInt8),(8:UInt8),(8:UInt8),(8:UInt8),(8:UInt8),(8:UInt8),(8:UInt8),(8:UInt8),(8:UInt8)].append [(8:UInt8),(8:UInt8),(8:UInt8),(8:UInt8),(8:UInt8),(8:UInt8),(8:UInt8),(8:UInt8),(8:UInt8),(8:UInt8),(8:UInt8),(8:UInt8),(8:UInt8),(8:UInt8),(8:UInt8),(8:UInt8),(8:UInt8),(8:UInt8),(8:UInt8),(8:UInt8),(8:UInt8),(8:UInt8),(8:UInt8),(8:UInt8),(8:UInt8),(8:UInt8),(8:UInt8),(8:UInt8),(8:UInt8),(8:UInt8),(8:UInt8),(8:UInt8),(8:UInt8),(8:UInt8),(8:UInt8),(8:UInt8),(8:UInt8),(8:UInt8),(8:UInt8),(8:UInt8),(8:UInt8),(8:UInt8),(8:UInt8),(8:UInt8),(8:UInt8),(8:UInt8),(8:UInt8),(8:UInt8),(8:UInt8),(8:UInt8),(8:UInt8),(8:UInt8),(8:UInt8),(8:UInt8),(8:UInt8),(8:UInt8),(8:UInt8),(8:UInt8),(8:UInt8),(8:UInt8),(8:UInt8),(8:UInt8),(8:UInt8),(8:UInt8)])).toArray).data.toList.getD (u8.wrap (Ev.ishr IntKind.u64 a (16:Int))).toNat (0:UInt8)).toNat:Int))) else none else bif decide (a≥256) then bif decide (0≤u8.wrap (Ev.ishr IntKind.u64 a 8)∧u8.wrap (Ev.ishr IntKind.u64 a 8) < (↑(ByteArray.mk (([(0:UInt8),(1:UInt8),(2:UInt8),(2:UInt8),(3:UInt8),(3:UInt8),(3:UInt8),(3:UInt8),(4:UInt8),(4:UInt8),(4:UInt8),(4:UInt8),(4:UInt8),(4:UInt8),(4:UInt8),(4:UInt8),(5:UInt8),(5:UInt8),(5:UInt8),(5:UInt8),(5:UInt8),(5:UInt8),(5:UInt8),(5:UInt8),(5:UInt8),(5:UInt8),(5:UInt8),(5:UInt8),(5:UInt8),(5:UInt8),(5:UInt8),(5:UInt8),(6:UInt8),(6:UInt8),(6:UInt8),(6:UInt8),(6:UInt8),(6:UInt8),(6:UInt8),(6:UInt8),(6:UInt8),(6:UInt8),(6:UInt8),(6:UInt8),(6:UInt8),(6:UInt8),(6:UInt8),(6:UInt8),(6:UInt8),(6:UInt8),(6:UInt8),(6:UInt8),(6:UInt8),(6:UInt8),(6:UInt8),(6:UInt8),(6:UInt8),(6:UInt8),(6:UInt8),(6:UInt8),(6:UInt8),(6:UInt8),(6:UInt8),(6:UInt8)].append [(7:UInt8),(7:UInt8),(7:UInt8),(7:UInt8),(7:UInt8),(7:UInt8),(7:UInt8),(7:UInt8),(7:UInt8),(7:UInt8),(7:UInt8),(7:UInt8),(7:UInt8),(7:UInt8),(7:UInt8),(7:UInt8),(7:UInt8),(7:UInt8),(7:UInt8),(7:UInt8),(7:UInt8),(7:UInt8),(7:UInt8),(7:UInt8),(7:UInt8),(7:UInt8),(7:UInt8),(7:UInt8),(7:UInt8),(7:UInt8),(7:UInt8),(7:UInt8),(7:UInt8),(7:UInt8),(7:UInt8),(7:UInt8),(7:UInt8),(7:UInt8),(7:UInt8),(7:UInt8),(7:UInt8),(7:UInt8),(7:UInt8),(7:UInt8),(7:UInt8),(7:UInt8),(7:UInt8),(7:UInt8),(7:UInt8),(7:UInt8),(7:UInt8),(7:UInt8),(7:UInt8),(7:UInt8),(7:UInt8),(7:UInt8),(7:UInt8),(7:UInt8),(7:UInt8),(7:UInt8),(7:UInt8),(7:UInt8),(7:UInt8),(7:UInt8)]).append ([(8:UInt8),(8:UInt8),(8:UInt8),(8:UInt8),(8:UInt8),(8:UInt8),(8:UInt8),(8:UInt8),(8:UInt8),(8:UInt8),(8:UInt8),(8:UInt8),(8:UInt8),(8:UInt8),(8:UInt8),(8:UInt8),(8:UInt8),(8:UInt8),(8:UInt8),(8:UInt8),(8:UInt8),(8:UInt8),(8:UInt8),(8:UInt8),(8:UInt8),(8:UInt8),(8:UInt8),(8:UInt8),(8:UInt8),(8:UInt8),(8:UInt8),(8:UInt8),(8:UInt8),(8:UInt8),(8:UInt8),(8:UInt8),(8:UInt8),(8:UInt8),(8:UInt8),(8:UInt8),(8:UInt8),(8:UInt8),(8:UInt8),(8:UInt8),(8:UInt8),(8:UInt8),(8:UInt8),(8:UInt8),(8:UInt8),(8:UInt8),(8:UInt8),(8:UInt8),(8:UInt8),(8:UInt8),(8:UInt8),(8:UInt8),(8:UInt8),(8:UInt8),(8:UInt8),(8:UInt8),(8:UInt8),(8:UInt8),(8:UInt8),(8:UInt8)].append [(8:UInt8),(8:UInt8),(8:UInt8),(8:UInt8),(8:UInt8),(8:UInt8),(8:UInt8),(8:UInt8),(8:UInt8),(8:UInt8),(8:UInt8),(8:UInt8),(8:UInt8),(8:UInt8),(8:UInt8),(8:UInt8),(8:UInt8),(8:UInt8),(8:UInt8),(8:UInt8),(8:UInt8),(8:UInt8),(8:UInt8),(8:UInt8),(8:UInt8),(8:UInt8),(8:UInt8),(8:UInt8),(8:UInt8),(8:UInt8),(8:UInt8),(8:UInt8),(8:UInt8),(8:UInt8),(8:UInt8),(8:UInt8),(8:UInt8),(8:UInt8),(8:UInt8),(8:UInt8),(8:UInt8),(8:UInt8),(8:UInt8),(8:UInt8),(8:UInt8),(8:UInt8),(8:UInt8),(8:UInt8),(8:UInt8),(8:UInt8),(8:UInt8),(8:UInt8),(8:UInt8),(8:UInt8),(8:UInt8),(8:UInt8),(8:UInt8),(8:UInt8),(8:UInt8),(8:UInt8),(8:UInt8),(8:UInt8),(8:UInt8),(8:UInt8)])).toArray).size:Int)) then k0 (i64.wrap (i64.wrap ((0:Int)+(8:Int))+i64.wrap (↑((ByteArray.mk (([(0:UInt8),(1:UInt8),(2:UInt8),(2:UInt8),(3:UInt8),(3:UInt8),(3:UInt8),(3:UInt8),(4:UInt8),(4:UInt8),(4:UInt8),(4:UInt8),(4:UInt8),(4:UInt8),(4:UInt8),(4:UInt8),(5:UInt8),(5:UInt8),(5:UInt8),(5:UInt8),(5:UInt8),(5:UInt8),(5:UInt8),(5:UInt8),(5:UInt8),(5:UInt8),(5:UInt8),(5:UInt8),(5:UInt8),(5:UInt8),(5:UInt8),(5:UInt8),(6:UInt8),(6:UInt8),(6:UInt8),(6:UInt8),(6:UInt8),(6:UInt8),(6:UInt8),(6:UInt8),(6:UInt8),(6:UInt8),(6:UInt8),(6:UInt8),(6:UInt8),(6:UInt8),(6:UInt8),(6:UInt8),(6:UInt8),(6:UInt8),(6:UInt8),(6:UInt8),(6:UInt8),(6:UInt8),(6:UInt8),(6:UInt8),(6:UInt8),(6:UInt8),(6:UInt8),(6:UInt8),(6:UInt8),(6:UInt8),(6:UInt8),(6:UInt8)].append [(7:UInt8),(7:UInt8),(7:UInt8),(7:UInt8),(7:UInt8),(7:UInt8),(7:UInt8),(7:UInt8),(7:UInt8),(7:UInt8),(7:UInt8),(7:UInt8),(7:UInt8),(7:UInt8),(7:UInt8),(7:UInt8),(7:UInt8),(7:UInt8),(7:UInt8),(7:UInt8),(7:UInt8),(7:UInt8),(7:UInt8),(7:UInt8),(7:UInt8),(7:UInt8),(7:UInt8),(7:UInt8),(7:UInt8),(7:UInt8),(7:UInt8),(7:UInt8),(7:UInt8),(7:UInt8),(7:UInt8),(7:UInt8),(7:UInt8),(7:UInt8),(7:UInt8),(7:UInt8),(7:UInt8),(7:UInt8),(7:UInt8),(7:UInt8),(7:UInt8),(7:UInt8),(7:UInt8),(7:UInt8),(7:UInt8),(7:UInt8),(7:UInt8),(7:UInt8),(7:UInt8),(7:UInt8),(7:UInt8),(7:UInt8),(7:UInt8),(7:UInt8),(7:UInt8),(7:UInt8),(7:UInt8),(7:UInt8),(7:UInt8),(7:UInt8)]).append ([(8:UInt8),(8:UInt8),(8:UInt8),(8:UInt8),(8:UInt8),(8:UInt8),(8:UInt8),(8:UInt8),(8:UInt8),(8:UInt8),(8:UInt8),(8:UInt8),(8:UInt8),(8:UInt8),(8:UInt8),(8:UInt8),(8:UInt8),(8:UInt8),(8:UInt8),(8:UInt8),(8:UInt8),(8:UInt8),(8:UInt8),(8:UInt8),(8:UInt8),(8:UInt8),(8:UInt8),(8:UInt8),(8:UInt8),(8:UInt8),(8:UInt8),(8:UInt8),(8:UInt8),(8:UInt8),(8:UInt8),(8:UInt8),(8:UInt8),(8:UInt8),(8:UInt8),(8:UInt8),(8:UInt8),(8:UInt8),(8:UInt8),(8:UInt8),(8:UInt8),(8:UInt8),(8:UInt8),(8:UInt8),(8:UInt8),(8:UInt8),(8:UInt8),(8:UInt8),(8:UInt8),(8:UInt8),(8:UInt8),(8:UInt8),(8:UInt8),(8:UInt8),(8:UInt8),(8:UInt8),(8:UInt8),(8:UInt8),(8:UInt8),(8:UInt8)].append [(8:UInt8),(8:UInt8),(8:UInt8),(8:UInt8),(8:UInt8),(8:UInt8),(8:UInt8),(8:UInt8),(8:UInt8),(8:UInt8),(8:UInt8),(8:UInt8),(8:UInt8),(8:UInt8),(8:UInt8),(8:UInt8),(8:UInt8),(8:UInt8),(8:UInt8),(8:UInt8),(8:UInt8),(8:UInt8),(8:UInt8),(8:UInt8),(8:UInt8),(8:UInt8),(8:UInt8),(8:UInt8),(8:UInt8),(8:UInt8),(8:UInt8),(8:UInt8),(8:UInt8),(8:UInt8),(8:UInt8),(8:UInt8),(8:UInt8),(8:UInt8),(8:UInt8),(8:UInt8),(8:UInt8),(8:UInt8),(8:UInt8),(8:UInt8),(8:UInt8),(8:UInt8),(8:UInt8),(8:UInt8),(8:UInt8),(8:UInt8),(8:UInt8),(8:UInt8),(8:UInt8),(8:UInt8),(8:UInt8),(8:UInt8),(8:UInt8),(8:UInt8),(8:UInt8),(8:UInt8),(8:UInt8),(8:UInt8),(8:UInt8),(8:UInt8)])).toArray).data.toList.getD (u8.wrap (Ev.ishr IntKind.u64 a (8:Int))).toNat (0:UInt8)).toNat:Int))) else none else bif decide (0≤u8.wrap a∧u8.wrap a < (↑(ByteArray.mk (([(0:UInt8),(1:UInt8),(2:UInt8),(2:UInt8),(3:UInt8),(3:UInt8),(3:UInt8),(3:UInt8),(4:UInt8),(4:UInt8),(4:UInt8),(4:UInt8),(4:UInt8),(4:UInt8),(4:UInt8),(4:UInt8),(5:UInt8),(5:UInt8),(5:UInt8),(5:UInt8),(5:UInt8),(5:UInt8),(5:UInt8),(5:UInt8),(5:UInt8),(5:UInt8),(5:UInt8),(5:UInt8),(5:UInt8),(5:UInt8),(5:UInt8),(5:UInt8),(6:UInt8),(6:UInt8),(6:UInt8),(6:UInt8),(6:UInt8),(6:UInt8),(6:UInt8),(6:UInt8),(6:UInt8),(6:UInt8),(6:UInt8),(6:UInt8),(6:UInt8),(6:UInt8),(6:UInt8),(6:UInt8),(6:UInt8),(6:UInt8),(6:UInt8),(6:UInt8),(6:UInt8),(6:UInt8),(6:UInt8),(6:UInt8),(6:UInt8),(6:UInt8),(6:UInt8),(6:UInt8),(6:UInt8),(6:UInt8),(6:UInt8),(6:UInt8)].append [(7:UInt8),(7:UInt8),(7:UInt8),(7:UInt8),(7:UInt8),(7:UInt8),(7:UInt8),(7:UInt8),(7:UInt8),(7:UInt8),(7:UInt8),(7:UInt8),(7:UInt8),(7:UInt8),(7:UInt8),(7:UInt8),(7:UInt8),(7:UInt8),(7:UInt8),(7:UInt8),(7:UInt8),(7:UInt8),(7:UInt8),(7:UInt8),(7:UInt8),(7:UInt8),(7:UInt8),(7:UInt8),(7:UInt8),(7:UInt8),(7:UInt8),(7:UInt8),(7:UInt8),(7:UInt8),(7:UInt8),(7:UInt8),(7:UInt8),(7:UInt8),(7:UInt8),(7:UInt8),(7:UInt8),(7:UInt8),(7:UInt8),(7:UInt8),(7:UInt8),(7:UInt8),(7:UInt8),(7:UInt8),(7:UInt8),(7:UInt8),(7:UInt8),(7:UInt8),(7:UInt8),(7:UInt8),(7:UInt8),(7:UInt8),(7:UInt8),(7:UInt8),(7:UInt8),(7:UInt8),(7:UInt8),(7:UInt8),(7:UInt8),(7:UInt8)]).append ([(8:UInt8),(8:UInt8),(8:UInt8),(8:UInt8),(8:UInt8),(8:UInt8),(8:UInt8),(8:UInt8),(8:UInt8),(8:UInt8),(8:UInt8),(8:UInt8),(8:UInt8),(8:UInt8),(8:UInt8),(8:UInt8),(8:UInt8),(8:UInt8),(8:UInt8),(8:UInt8),(8:UInt8),(8:UInt8),(8:UInt8),(8:UInt8),(8:UInt8),(8:UInt8),(8:UInt8),(8:UInt8),(8:UInt8),(8:UInt8),(8:UInt8),(8:UInt8),(8:UInt8),(8:UInt8),(8:UInt8),(8:UInt8),(8:UInt8),(8:UInt8),(8:UInt8),(8:UInt8),(8:UInt8),(8:UInt8),(8:UInt8),(8:UInt8),(8:UInt8),(8:UInt8),(8:UInt8),(8:UInt8),(8:UInt8),(8:UInt8),(8:UInt8),(8:UInt8),(8:UInt8),(8:UInt8),(8:UInt8),(8:UInt8),(8:UInt8),(8:UInt8),(8:UInt8),(8:UInt8),(8:UInt8),(8:UInt8),(8:UInt8),(8:UInt8)].append [(8:UInt8),(8:UInt8),(8:UInt8),(8:UInt8),(8:UInt8),(8:UInt8),(8:UInt8),(8:UInt8),(8:UInt8),(8:UInt8),(8:UInt8),(8:UInt8),(8:UInt8),(8:UInt8),(8:UInt8),(8:UInt8),(8:UInt8),(8:UInt8),(8:UInt8),(8:UInt8),(8:UInt8),(8:UInt8),(8:UInt8),(8:UInt8),(8:UInt8),(8:UInt8),(8:UInt8),(8:UInt8),(8:UInt8),(8:UInt8),(8:UInt8),(8:UInt8),(8:UInt8),(8:UInt8),(8:UInt8),(8:UInt8),(8:UInt8),(8:UInt8),(8:UInt8),(8:UInt8),(8:UInt8),(8:UInt8),(8:UInt8),(8:UInt8),(8:UInt8),(8:UInt8),(8:UInt8),(8:UInt8),(8:UInt8),(8:UInt8),(8:UInt8),(8:UInt8),(8:UInt8),(8:UInt8),(8:UInt8),(8:UInt8),(8:UInt8),(8:UInt8),(8:UInt8),(8:UInt8),(8:UInt8),(8:UInt8),(8:UInt8),(8:UInt8)])).toArray).size:Int)) then k0 (i64.wrap (0+i64.wrap (↑((ByteArray.mk (([(0:UInt8),(1:UInt8),(2:UInt8),(2:UInt8),(3:UInt8),(3:UInt8),(3:UInt8),(3:UInt8),(4:UInt8),(4:UInt8),(4:UInt8),(4:UInt8),(4:UInt8),(4:UInt8),(4:UInt8),(4:UInt8),(5:UInt8),(5:UInt8),(5:UInt8),(5:UInt8),(5:UInt8),(5:UInt8),(5:UInt8),(5:UInt8),(5:UInt8),(5:UInt8),(5:UInt8),(5:UInt8),(5:UInt8),(5:UInt8),(5:UInt8),(5:UInt8),(6:UInt8),(6:UInt8),(6:UInt8),(6:UInt8),(6:UInt8),(6:UInt8),(6:UInt8),(6:UInt8),(6:UInt8),(6:UInt8),(6:UInt8),(6:UInt8),(6:UInt8),(6:UInt8),(6:UInt8),(6:UInt8),(6:UInt8),(6:UInt8),(6:UInt8),(6:UInt8),(6:UInt8),(6:UInt8),(6:UInt8),(6:UInt8),(6:UInt8),(6:UInt8),(6:UInt8),(6:UInt8),(6:UInt8),(6:UInt8),(6:UInt8),(6:UInt8)].append [(7:UInt8),(7:UInt8),(7:UInt8),(7:UInt8),(7:UInt8),(7:UInt8),(7:UInt8),(7:UInt8),(7:UInt8),(7:UInt8),(7:UInt8),(7:UInt8),(7:UInt8),(7:UInt8),(7:UInt8),(7:UInt8),(7:UInt8),(7:UInt8),(7:UInt8),(7:UInt8),(7:UInt8),(7:UInt8),(7:UInt8),(7:UInt8),(7:UInt8),(7:UInt8),(7:UInt8),(7:UInt8),(7:UInt8),(7:UInt8),(7:UInt8),(7:UInt8),(7:UInt8),(7:UInt8),(7:UInt8),(7:UInt8),(7:UInt8),(7:UInt8),(7:UInt8),(7:UInt8),(7:UInt8),(7:UInt8),(7:UInt8),(7:UInt8),(7:UInt8),(7:UInt8),(7:UInt8),(7:UInt8),(7:UInt8),(7:UInt8),(7:UInt8),(7:UInt8),(7:UInt8),(7:UInt8),(7:UInt8),(7:UInt8),(7:UInt8),(7:UInt8),(7:UInt8),(7:UInt8),(7:UInt8),(7:UInt8),(7:UInt8),(7:UInt8)]).append ([(8:UInt8),(8:UInt8),(8:UInt8),(8:UInt8),(8:UInt8),(8:UInt8),(8:UInt8),(8:UInt8),(8:UInt8),(8:UInt8),(8:UInt8),(8:UInt8),(8:UInt8),(8:UInt8),(8:UInt8),(8:UInt8),(8:UInt8),(8:UInt8),(8:UInt8),(8:UInt8),(8:UInt8),(8:UInt8),(8:UInt8),(8:UInt8),(8:UInt8),(8:UInt8),(8:UInt8),(8:UInt8),(8:UInt8),(8:UInt8),(8:UInt8),(8:UInt8),(8:UInt8),(8:UInt8),(8:UInt8),(8:UInt8),(8:UInt8),(8:UInt8),(8:UInt8),(8:UInt8),(8:UInt8),(8:UInt8),(8:UInt8),(8:UInt8),(8:UInt8),(8:UInt8),(8:UInt8),(8:UInt8),(8:UInt8),(8:UInt8),(8:UInt8),(8:UInt8),(8:UInt8),(8:UInt8),(8:UInt8),(8:UInt8),(8:UInt8),(8:UInt8),(8:UInt8),(8:UInt8),(8:UInt8),(8:UInt8),(8:UInt8),(8:UInt8)].append [(8:UInt8),(8:UInt8),(8:UInt8),(8:UInt8),(8:UInt8),(8:UInt8),(8:UInt8),(8:UInt8),(8:UInt8),(8:UInt8),(8:UInt8),(8:UInt8),(8:UInt8),(8:UInt8),(8:UInt8),(8:UInt8),(8:UInt8),(8:UInt8),(8:UInt8),(8:UInt8),(8:UInt8),(8:UInt8),(8:UInt8),(8:UInt8),(8:UInt8),(8:UInt8),(8:UInt8),(8:UInt8),(8:UInt8),(8:UInt8),(8:UInt8),(8:UInt8),(8:UInt8),(8:UInt8),(8:UInt8),(8:UInt8),(8:UInt8),(8:UInt8),(8:UInt8),(8:UInt8),(8:UInt8),(8:UInt8),(8:UInt8),(8:UInt8),(8:UInt8),(8:UInt8),(8:UInt8),(8:UInt8),(8:UInt8),(8:UInt8),(8:UInt8),(8:UInt8),(8:UInt8),(8:UInt8),(8:UInt8),(8:UInt8),(8:UInt8),(8:UInt8),(8:UInt8),(8:UInt8),(8:UInt8),(8:UInt8),(8:UInt8),(8:UInt8)])).toArray).data.toList.getD (u8.wrap a).toNat (0:UInt8)).toNat:Int))) else none
abbrev jL:Type:=Int→(Int→Option Ans)→Option Ans
theorem FV (fuel:Nat) (a:Int) (k:Ev.Cont):evalFn tab (vJ fuel) J0 Jv fuel Tryz.f162 [.c (.int .u64 a)] [] k=dN fuel a (fun r=>match r with | b=>k (.c (i6 b),[])):=by
  kernel_rfl
theorem Hc (fuel:Nat):GOK Tryz.prog (vJ fuel):=
  gok_nil
def mD (F:jL):Ev.Spec:=fun args objs k=>match args,objs with | [.c (.int .u64 a)],[]=>F a (fun r=>match r with | b=>k (.c (i6 b),[])) | _,_=>none
theorem CJ (fuel:Nat):FnOK Tryz.prog 162 (mD (dN fuel)):=by
  intro args objs kk r h
  unfold mD at h
  split at h
  · skip
    exact fo0 (Hc fuel) Tryz.func162 rfl (by kernel_rfl) _ _ kk r ((FV fuel _ kk).trans h)
  · cases h
def HU (i:Nat):Option (List Nat):=Ev.look i []
def xL (a:jL) (f:Nat):Option Ev.Spec:=Ev.look f [(162,mD a)]
def Ak (fuel:Nat):Nat→Option Ev.Spec:=xL (dN fuel)
def ob (fuel:Nat) (a:jL) (b:Int) (k0:(Int)→OA):OA:=(a b (fun c=>k0 c))
abbrev bw:Type:=Int→(Int→Option Ans)→Option Ans
def bu (fuel:Nat):bw:=ob fuel (dN fuel)
theorem Dv (fuel:Nat) (a:jL) (b:Int) (k:Ev.Cont):evalFn tab (xL a) J0 HU fuel Tryz.f127 [.c (.int .u64 b)] [] k=ob fuel a b (fun r=>match r with | d=>k (.c (i6 d),[])):=by
  kernel_rfl
theorem Ip (fuel:Nat):GOK Tryz.prog (Ak fuel):=
  gc (CJ fuel) Tryz.func162 (by kernel_rfl) rfl <|
  gok_nil
def lM (F:bw):Ev.Spec:=fun args objs k=>match args,objs with | [.c (.int .u64 a)],[]=>F a (fun r=>match r with | b=>k (.c (i6 b),[])) | _,_=>none
theorem vs (fuel:Nat):FnOK Tryz.prog 127 (lM (bu fuel)):=by
  intro args objs kk r h
  unfold lM at h
  split at h
  · skip
    exact fo0 (Ip fuel) Tryz.func127 rfl (by kernel_rfl) _ _ kk r ((Dv fuel (dN fuel) _ kk).trans h)
  · cases h
def HN (i:Nat):Option (List Nat):=Ev.look i []
def uL (a:bw) (f:Nat):Option Ev.Spec:=Ev.look f [(127,lM a)]
def Jo (fuel:Nat):Nat→Option Ev.Spec:=uL (bu fuel)
def xq (fuel:Nat) (b:bw) (a:Int) (k0:(Int)→OA):OA:=bif decide (a < 1) then k0 (0) else (b (u64.wrap (i64.wrap (a - 1))) (fun c=>k0 c))
abbrev ib:Type:=Int→(Int→Option Ans)→Option Ans
def fW (fuel:Nat):ib:=xq fuel (bu fuel)
theorem Du (fuel:Nat) (a:bw) (b:Int) (k:Ev.Cont):evalFn tab (uL a) J0 HN fuel Tryz.f73 [.c (i6 b)] [] k=xq fuel a b (fun r=>match r with | d=>k (.c (i6 d),[])):=by
  kernel_rfl
theorem Aw (fuel:Nat):GOK Tryz.prog (Jo fuel):=
  gc (vs fuel) Tryz.func127 (by kernel_rfl) rfl <|
  gok_nil
def ns (F:ib):Ev.Spec:=fun args objs k=>match args,objs with | [.c (i6 a)],[]=>F a (fun r=>match r with | b=>k (.c (i6 b),[])) | _,_=>none
def tr (fuel:Nat):Ev.Spec:=ns (fW fuel)
theorem yo (fuel:Nat):FnOK Tryz.prog 73 (tr fuel):=by
  intro args objs kk r h
  unfold tr ns at h
  split at h
  · skip
    exact fo0 (Aw fuel) Tryz.func73 rfl (by kernel_rfl) _ _ kk r ((Du fuel (bu fuel) _ kk).trans h)
  · cases h
def vB (i:Nat):Option (List Nat):=Ev.look i [(4,[0,1,2,4]),(100000,[0,1]),(400000,[0])]
def CP (f:Nat):Option Ev.Spec:=Ev.look f []
def sf (fuel:Nat):Nat→Option Ev.Spec:=CP
def fT (fuel:Nat)  (k0:(Unit)→Option Ans):Option Ans:=k0 ()
abbrev lT:Type:=((Unit)→Option Ans)→Option Ans
theorem AV (fuel:Nat)  (k:Ev.Cont):evalFn tab (sf fuel) J0 vB 100 Tryz.f131 [] [] k=fT fuel  (fun r=>match r with | ()=>k (.agg (ctb []),[])):=by
  kernel_rfl
theorem Az (fuel:Nat):GOK Tryz.prog (sf fuel):=
  gok_nil
theorem Fb (fuel:Nat):FnOK Tryz.prog 131 (evalFn tab (sf fuel) J0 vB 100 Tryz.f131):=
  fn_ok tab_ok (Az fuel) mixed Tryz.func131 (c:=(Tryz.f131.body).getD .skip) rfl (fun q hq=>by
    rw [(by kernel_rfl:obl J0 ((Tryz.f131.body).getD .skip)= [])] at hq
    cases hq)
def tc (F:lT):Ev.Spec:=fun args objs k=>match args,objs with | [],[]=>F  (fun r=>match r with | ()=>k (.agg (ctb []),[])) | _,_=>none
theorem Cv (fuel:Nat):FnOK Tryz.prog 131 (tc (fT fuel)):=by
  intro args objs kk r h
  unfold tc at h
  split at h
  · skip
    exact Fb fuel _ _ kk r ((AV fuel kk).trans h)
  · cases h
def Db (i:Nat):Option (List Nat):=Ev.look i []
def u5 (b:ca) (a:lT) (f:Nat):Option Ev.Spec:=Ev.look f [(83,gY b),(131,tc a)]
def BS (fuel:Nat):Nat→Option Ev.Spec:=u5 (bl fuel) (fT fuel)
def oM (fuel:Nat) (d:ca) (a:lT) (e:Int) (f:LI) (k0:(Int×Int×Int×LI)→OA):OA:=(d e f (fun (b,c)=>(a (fun g=>k0 (b,0,4294967295,c)))))
abbrev bZ:Type:=Int→LI→((Int×Int×Int×LI)→Option Ans)→Option Ans
def bI (fuel:Nat):bZ:=oM fuel (bl fuel) (fT fuel)
theorem Cx (fuel:Nat) (b:ca) (a:lT) (c:Int) (d:LI) (k:Ev.Cont):evalFn tab (u5 b a) J0 Db fuel Tryz.f76 [.agg [i6 c,.sl (.int .i64) d]] [] k=oM fuel b a c d (fun r=>match r with | (e,f,g,h)=>k (.agg (i6 e::.own 0::ctb (.int .u64 f::.int .u64 g::[])),[.vec 3 (.int .i64) h true])):=by
  kernel_rfl
theorem Ek (fuel:Nat):GOK Tryz.prog (BS fuel):=
  gc (qH fuel) Tryz.func83 (by kernel_rfl) rfl <|
  gc (Cv fuel) Tryz.func131 (by kernel_rfl) rfl <|
  gok_nil
def ji (F:bZ):Ev.Spec:=fun args objs k=>match args,objs with | [.agg [i6 a,.sl (.int .i64) b]],[]=>F a b (fun r=>match r with | (c,d,e,f)=>k (.agg (i6 c::.own 0::ctb (.int .u64 d::.int .u64 e::[])),[.vec 3 (.int .i64) f true])) | _,_=>none
def uz (fuel:Nat):Ev.Spec:=ji (bI fuel)
theorem tN (fuel:Nat):FnOK Tryz.prog 76 (uz fuel):=by
  intro args objs kk r h
  unfold uz ji at h
  split at h
  · skip
    exact fo0 (Ek fuel) Tryz.func76 rfl (by kernel_rfl) _ _ kk r ((Cx fuel (bl fuel) (fT fuel) _ _ kk).trans h)
  · cases h
def FN (i:Nat):Option (List Nat):=Ev.look i []
def E8 (f:Nat):Option Ev.Spec:=Ev.look f []
def u7 (fuel:Nat):Nat→Option Ev.Spec:=E8
def ey (fuel:Nat) (b a:Int) (k0:(Int×Int×(List Int))→Option Ans):Option Ans:=bif b != 0 then bif b != 1 then k0 (0,2,[]) else bif decide (a < 0) then k0 (0,2,[]) else bif decide (a > 8192) then k0 (0,2,[]) else bif decide (0≤a∧a=a∧(↑(8:Nat):Int)*a≤281474976710656∧a≤281474976710656) then k0 (b,0,List.replicate a.toNat (0:Int)) else none else bif decide (a < 0) then k0 (0,2,[]) else bif decide (a > 8192) then k0 (0,2,[]) else bif decide (0≤a∧a=a∧(↑(8:Nat):Int)*a≤281474976710656∧a≤281474976710656) then k0 (b,0,List.replicate a.toNat (0:Int)) else none
abbrev jC:Type:=Int→Int→((Int×Int×LI)→Option Ans)→Option Ans
theorem BU (fuel:Nat) (a b:Int) (k:Ev.Cont):evalFn tab (u7 fuel) J0 FN fuel Tryz.f77 [.c (i6 a),.c (i6 b)] [] k=ey fuel a b (fun r=>match r with | (d,e,f)=>k (.tup [(true,[i6 d,.own 0]),(false,[i6 e])],[.vec 3 (.int .i64) f true])):=by
  kernel_rfl
theorem Fx (fuel:Nat):GOK Tryz.prog (u7 fuel):=
  gok_nil
def rI (F:jC):Ev.Spec:=fun args objs k=>match args,objs with | [.c (i6 a),.c (i6 b)],[]=>F a b (fun r=>match r with | (d,e,f)=>k (.tup [(true,[i6 d,.own 0]),(false,[i6 e])],[.vec 3 (.int .i64) f true])) | _,_=>none
def qW (fuel:Nat):Ev.Spec:=rI (ey fuel)
theorem xH (fuel:Nat):FnOK Tryz.prog 77 (qW fuel):=by
  intro args objs kk r h
  unfold qW rI at h
  split at h
  · skip
    exact fo0 (Fx fuel) Tryz.func77 rfl (by kernel_rfl) _ _ kk r ((BU fuel _ _ kk).trans h)
  · cases h
def Hr (i:Nat):Option (List Nat):=Ev.look i []
def GN (f:Nat):Option Ev.Spec:=Ev.look f []
def zc (fuel:Nat):Nat→Option Ev.Spec:=GN
def dA (fuel:Nat) (b a c:Int) (d:Bool) (e f:(List Int)) (k0:(Int×Int×Int×Int×Bool×(List Int)×(List Int))→Option Ans):Option Ans:=k0 (u8.wrap (Ev.ishr IntKind.u64 a 24),b,Ev.iand IntKind.u64 (Ev.ishl IntKind.u64 a 8) 4294967295,Ev.ior IntKind.u64 (Ev.iand IntKind.u64 (Ev.ishl IntKind.u64 c 8) 4294967295) 255,d,e,f)
abbrev fx:Type:=Int→Int→Int→Bool→LI→LI→((Int×Int×Int×Int×Bool×LI×LI)→Option Ans)→Option Ans
theorem I2 (fuel:Nat) (a b d:Int) (e:Bool) (f g:LI) (k:Ev.Cont):evalFn tab (zc fuel) J0 Hr fuel Tryz.f168 [.c (.ptr 0 0)] [.cells 138 (i6 a::.own 1::ctb (.int .u64 b::.int .u64 d::.own 2::.bool e::[])),.vec 3 (.int .i64) f false,.vec 5 (.int .u8) g false] k=dA fuel a b d e f g (fun r=>match r with | (h,i,j,l,m,n,o)=>k (.c (.int .u8 h),[.cells 138 (i6 i::.own 1::ctb (.int .u64 j::.int .u64 l::.own 2::.bool m::[])),.vec 3 (.int .i64) n false,.vec 5 (.int .u8) o false])):=by
  kernel_rfl
theorem F2 (fuel:Nat):GOK Tryz.prog (zc fuel):=
  gok_nil
def oO (F:fx):Ev.Spec:=fun args objs k=>match args,objs with | [.c (.ptr b d)],[.cells e a,.vec f (.int .i64) g false,.vec h (.int .u8) i false]=>(match splitRun 2 ctn a with | some ([i6 j,.own l],[.int .u64 m,.int .u64 n,.own o,.bool p])=>bif qb [b,d,e,f,h,l,o] [0,0,138,3,5,1,2] then F j m n p g i (fun r=>match r with | (q,s,t,u,v,w,x)=>k (.c (.int .u8 q),[.cells 138 (i6 s::.own 1::ctb (.int .u64 t::.int .u64 u::.own 2::.bool v::[])),.vec 3 (.int .i64) w false,.vec 5 (.int .u8) x false])) else none | _=>none) | _,_=>none
theorem Fp (fuel:Nat):FnOK Tryz.prog 168 (oO (dA fuel)):=by
  intro args objs kk r h
  unfold oO at h
  split at h
  · skip
    split at h
    rotate_left 1
    · cases h
    rename_i hsp
    have esp:=splitRun_eq hsp
    subst esp
    obtain ⟨hb,h⟩:=cond_some' h
    cases qb_eq hb
    exact fo0 (F2 fuel) Tryz.func168 rfl (by kernel_rfl) _ _ kk r ((I2 fuel _ _ _ _ _ _ kk).trans h)
  · cases h
def zt (i:Nat):Option (List Nat):=Ev.look i []
def DK (f:Nat):Option Ev.Spec:=Ev.look f []
def yS (fuel:Nat):Nat→Option Ev.Spec:=DK
def bG (fuel:Nat) (b a:Int) (k0:(Int)→Option Ans):Option Ans:=bif b==1 then bif decide (i64.wrap (i64.wrap (i64.wrap (2*i64.wrap (a.tdiv 256))+i64.wrap (2*a.tmod 256))+2)=0) then none else k0 (bif decide (4095 < bif decide (1 > i64.wrap ((i64.wrap (i64.wrap (i64.wrap (2*a.tmod 256)+1)*4096)).tdiv (i64.wrap (i64.wrap (i64.wrap (2*i64.wrap (a.tdiv 256))+i64.wrap (2*a.tmod 256))+2)))) then 1 else i64.wrap ((i64.wrap (i64.wrap (i64.wrap (2*a.tmod 256)+1)*4096)).tdiv (i64.wrap (i64.wrap (i64.wrap (2*i64.wrap (a.tdiv 256))+i64.wrap (2*a.tmod 256))+2)))) then 4095 else bif decide (1 > i64.wrap ((i64.wrap (i64.wrap (i64.wrap (2*a.tmod 256)+1)*4096)).tdiv (i64.wrap (i64.wrap (i64.wrap (2*i64.wrap (a.tdiv 256))+i64.wrap (2*a.tmod 256))+2)))) then 1 else i64.wrap ((i64.wrap (i64.wrap (i64.wrap (2*a.tmod 256)+1)*4096)).tdiv (i64.wrap (i64.wrap (i64.wrap (2*i64.wrap (a.tdiv 256))+i64.wrap (2*a.tmod 256))+2)))) else bif decide (a≥32) then bif decide (0≤i64.wrap (a - 32)∧i64.wrap (a - 32) < (↑(32:Nat):Int)) then bif decide (i64.wrap (a - 32)=(↑(0:Nat):Int)) then k0 (i64.wrap ((4096:Int) - (2048:Int))) else bif decide (i64.wrap (a - 32)=(↑(1:Nat):Int)) then k0 (i64.wrap ((4096:Int) - (1792:Int))) else bif decide (i64.wrap (a - 32)=(↑(2:Nat):Int)) then k0 (i64.wrap ((4096:Int) - (1568:Int))) else bif decide (i64.wrap (a - 32)=(↑(3:Nat):Int)) then k0 (i64.wrap ((4096:Int) - (1372:Int))) else bif decide (i64.wrap (a - 32)=(↑(4:Nat):Int)) then k0 (i64.wrap ((4096:Int) - (1201:Int))) else bif decide (i64.wrap (a - 32)=(↑(5:Nat):Int)) then k0 (i64.wrap ((4096:Int) - (1051:Int))) else bif decide (i64.wrap (a - 32)=(↑(6:Nat):Int)) then k0 (i64.wrap ((4096:Int) - (920:Int))) else bif decide (i64.wrap (a - 32)=(↑(7:Nat):Int)) then k0 (i64.wrap ((4096:Int) - (805:Int))) else bif decide (i64.wrap (a - 32)=(↑(8:Nat):Int)) then k0 (i64.wrap ((4096:Int) - (705:Int))) else bif decide (i64.wrap (a - 32)=(↑(9:Nat):Int)) then k0 (i64.wrap ((4096:Int) - (617:Int))) else bif decide (i64.wrap (a - 32)=(↑(10:Nat):Int)) then k0 (i64.wrap ((4096:Int) - (540:Int))) else bif decide (i64.wrap (a - 32)=(↑(11:Nat):Int)) then k0 (i64.wrap ((4096:Int) - (473:Int))) else bif decide (i64.wrap (a - 32)=(↑(12:Nat):Int)) then k0 (i64.wrap ((4096:Int) - (414:Int))) else bif decide (i64.wrap (a - 32)=(↑(13:Nat):Int)) then k0 (i64.wrap ((4096:Int) - (363:Int))) else bif decide (i64.wrap (a - 32)=(↑(14:Nat):Int)) then k0 (i64.wrap ((4096:Int) - (318:Int))) else bif decide (i64.wrap (a - 32)=(↑(15:Nat):Int)) then k0 (i64.wrap ((4096:Int) - (279:Int))) else bif decide (i64.wrap (a - 32)=(↑(16:Nat):Int)) then k0 (i64.wrap ((4096:Int) - (245:Int))) else bif decide (i64.wrap (a - 32)=(↑(17:Nat):Int)) then k0 (i64.wrap ((4096:Int) - (215:Int))) else bif decide (i64.wrap (a - 32)=(↑(18:Nat):Int)) then k0 (i64.wrap ((4096:Int) - (189:Int))) else bif decide (i64.wrap (a - 32)=(↑(19:Nat):Int)) then k0 (i64.wrap ((4096:Int) - (166:Int))) else bif decide (i64.wrap (a - 32)=(↑(20:Nat):Int)) then k0 (i64.wrap ((4096:Int) - (146:Int))) else bif decide (i64.wrap (a - 32)=(↑(21:Nat):Int)) then k0 (i64.wrap ((4096:Int) - (128:Int))) else bif decide (i64.wrap (a - 32)=(↑(22:Nat):Int)) then k0 (i64.wrap ((4096:Int) - (112:Int))) else bif decide (i64.wrap (a - 32)=(↑(23:Nat):Int)) then k0 (i64.wrap ((4096:Int) - (98:Int))) else bif decide (i64.wrap (a - 32)=(↑(24:Nat):Int)) then k0 (i64.wrap ((4096:Int) - (86:Int))) else bif decide (i64.wrap (a - 32)=(↑(25:Nat):Int)) then k0 (i64.wrap ((4096:Int) - (76:Int))) else bif decide (i64.wrap (a - 32)=(↑(26:Nat):Int)) then k0 (i64.wrap ((4096:Int) - (67:Int))) else bif decide (i64.wrap (a - 32)=(↑(27:Nat):Int)) then k0 (i64.wrap ((4096:Int) - (59:Int))) else bif decide (i64.wrap (a - 32)=(↑(28:Nat):Int)) then k0 (i64.wrap ((4096:Int) - (52:Int))) else bif decide (i64.wrap (a - 32)=(↑(29:Nat):Int)) then k0 (i64.wrap ((4096:Int) - (46:Int))) else bif decide (i64.wrap (a - 32)=(↑(30:Nat):Int)) then k0 (i64.wrap ((4096:Int) - (41:Int))) else bif decide (i64.wrap (a - 32)=(↑(31:Nat):Int)) then k0 (i64.wrap ((4096:Int) - (36:Int))) else none else none else bif decide (0≤a∧a < (↑(32:Nat):Int)) then bif decide (a=(↑(0:Nat):Int)) then k0 (2048) else bif decide (a=(↑(1:Nat):Int)) then k0 (1792) else bif decide (a=(↑(2:Nat):Int)) then k0 (1568) else bif decide (a=(↑(3:Nat):Int)) then k0 (1372) else bif decide (a=(↑(4:Nat):Int)) then k0 (1201) else bif decide (a=(↑(5:Nat):Int)) then k0 (1051) else bif decide (a=(↑(6:Nat):Int)) then k0 (920) else bif decide (a=(↑(7:Nat):Int)) then k0 (805) else bif decide (a=(↑(8:Nat):Int)) then k0 (705) else bif decide (a=(↑(9:Nat):Int)) then k0 (617) else bif decide (a=(↑(10:Nat):Int)) then k0 (540) else bif decide (a=(↑(11:Nat):Int)) then k0 (473) else bif decide (a=(↑(12:Nat):Int)) then k0 (414) else bif decide (a=(↑(13:Nat):Int)) then k0 (363) else bif decide (a=(↑(14:Nat):Int)) then k0 (318) else bif decide (a=(↑(15:Nat):Int)) then k0 (279) else bif decide (a=(↑(16:Nat):Int)) then k0 (245) else bif decide (a=(↑(17:Nat):Int)) then k0 (215) else bif decide (a=(↑(18:Nat):Int)) then k0 (189) else bif decide (a=(↑(19:Nat):Int)) then k0 (166) else bif decide (a=(↑(20:Nat):Int)) then k0 (146) else bif decide (a=(↑(21:Nat):Int)) then k0 (128) else bif decide (a=(↑(22:Nat):Int)) then k0 (112) else bif decide (a=(↑(23:Nat):Int)) then k0 (98) else bif decide (a=(↑(24:Nat):Int)) then k0 (86) else bif decide (a=(↑(25:Nat):Int)) then k0 (76) else bif decide (a=(↑(26:Nat):Int)) then k0 (67) else bif decide (a=(↑(27:Nat):Int)) then k0 (59) else bif decide (a=(↑(28:Nat):Int)) then k0 (52) else bif decide (a=(↑(29:Nat):Int)) then k0 (46) else bif decide (a=(↑(30:Nat):Int)) then k0 (41) else bif decide (a=(↑(31:Nat):Int)) then k0 (36) else none else none
abbrev dK:Type:=Int→Int→(Int→Option Ans)→Option Ans
theorem Ji (fuel:Nat) (a b:Int) (k:Ev.Cont):evalFn tab (yS fuel) J0 zt fuel Tryz.f194 [.agg (ctb []),.c (i6 a),.c (i6 b)] [] k=bG fuel a b (fun r=>match r with | d=>k (.c (i6 d),[])):=by
  kernel_rfl
theorem Hl (fuel:Nat):GOK Tryz.prog (yS fuel):=
  gok_nil
def jg (F:dK):Ev.Spec:=fun args objs k=>match args,objs with | [.agg a,.c (i6 b),.c (i6 d)],[]=>(match splitRun 0 ctn a with | some ([],[])=>bif true then F b d (fun r=>match r with | e=>k (.c (i6 e),[])) else none | _=>none) | _,_=>none
theorem xU (fuel:Nat):FnOK Tryz.prog 194 (jg (bG fuel)):=by
  intro args objs kk r h
  unfold jg at h
  split at h
  · skip
    split at h
    rotate_left 1
    · cases h
    rename_i hsp
    have esp:=splitRun_eq hsp
    subst esp
    exact fo0 (Hl fuel) Tryz.func194 rfl (by kernel_rfl) _ _ kk r ((Ji fuel _ _ kk).trans h)
  · cases h
def F5 (i:Nat):Option (List Nat):=Ev.look i [(200001,[0])]
def xQ (a:dK) (f:Nat):Option Ev.Spec:=Ev.look f [(194,jg a)]
def At (fuel:Nat):Nat→Option Ev.Spec:=xQ (bG fuel)
def qi (fuel:Nat) (g:dK) (b e:Int) (a c:Int) (h:Bool) (d i:LI) (k0:(Int×Int×Int×Int×Bool×LI×LI)→OA):OA:=bif decide (0≤b∧b < (↑d.length:Int)) then (g e (d.getD b.toNat 0) (fun f=>k0 (u64.wrap (u64.wrap (a+u64.wrap (u64.wrap ((u64.wrap (c - a)).tdiv 4096)*u64.wrap f))+u64.wrap ((u64.wrap ((u64.wrap (c - a)).tmod 4096*u64.wrap f)).tdiv 4096)),e,a,c,h,d,i))) else none
abbrev eE:Type:=Int→Int→Int→Int→Bool→LI→LI→((Int×Int×Int×Int×Bool×LI×LI)→Option Ans)→Option Ans
def cX (fuel:Nat):eE:=qi fuel (bG fuel)
theorem If (fuel:Nat) (a:dK) (b d:Int) (e f:Int) (g:Bool) (h i:LI) (k:Ev.Cont):evalFn tab (xQ a) J0 F5 fuel Tryz.f166 [.c (.ptr 0 0),.c (i6 b)] [.cells 138 (i6 d::.own 1::ctb (.int .u64 e::.int .u64 f::.own 2::.bool g::[])),.vec 3 (.int .i64) h false,.vec 5 (.int .u8) i false] k=qi fuel a b d e f g h i (fun r=>match r with | (j,l,m,n,o,p,q)=>k (.c (.int .u64 j),[.cells 138 (i6 l::.own 1::ctb (.int .u64 m::.int .u64 n::.own 2::.bool o::[])),.vec 3 (.int .i64) p false,.vec 5 (.int .u8) q false])):=by
  kernel_rfl
theorem DM (fuel:Nat):GOK Tryz.prog (At fuel):=
  gc (xU fuel) Tryz.func194 (by kernel_rfl) rfl <|
  gok_nil
def nb (F:eE):Ev.Spec:=fun args objs k=>match args,objs with | [.c (.ptr b d),.c (i6 e)],[.cells f a,.vec g (.int .i64) h false,.vec i (.int .u8) j false]=>(match splitRun 2 ctn a with | some ([i6 l,.own m],[.int .u64 n,.int .u64 o,.own p,.bool q])=>bif qb [b,d,f,g,i,m,p] [0,0,138,3,5,1,2] then F e l n o q h j (fun r=>match r with | (s,t,u,v,w,x,y)=>k (.c (.int .u64 s),[.cells 138 (i6 t::.own 1::ctb (.int .u64 u::.int .u64 v::.own 2::.bool w::[])),.vec 3 (.int .i64) x false,.vec 5 (.int .u8) y false])) else none | _=>none) | _,_=>none
theorem DQ (fuel:Nat):FnOK Tryz.prog 166 (nb (cX fuel)):=by
  intro args objs kk r h
  unfold nb at h
  split at h
  · skip
    split at h
    rotate_left 1
    · cases h
    rename_i hsp
    have esp:=splitRun_eq hsp
    subst esp
    obtain ⟨hb,h⟩:=cond_some' h
    cases qb_eq hb
    exact fo0 (DM fuel) Tryz.func166 rfl (by kernel_rfl) _ _ kk r ((If fuel (bG fuel) _ _ _ _ _ _ _ kk).trans h)
  · cases h
def JA (i:Nat):Option (List Nat):=Ev.look i [(200001,[0])]
def Gu (f:Nat):Option Ev.Spec:=Ev.look f []
def xr (fuel:Nat):Nat→Option Ev.Spec:=Gu
def cF (fuel:Nat) (c a b:Int) (d:Bool) (e f:(List Int)) (k0:(Bool×Int×Int×Int×Bool×(List Int)×(List Int))→Option Ans):Option Ans:=k0 (Ev.ishr IntKind.u64 a 24==Ev.ishr IntKind.u64 b 24,c,a,b,d,e,f)
abbrev fd:Type:=Int→Int→Int→Bool→LI→LI→((Bool×Int×Int×Int×Bool×LI×LI)→Option Ans)→Option Ans
theorem EI (fuel:Nat) (a b d:Int) (e:Bool) (f g:LI) (k:Ev.Cont):evalFn tab (xr fuel) J0 JA fuel Tryz.f167 [.c (.ptr 0 0)] [.cells 138 (i6 a::.own 1::ctb (.int .u64 b::.int .u64 d::.own 2::.bool e::[])),.vec 3 (.int .i64) f false,.vec 5 (.int .u8) g false] k=cF fuel a b d e f g (fun r=>match r with | (h,i,j,l,m,n,o)=>k (.c (.bool h),[.cells 138 (i6 i::.own 1::ctb (.int .u64 j::.int .u64 l::.own 2::.bool m::[])),.vec 3 (.int .i64) n false,.vec 5 (.int .u8) o false])):=by
  kernel_rfl
theorem IX (fuel:Nat):GOK Tryz.prog (xr fuel):=
  gok_nil
def ms (F:fd):Ev.Spec:=fun args objs k=>match args,objs with | [.c (.ptr b d)],[.cells e a,.vec f (.int .i64) g false,.vec h (.int .u8) i false]=>(match splitRun 2 ctn a with | some ([i6 j,.own l],[.int .u64 m,.int .u64 n,.own o,.bool p])=>bif qb [b,d,e,f,h,l,o] [0,0,138,3,5,1,2] then F j m n p g i (fun r=>match r with | (q,s,t,u,v,w,x)=>k (.c (.bool q),[.cells 138 (i6 s::.own 1::ctb (.int .u64 t::.int .u64 u::.own 2::.bool v::[])),.vec 3 (.int .i64) w false,.vec 5 (.int .u8) x false])) else none | _=>none) | _,_=>none
theorem Iq (fuel:Nat):FnOK Tryz.prog 167 (ms (cF fuel)):=by
  intro args objs kk r h
  unfold ms at h
  split at h
  · skip
    split at h
    rotate_left 1
    · cases h
    rename_i hsp
    have esp:=splitRun_eq hsp
    subst esp
    obtain ⟨hb,h⟩:=cond_some' h
    cases qb_eq hb
    exact fo0 (IX fuel) Tryz.func167 rfl (by kernel_rfl) _ _ kk r ((EI fuel _ _ _ _ _ _ kk).trans h)
  · cases h
def As (i:Nat):Option (List Nat):=Ev.look i []
def II (f:Nat):Option Ev.Spec:=Ev.look f []
def uS (fuel:Nat):Nat→Option Ev.Spec:=II
def cc (fuel:Nat) (c b a:Int) (k0:(Int)→Option Ans):Option Ans:=bif c==1 then bif decide (0≤a∧a < (↑(2:Nat):Int)) then bif decide (a=(↑(0:Nat):Int)) then bif i64.wrap (b.tdiv 256)==255 then bif decide (0≤a∧a < (↑(2:Nat):Int)) then bif decide (a=(↑(0:Nat):Int)) then bif decide (0≤a∧a < (↑(2:Nat):Int)) then bif decide (a=(↑(0:Nat):Int)) then k0 (i64.wrap (i64.wrap (256*i64.wrap (i64.wrap ((i64.wrap (b.tdiv 256)).tdiv 2)+1))+i64.wrap ((b.tmod 256).tdiv 2))) else bif decide (a=(↑(1:Nat):Int)) then k0 (i64.wrap (i64.wrap (256*i64.wrap ((i64.wrap (b.tdiv 256)).tdiv 2))+i64.wrap (i64.wrap ((i64.wrap (b.tdiv 256)).tdiv 2)+1))) else none else none else bif decide (a=(↑(1:Nat):Int)) then bif decide (0≤a∧a < (↑(2:Nat):Int)) then bif decide (a=(↑(0:Nat):Int)) then k0 (i64.wrap (i64.wrap (256*i64.wrap (i64.wrap ((b.tmod 256).tdiv 2)+1))+i64.wrap ((b.tmod 256).tdiv 2))) else bif decide (a=(↑(1:Nat):Int)) then k0 (i64.wrap (i64.wrap (256*i64.wrap ((i64.wrap (b.tdiv 256)).tdiv 2))+i64.wrap (i64.wrap ((b.tmod 256).tdiv 2)+1))) else none else none else none else none else bif decide (0≤a∧a < (↑(2:Nat):Int)) then bif decide (a=(↑(0:Nat):Int)) then bif decide (0≤a∧a < (↑(2:Nat):Int)) then bif decide (a=(↑(0:Nat):Int)) then k0 (i64.wrap (i64.wrap (256*i64.wrap (i64.wrap (b.tdiv 256)+1))+b.tmod 256)) else bif decide (a=(↑(1:Nat):Int)) then k0 (i64.wrap (i64.wrap (256*i64.wrap (b.tdiv 256))+i64.wrap (i64.wrap (b.tdiv 256)+1))) else none else none else bif decide (a=(↑(1:Nat):Int)) then bif decide (0≤a∧a < (↑(2:Nat):Int)) then bif decide (a=(↑(0:Nat):Int)) then k0 (i64.wrap (i64.wrap ((256:Int)*i64.wrap (b.tmod (256:Int)+(1:Int)))+b.tmod (256:Int))) else bif decide (a=(↑(1:Nat):Int)) then k0 (i64.wrap (i64.wrap ((256:Int)*i64.wrap (b.tdiv (256:Int)))+i64.wrap (b.tmod (256:Int)+(1:Int)))) else none else none else none else none else bif decide (a=(↑(1:Nat):Int)) then bif b.tmod (256:Int)==(255:Int) then bif decide (0≤a∧a < (↑(2:Nat):Int)) then bif decide (a=(↑(0:Nat):Int)) then bif decide (0≤a∧a < (↑(2:Nat):Int)) then bif decide (a=(↑(0:Nat):Int)) then k0 (i64.wrap (i64.wrap (256*i64.wrap (i64.wrap ((i64.wrap (b.tdiv 256)).tdiv 2)+1))+i64.wrap ((b.tmod 256).tdiv 2))) else bif decide (a=(↑(1:Nat):Int)) then k0 (i64.wrap (i64.wrap (256*i64.wrap ((i64.wrap (b.tdiv 256)).tdiv 2))+i64.wrap (i64.wrap ((i64.wrap (b.tdiv 256)).tdiv 2)+1))) else none else none else bif decide (a=(↑(1:Nat):Int)) then bif decide (0≤a∧a < (↑(2:Nat):Int)) then bif decide (a=(↑(0:Nat):Int)) then k0 (i64.wrap (i64.wrap (256*i64.wrap (i64.wrap ((b.tmod 256).tdiv 2)+1))+i64.wrap ((b.tmod 256).tdiv 2))) else bif decide (a=(↑(1:Nat):Int)) then k0 (i64.wrap (i64.wrap (256*i64.wrap ((i64.wrap (b.tdiv 256)).tdiv 2))+i64.wrap (i64.wrap ((b.tmod 256).tdiv 2)+1))) else none else none else none else none else bif decide (0≤a∧a < (↑(2:Nat):Int)) then bif decide (a=(↑(0:Nat):Int)) then bif decide (0≤a∧a < (↑(2:Nat):Int)) then bif decide (a=(↑(0:Nat):Int)) then k0 (i64.wrap (i64.wrap (256*i64.wrap (i64.wrap (b.tdiv 256)+1))+b.tmod 256)) else bif decide (a=(↑(1:Nat):Int)) then k0 (i64.wrap (i64.wrap (256*i64.wrap (b.tdiv 256))+i64.wrap (i64.wrap (b.tdiv 256)+1))) else none else none else bif decide (a=(↑(1:Nat):Int)) then bif decide (0≤a∧a < (↑(2:Nat):Int)) then bif decide (a=(↑(0:Nat):Int)) then k0 (i64.wrap (i64.wrap ((256:Int)*i64.wrap (b.tmod (256:Int)+(1:Int)))+b.tmod (256:Int))) else bif decide (a=(↑(1:Nat):Int)) then k0 (i64.wrap (i64.wrap ((256:Int)*i64.wrap (b.tdiv (256:Int)))+i64.wrap (b.tmod (256:Int)+(1:Int)))) else none else none else none else none else none else none else bif a==i64.wrap (b.tdiv 32) then k0 (i64.wrap (i64.wrap ((32:Int)*i64.wrap (b.tdiv (32:Int)))+bif decide ((31:Int) < i64.wrap (b.tmod (32:Int)+(1:Int))) then (31:Int) else i64.wrap (b.tmod (32:Int)+(1:Int)))) else bif b.tmod (32:Int)==(0:Int) then k0 (i64.wrap (i64.wrap (32*a)+b.tmod 32)) else k0 (i64.wrap (i64.wrap (32*i64.wrap (b.tdiv 32))+i64.wrap (b.tmod 32 - i64.wrap (1+i64.wrap ((b.tmod 32).tdiv 4)))))
abbrev eh:Type:=Int→Int→Int→(Int→Option Ans)→Option Ans
theorem zm (fuel:Nat) (a b d:Int) (k:Ev.Cont):evalFn tab (uS fuel) J0 As fuel Tryz.f193 [.c (i6 a),.c (i6 b),.c (i6 d)] [] k=cc fuel a b d (fun r=>match r with | e=>k (.c (i6 e),[])):=by
  kernel_rfl
theorem EW (fuel:Nat):GOK Tryz.prog (uS fuel):=
  gok_nil
def jG (F:eh):Ev.Spec:=fun args objs k=>match args,objs with | [.c (i6 a),.c (i6 b),.c (i6 d)],[]=>F a b d (fun r=>match r with | e=>k (.c (i6 e),[])) | _,_=>none
theorem vL (fuel:Nat):FnOK Tryz.prog 193 (jG (cc fuel)):=by
  intro args objs kk r h
  unfold jG at h
  split at h
  · skip
    exact fo0 (EW fuel) Tryz.func193 rfl (by kernel_rfl) _ _ kk r ((zm fuel _ _ _ kk).trans h)
  · cases h
def DC (i:Nat):Option (List Nat):=Ev.look i [(200003,[0])]
def yW (a:eh) (f:Nat):Option Ev.Spec:=Ev.look f [(193,jG a)]
def Bg (fuel:Nat):Nat→Option Ev.Spec:=yW (cc fuel)
def ul (fuel:Nat) (f:eh) (a d:Int) (g c:Int) (j k:Int) (h:Bool) (b i:LI) (k0:(Int×Int×Int×Bool×LI×LI)→OA):OA:=bif d==1 then bif decide (0≤a∧a < (↑b.length:Int)) then (f c (b.getD a.toNat 0) d (fun e=>bif decide (0≤a∧a < (↑b.length:Int)) then k0 (c,j,g,h,b.set a.toNat e,i) else none)) else none else bif decide (0≤a∧a < (↑b.length:Int)) then (f c (b.getD a.toNat 0) d (fun e=>bif decide (0≤a∧a < (↑b.length:Int)) then k0 (c,u64.wrap (g+1),k,h,b.set a.toNat e,i) else none)) else none
abbrev ei:Type:=Int→Int→Int→Int→Int→Int→Bool→LI→LI→((Int×Int×Int×Bool×LI×LI)→Option Ans)→Option Ans
def dw (fuel:Nat):ei:=ul fuel (cc fuel)
theorem Fm (fuel:Nat) (a:eh) (b d:Int) (e f:Int) (g h:Int) (i:Bool) (j l:LI) (k:Ev.Cont):evalFn tab (yW a) J0 DC fuel Tryz.f165 [.c (.ptr 0 0),.c (i6 b),.c (i6 d),.c (.int .u64 e)] [.cells 138 (i6 f::.own 1::ctb (.int .u64 g::.int .u64 h::.own 2::.bool i::[])),.vec 3 (.int .i64) j false,.vec 5 (.int .u8) l false] k=ul fuel a b d e f g h i j l (fun r=>match r with | (m,n,o,p,q,s)=>k (.tup [],[.cells 138 (i6 m::.own 1::ctb (.int .u64 n::.int .u64 o::.own 2::.bool p::[])),.vec 3 (.int .i64) q false,.vec 5 (.int .u8) s false])):=by
  kernel_rfl
theorem IZ (fuel:Nat):GOK Tryz.prog (Bg fuel):=
  gc (vL fuel) Tryz.func193 (by kernel_rfl) rfl <|
  gok_nil
def oy (F:ei):Ev.Spec:=fun args objs k=>match args,objs with | [.c (.ptr b d),.c (i6 e),.c (i6 f),.c (.int .u64 g)],[.cells h a,.vec i (.int .i64) j false,.vec l (.int .u8) m false]=>(match splitRun 2 ctn a with | some ([i6 n,.own o],[.int .u64 p,.int .u64 q,.own s,.bool t])=>bif qb [b,d,h,i,l,o,s] [0,0,138,3,5,1,2] then F e f g n p q t j m (fun r=>match r with | (u,v,w,x,y,z)=>k (.tup [],[.cells 138 (i6 u::.own 1::ctb (.int .u64 v::.int .u64 w::.own 2::.bool x::[])),.vec 3 (.int .i64) y false,.vec 5 (.int .u8) z false])) else none | _=>none) | _,_=>none
theorem zS (fuel:Nat):FnOK Tryz.prog 165 (oy (dw fuel)):=by
  intro args objs kk r h
  unfold oy at h
  split at h
  · skip
    split at h
    rotate_left 1
    · cases h
    rename_i hsp
    have esp:=splitRun_eq hsp
    subst esp
    obtain ⟨hb,h⟩:=cond_some' h
    cases qb_eq hb
    exact fo0 (IZ fuel) Tryz.func165 rfl (by kernel_rfl) _ _ kk r ((Fm fuel (cc fuel) _ _ _ _ _ _ _ _ _ kk).trans h)
  · cases h
def gQ (i:Nat):Option (List Nat):=Ev.look i [(6,[0,1000002]),(100001,[]),(400001,[6]),(600000,[])]
def nD (e:aP) (a:ei) (b:eE) (c:fd) (d:fx) (f:Nat):Option Ev.Spec:=Ev.look f [(81,iy e),(165,oy a),(166,nb b),(167,ms c),(168,oO d)]
def uU (fuel:Nat):Nat→Option Ev.Spec:=nD (ar fuel) (dw fuel) (cX fuel) (cF fuel) (dA fuel)
abbrev oR:Type:=Int×Int×Int×Bool×LI×LI
abbrev po:Type:=(Int×Int×Int×Bool×LI×LI→OA)
def lb (fuel:Nat) (A:aP) (y:ei) (z:eE) (q:fd) (p:fx) (s t u:Int) (v:Bool) (w x:LI) (c:oR→OA) (B:po):OA:=match B with | b=>(q s t u v w x (fun (r,j,k,l,m,n,o)=>bif r then both ((p j k l m n o (fun (a,e,f,g,h,i,d)=>bif decide ((d.length+ [a].length)*(1:Nat)≤(140737488355328:Nat)∧d.length+ [a].length≤(140737488355328:Nat)) then c (e,f,g,h,i,d++ [a]) else none))) ((p j k l m n o (fun (a,e,f,g,h,i,d)=>both (bif decide ((d.length+ [a].length)*(1:Nat)≤(140737488355328:Nat)∧d.length+ [a].length≤(140737488355328:Nat)) then c (e,f,g,h,i,d++ [a]) else none) (bif decide ((d.length+ [a].length)*(1:Nat)≤(140737488355328:Nat)∧d.length+ [a].length≤(140737488355328:Nat)) then c (e,f,g,h,i,d++ [a]) else none)))) else b (j,k,l,m,n,o)))
def eY (fuel:Nat) (v:Int×Int×Int×Bool×(List Int)×(List Int)) (c:(Int×Int×Int×Bool×(List Int)×(List Int))→Option Ans) (B:(Int×Int×Int×Bool×(List Int)×(List Int)→Option Ans)):Option Ans:=match v with | (a,b,d,e,f,g)=>lb fuel (ar fuel) (dw fuel) (cX fuel) (cF fuel) (dA fuel) a b d e f g c B
def kw (fuel:Nat) (v:oR) (b:po):Option Ans:=iter (eY fuel) fuel v b
def lZ (v:oR):Ev.St:=match v with | (a,b,d,e,f,g)=>⟨[(0,.c (.ptr 0 0))],[(0,.cells 138 (i6 a::.own 1::ctb (.int .u64 b::.int .u64 d::.own 2::.bool e::[]))),(1,.vec 3 (.int .i64) f false),(2,.vec 5 (.int .u8) g true)],3,3⟩
def nF (K:KT):po:=(fun v=>match v with | (a,b,c,d,e,f)=>K .normal ⟨[],[(0,.cells 138 (i6 a::.own 1::ctb (.int .u64 b::.int .u64 c::.own 2::.bool d::[]))),(1,.vec 3 (.int .i64) e false),(2,.vec 5 (.int .u8) f true)],3,3⟩)
theorem ER (fuel:Nat) (e:aP) (a:ei) (b:eE) (c:fd) (d:fx) (R:Ev.St→OA) (K:KT) (f g h:Int) (i:Bool) (j k:LI):evalCode tab (nD e a b c d) J0 gQ fuel (bodyOf 1 Tryz.f132) (lZ (f,g,h,i,j,k)) (lc gQ 6 1 R K)=lb fuel e a b c d f g h i j k (fun v=>R (lZ v)) (nF K):=by
  kernel_rfl
def lP (fuel:Nat):Ev.Blk:=fun st K=>match canonO (gQ 6) st with | some s=>(match s with | ⟨[(f,.c (.ptr g h))],[(i,.cells j a),(k,.vec l (.int .i64) m false),(n,.vec o (.int .u8) p true)],q,b⟩=>(match splitRun 2 ctn a with | some ([i6 r,.own d],[.int .u64 t,.int .u64 u,.own e,.bool v])=>bif qb [f,g,h,i,j,k,l,n,o,q,b,d,e] [0,0,0,0,138,1,3,2,5,3,3,1,2] then iter (eY fuel) fuel (r,t,u,v,m,p) (nF K) else none | _=>none) | _=>none) | none=>none
theorem ID (fuel:Nat) (st:Ev.St) (K:KT) (r:Ans) (h:lP fuel st K=some r):evalCode tab (uU fuel) J0 gQ fuel (.block 1 (.loop (bodyOf 1 Tryz.f132))) st K=some r:=by
  unfold lP at h
  split at h
  · rename_i s hs
    split at h
    · skip
      split at h
      rotate_left 1
      · cases h
      rename_i hsp
      have esp:=splitRun_eq hsp
      subst esp
      obtain ⟨hb,h⟩:=cond_some' h
      cases qb_eq hb
      exact blk_loop (S:=lZ) (ks:=nF) (step:=eY fuel) (v:=(_,_,_,_,_,_)) (by kernel_rfl) (by kernel_rfl) (fun R K v=>by obtain ⟨a,b,c,d,e,f⟩:=v; exact ER fuel (ar fuel) (dw fuel) (cX fuel) (cF fuel) (dA fuel) R K a b c d e f) hs h
    · cases h
  · cases h
def zz (fuel:Nat) (i:Nat):Option Ev.Blk:=Ev.look i [(100001,lP fuel)]
def ij (fuel:Nat) (q:aP) (o:ei) (p:eE) (Y:fd) (a0:fx) (g h:Int) (S T U:Int) (V:Bool) (W X:LI) (k0:(Int×Int×Int×Int×Bool×LI×LI)→OA) (k1:(Int×Int×Int×Int×Bool×LI×LI)→OA):OA:=(q S T U V W X (fun (R,b,c,d,e,a,f)=>bif R then k0 (7,b,c,d,e,a,f) else bif decide (g < 0) then k0 (2,b,c,d,e,a,f) else bif decide (g≥(↑a.length:Int)) then k0 (2,b,c,d,e,a,f) else bif h != 0 then bif h != 1 then k0 (2,b,c,d,e,a,f) else (p g b c d e a f (fun (r,s,t,u,v,w,x)=>(o g h r s t u v w x (fun (y,z,A,B,C,D)=>(kw fuel (y,z,A,B,C,D) (fun (i,j,k,l,m,n)=>k1 (0,i,j,k,l,m,n))))))) else (p g b c d e a f (fun (E,F,G,H,I,J,K)=>(o g h E F G H I J K (fun (L,M,N,O,P,Q)=>(kw fuel (L,M,N,O,P,Q) (fun (i,j,k,l,m,n)=>k1 (0,i,j,k,l,m,n)))))))))
abbrev ag:Type:=Int→Int→Int→Int→Int→Bool→LI→LI→((Int×Int×Int×Int×Bool×LI×LI)→Option Ans)→((Int×Int×Int×Int×Bool×LI×LI)→Option Ans)→Option Ans
def ab (fuel:Nat):ag:=ij fuel (ar fuel) (dw fuel) (cX fuel) (cF fuel) (dA fuel)
theorem AS (fuel:Nat) (n:aP) (i:ei) (j:eE) (l:fd) (m:fx) (o p:Int) (q s t:Int) (u:Bool) (v w:LI) (k:Ev.Cont):evalFn tab (nD n i j l m) (zz fuel) gQ fuel Tryz.f132 [.c (.ptr 0 0),.c (i6 o),.c (i6 p)] [.cells 138 (i6 q::.own 1::ctb (.int .u64 s::.int .u64 t::.own 2::.bool u::[])),.vec 3 (.int .i64) v false,.vec 5 (.int .u8) w false] k=ij fuel n i j l m o p q s t u v w (fun r=>match r with | (a,b,d,e,f,g,h)=>k (.c (i6 a),[.cells 138 (i6 b::.own 1::ctb (.int .u64 d::.int .u64 e::.own 2::.bool f::[])),.vec 3 (.int .i64) g false,.vec 5 (.int .u8) h false])) (fun r=>match r with | (a,b,d,e,f,g,h)=>k (.c (i6 a),[.cells 138 (i6 b::.own 1::ctb (.int .u64 d::.int .u64 e::.own 2::.bool f::[])),.vec 3 (.int .i64) g false,.vec 5 (.int .u8) h true])):=by
  kernel_rfl
theorem xn (fuel:Nat):GOK Tryz.prog (uU fuel):=
  gc (sZ fuel) Tryz.func81 (by kernel_rfl) rfl <|
  gc (zS fuel) Tryz.func165 (by kernel_rfl) rfl <|
  gc (DQ fuel) Tryz.func166 (by kernel_rfl) rfl <|
  gc (Iq fuel) Tryz.func167 (by kernel_rfl) rfl <|
  gc (Fp fuel) Tryz.func168 (by kernel_rfl) rfl <|
  gok_nil
theorem Iy (fuel:Nat):BlkOK Tryz.prog Tryz.f132.ntmps (.block 1 (.loop (bodyOf 1 Tryz.f132))) (lP fuel):=bo0 (xn fuel) (by kernel_rfl) (by kernel_rfl) (ID fuel)
def cS (F:ag):Ev.Spec:=fun args objs k=>match args,objs with | [.c (.ptr j l),.c (i6 m),.c (i6 n)],[.cells o i,.vec p (.int .i64) q false,.vec s (.int .u8) t false]=>(match splitRun 2 ctn i with | some ([i6 u,.own v],[.int .u64 w,.int .u64 x,.own y,.bool z])=>bif qb [j,l,o,p,s,v,y] [0,0,138,3,5,1,2] then F m n u w x z q t (fun r=>match r with | (a,b,d,e,f,g,h)=>k (.c (i6 a),[.cells 138 (i6 b::.own 1::ctb (.int .u64 d::.int .u64 e::.own 2::.bool f::[])),.vec 3 (.int .i64) g false,.vec 5 (.int .u8) h false])) (fun r=>match r with | (a,b,d,e,f,g,h)=>k (.c (i6 a),[.cells 138 (i6 b::.own 1::ctb (.int .u64 d::.int .u64 e::.own 2::.bool f::[])),.vec 3 (.int .i64) g false,.vec 5 (.int .u8) h true])) else none | _=>none) | _,_=>none
def qJ (fuel:Nat):Ev.Spec:=cS (ab fuel)
theorem di (fuel:Nat):FnOK Tryz.prog 132 (qJ fuel):=by
  intro args objs kk r h
  unfold qJ cS at h
  split at h
  · skip
    split at h
    rotate_left 1
    · cases h
    rename_i hsp
    have esp:=splitRun_eq hsp
    subst esp
    obtain ⟨hb,h⟩:=cond_some' h
    cases qb_eq hb
    exact fo1 (xn fuel) Tryz.func132 rfl (Iy fuel) (by kernel_rfl) _ _ kk r ((AS fuel (ar fuel) (dw fuel) (cX fuel) (cF fuel) (dA fuel) _ _ _ _ _ _ _ _ kk).trans h)
  · cases h
def J1 (i:Nat):Option (List Nat):=Ev.look i []
def D3 (f:Nat):Option Ev.Spec:=Ev.look f []
def vp (fuel:Nat):Nat→Option Ev.Spec:=D3
def dD (fuel:Nat) (b:Bool) (a:Int) (k0:(Bool)→Option Ans):Option Ans:=bif b then k0 (a==0) else bif decide (a≥(-1048576:Int)) then k0 (decide (a≤1048576)) else k0 false
abbrev rx:Type:=Bool→Int→(Bool→Option Ans)→Option Ans
theorem IK (fuel:Nat) (a:Bool) (b:Int) (k:Ev.Cont):evalFn tab (vp fuel) J0 J1 fuel Tryz.f137 [.agg [.bool a,i6 b]] [] k=dD fuel a b (fun r=>match r with | d=>k (.c (.bool d),[])):=by
  kernel_rfl
theorem BK (fuel:Nat):GOK Tryz.prog (vp fuel):=
  gok_nil
def rT (F:rx):Ev.Spec:=fun args objs k=>match args,objs with | [.agg [.bool a,i6 b]],[]=>F a b (fun r=>match r with | d=>k (.c (.bool d),[])) | _,_=>none
theorem AQ (fuel:Nat):FnOK Tryz.prog 137 (rT (dD fuel)):=by
  intro args objs kk r h
  unfold rT at h
  split at h
  · skip
    exact fo0 (BK fuel) Tryz.func137 rfl (by kernel_rfl) _ _ kk r ((IK fuel _ _ kk).trans h)
  · cases h
end
end Go.Proofs.YtohnjbmiaegofaaGreat

