/- What the functions that SymbolGoes reaches do: their typed texts, each with the proof that the machine does it. No condition. -/
import Derived.Test.YtohnjbmiaegofaaGreatEvX
import Derived.Test.YtohnjbmiaegofaaGreatFsSymbolGoes7
import Derived.Test.YtohnjbmiaegofaaGreatFsSymbolGoes3
import Derived.Test.YtohnjbmiaegofaaGreatFsSymbolGoes5
import Derived.Test.YtohnjbmiaegofaaGreatFsSymbolGoes1
set_option linter.unusedVariables false
set_option linter.unusedSimpArgs false
set_option linter.unusedSectionVars false
set_option linter.unusedVariables false
set_option linter.unusedSimpArgs false
set_option maxRecDepth 100000
set_option maxHeartbeats 2000000
namespace Go.Proofs.YtohnjbmiaegofaaGreat
open Go Ev Tryz
open Go.IntKind (i64 u64 u8 i32 u32 u16)
noncomputable section
def Es (i:Nat):Option (List Nat):=Ev.look i [(200001,[2]),(200002,[2]),(200003,[2])]
def M1 (f:Nat):Option Ev.Spec:=Ev.look f []
def zh (Z:Nat):Nat→Option Ev.Spec:=M1
def an (Z:Nat) (b c:Int) (a:(List BM)) (k0:(Int×(List BM))→OA):OA:=bif decide (0≤b∧b < (↑a.length:Int)) then bif decide (0≤c∧c < (↑a.length:Int)) then bif (a.getD b.toNat (0,0,[])).snd.fst != (a.getD c.toNat (0,0,[])).snd.fst then bif decide (0≤b∧b < (↑a.length:Int)) then bif decide (0≤c∧c < (↑a.length:Int)) then k0 (i64.wrap ((a.getD b.toNat (0,0,[])).snd.fst - (a.getD c.toNat (0,0,[])).snd.fst),a) else none else none else bif decide (0≤b∧b < (↑a.length:Int)) then bif decide (0≤c∧c < (↑a.length:Int)) then k0 (i64.wrap ((a.getD b.toNat (0,0,[])).fst - (a.getD c.toNat (0,0,[])).fst),a) else none else none else none else none
abbrev bz:Type:=Int→Int→((List BM))→((Int×(List BM))→OA)→OA
theorem Oy (Z:Nat) (a b:Int) (d:(List BM)) (k:Ev.Cont):evalFn tab (zh Z) J0 Es Z Tryz.f47 [.c (i6 a),.c (i6 b),.c (.ptr 0 0)] [.cells 34 [.sl tq d]] k=an Z a b d (fun r=>match r with | (e,f)=>k (.c (i6 e),[.cells 34 [.sl tq f]])):=by
 kernel_rfl
theorem Hg (Z:Nat):GOK prog (zh Z):=
 gok_nil
def nE (F:bz):Ev.Spec:=fun args objs k=>match args,objs with | [.c (i6 a),.c (i6 b),.c (.ptr d e)],[.cells f [.sl tq g]]=>bif qb [d,e,f] [0,0,34] then F a b g (fun r=>match r with | (h,i)=>k (.c (i6 h),[.cells 34 [.sl tq i]])) else none | _,_=>none
theorem zu (Z:Nat):FnOK prog 47 (nE (an Z)):=by
 intro args objs kk r h
 unfold nE at h
 split at h
 ·skip
  obtain ⟨hb,h⟩:=cond_some' h
  cases qb_eq hb
  exact fo0 (Hg Z) func47 rfl kr _ _ kk r ((Oy Z _ _ _ kk).trans h)
 ·cases h
def cI (i:Nat):Option (List Nat):=Ev.look i [(1,[0,1,2,3,8]),(4,[0,1,2,3,8,9]),(100000,[]),(100002,[0,1,2,3,8]),(200004,[0]),(400000,[]),(400002,[])]
def ot (a:bz) (f:Nat):Option Ev.Spec:=Ev.look f [(47,nE a)]
def wS (Z:Nat):Nat→Option Ev.Spec:=ot (an Z)
abbrev rv:Type:=Int×Int×Int×Int×LI×(List BM)
abbrev sM:Type:=(Int×Int×Int×LI×(List BM)→OA)
def nH (Z:Nat) (k:bz) (e g:Int) (h a:Int) (d:LI) (j:(List BM)) (c:rv→OA) (B:sM):OA:=match B with | b=>bif decide (a > e) then bif decide (0≤a∧a < (↑d.length:Int)) then bif decide (0≤i64.wrap (a - 1)∧i64.wrap (a - 1) < (↑d.length:Int)) then both ((k (d.getD a.toNat 0) (d.getD (i64.wrap (a - 1)).toNat 0) j (fun (i,f)=>bif decide (i < 0) then bif decide (0≤i64.wrap (a - 1)∧i64.wrap (a - 1) < (↑d.length:Int)) then bif decide (0≤a∧a < (↑d.length:Int)) then both (bif decide (0≤a∧a < (↑d.length:Int)) then bif decide (0≤i64.wrap (a - 1)∧i64.wrap (a - 1) < (↑(d.set a.toNat (d.getD (i64.wrap (a - 1)).toNat 0)).length:Int)) then c (e,g,h,i64.wrap (a - 1),(d.set a.toNat (d.getD (i64.wrap (a - 1)).toNat 0)).set (i64.wrap (a - 1)).toNat (d.getD a.toNat 0),f) else none else none) (bif decide (0≤a∧a < (↑d.length:Int)) then bif decide (0≤i64.wrap (a - 1)∧i64.wrap (a - 1) < (↑(d.set a.toNat (d.getD (i64.wrap (a - 1)).toNat 0)).length:Int)) then c (e,g,h,i64.wrap (a - 1),(d.set a.toNat (d.getD (i64.wrap (a - 1)).toNat 0)).set (i64.wrap (a - 1)).toNat (d.getD a.toNat 0),f) else none else none) else none else none else b (e,g,h,d,f)))) ((k (d.getD a.toNat 0) (d.getD (i64.wrap (a - 1)).toNat 0) j (fun (i,f)=>bif decide (i < 0) then bif decide (0≤i64.wrap (a - 1)∧i64.wrap (a - 1) < (↑d.length:Int)) then bif decide (0≤a∧a < (↑d.length:Int)) then both (bif decide (0≤a∧a < (↑d.length:Int)) then bif decide (0≤i64.wrap (a - 1)∧i64.wrap (a - 1) < (↑(d.set a.toNat (d.getD (i64.wrap (a - 1)).toNat 0)).length:Int)) then c (e,g,h,i64.wrap (a - 1),(d.set a.toNat (d.getD (i64.wrap (a - 1)).toNat 0)).set (i64.wrap (a - 1)).toNat (d.getD a.toNat 0),f) else none else none) (bif decide (0≤a∧a < (↑d.length:Int)) then bif decide (0≤i64.wrap (a - 1)∧i64.wrap (a - 1) < (↑(d.set a.toNat (d.getD (i64.wrap (a - 1)).toNat 0)).length:Int)) then c (e,g,h,i64.wrap (a - 1),(d.set a.toNat (d.getD (i64.wrap (a - 1)).toNat 0)).set (i64.wrap (a - 1)).toNat (d.getD a.toNat 0),f) else none else none) else none else none else b (e,g,h,d,f)))) else none else none else b (e,g,h,d,j)
def f6 (Z:Nat) (v:Int×Int×Int×Int×LI×(List BM)) (c:(Int×Int×Int×Int×LI×(List BM))→OA) (B:(Int×Int×Int×LI×(List BM)→OA)):OA:=match v with | (a,b,d,e,f,g)=>nH Z (an Z) a b d e f g c B
def AN (Z:Nat) (v:rv) (b:sM):OA:=iter (f6 Z) Z v b
def ub (v:rv):Ev.St:=match v with | (a,b,d,e,f,g)=>⟨[(0,.c (.own 0)),(1,.c (i6 a)),(2,.c (i6 b)),(3,.c (.clo 47 [1])),(8,.c (i6 d)),(9,.c (i6 e))],[(0,.vec 3 ti f false),(1,.cells 34 [.sl tq g])],2,2⟩
def xg (K:KT):sM:=(fun v=>match v with | (a,b,d,e,f)=>K .normal ⟨[(0,.c (.own 0)),(1,.c (i6 a)),(2,.c (i6 b)),(3,.c (.clo 47 [1])),(8,.c (i6 d))],[(0,.vec 3 ti e false),(1,.cells 34 [.sl tq f])],2,2⟩)
theorem IR (Z:Nat) (a:bz) (R:Ev.St→OA) (K:KT) (b c:Int) (d e:Int) (f:LI) (g:(List BM)):evalCode tab (ot a) J0 cI Z (bodyOf 2 Tryz.f148) (ub (b,c,d,e,f,g)) (lc cI 4 2 R K)=nH Z a b c d e f g (fun v=>R (ub v)) (xg K):=by
 kernel_rfl
def hP (Z:Nat):Ev.Blk:=fun st K=>match canonO (cI 4) st with | some s=>(match s with | ⟨[(g,.c (.own h)),(i,.c (i6 j)),(k,.c (i6 l)),(m,.c (.clo n [o])),(p,.c (i6 q)),(r,.c (i6 t))],[(u,.vec a ti v false),(b,.cells d [.sl tq w])],e,f⟩=>bif qb [g,h,i,k,m,n,o,p,r,u,a,b,d,e,f] [0,0,1,2,3,47,1,8,9,0,3,1,34,2,2] then iter (f6 Z) Z (j,l,q,t,v,w) (xg K) else none | _=>none) | none=>none
theorem Hp (Z:Nat) (st:Ev.St) (K:KT) (r:Ans) (h:hP Z st K=some r):evalCode tab (wS Z) J0 cI Z (.block 2 (.loop (bodyOf 2 Tryz.f148))) st K=some r:=by
 unfold hP at h
 split at h
 ·rename_i s hs
  split at h
  ·skip
   obtain ⟨hb,h⟩:=cond_some' h
   cases qb_eq hb
   exact blk_loop (S:=ub) (ks:=xg) (step:=f6 Z) (v:=(_,_,_,_,_,_)) kr kr (fun R K v=>by obtain ⟨a,b,c,d,e,f⟩:=v; exact IR Z (an Z) R K a b c d e f) hs h
  ·cases h
 ·cases h
abbrev pu:Type:=Int×Int×Int×LI×(List BM)
abbrev vx:Type:=(LI×(List BM)→OA)
def kl (Z:Nat) (m:bz) (l d a:Int) (e:LI) (f:(List BM)) (c:pu→OA) (B:vx):OA:=match B with | b=>bif decide (a < d) then (AN Z (l,d,a,a,e,f) (fun (g,h,i,j,k)=>c (g,h,i64.wrap (i+1),j,k))) else b (e,f)
def ff (Z:Nat) (v:Int×Int×Int×LI×(List BM)) (c:(Int×Int×Int×LI×(List BM))→OA) (B:(LI×(List BM)→OA)):OA:=match v with | (a,b,d,e,f)=>kl Z (an Z) a b d e f c B
def CA (Z:Nat) (v:pu) (b:vx):OA:=iter (ff Z) Z v b
def op (Z:Nat) (i:Nat):Option Ev.Blk:=Ev.look i [(100002,hP Z)]
def xC (v:pu):Ev.St:=match v with | (a,b,d,e,f)=>⟨[(0,.c (.own 0)),(1,.c (i6 a)),(2,.c (i6 b)),(3,.c (.clo 47 [1])),(8,.c (i6 d))],[(0,.vec 3 ti e false),(1,.cells 34 [.sl tq f])],2,2⟩
def uC (K:KT):vx:=(fun v=>match v with | (a,b)=>K .normal ⟨[],[(0,.vec 3 ti a false),(1,.cells 34 [.sl tq b])],2,2⟩)
theorem Qe (Z:Nat) (a:bz) (R:Ev.St→OA) (K:KT) (b c d:Int) (e:LI) (f:(List BM)):evalCode tab (ot a) (op Z) cI Z (bodyOf 0 Tryz.f148) (xC (b,c,d,e,f)) (lc cI 1 0 R K)=kl Z a b c d e f (fun v=>R (xC v)) (uC K):=by
 kernel_rfl
def ni (Z:Nat):Ev.Blk:=fun st K=>match canonO (cI 1) st with | some s=>(match s with | ⟨[(f,.c (.own g)),(h,.c (i6 i)),(j,.c (i6 k)),(l,.c (.clo m [n])),(o,.c (i6 p))],[(q,.vec r ti t false),(a,.cells b [.sl tq u])],d,e⟩=>bif qb [f,g,h,j,l,m,n,o,q,r,a,b,d,e] [0,0,1,2,3,47,1,8,0,3,1,34,2,2] then iter (ff Z) Z (i,k,p,t,u) (uC K) else none | _=>none) | none=>none
theorem I5 (Z:Nat) (st:Ev.St) (K:KT) (r:Ans) (h:ni Z st K=some r):evalCode tab (wS Z) (op Z) cI Z (.block 0 (.loop (bodyOf 0 Tryz.f148))) st K=some r:=by
 unfold ni at h
 split at h
 ·rename_i s hs
  split at h
  ·skip
   obtain ⟨hb,h⟩:=cond_some' h
   cases qb_eq hb
   exact blk_loop (S:=xC) (ks:=uC) (step:=ff Z) (v:=(_,_,_,_,_)) kr kr (fun R K v=>by obtain ⟨a,b,c,d,e⟩:=v; exact Qe Z (an Z) R K a b c d e) hs h
  ·cases h
 ·cases h
def Pp (Z:Nat) (i:Nat):Option Ev.Blk:=Ev.look i [(100002,hP Z),(100000,ni Z)]
def xS (Z:Nat) (g:bz) (a d:Int) (e:LI) (f:(List BM)) (k0:(LI×(List BM))→OA):OA:=(CA Z (a,d,i64.wrap (a+1),e,f) (fun (b,c)=>k0 (b,c)))
abbrev ci:Type:=Int→Int→LI→((List BM))→((LI×(List BM))→OA)→OA
def bV (Z:Nat):ci:=xS Z (an Z)
theorem Im (Z:Nat) (a:bz) (b d:Int) (e:LI) (f:(List BM)) (k:Ev.Cont):evalFn tab (ot a) (Pp Z) cI Z Tryz.f148 [.c (.own 0),.c (i6 b),.c (i6 d),.c (.clo 47 [1])] [.vec 3 ti e false,.cells 34 [.sl tq f]] k=xS Z a b d e f (fun r=>match r with | (g,h)=>k (.tup [],[.vec 3 ti g false,.cells 34 [.sl tq h]])):=by
 kernel_rfl
theorem sH (Z:Nat):GOK prog (wS Z):=
 gc (zu Z) func47 kr rfl <|
 gok_nil
theorem L4 (Z:Nat):BlkOK prog Tryz.f148.ntmps (.block 2 (.loop (bodyOf 2 Tryz.f148))) (hP Z):=bo0 (sH Z) kr kr (Hp Z)
theorem Lm (Z:Nat):BlkOK prog Tryz.f148.ntmps (.block 0 (.loop (bodyOf 0 Tryz.f148))) (ni Z):=
 blk_of (blk_of_code tab_ok (sH Z) mixed (J:=op Z) (kp:=cI) (fuel:=Z) kr (fun q hq=>by
  rw [(by kernel_rfl:obl (op Z) (.block 0 (.loop (bodyOf 0 Tryz.f148)))= [(.block 2 (.loop (bodyOf 2 Tryz.f148)),hP Z)])] at hq
  simp only [List.mem_cons,List.not_mem_nil,or_false] at hq
  subst hq
  ·exact L4 Z)) (I5 Z)
def xH (F:ci):Ev.Spec:=fun args objs k=>match args,objs with | [.c (.own a),.c (i6 b),.c (i6 d),.c (.clo e [f])],[.vec g ti h false,.cells i [.sl tq j]]=>bif qb [a,e,f,g,i] [0,47,1,3,34] then F b d h j (fun r=>match r with | (l,m)=>k (.tup [],[.vec 3 ti l false,.cells 34 [.sl tq m]])) else none | _,_=>none
theorem Ph (Z:Nat):FnOK prog 148 (xH (bV Z)):=by
 intro args objs kk r h
 unfold xH at h
 split at h
 ·skip
  obtain ⟨hb,h⟩:=cond_some' h
  cases qb_eq hb
  exact fo1 (sH Z) func148 rfl (Lm Z) kr _ _ kk r ((Im Z (an Z) _ _ _ _ kk).trans h)
 ·cases h
def jk (i:Nat):Option (List Nat):=Ev.look i [(1,[0,1,2,3,10]),(100000,[]),(400000,[])]
def Jz (f:Nat):Option Ev.Spec:=Ev.look f []
def mA (Z:Nat):Nat→Option Ev.Spec:=Jz
abbrev At:Type:=Int×Int×Int×Int×LI×(List BM)
abbrev zC:Type:=(LI×(List BM)→OA)
def fQ (Z:Nat) (v:Int×Int×Int×Int×LI×(List BM)) (c:(Int×Int×Int×Int×LI×(List BM))→OA) (B:(LI×(List BM)→OA)):OA:=match v,B with | (e,f,g,a,d,h),b=>bif decide (a < g) then bif decide ((0:Int)≤i64.wrap (f+a)∧i64.wrap (f+a) < (↑d.length:Int)) then bif decide ((0:Int)≤i64.wrap (e+a)∧i64.wrap (e+a) < (↑d.length:Int)) then both (bif decide ((0:Int)≤i64.wrap (e+a)∧i64.wrap (e+a) < (↑d.length:Int)) then bif decide ((0:Int)≤i64.wrap (f+a)∧i64.wrap (f+a) < (↑(d.set (i64.wrap (e+a)).toNat (d.getD (i64.wrap (f+a)).toNat (0:Int))).length:Int)) then c (e,f,g,i64.wrap (a+(1:Int)),(d.set (i64.wrap (e+a)).toNat (d.getD (i64.wrap (f+a)).toNat (0:Int))).set (i64.wrap (f+a)).toNat (d.getD (i64.wrap (e+a)).toNat (0:Int)),h) else none else none) (bif decide ((0:Int)≤i64.wrap (e+a)∧i64.wrap (e+a) < (↑d.length:Int)) then bif decide ((0:Int)≤i64.wrap (f+a)∧i64.wrap (f+a) < (↑(d.set (i64.wrap (e+a)).toNat (d.getD (i64.wrap (f+a)).toNat (0:Int))).length:Int)) then c (e,f,g,i64.wrap (a+(1:Int)),(d.set (i64.wrap (e+a)).toNat (d.getD (i64.wrap (f+a)).toNat (0:Int))).set (i64.wrap (f+a)).toNat (d.getD (i64.wrap (e+a)).toNat (0:Int)),h) else none else none) else none else none else b (d,h)
def Ej (Z:Nat) (v:At) (b:zC):OA:=iter (fQ Z) Z v b
def rt (v:At):Ev.St:=match v with | (a,b,d,e,f,g)=>⟨[(0,.c (.own 0)),(1,.c (i6 a)),(2,.c (i6 b)),(3,.c (i6 d)),(10,.c (i6 e))],[(0,.vec 3 ti f false),(1,.cells 34 [.sl tq g])],2,2⟩
def tn (K:KT):zC:=(fun v=>match v with | (a,b)=>K .normal ⟨[],[(0,.vec 3 ti a false),(1,.cells 34 [.sl tq b])],2,2⟩)
theorem LZ (Z:Nat) (R:Ev.St→OA) (K:KT) (a b:Int) (c d:Int) (e:LI) (f:(List BM)):evalCode tab (mA Z) J0 jk Z (bodyOf 0 Tryz.f201) (rt (a,b,c,d,e,f)) (lc jk 1 0 R K)=fQ Z (a,b,c,d,e,f) (fun v=>R (rt v)) (tn K):=by
 kernel_rfl
def nM (Z:Nat):Ev.Blk:=fun st K=>match canonO (jk 1) st with | some s=>(match s with | ⟨[(d,.c (.own e)),(f,.c (i6 g)),(h,.c (i6 i)),(j,.c (i6 k)),(l,.c (i6 m))],[(n,.vec o ti p false),(q,.cells r [.sl tq t])],a,b⟩=>bif qb [d,e,f,h,j,l,n,o,q,r,a,b] [0,0,1,2,3,10,0,3,1,34,2,2] then iter (fQ Z) Z (g,i,k,m,p,t) (tn K) else none | _=>none) | none=>none
theorem Jq (Z:Nat) (st:Ev.St) (K:KT) (r:Ans) (h:nM Z st K=some r):evalCode tab (mA Z) J0 jk Z (.block 0 (.loop (bodyOf 0 Tryz.f201))) st K=some r:=by
 unfold nM at h
 split at h
 ·rename_i s hs
  split at h
  ·skip
   obtain ⟨hb,h⟩:=cond_some' h
   cases qb_eq hb
   exact blk_loop (S:=rt) (ks:=tn) (step:=fQ Z) (v:=(_,_,_,_,_,_)) kr kr (fun R K v=>by obtain ⟨a,b,c,d,e,f⟩:=v; exact LZ Z R K a b c d e f) hs h
  ·cases h
 ·cases h
def P3 (Z:Nat) (i:Nat):Option Ev.Blk:=Ev.look i [(100000,nM Z)]
def dG (Z:Nat) (c d e:Int) (f:LI) (g:(List BM)) (k0:(LI×(List BM))→OA):OA:=(Ej Z (c,d,e,0,f,g) (fun (a,b)=>k0 (a,b)))
abbrev gl:Type:=Int→Int→Int→LI→((List BM))→((LI×(List BM))→OA)→OA
theorem Mo (Z:Nat) (a b d:Int) (e:LI) (f:(List BM)) (k:Ev.Cont):evalFn tab (mA Z) (P3 Z) jk Z Tryz.f201 [.c (.own 0),.c (i6 a),.c (i6 b),.c (i6 d),.c (.clo 47 [1])] [.vec 3 ti e false,.cells 34 [.sl tq f]] k=dG Z a b d e f (fun r=>match r with | (g,h)=>k (.tup [],[.vec 3 ti g false,.cells 34 [.sl tq h]])):=by
 kernel_rfl
theorem BB (Z:Nat):GOK prog (mA Z):=
 gok_nil
theorem M9 (Z:Nat):BlkOK prog Tryz.f201.ntmps (.block 0 (.loop (bodyOf 0 Tryz.f201))) (nM Z):=bo0 (BB Z) kr kr (Jq Z)
def vJ (F:gl):Ev.Spec:=fun args objs k=>match args,objs with | [.c (.own a),.c (i6 b),.c (i6 d),.c (i6 e),.c (.clo f [g])],[.vec h ti i false,.cells j [.sl tq l]]=>bif qb [a,f,g,h,j] [0,47,1,3,34] then F b d e i l (fun r=>match r with | (m,n)=>k (.tup [],[.vec 3 ti m false,.cells 34 [.sl tq n]])) else none | _,_=>none
theorem Lb (Z:Nat):FnOK prog 201 (vJ (dG Z)):=by
 intro args objs kk r h
 unfold vJ at h
 split at h
 ·skip
  obtain ⟨hb,h⟩:=cond_some' h
  cases qb_eq hb
  exact fo1 (BB Z) func201 rfl (M9 Z) kr _ _ kk r ((Mo Z _ _ _ _ _ kk).trans h)
 ·cases h
def jZ (i:Nat):Option (List Nat):=Ev.look i [(2,[0,2,4,10,11]),(100000,[0,2,4,10]),(400000,[])]
def xf (a:gl) (f:Nat):Option Ev.Spec:=Ev.look f [(1000201,vJ a)]
def CO (Z:Nat):Nat→Option Ev.Spec:=xf (dG Z)
abbrev wn:Type:=Int×Int×Int×LI×(List BM)
abbrev qD:Type:=(Int×Int×LI×(List BM)→OA)
def iQ (Z:Nat) (j:gl) (d a e:Int) (h:LI) (i:(List BM)) (c:wn→OA) (B:qD):OA:=match B with | b=>bif a != e then bif decide (a > e) then (j (i64.wrap (d - a)) d e h i (fun (f,g)=>c (d,i64.wrap (a - e),e,f,g))) else (j (i64.wrap (d - a)) (i64.wrap (i64.wrap (d+e) - a)) a h i (fun (f,g)=>c (d,a,i64.wrap (e - a),f,g))) else b (d,a,h,i)
def fg (Z:Nat) (v:Int×Int×Int×LI×(List BM)) (c:(Int×Int×Int×LI×(List BM))→OA) (B:(Int×Int×LI×(List BM)→OA)):OA:=match v with | (a,b,d,e,f)=>iQ Z (dG Z) a b d e f c B
def Cf (Z:Nat) (v:wn) (b:qD):OA:=iter (fg Z) Z v b
def qM (v:wn):Ev.St:=match v with | (a,b,d,e,f)=>⟨[(0,.c (.own 0)),(2,.c (i6 a)),(4,.c (.clo 47 [1])),(10,.c (i6 b)),(11,.c (i6 d))],[(0,.vec 3 ti e false),(1,.cells 34 [.sl tq f])],2,2⟩
def yQ (K:KT):qD:=(fun v=>match v with | (a,b,d,e)=>K .normal ⟨[(0,.c (.own 0)),(2,.c (i6 a)),(4,.c (.clo 47 [1])),(10,.c (i6 b))],[(0,.vec 3 ti d false),(1,.cells 34 [.sl tq e])],2,2⟩)
theorem FX (Z:Nat) (a:gl) (R:Ev.St→OA) (K:KT) (b c d:Int) (e:LI) (f:(List BM)):evalCode tab (xf a) J0 jZ Z (bodyOf 0 Tryz.f186) (qM (b,c,d,e,f)) (lc jZ 2 0 R K)=iQ Z a b c d e f (fun v=>R (qM v)) (yQ K):=by
 kernel_rfl
def nj (Z:Nat):Ev.Blk:=fun st K=>match canonO (jZ 2) st with | some s=>(match s with | ⟨[(f,.c (.own g)),(h,.c (i6 i)),(j,.c (.clo k [l])),(m,.c (i6 n)),(o,.c (i6 p))],[(q,.vec r ti t false),(a,.cells b [.sl tq u])],d,e⟩=>bif qb [f,g,h,j,k,l,m,o,q,r,a,b,d,e] [0,0,2,4,47,1,10,11,0,3,1,34,2,2] then iter (fg Z) Z (i,n,p,t,u) (yQ K) else none | _=>none) | none=>none
theorem PB (Z:Nat) (st:Ev.St) (K:KT) (r:Ans) (h:nj Z st K=some r):evalCode tab (CO Z) J0 jZ Z (.block 0 (.loop (bodyOf 0 Tryz.f186))) st K=some r:=by
 unfold nj at h
 split at h
 ·rename_i s hs
  split at h
  ·skip
   obtain ⟨hb,h⟩:=cond_some' h
   cases qb_eq hb
   exact blk_loop (S:=qM) (ks:=yQ) (step:=fg Z) (v:=(_,_,_,_,_)) kr kr (fun R K v=>by obtain ⟨a,b,c,d,e⟩:=v; exact FX Z (dG Z) R K a b c d e) hs h
  ·cases h
 ·cases h
def M5 (Z:Nat) (i:Nat):Option Ev.Blk:=Ev.look i [(100000,nj Z)]
def uc (Z:Nat) (d:gl) (i a j:Int) (k:LI) (l:(List BM)) (k0:(LI×(List BM))→OA):OA:=(Cf Z (a,i64.wrap (a - i),i64.wrap (j - a),k,l) (fun (b,c,e,f)=>(d (i64.wrap (b - c)) b c e f (fun (g,h)=>k0 (g,h)))))
abbrev dD:Type:=Int→Int→Int→LI→((List BM))→((LI×(List BM))→OA)→OA
def bT (Z:Nat):dD:=uc Z (dG Z)
theorem Ik (Z:Nat) (a:gl) (b d e:Int) (f:LI) (g:(List BM)) (k:Ev.Cont):evalFn tab (xf a) (M5 Z) jZ Z Tryz.f186 [.c (.own 0),.c (i6 b),.c (i6 d),.c (i6 e),.c (.clo 47 [1])] [.vec 3 ti f false,.cells 34 [.sl tq g]] k=uc Z a b d e f g (fun r=>match r with | (h,i)=>k (.tup [],[.vec 3 ti h false,.cells 34 [.sl tq i]])):=by
 kernel_rfl
theorem Bk (Z:Nat):GOK prog (CO Z):=
 gc (Lb Z) func201 kr rfl <|
 gok_nil
theorem N3 (Z:Nat):BlkOK prog Tryz.f186.ntmps (.block 0 (.loop (bodyOf 0 Tryz.f186))) (nj Z):=bo0 (Bk Z) kr kr (PB Z)
def wR (F:dD):Ev.Spec:=fun args objs k=>match args,objs with | [.c (.own a),.c (i6 b),.c (i6 d),.c (i6 e),.c (.clo f [g])],[.vec h ti i false,.cells j [.sl tq l]]=>bif qb [a,f,g,h,j] [0,47,1,3,34] then F b d e i l (fun r=>match r with | (m,n)=>k (.tup [],[.vec 3 ti m false,.cells 34 [.sl tq n]])) else none | _,_=>none
theorem G2 (Z:Nat):FnOK prog 186 (wR (bT Z)):=by
 intro args objs kk r h
 unfold wR at h
 split at h
 ·skip
  obtain ⟨hb,h⟩:=cond_some' h
  cases qb_eq hb
  exact fo1 (Bk Z) func186 rfl (N3 Z) kr _ _ kk r ((Ik Z (dG Z) _ _ _ _ _ kk).trans h)
 ·cases h
def af (i:Nat):Option (List Nat):=Ev.look i [(3,[0,1,4,10,11]),(9,[0,10,13]),(15,[0,2,4,14,15]),(21,[0,14,17]),(33,[0,1,2,3,4,18,19,20,21,22]),(100000,[0,1,10]),(100002,[]),(100004,[0,2,14]),(100006,[]),(100008,[0,1,2,3,4,18,19,20]),(200005,[0]),(200017,[0]),(200035,[0]),(400000,[]),(400002,[]),(400004,[]),(400006,[]),(400008,[])]
abbrev ae:Type:=Int→Int→Int→LI→((List BM))→((LI×(List BM))→OA)→OA
def bQ (F:ae):Ev.Spec:=fun args objs k=>match args,objs with | [.c (.own a),.c (i6 b),.c (i6 d),.c (i6 e),.c (.clo f [g])],[.vec h ti i false,.cells j [.sl tq l]]=>bif qb [a,f,g,h,j] [0,47,1,3,34] then F b d e i l (fun r=>match r with | (m,n)=>k (.tup [],[.vec 3 ti m false,.cells 34 [.sl tq n]])) else none | _,_=>none
def fi (c:bz) (a:ae) (b:dD) (f:Nat):Option Ev.Spec:=Ev.look f [(47,nE c),(1000149,bQ a),(1000186,wR b)]
def bK (Z:Nat) (a:ae):Nat→Option Ev.Spec:=fi (an Z) a (bT Z)
abbrev Dy:Type:=Int×Int×Int×LI×(List BM)
abbrev Ah:Type:=(Int×Int×LI×(List BM)→OA)
def fU (Z:Nat) (v:Int×Int×Int×LI×(List BM)) (c:(Int×Int×Int×LI×(List BM))→OA) (B:(Int×Int×LI×(List BM)→OA)):OA:=match v,B with | (f,a,d,e,i),b=>bif decide (a < d) then bif decide ((0:Int)≤i64.wrap (Ev.ishr IntKind.u64 (u64.wrap (i64.wrap (a+d))) (1:Int))∧i64.wrap (Ev.ishr IntKind.u64 (u64.wrap (i64.wrap (a+d))) (1:Int)) < (↑e.length:Int)) then bif decide ((0:Int)≤f∧f < (↑e.length:Int)) then both ((an Z (e.getD (i64.wrap (Ev.ishr IntKind.u64 (u64.wrap (i64.wrap (a+d))) (1:Int))).toNat (0:Int)) (e.getD f.toNat (0:Int)) i (fun (h,g)=>bif decide (h < (0:Int)) then c (f,i64.wrap (i64.wrap (Ev.ishr IntKind.u64 (u64.wrap (i64.wrap (a+d))) (1:Int))+(1:Int)),d,e,g) else c (f,a,i64.wrap (Ev.ishr IntKind.u64 (u64.wrap (i64.wrap (a+d))) (1:Int)),e,g)))) ((an Z (e.getD (i64.wrap (Ev.ishr IntKind.u64 (u64.wrap (i64.wrap (a+d))) (1:Int))).toNat (0:Int)) (e.getD f.toNat (0:Int)) i (fun (h,g)=>bif decide (h < (0:Int)) then c (f,i64.wrap (i64.wrap (Ev.ishr IntKind.u64 (u64.wrap (i64.wrap (a+d))) (1:Int))+(1:Int)),d,e,g) else c (f,a,i64.wrap (Ev.ishr IntKind.u64 (u64.wrap (i64.wrap (a+d))) (1:Int)),e,g)))) else none else none else b (f,a,e,i)
def uu (Z:Nat) (v:Dy) (b:Ah):OA:=iter (fU Z) Z v b
def i8 (v:Dy):Ev.St:=match v with | (a,b,d,e,f)=>⟨[(0,.c (.own 0)),(1,.c (i6 a)),(4,.c (.clo 47 [1])),(10,.c (i6 b)),(11,.c (i6 d))],[(0,.vec 3 ti e false),(1,.cells 34 [.sl tq f])],2,2⟩
def nG (K:KT):Ah:=(fun v=>match v with | (a,b,d,e)=>K .normal ⟨[(0,.c (.own 0)),(1,.c (i6 a)),(10,.c (i6 b))],[(0,.vec 3 ti d false),(1,.cells 34 [.sl tq e])],2,2⟩)
theorem EO (Z:Nat) (i:bz) (k:ae) (l:dD) (R:Ev.St→OA) (K:KT) (f a d:Int) (e:LI) (h:(List BM)):evalCode tab (fi i k l) J0 af Z (bodyOf 0 Tryz.f149) (i8 (f,a,d,e,h)) (lc af 3 0 R K)=(fun (c:(Int×Int×Int×LI×(List BM))→OA) (B:(Int×Int×LI×(List BM)→OA))=>match B with
| b=>
 bif decide (a < d) then
 bif decide ((0:Int)≤i64.wrap (Ev.ishr IntKind.u64 (u64.wrap (i64.wrap (a+d))) (1:Int))∧i64.wrap (Ev.ishr IntKind.u64 (u64.wrap (i64.wrap (a+d))) (1:Int)) < (↑e.length:Int)) then
 bif decide ((0:Int)≤f∧f < (↑e.length:Int)) then
 both ((i (e.getD (i64.wrap (Ev.ishr IntKind.u64 (u64.wrap (i64.wrap (a+d))) (1:Int))).toNat (0:Int)) (e.getD f.toNat (0:Int)) h
 (fun (j,g)=>
 bif decide (j < (0:Int)) then
 c (f,i64.wrap (i64.wrap (Ev.ishr IntKind.u64 (u64.wrap (i64.wrap (a+d))) (1:Int))+(1:Int)),d,e,g)
 else
 c (f,a,i64.wrap (Ev.ishr IntKind.u64 (u64.wrap (i64.wrap (a+d))) (1:Int)),e,g))))
 ((i (e.getD (i64.wrap (Ev.ishr IntKind.u64 (u64.wrap (i64.wrap (a+d))) (1:Int))).toNat (0:Int)) (e.getD f.toNat (0:Int)) h
 (fun (j,g)=>
 bif decide (j < (0:Int)) then
 c (f,i64.wrap (i64.wrap (Ev.ishr IntKind.u64 (u64.wrap (i64.wrap (a+d))) (1:Int))+(1:Int)),d,e,g)
 else
 c (f,a,i64.wrap (Ev.ishr IntKind.u64 (u64.wrap (i64.wrap (a+d))) (1:Int)),e,g))))
 else none
 else none
 else
 b (f,a,e,h)) (fun v=>R (i8 v)) (nG K):=by
 kernel_rfl
theorem L8 (Z:Nat) (f:ae) (R:Ev.St→OA) (K:KT) (a b c:Int) (d:LI) (e:(List BM)):evalCode tab (bK Z f) J0 af Z (bodyOf 0 Tryz.f149) (i8 (a,b,c,d,e)) (lc af 3 0 R K)=fU Z (a,b,c,d,e) (fun v=>R (i8 v)) (nG K):=
 EO Z (an Z) f (bT Z) R K a b c d e
def dC (Z:Nat):Ev.Blk:=fun st K=>match canonO (af 3) st with | some s=>(match s with | ⟨[(f,.c (.own g)),(h,.c (i6 i)),(j,.c (.clo k [l])),(m,.c (i6 n)),(o,.c (i6 p))],[(q,.vec r ti t false),(a,.cells b [.sl tq u])],d,e⟩=>bif qb [f,g,h,j,k,l,m,o,q,r,a,b,d,e] [0,0,1,4,47,1,10,11,0,3,1,34,2,2] then iter (fU Z) Z (i,n,p,t,u) (nG K) else none | _=>none) | none=>none
theorem GU (Z:Nat) (a:ae) (st:Ev.St) (K:KT) (r:Ans) (h:dC Z st K=some r):evalCode tab (bK Z a) J0 af Z (.block 0 (.loop (bodyOf 0 Tryz.f149))) st K=some r:=by
 unfold dC at h
 split at h
 ·rename_i s hs
  split at h
  ·skip
   obtain ⟨hb,h⟩:=cond_some' h
   cases qb_eq hb
   exact blk_loop (S:=i8) (ks:=nG) (step:=fU Z) (v:=(_,_,_,_,_)) kr kr (fun R K v=>by obtain ⟨b,c,d,e,f⟩:=v; exact L8 Z a R K b c d e f) hs h
  ·cases h
 ·cases h
abbrev ze:Type:=Int×Int×LI×(List BM)
abbrev DI:Type:=(LI×(List BM)→OA)
def fy (Z:Nat) (v:Int×Int×LI×(List BM)) (c:(Int×Int×LI×(List BM))→OA) (B:(LI×(List BM)→OA)):OA:=match v,B with | (e,a,d,f),b=>bif decide (a < i64.wrap (e - (1:Int))) then bif decide ((0:Int)≤i64.wrap (a+(1:Int))∧i64.wrap (a+(1:Int)) < (↑d.length:Int)) then bif decide ((0:Int)≤a∧a < (↑d.length:Int)) then both (bif decide ((0:Int)≤a∧a < (↑d.length:Int)) then bif decide ((0:Int)≤i64.wrap (a+(1:Int))∧i64.wrap (a+(1:Int)) < (↑(d.set a.toNat (d.getD (i64.wrap (a+(1:Int))).toNat (0:Int))).length:Int)) then c (e,i64.wrap (a+(1:Int)),(d.set a.toNat (d.getD (i64.wrap (a+(1:Int))).toNat (0:Int))).set (i64.wrap (a+(1:Int))).toNat (d.getD a.toNat (0:Int)),f) else none else none) (bif decide ((0:Int)≤a∧a < (↑d.length:Int)) then bif decide ((0:Int)≤i64.wrap (a+(1:Int))∧i64.wrap (a+(1:Int)) < (↑(d.set a.toNat (d.getD (i64.wrap (a+(1:Int))).toNat (0:Int))).length:Int)) then c (e,i64.wrap (a+(1:Int)),(d.set a.toNat (d.getD (i64.wrap (a+(1:Int))).toNat (0:Int))).set (i64.wrap (a+(1:Int))).toNat (d.getD a.toNat (0:Int)),f) else none else none) else none else none else b (d,f)
def lb (Z:Nat) (v:ze) (b:DI):OA:=iter (fy Z) Z v b
def jG (Z:Nat) (i:Nat):Option Ev.Blk:=Ev.look i [(100000,dC Z)]
def jA (v:ze):Ev.St:=match v with | (a,b,d,e)=>⟨[(0,.c (.own 0)),(10,.c (i6 a)),(13,.c (i6 b))],[(0,.vec 3 ti d false),(1,.cells 34 [.sl tq e])],2,2⟩
def kW (K:KT):DI:=(fun v=>match v with | (a,b)=>K .normal ⟨[],[(0,.vec 3 ti a false),(1,.cells 34 [.sl tq b])],2,2⟩)
theorem Kn (Z:Nat) (i:bz) (g:ae) (h:dD) (R:Ev.St→OA) (K:KT) (e a:Int) (d:LI) (f:(List BM)):evalCode tab (fi i g h) (jG Z) af Z (bodyOf 2 Tryz.f149) (jA (e,a,d,f)) (lc af 9 2 R K)=(fun (c:(Int×Int×LI×(List BM))→OA) (B:(LI×(List BM)→OA))=>match B with
| b=>
 bif decide (a < i64.wrap (e - (1:Int))) then
 bif decide ((0:Int)≤i64.wrap (a+(1:Int))∧i64.wrap (a+(1:Int)) < (↑d.length:Int)) then
 bif decide ((0:Int)≤a∧a < (↑d.length:Int)) then
 both (bif decide ((0:Int)≤a∧a < (↑d.length:Int)) then
 bif decide ((0:Int)≤i64.wrap (a+(1:Int))∧i64.wrap (a+(1:Int)) < (↑(d.set a.toNat (d.getD (i64.wrap (a+(1:Int))).toNat (0:Int))).length:Int)) then
 c (e,i64.wrap (a+(1:Int)),(d.set a.toNat (d.getD (i64.wrap (a+(1:Int))).toNat (0:Int))).set (i64.wrap (a+(1:Int))).toNat (d.getD a.toNat (0:Int)),f)
 else none
 else none)
 (bif decide ((0:Int)≤a∧a < (↑d.length:Int)) then
 bif decide ((0:Int)≤i64.wrap (a+(1:Int))∧i64.wrap (a+(1:Int)) < (↑(d.set a.toNat (d.getD (i64.wrap (a+(1:Int))).toNat (0:Int))).length:Int)) then
 c (e,i64.wrap (a+(1:Int)),(d.set a.toNat (d.getD (i64.wrap (a+(1:Int))).toNat (0:Int))).set (i64.wrap (a+(1:Int))).toNat (d.getD a.toNat (0:Int)),f)
 else none
 else none)
 else none
 else none
 else
 b (d,f)) (fun v=>R (jA v)) (kW K):=by
 kernel_rfl
theorem GV (Z:Nat) (e:ae) (R:Ev.St→OA) (K:KT) (a b:Int) (c:LI) (d:(List BM)):evalCode tab (bK Z e) (jG Z) af Z (bodyOf 2 Tryz.f149) (jA (a,b,c,d)) (lc af 9 2 R K)=fy Z (a,b,c,d) (fun v=>R (jA v)) (kW K):=
 Kn Z (an Z) e (bT Z) R K a b c d
def ew (Z:Nat):Ev.Blk:=fun st K=>match canonO (af 9) st with | some s=>(match s with | ⟨[(a,.c (.own b)),(d,.c (i6 e)),(f,.c (i6 g))],[(h,.vec i ti j false),(k,.cells l [.sl tq m])],n,o⟩=>bif qb [a,b,d,f,h,i,k,l,n,o] [0,0,10,13,0,3,1,34,2,2] then iter (fy Z) Z (e,g,j,m) (kW K) else none | _=>none) | none=>none
theorem Fn (Z:Nat) (a:ae) (st:Ev.St) (K:KT) (r:Ans) (h:ew Z st K=some r):evalCode tab (bK Z a) (jG Z) af Z (.block 2 (.loop (bodyOf 2 Tryz.f149))) st K=some r:=by
 unfold ew at h
 split at h
 ·rename_i s hs
  split at h
  ·skip
   obtain ⟨hb,h⟩:=cond_some' h
   cases qb_eq hb
   exact blk_loop (S:=jA) (ks:=kW) (step:=fy Z) (v:=(_,_,_,_)) kr kr (fun R K v=>by obtain ⟨b,c,d,e⟩:=v; exact GV Z a R K b c d e) hs h
  ·cases h
 ·cases h
abbrev zm:Type:=Int×Int×Int×LI×(List BM)
abbrev DZ:Type:=(Int×Int×LI×(List BM)→OA)
def ft (Z:Nat) (v:Int×Int×Int×LI×(List BM)) (c:(Int×Int×Int×LI×(List BM))→OA) (B:(Int×Int×LI×(List BM)→OA)):OA:=match v,B with | (f,a,d,e,i),b=>bif decide (a < d) then bif decide ((0:Int)≤f∧f < (↑e.length:Int)) then bif decide ((0:Int)≤i64.wrap (Ev.ishr IntKind.u64 (u64.wrap (i64.wrap (a+d))) (1:Int))∧i64.wrap (Ev.ishr IntKind.u64 (u64.wrap (i64.wrap (a+d))) (1:Int)) < (↑e.length:Int)) then both ((an Z (e.getD f.toNat (0:Int)) (e.getD (i64.wrap (Ev.ishr IntKind.u64 (u64.wrap (i64.wrap (a+d))) (1:Int))).toNat (0:Int)) i (fun (h,g)=>bif !decide (h < (0:Int)) then c (f,i64.wrap (i64.wrap (Ev.ishr IntKind.u64 (u64.wrap (i64.wrap (a+d))) (1:Int))+(1:Int)),d,e,g) else c (f,a,i64.wrap (Ev.ishr IntKind.u64 (u64.wrap (i64.wrap (a+d))) (1:Int)),e,g)))) ((an Z (e.getD f.toNat (0:Int)) (e.getD (i64.wrap (Ev.ishr IntKind.u64 (u64.wrap (i64.wrap (a+d))) (1:Int))).toNat (0:Int)) i (fun (h,g)=>bif !decide (h < (0:Int)) then c (f,i64.wrap (i64.wrap (Ev.ishr IntKind.u64 (u64.wrap (i64.wrap (a+d))) (1:Int))+(1:Int)),d,e,g) else c (f,a,i64.wrap (Ev.ishr IntKind.u64 (u64.wrap (i64.wrap (a+d))) (1:Int)),e,g)))) else none else none else b (f,a,e,i)
def ui (Z:Nat) (v:zm) (b:DZ):OA:=iter (ft Z) Z v b
def jS (Z:Nat) (i:Nat):Option Ev.Blk:=Ev.look i [(100000,dC Z),(100002,ew Z)]
def jX (v:zm):Ev.St:=match v with | (a,b,d,e,f)=>⟨[(0,.c (.own 0)),(2,.c (i6 a)),(4,.c (.clo 47 [1])),(14,.c (i6 b)),(15,.c (i6 d))],[(0,.vec 3 ti e false),(1,.cells 34 [.sl tq f])],2,2⟩
def oc (K:KT):DZ:=(fun v=>match v with | (a,b,d,e)=>K .normal ⟨[(0,.c (.own 0)),(2,.c (i6 a)),(14,.c (i6 b))],[(0,.vec 3 ti d false),(1,.cells 34 [.sl tq e])],2,2⟩)
theorem Fi (Z:Nat) (i:bz) (k:ae) (l:dD) (R:Ev.St→OA) (K:KT) (f a d:Int) (e:LI) (h:(List BM)):evalCode tab (fi i k l) (jS Z) af Z (bodyOf 4 Tryz.f149) (jX (f,a,d,e,h)) (lc af 15 4 R K)=(fun (c:(Int×Int×Int×LI×(List BM))→OA) (B:(Int×Int×LI×(List BM)→OA))=>match B with
| b=>
 bif decide (a < d) then
 bif decide ((0:Int)≤f∧f < (↑e.length:Int)) then
 bif decide ((0:Int)≤i64.wrap (Ev.ishr IntKind.u64 (u64.wrap (i64.wrap (a+d))) (1:Int))∧i64.wrap (Ev.ishr IntKind.u64 (u64.wrap (i64.wrap (a+d))) (1:Int)) < (↑e.length:Int)) then
 both ((i (e.getD f.toNat (0:Int)) (e.getD (i64.wrap (Ev.ishr IntKind.u64 (u64.wrap (i64.wrap (a+d))) (1:Int))).toNat (0:Int)) h
 (fun (j,g)=>
 bif !decide (j < (0:Int)) then
 c (f,i64.wrap (i64.wrap (Ev.ishr IntKind.u64 (u64.wrap (i64.wrap (a+d))) (1:Int))+(1:Int)),d,e,g)
 else
 c (f,a,i64.wrap (Ev.ishr IntKind.u64 (u64.wrap (i64.wrap (a+d))) (1:Int)),e,g))))
 ((i (e.getD f.toNat (0:Int)) (e.getD (i64.wrap (Ev.ishr IntKind.u64 (u64.wrap (i64.wrap (a+d))) (1:Int))).toNat (0:Int)) h
 (fun (j,g)=>
 bif !decide (j < (0:Int)) then
 c (f,i64.wrap (i64.wrap (Ev.ishr IntKind.u64 (u64.wrap (i64.wrap (a+d))) (1:Int))+(1:Int)),d,e,g)
 else
 c (f,a,i64.wrap (Ev.ishr IntKind.u64 (u64.wrap (i64.wrap (a+d))) (1:Int)),e,g))))
 else none
 else none
 else
 b (f,a,e,h)) (fun v=>R (jX v)) (oc K):=by
 kernel_rfl
theorem F5 (Z:Nat) (f:ae) (R:Ev.St→OA) (K:KT) (a b c:Int) (d:LI) (e:(List BM)):evalCode tab (bK Z f) (jS Z) af Z (bodyOf 4 Tryz.f149) (jX (a,b,c,d,e)) (lc af 15 4 R K)=ft Z (a,b,c,d,e) (fun v=>R (jX v)) (oc K):=
 Fi Z (an Z) f (bT Z) R K a b c d e
def fN (Z:Nat):Ev.Blk:=fun st K=>match canonO (af 15) st with | some s=>(match s with | ⟨[(f,.c (.own g)),(h,.c (i6 i)),(j,.c (.clo k [l])),(m,.c (i6 n)),(o,.c (i6 p))],[(q,.vec r ti t false),(a,.cells b [.sl tq u])],d,e⟩=>bif qb [f,g,h,j,k,l,m,o,q,r,a,b,d,e] [0,0,2,4,47,1,14,15,0,3,1,34,2,2] then iter (ft Z) Z (i,n,p,t,u) (oc K) else none | _=>none) | none=>none
theorem FU (Z:Nat) (a:ae) (st:Ev.St) (K:KT) (r:Ans) (h:fN Z st K=some r):evalCode tab (bK Z a) (jS Z) af Z (.block 4 (.loop (bodyOf 4 Tryz.f149))) st K=some r:=by
 unfold fN at h
 split at h
 ·rename_i s hs
  split at h
  ·skip
   obtain ⟨hb,h⟩:=cond_some' h
   cases qb_eq hb
   exact blk_loop (S:=jX) (ks:=oc) (step:=ft Z) (v:=(_,_,_,_,_)) kr kr (fun R K v=>by obtain ⟨b,c,d,e,f⟩:=v; exact F5 Z a R K b c d e f) hs h
  ·cases h
 ·cases h
abbrev Ci:Type:=Int×Int×LI×(List BM)
abbrev Ec:Type:=(LI×(List BM)→OA)
def fS (Z:Nat) (v:Int×Int×LI×(List BM)) (c:(Int×Int×LI×(List BM))→OA) (B:(LI×(List BM)→OA)):OA:=match v,B with | (e,a,d,f),b=>bif decide (a > e) then bif decide ((0:Int)≤i64.wrap (a - (1:Int))∧i64.wrap (a - (1:Int)) < (↑d.length:Int)) then bif decide ((0:Int)≤a∧a < (↑d.length:Int)) then both (bif decide ((0:Int)≤a∧a < (↑d.length:Int)) then bif decide ((0:Int)≤i64.wrap (a - (1:Int))∧i64.wrap (a - (1:Int)) < (↑(d.set a.toNat (d.getD (i64.wrap (a - (1:Int))).toNat (0:Int))).length:Int)) then c (e,i64.wrap (a - (1:Int)),(d.set a.toNat (d.getD (i64.wrap (a - (1:Int))).toNat (0:Int))).set (i64.wrap (a - (1:Int))).toNat (d.getD a.toNat (0:Int)),f) else none else none) (bif decide ((0:Int)≤a∧a < (↑d.length:Int)) then bif decide ((0:Int)≤i64.wrap (a - (1:Int))∧i64.wrap (a - (1:Int)) < (↑(d.set a.toNat (d.getD (i64.wrap (a - (1:Int))).toNat (0:Int))).length:Int)) then c (e,i64.wrap (a - (1:Int)),(d.set a.toNat (d.getD (i64.wrap (a - (1:Int))).toNat (0:Int))).set (i64.wrap (a - (1:Int))).toNat (d.getD a.toNat (0:Int)),f) else none else none) else none else none else b (d,f)
def nB (Z:Nat) (v:Ci) (b:Ec):OA:=iter (fS Z) Z v b
def ju (Z:Nat) (i:Nat):Option Ev.Blk:=Ev.look i [(100000,dC Z),(100002,ew Z),(100004,fN Z)]
def jn (v:Ci):Ev.St:=match v with | (a,b,d,e)=>⟨[(0,.c (.own 0)),(14,.c (i6 a)),(17,.c (i6 b))],[(0,.vec 3 ti d false),(1,.cells 34 [.sl tq e])],2,2⟩
def oz (K:KT):Ec:=(fun v=>match v with | (a,b)=>K .normal ⟨[],[(0,.vec 3 ti a false),(1,.cells 34 [.sl tq b])],2,2⟩)
theorem KZ (Z:Nat) (i:bz) (g:ae) (h:dD) (R:Ev.St→OA) (K:KT) (e a:Int) (d:LI) (f:(List BM)):evalCode tab (fi i g h) (ju Z) af Z (bodyOf 6 Tryz.f149) (jn (e,a,d,f)) (lc af 21 6 R K)=(fun (c:(Int×Int×LI×(List BM))→OA) (B:(LI×(List BM)→OA))=>match B with
| b=>
 bif decide (a > e) then
 bif decide ((0:Int)≤i64.wrap (a - (1:Int))∧i64.wrap (a - (1:Int)) < (↑d.length:Int)) then
 bif decide ((0:Int)≤a∧a < (↑d.length:Int)) then
 both (bif decide ((0:Int)≤a∧a < (↑d.length:Int)) then
 bif decide ((0:Int)≤i64.wrap (a - (1:Int))∧i64.wrap (a - (1:Int)) < (↑(d.set a.toNat (d.getD (i64.wrap (a - (1:Int))).toNat (0:Int))).length:Int)) then
 c (e,i64.wrap (a - (1:Int)),(d.set a.toNat (d.getD (i64.wrap (a - (1:Int))).toNat (0:Int))).set (i64.wrap (a - (1:Int))).toNat (d.getD a.toNat (0:Int)),f)
 else none
 else none)
 (bif decide ((0:Int)≤a∧a < (↑d.length:Int)) then
 bif decide ((0:Int)≤i64.wrap (a - (1:Int))∧i64.wrap (a - (1:Int)) < (↑(d.set a.toNat (d.getD (i64.wrap (a - (1:Int))).toNat (0:Int))).length:Int)) then
 c (e,i64.wrap (a - (1:Int)),(d.set a.toNat (d.getD (i64.wrap (a - (1:Int))).toNat (0:Int))).set (i64.wrap (a - (1:Int))).toNat (d.getD a.toNat (0:Int)),f)
 else none
 else none)
 else none
 else none
 else
 b (d,f)) (fun v=>R (jn v)) (oz K):=by
 kernel_rfl
theorem KS (Z:Nat) (e:ae) (R:Ev.St→OA) (K:KT) (a b:Int) (c:LI) (d:(List BM)):evalCode tab (bK Z e) (ju Z) af Z (bodyOf 6 Tryz.f149) (jn (a,b,c,d)) (lc af 21 6 R K)=fS Z (a,b,c,d) (fun v=>R (jn v)) (oz K):=
 KZ Z (an Z) e (bT Z) R K a b c d
def iF (Z:Nat):Ev.Blk:=fun st K=>match canonO (af 21) st with | some s=>(match s with | ⟨[(a,.c (.own b)),(d,.c (i6 e)),(f,.c (i6 g))],[(h,.vec i ti j false),(k,.cells l [.sl tq m])],n,o⟩=>bif qb [a,b,d,f,h,i,k,l,n,o] [0,0,14,17,0,3,1,34,2,2] then iter (fS Z) Z (e,g,j,m) (oz K) else none | _=>none) | none=>none
theorem Hz (Z:Nat) (a:ae) (st:Ev.St) (K:KT) (r:Ans) (h:iF Z st K=some r):evalCode tab (bK Z a) (ju Z) af Z (.block 6 (.loop (bodyOf 6 Tryz.f149))) st K=some r:=by
 unfold iF at h
 split at h
 ·rename_i s hs
  split at h
  ·skip
   obtain ⟨hb,h⟩:=cond_some' h
   cases qb_eq hb
   exact blk_loop (S:=jn) (ks:=oz) (step:=fS Z) (v:=(_,_,_,_)) kr kr (fun R K v=>by obtain ⟨b,c,d,e⟩:=v; exact KS Z a R K b c d e) hs h
  ·cases h
 ·cases h
abbrev Ak:Type:=Int×Int×Int×Int×Int×Int×Int×Int×LI×(List BM)
abbrev D2:Type:=(Int×Int×Int×Int×Int×Int×LI×(List BM)→OA)
def eT (Z:Nat) (v:Int×Int×Int×Int×Int×Int×Int×Int×LI×(List BM)) (c:(Int×Int×Int×Int×Int×Int×Int×Int×LI×(List BM))→OA) (B:(Int×Int×Int×Int×Int×Int×LI×(List BM)→OA)):OA:=match v,B with | (h,i,j,k,l,a,d,f,e,n),b=>bif decide (a < d) then bif decide ((0:Int)≤i64.wrap (f - i64.wrap (Ev.ishr IntKind.u64 (u64.wrap (i64.wrap (a+d))) (1:Int)))∧i64.wrap (f - i64.wrap (Ev.ishr IntKind.u64 (u64.wrap (i64.wrap (a+d))) (1:Int))) < (↑e.length:Int)) then bif decide ((0:Int)≤i64.wrap (Ev.ishr IntKind.u64 (u64.wrap (i64.wrap (a+d))) (1:Int))∧i64.wrap (Ev.ishr IntKind.u64 (u64.wrap (i64.wrap (a+d))) (1:Int)) < (↑e.length:Int)) then both ((an Z (e.getD (i64.wrap (f - i64.wrap (Ev.ishr IntKind.u64 (u64.wrap (i64.wrap (a+d))) (1:Int)))).toNat (0:Int)) (e.getD (i64.wrap (Ev.ishr IntKind.u64 (u64.wrap (i64.wrap (a+d))) (1:Int))).toNat (0:Int)) n (fun (m,g)=>bif !decide (m < (0:Int)) then c (h,i,j,k,l,i64.wrap (i64.wrap (Ev.ishr IntKind.u64 (u64.wrap (i64.wrap (a+d))) (1:Int))+(1:Int)),d,f,e,g) else c (h,i,j,k,l,a,i64.wrap (Ev.ishr IntKind.u64 (u64.wrap (i64.wrap (a+d))) (1:Int)),f,e,g)))) ((an Z (e.getD (i64.wrap (f - i64.wrap (Ev.ishr IntKind.u64 (u64.wrap (i64.wrap (a+d))) (1:Int)))).toNat (0:Int)) (e.getD (i64.wrap (Ev.ishr IntKind.u64 (u64.wrap (i64.wrap (a+d))) (1:Int))).toNat (0:Int)) n (fun (m,g)=>bif !decide (m < (0:Int)) then c (h,i,j,k,l,i64.wrap (i64.wrap (Ev.ishr IntKind.u64 (u64.wrap (i64.wrap (a+d))) (1:Int))+(1:Int)),d,f,e,g) else c (h,i,j,k,l,a,i64.wrap (Ev.ishr IntKind.u64 (u64.wrap (i64.wrap (a+d))) (1:Int)),f,e,g)))) else none else none else b (h,i,j,k,l,a,e,n)
def gj (Z:Nat) (v:Ak) (b:D2):OA:=iter (eT Z) Z v b
def jd (Z:Nat) (i:Nat):Option Ev.Blk:=Ev.look i [(100000,dC Z),(100002,ew Z),(100004,fN Z),(100006,iF Z)]
def jH (v:Ak):Ev.St:=match v with | (a,b,d,e,f,g,h,i,j,k)=>⟨[(0,.c (.own 0)),(1,.c (i6 a)),(2,.c (i6 b)),(3,.c (i6 d)),(4,.c (.clo 47 [1])),(18,.c (i6 e)),(19,.c (i6 f)),(20,.c (i6 g)),(21,.c (i6 h)),(22,.c (i6 i))],[(0,.vec 3 ti j false),(1,.cells 34 [.sl tq k])],2,2⟩
def ld (K:KT):D2:=(fun v=>match v with | (a,b,d,e,f,g,h,i)=>K .normal ⟨[(0,.c (.own 0)),(1,.c (i6 a)),(2,.c (i6 b)),(3,.c (i6 d)),(4,.c (.clo 47 [1])),(18,.c (i6 e)),(19,.c (i6 f)),(20,.c (i6 g))],[(0,.vec 3 ti h false),(1,.cells 34 [.sl tq i])],2,2⟩)
theorem Qh (Z:Nat) (n:bz) (p:ae) (q:dD) (R:Ev.St→OA) (K:KT) (g h:Int) (i j:Int) (k a:Int) (d f:Int) (e:LI) (m:(List BM)):evalCode tab (fi n p q) (jd Z) af Z (bodyOf 8 Tryz.f149) (jH (g,h,i,j,k,a,d,f,e,m)) (lc af 33 8 R K)=(fun (c:(Int×Int×Int×Int×Int×Int×Int×Int×LI×(List BM))→OA) (B:(Int×Int×Int×Int×Int×Int×LI×(List BM)→OA))=>match B with
| b=>
 bif decide (a < d) then
 bif decide ((0:Int)≤i64.wrap (f - i64.wrap (Ev.ishr IntKind.u64 (u64.wrap (i64.wrap (a+d))) (1:Int)))∧i64.wrap (f - i64.wrap (Ev.ishr IntKind.u64 (u64.wrap (i64.wrap (a+d))) (1:Int))) < (↑e.length:Int)) then
 bif decide ((0:Int)≤i64.wrap (Ev.ishr IntKind.u64 (u64.wrap (i64.wrap (a+d))) (1:Int))∧i64.wrap (Ev.ishr IntKind.u64 (u64.wrap (i64.wrap (a+d))) (1:Int)) < (↑e.length:Int)) then
 both ((n (e.getD (i64.wrap (f - i64.wrap (Ev.ishr IntKind.u64 (u64.wrap (i64.wrap (a+d))) (1:Int)))).toNat (0:Int)) (e.getD (i64.wrap (Ev.ishr IntKind.u64 (u64.wrap (i64.wrap (a+d))) (1:Int))).toNat (0:Int)) m
 (fun (o,l)=>
 bif !decide (o < (0:Int)) then
 c (g,h,i,j,k,i64.wrap (i64.wrap (Ev.ishr IntKind.u64 (u64.wrap (i64.wrap (a+d))) (1:Int))+(1:Int)),d,f,e,l)
 else
 c (g,h,i,j,k,a,i64.wrap (Ev.ishr IntKind.u64 (u64.wrap (i64.wrap (a+d))) (1:Int)),f,e,l))))
 ((n (e.getD (i64.wrap (f - i64.wrap (Ev.ishr IntKind.u64 (u64.wrap (i64.wrap (a+d))) (1:Int)))).toNat (0:Int)) (e.getD (i64.wrap (Ev.ishr IntKind.u64 (u64.wrap (i64.wrap (a+d))) (1:Int))).toNat (0:Int)) m
 (fun (o,l)=>
 bif !decide (o < (0:Int)) then
 c (g,h,i,j,k,i64.wrap (i64.wrap (Ev.ishr IntKind.u64 (u64.wrap (i64.wrap (a+d))) (1:Int))+(1:Int)),d,f,e,l)
 else
 c (g,h,i,j,k,a,i64.wrap (Ev.ishr IntKind.u64 (u64.wrap (i64.wrap (a+d))) (1:Int)),f,e,l))))
 else none
 else none
 else
 b (g,h,i,j,k,a,e,m)) (fun v=>R (jH v)) (ld K):=by
 kernel_rfl
theorem Hb (Z:Nat) (k:ae) (R:Ev.St→OA) (K:KT) (a b:Int) (c d:Int) (e f:Int) (g h:Int) (i:LI) (j:(List BM)):evalCode tab (bK Z k) (jd Z) af Z (bodyOf 8 Tryz.f149) (jH (a,b,c,d,e,f,g,h,i,j)) (lc af 33 8 R K)=eT Z (a,b,c,d,e,f,g,h,i,j) (fun v=>R (jH v)) (ld K):=
 Qh Z (an Z) k (bT Z) R K a b c d e f g h i j
def kj (Z:Nat):Ev.Blk:=fun st K=>match canonO (af 33) st with | some s=>(match s with | ⟨[(k,.c (.own l)),(m,.c (i6 n)),(o,.c (i6 p)),(q,.c (i6 r)),(t,.c (.clo u [v])),(w,.c (i6 x)),(y,.c (i6 z)),(a,.c (i6 A)),(b,.c (i6 B)),(d,.c (i6 C))],[(e,.vec f ti D false),(g,.cells h [.sl tq E])],i,j⟩=>bif qb [k,l,m,o,q,t,u,v,w,y,a,b,d,e,f,g,h,i,j] [0,0,1,2,3,4,47,1,18,19,20,21,22,0,3,1,34,2,2] then iter (eT Z) Z (n,p,r,x,z,A,B,C,D,E) (ld K) else none | _=>none) | none=>none
theorem Fy (Z:Nat) (a:ae) (st:Ev.St) (K:KT) (r:Ans) (h:kj Z st K=some r):evalCode tab (bK Z a) (jd Z) af Z (.block 8 (.loop (bodyOf 8 Tryz.f149))) st K=some r:=by
 unfold kj at h
 split at h
 ·rename_i s hs
  split at h
  ·skip
   obtain ⟨hb,h⟩:=cond_some' h
   cases qb_eq hb
   exact blk_loop (S:=jH) (ks:=ld) (step:=eT Z) (v:=(_,_,_,_,_,_,_,_,_,_)) kr kr (fun R K v=>by obtain ⟨b,c,d,e,f,g,i,j,k,l⟩:=v; exact Hb Z a R K b c d e f g i j k l) hs h
  ·cases h
 ·cases h
def ll (Z:Nat) (i:Nat):Option Ev.Blk:=Ev.look i [(100000,dC Z),(100002,ew Z),(100004,fN Z),(100006,iF Z),(100008,kj Z)]
def dn (g:ae) (Z:Nat) (j k l:Int) (A:LI) (B:(List BM)) (k0:(LI×(List BM))→OA):OA:=bif i64.wrap (k - j)==(1:Int) then (uu Z (j,k,l,A,B) (fun (G,H,I,J)=>(lb Z (H,G,I,J) (fun (K,L)=>k0 (K,L))))) else bif i64.wrap (l - k)==(1:Int) then (ui Z (k,j,k,A,B) (fun (M,N,O,P)=>(nB Z (N,M,O,P) (fun (Q,R)=>k0 (Q,R))))) else bif decide (k > i64.wrap (Ev.ishr IntKind.u64 (u64.wrap (i64.wrap (j+l))) (1:Int))) then (gj Z (j,k,l,i64.wrap (Ev.ishr IntKind.u64 (u64.wrap (i64.wrap (j+l))) (1:Int)),i64.wrap (i64.wrap (Ev.ishr IntKind.u64 (u64.wrap (i64.wrap (j+l))) (1:Int))+k),i64.wrap (i64.wrap (i64.wrap (Ev.ishr IntKind.u64 (u64.wrap (i64.wrap (j+l))) (1:Int))+k) - l),i64.wrap (Ev.ishr IntKind.u64 (u64.wrap (i64.wrap (j+l))) (1:Int)),i64.wrap (i64.wrap (i64.wrap (Ev.ishr IntKind.u64 (u64.wrap (i64.wrap (j+l))) (1:Int))+k) - (1:Int)),A,B) (fun (m,z,d,c,b,a,e,f)=>bif decide (a < z) then bif decide (z < i64.wrap (b - a)) then (bT Z a z (i64.wrap (b - a)) e f (fun (h,i)=>bif decide (m < a) then bif decide (a < c) then (g m a c h i (fun (p,q)=>bif decide (c < i64.wrap (b - a)) then bif decide (i64.wrap (b - a) < d) then (g c (i64.wrap (b - a)) d p q (fun (C,D)=>k0 (C,D))) else k0 (p,q) else k0 (p,q))) else bif decide (c < i64.wrap (b - a)) then bif decide (i64.wrap (b - a) < d) then (g c (i64.wrap (b - a)) d h i (fun (r,s)=>k0 (r,s))) else k0 (h,i) else k0 (h,i) else bif decide (c < i64.wrap (b - a)) then bif decide (i64.wrap (b - a) < d) then (g c (i64.wrap (b - a)) d h i (fun (t,u)=>k0 (t,u))) else k0 (h,i) else k0 (h,i))) else bif decide (m < a) then bif decide (a < c) then (g m a c e f (fun (n,o)=>bif decide (c < i64.wrap (b - a)) then bif decide (i64.wrap (b - a) < d) then (g c (i64.wrap (b - a)) d n o (fun (r,s)=>k0 (r,s))) else k0 (n,o) else k0 (n,o))) else bif decide (c < i64.wrap (b - a)) then bif decide (i64.wrap (b - a) < d) then (g c (i64.wrap (b - a)) d e f (fun (E,F)=>k0 (E,F))) else k0 (e,f) else k0 (e,f) else bif decide (c < i64.wrap (b - a)) then bif decide (i64.wrap (b - a) < d) then (g c (i64.wrap (b - a)) d e f (fun (v,w)=>k0 (v,w))) else k0 (e,f) else k0 (e,f) else bif decide (m < a) then bif decide (a < c) then (g m a c e f (fun (x,y)=>bif decide (c < i64.wrap (b - a)) then bif decide (i64.wrap (b - a) < d) then (g c (i64.wrap (b - a)) d x y (fun (t,u)=>k0 (t,u))) else k0 (x,y) else k0 (x,y))) else bif decide (c < i64.wrap (b - a)) then bif decide (i64.wrap (b - a) < d) then (g c (i64.wrap (b - a)) d e f (fun (v,w)=>k0 (v,w))) else k0 (e,f) else k0 (e,f) else bif decide (c < i64.wrap (b - a)) then bif decide (i64.wrap (b - a) < d) then (g c (i64.wrap (b - a)) d e f (fun (n,o)=>k0 (n,o))) else k0 (e,f) else k0 (e,f))) else (gj Z (j,k,l,i64.wrap (Ev.ishr IntKind.u64 (u64.wrap (i64.wrap (j+l))) (1:Int)),i64.wrap (i64.wrap (Ev.ishr IntKind.u64 (u64.wrap (i64.wrap (j+l))) (1:Int))+k),j,k,i64.wrap (i64.wrap (i64.wrap (Ev.ishr IntKind.u64 (u64.wrap (i64.wrap (j+l))) (1:Int))+k) - (1:Int)),A,B) (fun (m,z,d,c,b,a,e,f)=>bif decide (a < z) then bif decide (z < i64.wrap (b - a)) then (bT Z a z (i64.wrap (b - a)) e f (fun (h,i)=>bif decide (m < a) then bif decide (a < c) then (g m a c h i (fun (p,q)=>bif decide (c < i64.wrap (b - a)) then bif decide (i64.wrap (b - a) < d) then (g c (i64.wrap (b - a)) d p q (fun (C,D)=>k0 (C,D))) else k0 (p,q) else k0 (p,q))) else bif decide (c < i64.wrap (b - a)) then bif decide (i64.wrap (b - a) < d) then (g c (i64.wrap (b - a)) d h i (fun (r,s)=>k0 (r,s))) else k0 (h,i) else k0 (h,i) else bif decide (c < i64.wrap (b - a)) then bif decide (i64.wrap (b - a) < d) then (g c (i64.wrap (b - a)) d h i (fun (t,u)=>k0 (t,u))) else k0 (h,i) else k0 (h,i))) else bif decide (m < a) then bif decide (a < c) then (g m a c e f (fun (n,o)=>bif decide (c < i64.wrap (b - a)) then bif decide (i64.wrap (b - a) < d) then (g c (i64.wrap (b - a)) d n o (fun (r,s)=>k0 (r,s))) else k0 (n,o) else k0 (n,o))) else bif decide (c < i64.wrap (b - a)) then bif decide (i64.wrap (b - a) < d) then (g c (i64.wrap (b - a)) d e f (fun (E,F)=>k0 (E,F))) else k0 (e,f) else k0 (e,f) else bif decide (c < i64.wrap (b - a)) then bif decide (i64.wrap (b - a) < d) then (g c (i64.wrap (b - a)) d e f (fun (v,w)=>k0 (v,w))) else k0 (e,f) else k0 (e,f) else bif decide (m < a) then bif decide (a < c) then (g m a c e f (fun (x,y)=>bif decide (c < i64.wrap (b - a)) then bif decide (i64.wrap (b - a) < d) then (g c (i64.wrap (b - a)) d x y (fun (t,u)=>k0 (t,u))) else k0 (x,y) else k0 (x,y))) else bif decide (c < i64.wrap (b - a)) then bif decide (i64.wrap (b - a) < d) then (g c (i64.wrap (b - a)) d e f (fun (v,w)=>k0 (v,w))) else k0 (e,f) else k0 (e,f) else bif decide (c < i64.wrap (b - a)) then bif decide (i64.wrap (b - a) < d) then (g c (i64.wrap (b - a)) d e f (fun (n,o)=>k0 (n,o))) else k0 (e,f) else k0 (e,f)))
def fO (Z:Nat):Nat→ae | 0=>fun _ _ _ _ _ _=>none | n+1=>fun a b c d e k0=>dn (fO Z n) Z a b c d e k0
def bS (Z:Nat) (a b c:Int) (d:LI) (e:(List BM)) (k0:(LI×(List BM))→OA):OA:=fO Z Z a b c d e k0
theorem KC (Z:Nat) (K:bz) (h:ae) (F:dD) (i m n:Int) (D:LI) (E:(List BM)) (k:Ev.Cont):evalFn tab (fi K h F) (ll Z) af Z Tryz.f149 [.c (.own 0),.c (i6 i),.c (i6 m),.c (i6 n),.c (.clo 47 [1])] [.vec 3 ti D false,.cells 34 [.sl tq E]] k=(fun  (k0:(LI×(List BM))→OA)=>
 bif i64.wrap (m - i)==(1:Int) then
 (uu Z (i,m,n,D,E)
 (fun (L,M,N,O)=>
 (lb Z (M,L,N,O)
 (fun (P,Q)=>
 k0 (P,Q)))))
 else
 bif i64.wrap (n - m)==(1:Int) then
 (ui Z (m,i,m,D,E)
 (fun (R,S,T,U)=>
 (nB Z (S,R,T,U)
 (fun (V,W)=>
 k0 (V,W)))))
 else
 bif decide (m > i64.wrap (Ev.ishr IntKind.u64 (u64.wrap (i64.wrap (i+n))) (1:Int))) then
 (gj Z (i,m,n,i64.wrap (Ev.ishr IntKind.u64 (u64.wrap (i64.wrap (i+n))) (1:Int)),i64.wrap (i64.wrap (Ev.ishr IntKind.u64 (u64.wrap (i64.wrap (i+n))) (1:Int))+m),i64.wrap (i64.wrap (i64.wrap (Ev.ishr IntKind.u64 (u64.wrap (i64.wrap (i+n))) (1:Int))+m) - n),i64.wrap (Ev.ishr IntKind.u64 (u64.wrap (i64.wrap (i+n))) (1:Int)),i64.wrap (i64.wrap (i64.wrap (Ev.ishr IntKind.u64 (u64.wrap (i64.wrap (i+n))) (1:Int))+m) - (1:Int)),D,E)
 (fun (o,C,e,d,b,a,f,g)=>
 bif decide (a < C) then
 bif decide (C < i64.wrap (b - a)) then
 (F a C (i64.wrap (b - a)) f g
 (fun (j,l)=>
 bif decide (o < a) then
 bif decide (a < d) then
 (h o a d j l
 (fun (s,t)=>
 bif decide (d < i64.wrap (b - a)) then
 bif decide (i64.wrap (b - a) < e) then
 (h d (i64.wrap (b - a)) e s t
 (fun (G,H)=>
 k0 (G,H)))
 else
 k0 (s,t)
 else
 k0 (s,t)))
 else
 bif decide (d < i64.wrap (b - a)) then
 bif decide (i64.wrap (b - a) < e) then
 (h d (i64.wrap (b - a)) e j l
 (fun (u,v)=>
 k0 (u,v)))
 else
 k0 (j,l)
 else
 k0 (j,l)
 else
 bif decide (d < i64.wrap (b - a)) then
 bif decide (i64.wrap (b - a) < e) then
 (h d (i64.wrap (b - a)) e j l
 (fun (w,x)=>
 k0 (w,x)))
 else
 k0 (j,l)
 else
 k0 (j,l)))
 else
 bif decide (o < a) then
 bif decide (a < d) then
 (h o a d f g
 (fun (p,q)=>
 bif decide (d < i64.wrap (b - a)) then
 bif decide (i64.wrap (b - a) < e) then
 (h d (i64.wrap (b - a)) e p q
 (fun (u,v)=>
 k0 (u,v)))
 else
 k0 (p,q)
 else
 k0 (p,q)))
 else
 bif decide (d < i64.wrap (b - a)) then
 bif decide (i64.wrap (b - a) < e) then
 (h d (i64.wrap (b - a)) e f g
 (fun (I,J)=>
 k0 (I,J)))
 else
 k0 (f,g)
 else
 k0 (f,g)
 else
 bif decide (d < i64.wrap (b - a)) then
 bif decide (i64.wrap (b - a) < e) then
 (h d (i64.wrap (b - a)) e f g
 (fun (y,z)=>
 k0 (y,z)))
 else
 k0 (f,g)
 else
 k0 (f,g)
 else
 bif decide (o < a) then
 bif decide (a < d) then
 (h o a d f g
 (fun (A,B)=>
 bif decide (d < i64.wrap (b - a)) then
 bif decide (i64.wrap (b - a) < e) then
 (h d (i64.wrap (b - a)) e A B
 (fun (w,x)=>
 k0 (w,x)))
 else
 k0 (A,B)
 else
 k0 (A,B)))
 else
 bif decide (d < i64.wrap (b - a)) then
 bif decide (i64.wrap (b - a) < e) then
 (h d (i64.wrap (b - a)) e f g
 (fun (y,z)=>
 k0 (y,z)))
 else
 k0 (f,g)
 else
 k0 (f,g)
 else
 bif decide (d < i64.wrap (b - a)) then
 bif decide (i64.wrap (b - a) < e) then
 (h d (i64.wrap (b - a)) e f g
 (fun (p,q)=>
 k0 (p,q)))
 else
 k0 (f,g)
 else
 k0 (f,g)))
 else
 (gj Z (i,m,n,i64.wrap (Ev.ishr IntKind.u64 (u64.wrap (i64.wrap (i+n))) (1:Int)),i64.wrap (i64.wrap (Ev.ishr IntKind.u64 (u64.wrap (i64.wrap (i+n))) (1:Int))+m),i,m,i64.wrap (i64.wrap (i64.wrap (Ev.ishr IntKind.u64 (u64.wrap (i64.wrap (i+n))) (1:Int))+m) - (1:Int)),D,E)
 (fun (o,C,e,d,b,a,f,g)=>
 bif decide (a < C) then
 bif decide (C < i64.wrap (b - a)) then
 (F a C (i64.wrap (b - a)) f g
 (fun (j,l)=>
 bif decide (o < a) then
 bif decide (a < d) then
 (h o a d j l
 (fun (s,t)=>
 bif decide (d < i64.wrap (b - a)) then
 bif decide (i64.wrap (b - a) < e) then
 (h d (i64.wrap (b - a)) e s t
 (fun (G,H)=>
 k0 (G,H)))
 else
 k0 (s,t)
 else
 k0 (s,t)))
 else
 bif decide (d < i64.wrap (b - a)) then
 bif decide (i64.wrap (b - a) < e) then
 (h d (i64.wrap (b - a)) e j l
 (fun (u,v)=>
 k0 (u,v)))
 else
 k0 (j,l)
 else
 k0 (j,l)
 else
 bif decide (d < i64.wrap (b - a)) then
 bif decide (i64.wrap (b - a) < e) then
 (h d (i64.wrap (b - a)) e j l
 (fun (w,x)=>
 k0 (w,x)))
 else
 k0 (j,l)
 else
 k0 (j,l)))
 else
 bif decide (o < a) then
 bif decide (a < d) then
 (h o a d f g
 (fun (p,q)=>
 bif decide (d < i64.wrap (b - a)) then
 bif decide (i64.wrap (b - a) < e) then
 (h d (i64.wrap (b - a)) e p q
 (fun (u,v)=>
 k0 (u,v)))
 else
 k0 (p,q)
 else
 k0 (p,q)))
 else
 bif decide (d < i64.wrap (b - a)) then
 bif decide (i64.wrap (b - a) < e) then
 (h d (i64.wrap (b - a)) e f g
 (fun (I,J)=>
 k0 (I,J)))
 else
 k0 (f,g)
 else
 k0 (f,g)
 else
 bif decide (d < i64.wrap (b - a)) then
 bif decide (i64.wrap (b - a) < e) then
 (h d (i64.wrap (b - a)) e f g
 (fun (y,z)=>
 k0 (y,z)))
 else
 k0 (f,g)
 else
 k0 (f,g)
 else
 bif decide (o < a) then
 bif decide (a < d) then
 (h o a d f g
 (fun (A,B)=>
 bif decide (d < i64.wrap (b - a)) then
 bif decide (i64.wrap (b - a) < e) then
 (h d (i64.wrap (b - a)) e A B
 (fun (w,x)=>
 k0 (w,x)))
 else
 k0 (A,B)
 else
 k0 (A,B)))
 else
 bif decide (d < i64.wrap (b - a)) then
 bif decide (i64.wrap (b - a) < e) then
 (h d (i64.wrap (b - a)) e f g
 (fun (y,z)=>
 k0 (y,z)))
 else
 k0 (f,g)
 else
 k0 (f,g)
 else
 bif decide (d < i64.wrap (b - a)) then
 bif decide (i64.wrap (b - a) < e) then
 (h d (i64.wrap (b - a)) e f g
 (fun (p,q)=>
 k0 (p,q)))
 else
 k0 (f,g)
 else
 k0 (f,g)))) (fun r=>match r with | (X,Y)=>k (.tup [],[.vec 3 ti X false,.cells 34 [.sl tq Y]])):=by
 kernel_rfl
theorem OJ (Z:Nat) (a:ae) (b d e:Int) (f:LI) (g:(List BM)) (k:Ev.Cont):evalFn tab (bK Z a) (ll Z) af Z Tryz.f149 [.c (.own 0),.c (i6 b),.c (i6 d),.c (i6 e),.c (.clo 47 [1])] [.vec 3 ti f false,.cells 34 [.sl tq g]] k=dn a Z b d e f g (fun r=>match r with | (h,i)=>k (.tup [],[.vec 3 ti h false,.cells 34 [.sl tq i]])):=
 KC Z (an Z) a (bT Z) b d e f g k
theorem gy (Z:Nat) (a:ae) (hself:FnOK prog 149 (bQ a)):GOK prog (bK Z a):=
 gc (zu Z) func47 kr rfl <|
 gok_cons ⟨hself,enters_of func149 kr rfl⟩ <|
 gc (G2 Z) func186 kr rfl <|
 gok_nil
theorem P7 (Z:Nat) (a:ae) (hself:FnOK prog 149 (bQ a)):BlkOK prog Tryz.f149.ntmps (.block 0 (.loop (bodyOf 0 Tryz.f149))) (dC Z):=
 blk_of (blk_of_code tab_ok (gy Z a hself) mixed (J:=J0) (kp:=af) (fuel:=Z) kr (fun q hq=>by
  rw [(by kernel_rfl:obl J0 (.block 0 (.loop (bodyOf 0 Tryz.f149)))= [])] at hq
  cases hq)) (GU Z a)
theorem Pl (Z:Nat) (a:ae) (hself:FnOK prog 149 (bQ a)):BlkOK prog Tryz.f149.ntmps (.block 2 (.loop (bodyOf 2 Tryz.f149))) (ew Z):=
 blk_of (blk_of_code tab_ok (gy Z a hself) mixed (J:=jG Z) (kp:=af) (fuel:=Z) kr (fun q hq=>by
  rw [(by kernel_rfl:obl (jG Z) (.block 2 (.loop (bodyOf 2 Tryz.f149)))= [])] at hq
  cases hq)) (Fn Z a)
theorem OH (Z:Nat) (a:ae) (hself:FnOK prog 149 (bQ a)):BlkOK prog Tryz.f149.ntmps (.block 4 (.loop (bodyOf 4 Tryz.f149))) (fN Z):=
 blk_of (blk_of_code tab_ok (gy Z a hself) mixed (J:=jS Z) (kp:=af) (fuel:=Z) kr (fun q hq=>by
  rw [(by kernel_rfl:obl (jS Z) (.block 4 (.loop (bodyOf 4 Tryz.f149)))= [])] at hq
  cases hq)) (FU Z a)
theorem Ki (Z:Nat) (a:ae) (hself:FnOK prog 149 (bQ a)):BlkOK prog Tryz.f149.ntmps (.block 6 (.loop (bodyOf 6 Tryz.f149))) (iF Z):=
 blk_of (blk_of_code tab_ok (gy Z a hself) mixed (J:=ju Z) (kp:=af) (fuel:=Z) kr (fun q hq=>by
  rw [(by kernel_rfl:obl (ju Z) (.block 6 (.loop (bodyOf 6 Tryz.f149)))= [])] at hq
  cases hq)) (Hz Z a)
theorem HE (Z:Nat) (a:ae) (hself:FnOK prog 149 (bQ a)):BlkOK prog Tryz.f149.ntmps (.block 8 (.loop (bodyOf 8 Tryz.f149))) (kj Z):=
 blk_of (blk_of_code tab_ok (gy Z a hself) mixed (J:=jd Z) (kp:=af) (fuel:=Z) kr (fun q hq=>by
  rw [(by kernel_rfl:obl (jd Z) (.block 8 (.loop (bodyOf 8 Tryz.f149)))= [])] at hq
  cases hq)) (Fy Z a)
theorem M4 (Z:Nat) (a:ae) (hself:FnOK prog 149 (bQ a)):FnOK prog 149 (evalFn tab (bK Z a) (ll Z) af Z Tryz.f149):=
 fn_ok tab_ok (gy Z a hself) mixed func149 (c:=(Tryz.f149.body).getD .skip) rfl (fun q hq=>by
  rw [(by kernel_rfl:obl (ll Z) ((Tryz.f149.body).getD .skip)= [(.block 0 (.loop (bodyOf 0 Tryz.f149)),dC Z),(.block 2 (.loop (bodyOf 2 Tryz.f149)),ew Z),(.block 4 (.loop (bodyOf 4 Tryz.f149)),fN Z),(.block 6 (.loop (bodyOf 6 Tryz.f149)),iF Z),(.block 8 (.loop (bodyOf 8 Tryz.f149)),kj Z)])] at hq
  simp only [List.mem_cons,List.not_mem_nil,or_false] at hq
  rcases hq with rfl | rfl | rfl | rfl | rfl
  ·exact P7 Z a hself
  ·exact Pl Z a hself
  ·exact OH Z a hself
  ·exact Ki Z a hself
  ·exact HE Z a hself)
def Kg (Z:Nat):Ev.Spec:=bQ (bS Z)
theorem Al (Z:Nat):∀ n:Nat,FnOK prog 149 (bQ (fO Z n))
 | 0=>by
  intro args objs kk r h
  unfold bQ at h
  split at h
  ·skip
   obtain ⟨hb,h⟩:=cond_some' h
   cases h
  ·cases h
 | n+1=>by
  intro args objs kk r h
  unfold bQ at h
  split at h
  ·skip
   obtain ⟨hb,h⟩:=cond_some' h
   cases qb_eq hb
   exact M4 Z (fO Z n) (Al Z n) _ _ kk r ((OJ Z (fO Z n) _ _ _ _ _ kk).trans h)
  ·cases h
theorem G8 (Z:Nat):FnOK prog 149 (Kg Z):=Al Z Z
def bv (i:Nat):Option (List Nat):=Ev.look i [(2,[0,1,2,6,7,8]),(7,[0,1,2,6]),(9,[0,1,2,6,7,8]),(100000,[0,1,2,6,7]),(100002,[]),(100004,[0,1,2,6,7]),(400000,[]),(400002,[]),(400004,[])]
def jv (a:ci) (b:ae) (f:Nat):Option Ev.Spec:=Ev.look f [(1000148,xH a),(1000149,bQ b)]
def kU (Z:Nat):Nat→Option Ev.Spec:=jv (bV Z) (bS Z)
abbrev pc:Type:=Int×Int×Int×Int×LI×(List BM)
abbrev wY:Type:=(Int×Int×Int×LI×(List BM)→OA)
def jD (Z:Nat) (i:ci) (l:ae) (d e:Int) (f a:Int) (g:LI) (h:(List BM)) (c:pc→OA) (B:wY):OA:=match B with | b=>bif decide (a≤d) then (i f a g h (fun (j,k)=>c (d,e,a,i64.wrap (a+e),j,k))) else b (d,e,f,g,h)
def fu (Z:Nat) (v:Int×Int×Int×Int×LI×(List BM)) (c:(Int×Int×Int×Int×LI×(List BM))→OA) (B:(Int×Int×Int×LI×(List BM)→OA)):OA:=match v with | (a,b,d,e,f,g)=>jD Z (bV Z) (bS Z) a b d e f g c B
def An (Z:Nat) (v:pc) (b:wY):OA:=iter (fu Z) Z v b
def pT (v:pc):Ev.St:=match v with | (a,b,d,e,f,g)=>⟨[(0,.c (.own 0)),(1,.c (i6 a)),(2,.c (.clo 47 [1])),(6,.c (i6 b)),(7,.c (i6 d)),(8,.c (i6 e))],[(0,.vec 3 ti f false),(1,.cells 34 [.sl tq g])],2,2⟩
def yE (K:KT):wY:=(fun v=>match v with | (a,b,d,e,f)=>K .normal ⟨[(0,.c (.own 0)),(1,.c (i6 a)),(2,.c (.clo 47 [1])),(6,.c (i6 b)),(7,.c (i6 d))],[(0,.vec 3 ti e false),(1,.cells 34 [.sl tq f])],2,2⟩)
theorem J7 (Z:Nat) (a:ci) (b:ae) (R:Ev.St→OA) (K:KT) (c d:Int) (e f:Int) (g:LI) (h:(List BM)):evalCode tab (jv a b) J0 bv Z (bodyOf 0 Tryz.f92) (pT (c,d,e,f,g,h)) (lc bv 2 0 R K)=jD Z a b c d e f g h (fun v=>R (pT v)) (yE K):=by
 kernel_rfl
def fG (Z:Nat):Ev.Blk:=fun st K=>match canonO (bv 2) st with | some s=>(match s with | ⟨[(g,.c (.own h)),(i,.c (i6 j)),(k,.c (.clo l [m])),(n,.c (i6 o)),(p,.c (i6 q)),(r,.c (i6 t))],[(u,.vec a ti v false),(b,.cells d [.sl tq w])],e,f⟩=>bif qb [g,h,i,k,l,m,n,p,r,u,a,b,d,e,f] [0,0,1,2,47,1,6,7,8,0,3,1,34,2,2] then iter (fu Z) Z (j,o,q,t,v,w) (yE K) else none | _=>none) | none=>none
theorem Pj (Z:Nat) (st:Ev.St) (K:KT) (r:Ans) (h:fG Z st K=some r):evalCode tab (kU Z) J0 bv Z (.block 0 (.loop (bodyOf 0 Tryz.f92))) st K=some r:=by
 unfold fG at h
 split at h
 ·rename_i s hs
  split at h
  ·skip
   obtain ⟨hb,h⟩:=cond_some' h
   cases qb_eq hb
   exact blk_loop (S:=pT) (ks:=yE) (step:=fu Z) (v:=(_,_,_,_,_,_)) kr kr (fun R K v=>by obtain ⟨a,b,c,d,e,f⟩:=v; exact J7 Z (bV Z) (bS Z) R K a b c d e f) hs h
  ·cases h
 ·cases h
abbrev vh:Type:=Int×Int×Int×Int×LI×(List BM)
abbrev th:Type:=(Int×Int×Int×LI×(List BM)→OA)
def iU (Z:Nat) (l:ci) (i:ae) (e a:Int) (f d:Int) (g:LI) (h:(List BM)) (c:vh→OA) (B:th):OA:=match B with | b=>bif decide (d≤e) then (i f (i64.wrap (f+a)) d g h (fun (j,k)=>c (e,a,d,i64.wrap (d+i64.wrap (2*a)),j,k))) else b (e,a,f,g,h)
def ee (Z:Nat) (v:Int×Int×Int×Int×LI×(List BM)) (c:(Int×Int×Int×Int×LI×(List BM))→OA) (B:(Int×Int×Int×LI×(List BM)→OA)):OA:=match v with | (a,b,d,e,f,g)=>iU Z (bV Z) (bS Z) a b d e f g c B
def pY (Z:Nat) (v:vh) (b:th):OA:=iter (ee Z) Z v b
def AY (Z:Nat) (i:Nat):Option Ev.Blk:=Ev.look i [(100000,fG Z)]
def rW (v:vh):Ev.St:=match v with | (a,b,d,e,f,g)=>⟨[(0,.c (.own 0)),(1,.c (i6 a)),(2,.c (.clo 47 [1])),(6,.c (i6 b)),(7,.c (i6 d)),(8,.c (i6 e))],[(0,.vec 3 ti f false),(1,.cells 34 [.sl tq g])],2,2⟩
def ue (K:KT):th:=(fun v=>match v with | (a,b,d,e,f)=>K .normal ⟨[(0,.c (.own 0)),(1,.c (i6 a)),(2,.c (.clo 47 [1])),(6,.c (i6 b)),(7,.c (i6 d))],[(0,.vec 3 ti e false),(1,.cells 34 [.sl tq f])],2,2⟩)
theorem KI (Z:Nat) (a:ci) (b:ae) (R:Ev.St→OA) (K:KT) (c d:Int) (e f:Int) (g:LI) (h:(List BM)):evalCode tab (jv a b) (AY Z) bv Z (bodyOf 4 Tryz.f92) (rW (c,d,e,f,g,h)) (lc bv 9 4 R K)=iU Z a b c d e f g h (fun v=>R (rW v)) (ue K):=by
 kernel_rfl
def iy (Z:Nat):Ev.Blk:=fun st K=>match canonO (bv 9) st with | some s=>(match s with | ⟨[(g,.c (.own h)),(i,.c (i6 j)),(k,.c (.clo l [m])),(n,.c (i6 o)),(p,.c (i6 q)),(r,.c (i6 t))],[(u,.vec a ti v false),(b,.cells d [.sl tq w])],e,f⟩=>bif qb [g,h,i,k,l,m,n,p,r,u,a,b,d,e,f] [0,0,1,2,47,1,6,7,8,0,3,1,34,2,2] then iter (ee Z) Z (j,o,q,t,v,w) (ue K) else none | _=>none) | none=>none
theorem HG (Z:Nat) (st:Ev.St) (K:KT) (r:Ans) (h:iy Z st K=some r):evalCode tab (kU Z) (AY Z) bv Z (.block 4 (.loop (bodyOf 4 Tryz.f92))) st K=some r:=by
 unfold iy at h
 split at h
 ·rename_i s hs
  split at h
  ·skip
   obtain ⟨hb,h⟩:=cond_some' h
   cases qb_eq hb
   exact blk_loop (S:=rW) (ks:=ue) (step:=ee Z) (v:=(_,_,_,_,_,_)) kr kr (fun R K v=>by obtain ⟨a,b,c,d,e,f⟩:=v; exact KI Z (bV Z) (bS Z) R K a b c d e f) hs h
  ·cases h
 ·cases h
abbrev wI:Type:=Int×Int×LI×(List BM)
abbrev wp:Type:=(LI×(List BM)→OA)
def eK (Z:Nat) (o:ci) (l:ae) (i f:Int) (j:LI) (k:(List BM)) (c:wI→OA) (B:wp):OA:=match B with | b=>bif decide (f < i) then (pY Z (i,f,0,i64.wrap (2*f),j,k) (fun (a,d,e,g,h)=>bif decide (i64.wrap (e+d) < a) then (l e (i64.wrap (e+d)) a g h (fun (m,n)=>c (a,i64.wrap (d*2),m,n))) else c (a,i64.wrap (d*2),g,h))) else b (j,k)
def cq (Z:Nat) (v:Int×Int×LI×(List BM)) (c:(Int×Int×LI×(List BM))→OA) (B:(LI×(List BM)→OA)):OA:=match v with | (a,b,d,e)=>eK Z (bV Z) (bS Z) a b d e c B
def qQ (Z:Nat) (v:wI) (b:wp):OA:=iter (cq Z) Z v b
def mN (Z:Nat) (i:Nat):Option Ev.Blk:=Ev.look i [(100000,fG Z),(100004,iy Z)]
def u9 (v:wI):Ev.St:=match v with | (a,b,d,e)=>⟨[(0,.c (.own 0)),(1,.c (i6 a)),(2,.c (.clo 47 [1])),(6,.c (i6 b))],[(0,.vec 3 ti d false),(1,.cells 34 [.sl tq e])],2,2⟩
def yS (K:KT):wp:=(fun v=>match v with | (a,b)=>K .normal ⟨[],[(0,.vec 3 ti a false),(1,.cells 34 [.sl tq b])],2,2⟩)
theorem Gs (Z:Nat) (a:ci) (b:ae) (R:Ev.St→OA) (K:KT) (c d:Int) (e:LI) (f:(List BM)):evalCode tab (jv a b) (mN Z) bv Z (bodyOf 2 Tryz.f92) (u9 (c,d,e,f)) (lc bv 7 2 R K)=eK Z a b c d e f (fun v=>R (u9 v)) (yS K):=by
 kernel_rfl
def iS (Z:Nat):Ev.Blk:=fun st K=>match canonO (bv 7) st with | some s=>(match s with | ⟨[(e,.c (.own f)),(g,.c (i6 h)),(i,.c (.clo j [k])),(l,.c (i6 m))],[(n,.vec o ti p false),(q,.cells a [.sl tq r])],b,d⟩=>bif qb [e,f,g,i,j,k,l,n,o,q,a,b,d] [0,0,1,2,47,1,6,0,3,1,34,2,2] then iter (cq Z) Z (h,m,p,r) (yS K) else none | _=>none) | none=>none
theorem Gj (Z:Nat) (st:Ev.St) (K:KT) (r:Ans) (h:iS Z st K=some r):evalCode tab (kU Z) (mN Z) bv Z (.block 2 (.loop (bodyOf 2 Tryz.f92))) st K=some r:=by
 unfold iS at h
 split at h
 ·rename_i s hs
  split at h
  ·skip
   obtain ⟨hb,h⟩:=cond_some' h
   cases qb_eq hb
   exact blk_loop (S:=u9) (ks:=yS) (step:=cq Z) (v:=(_,_,_,_)) kr kr (fun R K v=>by obtain ⟨a,b,c,d⟩:=v; exact Gs Z (bV Z) (bS Z) R K a b c d) hs h
  ·cases h
 ·cases h
def tZ (Z:Nat) (i:Nat):Option Ev.Blk:=Ev.look i [(100000,fG Z),(100004,iy Z),(100002,iS Z)]
def sf (Z:Nat) (b:ci) (n:ae) (k:Int) (l:LI) (m:(List BM)) (k0:(LI×(List BM))→OA):OA:=(An Z (k,20,0,20,l,m) (fun (a,c,d,e,f)=>(b d a e f (fun (g,h)=>(qQ Z (a,c,g,h) (fun (i,j)=>k0 (i,j)))))))
abbrev jF:Type:=Int→LI→((List BM))→((LI×(List BM))→OA)→OA
def jY (Z:Nat):jF:=sf Z (bV Z) (bS Z)
theorem I3 (Z:Nat) (a:ci) (b:ae) (d:Int) (e:LI) (f:(List BM)) (k:Ev.Cont):evalFn tab (jv a b) (tZ Z) bv Z Tryz.f92 [.c (.own 0),.c (i6 d),.c (.clo 47 [1])] [.vec 3 ti e false,.cells 34 [.sl tq f]] k=sf Z a b d e f (fun r=>match r with | (g,h)=>k (.tup [],[.vec 3 ti g false,.cells 34 [.sl tq h]])):=by
 kernel_rfl
theorem oK (Z:Nat):GOK prog (kU Z):=
 gc (Ph Z) func148 kr rfl <|
 gc (G8 Z) func149 kr rfl <|
 gok_nil
theorem Ew (Z:Nat):BlkOK prog Tryz.f92.ntmps (.block 0 (.loop (bodyOf 0 Tryz.f92))) (fG Z):=bo0 (oK Z) kr kr (Pj Z)
theorem M6 (Z:Nat):BlkOK prog Tryz.f92.ntmps (.block 4 (.loop (bodyOf 4 Tryz.f92))) (iy Z):=bo0 (oK Z) kr kr (HG Z)
theorem Ez (Z:Nat):BlkOK prog Tryz.f92.ntmps (.block 2 (.loop (bodyOf 2 Tryz.f92))) (iS Z):=
 blk_of (blk_of_code tab_ok (oK Z) mixed (J:=mN Z) (kp:=bv) (fuel:=Z) kr (fun q hq=>by
  rw [(by kernel_rfl:obl (mN Z) (.block 2 (.loop (bodyOf 2 Tryz.f92)))= [(.block 4 (.loop (bodyOf 4 Tryz.f92)),iy Z)])] at hq
  simp only [List.mem_cons,List.not_mem_nil,or_false] at hq
  subst hq
  ·exact M6 Z)) (Gj Z)
theorem EH (Z:Nat):FnOK prog 92 (evalFn tab (kU Z) (tZ Z) bv Z Tryz.f92):=
 fn_ok tab_ok (oK Z) mixed func92 (c:=(Tryz.f92.body).getD .skip) rfl (fun q hq=>by
  rw [(by kernel_rfl:obl (tZ Z) ((Tryz.f92.body).getD .skip)= [(.block 0 (.loop (bodyOf 0 Tryz.f92)),fG Z),(.block 2 (.loop (bodyOf 2 Tryz.f92)),iS Z)])] at hq
  simp only [List.mem_cons,List.not_mem_nil,or_false] at hq
  rcases hq with rfl | rfl
  ·exact Ew Z
  ·exact Ez Z)
def sO (F:jF):Ev.Spec:=fun args objs k=>match args,objs with | [.c (.own a),.c (i6 b),.c (.clo d [e])],[.vec f ti g false,.cells h [.sl tq i]]=>bif qb [a,d,e,f,h] [0,47,1,3,34] then F b g i (fun r=>match r with | (j,l)=>k (.tup [],[.vec 3 ti j false,.cells 34 [.sl tq l]])) else none | _,_=>none
theorem Iq (Z:Nat):FnOK prog 92 (sO (jY Z)):=by
 intro args objs kk r h
 unfold sO at h
 split at h
 ·skip
  obtain ⟨hb,h⟩:=cond_some' h
  cases qb_eq hb
  exact EH Z _ _ kk r ((I3 Z (bV Z) (bS Z) _ _ _ kk).trans h)
 ·cases h
def H1 (i:Nat):Option (List Nat):=Ev.look i []
def Ea (a:jF) (f:Nat):Option Ev.Spec:=Ev.look f [(1000092,sO a)]
def NO (Z:Nat):Nat→Option Ev.Spec:=Ea (jY Z)
def pN (Z:Nat) (b:jF) (a:LI) (e:(List BM)) (k0:(LI×(List BM))→OA):OA:=(b ((↑a.length:Int)) a e (fun (c,d)=>k0 (c,d)))
abbrev fc:Type:=LI→((List BM))→((LI×(List BM))→OA)→OA
def eq (Z:Nat):fc:=pN Z (jY Z)
theorem Ku (Z:Nat) (a:jF) (b:LI) (d:(List BM)) (k:Ev.Cont):evalFn tab (Ea a) J0 H1 Z Tryz.f46 [.c (.own 0),.c (.clo 47 [1])] [.vec 3 ti b false,.cells 34 [.sl tq d]] k=pN Z a b d (fun r=>match r with | (e,f)=>k (.tup [],[.vec 3 ti e false,.cells 34 [.sl tq f]])):=by
 kernel_rfl
theorem Jh (Z:Nat):GOK prog (NO Z):=
 gc (Iq Z) func92 kr rfl <|
 gok_nil
def vv (F:fc):Ev.Spec:=fun args objs k=>match args,objs with | [.c (.own a),.c (.clo b [d])],[.vec e ti f false,.cells g [.sl tq h]]=>bif qb [a,b,d,e,g] [0,47,1,3,34] then F f h (fun r=>match r with | (i,j)=>k (.tup [],[.vec 3 ti i false,.cells 34 [.sl tq j]])) else none | _,_=>none
theorem MI (Z:Nat):FnOK prog 46 (vv (eq Z)):=by
 intro args objs kk r h
 unfold vv at h
 split at h
 ·skip
  obtain ⟨hb,h⟩:=cond_some' h
  cases qb_eq hb
  exact fo0 (Jh Z) func46 rfl kr _ _ kk r ((Ku Z (jY Z) _ _ kk).trans h)
 ·cases h
def jQ (i:Nat):Option (List Nat):=Ev.look i [(5,[1,4,9,10]),(100000,[1,4]),(400000,[2,3])]
def xa (a:eJ) (b:fc) (f:Nat):Option Ev.Spec:=Ev.look f [(41,vz a),(1000046,vv b)]
def BX (Z:Nat):Nat→Option Ev.Spec:=xa (dR Z) (eq Z)
abbrev vN:Type:=Int×Int×(List BM)×LI
abbrev tS:Type:=((List BM)×LI→OA)
def mo (Z:Nat) (g:eJ) (h:fc) (e a:Int) (f:(List BM)) (d:LI) (c:vN→OA) (B:tS):OA:=match B with | b=>bif decide (a < e) then bif decide ((d.length+ [a].length)*(8:Nat)≤(140737488355328:Nat)∧d.length+ [a].length≤(140737488355328:Nat)) then c (e,i64.wrap (a+(1:Int)),f,d++ [a]) else none else b (f,d)
def gS (Z:Nat) (v:Int×Int×(List BM)×LI) (c:(Int×Int×(List BM)×LI)→OA) (B:((List BM)×LI→OA)):OA:=match v with | (a,b,d,e)=>mo Z (dR Z) (eq Z) a b d e c B
def pC (Z:Nat) (v:vN) (b:tS):OA:=iter (gS Z) Z v b
def qy (v:vN):Ev.St:=match v with | (a,b,d,e)=>⟨[(1,.c (.ptr 0 0)),(4,.c (.own 1)),(9,.c (i6 a)),(10,.c (i6 b))],[(0,.cells 34 [.sl tq d]),(1,.vec 3 ti e true)],2,0⟩
def uB (K:KT):tS:=(fun v=>match v with | (a,b)=>K .normal ⟨[(1,.c (.ptr 0 0)),(4,.c (.own 1))],[(0,.cells 34 [.sl tq a]),(1,.vec 3 ti b true)],2,0⟩)
theorem JR (Z:Nat) (a:eJ) (b:fc) (R:Ev.St→OA) (K:KT) (c d:Int) (e:(List BM)) (f:LI):evalCode tab (xa a b) J0 jQ Z (bodyOf 0 Tryz.f16) (qy (c,d,e,f)) (lc jQ 5 0 R K)=mo Z a b c d e f (fun v=>R (qy v)) (uB K):=by
 kernel_rfl
def nV (Z:Nat):Ev.Blk:=fun st K=>match canonO (jQ 5) st with | some s=>(match s with | ⟨[(e,.c (.ptr f g)),(h,.c (.own i)),(j,.c (i6 k)),(l,.c (i6 m))],[(n,.cells o [.sl tq p]),(q,.vec a ti r true)],b,d⟩=>bif qb [e,f,g,h,i,j,l,n,o,q,a,b,d] [1,0,0,4,1,9,10,0,34,1,3,2,0] then iter (gS Z) Z (k,m,p,r) (uB K) else none | _=>none) | none=>none
theorem Mx (Z:Nat) (st:Ev.St) (K:KT) (r:Ans) (h:nV Z st K=some r):evalCode tab (BX Z) J0 jQ Z (.block 0 (.loop (bodyOf 0 Tryz.f16))) st K=some r:=by
 unfold nV at h
 split at h
 ·rename_i s hs
  split at h
  ·skip
   obtain ⟨hb,h⟩:=cond_some' h
   cases qb_eq hb
   exact blk_loop (S:=qy) (ks:=uB) (step:=gS Z) (v:=(_,_,_,_)) kr kr (fun R K v=>by obtain ⟨a,b,c,d⟩:=v; exact JR Z (dR Z) (eq Z) R K a b c d) hs h
  ·cases h
 ·cases h
def Pw (Z:Nat) (i:Nat):Option Ev.Blk:=Ev.look i [(100000,nV Z)]
def tJ (Z:Nat) (b:eJ) (c:fc) (a:(List (Int×Int×LI))) (k0:(Int×LI)→OA):OA:=(b a (fun g=>bif g then k0 (30,[]) else (pC Z ((↑a.length:Int),0,a,[]) (fun (e,f)=>(c f e (fun (d,h)=>k0 (0,d)))))))
abbrev bj:Type:=((List (Int×Int×LI)))→((Int×LI)→OA)→OA
def bb (Z:Nat):bj:=tJ Z (dR Z) (eq Z)
theorem O5 (Z:Nat) (a:eJ) (b:fc) (d:(List (Int×Int×LI))) (k:Ev.Cont):evalFn tab (xa a b) (Pw Z) jQ Z Tryz.f16 [.c (.sl tq d)] [] k=tJ Z a b d (fun r=>match r with | (e,f)=>k (.tup [(false,[.own 0]),(false,[i6 e])],[.vec 3 ti f true])):=by
 kernel_rfl
theorem Cu (Z:Nat):GOK prog (BX Z):=
 gc (FC Z) func41 kr rfl <|
 gc (MI Z) func46 kr rfl <|
 gok_nil
theorem Nl (Z:Nat):BlkOK prog Tryz.f16.ntmps (.block 0 (.loop (bodyOf 0 Tryz.f16))) (nV Z):=bo0 (Cu Z) kr kr (Mx Z)
def pl (F:bj):Ev.Spec:=fun args objs k=>match args,objs with | [.c (.sl tq a)],[]=>F a (fun r=>match r with | (b,d)=>k (.tup [(false,[.own 0]),(false,[i6 b])],[.vec 3 ti d true])) | _,_=>none
theorem N9 (Z:Nat):FnOK prog 16 (pl (bb Z)):=by
 intro args objs kk r h
 unfold pl at h
 split at h
 ·skip
  exact fo1 (Cu Z) func16 rfl (Nl Z) kr _ _ kk r ((O5 Z (dR Z) (eq Z) _ kk).trans h)
 ·cases h
def ar (i:Nat):Option (List Nat):=Ev.look i [(3,[1,2,3,7,8]),(6,[1,2,3,7,8,9]),(14,[1,2,3,10,11,12]),(22,[1,2,3,10,11,12,13,15,16,17]),(26,[1,2,3,10,11,12,13,15,16,18]),(100000,[1,2,3,7]),(100002,[1,2,3,7,8]),(100004,[]),(100006,[1,2,3,10,11,12,13,15,16]),(100008,[1,2,3,10,11,12,15,16]),(200028,[1,13]),(400000,[6]),(400002,[6]),(400004,[6]),(400006,[6]),(400008,[6])]
def fd (i:bp) (j:bD) (a:bi) (b:bq) (c:bn) (d:bw) (e:bj) (g:bB) (h:bE) (f:Nat):Option Ev.Spec:=Ev.look f [(7,xu i),(9,rj j),(11,ud a),(12,vL b),(13,tk c),(14,yg d),(16,pl e),(17,sn g),(18,xl h)]
def G4 (Z:Nat):Nat→Option Ev.Spec:=fd (bc Z) (bu Z) (aW Z) (aQ Z) (aV Z) (aU Z) (bb Z) (aO Z) (aM Z)
abbrev pw:Type:=(List (List BM))×(List Bool)×Int×Int×Int×Int×Int×Int×Bool×Int×Int
abbrev xc:Type:=((List (List BM))×(List Bool)×Int×Int×Int×Int×Int×Bool×Int×Int→OA)
def oL (Z:Nat) (u:bp) (v:bD) (n:bi) (o:bq) (p:bn) (q:bw) (r:bj) (s:bB) (t:bE) (d:(List (List BM))) (g:(List Bool)) (h a:Int) (e i:Int) (j k:Int) (l:Bool) (m f:Int) (c:pw→OA) (B:xc):OA:=match B with | b=>bif decide (0≤a∧a < (↑d.length:Int)) then bif decide (e < (↑(List.length (d.getD a.toNat [])):Int)) then bif decide (0≤a∧a < (↑d.length:Int)) then bif decide (0≤e∧e < (↑(List.length (d.getD a.toNat [])):Int)) then c (d,g,i64.wrap (i64.wrap (h+1)+(↑(List.length (List.getD (d.getD a.toNat []) e.toNat (0,0,[])).snd.snd):Int)),a,i64.wrap (e+1),i,j,k,l,m,f) else none else none else b (d,g,h,a,i,j,k,l,m,f) else none
def iE (Z:Nat) (v:(List (List BM))×(List Bool)×Int×Int×Int×Int×Int×Int×Bool×Int×Int) (c:((List (List BM))×(List Bool)×Int×Int×Int×Int×Int×Int×Bool×Int×Int)→OA) (B:((List (List BM))×(List Bool)×Int×Int×Int×Int×Int×Bool×Int×Int→OA)):OA:=match v with | (b,d,e,f,g,h,i,j,k,l,a)=>oL Z (bc Z) (bu Z) (aW Z) (aQ Z) (aV Z) (aU Z) (bb Z) (aO Z) (aM Z) b d e f g h i j k l a c B
def zi (Z:Nat) (v:pw) (b:xc):OA:=iter (iE Z) Z v b
def xb (v:pw):Ev.St:=match v with | (b,d,e,f,g,h,i,j,k,l,a)=>⟨[(1,.c (.sl (.sl tq) b)),(2,.c (.sl .bool d)),(3,.c (.ptr 0 0)),(7,.c (i6 e)),(8,.c (i6 f)),(9,.c (i6 g))],[(0,.cells 26 [i6 h,i6 i,i6 j,.bool k,i6 l,i6 a])],1,0⟩
def xd (K:KT):xc:=(fun v=>match v with | (a,b,d,e,f,g,h,i,j,k)=>K .normal ⟨[(1,.c (.sl (.sl tq) a)),(2,.c (.sl .bool b)),(3,.c (.ptr 0 0)),(7,.c (i6 d)),(8,.c (i6 e))],[(0,.cells 26 [i6 f,i6 g,i6 h,.bool i,i6 j,i6 k])],1,0⟩)
theorem Ll (Z:Nat) (i:bp) (j:bD) (a:bi) (b:bq) (c:bn) (d:bw) (e:bj) (f:bB) (g:bE) (R:Ev.St→OA) (K:KT) (k:(List (List BM))) (l:(List Bool)) (m n:Int) (o p:Int) (q r:Int) (s:Bool) (t h:Int):evalCode tab (fd i j a b c d e f g) J0 ar Z (bodyOf 2 Tryz.f4) (xb (k,l,m,n,o,p,q,r,s,t,h)) (lc ar 6 2 R K)=oL Z i j a b c d e f g k l m n o p q r s t h (fun v=>R (xb v)) (xd K):=by
 kernel_rfl
def dF (Z:Nat):Ev.Blk:=fun st K=>match canonO (ar 6) st with | some s=>(match s with | ⟨[(e,.c (.sl (.sl tq) f)),(g,.c (.sl .bool h)),(i,.c (.ptr j k)),(l,.c (i6 m)),(n,.c (i6 o)),(p,.c (i6 q))],[(r,.cells t [i6 u,i6 v,i6 w,.bool x,i6 y,i6 a])],b,d⟩=>bif qb [e,g,i,j,k,l,n,p,r,t,b,d] [1,2,3,0,0,7,8,9,0,26,1,0] then iter (iE Z) Z (f,h,m,o,q,u,v,w,x,y,a) (xd K) else none | _=>none) | none=>none
theorem ME (Z:Nat) (st:Ev.St) (K:KT) (r:Ans) (h:dF Z st K=some r):evalCode tab (G4 Z) J0 ar Z (.block 2 (.loop (bodyOf 2 Tryz.f4))) st K=some r:=by
 unfold dF at h
 split at h
 ·rename_i s hs
  split at h
  ·skip
   obtain ⟨hb,h⟩:=cond_some' h
   cases qb_eq hb
   exact blk_loop (S:=xb) (ks:=xd) (step:=iE Z) (v:=(_,_,_,_,_,_,_,_,_,_,_)) kr kr (fun R K v=>by obtain ⟨b,c,d,e,f,g,i,j,k,l,a⟩:=v; exact Ll Z (bc Z) (bu Z) (aW Z) (aQ Z) (aV Z) (aU Z) (bb Z) (aO Z) (aM Z) R K b c d e f g i j k l a) hs h
  ·cases h
 ·cases h
abbrev zb:Type:=(List (List BM))×(List Bool)×Int×Int×Int×Int×Int×Bool×Int×Int
abbrev uJ:Type:=((List (List BM))×(List Bool)×Int×Int×Int×Int×Bool×Int×Int→OA)
def nm (Z:Nat) (E:bp) (F:bD) (w:bi) (x:bq) (y:bn) (z:bw) (A:bj) (C:bB) (D:bE) (a:(List (List BM))) (d:(List Bool)) (e f:Int) (g h i:Int) (j:Bool) (k l:Int) (c:zb→OA) (B:uJ):OA:=match B with | b=>bif decide (f < (↑a.length:Int)) then (zi Z (a,d,e,f,0,g,h,i,j,k,l) (fun (m,n,o,p,q,r,s,t,u,v)=>c (m,n,o,i64.wrap (p+1),q,r,s,t,u,v))) else b (a,d,e,g,h,i,j,k,l)
def gu (Z:Nat) (v:(List (List BM))×(List Bool)×Int×Int×Int×Int×Int×Bool×Int×Int) (c:((List (List BM))×(List Bool)×Int×Int×Int×Int×Int×Bool×Int×Int)→OA) (B:((List (List BM))×(List Bool)×Int×Int×Int×Int×Bool×Int×Int→OA)):OA:=match v with | (a,b,d,e,f,g,h,i,j,k)=>nm Z (bc Z) (bu Z) (aW Z) (aQ Z) (aV Z) (aU Z) (bb Z) (aO Z) (aM Z) a b d e f g h i j k c B
def tE (Z:Nat) (v:zb) (b:uJ):OA:=iter (gu Z) Z v b
def mg (Z:Nat) (i:Nat):Option Ev.Blk:=Ev.look i [(100002,dF Z)]
def sT (v:zb):Ev.St:=match v with | (a,b,d,e,f,g,h,i,j,k)=>⟨[(1,.c (.sl (.sl tq) a)),(2,.c (.sl .bool b)),(3,.c (.ptr 0 0)),(7,.c (i6 d)),(8,.c (i6 e))],[(0,.cells 26 [i6 f,i6 g,i6 h,.bool i,i6 j,i6 k])],1,0⟩
def qv (K:KT):uJ:=(fun v=>match v with | (a,b,d,e,f,g,h,i,j)=>K .normal ⟨[(1,.c (.sl (.sl tq) a)),(2,.c (.sl .bool b)),(3,.c (.ptr 0 0)),(7,.c (i6 d))],[(0,.cells 26 [i6 e,i6 f,i6 g,.bool h,i6 i,i6 j])],1,0⟩)
theorem G3 (Z:Nat) (h:bp) (i:bD) (a:bi) (b:bq) (c:bn) (d:bw) (e:bj) (f:bB) (g:bE) (R:Ev.St→OA) (K:KT) (j:(List (List BM))) (k:(List Bool)) (l m:Int) (n o p:Int) (q:Bool) (r s:Int):evalCode tab (fd h i a b c d e f g) (mg Z) ar Z (bodyOf 0 Tryz.f4) (sT (j,k,l,m,n,o,p,q,r,s)) (lc ar 3 0 R K)=nm Z h i a b c d e f g j k l m n o p q r s (fun v=>R (sT v)) (qv K):=by
 kernel_rfl
def eF (Z:Nat):Ev.Blk:=fun st K=>match canonO (ar 3) st with | some s=>(match s with | ⟨[(b,.c (.sl (.sl tq) d)),(e,.c (.sl .bool f)),(g,.c (.ptr h i)),(j,.c (i6 k)),(l,.c (i6 m))],[(n,.cells o [i6 p,i6 q,i6 r,.bool t,i6 u,i6 v])],w,a⟩=>bif qb [b,e,g,h,i,j,l,n,o,w,a] [1,2,3,0,0,7,8,0,26,1,0] then iter (gu Z) Z (d,f,k,m,p,q,r,t,u,v) (qv K) else none | _=>none) | none=>none
theorem F0 (Z:Nat) (st:Ev.St) (K:KT) (r:Ans) (h:eF Z st K=some r):evalCode tab (G4 Z) (mg Z) ar Z (.block 0 (.loop (bodyOf 0 Tryz.f4))) st K=some r:=by
 unfold eF at h
 split at h
 ·rename_i s hs
  split at h
  ·skip
   obtain ⟨hb,h⟩:=cond_some' h
   cases qb_eq hb
   exact blk_loop (S:=sT) (ks:=qv) (step:=gu Z) (v:=(_,_,_,_,_,_,_,_,_,_)) kr kr (fun R K v=>by obtain ⟨a,b,c,d,e,f,g,i,j,k⟩:=v; exact G3 Z (bc Z) (bu Z) (aW Z) (aQ Z) (aV Z) (aU Z) (bb Z) (aO Z) (aM Z) R K a b c d e f g i j k) hs h
  ·cases h
 ·cases h
abbrev sW:Type:=(List (List BM))×(List Bool)×Int×Int×Int×Int×Int×Bool×Int×Int×Int×(List BM)×LI×(List (BM×Int))×(List Bool)×LI
abbrev rm:Type:=((List (List BM))×(List Bool)×Int×Int×Int×Int×Bool×Int×Int×Int×(List BM)×LI×(List (BM×Int))×(List Bool)×LI→OA)
def ml (Z:Nat) (z:bp) (A:bD) (s:bi) (t:bq) (u:bn) (v:bw) (w:bj) (x:bB) (y:bE) (j:(List (List BM))) (k:(List Bool)) (l a:Int) (m n o:Int) (p:Bool) (q r g:Int) (e:(List BM)) (f:LI) (h:(List (BM×Int))) (d:(List Bool)) (i:LI) (c:sW→OA) (B:rm):OA:=match B with | b=>bif decide (a < i64.wrap ((↑e.length:Int)+(↑f.length:Int))) then bif decide ((d.length+ [a.tmod (3:Int) != (1:Int)].length)*(1:Nat)≤(140737488355328:Nat)∧d.length+ [a.tmod (3:Int) != (1:Int)].length≤(140737488355328:Nat)) then c (j,k,l,i64.wrap (a+(1:Int)),m,n,o,p,q,r,g,e,f,h,d++ [a.tmod (3:Int) != (1:Int)],i) else none else b (j,k,l,m,n,o,p,q,r,g,e,f,h,d,i)
def iD (Z:Nat) (v:(List (List BM))×(List Bool)×Int×Int×Int×Int×Int×Bool×Int×Int×Int×(List BM)×LI×(List (BM×Int))×(List Bool)×LI) (c:((List (List BM))×(List Bool)×Int×Int×Int×Int×Int×Bool×Int×Int×Int×(List BM)×LI×(List (BM×Int))×(List Bool)×LI)→OA) (B:((List (List BM))×(List Bool)×Int×Int×Int×Int×Bool×Int×Int×Int×(List BM)×LI×(List (BM×Int))×(List Bool)×LI→OA)):OA:=match v with | (h,i,j,k,l,m,n,o,p,q,a,b,d,e,f,g)=>ml Z (bc Z) (bu Z) (aW Z) (aQ Z) (aV Z) (aU Z) (bb Z) (aO Z) (aM Z) h i j k l m n o p q a b d e f g c B
def sQ (Z:Nat) (v:sW) (b:rm):OA:=iter (iD Z) Z v b
def Aw (Z:Nat) (i:Nat):Option Ev.Blk:=Ev.look i [(100002,dF Z),(100000,eF Z)]
def uD (v:sW):Ev.St:=match v with | (h,i,j,k,l,m,n,o,p,q,a,b,d,e,f,g)=>⟨[(1,.c (.sl (.sl tq) h)),(2,.c (.sl .bool i)),(3,.c (.ptr 0 0)),(10,.c (.ptr 1 0)),(11,.c (.own 2)),(12,.c (i6 j)),(13,.c (.own 3)),(15,.c (.own 4)),(16,.c (.own 5)),(17,.c (i6 k))],[(0,.cells 26 [i6 l,i6 m,i6 n,.bool o,i6 p,i6 q]),(1,.cells 40 [i6 a,.own 6]),(2,.vec 29 tq b true),(3,.vec 3 ti d true),(4,.vec 36 (.pair tq ti) e true),(5,.vec 4 .bool f true),(6,.vec 3 ti g true)],7,0⟩
def qo (K:KT):rm:=(fun v=>match v with | (g,h,i,j,k,l,m,n,o,p,a,b,d,e,f)=>K .normal ⟨[(1,.c (.sl (.sl tq) g)),(2,.c (.sl .bool h)),(3,.c (.ptr 0 0)),(10,.c (.ptr 1 0)),(11,.c (.own 2)),(12,.c (i6 i)),(13,.c (.own 3)),(15,.c (.own 4)),(16,.c (.own 5))],[(0,.cells 26 [i6 j,i6 k,i6 l,.bool m,i6 n,i6 o]),(1,.cells 40 [i6 p,.own 6]),(2,.vec 29 tq a true),(3,.vec 3 ti b true),(4,.vec 36 (.pair tq ti) d true),(5,.vec 4 .bool e true),(6,.vec 3 ti f true)],7,0⟩)
theorem Hh (Z:Nat) (n:bp) (o:bD) (a:bi) (b:bq) (c:bn) (d:bw) (e:bj) (f:bB) (g:bE) (R:Ev.St→OA) (K:KT) (p:(List (List BM))) (q:(List Bool)) (r s:Int) (t u w:Int) (x:Bool) (y z h:Int) (i:(List BM)) (j:LI) (k:(List (BM×Int))) (l:(List Bool)) (m:LI):evalCode tab (fd n o a b c d e f g) (Aw Z) ar Z (bodyOf 6 Tryz.f4) (uD (p,q,r,s,t,u,w,x,y,z,h,i,j,k,l,m)) (lc ar 22 6 R K)=ml Z n o a b c d e f g p q r s t u w x y z h i j k l m (fun v=>R (uD v)) (qo K):=by
 kernel_rfl
def fj (Z:Nat):Ev.Blk:=fun st K=>match canonO (ar 22) st with | some s=>(match s with | ⟨[(H,.c (.sl (.sl tq) I)),(J,.c (.sl .bool L)),(M,.c (.ptr N O)),(P,.c (.ptr Q R)),(S,.c (.own T)),(a,.c (i6 U)),(b,.c (.own d)),(e,.c (.own f)),(g,.c (.own h)),(i,.c (i6 V))],[(j,.cells k [i6 W,i6 X,i6 Y,.bool a0,i6 a1,i6 a2]),(l,.cells m [i6 n,.own o]),(p,.vec q tq r true),(t,.vec u ti v true),(w,.vec x (.pair tq ti) y true),(z,.vec A .bool B true),(C,.vec D ti E true)],F,G⟩=>bif qb [H,J,M,N,O,P,Q,R,S,T,a,b,d,e,f,g,h,i,j,k,l,m,o,p,q,t,u,w,x,z,A,C,D,F,G] [1,2,3,0,0,10,1,0,11,2,12,13,3,15,4,16,5,17,0,26,1,40,6,2,29,3,3,4,36,5,4,6,3,7,0] then iter (iD Z) Z (I,L,U,V,W,X,Y,a0,a1,a2,n,r,v,y,B,E) (qo K) else none | _=>none) | none=>none
theorem FZ (Z:Nat) (st:Ev.St) (K:KT) (r:Ans) (h:fj Z st K=some r):evalCode tab (G4 Z) (Aw Z) ar Z (.block 6 (.loop (bodyOf 6 Tryz.f4))) st K=some r:=by
 unfold fj at h
 split at h
 ·rename_i s hs
  split at h
  ·skip
   obtain ⟨hb,h⟩:=cond_some' h
   cases qb_eq hb
   exact blk_loop (S:=uD) (ks:=qo) (step:=iD Z) (v:=(_,_,_,_,_,_,_,_,_,_,_,_,_,_,_,_)) kr kr (fun R K v=>by obtain ⟨g,i,j,k,l,m,n,o,p,q,a,b,c,d,e,f⟩:=v; exact Hh Z (bc Z) (bu Z) (aW Z) (aQ Z) (aV Z) (aU Z) (bb Z) (aO Z) (aM Z) R K g i j k l m n o p q a b c d e f) hs h
  ·cases h
 ·cases h
abbrev oV:Type:=(List (List BM))×(List Bool)×Int×Int×Int×Int×Int×Bool×Int×Int×Int×(List BM)×LI×(List (BM×Int))×(List Bool)×LI
abbrev yk:Type:=((List (List BM))×(List Bool)×Int×Int×Int×Int×Bool×Int×Int×Int×(List BM)×(List (BM×Int))×(List Bool)×LI→OA)
def lL (Z:Nat) (z:bp) (A:bD) (s:bi) (t:bq) (u:bn) (v:bw) (w:bj) (x:bB) (y:bE) (f:(List (List BM))) (l:(List Bool)) (e a:Int) (m n o:Int) (p:Bool) (q r i:Int) (h:(List BM)) (d:LI) (g:(List (BM×Int))) (j:(List Bool)) (k:LI) (c:oV→OA) (B:yk):OA:=match B with | b=>bif decide (a < (↑d.length:Int)) then bif decide (0≤e∧e < (↑f.length:Int)) then bif decide (0≤a∧a < (↑d.length:Int)) then bif decide (0≤d.getD a.toNat 0∧d.getD a.toNat 0 < (↑(List.length (f.getD e.toNat [])):Int)) then bif decide ((g.length+(1:Nat))*(48:Nat)≤(140737488355328:Nat)∧g.length+(1:Nat)≤(140737488355328:Nat)) then bif decide (i64.wrap (a.tmod (4:Int) - (1:Int))≥i64.wrap ((↑h.length:Int)+a)) then bif decide ((0:Int)≤a∧a < (↑(g++ [(((List.getD (f.getD e.toNat []) (Int.toNat (d.getD a.toNat (0:Int))) ((0:Int),(0:Int),[])).fst,(List.getD (f.getD e.toNat []) (Int.toNat (d.getD a.toNat (0:Int))) ((0:Int),(0:Int),[])).snd.fst,(List.getD (f.getD e.toNat []) (Int.toNat (d.getD a.toNat (0:Int))) ((0:Int),(0:Int),[])).snd.snd),i64.wrap (a.tmod (4:Int) - (1:Int)))]).length:Int)) then c (f,l,e,i64.wrap (a+(1:Int)),m,n,o,p,q,r,i,h,d,(g++ [(((List.getD (f.getD e.toNat []) (Int.toNat (d.getD a.toNat (0:Int))) ((0:Int),(0:Int),[])).fst,(List.getD (f.getD e.toNat []) (Int.toNat (d.getD a.toNat (0:Int))) ((0:Int),(0:Int),[])).snd.fst,(List.getD (f.getD e.toNat []) (Int.toNat (d.getD a.toNat (0:Int))) ((0:Int),(0:Int),[])).snd.snd),i64.wrap (a.tmod (4:Int) - (1:Int)))]).set a.toNat ((((g++ [(((List.getD (f.getD e.toNat []) (Int.toNat (d.getD a.toNat (0:Int))) ((0:Int),(0:Int),[])).fst,(List.getD (f.getD e.toNat []) (Int.toNat (d.getD a.toNat (0:Int))) ((0:Int),(0:Int),[])).snd.fst,(List.getD (f.getD e.toNat []) (Int.toNat (d.getD a.toNat (0:Int))) ((0:Int),(0:Int),[])).snd.snd),i64.wrap (a.tmod (4:Int) - (1:Int)))]).getD a.toNat (((0:Int),(0:Int),[]),(0:Int))).fst.fst,((g++ [(((List.getD (f.getD e.toNat []) (Int.toNat (d.getD a.toNat (0:Int))) ((0:Int),(0:Int),[])).fst,(List.getD (f.getD e.toNat []) (Int.toNat (d.getD a.toNat (0:Int))) ((0:Int),(0:Int),[])).snd.fst,(List.getD (f.getD e.toNat []) (Int.toNat (d.getD a.toNat (0:Int))) ((0:Int),(0:Int),[])).snd.snd),i64.wrap (a.tmod (4:Int) - (1:Int)))]).getD a.toNat (((0:Int),(0:Int),[]),(0:Int))).fst.snd.fst,((g++ [(((List.getD (f.getD e.toNat []) (Int.toNat (d.getD a.toNat (0:Int))) ((0:Int),(0:Int),[])).fst,(List.getD (f.getD e.toNat []) (Int.toNat (d.getD a.toNat (0:Int))) ((0:Int),(0:Int),[])).snd.fst,(List.getD (f.getD e.toNat []) (Int.toNat (d.getD a.toNat (0:Int))) ((0:Int),(0:Int),[])).snd.snd),i64.wrap (a.tmod (4:Int) - (1:Int)))]).getD a.toNat (((0:Int),(0:Int),[]),(0:Int))).fst.snd.snd),(-1:Int)),j,k) else none else c (f,l,e,i64.wrap (a+(1:Int)),m,n,o,p,q,r,i,h,d,g++ [(((List.getD (f.getD e.toNat []) (Int.toNat (d.getD a.toNat (0:Int))) ((0:Int),(0:Int),[])).fst,(List.getD (f.getD e.toNat []) (Int.toNat (d.getD a.toNat (0:Int))) ((0:Int),(0:Int),[])).snd.fst,(List.getD (f.getD e.toNat []) (Int.toNat (d.getD a.toNat (0:Int))) ((0:Int),(0:Int),[])).snd.snd),i64.wrap (a.tmod (4:Int) - (1:Int)))],j,k) else none else none else none else none else b (f,l,e,m,n,o,p,q,r,i,h,g,j,k)
def gD (Z:Nat) (v:(List (List BM))×(List Bool)×Int×Int×Int×Int×Int×Bool×Int×Int×Int×(List BM)×LI×(List (BM×Int))×(List Bool)×LI) (c:((List (List BM))×(List Bool)×Int×Int×Int×Int×Int×Bool×Int×Int×Int×(List BM)×LI×(List (BM×Int))×(List Bool)×LI)→OA) (B:((List (List BM))×(List Bool)×Int×Int×Int×Int×Bool×Int×Int×Int×(List BM)×(List (BM×Int))×(List Bool)×LI→OA)):OA:=match v with | (h,i,j,k,l,m,n,o,p,q,a,b,d,e,f,g)=>lL Z (bc Z) (bu Z) (aW Z) (aQ Z) (aV Z) (aU Z) (bb Z) (aO Z) (aM Z) h i j k l m n o p q a b d e f g c B
def uq (Z:Nat) (v:oV) (b:yk):OA:=iter (gD Z) Z v b
def CN (Z:Nat) (i:Nat):Option Ev.Blk:=Ev.look i [(100002,dF Z),(100000,eF Z),(100006,fj Z)]
def ua (v:oV):Ev.St:=match v with | (h,i,j,k,l,m,n,o,p,q,a,b,d,e,f,g)=>⟨[(1,.c (.sl (.sl tq) h)),(2,.c (.sl .bool i)),(3,.c (.ptr 0 0)),(10,.c (.ptr 1 0)),(11,.c (.own 2)),(12,.c (i6 j)),(13,.c (.own 3)),(15,.c (.own 4)),(16,.c (.own 5)),(18,.c (i6 k))],[(0,.cells 26 [i6 l,i6 m,i6 n,.bool o,i6 p,i6 q]),(1,.cells 40 [i6 a,.own 6]),(2,.vec 29 tq b true),(3,.vec 3 ti d true),(4,.vec 36 (.pair tq ti) e true),(5,.vec 4 .bool f true),(6,.vec 3 ti g true)],7,0⟩
def pI (K:KT):yk:=(fun v=>match v with | (f,g,h,i,j,k,l,m,n,o,a,b,d,e)=>K .normal ⟨[(1,.c (.sl (.sl tq) f)),(2,.c (.sl .bool g)),(3,.c (.ptr 0 0)),(10,.c (.ptr 1 0)),(11,.c (.own 2)),(12,.c (i6 h)),(15,.c (.own 3)),(16,.c (.own 4))],[(0,.cells 26 [i6 i,i6 j,i6 k,.bool l,i6 m,i6 n]),(1,.cells 40 [i6 o,.own 5]),(2,.vec 29 tq a true),(3,.vec 36 (.pair tq ti) b true),(4,.vec 4 .bool d true),(5,.vec 3 ti e true)],6,0⟩)
theorem JG (Z:Nat) (n:bp) (o:bD) (a:bi) (b:bq) (c:bn) (d:bw) (e:bj) (f:bB) (g:bE) (R:Ev.St→OA) (K:KT) (p:(List (List BM))) (q:(List Bool)) (r s:Int) (t u w:Int) (x:Bool) (y z h:Int) (i:(List BM)) (j:LI) (k:(List (BM×Int))) (l:(List Bool)) (m:LI):evalCode tab (fd n o a b c d e f g) (CN Z) ar Z (bodyOf 8 Tryz.f4) (ua (p,q,r,s,t,u,w,x,y,z,h,i,j,k,l,m)) (lc ar 26 8 R K)=lL Z n o a b c d e f g p q r s t u w x y z h i j k l m (fun v=>R (ua v)) (pI K):=by
 kernel_rfl
def gf (Z:Nat):Ev.Blk:=fun st K=>match canonO (ar 26) st with | some s=>(match s with | ⟨[(H,.c (.sl (.sl tq) I)),(J,.c (.sl .bool L)),(M,.c (.ptr N O)),(P,.c (.ptr Q R)),(S,.c (.own T)),(a,.c (i6 U)),(b,.c (.own d)),(e,.c (.own f)),(g,.c (.own h)),(i,.c (i6 V))],[(j,.cells k [i6 W,i6 X,i6 Y,.bool a0,i6 a1,i6 a2]),(l,.cells m [i6 n,.own o]),(p,.vec q tq r true),(t,.vec u ti v true),(w,.vec x (.pair tq ti) y true),(z,.vec A .bool B true),(C,.vec D ti E true)],F,G⟩=>bif qb [H,J,M,N,O,P,Q,R,S,T,a,b,d,e,f,g,h,i,j,k,l,m,o,p,q,t,u,w,x,z,A,C,D,F,G] [1,2,3,0,0,10,1,0,11,2,12,13,3,15,4,16,5,18,0,26,1,40,6,2,29,3,3,4,36,5,4,6,3,7,0] then iter (gD Z) Z (I,L,U,V,W,X,Y,a0,a1,a2,n,r,v,y,B,E) (pI K) else none | _=>none) | none=>none
theorem Fp (Z:Nat) (st:Ev.St) (K:KT) (r:Ans) (h:gf Z st K=some r):evalCode tab (G4 Z) (CN Z) ar Z (.block 8 (.loop (bodyOf 8 Tryz.f4))) st K=some r:=by
 unfold gf at h
 split at h
 ·rename_i s hs
  split at h
  ·skip
   obtain ⟨hb,h⟩:=cond_some' h
   cases qb_eq hb
   exact blk_loop (S:=ua) (ks:=pI) (step:=gD Z) (v:=(_,_,_,_,_,_,_,_,_,_,_,_,_,_,_,_)) kr kr (fun R K v=>by obtain ⟨g,i,j,k,l,m,n,o,p,q,a,b,c,d,e,f⟩:=v; exact JG Z (bc Z) (bu Z) (aW Z) (aQ Z) (aV Z) (aU Z) (bb Z) (aO Z) (aM Z) R K g i j k l m n o p q a b c d e f) hs h
  ·cases h
 ·cases h
abbrev ps:Type:=(List (List BM))×(List Bool)×Int×Int×Int×Int×Bool×Int×Int×Int×(List BM)×LI
abbrev BA:Type:=(Bool→OA)×(Unit→OA)
def en (Z:Nat) (d3:bp) (S:bD) (E:bi) (F:bq) (G:bn) (H:bw) (b8:bj) (I:bB) (J:bE) (o:(List (List BM))) (c4:(List Bool)) (k c5:Int) (c6 c7:Int) (c8:Bool) (c9 d0 d1:Int) (R:(List BM)) (b9:LI) (c:ps→OA) (B:BA):OA:=match B with | (ret,b)=>bif decide (k < (↑o.length:Int)) then bif decide (0≤k∧k < (↑o.length:Int)) then (b8 (o.getD k.toNat []) (fun (a6,a7)=>bif a6 != 0 then (S (fun d2=>ret d2)) else bif decide (0≤k∧k < (↑o.length:Int)) then bif decide (i64.wrap ((↑R.length:Int)+(↑(List.length (o.getD k.toNat [])):Int)) > 60) then (S (fun c0=>ret c0)) else (sQ Z (o,c4,k,0,c5,c6,c7,c8,c9,d0,d1,R,a7,[],[],b9) (fun (a8,a9,b0,b1,b2,b3,b4,b5,b6,b7,T,U,V,W,X)=>(uq Z (a8,a9,b0,0,b1,b2,b3,b4,b5,b6,b7,T,U,V,W,X) (fun (D,n,l,e,f,g,h,i,j,u,a,d,m,t)=>bif decide (l < (↑n.length:Int)) then bif decide (0≤l∧l < (↑n.length:Int)) then bif !n.getD l.toNat false then (E e f g h i j (0) ([]) a d m (fun (p,v,w,q)=>bif v != 0 then ret false else (F e f g h i j (0) ([]) a ((↑d.length:Int)) w (fun (x,y,r,s,z)=>bif y != 0 then ret false else (G r d (fun K=>bif !K then ret false else (I s m (fun L=>bif !L then ret false else (J x z p q (fun M=>bif !M then ret false else (H a r s (fun (A,C)=>bif A != 0 then ret false else c (D,n,i64.wrap (l+1),e,f,g,h,i,j,p,C,q))))))))))))) else (E e f g h i j u t a d m (fun (p,v,w,q)=>bif v != 0 then ret false else (F e f g h i j u t a ((↑d.length:Int)) w (fun (x,y,r,s,z)=>bif y != 0 then ret false else (G r d (fun K=>bif !K then ret false else (I s m (fun L=>bif !L then ret false else (J x z p q (fun M=>bif !M then ret false else (H a r s (fun (A,C)=>bif A != 0 then ret false else c (D,n,i64.wrap (l+1),e,f,g,h,i,j,p,C,q))))))))))))) else none else (E e f g h i j u t a d m (fun (N,Y,a0,O)=>bif Y != 0 then ret false else (F e f g h i j u t a ((↑d.length:Int)) a0 (fun (a1,a2,P,Q,a3)=>bif a2 != 0 then ret false else (G P d (fun c1=>bif !c1 then ret false else (I Q m (fun c2=>bif !c2 then ret false else (J a1 a3 N O (fun c3=>bif !c3 then ret false else (H a P Q (fun (a4,a5)=>bif a4 != 0 then ret false else c (D,n,i64.wrap (l+1),e,f,g,h,i,j,N,a5,O))))))))))))))))) else none)) else none else b ()
def cN (Z:Nat) (v:(List (List BM))×(List Bool)×Int×Int×Int×Int×Bool×Int×Int×Int×(List BM)×LI) (c:((List (List BM))×(List Bool)×Int×Int×Int×Int×Bool×Int×Int×Int×(List BM)×LI)→OA) (B:(Bool→OA)×(Unit→OA)):OA:=match v with | (d,e,f,g,h,i,j,k,l,m,a,b)=>en Z (bc Z) (bu Z) (aW Z) (aQ Z) (aV Z) (aU Z) (bb Z) (aO Z) (aM Z) d e f g h i j k l m a b c B
def BW (Z:Nat) (v:ps) (ret:(Bool→OA)) (b:(Unit→OA)):OA:=iter (cN Z) Z v (ret,b)
def lF (Z:Nat) (i:Nat):Option Ev.Blk:=Ev.look i [(100002,dF Z),(100000,eF Z),(100006,fj Z),(100008,gf Z)]
def yG (v:ps):Ev.St:=match v with | (d,e,f,g,h,i,j,k,l,m,a,b)=>⟨[(1,.c (.sl (.sl tq) d)),(2,.c (.sl .bool e)),(3,.c (.ptr 0 0)),(10,.c (.ptr 1 0)),(11,.c (.own 2)),(12,.c (i6 f))],[(0,.cells 26 [i6 g,i6 h,i6 i,.bool j,i6 k,i6 l]),(1,.cells 40 [i6 m,.own 3]),(2,.vec 29 tq a true),(3,.vec 3 ti b true)],4,0⟩
def ra (K:KT):BA:=((fun v=>match v with | a=>K .ret ⟨[(6,.c (.bool a))],[],0,0⟩),(fun v=>match v with | ()=>K .normal ⟨[],[],0,0⟩))
theorem Fl (Z:Nat) (j:bp) (k:bD) (a:bi) (b:bq) (c:bn) (d:bw) (e:bj) (f:bB) (g:bE) (R:Ev.St→OA) (K:KT) (l:(List (List BM))) (m:(List Bool)) (n o:Int) (p q:Int) (r:Bool) (s t u:Int) (h:(List BM)) (i:LI):evalCode tab (fd j k a b c d e f g) (lF Z) ar Z (bodyOf 4 Tryz.f4) (yG (l,m,n,o,p,q,r,s,t,u,h,i)) (lc ar 14 4 R K)=en Z j k a b c d e f g l m n o p q r s t u h i (fun v=>R (yG v)) (ra K):=by
 kernel_rfl
def kv (Z:Nat):Ev.Blk:=fun st K=>match canonO (ar 14) st with | some s=>(match s with | ⟨[(p,.c (.sl (.sl tq) q)),(r,.c (.sl .bool t)),(u,.c (.ptr v w)),(x,.c (.ptr y z)),(A,.c (.own B)),(a,.c (i6 C))],[(b,.cells d [i6 D,i6 E,i6 F,.bool G,i6 H,i6 I]),(e,.cells f [i6 J,.own g]),(h,.vec i tq j true),(k,.vec l ti m true)],n,o⟩=>bif qb [p,r,u,v,w,x,y,z,A,B,a,b,d,e,f,g,h,i,k,l,n,o] [1,2,3,0,0,10,1,0,11,2,12,0,26,1,40,3,2,29,3,3,4,0] then iter (cN Z) Z (q,t,C,D,E,F,G,H,I,J,j,m) (ra K) else none | _=>none) | none=>none
theorem Ix (Z:Nat) (st:Ev.St) (K:KT) (r:Ans) (h:kv Z st K=some r):evalCode tab (G4 Z) (lF Z) ar Z (.block 4 (.loop (bodyOf 4 Tryz.f4))) st K=some r:=by
 unfold kv at h
 split at h
 ·rename_i s hs
  split at h
  ·skip
   obtain ⟨hb,h⟩:=cond_some' h
   cases qb_eq hb
   exact blk_loop (S:=yG) (ks:=ra) (step:=cN Z) (v:=(_,_,_,_,_,_,_,_,_,_,_,_)) kr kr (fun R K v=>by obtain ⟨c,d,e,f,g,i,j,k,l,m,a,b⟩:=v; exact Fl Z (bc Z) (bu Z) (aW Z) (aQ Z) (aV Z) (aU Z) (bb Z) (aO Z) (aM Z) R K c d e f g i j k l m a b) hs h
  ·cases h
 ·cases h
def J4 (Z:Nat) (i:Nat):Option Ev.Blk:=Ev.look i [(100002,dF Z),(100000,eF Z),(100006,fj Z),(100008,gf Z),(100004,kv Z)]
def vS (Z:Nat) (n:bp) (a:bD) (x:bi) (y:bq) (z:bn) (A:bw) (B:bj) (C:bB) (D:bE) (o p q:Int) (r:Bool) (s t:Int) (u:(List (List (Int×Int×LI)))) (v:(List Bool)) (k0:(Bool)→OA):OA:=(tE Z (u,v,0,0,o,p,q,r,s,t) (fun (c,j,k,d,e,f,g,h,i)=>bif decide (k > 700) then (a (fun w=>k0 w)) else bif decide ((↑c.length:Int) > 6) then (a (fun b=>k0 b)) else (n d e f g h i (fun b=>bif !b then (a (fun l=>k0 l)) else (BW Z (c,j,0,d,e,f,g,h,i,0,[],[]) (fun ret4_0=>k0 ret4_0) (fun ()=>(a (fun m=>k0 m))))))))
abbrev Af:Type:=Int→Int→Int→Bool→Int→Int→((List (List (Int×Int×LI))))→((List Bool))→(Bool→OA)→OA
def iN (Z:Nat):Af:=vS Z (bc Z) (bu Z) (aW Z) (aQ Z) (aV Z) (aU Z) (bb Z) (aO Z) (aM Z)
theorem EB (Z:Nat) (i:bp) (j:bD) (a:bi) (b:bq) (d:bn) (e:bw) (f:bj) (g:bB) (h:bE) (l m n:Int) (o:Bool) (p q:Int) (s:(List (List (Int×Int×LI)))) (t:(List Bool)) (k:Ev.Cont):evalFn tab (fd i j a b d e f g h) (J4 Z) ar Z Tryz.f4 [.agg [i6 l,i6 m,i6 n,.bool o,i6 p,i6 q],.c (.sl (.sl tq) s),.c (.sl .bool t)] [] k=vS Z i j a b d e f g h l m n o p q s t (fun r=>match r with | u=>k (.c (.bool u),[])):=by
 kernel_rfl
theorem gq (Z:Nat):GOK prog (G4 Z):=
 gc (Ir Z) func7 kr rfl <|
 gc (ML Z) func9 kr rfl <|
 gc (IS Z) func11 kr rfl <|
 gc (IF Z) func12 kr rfl <|
 gc (J6 Z) func13 kr rfl <|
 gc (KA Z) func14 kr rfl <|
 gc (N9 Z) func16 kr rfl <|
 gc (HY Z) func17 kr rfl <|
 gc (H6 Z) func18 kr rfl <|
 gok_nil
theorem Jr (Z:Nat):BlkOK prog Tryz.f4.ntmps (.block 2 (.loop (bodyOf 2 Tryz.f4))) (dF Z):=bo0 (gq Z) kr kr (ME Z)
theorem OC (Z:Nat):BlkOK prog Tryz.f4.ntmps (.block 0 (.loop (bodyOf 0 Tryz.f4))) (eF Z):=
 blk_of (blk_of_code tab_ok (gq Z) mixed (J:=mg Z) (kp:=ar) (fuel:=Z) kr (fun q hq=>by
  rw [(by kernel_rfl:obl (mg Z) (.block 0 (.loop (bodyOf 0 Tryz.f4)))= [(.block 2 (.loop (bodyOf 2 Tryz.f4)),dF Z)])] at hq
  simp only [List.mem_cons,List.not_mem_nil,or_false] at hq
  subst hq
  ·exact Jr Z)) (F0 Z)
theorem Gl (Z:Nat):BlkOK prog Tryz.f4.ntmps (.block 6 (.loop (bodyOf 6 Tryz.f4))) (fj Z):=bo0 (gq Z) kr kr (FZ Z)
theorem JW (Z:Nat):BlkOK prog Tryz.f4.ntmps (.block 8 (.loop (bodyOf 8 Tryz.f4))) (gf Z):=bo0 (gq Z) kr kr (Fp Z)
theorem G9 (Z:Nat):BlkOK prog Tryz.f4.ntmps (.block 4 (.loop (bodyOf 4 Tryz.f4))) (kv Z):=
 blk_of (blk_of_code tab_ok (gq Z) mixed (J:=lF Z) (kp:=ar) (fuel:=Z) kr (fun q hq=>by
  rw [(by kernel_rfl:obl (lF Z) (.block 4 (.loop (bodyOf 4 Tryz.f4)))= [(.block 6 (.loop (bodyOf 6 Tryz.f4)),fj Z),(.block 8 (.loop (bodyOf 8 Tryz.f4)),gf Z)])] at hq
  simp only [List.mem_cons,List.not_mem_nil,or_false] at hq
  rcases hq with rfl | rfl
  ·exact Gl Z
  ·exact JW Z)) (Ix Z)
theorem LQ (Z:Nat):FnOK prog 4 (evalFn tab (G4 Z) (J4 Z) ar Z Tryz.f4):=
 fn_ok tab_ok (gq Z) mixed func4 (c:=(Tryz.f4.body).getD .skip) rfl (fun q hq=>by
  rw [(by kernel_rfl:obl (J4 Z) ((Tryz.f4.body).getD .skip)= [(.block 0 (.loop (bodyOf 0 Tryz.f4)),eF Z),(.block 4 (.loop (bodyOf 4 Tryz.f4)),kv Z)])] at hq
  simp only [List.mem_cons,List.not_mem_nil,or_false] at hq
  rcases hq with rfl | rfl
  ·exact OC Z
  ·exact G9 Z)
def AX (F:Af):Ev.Spec:=fun args objs k=>match args,objs with | [.agg [i6 a,i6 b,i6 d,.bool e,i6 f,i6 g],.c (.sl (.sl tq) h),.c (.sl .bool i)],[]=>F a b d e f g h i (fun r=>match r with | j=>k (.c (.bool j),[])) | _,_=>none
def po (Z:Nat):Ev.Spec:=AX (iN Z)
theorem KE (Z:Nat):FnOK prog 4 (po Z):=by
 intro args objs kk r h
 unfold po AX at h
 split at h
 ·skip
  exact LQ Z _ _ kk r ((EB Z (bc Z) (bu Z) (aW Z) (aQ Z) (aV Z) (aU Z) (bb Z) (aO Z) (aM Z) _ _ _ _ _ _ _ _ kk).trans h)
 ·cases h
end
end Go.Proofs.YtohnjbmiaegofaaGreat

