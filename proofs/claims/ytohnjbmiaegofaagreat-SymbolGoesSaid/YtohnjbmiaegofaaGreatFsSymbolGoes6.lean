/- What the functions that SymbolGoes reaches do: their typed texts, each with the proof that the machine does it. No condition. -/
import Derived.Test.YtohnjbmiaegofaaGreatEvX
import Derived.Test.YtohnjbmiaegofaaGreatFsSymbolGoes1
import Derived.Test.YtohnjbmiaegofaaGreatFsSymbolGoes3
import Derived.Test.YtohnjbmiaegofaaGreatFsSymbolGoes2
import Derived.Test.YtohnjbmiaegofaaGreatFsSymbolGoes4
set_option linter.unusedVariables false
set_option linter.unusedSimpArgs false
set_option linter.unusedSectionVars false
set_option linter.unusedVariables false
set_option linter.unusedSimpArgs false
set_option maxRecDepth 100000
set_option maxHeartbeats 2000000
namespace Go.Proofs.YtohnjbmiaegofaaGreat
open Go Ev Tryz
open Go.IntKind (i64 u64 u8 i32 u32 u16)
noncomputable section
def JP (i:Nat):Option (List Nat):=Ev.look i [(600000,[])]
def Dw (a:bY) (b:cA) (f:Nat):Option Ev.Spec:=Ev.look f [(71,i9 a),(76,lV b)]
def L0 (Z:Nat):Nat→Option Ev.Spec:=Dw (aT Z) (ck Z)
def um (Z:Nat) (g:bY) (h:cA) (a:Int) (b:LI) (k0:(Int)→OA) (k1:(Int×Int×Int×Int×Bool×LI×LI)→OA):OA:=(g a b (fun i=>bif !i then k0 (10) else (h a b (fun (c,d,e,f)=>k1 (0,c,d,e,true,f,[])))))
abbrev jW:Type:=Int→LI→(Int→OA)→((Int×Int×Int×Int×Bool×LI×LI)→OA)→OA
def gU (Z:Nat):jW:=um Z (aT Z) (ck Z)
theorem Jn (Z:Nat) (b:bY) (c:cA) (d:Int) (e:LI) (k:Ev.Cont):evalFn tab (Dw b c) J0 JP Z Tryz.f28 [.agg [i6 d,.sl ti e]] [] k=um Z b c d e (fun r=>match r with | a=>k (.tup [(false,[.nilptr]),(false,[i6 a])],[])) (fun r=>match r with | (a,f,g,h,i,j,l)=>k (.tup [(false,[.ptr 0 0]),(false,[i6 a])],[.cells 138 (i6 f::.own 1::ctb (.int .u64 g::.int .u64 h::.own 2::.bool i::[])),.vec 3 ti j true,.vec 5 (.int .u8) l true])):=by
 kernel_rfl
theorem Jj (Z:Nat):GOK prog (L0 Z):=
 gc (nK Z) func71 kr rfl <|
 gc (yB Z) func76 kr rfl <|
 gok_nil
def ve (F:jW):Ev.Spec:=fun args objs k=>match args,objs with | [.agg [i6 b,.sl ti c]],[]=>F b c (fun r=>match r with | a=>k (.tup [(false,[.nilptr]),(false,[i6 a])],[])) (fun r=>match r with | (a,d,e,f,g,h,i)=>k (.tup [(false,[.ptr 0 0]),(false,[i6 a])],[.cells 138 (i6 d::.own 1::ctb (.int .u64 e::.int .u64 f::.own 2::.bool g::[])),.vec 3 ti h true,.vec 5 (.int .u8) i true])) | _,_=>none
theorem P0 (Z:Nat):FnOK prog 28 (ve (gU Z)):=by
 intro args objs kk r h
 unfold ve at h
 split at h
 ·skip
  exact fo0 (Jj Z) func28 rfl kr _ _ kk r ((Jn Z (aT Z) (ck Z) _ _ kk).trans h)
 ·cases h
def cy (i:Nat):Option (List Nat):=Ev.look i [(2,[0,1,9,10,11]),(8,[0,1,20,21,22]),(100000,[0,1]),(100002,[0,1]),(200010,[1,8]),(400000,[4]),(400002,[4])]
def lS (a:aP) (f:Nat):Option Ev.Spec:=Ev.look f [(43,iv a)]
def lO (Z:Nat):Nat→Option Ev.Spec:=lS (aH Z)
abbrev qW:Type:=(List BM)×(List (BM×Int))×(List (BM×Int))×Int×Int
abbrev Ef:Type:=(Int→OA)×((List BM)×(List (BM×Int))→OA)
def mD (Z:Nat) (h:aP) (e:(List BM)) (f:(List (BM×Int))) (d:(List (BM×Int))) (g a:Int) (c:qW→OA) (B:Ef):OA:=match B with | (ret,b)=>bif decide (a < g) then bif decide (0≤a∧a < (↑d.length:Int)) then (h ((d.getD a.toNat ((0,0,[]),0)).fst.fst) ((d.getD a.toNat ((0,0,[]),0)).fst.snd.fst) ((d.getD a.toNat ((0,0,[]),0)).fst.snd.snd) (fun i=>bif !i then ret (30) else c (e,f,d,g,i64.wrap (a+1)))) else none else b (e,f)
def dV (Z:Nat) (v:(List BM)×(List (BM×Int))×(List (BM×Int))×Int×Int) (c:((List BM)×(List (BM×Int))×(List (BM×Int))×Int×Int)→OA) (B:(Int→OA)×((List BM)×(List (BM×Int))→OA)):OA:=match v with | (a,b,d,e,f)=>mD Z (aH Z) a b d e f c B
def Dz (Z:Nat) (v:qW) (ret:(Int→OA)) (b:((List BM)×(List (BM×Int))→OA)):OA:=iter (dV Z) Z v (ret,b)
def sV (v:qW):Ev.St:=match v with | (a,b,d,e,f)=>⟨[(0,.c (.sl tq a)),(1,.c (.sl (.pair tq ti) b)),(9,.c (.sl (.pair tq ti) d)),(10,.c (i6 e)),(11,.c (i6 f))],[],0,0⟩
def wG (K:KT):Ef:=((fun v=>match v with | a=>K .ret ⟨[(4,.c (i6 a))],[],0,0⟩),(fun v=>match v with | (a,b)=>K .normal ⟨[(0,.c (.sl tq a)),(1,.c (.sl (.pair tq ti) b))],[],0,0⟩))
theorem MK (Z:Nat) (a:aP) (R:Ev.St→OA) (K:KT) (b:(List BM)) (c:(List (BM×Int))) (d:(List (BM×Int))) (e f:Int):evalCode tab (lS a) J0 cy Z (bodyOf 0 Tryz.f26) (sV (b,c,d,e,f)) (lc cy 2 0 R K)=mD Z a b c d e f (fun v=>R (sV v)) (wG K):=by
 kernel_rfl
def it (Z:Nat):Ev.Blk:=fun st K=>match canonO (cy 2) st with | some s=>(match s with | ⟨[(a,.c (.sl tq b)),(d,.c (.sl (.pair tq ti) e)),(f,.c (.sl (.pair tq ti) g)),(h,.c (i6 i)),(j,.c (i6 k))],[],l,m⟩=>bif qb [a,d,f,h,j,l,m] [0,1,9,10,11,0,0] then iter (dV Z) Z (b,e,g,i,k) (wG K) else none | _=>none) | none=>none
theorem Gq (Z:Nat) (st:Ev.St) (K:KT) (r:Ans) (h:it Z st K=some r):evalCode tab (lO Z) J0 cy Z (.block 0 (.loop (bodyOf 0 Tryz.f26))) st K=some r:=by
 unfold it at h
 split at h
 ·rename_i s hs
  split at h
  ·skip
   obtain ⟨hb,h⟩:=cond_some' h
   cases qb_eq hb
   exact blk_loop (S:=sV) (ks:=wG) (step:=dV Z) (v:=(_,_,_,_,_)) kr kr (fun R K v=>by obtain ⟨a,b,c,d,e⟩:=v; exact MK Z (aH Z) R K a b c d e) hs h
  ·cases h
 ·cases h
abbrev qg:Type:=(List BM)×(List (BM×Int))×(List (BM×Int))×Int×Int
abbrev BQ:Type:=(Int→OA)×((List BM)×(List (BM×Int))→OA)
def nR (Z:Nat) (h:aP) (f:(List BM)) (e:(List (BM×Int))) (d:(List (BM×Int))) (g a:Int) (c:qg→OA) (B:BQ):OA:=match B with | (ret,b)=>bif decide (a < g) then bif decide (0≤a∧a < (↑d.length:Int)) then bif decide ((d.getD a.toNat ((0,0,[]),0)).snd < (-1:Int)) then ret (2) else bif decide ((d.getD a.toNat ((0,0,[]),0)).snd≥i64.wrap ((↑f.length:Int)+a)) then ret (2) else bif decide (a > 0) then bif decide (0≤i64.wrap (a - 1)∧i64.wrap (a - 1) < (↑e.length:Int)) then bif decide ((d.getD a.toNat ((0,0,[]),0)).fst.snd.fst < (e.getD (i64.wrap (a - 1)).toNat ((0,0,[]),0)).fst.snd.fst) then ret (2) else c (f,e,d,g,i64.wrap (a+1)) else none else c (f,e,d,g,i64.wrap (a+1)) else none else b (f,e)
def eu (Z:Nat) (v:(List BM)×(List (BM×Int))×(List (BM×Int))×Int×Int) (c:((List BM)×(List (BM×Int))×(List (BM×Int))×Int×Int)→OA) (B:(Int→OA)×((List BM)×(List (BM×Int))→OA)):OA:=match v with | (a,b,d,e,f)=>nR Z (aH Z) a b d e f c B
def Ce (Z:Nat) (v:qg) (ret:(Int→OA)) (b:((List BM)×(List (BM×Int))→OA)):OA:=iter (eu Z) Z v (ret,b)
def Ap (Z:Nat) (i:Nat):Option Ev.Blk:=Ev.look i [(100000,it Z)]
def vp (v:qg):Ev.St:=match v with | (a,b,d,e,f)=>⟨[(0,.c (.sl tq a)),(1,.c (.sl (.pair tq ti) b)),(20,.c (.sl (.pair tq ti) d)),(21,.c (i6 e)),(22,.c (i6 f))],[],0,0⟩
def uw (K:KT):BQ:=((fun v=>match v with | a=>K .ret ⟨[(4,.c (i6 a))],[],0,0⟩),(fun v=>match v with | (a,b)=>K .normal ⟨[(0,.c (.sl tq a)),(1,.c (.sl (.pair tq ti) b))],[],0,0⟩))
theorem HI (Z:Nat) (a:aP) (R:Ev.St→OA) (K:KT) (b:(List BM)) (c:(List (BM×Int))) (d:(List (BM×Int))) (e f:Int):evalCode tab (lS a) (Ap Z) cy Z (bodyOf 2 Tryz.f26) (vp (b,c,d,e,f)) (lc cy 8 2 R K)=nR Z a b c d e f (fun v=>R (vp v)) (uw K):=by
 kernel_rfl
def kF (Z:Nat):Ev.Blk:=fun st K=>match canonO (cy 8) st with | some s=>(match s with | ⟨[(a,.c (.sl tq b)),(d,.c (.sl (.pair tq ti) e)),(f,.c (.sl (.pair tq ti) g)),(h,.c (i6 i)),(j,.c (i6 k))],[],l,m⟩=>bif qb [a,d,f,h,j,l,m] [0,1,20,21,22,0,0] then iter (eu Z) Z (b,e,g,i,k) (uw K) else none | _=>none) | none=>none
theorem Ls (Z:Nat) (st:Ev.St) (K:KT) (r:Ans) (h:kF Z st K=some r):evalCode tab (lO Z) (Ap Z) cy Z (.block 2 (.loop (bodyOf 2 Tryz.f26))) st K=some r:=by
 unfold kF at h
 split at h
 ·rename_i s hs
  split at h
  ·skip
   obtain ⟨hb,h⟩:=cond_some' h
   cases qb_eq hb
   exact blk_loop (S:=vp) (ks:=uw) (step:=eu Z) (v:=(_,_,_,_,_)) kr kr (fun R K v=>by obtain ⟨a,b,c,d,e⟩:=v; exact HI Z (aH Z) R K a b c d e) hs h
  ·cases h
 ·cases h
def yT (Z:Nat) (i:Nat):Option Ev.Blk:=Ev.look i [(100000,it Z),(100002,kF Z)]
def pX (Z:Nat) (g:aP) (f:(List (Int×Int×LI))) (b:(List ((Int×Int×LI)×Int))) (k0:(Int)→OA):OA:=(Dz Z (f,b,b,(↑b.length:Int),0) (fun ret0_0=>k0 ret0_0) (fun (c,a)=>(Ce Z (c,a,a,(↑a.length:Int),0) (fun ret2_0=>k0 ret2_0) (fun (d,e)=>bif decide (i64.wrap ((↑d.length:Int)+(↑e.length:Int)) > 60) then k0 (2) else k0 (0)))))
abbrev cc:Type:=((List (Int×Int×LI)))→((List ((Int×Int×LI)×Int)))→(Int→OA)→OA
def bR (Z:Nat):cc:=pX Z (aH Z)
theorem Ia (Z:Nat) (a:aP) (b:(List (Int×Int×LI))) (d:(List ((Int×Int×LI)×Int))) (k:Ev.Cont):evalFn tab (lS a) (yT Z) cy Z Tryz.f26 [.c (.sl tq b),.c (.sl (.pair tq ti) d)] [] k=pX Z a b d (fun r=>match r with | e=>k (.c (i6 e),[])):=by
 kernel_rfl
theorem qG (Z:Nat):GOK prog (lO Z):=
 gc (kZ Z) func43 kr rfl <|
 gok_nil
theorem Np (Z:Nat):BlkOK prog Tryz.f26.ntmps (.block 0 (.loop (bodyOf 0 Tryz.f26))) (it Z):=bo0 (qG Z) kr kr (Gq Z)
theorem JF (Z:Nat):BlkOK prog Tryz.f26.ntmps (.block 2 (.loop (bodyOf 2 Tryz.f26))) (kF Z):=bo0 (qG Z) kr kr (Ls Z)
theorem Hq (Z:Nat):FnOK prog 26 (evalFn tab (lO Z) (yT Z) cy Z Tryz.f26):=
 fn_ok tab_ok (qG Z) mixed func26 (c:=(Tryz.f26.body).getD .skip) rfl (fun q hq=>by
  rw [(by kernel_rfl:obl (yT Z) ((Tryz.f26.body).getD .skip)= [(.block 0 (.loop (bodyOf 0 Tryz.f26)),it Z),(.block 2 (.loop (bodyOf 2 Tryz.f26)),kF Z)])] at hq
  simp only [List.mem_cons,List.not_mem_nil,or_false] at hq
  rcases hq with rfl | rfl
  ·exact Np Z
  ·exact JF Z)
def ol (F:cc):Ev.Spec:=fun args objs k=>match args,objs with | [.c (.sl tq a),.c (.sl (.pair tq ti) b)],[]=>F a b (fun r=>match r with | d=>k (.c (i6 d),[])) | _,_=>none
theorem DX (Z:Nat):FnOK prog 26 (ol (bR Z)):=by
 intro args objs kk r h
 unfold ol at h
 split at h
 ·skip
  exact Hq Z _ _ kk r ((Ia Z (aH Z) _ _ kk).trans h)
 ·cases h
def KR (i:Nat):Option (List Nat):=Ev.look i []
def zV (a:ch) (f:Nat):Option Ev.Spec:=Ev.look f [(80,oa a)]
def F6 (Z:Nat):Nat→Option Ev.Spec:=zV (bx Z)
def qR (Z:Nat) (a:ch) (q r:Int) (s t u:Int) (v:Bool) (w x:Int) (y z:Int) (h i:Int) (j k l:Int) (m:Bool) (n:(List BM)) (o p:LI) (k0:(Int×Int×Int×Bool×Int×Int×Int×Int×Int×Int×Int×Int×Int×Bool×(List BM)×LI×LI)→OA):OA:=(a q (false) r j k l m o p (fun (A,b,c,d,e,f,g)=>k0 (s,t,u,v,w,x,y,z,h,i,b,c,d,e,n,f,g)))
abbrev aK:Type:=Int→Int→Int→Int→Int→Bool→Int→Int→Int→Int→Int→Int→Int→Int→Int→Bool→((List BM))→LI→LI→((Int×Int×Int×Bool×Int×Int×Int×Int×Int×Int×Int×Int×Int×Bool×(List BM)×LI×LI)→OA)→OA
def av (Z:Nat):aK:=qR Z (bx Z)
theorem OQ (Z:Nat) (a:ch) (m n:Int) (o p q:Int) (s:Bool) (t u:Int) (v w:Int) (b d:Int) (e f g:Int) (h:Bool) (i:(List BM)) (j l:LI) (k:Ev.Cont):evalFn tab (zV a) J0 KR Z Tryz.f78 [.c (.ptr 0 0),.c (i6 m),.c (i6 n)] [.cells 76 [i6 o,i6 p,i6 q,.bool s,i6 t,i6 u,i6 v,i6 w,i6 b,i6 d,.ptr 1 0,.own 2],.cells 138 (i6 e::.own 3::ctb (.int .u64 f::.int .u64 g::.own 4::.bool h::[])),.vec 29 tq i false,.vec 3 ti j false,.vec 5 (.int .u8) l false] k=qR Z a m n o p q s t u v w b d e f g h i j l (fun r=>match r with | (E,F,G,H,I,J,K,L,M,N,x,y,z,A,B,C,D)=>k (.tup [],[.cells 76 [i6 E,i6 F,i6 G,.bool H,i6 I,i6 J,i6 K,i6 L,i6 M,i6 N,.ptr 1 0,.own 2],.cells 138 (i6 x::.own 3::ctb (.int .u64 y::.int .u64 z::.own 4::.bool A::[])),.vec 29 tq B false,.vec 3 ti C false,.vec 5 (.int .u8) D true])):=by
 kernel_rfl
theorem Od (Z:Nat):GOK prog (F6 Z):=
 gc (qu Z) func80 kr rfl <|
 gok_nil
def iR (F:aK):Ev.Spec:=fun args objs k=>match args,objs with | [.c (.ptr w x),.c (i6 y),.c (i6 z)],[.cells A [i6 B,i6 C,i6 D,.bool E,i6 G,i6 H,i6 I,i6 J,i6 a,i6 b,.ptr K L,.own M],.cells N d,.vec O tq e false,.vec P ti f false,.vec Q (.int .u8) g false]=>(match splitRun 2 ctn d with | some ([i6 h,.own i],[.int .u64 j,.int .u64 l,.own m,.bool n])=>bif qb [w,x,A,K,L,M,N,O,P,Q,i,m] [0,0,76,1,0,2,138,29,3,5,3,4] then F y z B C D E G H I J a b h j l n e f g (fun r=>match r with | (R,S,T,U,V,W,X,Y,a0,a1,o,p,q,s,t,u,v)=>k (.tup [],[.cells 76 [i6 R,i6 S,i6 T,.bool U,i6 V,i6 W,i6 X,i6 Y,i6 a0,i6 a1,.ptr 1 0,.own 2],.cells 138 (i6 o::.own 3::ctb (.int .u64 p::.int .u64 q::.own 4::.bool s::[])),.vec 29 tq t false,.vec 3 ti u false,.vec 5 (.int .u8) v true])) else none | _=>none) | _,_=>none
theorem xL (Z:Nat):FnOK prog 78 (iR (av Z)):=by
 intro args objs kk r h
 unfold iR at h
 split at h
 ·skip
  split at h
  rotate_left 1
  ·cases h
  rename_i hsp
  have esp:=splitRun_eq hsp
  subst esp
  obtain ⟨hb,h⟩:=cond_some' h
  cases qb_eq hb
  exact fo0 (Od Z) func78 rfl kr _ _ kk r ((OQ Z (bx Z) _ _ _ _ _ _ _ _ _ _ _ _ _ _ _ _ _ _ _ kk).trans h)
 ·cases h
def cW (i:Nat):Option (List Nat):=Ev.look i [(1,[0,1,4,1000004]),(4,[0,1,4,5]),(100000,[]),(100002,[0,1,4,5]),(400000,[]),(400002,[])]
def ox (a:aK) (f:Nat):Option Ev.Spec:=Ev.look f [(78,iR a)]
def tr (Z:Nat):Nat→Option Ev.Spec:=ox (av Z)
abbrev vn:Type:=(List Bool)×Bool×Int×Int×Int×Int×Bool×Int×Int×Int×Int×Int×Int×Int×Int×Int×Bool×(List BM)×LI×LI
abbrev qZ:Type:=((List Bool)×Bool×Int×Int×Int×Int×Bool×Int×Int×Int×Int×Int×Int×Int×Int×Int×Bool×(List BM)×LI×LI→OA)
def oq (Z:Nat) (w:aK) (d:(List Bool)) (e:Bool) (a p:Int) (q r:Int) (s:Bool) (t u:Int) (v f:Int) (g h:Int) (i j k:Int) (l:Bool) (m:(List BM)) (n o:LI) (c:vn→OA) (B:qZ):OA:=match B with | b=>bif decide (a < (↑d.length:Int)) then bif decide (0≤a∧a < (↑d.length:Int)) then bif d.getD a.toNat false==e then c (d,e,i64.wrap (a+1),p,q,r,s,t,u,v,f,g,h,i,j,k,l,m,n,o) else b (d,e,a,p,q,r,s,t,u,v,f,g,h,i,j,k,l,m,n,o) else none else b (d,e,a,p,q,r,s,t,u,v,f,g,h,i,j,k,l,m,n,o)
def fe (Z:Nat) (v:(List Bool)×Bool×Int×Int×Int×Int×Bool×Int×Int×Int×Int×Int×Int×Int×Int×Int×Bool×(List BM)×LI×LI) (c:((List Bool)×Bool×Int×Int×Int×Int×Bool×Int×Int×Int×Int×Int×Int×Int×Int×Int×Bool×(List BM)×LI×LI)→OA) (B:((List Bool)×Bool×Int×Int×Int×Int×Bool×Int×Int×Int×Int×Int×Int×Int×Int×Int×Bool×(List BM)×LI×LI→OA)):OA:=match v with | (l,m,n,o,p,q,r,s,t,u,a,b,d,e,f,g,h,i,j,k)=>oq Z (av Z) l m n o p q r s t u a b d e f g h i j k c B
def Bt (Z:Nat) (v:vn) (b:qZ):OA:=iter (fe Z) Z v b
def pi (v:vn):Ev.St:=match v with | (l,m,n,o,p,q,r,s,t,u,a,b,d,e,f,g,h,i,j,k)=>⟨[(0,.c (.ptr 0 0)),(1,.c (.sl .bool l)),(4,.c (.bool m)),(5,.c (i6 n))],[(0,.cells 76 [i6 o,i6 p,i6 q,.bool r,i6 s,i6 t,i6 u,i6 a,i6 b,i6 d,.ptr 1 0,.own 2]),(1,.cells 138 (i6 e::.own 3::ctb (.int .u64 f::.int .u64 g::.own 4::.bool h::[]))),(2,.vec 29 tq i false),(3,.vec 3 ti j false),(4,.vec 5 (.int .u8) k true)],5,5⟩
def sm (K:KT):qZ:=(fun v=>match v with | (l,m,n,o,p,q,r,s,t,u,a,b,d,e,f,g,h,i,j,k)=>K .normal ⟨[(0,.c (.ptr 0 0)),(1,.c (.sl .bool l)),(4,.c (.bool m)),(5,.c (i6 n))],[(0,.cells 76 [i6 o,i6 p,i6 q,.bool r,i6 s,i6 t,i6 u,i6 a,i6 b,i6 d,.ptr 1 0,.own 2]),(1,.cells 138 (i6 e::.own 3::ctb (.int .u64 f::.int .u64 g::.own 4::.bool h::[]))),(2,.vec 29 tq i false),(3,.vec 3 ti j false),(4,.vec 5 (.int .u8) k true)],5,5⟩)
theorem G5 (Z:Nat) (a:aK) (R:Ev.St→OA) (K:KT) (l:(List Bool)) (m:Bool) (n o:Int) (p q:Int) (r:Bool) (s t:Int) (u b:Int) (c d:Int) (e f g:Int) (h:Bool) (i:(List BM)) (j k:LI):evalCode tab (ox a) J0 cW Z (bodyOf 2 Tryz.f32) (pi (l,m,n,o,p,q,r,s,t,u,b,c,d,e,f,g,h,i,j,k)) (lc cW 4 2 R K)=oq Z a l m n o p q r s t u b c d e f g h i j k (fun v=>R (pi v)) (sm K):=by
 kernel_rfl
def gC (Z:Nat):Ev.Blk:=fun st K=>match canonO (cW 4) st with | some s=>(match s with | ⟨[(A,.c (.ptr B C)),(D,.c (.sl .bool E)),(F,.c (.bool G)),(H,.c (i6 I))],[(J,.cells L [i6 M,i6 N,i6 O,.bool P,i6 Q,i6 R,i6 S,i6 a,i6 b,i6 d,.ptr T U,.own e]),(f,.cells g h),(i,.vec j tq k false),(l,.vec m ti n false),(o,.vec p (.int .u8) q true)],r,t⟩=>(match splitRun 2 ctn h with | some ([i6 u,.own v],[.int .u64 w,.int .u64 x,.own y,.bool z])=>bif qb [A,B,C,D,F,H,J,L,T,U,e,f,g,i,j,l,m,o,p,r,t,v,y] [0,0,0,1,4,5,0,76,1,0,2,1,138,2,29,3,3,4,5,5,5,3,4] then iter (fe Z) Z (E,G,I,M,N,O,P,Q,R,S,a,b,d,u,w,x,z,k,n,q) (sm K) else none | _=>none) | _=>none) | none=>none
theorem Jf (Z:Nat) (st:Ev.St) (K:KT) (r:Ans) (h:gC Z st K=some r):evalCode tab (tr Z) J0 cW Z (.block 2 (.loop (bodyOf 2 Tryz.f32))) st K=some r:=by
 unfold gC at h
 split at h
 ·rename_i s hs
  split at h
  ·skip
   split at h
   rotate_left 1
   ·cases h
   rename_i hsp
   have esp:=splitRun_eq hsp
   subst esp
   obtain ⟨hb,h⟩:=cond_some' h
   cases qb_eq hb
   exact blk_loop (S:=pi) (ks:=sm) (step:=fe Z) (v:=(_,_,_,_,_,_,_,_,_,_,_,_,_,_,_,_,_,_,_,_)) kr kr (fun R K v=>by obtain ⟨l,m,n,o,p,q,t,u,w,x,a,b,c,d,e,f,g,i,j,k⟩:=v; exact G5 Z (av Z) R K l m n o p q t u w x a b c d e f g i j k) hs h
  ·cases h
 ·cases h
abbrev vq:Type:=(List Bool)×Bool×Int×Int×Int×Bool×Int×Int×Int×Int×Int×Int×Int×Int×Int×Bool×(List BM)×LI×LI
abbrev sP:Type:=(Int×Int×Int×Bool×Int×Int×Int×Int×Int×Int×Int×Int×Int×Bool×(List BM)×LI×LI→OA)
def kH (Z:Nat) (w:aK) (n:(List Bool)) (a8:Bool) (o p q:Int) (r:Bool) (s t:Int) (u v:Int) (e f:Int) (g h i:Int) (j:Bool) (k:(List BM)) (l m:LI) (c:vq→OA) (B:sP):OA:=match B with | b=>bif decide ((↑n.length:Int) > 0) then (Bt Z (n,a8,0,o,p,q,r,s,t,u,v,e,f,g,h,i,j,k,l,m) (fun (a,P,d,Q,R,S,T,U,V,W,x,y,z,A,C,D,E,F,G,H)=>(w (192) d Q R S T U V W x y z A C D E F G H (fun (X,Y,a0,a1,a2,a3,a4,a5,a6,a7,I,J,K,L,M,N,O)=>bif decide (0≤Ev.loOf (some d)∧Ev.loOf (some d)≤Ev.hiOf Option.none (↑a.length:Int)∧Ev.hiOf Option.none (↑a.length:Int)≤(↑a.length:Int)) then c (List.take (Ev.hiOf Option.none (↑a.length:Int) - Ev.loOf (some d)).toNat (List.drop (Ev.loOf (some d)).toNat a),!P,X,Y,a0,a1,a2,a3,a4,a5,a6,a7,I,J,K,L,M,N,O) else none)))) else b (o,p,q,r,s,t,u,v,e,f,g,h,i,j,k,l,m)
def df (Z:Nat) (v:(List Bool)×Bool×Int×Int×Int×Bool×Int×Int×Int×Int×Int×Int×Int×Int×Int×Bool×(List BM)×LI×LI) (c:((List Bool)×Bool×Int×Int×Int×Bool×Int×Int×Int×Int×Int×Int×Int×Int×Int×Bool×(List BM)×LI×LI)→OA) (B:(Int×Int×Int×Bool×Int×Int×Int×Int×Int×Int×Int×Int×Int×Bool×(List BM)×LI×LI→OA)):OA:=match v with | (k,l,m,n,o,p,q,r,s,t,a,b,d,e,f,g,h,i,j)=>kH Z (av Z) k l m n o p q r s t a b d e f g h i j c B
def BI (Z:Nat) (v:vq) (b:sP):OA:=iter (df Z) Z v b
def mQ (Z:Nat) (i:Nat):Option Ev.Blk:=Ev.look i [(100002,gC Z)]
def rP (v:vq):Ev.St:=match v with | (k,l,m,n,o,p,q,r,s,t,a,b,d,e,f,g,h,i,j)=>⟨[(0,.c (.ptr 0 0)),(1,.c (.sl .bool k)),(4,.c (.bool l))],[(0,.cells 76 [i6 m,i6 n,i6 o,.bool p,i6 q,i6 r,i6 s,i6 t,i6 a,i6 b,.ptr 1 0,.own 2]),(1,.cells 138 (i6 d::.own 3::ctb (.int .u64 e::.int .u64 f::.own 4::.bool g::[]))),(2,.vec 29 tq h false),(3,.vec 3 ti i false),(4,.vec 5 (.int .u8) j true)],5,5⟩
def qV (K:KT):sP:=(fun v=>match v with | (h,i,j,k,l,m,n,o,p,q,a,b,c,d,e,f,g)=>K .normal ⟨[],[(0,.cells 76 [i6 h,i6 i,i6 j,.bool k,i6 l,i6 m,i6 n,i6 o,i6 p,i6 q,.ptr 1 0,.own 2]),(1,.cells 138 (i6 a::.own 3::ctb (.int .u64 b::.int .u64 c::.own 4::.bool d::[]))),(2,.vec 29 tq e false),(3,.vec 3 ti f false),(4,.vec 5 (.int .u8) g true)],5,5⟩)
theorem Ly (Z:Nat) (a:aK) (R:Ev.St→OA) (K:KT) (k:(List Bool)) (l:Bool) (m n o:Int) (p:Bool) (q r:Int) (s t:Int) (b c:Int) (d e f:Int) (g:Bool) (h:(List BM)) (i j:LI):evalCode tab (ox a) (mQ Z) cW Z (bodyOf 0 Tryz.f32) (rP (k,l,m,n,o,p,q,r,s,t,b,c,d,e,f,g,h,i,j)) (lc cW 1 0 R K)=kH Z a k l m n o p q r s t b c d e f g h i j (fun v=>R (rP v)) (qV K):=by
 kernel_rfl
def mP (Z:Nat):Ev.Blk:=fun st K=>match canonO (cW 1) st with | some s=>(match s with | ⟨[(y,.c (.ptr z A)),(B,.c (.sl .bool C)),(D,.c (.bool E))],[(F,.cells G [i6 H,i6 I,i6 J,.bool L,i6 M,i6 N,i6 O,i6 P,i6 a,i6 b,.ptr Q R,.own S]),(d,.cells e f),(g,.vec h tq i false),(j,.vec k ti l false),(m,.vec n (.int .u8) o true)],p,q⟩=>(match splitRun 2 ctn f with | some ([i6 r,.own t],[.int .u64 u,.int .u64 v,.own w,.bool x])=>bif qb [y,z,A,B,D,F,G,Q,R,S,d,e,g,h,j,k,m,n,p,q,t,w] [0,0,0,1,4,0,76,1,0,2,1,138,2,29,3,3,4,5,5,5,3,4] then iter (df Z) Z (C,E,H,I,J,L,M,N,O,P,a,b,r,u,v,x,i,l,o) (qV K) else none | _=>none) | _=>none) | none=>none
theorem EZ (Z:Nat) (st:Ev.St) (K:KT) (r:Ans) (h:mP Z st K=some r):evalCode tab (tr Z) (mQ Z) cW Z (.block 0 (.loop (bodyOf 0 Tryz.f32))) st K=some r:=by
 unfold mP at h
 split at h
 ·rename_i s hs
  split at h
  ·skip
   split at h
   rotate_left 1
   ·cases h
   rename_i hsp
   have esp:=splitRun_eq hsp
   subst esp
   obtain ⟨hb,h⟩:=cond_some' h
   cases qb_eq hb
   exact blk_loop (S:=rP) (ks:=qV) (step:=df Z) (v:=(_,_,_,_,_,_,_,_,_,_,_,_,_,_,_,_,_,_,_)) kr kr (fun R K v=>by obtain ⟨k,l,m,n,o,p,q,t,u,w,a,b,c,d,e,f,g,i,j⟩:=v; exact Ly Z (av Z) R K k l m n o p q t u w a b c d e f g i j) hs h
  ·cases h
 ·cases h
def NK (Z:Nat) (i:Nat):Option Ev.Blk:=Ev.look i [(100002,gC Z),(100000,mP Z)]
def pH (Z:Nat) (J:aK) (z:(List Bool)) (A B C:Int) (D:Bool) (E F:Int) (G H:Int) (I r:Int) (s t u:Int) (v:Bool) (w:(List BM)) (x y:LI) (k0:(Int×Int×Int×Bool×Int×Int×Int×Int×Int×Int×Int×Int×Int×Bool×(List BM)×LI×LI)→OA):OA:=(BI Z (z,false,A,B,C,D,E,F,G,H,I,r,s,t,u,v,w,x,y) (fun (h,i,j,k,l,m,n,o,p,q,a,b,c,d,e,f,g)=>k0 (h,i,j,k,l,m,n,o,p,q,a,b,c,d,e,f,g)))
abbrev iW:Type:=((List Bool))→Int→Int→Int→Bool→Int→Int→Int→Int→Int→Int→Int→Int→Int→Bool→((List BM))→LI→LI→((Int×Int×Int×Bool×Int×Int×Int×Int×Int×Int×Int×Int×Int×Bool×(List BM)×LI×LI)→OA)→OA
def gL (Z:Nat):iW:=pH Z (av Z)
theorem Mh (Z:Nat) (a:aK) (l:(List Bool)) (m n o:Int) (p:Bool) (q s:Int) (t u:Int) (v b:Int) (d e f:Int) (g:Bool) (h:(List BM)) (i j:LI) (k:Ev.Cont):evalFn tab (ox a) (NK Z) cW Z Tryz.f32 [.c (.ptr 0 0),.c (.sl .bool l)] [.cells 76 [i6 m,i6 n,i6 o,.bool p,i6 q,i6 s,i6 t,i6 u,i6 v,i6 b,.ptr 1 0,.own 2],.cells 138 (i6 d::.own 3::ctb (.int .u64 e::.int .u64 f::.own 4::.bool g::[])),.vec 29 tq h false,.vec 3 ti i false,.vec 5 (.int .u8) j false] k=pH Z a l m n o p q s t u v b d e f g h i j (fun r=>match r with | (D,E,F,G,H,I,J,K,L,M,w,x,y,z,A,B,C)=>k (.tup [],[.cells 76 [i6 D,i6 E,i6 F,.bool G,i6 H,i6 I,i6 J,i6 K,i6 L,i6 M,.ptr 1 0,.own 2],.cells 138 (i6 w::.own 3::ctb (.int .u64 x::.int .u64 y::.own 4::.bool z::[])),.vec 29 tq A false,.vec 3 ti B false,.vec 5 (.int .u8) C true])):=by
 kernel_rfl
theorem rY (Z:Nat):GOK prog (tr Z):=
 gc (xL Z) func78 kr rfl <|
 gok_nil
theorem KL (Z:Nat):BlkOK prog Tryz.f32.ntmps (.block 2 (.loop (bodyOf 2 Tryz.f32))) (gC Z):=bo0 (rY Z) kr kr (Jf Z)
theorem MZ (Z:Nat):BlkOK prog Tryz.f32.ntmps (.block 0 (.loop (bodyOf 0 Tryz.f32))) (mP Z):=
 blk_of (blk_of_code tab_ok (rY Z) mixed (J:=mQ Z) (kp:=cW) (fuel:=Z) kr (fun q hq=>by
  rw [(by kernel_rfl:obl (mQ Z) (.block 0 (.loop (bodyOf 0 Tryz.f32)))= [(.block 2 (.loop (bodyOf 2 Tryz.f32)),gC Z)])] at hq
  simp only [List.mem_cons,List.not_mem_nil,or_false] at hq
  subst hq
  ·exact KL Z)) (EZ Z)
def tx (F:iW):Ev.Spec:=fun args objs k=>match args,objs with | [.c (.ptr v w),.c (.sl .bool x)],[.cells y [i6 z,i6 A,i6 B,.bool C,i6 D,i6 E,i6 G,i6 H,i6 I,i6 a,.ptr J K,.own L],.cells M b,.vec N tq d false,.vec O ti e false,.vec P (.int .u8) f false]=>(match splitRun 2 ctn b with | some ([i6 g,.own h],[.int .u64 i,.int .u64 j,.own l,.bool m])=>bif qb [v,w,y,J,K,L,M,N,O,P,h,l] [0,0,76,1,0,2,138,29,3,5,3,4] then F x z A B C D E G H I a g i j m d e f (fun r=>match r with | (Q,R,S,T,U,V,W,X,Y,a0,n,o,p,q,s,t,u)=>k (.tup [],[.cells 76 [i6 Q,i6 R,i6 S,.bool T,i6 U,i6 V,i6 W,i6 X,i6 Y,i6 a0,.ptr 1 0,.own 2],.cells 138 (i6 n::.own 3::ctb (.int .u64 o::.int .u64 p::.own 4::.bool q::[])),.vec 29 tq s false,.vec 3 ti t false,.vec 5 (.int .u8) u true])) else none | _=>none) | _,_=>none
theorem Fj (Z:Nat):FnOK prog 32 (tx (gL Z)):=by
 intro args objs kk r h
 unfold tx at h
 split at h
 ·skip
  split at h
  rotate_left 1
  ·cases h
  rename_i hsp
  have esp:=splitRun_eq hsp
  subst esp
  obtain ⟨hb,h⟩:=cond_some' h
  cases qb_eq hb
  exact fo1 (rY Z) func32 rfl (MZ Z) kr _ _ kk r ((Mh Z (av Z) _ _ _ _ _ _ _ _ _ _ _ _ _ _ _ _ _ _ kk).trans h)
 ·cases h
def jJ (i:Nat):Option (List Nat):=Ev.look i [(2,[2,3,8,9,10]),(100000,[]),(400000,[4])]
def ym (a:bF) (b:al) (f:Nat):Option Ev.Spec:=Ev.look f [(170,jg a),(195,fL b)]
def AW (Z:Nat):Nat→Option Ev.Spec:=ym (aR Z) (ah Z)
abbrev wc:Type:=LI×Int×Int×Int×Int×LI×Int×Int×LI
abbrev BK:Type:=(Bool→OA)×(Unit→OA)
def lD (Z:Nat) (l:bF) (m:al) (d:LI) (h a:Int) (i j:Int) (k:LI) (e f:Int) (g:LI) (c:wc→OA) (B:BK):OA:=match B with | (ret,b)=>bif decide (a < h) then bif decide (0≤a∧a < (↑d.length:Int)) then bif d.getD a.toNat (0:Int)==(1:Int) then (l e f g i j (fun o=>bif o then (m e f g a (fun n=>bif n then ret true else c (d,h,i64.wrap (a+1),i,j,k,e,f,g))) else c (d,h,i64.wrap (a+1),i,j,k,e,f,g))) else c (d,h,i64.wrap (a+1),i,j,k,e,f,g) else none else b ()
def ii (Z:Nat) (v:LI×Int×Int×Int×Int×LI×Int×Int×LI) (c:(LI×Int×Int×Int×Int×LI×Int×Int×LI)→OA) (B:(Bool→OA)×(Unit→OA)):OA:=match v with | (a,b,d,e,f,g,h,i,j)=>lD Z (aR Z) (ah Z) a b d e f g h i j c B
def Ax (Z:Nat) (v:wc) (ret:(Bool→OA)) (b:(Unit→OA)):OA:=iter (ii Z) Z v (ret,b)
def u4 (v:wc):Ev.St:=match v with | (a,b,d,e,f,g,h,i,j)=>⟨[(2,.c (.ptr 0 0)),(3,.c (.ptr 1 0)),(8,.c (.sl (.int .u8) a)),(9,.c (i6 b)),(10,.c (i6 d))],[(0,.cells 29 [i6 e,i6 f,.sl (.int .u8) g]),(1,.cells 29 [i6 h,i6 i,.sl (.int .u8) j])],2,0⟩
def xB (K:KT):BK:=((fun v=>match v with | a=>K .ret ⟨[(4,.c (.bool a))],[],0,0⟩),(fun v=>match v with | ()=>K .normal ⟨[],[],0,0⟩))
theorem Mg (Z:Nat) (a:bF) (b:al) (R:Ev.St→OA) (K:KT) (c:LI) (d e:Int) (f g:Int) (h:LI) (i j:Int) (k:LI):evalCode tab (ym a b) J0 jJ Z (bodyOf 0 Tryz.f169) (u4 (c,d,e,f,g,h,i,j,k)) (lc jJ 2 0 R K)=lD Z a b c d e f g h i j k (fun v=>R (u4 v)) (xB K):=by
 kernel_rfl
def og (Z:Nat):Ev.Blk:=fun st K=>match canonO (jJ 2) st with | some s=>(match s with | ⟨[(g,.c (.ptr h i)),(j,.c (.ptr k l)),(m,.c (.sl (.int .u8) n)),(o,.c (i6 p)),(q,.c (i6 r))],[(t,.cells a [i6 u,i6 v,.sl (.int .u8) w]),(b,.cells d [i6 x,i6 y,.sl (.int .u8) z])],e,f⟩=>bif qb [g,h,i,j,k,l,m,o,q,t,a,b,d,e,f] [2,0,0,3,1,0,8,9,10,0,29,1,29,2,0] then iter (ii Z) Z (n,p,r,u,v,w,x,y,z) (xB K) else none | _=>none) | none=>none
theorem HR (Z:Nat) (st:Ev.St) (K:KT) (r:Ans) (h:og Z st K=some r):evalCode tab (AW Z) J0 jJ Z (.block 0 (.loop (bodyOf 0 Tryz.f169))) st K=some r:=by
 unfold og at h
 split at h
 ·rename_i s hs
  split at h
  ·skip
   obtain ⟨hb,h⟩:=cond_some' h
   cases qb_eq hb
   exact blk_loop (S:=u4) (ks:=xB) (step:=ii Z) (v:=(_,_,_,_,_,_,_,_,_)) kr kr (fun R K v=>by obtain ⟨a,b,c,d,e,f,g,i,j⟩:=v; exact Mg Z (aR Z) (ah Z) R K a b c d e f g i j) hs h
  ·cases h
 ·cases h
def OK (Z:Nat) (i:Nat):Option Ev.Blk:=Ev.look i [(100000,og Z)]
def wj (Z:Nat) (g:bF) (h:al) (b c:Int) (a:LI) (d e:Int) (f:LI) (k0:(Bool)→OA):OA:=(Ax Z (a,(↑a.length:Int),0,b,c,a,d,e,f) (fun ret0_0=>k0 ret0_0) (fun ()=>k0 false))
abbrev kI:Type:=Int→Int→LI→Int→Int→LI→(Bool→OA)→OA
def hO (Z:Nat):kI:=wj Z (aR Z) (ah Z)
theorem E7 (Z:Nat) (a:bF) (b:al) (d e:Int) (f:LI) (g h:Int) (i:LI) (k:Ev.Cont):evalFn tab (ym a b) (OK Z) jJ Z Tryz.f169 [.agg [i6 d,i6 e,.sl (.int .u8) f],.agg [i6 g,i6 h,.sl (.int .u8) i]] [] k=wj Z a b d e f g h i (fun r=>match r with | j=>k (.c (.bool j),[])):=by
 kernel_rfl
theorem Bf (Z:Nat):GOK prog (AW Z):=
 gc (yo Z) func170 kr rfl <|
 gc (jL Z) func195 kr rfl <|
 gok_nil
theorem Kz (Z:Nat):BlkOK prog Tryz.f169.ntmps (.block 0 (.loop (bodyOf 0 Tryz.f169))) (og Z):=bo0 (Bf Z) kr kr (HR Z)
def xE (F:kI):Ev.Spec:=fun args objs k=>match args,objs with | [.agg [i6 a,i6 b,.sl (.int .u8) d],.agg [i6 e,i6 f,.sl (.int .u8) g]],[]=>F a b d e f g (fun r=>match r with | h=>k (.c (.bool h),[])) | _,_=>none
theorem FK (Z:Nat):FnOK prog 169 (xE (hO Z)):=by
 intro args objs kk r h
 unfold xE at h
 split at h
 ·skip
  exact fo1 (Bf Z) func169 rfl (Kz Z) kr _ _ kk r ((E7 Z (aR Z) (ah Z) _ _ _ _ _ _ kk).trans h)
 ·cases h
def JI (i:Nat):Option (List Nat):=Ev.look i []
def K7 (f:Nat):Option Ev.Spec:=Ev.look f []
def C9 (Z:Nat):Nat→Option Ev.Spec:=K7
def dd (Z:Nat) (a b:LI) (k0:(Bool)→OA):OA:=k0 ((Go.strOfNums a).toList==(Go.strOfNums b).toList)
abbrev dU:Type:=LI→LI→(Bool→OA)→OA
theorem MG (Z:Nat) (a b:LI) (k:Ev.Cont):evalFn tab (C9 Z) J0 JI Z Tryz.f196 [.c (.sl (.int .u8) a),.c (.sl (.int .u8) b)] [] k=dd Z a b (fun r=>match r with | d=>k (.c (.bool d),[])):=by
 kernel_rfl
theorem Hu (Z:Nat):GOK prog (C9 Z):=
 gok_nil
def wW (F:dU):Ev.Spec:=fun args objs k=>match args,objs with | [.c (.sl (.int .u8) a),.c (.sl (.int .u8) b)],[]=>F a b (fun r=>match r with | d=>k (.c (.bool d),[])) | _,_=>none
theorem NA (Z:Nat):FnOK prog 196 (wW (dd Z)):=by
 intro args objs kk r h
 unfold wW at h
 split at h
 ·skip
  exact fo0 (Hu Z) func196 rfl kr _ _ kk r ((MG Z _ _ kk).trans h)
 ·cases h
def Mt (i:Nat):Option (List Nat):=Ev.look i [(200003,[0])]
def IH (f:Nat):Option Ev.Spec:=Ev.look f []
def CS (Z:Nat):Nat→Option Ev.Spec:=IH
def bI (Z:Nat) (d e:Int) (a c:Int) (b:LI) (f:(List (Int×Int))) (k0:(Int×Int×Int×LI×(List (Int×Int)))→OA):OA:=bif decide (d < 0) then k0 (0,a,c,b,f) else bif decide (e < 0) then k0 (0,a,c,b,f) else bif decide (d≥a) then k0 (0,a,c,b,f) else bif decide (e≥c) then k0 (0,a,c,b,f) else bif decide (0≤i64.wrap (i64.wrap (e*a)+d)∧i64.wrap (i64.wrap (e*a)+d) < (↑b.length:Int)) then k0 (b.getD (i64.wrap (i64.wrap (e*a)+d)).toNat 0,a,c,b,f) else none
abbrev cs:Type:=Int→Int→Int→Int→LI→((List (Int×Int)))→((Int×Int×Int×LI×(List (Int×Int)))→OA)→OA
theorem G0 (Z:Nat) (a b:Int) (d e:Int) (f:LI) (g:(List (Int×Int))) (k:Ev.Cont):evalFn tab (CS Z) J0 Mt Z Tryz.f203 [.c (.ptr 0 0),.c (i6 a),.c (i6 b)] [.cells 240 [i6 d,i6 e,.sl (.int .u8) f,.own 1],.vec 22 (.pair ti ti) g false] k=bI Z a b d e f g (fun r=>match r with | (h,i,j,l,m)=>k (.c (.int .u8 h),[.cells 240 [i6 i,i6 j,.sl (.int .u8) l,.own 1],.vec 22 (.pair ti ti) m false])):=by
 kernel_rfl
theorem Jb (Z:Nat):GOK prog (CS Z):=
 gok_nil
def mU (F:cs):Ev.Spec:=fun args objs k=>match args,objs with | [.c (.ptr a b),.c (i6 d),.c (i6 e)],[.cells f [i6 g,i6 h,.sl (.int .u8) i,.own j],.vec l (.pair ti ti) m false]=>bif qb [a,b,f,j,l] [0,0,240,1,22] then F d e g h i m (fun r=>match r with | (n,o,p,q,s)=>k (.c (.int .u8 n),[.cells 240 [i6 o,i6 p,.sl (.int .u8) q,.own 1],.vec 22 (.pair ti ti) s false])) else none | _,_=>none
theorem Ad (Z:Nat):FnOK prog 203 (mU (bI Z)):=by
 intro args objs kk r h
 unfold mU at h
 split at h
 ·skip
  obtain ⟨hb,h⟩:=cond_some' h
  cases qb_eq hb
  exact fo0 (Jb Z) func203 rfl kr _ _ kk r ((G0 Z _ _ _ _ _ _ kk).trans h)
 ·cases h
def kD (i:Nat):Option (List Nat):=Ev.look i [(3,[0,1,5,7,15,16]),(100000,[7]),(200005,[0,5]),(400000,[6])]
def uS (b:al) (a:cs) (f:Nat):Option Ev.Spec:=Ev.look f [(195,fL b),(203,mU a)]
def BS (Z:Nat):Nat→Option Ev.Spec:=uS (ah Z) (bI Z)
abbrev pO:Type:=Int×Int×Int×Int×Int×LI×(List (Int×Int))×Int×Int×LI×LI
abbrev rM:Type:=(Int×Int×LI×(List (Int×Int))×LI→OA)
def me (Z:Nat) (o:al) (n:cs) (e g:Int) (a f h:Int) (i:LI) (j:(List (Int×Int))) (k l:Int) (m d:LI) (c:pO→OA) (B:rM):OA:=match B with | b=>bif decide (a < g) then (o k l m (i64.wrap (i64.wrap (e*f)+a)) (fun u=>bif !u then (n a (i64.wrap (e - 1)) f h i j (fun (p,q,r,s,t)=>bif decide (0≤a∧a < (↑d.length:Int)) then c (e,g,i64.wrap (a+1),q,r,s,t,k,l,m,d.set a.toNat p) else none)) else c (e,g,i64.wrap (a+1),f,h,i,j,k,l,m,d))) else b (f,h,i,j,d)
def gK (Z:Nat) (v:Int×Int×Int×Int×Int×LI×(List (Int×Int))×Int×Int×LI×LI) (c:(Int×Int×Int×Int×Int×LI×(List (Int×Int))×Int×Int×LI×LI)→OA) (B:(Int×Int×LI×(List (Int×Int))×LI→OA)):OA:=match v with | (b,d,e,f,g,h,i,j,k,l,a)=>me Z (ah Z) (bI Z) b d e f g h i j k l a c B
def Bl (Z:Nat) (v:pO) (b:rM):OA:=iter (gK Z) Z v b
def uz (v:pO):Ev.St:=match v with | (b,d,e,f,g,h,i,j,k,l,a)=>⟨[(0,.c (.ptr 0 0)),(1,.c (i6 b)),(5,.c (.ptr 2 0)),(7,.c (.own 3)),(15,.c (i6 d)),(16,.c (i6 e))],[(0,.cells 240 [i6 f,i6 g,.sl (.int .u8) h,.own 1]),(1,.vec 22 (.pair ti ti) i false),(2,.cells 29 [i6 j,i6 k,.sl (.int .u8) l]),(3,.vec 5 (.int .u8) a true)],4,2⟩
def qN (K:KT):rM:=(fun v=>match v with | (a,b,d,e,f)=>K .normal ⟨[(7,.c (.own 2))],[(0,.cells 240 [i6 a,i6 b,.sl (.int .u8) d,.own 1]),(1,.vec 22 (.pair ti ti) e false),(2,.vec 5 (.int .u8) f true)],3,2⟩)
theorem Nz (Z:Nat) (b:al) (a:cs) (R:Ev.St→OA) (K:KT) (d e:Int) (f g h:Int) (i:LI) (j:(List (Int×Int))) (k l:Int) (m c:LI):evalCode tab (uS b a) J0 kD Z (bodyOf 0 Tryz.f197) (uz (d,e,f,g,h,i,j,k,l,m,c)) (lc kD 3 0 R K)=me Z b a d e f g h i j k l m c (fun v=>R (uz v)) (qN K):=by
 kernel_rfl
def kV (Z:Nat):Ev.Blk:=fun st K=>match canonO (kD 3) st with | some s=>(match s with | ⟨[(o,.c (.ptr p q)),(r,.c (i6 t)),(u,.c (.ptr v w)),(x,.c (.own y)),(z,.c (i6 A)),(a,.c (i6 B))],[(b,.cells d [i6 C,i6 D,.sl (.int .u8) E,.own e]),(f,.vec g (.pair ti ti) F false),(h,.cells i [i6 G,i6 H,.sl (.int .u8) I]),(j,.vec k (.int .u8) l true)],m,n⟩=>bif qb [o,p,q,r,u,v,w,x,y,z,a,b,d,e,f,g,h,i,j,k,m,n] [0,0,0,1,5,2,0,7,3,15,16,0,240,1,1,22,2,29,3,5,4,2] then iter (gK Z) Z (t,A,B,C,D,E,F,G,H,I,l) (qN K) else none | _=>none) | none=>none
theorem EX (Z:Nat) (st:Ev.St) (K:KT) (r:Ans) (h:kV Z st K=some r):evalCode tab (BS Z) J0 kD Z (.block 0 (.loop (bodyOf 0 Tryz.f197))) st K=some r:=by
 unfold kV at h
 split at h
 ·rename_i s hs
  split at h
  ·skip
   obtain ⟨hb,h⟩:=cond_some' h
   cases qb_eq hb
   exact blk_loop (S:=uz) (ks:=qN) (step:=gK Z) (v:=(_,_,_,_,_,_,_,_,_,_,_)) kr kr (fun R K v=>by obtain ⟨b,c,d,e,f,g,i,j,k,l,a⟩:=v; exact Nz Z (ah Z) (bI Z) R K b c d e f g i j k l a) hs h
  ·cases h
 ·cases h
def Mv (Z:Nat) (i:Nat):Option Ev.Blk:=Ev.look i [(100000,kV Z)]
def vc (Z:Nat) (o:al) (n:cs) (g h i:Int) (j:LI) (a k:Int) (l:LI) (m:(List (Int×Int))) (k0:(Int×Int×LI×(List (Int×Int))×LI)→OA):OA:=bif decide (0≤a∧a=a∧(↑(1:Nat):Int)*a≤281474976710656∧a≤281474976710656) then (Bl Z (g,(↑(List.replicate a.toNat (0:Int)).length:Int),0,a,k,l,m,h,i,j,List.replicate a.toNat (0:Int)) (fun (b,c,d,e,f)=>k0 (b,c,d,e,f))) else none
abbrev dE:Type:=Int→Int→Int→LI→Int→Int→LI→((List (Int×Int)))→((Int×Int×LI×(List (Int×Int))×LI)→OA)→OA
def cM (Z:Nat):dE:=vc Z (ah Z) (bI Z)
theorem MF (Z:Nat) (b:al) (a:cs) (d e f:Int) (g:LI) (h i:Int) (j:LI) (l:(List (Int×Int))) (k:Ev.Cont):evalFn tab (uS b a) (Mv Z) kD Z Tryz.f197 [.c (.ptr 0 0),.c (i6 d),.agg [i6 e,i6 f,.sl (.int .u8) g]] [.cells 240 [i6 h,i6 i,.sl (.int .u8) j,.own 1],.vec 22 (.pair ti ti) l false] k=vc Z b a d e f g h i j l (fun r=>match r with | (m,n,o,p,q)=>k (.c (.own 2),[.cells 240 [i6 m,i6 n,.sl (.int .u8) o,.own 1],.vec 22 (.pair ti ti) p false,.vec 5 (.int .u8) q true])):=by
 kernel_rfl
theorem Df (Z:Nat):GOK prog (BS Z):=
 gc (jL Z) func195 kr rfl <|
 gc (Ad Z) func203 kr rfl <|
 gok_nil
theorem Gp (Z:Nat):BlkOK prog Tryz.f197.ntmps (.block 0 (.loop (bodyOf 0 Tryz.f197))) (kV Z):=bo0 (Df Z) kr kr (EX Z)
def yc (F:dE):Ev.Spec:=fun args objs k=>match args,objs with | [.c (.ptr a b),.c (i6 d),.agg [i6 e,i6 f,.sl (.int .u8) g]],[.cells h [i6 i,i6 j,.sl (.int .u8) l,.own m],.vec n (.pair ti ti) o false]=>bif qb [a,b,h,m,n] [0,0,240,1,22] then F d e f g i j l o (fun r=>match r with | (p,q,s,t,u)=>k (.c (.own 2),[.cells 240 [i6 p,i6 q,.sl (.int .u8) s,.own 1],.vec 22 (.pair ti ti) t false,.vec 5 (.int .u8) u true])) else none | _,_=>none
theorem K5 (Z:Nat):FnOK prog 197 (yc (cM Z)):=by
 intro args objs kk r h
 unfold yc at h
 split at h
 ·skip
  obtain ⟨hb,h⟩:=cond_some' h
  cases qb_eq hb
  exact fo1 (Df Z) func197 rfl (Gp Z) kr _ _ kk r ((MF Z (ah Z) (bI Z) _ _ _ _ _ _ _ _ kk).trans h)
 ·cases h
def jN (i:Nat):Option (List Nat):=Ev.look i [(3,[0,1,2,7,13,14,15]),(100000,[7]),(400000,[6])]
def yu (a:cs) (f:Nat):Option Ev.Spec:=Ev.look f [(203,mU a)]
def zg (Z:Nat):Nat→Option Ev.Spec:=yu (bI Z)
abbrev vQ:Type:=Int×Int×Int×Int×Int×Int×Int×LI×(List (Int×Int))
abbrev rK:Type:=(Int×Int×Int×LI×(List (Int×Int))→OA)
def oo (Z:Nat) (l:cs) (e f:Int) (g h:Int) (a i j:Int) (k:LI) (d:(List (Int×Int))) (c:vQ→OA) (B:rK):OA:=match B with | b=>bif decide (a < h) then bif decide (0≤a∧a < (↑d.length:Int)) then (l (i64.wrap (e+(d.getD a.toNat (0,0)).fst)) (i64.wrap (f+(d.getD a.toNat (0,0)).snd)) i j k d (fun (m,n,o,p,q)=>c (e,f,i64.wrap (i64.wrap (2*g)+i64.wrap m),h,i64.wrap (a+1),n,o,p,q))) else none else b (g,i,j,k,d)
def ia (Z:Nat) (v:Int×Int×Int×Int×Int×Int×Int×LI×(List (Int×Int))) (c:(Int×Int×Int×Int×Int×Int×Int×LI×(List (Int×Int)))→OA) (B:(Int×Int×Int×LI×(List (Int×Int))→OA)):OA:=match v with | (a,b,d,e,f,g,h,i,j)=>oo Z (bI Z) a b d e f g h i j c B
def BE (Z:Nat) (v:vQ) (b:rK):OA:=iter (ia Z) Z v b
def qt (v:vQ):Ev.St:=match v with | (a,b,d,e,f,g,h,i,j)=>⟨[(0,.c (.ptr 0 0)),(1,.c (i6 a)),(2,.c (i6 b)),(7,.c (i6 d)),(13,.c (.own 1)),(14,.c (i6 e)),(15,.c (i6 f))],[(0,.cells 240 [i6 g,i6 h,.sl (.int .u8) i,.own 1]),(1,.vec 22 (.pair ti ti) j false)],2,2⟩
def uj (K:KT):rK:=(fun v=>match v with | (a,b,d,e,f)=>K .normal ⟨[(7,.c (i6 a))],[(0,.cells 240 [i6 b,i6 d,.sl (.int .u8) e,.own 1]),(1,.vec 22 (.pair ti ti) f false)],2,2⟩)
theorem MB (Z:Nat) (a:cs) (R:Ev.St→OA) (K:KT) (b c:Int) (d e:Int) (f g h:Int) (i:LI) (j:(List (Int×Int))):evalCode tab (yu a) J0 jN Z (bodyOf 0 Tryz.f198) (qt (b,c,d,e,f,g,h,i,j)) (lc jN 3 0 R K)=oo Z a b c d e f g h i j (fun v=>R (qt v)) (uj K):=by
 kernel_rfl
def oJ (Z:Nat):Ev.Blk:=fun st K=>match canonO (jN 3) st with | some s=>(match s with | ⟨[(i,.c (.ptr j k)),(l,.c (i6 m)),(n,.c (i6 o)),(p,.c (i6 q)),(r,.c (.own t)),(u,.c (i6 v)),(w,.c (i6 x))],[(a,.cells b [i6 y,i6 z,.sl (.int .u8) A,.own d]),(e,.vec f (.pair ti ti) B false)],g,h⟩=>bif qb [i,j,k,l,n,p,r,t,u,w,a,b,d,e,f,g,h] [0,0,0,1,2,7,13,1,14,15,0,240,1,1,22,2,2] then iter (ia Z) Z (m,o,q,v,x,y,z,A,B) (uj K) else none | _=>none) | none=>none
theorem O9 (Z:Nat) (st:Ev.St) (K:KT) (r:Ans) (h:oJ Z st K=some r):evalCode tab (zg Z) J0 jN Z (.block 0 (.loop (bodyOf 0 Tryz.f198))) st K=some r:=by
 unfold oJ at h
 split at h
 ·rename_i s hs
  split at h
  ·skip
   obtain ⟨hb,h⟩:=cond_some' h
   cases qb_eq hb
   exact blk_loop (S:=qt) (ks:=uj) (step:=ia Z) (v:=(_,_,_,_,_,_,_,_,_)) kr kr (fun R K v=>by obtain ⟨a,b,c,d,e,f,g,i,j⟩:=v; exact MB Z (bI Z) R K a b c d e f g i j) hs h
  ·cases h
 ·cases h
def K8 (Z:Nat) (i:Nat):Option Ev.Blk:=Ev.look i [(100000,oJ Z)]
def xw (Z:Nat) (l:cs) (g h:Int) (i j:Int) (k:LI) (a:(List (Int×Int))) (k0:(Int×Int×Int×LI×(List (Int×Int)))→OA):OA:=(BE Z (g,h,0,(↑a.length:Int),0,i,j,k,a) (fun (b,c,d,e,f)=>k0 (b,c,d,e,f)))
abbrev dz:Type:=Int→Int→Int→Int→LI→((List (Int×Int)))→((Int×Int×Int×LI×(List (Int×Int)))→OA)→OA
def cK (Z:Nat):dz:=xw Z (bI Z)
theorem Fv (Z:Nat) (a:cs) (b d:Int) (e f:Int) (g:LI) (h:(List (Int×Int))) (k:Ev.Cont):evalFn tab (yu a) (K8 Z) jN Z Tryz.f198 [.c (.ptr 0 0),.c (i6 b),.c (i6 d)] [.cells 240 [i6 e,i6 f,.sl (.int .u8) g,.own 1],.vec 22 (.pair ti ti) h false] k=xw Z a b d e f g h (fun r=>match r with | (i,j,l,m,n)=>k (.c (i6 i),[.cells 240 [i6 j,i6 l,.sl (.int .u8) m,.own 1],.vec 22 (.pair ti ti) n false])):=by
 kernel_rfl
theorem CM (Z:Nat):GOK prog (zg Z):=
 gc (Ad Z) func203 kr rfl <|
 gok_nil
theorem Hj (Z:Nat):BlkOK prog Tryz.f198.ntmps (.block 0 (.loop (bodyOf 0 Tryz.f198))) (oJ Z):=bo0 (CM Z) kr kr (O9 Z)
def xZ (F:dz):Ev.Spec:=fun args objs k=>match args,objs with | [.c (.ptr a b),.c (i6 d),.c (i6 e)],[.cells f [i6 g,i6 h,.sl (.int .u8) i,.own j],.vec l (.pair ti ti) m false]=>bif qb [a,b,f,j,l] [0,0,240,1,22] then F d e g h i m (fun r=>match r with | (n,o,p,q,s)=>k (.c (i6 n),[.cells 240 [i6 o,i6 p,.sl (.int .u8) q,.own 1],.vec 22 (.pair ti ti) s false])) else none | _,_=>none
theorem EM (Z:Nat):FnOK prog 198 (xZ (cK Z)):=by
 intro args objs kk r h
 unfold xZ at h
 split at h
 ·skip
  obtain ⟨hb,h⟩:=cond_some' h
  cases qb_eq hb
  exact fo1 (CM Z) func198 rfl (Hj Z) kr _ _ kk r ((Fv Z (bI Z) _ _ _ _ _ _ kk).trans h)
 ·cases h
def cP (i:Nat):Option (List Nat):=Ev.look i [(4,[0,1,7,8,9,10,27,28,1000002]),(13,[0,1,7,8,9,10,11,27,28,60,61]),(100000,[]),(100002,[0,1,7,8,9,10,27,28]),(200008,[8,9]),(200017,[8]),(400000,[]),(400002,[])]
def nn (d:aD) (a:ai) (e:bG) (g:al) (h:dU) (b:dE) (c:dz) (f:Nat):Option Ev.Spec:=Ev.look f [(129,gZ d),(132,dI a),(183,mp e),(195,fL g),(196,wW h),(197,yc b),(198,xZ c)]
def rz (Z:Nat):Nat→Option Ev.Spec:=nn (aB Z) (ab Z) (bm Z) (ah Z) (dd Z) (cM Z) (cK Z)
abbrev vE:Type:=Int×Int×Int×Int×Int×Int×Int×Int×Int×Bool×LI×LI×Int×Int×Int×Bool×Int×Int×Int×LI×Int×Int×LI×Int×Int×LI×(List (Int×Int))
abbrev qP:Type:=(Int×Int×Int×Int×Int×Int×Bool×LI×LI×Int×Int×Int×Bool×Int×Int×Int×LI×Int×Int×LI×Int×Int×LI×(List (Int×Int))→OA)
def nA (Z:Nat) (V:aD) (O:ai) (W:bG) (R:al) (X:dU) (U:dE) (P:dz) (j e:Int) (q r:Int) (s a:Int) (G H I:Int) (J:Bool) (z A:LI) (k l m:Int) (n:Bool) (o d p:Int) (f:LI) (g h:Int) (i:LI) (C D:Int) (E:LI) (F:(List (Int×Int))) (c:vE→OA) (B:qP):OA:=match B with | b=>bif decide (a < s) then (R g h i (i64.wrap (i64.wrap (e*d)+a)) (fun T=>bif !T then bif decide (0≤i64.wrap (i64.wrap (e*d)+a)∧i64.wrap (i64.wrap (e*d)+a) < (↑f.length:Int)) then (P a e C D E F (fun (S,K,L,M,N)=>(O (i64.wrap (j+S)) (i64.wrap (f.getD (i64.wrap (i64.wrap (e*d)+a)).toNat 0)) G H I J z A (fun (Q,t,u,v,w,x,y)=>c (j,e,q,r,s,i64.wrap (a+1),t,u,v,w,x,y,k,l,m,n,o,d,p,f,g,h,i,K,L,M,N)) (fun (Q,t,u,v,w,x,y)=>c (j,e,q,r,s,i64.wrap (a+1),t,u,v,w,x,y,k,l,m,n,o,d,p,f,g,h,i,K,L,M,N))))) else none else c (j,e,q,r,s,i64.wrap (a+1),G,H,I,J,z,A,k,l,m,n,o,d,p,f,g,h,i,C,D,E,F))) else b (j,q,r,G,H,I,J,z,A,k,l,m,n,o,d,p,f,g,h,i,C,D,E,F)
def gH (Z:Nat) (v:Int×Int×Int×Int×Int×Int×Int×Int×Int×Bool×LI×LI×Int×Int×Int×Bool×Int×Int×Int×LI×Int×Int×LI×Int×Int×LI×(List (Int×Int))) (c:(Int×Int×Int×Int×Int×Int×Int×Int×Int×Bool×LI×LI×Int×Int×Int×Bool×Int×Int×Int×LI×Int×Int×LI×Int×Int×LI×(List (Int×Int)))→OA) (B:(Int×Int×Int×Int×Int×Int×Bool×LI×LI×Int×Int×Int×Bool×Int×Int×Int×LI×Int×Int×LI×Int×Int×LI×(List (Int×Int))→OA)):OA:=match v with | (s,t,u,w,x,y,z,A,C,D,a,b,d,e,f,g,h,i,j,k,l,m,n,o,p,q,r)=>nA Z (aB Z) (ab Z) (bm Z) (ah Z) (dd Z) (cM Z) (cK Z) s t u w x y z A C D a b d e f g h i j k l m n o p q r c B
def jr (Z:Nat) (v:vE) (b:qP):OA:=iter (gH Z) Z v b
def ul (v:vE):Ev.St:=match v with | (s,t,u,w,x,y,z,A,B,C,a,b,d,e,f,g,h,i,j,k,l,m,n,o,p,q,r)=>⟨[(0,.c (.ptr 0 0)),(1,.c (i6 s)),(7,.c (.ptr 3 0)),(8,.c (.ptr 4 0)),(9,.c (.ptr 5 0)),(10,.c (.ptr 6 0)),(11,.c (i6 t)),(27,.c (i6 u)),(28,.c (i6 w)),(60,.c (i6 x)),(61,.c (i6 y))],[(0,.cells 138 (i6 z::.own 1::ctb (.int .u64 A::.int .u64 B::.own 2::.bool C::[]))),(1,.vec 3 ti a false),(2,.vec 5 (.int .u8) b true),(3,.cells 24 [i6 d,i6 e,i6 f,.bool g,i6 h]),(4,.cells 29 [i6 i,i6 j,.sl (.int .u8) k]),(5,.cells 29 [i6 l,i6 m,.sl (.int .u8) n]),(6,.cells 240 [i6 o,i6 p,.sl (.int .u8) q,.own 7]),(7,.vec 22 (.pair ti ti) r true)],8,3⟩
def pK (K:KT):qP:=(fun v=>match v with | (p,q,r,s,t,u,w,x,y,z,a,b,d,e,f,g,h,i,j,k,l,m,n,o)=>K .normal ⟨[(0,.c (.ptr 0 0)),(1,.c (i6 p)),(7,.c (.ptr 3 0)),(8,.c (.ptr 4 0)),(9,.c (.ptr 5 0)),(10,.c (.ptr 6 0)),(27,.c (i6 q)),(28,.c (i6 r))],[(0,.cells 138 (i6 s::.own 1::ctb (.int .u64 t::.int .u64 u::.own 2::.bool w::[]))),(1,.vec 3 ti x false),(2,.vec 5 (.int .u8) y true),(3,.cells 24 [i6 z,i6 a,i6 b,.bool d,i6 e]),(4,.cells 29 [i6 f,i6 g,.sl (.int .u8) h]),(5,.cells 29 [i6 i,i6 j,.sl (.int .u8) k]),(6,.cells 240 [i6 l,i6 m,.sl (.int .u8) n,.own 7]),(7,.vec 22 (.pair ti ti) o true)],8,3⟩)
theorem Ju (Z:Nat) (d:aD) (a:ai) (e:bG) (f:al) (g:dU) (b:dE) (c:dz) (R:Ev.St→OA) (K:KT) (z A:Int) (B C:Int) (D E:Int) (F G H:Int) (I:Bool) (h i:LI) (j k l:Int) (m:Bool) (n o p:Int) (q:LI) (r s:Int) (t:LI) (u w:Int) (x:LI) (y:(List (Int×Int))):evalCode tab (nn d a e f g b c) J0 cP Z (bodyOf 2 Tryz.f172) (ul (z,A,B,C,D,E,F,G,H,I,h,i,j,k,l,m,n,o,p,q,r,s,t,u,w,x,y)) (lc cP 13 2 R K)=nA Z d a e f g b c z A B C D E F G H I h i j k l m n o p q r s t u w x y (fun v=>R (ul v)) (pK K):=by
 kernel_rfl
def iA (Z:Nat):Ev.Blk:=fun st K=>match canonO (cP 13) st with | some s=>(match s with | ⟨[(a2,.c (.ptr a3 a4)),(a5,.c (i6 a6)),(a7,.c (.ptr a8 a9)),(b0,.c (.ptr b1 b2)),(a,.c (.ptr b d)),(e,.c (.ptr f g)),(h,.c (i6 b3)),(i,.c (i6 b4)),(j,.c (i6 b5)),(k,.c (i6 b6)),(l,.c (i6 b7))],[(m,.cells n o),(p,.vec q ti r false),(t,.vec u (.int .u8) v true),(w,.cells x [i6 y,i6 z,i6 A,.bool B,i6 C]),(D,.cells E [i6 F,i6 G,.sl (.int .u8) H]),(I,.cells J [i6 L,i6 M,.sl (.int .u8) N]),(O,.cells P [i6 Q,i6 R,.sl (.int .u8) S,.own T]),(U,.vec V (.pair ti ti) W true)],X,Y⟩=>(match splitRun 2 ctn o with | some ([i6 b8,.own a0],[.int .u64 b9,.int .u64 c0,.own a1,.bool c1])=>bif qb [a2,a3,a4,a5,a7,a8,a9,b0,b1,b2,a,b,d,e,f,g,h,i,j,k,l,m,n,p,q,t,u,w,x,D,E,I,J,O,P,T,U,V,X,Y,a0,a1] [0,0,0,1,7,3,0,8,4,0,9,5,0,10,6,0,11,27,28,60,61,0,138,1,3,2,5,3,24,4,29,5,29,6,240,7,7,22,8,3,1,2] then iter (gH Z) Z (a6,b3,b4,b5,b6,b7,b8,b9,c0,c1,r,v,y,z,A,B,C,F,G,H,L,M,N,Q,R,S,W) (pK K) else none | _=>none) | _=>none) | none=>none
theorem Nm (Z:Nat) (st:Ev.St) (K:KT) (r:Ans) (h:iA Z st K=some r):evalCode tab (rz Z) J0 cP Z (.block 2 (.loop (bodyOf 2 Tryz.f172))) st K=some r:=by
 unfold iA at h
 split at h
 ·rename_i s hs
  split at h
  ·skip
   split at h
   rotate_left 1
   ·cases h
   rename_i hsp
   have esp:=splitRun_eq hsp
   subst esp
   obtain ⟨hb,h⟩:=cond_some' h
   cases qb_eq hb
   exact blk_loop (S:=ul) (ks:=pK) (step:=gH Z) (v:=(_,_,_,_,_,_,_,_,_,_,_,_,_,_,_,_,_,_,_,_,_,_,_,_,_,_,_)) kr kr (fun R K v=>by obtain ⟨u,w,x,y,z,A,B,C,D,E,a,b,c,d,e,f,g,i,j,k,l,m,n,o,p,q,t⟩:=v; exact Ju Z (aB Z) (ab Z) (bm Z) (ah Z) (dd Z) (cM Z) (cK Z) R K u w x y z A B C D E a b c d e f g i j k l m n o p q t) hs h
  ·cases h
 ·cases h
abbrev uv:Type:=Int×Int×Int×Int×Int×Int×Bool×LI×LI×Int×Int×Int×Bool×Int×Int×Int×LI×Int×Int×LI×Int×Int×LI×(List (Int×Int))
abbrev qc:Type:=(Int×Int×Int×Bool×LI×LI→OA)
def lM (Z:Nat) (a9:aD) (a8:ai) (b9:bG) (c0:al) (b5:dU) (b4:dE) (b8:dz) (p u:Int) (a a0:Int) (a1 a2:Int) (a3:Bool) (a4 a5:LI) (q m n:Int) (f:Bool) (o d U:Int) (e:LI) (r s:Int) (t:LI) (b0 b1:Int) (b2:LI) (b3:(List (Int×Int))) (c:uv→OA) (B:qc):OA:=match B with | b=>bif decide (a < u) then bif f then bif decide (0≤Ev.loOf (some (i64.wrap (a*d)))∧Ev.loOf (some (i64.wrap (a*d)))≤Ev.hiOf (some (i64.wrap (i64.wrap (a+1)*d))) (↑e.length:Int)∧Ev.hiOf (some (i64.wrap (i64.wrap (a+1)*d))) (↑e.length:Int)≤(↑e.length:Int)) then (b4 a r s t b0 b1 b2 b3 (fun (V,W,X,Y,b6)=>(b5 b6 (List.take (Ev.hiOf (some (i64.wrap (i64.wrap (a+1)*d))) (↑e.length:Int) - Ev.loOf (some (i64.wrap (a*d)))).toNat (List.drop (Ev.loOf (some (i64.wrap (a*d)))).toNat e)) (fun b7=>bif b7 then (a9 q m n f o (fun a7=>(a8 (i64.wrap (p+a7)) (1) a0 a1 a2 a3 a4 a5 (fun (a6,g,h,i,j,k,l)=>c (p,u,i64.wrap (a+1),g,h,i,j,k,l,q,m,n,f,o,d,U,e,r,s,t,V,W,X,Y)) (fun (a6,g,h,i,j,k,l)=>c (p,u,i64.wrap (a+1),g,h,i,j,k,l,q,m,n,f,o,d,U,e,r,s,t,V,W,X,Y))))) else (a9 q m n f o (fun a7=>(a8 (i64.wrap (p+a7)) (0) a0 a1 a2 a3 a4 a5 (fun (a6,g,h,i,j,k,l)=>(jr Z (p,a,u,a,d,0,g,h,i,j,k,l,q,m,n,f,o,d,U,e,r,s,t,V,W,X,Y) (fun (K,L,M,N,O,P,Q,R,S,T,v,w,x,y,z,A,C,D,E,F,G,H,I,J)=>c (K,L,i64.wrap (M+1),N,O,P,Q,R,S,T,v,w,x,y,z,A,C,D,E,F,G,H,I,J)))) (fun (a6,g,h,i,j,k,l)=>(jr Z (p,a,u,a,d,0,g,h,i,j,k,l,q,m,n,f,o,d,U,e,r,s,t,V,W,X,Y) (fun (K,L,M,N,O,P,Q,R,S,T,v,w,x,y,z,A,C,D,E,F,G,H,I,J)=>c (K,L,i64.wrap (M+1),N,O,P,Q,R,S,T,v,w,x,y,z,A,C,D,E,F,G,H,I,J))))))))))) else none else (jr Z (p,a,u,a,d,0,a0,a1,a2,a3,a4,a5,q,m,n,f,o,d,U,e,r,s,t,b0,b1,b2,b3) (fun (K,L,M,N,O,P,Q,R,S,T,v,w,x,y,z,A,C,D,E,F,G,H,I,J)=>c (K,L,i64.wrap (M+1),N,O,P,Q,R,S,T,v,w,x,y,z,A,C,D,E,F,G,H,I,J))) else b (a0,a1,a2,a3,a4,a5)
def gG (Z:Nat) (v:Int×Int×Int×Int×Int×Int×Bool×LI×LI×Int×Int×Int×Bool×Int×Int×Int×LI×Int×Int×LI×Int×Int×LI×(List (Int×Int))) (c:(Int×Int×Int×Int×Int×Int×Bool×LI×LI×Int×Int×Int×Bool×Int×Int×Int×LI×Int×Int×LI×Int×Int×LI×(List (Int×Int)))→OA) (B:(Int×Int×Int×Bool×LI×LI→OA)):OA:=match v with | (p,q,r,s,t,u,w,x,y,z,a,b,d,e,f,g,h,i,j,k,l,m,n,o)=>lM Z (aB Z) (ab Z) (bm Z) (ah Z) (dd Z) (cM Z) (cK Z) p q r s t u w x y z a b d e f g h i j k l m n o c B
def se (Z:Nat) (v:uv) (b:qc):OA:=iter (gG Z) Z v b
def oe (Z:Nat) (i:Nat):Option Ev.Blk:=Ev.look i [(100002,iA Z)]
def qO (v:uv):Ev.St:=match v with | (p,q,r,s,t,u,w,x,y,z,a,b,d,e,f,g,h,i,j,k,l,m,n,o)=>⟨[(0,.c (.ptr 0 0)),(1,.c (i6 p)),(7,.c (.ptr 3 0)),(8,.c (.ptr 4 0)),(9,.c (.ptr 5 0)),(10,.c (.ptr 6 0)),(27,.c (i6 q)),(28,.c (i6 r))],[(0,.cells 138 (i6 s::.own 1::ctb (.int .u64 t::.int .u64 u::.own 2::.bool w::[]))),(1,.vec 3 ti x false),(2,.vec 5 (.int .u8) y true),(3,.cells 24 [i6 z,i6 a,i6 b,.bool d,i6 e]),(4,.cells 29 [i6 f,i6 g,.sl (.int .u8) h]),(5,.cells 29 [i6 i,i6 j,.sl (.int .u8) k]),(6,.cells 240 [i6 l,i6 m,.sl (.int .u8) n,.own 7]),(7,.vec 22 (.pair ti ti) o true)],8,3⟩
def sZ (K:KT):qc:=(fun v=>match v with | (a,b,c,d,e,f)=>K .normal ⟨[],[(0,.cells 138 (i6 a::.own 1::ctb (.int .u64 b::.int .u64 c::.own 2::.bool d::[]))),(1,.vec 3 ti e false),(2,.vec 5 (.int .u8) f true)],3,3⟩)
theorem Gz (Z:Nat) (d:aD) (a:ai) (e:bG) (f:al) (g:dU) (b:dE) (c:dz) (R:Ev.St→OA) (K:KT) (w x:Int) (y z:Int) (A B:Int) (C:Bool) (D E:LI) (F h i:Int) (j:Bool) (k l m:Int) (n:LI) (o p:Int) (q:LI) (r s:Int) (t:LI) (u:(List (Int×Int))):evalCode tab (nn d a e f g b c) (oe Z) cP Z (bodyOf 0 Tryz.f172) (qO (w,x,y,z,A,B,C,D,E,F,h,i,j,k,l,m,n,o,p,q,r,s,t,u)) (lc cP 4 0 R K)=lM Z d a e f g b c w x y z A B C D E F h i j k l m n o p q r s t u (fun v=>R (qO v)) (sZ K):=by
 kernel_rfl
def lN (Z:Nat):Ev.Blk:=fun st K=>match canonO (cP 4) st with | some s=>(match s with | ⟨[(V,.c (.ptr W X)),(Y,.c (i6 a0)),(a1,.c (.ptr a2 a3)),(a4,.c (.ptr a5 a6)),(a,.c (.ptr b d)),(e,.c (.ptr f g)),(h,.c (i6 a7)),(i,.c (i6 a8))],[(j,.cells k l),(m,.vec n ti a9 false),(o,.vec p (.int .u8) b0 true),(q,.cells r [i6 b1,i6 t,i6 u,.bool v,i6 w]),(x,.cells y [i6 z,i6 A,.sl (.int .u8) B]),(C,.cells D [i6 E,i6 F,.sl (.int .u8) G]),(H,.cells I [i6 J,i6 L,.sl (.int .u8) M,.own N]),(O,.vec P (.pair ti ti) Q true)],R,S⟩=>(match splitRun 2 ctn l with | some ([i6 b2,.own T],[.int .u64 b3,.int .u64 b4,.own U,.bool b5])=>bif qb [V,W,X,Y,a1,a2,a3,a4,a5,a6,a,b,d,e,f,g,h,i,j,k,m,n,o,p,q,r,x,y,C,D,H,I,N,O,P,R,S,T,U] [0,0,0,1,7,3,0,8,4,0,9,5,0,10,6,0,27,28,0,138,1,3,2,5,3,24,4,29,5,29,6,240,7,7,22,8,3,1,2] then iter (gG Z) Z (a0,a7,a8,b2,b3,b4,b5,a9,b0,b1,t,u,v,w,z,A,B,E,F,G,J,L,M,Q) (sZ K) else none | _=>none) | _=>none) | none=>none
theorem P4 (Z:Nat) (st:Ev.St) (K:KT) (r:Ans) (h:lN Z st K=some r):evalCode tab (rz Z) (oe Z) cP Z (.block 0 (.loop (bodyOf 0 Tryz.f172))) st K=some r:=by
 unfold lN at h
 split at h
 ·rename_i s hs
  split at h
  ·skip
   split at h
   rotate_left 1
   ·cases h
   rename_i hsp
   have esp:=splitRun_eq hsp
   subst esp
   obtain ⟨hb,h⟩:=cond_some' h
   cases qb_eq hb
   exact blk_loop (S:=qO) (ks:=sZ) (step:=gG Z) (v:=(_,_,_,_,_,_,_,_,_,_,_,_,_,_,_,_,_,_,_,_,_,_,_,_)) kr kr (fun R K v=>by obtain ⟨p,q,t,u,w,x,y,z,A,B,a,b,c,d,e,f,g,i,j,k,l,m,n,o⟩:=v; exact Gz Z (aB Z) (ab Z) (bm Z) (ah Z) (dd Z) (cM Z) (cK Z) R K p q t u w x y z A B a b c d e f g i j k l m n o) hs h
  ·cases h
 ·cases h
def Mc (Z:Nat) (i:Nat):Option Ev.Blk:=Ev.look i [(100002,iA Z),(100000,lN Z)]
def qp (Z:Nat) (F:aD) (C:ai) (i:bG) (G:al) (H:dU) (D:dE) (E:dz) (A b:Int) (c d:Int) (e:Bool) (f g a:Int) (h:LI) (B s:Int) (t:LI) (u v w:Int) (x:Bool) (y z:LI) (k0:(Int×Int×Int×Bool×LI×LI)→OA):OA:=(i b c d e f g a (fun (j,k,I,l)=>(se Z (A,a,0,u,v,w,x,y,z,b,c,d,e,f,g,a,h,B,s,t,j,k,h,l) (fun (m,n,o,p,q,r)=>k0 (m,n,o,p,q,r)))))
abbrev ja:Type:=Int→Int→Int→Int→Bool→Int→Int→Int→LI→Int→Int→LI→Int→Int→Int→Bool→LI→LI→((Int×Int×Int×Bool×LI×LI)→OA)→OA
def ip (Z:Nat):ja:=qp Z (aB Z) (ab Z) (bm Z) (ah Z) (dd Z) (cM Z) (cK Z)
theorem F1 (Z:Nat) (e:aD) (a:ai) (f:bG) (g:al) (h:dU) (b:dE) (d:dz) (s t:Int) (u v:Int) (w:Bool) (x y z:Int) (A:LI) (B i:Int) (j:LI) (l m n:Int) (o:Bool) (p q:LI) (k:Ev.Cont):evalFn tab (nn e a f g h b d) (Mc Z) cP Z Tryz.f172 [.c (.ptr 0 0),.c (i6 s),.agg [i6 t,i6 u,i6 v,.bool w,i6 x],.agg [i6 y,i6 z,.sl (.int .u8) A],.agg [i6 B,i6 i,.sl (.int .u8) j]] [.cells 138 (i6 l::.own 1::ctb (.int .u64 m::.int .u64 n::.own 2::.bool o::[])),.vec 3 ti p false,.vec 5 (.int .u8) q false] k=qp Z e a f g h b d s t u v w x y z A B i j l m n o p q (fun r=>match r with | (C,D,E,F,G,H)=>k (.tup [],[.cells 138 (i6 C::.own 1::ctb (.int .u64 D::.int .u64 E::.own 2::.bool F::[])),.vec 3 ti G false,.vec 5 (.int .u8) H true])):=by
 kernel_rfl
theorem qj (Z:Nat):GOK prog (rz Z):=
 gc (mR Z) func129 kr rfl <|
 gc (ef Z) func132 kr rfl <|
 gc (zD Z) func183 kr rfl <|
 gc (jL Z) func195 kr rfl <|
 gc (NA Z) func196 kr rfl <|
 gc (K5 Z) func197 kr rfl <|
 gc (EM Z) func198 kr rfl <|
 gok_nil
theorem Hf (Z:Nat):BlkOK prog Tryz.f172.ntmps (.block 2 (.loop (bodyOf 2 Tryz.f172))) (iA Z):=bo0 (qj Z) kr kr (Nm Z)
theorem FF (Z:Nat):BlkOK prog Tryz.f172.ntmps (.block 0 (.loop (bodyOf 0 Tryz.f172))) (lN Z):=
 blk_of (blk_of_code tab_ok (qj Z) mixed (J:=oe Z) (kp:=cP) (fuel:=Z) kr (fun q hq=>by
  rw [(by kernel_rfl:obl (oe Z) (.block 0 (.loop (bodyOf 0 Tryz.f172)))= [(.block 2 (.loop (bodyOf 2 Tryz.f172)),iA Z)])] at hq
  simp only [List.mem_cons,List.not_mem_nil,or_false] at hq
  subst hq
  ·exact Hf Z)) (P4 Z)
def tR (F:ja):Ev.Spec:=fun args objs k=>match args,objs with | [.c (.ptr l m),.c (i6 n),.agg [i6 o,i6 p,i6 q,.bool s,i6 t],.agg [i6 u,i6 v,.sl (.int .u8) w],.agg [i6 x,i6 a,.sl (.int .u8) b]],[.cells y d,.vec z ti e false,.vec A (.int .u8) f false]=>(match splitRun 2 ctn d with | some ([i6 g,.own B],[.int .u64 h,.int .u64 i,.own C,.bool j])=>bif qb [l,m,y,z,A,B,C] [0,0,138,3,5,1,2] then F n o p q s t u v w x a b g h i j e f (fun r=>match r with | (D,E,G,H,I,J)=>k (.tup [],[.cells 138 (i6 D::.own 1::ctb (.int .u64 E::.int .u64 G::.own 2::.bool H::[])),.vec 3 ti I false,.vec 5 (.int .u8) J true])) else none | _=>none) | _,_=>none
theorem Pv (Z:Nat):FnOK prog 172 (tR (ip Z)):=by
 intro args objs kk r h
 unfold tR at h
 split at h
 ·skip
  split at h
  rotate_left 1
  ·cases h
  rename_i hsp
  have esp:=splitRun_eq hsp
  subst esp
  obtain ⟨hb,h⟩:=cond_some' h
  cases qb_eq hb
  exact fo1 (qj Z) func172 rfl (FF Z) kr _ _ kk r ((F1 Z (aB Z) (ab Z) (bm Z) (ah Z) (dd Z) (cM Z) (cK Z) _ _ _ _ _ _ _ _ _ _ _ _ _ _ _ _ _ _ kk).trans h)
 ·cases h
def F8 (i:Nat):Option (List Nat):=Ev.look i [(200009,[7,8,9]),(600000,[])]
def CJ (c:aC) (i:aq) (d:bk) (a:ai) (e:kI) (g:bF) (h:cH) (b:ja) (f:Nat):Option Ev.Spec:=Ev.look f [(35,fp c),(90,fC i),(128,gB d),(132,dI a),(169,xE e),(170,jg g),(171,nb h),(172,tR b)]
def On (Z:Nat):Nat→Option Ev.Spec:=CJ (am Z) (aj Z) (aN Z) (ab Z) (hO Z) (aR Z) (cr Z) (ip Z)
def rD (Z:Nat) (P:aC) (x:aq) (Q:bk) (U:ai) (R:kI) (S:bF) (T:cH) (O:ja) (y l:Int) (m n:Int) (o:Bool) (p i j:Int) (q:LI) (k g:Int) (h:LI) (V W X:Int) (Y:Bool) (a0 a1:LI) (k0:(Int×Int×Int×Int×Bool×LI×LI)→OA) (k1:(Int×Int×Int×Int×Bool×LI×LI)→OA):OA:=(U ((-1:Int)) (0) V W X Y a0 a1 (fun (H,a,b,c,d,e,f)=>bif H==7 then k0 (7,a,b,c,d,e,f) else (Q l m n o p (fun N=>bif !N then k0 (2,a,b,c,d,e,f) else (x i j q (fun I=>bif !I then k0 (30,a,b,c,d,e,f) else (x k g h (fun J=>bif !J then k0 (30,a,b,c,d,e,f) else (R i j q k g h (fun K=>bif K then k0 (30,a,b,c,d,e,f) else (S k g h i j (fun L=>bif !L then k0 (2,a,b,c,d,e,f) else (P a b c d e f (fun (z,r,s,t,u,v,w,A)=>(T z A y l m n o p (fun M=>bif !M then k0 (2,r,s,t,u,v,w) else (O y l m n o p i j q k g h r s t u v w (fun (B,C,D,E,F,G)=>k1 (0,B,C,D,E,F,G)))))))))))))))))) (fun (H,a,b,c,d,e,f)=>bif H==7 then k1 (7,a,b,c,d,e,f) else (Q l m n o p (fun N=>bif !N then k1 (2,a,b,c,d,e,f) else (x i j q (fun I=>bif !I then k1 (30,a,b,c,d,e,f) else (x k g h (fun J=>bif !J then k1 (30,a,b,c,d,e,f) else (R i j q k g h (fun K=>bif K then k1 (30,a,b,c,d,e,f) else (S k g h i j (fun L=>bif !L then k1 (2,a,b,c,d,e,f) else (P a b c d e f (fun (z,r,s,t,u,v,w,A)=>(T z A y l m n o p (fun M=>bif !M then k1 (2,r,s,t,u,v,w) else (O y l m n o p i j q k g h r s t u v w (fun (B,C,D,E,F,G)=>k1 (0,B,C,D,E,F,G)))))))))))))))))))
abbrev nT:Type:=Int→Int→Int→Int→Bool→Int→Int→Int→LI→Int→Int→LI→Int→Int→Int→Bool→LI→LI→((Int×Int×Int×Int×Bool×LI×LI)→OA)→((Int×Int×Int×Int×Bool×LI×LI)→OA)→OA
def fk (Z:Nat):nT:=rD Z (am Z) (aj Z) (aN Z) (ab Z) (hO Z) (aR Z) (cr Z) (ip Z)
theorem M7 (Z:Nat) (l:aC) (q:aq) (m:bk) (i:ai) (n:kI) (o:bF) (p:cH) (j:ja) (A B:Int) (C D:Int) (E:Bool) (F G H:Int) (I:LI) (J s:Int) (t:LI) (u v w:Int) (x:Bool) (y z:LI) (k:Ev.Cont):evalFn tab (CJ l q m i n o p j) J0 F8 Z Tryz.f133 [.c (.ptr 0 0),.c (i6 A),.agg [i6 B,i6 C,i6 D,.bool E,i6 F],.agg [i6 G,i6 H,.sl (.int .u8) I],.agg [i6 J,i6 s,.sl (.int .u8) t]] [.cells 138 (i6 u::.own 1::ctb (.int .u64 v::.int .u64 w::.own 2::.bool x::[])),.vec 3 ti y false,.vec 5 (.int .u8) z false] k=rD Z l q m i n o p j A B C D E F G H I J s t u v w x y z (fun r=>match r with | (a,b,d,e,f,g,h)=>k (.c (i6 a),[.cells 138 (i6 b::.own 1::ctb (.int .u64 d::.int .u64 e::.own 2::.bool f::[])),.vec 3 ti g false,.vec 5 (.int .u8) h false])) (fun r=>match r with | (a,b,d,e,f,g,h)=>k (.c (i6 a),[.cells 138 (i6 b::.own 1::ctb (.int .u64 d::.int .u64 e::.own 2::.bool f::[])),.vec 3 ti g false,.vec 5 (.int .u8) h true])):=by
 kernel_rfl
theorem K1 (Z:Nat):GOK prog (On Z):=
 gc (ij Z) func35 kr rfl <|
 gc (kT Z) func90 kr rfl <|
 gc (mL Z) func128 kr rfl <|
 gc (ef Z) func132 kr rfl <|
 gc (FK Z) func169 kr rfl <|
 gc (yo Z) func170 kr rfl <|
 gc (Cr Z) func171 kr rfl <|
 gc (Pv Z) func172 kr rfl <|
 gok_nil
def wQ (F:nT):Ev.Spec:=fun args objs k=>match args,objs with | [.c (.ptr t u),.c (i6 v),.agg [i6 w,i6 x,i6 y,.bool z,i6 A],.agg [i6 B,i6 C,.sl (.int .u8) D],.agg [i6 E,i6 i,.sl (.int .u8) j]],[.cells G l,.vec H ti m false,.vec I (.int .u8) n false]=>(match splitRun 2 ctn l with | some ([i6 o,.own J],[.int .u64 p,.int .u64 q,.own K,.bool s])=>bif qb [t,u,G,H,I,J,K] [0,0,138,3,5,1,2] then F v w x y z A B C D E i j o p q s m n (fun r=>match r with | (a,b,d,e,f,g,h)=>k (.c (i6 a),[.cells 138 (i6 b::.own 1::ctb (.int .u64 d::.int .u64 e::.own 2::.bool f::[])),.vec 3 ti g false,.vec 5 (.int .u8) h false])) (fun r=>match r with | (a,b,d,e,f,g,h)=>k (.c (i6 a),[.cells 138 (i6 b::.own 1::ctb (.int .u64 d::.int .u64 e::.own 2::.bool f::[])),.vec 3 ti g false,.vec 5 (.int .u8) h true])) else none | _=>none) | _,_=>none
theorem Is (Z:Nat):FnOK prog 133 (wQ (fk Z)):=by
 intro args objs kk r h
 unfold wQ at h
 split at h
 ·skip
  split at h
  rotate_left 1
  ·cases h
  rename_i hsp
  have esp:=splitRun_eq hsp
  subst esp
  obtain ⟨hb,h⟩:=cond_some' h
  cases qb_eq hb
  exact fo0 (K1 Z) func133 rfl kr _ _ kk r ((M7 Z (am Z) (aj Z) (aN Z) (ab Z) (hO Z) (aR Z) (cr Z) (ip Z) _ _ _ _ _ _ _ _ _ _ _ _ _ _ _ _ _ _ kk).trans h)
 ·cases h
def Ic (i:Nat):Option (List Nat):=Ev.look i []
def Lw (f:Nat):Option Ev.Spec:=Ev.look f []
def zX (Z:Nat):Nat→Option Ev.Spec:=Lw
def cm (Z:Nat) (b c d:Int) (e:Bool) (f g h:Int) (i:LI) (j k:Int) (a:LI) (k0:(Int×Int×Int×Bool×Int×Int×Int×LI×Int×Int×LI)→OA):OA:=k0 (b,c,d,e,f,g,h,i,j,k,a)
abbrev fZ:Type:=Int→Int→Int→Bool→Int→Int→Int→LI→Int→Int→LI→((Int×Int×Int×Bool×Int×Int×Int×LI×Int×Int×LI)→OA)→OA
theorem Ff (Z:Nat) (b d e:Int) (f:Bool) (g h i:Int) (j:LI) (l m:Int) (a:LI) (k:Ev.Cont):evalFn tab (zX Z) J0 Ic Z Tryz.f175 [.agg [i6 b,i6 d,i6 e,.bool f,i6 g],.c (i6 h),.c (i6 i),.c (.sl (.int .u8) j),.agg [i6 l,i6 m,.sl (.int .u8) a]] [] k=cm Z b d e f g h i j l m a (fun r=>match r with | (o,p,q,s,t,u,v,w,x,y,n)=>k (.c (.ptr 0 0),[.cells 230 [i6 o,i6 p,i6 q,.bool s,i6 t,i6 u,i6 v,.sl (.int .u8) w,i6 x,i6 y,.sl (.int .u8) n]])):=by
 kernel_rfl
theorem N2 (Z:Nat):GOK prog (zX Z):=
 gok_nil
def xR (F:fZ):Ev.Spec:=fun args objs k=>match args,objs with | [.agg [i6 d,i6 e,i6 f,.bool g,i6 h],.c (i6 i),.c (i6 j),.c (.sl (.int .u8) l),.agg [i6 m,i6 n,.sl (.int .u8) a]],[]=>F d e f g h i j l m n a (fun r=>match r with | (o,p,q,s,t,u,v,w,x,y,b)=>k (.c (.ptr 0 0),[.cells 230 [i6 o,i6 p,i6 q,.bool s,i6 t,i6 u,i6 v,.sl (.int .u8) w,i6 x,i6 y,.sl (.int .u8) b]])) | _,_=>none
theorem IN (Z:Nat):FnOK prog 175 (xR (cm Z)):=by
 intro args objs kk r h
 unfold xR at h
 split at h
 ·skip
  exact fo0 (N2 Z) func175 rfl kr _ _ kk r ((Ff Z _ _ _ _ _ _ _ _ _ _ _ kk).trans h)
 ·cases h
def cY (i:Nat):Option (List Nat):=Ev.look i [(3,[0,1,2,7,17,18,19]),(8,[0,1,2,7,41,42,43]),(100000,[0,1,2,7]),(100002,[7]),(200005,[0,9]),(200010,[0,11]),(400000,[6]),(400002,[6])]
def ob (a:aL) (b:ag) (c:br) (f:Nat):Option Ev.Spec:=Ev.look f [(164,kR a),(179,eB b),(199,ow c)]
def mZ (Z:Nat):Nat→Option Ev.Spec:=ob (ap Z) (ac Z) (aI Z)
abbrev xx:Type:=Int×Int×Int×Int×Int×Int×Int×Int×Bool×Int×Int×Int×LI×Int×Int×LI×(List (Int×Int))
abbrev yU:Type:=(Int×Int×Int×Int×Int×Int×Bool×Int×Int×Int×LI×Int×Int×LI→OA)
def nZ (Z:Nat) (v:aL) (t:ag) (w:br) (h i:Int) (m n:Int) (a o:Int) (p q:Int) (r:Bool) (s e f:Int) (g:LI) (j k:Int) (l:LI) (d:(List (Int×Int))) (c:xx→OA) (B:yU):OA:=match B with | b=>bif decide (a < n) then bif decide (0≤a∧a < (↑d.length:Int)) then (t e f g (i64.wrap (h+(d.getD a.toNat (0,0)).fst)) (i64.wrap (i+(d.getD a.toNat (0,0)).snd)) (fun u=>c (h,i,i64.wrap (i64.wrap (2*m)+i64.wrap u),n,i64.wrap (a+1),o,p,q,r,s,e,f,g,j,k,l,d))) else none else b (h,i,m,o,p,q,r,s,e,f,g,j,k,l)
def ge (Z:Nat) (v:Int×Int×Int×Int×Int×Int×Int×Int×Bool×Int×Int×Int×LI×Int×Int×LI×(List (Int×Int))) (c:(Int×Int×Int×Int×Int×Int×Int×Int×Bool×Int×Int×Int×LI×Int×Int×LI×(List (Int×Int)))→OA) (B:(Int×Int×Int×Int×Int×Int×Bool×Int×Int×Int×LI×Int×Int×LI→OA)):OA:=match v with | (i,j,k,l,m,n,o,p,q,r,a,b,d,e,f,g,h)=>nZ Z (ap Z) (ac Z) (aI Z) i j k l m n o p q r a b d e f g h c B
def Bx (Z:Nat) (v:xx) (b:yU):OA:=iter (ge Z) Z v b
def yn (v:xx):Ev.St:=match v with | (i,j,k,l,m,n,o,p,q,r,a,b,d,e,f,g,h)=>⟨[(0,.c (.ptr 0 0)),(1,.c (i6 i)),(2,.c (i6 j)),(7,.c (i6 k)),(17,.c (.own 1)),(18,.c (i6 l)),(19,.c (i6 m))],[(0,.cells 230 [i6 n,i6 o,i6 p,.bool q,i6 r,i6 a,i6 b,.sl (.int .u8) d,i6 e,i6 f,.sl (.int .u8) g]),(1,.vec 22 (.pair ti ti) h true)],2,1⟩
def yw (K:KT):yU:=(fun v=>match v with | (f,g,h,i,j,k,l,m,n,o,a,b,d,e)=>K .normal ⟨[(0,.c (.ptr 0 0)),(1,.c (i6 f)),(2,.c (i6 g)),(7,.c (i6 h))],[(0,.cells 230 [i6 i,i6 j,i6 k,.bool l,i6 m,i6 n,i6 o,.sl (.int .u8) a,i6 b,i6 d,.sl (.int .u8) e])],1,1⟩)
theorem FY (Z:Nat) (a:aL) (b:ag) (c:br) (R:Ev.St→OA) (K:KT) (k l:Int) (m n:Int) (o p:Int) (q r:Int) (s:Bool) (t d e:Int) (f:LI) (g h:Int) (i:LI) (j:(List (Int×Int))):evalCode tab (ob a b c) J0 cY Z (bodyOf 0 Tryz.f178) (yn (k,l,m,n,o,p,q,r,s,t,d,e,f,g,h,i,j)) (lc cY 3 0 R K)=nZ Z a b c k l m n o p q r s t d e f g h i j (fun v=>R (yn v)) (yw K):=by
 kernel_rfl
def ik (Z:Nat):Ev.Blk:=fun st K=>match canonO (cY 3) st with | some s=>(match s with | ⟨[(o,.c (.ptr p q)),(r,.c (i6 t)),(u,.c (i6 v)),(w,.c (i6 x)),(y,.c (.own z)),(A,.c (i6 B)),(C,.c (i6 D))],[(a,.cells b [i6 E,i6 F,i6 G,.bool H,i6 I,i6 d,i6 e,.sl (.int .u8) f,i6 g,i6 h,.sl (.int .u8) i]),(j,.vec k (.pair ti ti) l true)],m,n⟩=>bif qb [o,p,q,r,u,w,y,z,A,C,a,b,j,k,m,n] [0,0,0,1,2,7,17,1,18,19,0,230,1,22,2,1] then iter (ge Z) Z (t,v,x,B,D,E,F,G,H,I,d,e,f,g,h,i,l) (yw K) else none | _=>none) | none=>none
theorem GK (Z:Nat) (st:Ev.St) (K:KT) (r:Ans) (h:ik Z st K=some r):evalCode tab (mZ Z) J0 cY Z (.block 0 (.loop (bodyOf 0 Tryz.f178))) st K=some r:=by
 unfold ik at h
 split at h
 ·rename_i s hs
  split at h
  ·skip
   obtain ⟨hb,h⟩:=cond_some' h
   cases qb_eq hb
   exact blk_loop (S:=yn) (ks:=yw) (step:=ge Z) (v:=(_,_,_,_,_,_,_,_,_,_,_,_,_,_,_,_,_)) kr kr (fun R K v=>by obtain ⟨i,j,k,l,m,n,o,p,q,t,a,b,c,d,e,f,g⟩:=v; exact FY Z (ap Z) (ac Z) (aI Z) R K i j k l m n o p q t a b c d e f g) hs h
  ·cases h
 ·cases h
abbrev uI:Type:=Int×Int×Int×Int×Int×Int×Int×Int×Bool×Int×Int×Int×LI×Int×Int×LI×(List (Int×Int))
abbrev uX:Type:=(Int×Int×Int×Int×Bool×Int×Int×Int×LI×Int×Int×LI→OA)
def oN (Z:Nat) (v:aL) (t:ag) (w:br) (m n:Int) (o p:Int) (a q:Int) (h i:Int) (r:Bool) (s j k:Int) (l:LI) (e f:Int) (g:LI) (d:(List (Int×Int))) (c:uI→OA) (B:uX):OA:=match B with | b=>bif decide (a < p) then bif decide (0≤a∧a < (↑d.length:Int)) then (t e f g (i64.wrap (i64.wrap (m - h)+(d.getD a.toNat (0,0)).fst)) (i64.wrap (i64.wrap (n - i)+(d.getD a.toNat (0,0)).snd)) (fun u=>c (m,n,i64.wrap (i64.wrap (2*o)+i64.wrap u),p,i64.wrap (a+1),q,h,i,r,s,j,k,l,e,f,g,d))) else none else b (o,q,h,i,r,s,j,k,l,e,f,g)
def gg (Z:Nat) (v:Int×Int×Int×Int×Int×Int×Int×Int×Bool×Int×Int×Int×LI×Int×Int×LI×(List (Int×Int))) (c:(Int×Int×Int×Int×Int×Int×Int×Int×Bool×Int×Int×Int×LI×Int×Int×LI×(List (Int×Int)))→OA) (B:(Int×Int×Int×Int×Bool×Int×Int×Int×LI×Int×Int×LI→OA)):OA:=match v with | (i,j,k,l,m,n,o,p,q,r,a,b,d,e,f,g,h)=>oN Z (ap Z) (ac Z) (aI Z) i j k l m n o p q r a b d e f g h c B
def DJ (Z:Nat) (v:uI) (b:uX):OA:=iter (gg Z) Z v b
def CE (Z:Nat) (i:Nat):Option Ev.Blk:=Ev.look i [(100000,ik Z)]
def qn (v:uI):Ev.St:=match v with | (i,j,k,l,m,n,o,p,q,r,a,b,d,e,f,g,h)=>⟨[(0,.c (.ptr 0 0)),(1,.c (i6 i)),(2,.c (i6 j)),(7,.c (i6 k)),(41,.c (.own 1)),(42,.c (i6 l)),(43,.c (i6 m))],[(0,.cells 230 [i6 n,i6 o,i6 p,.bool q,i6 r,i6 a,i6 b,.sl (.int .u8) d,i6 e,i6 f,.sl (.int .u8) g]),(1,.vec 22 (.pair ti ti) h true)],2,1⟩
def yF (K:KT):uX:=(fun v=>match v with | (d,e,f,g,h,i,j,k,l,m,a,b)=>K .normal ⟨[(7,.c (i6 d))],[(0,.cells 230 [i6 e,i6 f,i6 g,.bool h,i6 i,i6 j,i6 k,.sl (.int .u8) l,i6 m,i6 a,.sl (.int .u8) b])],1,1⟩)
theorem NM (Z:Nat) (a:aL) (b:ag) (c:br) (R:Ev.St→OA) (K:KT) (k l:Int) (m n:Int) (o p:Int) (q r:Int) (s:Bool) (t d e:Int) (f:LI) (g h:Int) (i:LI) (j:(List (Int×Int))):evalCode tab (ob a b c) (CE Z) cY Z (bodyOf 2 Tryz.f178) (qn (k,l,m,n,o,p,q,r,s,t,d,e,f,g,h,i,j)) (lc cY 8 2 R K)=oN Z a b c k l m n o p q r s t d e f g h i j (fun v=>R (qn v)) (yF K):=by
 kernel_rfl
def kh (Z:Nat):Ev.Blk:=fun st K=>match canonO (cY 8) st with | some s=>(match s with | ⟨[(o,.c (.ptr p q)),(r,.c (i6 t)),(u,.c (i6 v)),(w,.c (i6 x)),(y,.c (.own z)),(A,.c (i6 B)),(C,.c (i6 D))],[(a,.cells b [i6 E,i6 F,i6 G,.bool H,i6 I,i6 d,i6 e,.sl (.int .u8) f,i6 g,i6 h,.sl (.int .u8) i]),(j,.vec k (.pair ti ti) l true)],m,n⟩=>bif qb [o,p,q,r,u,w,y,z,A,C,a,b,j,k,m,n] [0,0,0,1,2,7,41,1,42,43,0,230,1,22,2,1] then iter (gg Z) Z (t,v,x,B,D,E,F,G,H,I,d,e,f,g,h,i,l) (yF K) else none | _=>none) | none=>none
theorem PN (Z:Nat) (st:Ev.St) (K:KT) (r:Ans) (h:kh Z st K=some r):evalCode tab (mZ Z) (CE Z) cY Z (.block 2 (.loop (bodyOf 2 Tryz.f178))) st K=some r:=by
 unfold kh at h
 split at h
 ·rename_i s hs
  split at h
  ·skip
   obtain ⟨hb,h⟩:=cond_some' h
   cases qb_eq hb
   exact blk_loop (S:=qn) (ks:=yF) (step:=gg Z) (v:=(_,_,_,_,_,_,_,_,_,_,_,_,_,_,_,_,_)) kr kr (fun R K v=>by obtain ⟨i,j,k,l,m,n,o,p,q,t,a,b,c,d,e,f,g⟩:=v; exact NM Z (ap Z) (ac Z) (aI Z) R K i j k l m n o p q t a b c d e f g) hs h
  ·cases h
 ·cases h
def yq (Z:Nat) (i:Nat):Option Ev.Blk:=Ev.look i [(100000,ik Z),(100002,kh Z)]
def xn (Z:Nat) (j:aL) (R:ag) (k:br) (I J:Int) (b K L:Int) (M:Bool) (N O P:Int) (Q:LI) (F G:Int) (H:LI) (k0:(Int×Int×Int×Int×Bool×Int×Int×Int×LI×Int×Int×LI)→OA):OA:=(j b (fun c=>(Bx Z (I,J,0,(↑c.length:Int),0,b,K,L,M,N,O,P,Q,F,G,H,c) (fun (l,m,n,o,p,q,r,s,t,u,d,e,f,g)=>(k (fun a=>(DJ Z (l,m,n,(↑a.length:Int),0,o,p,q,r,s,t,u,d,e,f,g,a) (fun (v,w,x,y,z,A,B,C,D,E,h,i)=>k0 (v,w,x,y,z,A,B,C,D,E,h,i)))))))))
abbrev ek:Type:=Int→Int→Int→Int→Int→Bool→Int→Int→Int→LI→Int→Int→LI→((Int×Int×Int×Int×Bool×Int×Int×Int×LI×Int×Int×LI)→OA)→OA
def dw (Z:Nat):ek:=xn Z (ap Z) (ac Z) (aI Z)
theorem FJ (Z:Nat) (a:aL) (b:ag) (d:br) (h i:Int) (j l m:Int) (n:Bool) (o p q:Int) (s:LI) (e f:Int) (g:LI) (k:Ev.Cont):evalFn tab (ob a b d) (yq Z) cY Z Tryz.f178 [.c (.ptr 0 0),.c (i6 h),.c (i6 i)] [.cells 230 [i6 j,i6 l,i6 m,.bool n,i6 o,i6 p,i6 q,.sl (.int .u8) s,i6 e,i6 f,.sl (.int .u8) g]] k=xn Z a b d h i j l m n o p q s e f g (fun r=>match r with | (v,w,x,y,z,A,B,C,D,E,t,u)=>k (.c (i6 v),[.cells 230 [i6 w,i6 x,i6 y,.bool z,i6 A,i6 B,i6 C,.sl (.int .u8) D,i6 E,i6 t,.sl (.int .u8) u]])):=by
 kernel_rfl
theorem sb (Z:Nat):GOK prog (mZ Z):=
 gc (rG Z) func164 kr rfl <|
 gc (ib Z) func179 kr rfl <|
 gc (DA Z) func199 kr rfl <|
 gok_nil
theorem IP (Z:Nat):BlkOK prog Tryz.f178.ntmps (.block 0 (.loop (bodyOf 0 Tryz.f178))) (ik Z):=bo0 (sb Z) kr kr (GK Z)
theorem LH (Z:Nat):BlkOK prog Tryz.f178.ntmps (.block 2 (.loop (bodyOf 2 Tryz.f178))) (kh Z):=bo0 (sb Z) kr kr (PN Z)
theorem JV (Z:Nat):FnOK prog 178 (evalFn tab (mZ Z) (yq Z) cY Z Tryz.f178):=
 fn_ok tab_ok (sb Z) mixed func178 (c:=(Tryz.f178.body).getD .skip) rfl (fun q hq=>by
  rw [(by kernel_rfl:obl (yq Z) ((Tryz.f178.body).getD .skip)= [(.block 0 (.loop (bodyOf 0 Tryz.f178)),ik Z),(.block 2 (.loop (bodyOf 2 Tryz.f178)),kh Z)])] at hq
  simp only [List.mem_cons,List.not_mem_nil,or_false] at hq
  rcases hq with rfl | rfl
  ·exact IP Z
  ·exact LH Z)
def sS (F:ek):Ev.Spec:=fun args objs k=>match args,objs with | [.c (.ptr g h),.c (i6 i),.c (i6 j)],[.cells l [i6 m,i6 n,i6 o,.bool p,i6 q,i6 s,i6 t,.sl (.int .u8) u,i6 a,i6 b,.sl (.int .u8) d]]=>bif qb [g,h,l] [0,0,230] then F i j m n o p q s t u a b d (fun r=>match r with | (v,w,x,y,z,A,B,C,D,E,e,f)=>k (.c (i6 v),[.cells 230 [i6 w,i6 x,i6 y,.bool z,i6 A,i6 B,i6 C,.sl (.int .u8) D,i6 E,i6 e,.sl (.int .u8) f]])) else none | _,_=>none
theorem OU (Z:Nat):FnOK prog 178 (sS (dw Z)):=by
 intro args objs kk r h
 unfold sS at h
 split at h
 ·skip
  obtain ⟨hb,h⟩:=cond_some' h
  cases qb_eq hb
  exact JV Z _ _ kk r ((FJ Z (ap Z) (ac Z) (aI Z) _ _ _ _ _ _ _ _ _ _ _ _ _ kk).trans h)
 ·cases h
def kt (i:Nat):Option (List Nat):=Ev.look i [(3,[0,1,2,8,29]),(100000,[8]),(200001,[0]),(200005,[0]),(400000,[6,7])]
def wU (a:ag) (f:Nat):Option Ev.Spec:=Ev.look f [(179,eB a)]
def Dh (Z:Nat):Nat→Option Ev.Spec:=wU (ac Z)
abbrev pE:Type:=Int×Int×Int×Int×Int×Int×Int×Bool×Int×Int×Int×LI×Int×Int×LI
abbrev BC:Type:=(Int×Bool×Int×Int×Int×Bool×Int×Int×Int×LI×Int×Int×LI→OA)×(Int×Int×Int×Int×Bool×Int×Int×Int×LI×Int×Int×LI→OA)
def mF (Z:Nat) (r:ag) (p q:Int) (k f:Int) (l g h:Int) (m:Bool) (n o i:Int) (j:LI) (a d:Int) (e:LI) (c:pE→OA) (B:BC):OA:=match B with | (ret,b)=>bif decide (f < 9) then (r a d e (i64.wrap (i64.wrap (i64.wrap (p - g)+f.tmod 3) - 1)) (i64.wrap (i64.wrap (i64.wrap (q - h)+i64.wrap (f.tdiv 3)) - 1)) (fun s=>bif s != k then ret (0,false,l,g,h,m,n,o,i,j,a,d,e) else c (p,q,k,i64.wrap (f+1),l,g,h,m,n,o,i,j,a,d,e))) else b (k,l,g,h,m,n,o,i,j,a,d,e)
def eD (Z:Nat) (v:Int×Int×Int×Int×Int×Int×Int×Bool×Int×Int×Int×LI×Int×Int×LI) (c:(Int×Int×Int×Int×Int×Int×Int×Bool×Int×Int×Int×LI×Int×Int×LI)→OA) (B:(Int×Bool×Int×Int×Int×Bool×Int×Int×Int×LI×Int×Int×LI→OA)×(Int×Int×Int×Int×Bool×Int×Int×Int×LI×Int×Int×LI→OA)):OA:=match v with | (g,h,i,j,k,l,m,n,o,p,a,b,d,e,f)=>mF Z (ac Z) g h i j k l m n o p a b d e f c B
def Db (Z:Nat) (v:pE) (ret:(Int×Bool×Int×Int×Int×Bool×Int×Int×Int×LI×Int×Int×LI→OA)) (b:(Int×Int×Int×Int×Bool×Int×Int×Int×LI×Int×Int×LI→OA)):OA:=iter (eD Z) Z v (ret,b)
def oR (v:pE):Ev.St:=match v with | (g,h,i,j,k,l,m,n,o,p,a,b,d,e,f)=>⟨[(0,.c (.ptr 0 0)),(1,.c (i6 g)),(2,.c (i6 h)),(8,.c (.int .u8 i)),(29,.c (i6 j))],[(0,.cells 230 [i6 k,i6 l,i6 m,.bool n,i6 o,i6 p,i6 a,.sl (.int .u8) b,i6 d,i6 e,.sl (.int .u8) f])],1,1⟩
def yO (K:KT):BC:=((fun v=>match v with | (d,e,f,g,h,i,j,k,l,m,a,b,n)=>K .ret ⟨[(6,.c (.int .u8 d)),(7,.c (.bool e))],[(0,.cells 230 [i6 f,i6 g,i6 h,.bool i,i6 j,i6 k,i6 l,.sl (.int .u8) m,i6 a,i6 b,.sl (.int .u8) n])],1,1⟩),(fun v=>match v with | (d,e,f,g,h,i,j,k,l,m,a,b)=>K .normal ⟨[(8,.c (.int .u8 d))],[(0,.cells 230 [i6 e,i6 f,i6 g,.bool h,i6 i,i6 j,i6 k,.sl (.int .u8) l,i6 m,i6 a,.sl (.int .u8) b])],1,1⟩))
theorem LO (Z:Nat) (a:ag) (R:Ev.St→OA) (K:KT) (g h:Int) (i j:Int) (k l m:Int) (n:Bool) (o p b:Int) (c:LI) (d e:Int) (f:LI):evalCode tab (wU a) J0 kt Z (bodyOf 0 Tryz.f177) (oR (g,h,i,j,k,l,m,n,o,p,b,c,d,e,f)) (lc kt 3 0 R K)=mF Z a g h i j k l m n o p b c d e f (fun v=>R (oR v)) (yO K):=by
 kernel_rfl
def nN (Z:Nat):Ev.Blk:=fun st K=>match canonO (kt 3) st with | some s=>(match s with | ⟨[(h,.c (.ptr i j)),(k,.c (i6 l)),(m,.c (i6 n)),(o,.c (.int .u8 p)),(q,.c (i6 r))],[(t,.cells u [i6 v,i6 w,i6 x,.bool y,i6 z,i6 A,i6 a,.sl (.int .u8) b,i6 d,i6 e,.sl (.int .u8) f])],B,g⟩=>bif qb [h,i,j,k,m,o,q,t,u,B,g] [0,0,0,1,2,8,29,0,230,1,1] then iter (eD Z) Z (l,n,p,r,v,w,x,y,z,A,a,b,d,e,f) (yO K) else none | _=>none) | none=>none
theorem Pz (Z:Nat) (st:Ev.St) (K:KT) (r:Ans) (h:nN Z st K=some r):evalCode tab (Dh Z) J0 kt Z (.block 0 (.loop (bodyOf 0 Tryz.f177))) st K=some r:=by
 unfold nN at h
 split at h
 ·rename_i s hs
  split at h
  ·skip
   obtain ⟨hb,h⟩:=cond_some' h
   cases qb_eq hb
   exact blk_loop (S:=oR) (ks:=yO) (step:=eD Z) (v:=(_,_,_,_,_,_,_,_,_,_,_,_,_,_,_)) kr kr (fun R K v=>by obtain ⟨f,g,i,j,k,l,m,n,o,p,a,b,c,d,e⟩:=v; exact LO Z (ac Z) R K f g i j k l m n o p a b c d e) hs h
  ·cases h
 ·cases h
def MX (Z:Nat) (i:Nat):Option Ev.Blk:=Ev.look i [(100000,nN Z)]
def rF (Z:Nat) (j:ag) (d e:Int) (u f g:Int) (v:Bool) (w x y:Int) (z:LI) (a b:Int) (c:LI) (k0:(Int×Bool×Int×Int×Int×Bool×Int×Int×Int×LI×Int×Int×LI)→OA):OA:=(j a b c (i64.wrap (d - f)) (i64.wrap (e - g)) (fun A=>(Db Z (d,e,A,0,u,f,g,v,w,x,y,z,a,b,c) (fun (ret0_0,ret0_1,ret0_2,ret0_3,ret0_4,ret0_5,ret0_6,ret0_7,ret0_8,ret0_9,ret0_10,ret0_11,ret0_12)=>k0 (ret0_0,ret0_1,ret0_2,ret0_3,ret0_4,ret0_5,ret0_6,ret0_7,ret0_8,ret0_9,ret0_10,ret0_11,ret0_12)) (fun (k,l,m,n,o,p,q,r,s,t,h,i)=>k0 (k,true,l,m,n,o,p,q,r,s,t,h,i)))))
abbrev bP:Type:=Int→Int→Int→Int→Int→Bool→Int→Int→Int→LI→Int→Int→LI→((Int×Bool×Int×Int×Int×Bool×Int×Int×Int×LI×Int×Int×LI)→OA)→OA
def bH (Z:Nat):bP:=rF Z (ac Z)
theorem LS (Z:Nat) (a:ag) (f g:Int) (h i j:Int) (l:Bool) (m n o:Int) (p:LI) (b d:Int) (e:LI) (k:Ev.Cont):evalFn tab (wU a) (MX Z) kt Z Tryz.f177 [.c (.ptr 0 0),.c (i6 f),.c (i6 g)] [.cells 230 [i6 h,i6 i,i6 j,.bool l,i6 m,i6 n,i6 o,.sl (.int .u8) p,i6 b,i6 d,.sl (.int .u8) e]] k=rF Z a f g h i j l m n o p b d e (fun r=>match r with | (u,v,w,x,y,z,A,B,C,D,q,s,t)=>k (.tup [(false,[.int .u8 u]),(false,[.bool v])],[.cells 230 [i6 w,i6 x,i6 y,.bool z,i6 A,i6 B,i6 C,.sl (.int .u8) D,i6 q,i6 s,.sl (.int .u8) t]])):=by
 kernel_rfl
theorem D4 (Z:Nat):GOK prog (Dh Z):=
 gc (ib Z) func179 kr rfl <|
 gok_nil
theorem PX (Z:Nat):BlkOK prog Tryz.f177.ntmps (.block 0 (.loop (bodyOf 0 Tryz.f177))) (nN Z):=bo0 (D4 Z) kr kr (Pz Z)
def nF (F:bP):Ev.Spec:=fun args objs k=>match args,objs with | [.c (.ptr h i),.c (i6 j),.c (i6 l)],[.cells m [i6 n,i6 o,i6 p,.bool q,i6 s,i6 t,i6 u,.sl (.int .u8) v,i6 a,i6 b,.sl (.int .u8) d]]=>bif qb [h,i,m] [0,0,230] then F j l n o p q s t u v a b d (fun r=>match r with | (w,x,y,z,A,B,C,D,E,G,e,f,g)=>k (.tup [(false,[.int .u8 w]),(false,[.bool x])],[.cells 230 [i6 y,i6 z,i6 A,.bool B,i6 C,i6 D,i6 E,.sl (.int .u8) G,i6 e,i6 f,.sl (.int .u8) g]])) else none | _,_=>none
theorem zw (Z:Nat):FnOK prog 177 (nF (bH Z)):=by
 intro args objs kk r h
 unfold nF at h
 split at h
 ·skip
  obtain ⟨hb,h⟩:=cond_some' h
  cases qb_eq hb
  exact fo1 (D4 Z) func177 rfl (PX Z) kr _ _ kk r ((LS Z (ac Z) _ _ _ _ _ _ _ _ _ _ _ _ _ kk).trans h)
 ·cases h
end
end Go.Proofs.YtohnjbmiaegofaaGreat

