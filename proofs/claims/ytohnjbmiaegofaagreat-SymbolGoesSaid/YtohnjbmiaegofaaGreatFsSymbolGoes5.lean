/- What the functions that SymbolGoes reaches do: their typed texts, each with the proof that the machine does it. No condition. -/
import Derived.Test.YtohnjbmiaegofaaGreatEvX
import Derived.Test.YtohnjbmiaegofaaGreatFsSymbolGoes3
import Derived.Test.YtohnjbmiaegofaaGreatFsSymbolGoes2
import Derived.Test.YtohnjbmiaegofaaGreatFsSymbolGoes1
import Derived.Test.YtohnjbmiaegofaaGreatFsSymbolGoes4
set_option linter.unusedVariables false
set_option linter.unusedSimpArgs false
set_option linter.unusedSectionVars false
set_option linter.unusedVariables false
set_option linter.unusedSimpArgs false
set_option maxRecDepth 100000
set_option maxHeartbeats 2000000
namespace Go.Proofs.YtohnjbmiaegofaaGreat
open Go Ev Tryz
open Go.IntKind (i64 u64 u8 i32 u32 u16)
noncomputable section
def jq (i:Nat):Option (List Nat):=Ev.look i [(13,[0,1,3,4,12,18,64,65]),(100000,[3,4,12,18]),(200009,[8]),(200011,[8,11]),(400000,[12,13]),(600000,[])]
def sE (d:ao) (i:aq) (a:ad) (e:ce) (g:bO) (b:iI) (h:ca) (c:fY) (f:Nat):Option Ev.Spec:=Ev.look f [(40,fT d),(90,fC i),(143,cZ a),(173,mK e),(174,mw g),(1000175,wC b),(182,lT h),(185,yM c)]
def Br (Z:Nat):Nat→Option Ev.Spec:=sE (ak Z) (aj Z) (aa Z) (aY Z) (be Z) (dX Z) (aX Z) (dP Z)
abbrev pD:Type:=Int×Int×Int×Int×Int×Int×Int×Int×Int×Int×Int×Bool×Bool×LI×LI×Int×Int×Int×Int×Int×Bool×Int×Int×Int×Int×Int×LI×LI×LI
abbrev Av:Type:=(Int×Int×Int×Int×Int×Int×Int×Bool×Bool×LI×LI×Int×Int×LI→OA)×(Int×Int×Int×Int×Int×Int×Int×Int×Bool×Bool×LI×LI×Int×Int×Int×Int×Int×Bool×Int×Int×Int×Int×Int×LI×LI×LI→OA)
def ng (Z:Nat) (a6:ao) (b0:aq) (a4:ad) (a7:ce) (a8:bO) (a5:iI) (a9:ca) (R:fY) (I J:Int) (K L:Int) (a M:Int) (N O:Int) (P Q o:Int) (p q:Bool) (r s:LI) (t u:Int) (v w x:Int) (y:Bool) (z A:Int) (C D E:Int) (F G H:LI) (c:pD→OA) (B:Av):OA:=match B with | (ret,b)=>bif decide (a < L) then (R I a v w x y z A C D E F M N O P Q o p q H r s (fun (n,U,V,W,X,Y,a0,a1,a2,a3,S,d,e,f,g,h,i,j,k,T,l,m)=>bif n != 0 then ret (n,d,e,f,g,h,i,j,k,l,m,0,0,[]) else c (I,J,K,L,i64.wrap (a+1),d,e,f,g,h,i,j,k,l,m,t,u,U,V,W,X,Y,a0,a1,a2,a3,S,G,T))) else b (J,K,M,N,O,P,Q,o,p,q,r,s,t,u,v,w,x,y,z,A,C,D,E,F,G,H)
def ig (Z:Nat) (v:Int×Int×Int×Int×Int×Int×Int×Int×Int×Int×Int×Bool×Bool×LI×LI×Int×Int×Int×Int×Int×Bool×Int×Int×Int×Int×Int×LI×LI×LI) (c:(Int×Int×Int×Int×Int×Int×Int×Int×Int×Int×Int×Bool×Bool×LI×LI×Int×Int×Int×Int×Int×Bool×Int×Int×Int×Int×Int×LI×LI×LI)→OA) (B:(Int×Int×Int×Int×Int×Int×Int×Bool×Bool×LI×LI×Int×Int×LI→OA)×(Int×Int×Int×Int×Int×Int×Int×Int×Bool×Bool×LI×LI×Int×Int×Int×Int×Int×Bool×Int×Int×Int×Int×Int×LI×LI×LI→OA)):OA:=match v with | (u,w,x,y,z,A,C,D,E,F,a,b,d,e,f,g,h,i,j,k,l,m,n,o,p,q,r,s,t)=>ng Z (ak Z) (aj Z) (aa Z) (aY Z) (be Z) (dX Z) (aX Z) (dP Z) u w x y z A C D E F a b d e f g h i j k l m n o p q r s t c B
def zO (Z:Nat) (v:pD) (ret:(Int×Int×Int×Int×Int×Int×Int×Bool×Bool×LI×LI×Int×Int×LI→OA)) (b:(Int×Int×Int×Int×Int×Int×Int×Int×Bool×Bool×LI×LI×Int×Int×Int×Int×Int×Bool×Int×Int×Int×Int×Int×LI×LI×LI→OA)):OA:=iter (ig Z) Z v (ret,b)
def wq (v:pD):Ev.St:=match v with | (u,w,x,y,z,A,B,C,D,E,a,b,d,e,f,g,h,i,j,k,l,m,n,o,p,q,r,s,t)=>⟨[(0,.c (.ptr 0 0)),(1,.c (i6 u)),(3,.c (i6 w)),(4,.c (i6 x)),(12,.c (.ptr 3 0)),(18,.c (.ptr 4 0)),(64,.c (i6 y)),(65,.c (i6 z))],[(0,.cells 147 (i6 A::.own 1::ctb (.int .u64 B::.int .u64 C::.own 2::i6 D::.int .u64 E::i6 a::.bool b::.bool d::[]))),(1,.vec 3 ti e false),(2,.vec 5 (.int .u8) f false),(3,.cells 29 [i6 g,i6 h,.own 5]),(4,.cells 230 [i6 i,i6 j,i6 k,.bool l,i6 m,i6 n,i6 o,.own 6,i6 p,i6 q,.sl (.int .u8) r]),(5,.vec 5 (.int .u8) s true),(6,.vec 5 (.int .u8) t true)],7,3⟩
def uT (K:KT):Av:=((fun v=>match v with | (f,g,h,i,j,k,l,m,n,o,a,b,d,e)=>K .ret ⟨[(12,.c (.ptr 3 0)),(13,.c (i6 f))],[(0,.cells 147 (i6 g::.own 1::ctb (.int .u64 h::.int .u64 i::.own 2::i6 j::.int .u64 k::i6 l::.bool m::.bool n::[]))),(1,.vec 3 ti o false),(2,.vec 5 (.int .u8) a false),(3,.cells 29 [i6 b,i6 d,.own 4]),(4,.vec 5 (.int .u8) e true)],5,3⟩),(fun v=>match v with | (f,g,h,i,j,k,l,m,n,o,a,b,d,e,p,q,r,s,t,u,w,x,y,z,A,B)=>K .normal ⟨[(3,.c (i6 f)),(4,.c (i6 g)),(12,.c (.ptr 3 0)),(18,.c (.ptr 4 0))],[(0,.cells 147 (i6 h::.own 1::ctb (.int .u64 i::.int .u64 j::.own 2::i6 k::.int .u64 l::i6 m::.bool n::.bool o::[]))),(1,.vec 3 ti a false),(2,.vec 5 (.int .u8) b false),(3,.cells 29 [i6 d,i6 e,.own 5]),(4,.cells 230 [i6 p,i6 q,i6 r,.bool s,i6 t,i6 u,i6 w,.own 6,i6 x,i6 y,.sl (.int .u8) z]),(5,.vec 5 (.int .u8) A true),(6,.vec 5 (.int .u8) B true)],7,3⟩))
theorem Le (Z:Nat) (d:ao) (h:aq) (a:ad) (e:ce) (f:bO) (b:iI) (g:ca) (c:fY) (R:Ev.St→OA) (K:KT) (C D:Int) (E F:Int) (G H:Int) (I J:Int) (L M i:Int) (j k:Bool) (l m:LI) (n o:Int) (p q r:Int) (s:Bool) (t u:Int) (w x y:Int) (z A B:LI):evalCode tab (sE d h a e f b g c) J0 jq Z (bodyOf 0 Tryz.f146) (wq (C,D,E,F,G,H,I,J,L,M,i,j,k,l,m,n,o,p,q,r,s,t,u,w,x,y,z,A,B)) (lc jq 13 0 R K)=ng Z d h a e f b g c C D E F G H I J L M i j k l m n o p q r s t u w x y z A B (fun v=>R (wq v)) (uT K):=by
 kernel_rfl
def nr (Z:Nat):Ev.Blk:=fun st K=>match canonO (jq 13) st with | some s=>(match s with | ⟨[(V,.c (.ptr W X)),(Y,.c (i6 a0)),(a1,.c (i6 a2)),(a3,.c (i6 a4)),(a5,.c (.ptr a6 a7)),(a8,.c (.ptr a b)),(d,.c (i6 a9)),(e,.c (i6 b0))],[(f,.cells g h),(i,.vec j ti k false),(l,.vec m (.int .u8) n false),(o,.cells p [i6 q,i6 r,.own t]),(u,.cells v [i6 w,i6 x,i6 y,.bool z,i6 A,i6 B,i6 C,.own D,i6 E,i6 F,.sl (.int .u8) G]),(H,.vec I (.int .u8) J true),(L,.vec M (.int .u8) N true)],O,P⟩=>(match splitRun 2 ctn h with | some ([i6 b1,.own Q],[.int .u64 b2,.int .u64 b3,.own R,i6 b4,.int .u64 b5,i6 S,.bool T,.bool U])=>bif qb [V,W,X,Y,a1,a3,a5,a6,a7,a8,a,b,d,e,f,g,i,j,l,m,o,p,t,u,v,D,H,I,L,M,O,P,Q,R] [0,0,0,1,3,4,12,3,0,18,4,0,64,65,0,147,1,3,2,5,3,29,5,4,230,6,5,5,6,5,7,3,1,2] then iter (ig Z) Z (a0,a2,a4,a9,b0,b1,b2,b3,b4,b5,S,T,U,k,n,q,r,w,x,y,z,A,B,C,E,F,G,J,N) (uT K) else none | _=>none) | _=>none) | none=>none
theorem F3 (Z:Nat) (st:Ev.St) (K:KT) (r:Ans) (h:nr Z st K=some r):evalCode tab (Br Z) J0 jq Z (.block 0 (.loop (bodyOf 0 Tryz.f146))) st K=some r:=by
 unfold nr at h
 split at h
 ·rename_i s hs
  split at h
  ·skip
   split at h
   rotate_left 1
   ·cases h
   rename_i hsp
   have esp:=splitRun_eq hsp
   subst esp
   obtain ⟨hb,h⟩:=cond_some' h
   cases qb_eq hb
   exact blk_loop (S:=wq) (ks:=uT) (step:=ig Z) (v:=(_,_,_,_,_,_,_,_,_,_,_,_,_,_,_,_,_,_,_,_,_,_,_,_,_,_,_,_,_)) kr kr (fun R K v=>by obtain ⟨x,y,z,A,B,C,D,E,F,G,a,b,c,d,e,f,g,i,j,k,l,m,n,o,p,q,t,u,w⟩:=v; exact Le Z (ak Z) (aj Z) (aa Z) (aY Z) (be Z) (dX Z) (aX Z) (dP Z) R K x y z A B C D E F G a b c d e f g i j k l m n o p q t u w) hs h
  ·cases h
 ·cases h
def OR (Z:Nat) (i:Nat):Option Ev.Blk:=Ev.look i [(100000,nr Z)]
def uW (Z:Nat) (I:ao) (b4:aq) (G:ad) (a1:ce) (a2:bO) (H:iI) (a3:ca) (c8:fY) (D m:Int) (n o:Int) (p:Bool) (q b:Int) (a E F:Int) (C:LI) (b5 b6:Int) (b7 b8:Int) (b9 c0:Int) (c1 c2:Bool) (c3 c4:LI) (k0:(Int×Int×LI×Int×Int×Int×Int×Int×Int×Int×Bool×Bool×LI×LI)→OA):OA:=(G ((-1:Int)) b5 b6 b7 b8 b9 c0 c1 c2 c3 c4 (fun (e5,B,e,f,g,h,i,j,k,l,c,d)=>bif B==7 then k0 (0,0,[],B,e,f,g,h,i,j,k,l,c,d) else (a1 m n o p q (fun c7=>bif !c7 then k0 (0,0,[],2,e,f,g,h,i,j,k,l,c,d) else (a3 b a (0) (fun (c9,d0,L,d1)=>bif L != 0 then k0 (0,0,[],30,e,f,g,h,i,j,k,l,c,d) else (b4 E F C (fun c5=>bif !c5 then k0 (0,0,[],30,e,f,g,h,i,j,k,l,c,d) else (I e f g h i j k l c d (fun (M,s,t,u,v,w,x,y,z,A,r,J)=>(a2 M J D m n o p q (fun c6=>bif !c6 then k0 (0,0,[],2,s,t,u,v,w,x,y,z,A,r) else bif decide (0≤i64.wrap (b*a)∧i64.wrap (b*a)=i64.wrap (b*a)∧(↑(1:Nat):Int)*i64.wrap (b*a)≤281474976710656∧i64.wrap (b*a)≤281474976710656) then (H m n o p q b a E F C (List.replicate (i64.wrap (b*a)).toNat (0:Int)) (fun (N,O,P,Q,R,S,T,U,V,W,K)=>(zO Z (D,b,a,a,0,s,t,u,v,w,x,y,z,A,r,0,0,O,P,Q,R,S,T,U,V,W,K,[],N) (fun (ret0_0,ret0_1,ret0_2,ret0_3,ret0_4,ret0_5,ret0_6,ret0_7,ret0_8,ret0_9,ret0_10,ret0_11,ret0_12,ret0_13)=>k0 (ret0_11,ret0_12,ret0_13,ret0_0,ret0_1,ret0_2,ret0_3,ret0_4,ret0_5,ret0_6,ret0_7,ret0_8,ret0_9,ret0_10)) (fun (a4,a5,a6,a7,a8,a9,b0,b1,b2,b3,X,Y,d2,d3,d4,d5,d6,d7,d8,d9,e0,e1,e2,e3,e4,a0)=>k0 (a4,a5,a0,0,a6,a7,a8,a9,b0,b1,b2,b3,X,Y))))) else none))))))))))))
abbrev mX:Type:=Int→Int→Int→Int→Bool→Int→Int→Int→Int→Int→LI→Int→Int→Int→Int→Int→Int→Bool→Bool→LI→LI→((Int×Int×LI×Int×Int×Int×Int×Int×Int×Int×Bool×Bool×LI×LI)→OA)→OA
def ei (Z:Nat):mX:=uW Z (ak Z) (aj Z) (aa Z) (aY Z) (be Z) (dX Z) (aX Z) (dP Z)
theorem Ln (Z:Nat) (e:ao) (i:aq) (a:ad) (f:ce) (g:bO) (b:iI) (h:ca) (d:fY) (w x:Int) (y z:Int) (A:Bool) (B C:Int) (D E F:Int) (j:LI) (l m:Int) (n o:Int) (p q:Int) (s t:Bool) (u v:LI) (k:Ev.Cont):evalFn tab (sE e i a f g b h d) (OR Z) jq Z Tryz.f146 [.c (.ptr 0 0),.c (i6 w),.agg [i6 x,i6 y,i6 z,.bool A,i6 B],.c (i6 C),.c (i6 D),.agg [i6 E,i6 F,.sl (.int .u8) j]] [.cells 147 (i6 l::.own 1::ctb (.int .u64 m::.int .u64 n::.own 2::i6 o::.int .u64 p::i6 q::.bool s::.bool t::[])),.vec 3 ti u false,.vec 5 (.int .u8) v false] k=uW Z e i a f g b h d w x y z A B C D E F j l m n o p q s t u v (fun r=>match r with | (K,L,M,N,O,P,Q,R,S,T,G,H,I,J)=>k (.tup [(true,[i6 K,i6 L,.sl (.int .u8) M]),(false,[i6 N])],[.cells 147 (i6 O::.own 1::ctb (.int .u64 P::.int .u64 Q::.own 2::i6 R::.int .u64 S::i6 T::.bool G::.bool H::[])),.vec 3 ti I false,.vec 5 (.int .u8) J false])):=by
 kernel_rfl
theorem Ds (Z:Nat):GOK prog (Br Z):=
 gc (iz Z) func40 kr rfl <|
 gc (kT Z) func90 kr rfl <|
 gc (dk Z) func143 kr rfl <|
 gc (BP Z) func173 kr rfl <|
 gc (AL Z) func174 kr rfl <|
 gc (It Z) func175 kr rfl <|
 gc (BU Z) func182 kr rfl <|
 gc (JD Z) func185 kr rfl <|
 gok_nil
theorem EI (Z:Nat):BlkOK prog Tryz.f146.ntmps (.block 0 (.loop (bodyOf 0 Tryz.f146))) (nr Z):=bo0 (Ds Z) kr kr (F3 Z)
def wZ (F:mX):Ev.Spec:=fun args objs k=>match args,objs with | [.c (.ptr t u),.c (i6 v),.agg [i6 w,i6 x,i6 y,.bool z,i6 A],.c (i6 B),.c (i6 C),.agg [i6 D,i6 E,.sl (.int .u8) a]],[.cells G b,.vec H ti d false,.vec I (.int .u8) e false]=>(match splitRun 2 ctn b with | some ([i6 f,.own J],[.int .u64 g,.int .u64 h,.own K,i6 i,.int .u64 j,i6 l,.bool m,.bool n])=>bif qb [t,u,G,H,I,J,K] [0,0,147,3,5,1,2] then F v w x y z A B C D E a f g h i j l m n d e (fun r=>match r with | (L,M,N,O,P,Q,R,S,T,U,o,p,q,s)=>k (.tup [(true,[i6 L,i6 M,.sl (.int .u8) N]),(false,[i6 O])],[.cells 147 (i6 P::.own 1::ctb (.int .u64 Q::.int .u64 R::.own 2::i6 S::.int .u64 T::i6 U::.bool o::.bool p::[])),.vec 3 ti q false,.vec 5 (.int .u8) s false])) else none | _=>none) | _,_=>none
theorem Iu (Z:Nat):FnOK prog 146 (wZ (ei Z)):=by
 intro args objs kk r h
 unfold wZ at h
 split at h
 ·skip
  split at h
  rotate_left 1
  ·cases h
  rename_i hsp
  have esp:=splitRun_eq hsp
  subst esp
  obtain ⟨hb,h⟩:=cond_some' h
  cases qb_eq hb
  exact fo1 (Ds Z) func146 rfl (EI Z) kr _ _ kk r ((Ln Z (ak Z) (aj Z) (aa Z) (aY Z) (be Z) (dX Z) (aX Z) (dP Z) _ _ _ _ _ _ _ _ _ _ _ _ _ _ _ _ _ _ _ _ _ kk).trans h)
 ·cases h
def Gv (i:Nat):Option (List Nat):=Ev.look i []
def Lv (f:Nat):Option Ev.Spec:=Ev.look f []
def zz (Z:Nat):Nat→Option Ev.Spec:=Lv
def bC (Z:Nat) (e f g:Int) (h:Bool) (c d:Int) (i j:Int) (k l:Int) (a b:Int) (k0:(Int×Int×Int×Bool×Int)→OA):OA:=k0 (d,a,b,false,c)
abbrev iO:Type:=Int→Int→Int→Bool→Int→Int→Int→Int→Int→Int→Int→Int→((Int×Int×Int×Bool×Int)→OA)→OA
theorem Et (Z:Nat) (d e f:Int) (g:Bool) (h i:Int) (j l:Int) (m n:Int) (a b:Int) (k:Ev.Cont):evalFn tab (zz Z) J0 Gv Z Tryz.f136 [.agg [i6 d,i6 e,i6 f,.bool g,i6 h,i6 i,i6 j,i6 l,i6 m,i6 n],.c (i6 a),.c (i6 b)] [] k=bC Z d e f g h i j l m n a b (fun r=>match r with | (o,p,q,s,t)=>k (.agg [i6 o,i6 p,i6 q,.bool s,i6 t],[])):=by
 kernel_rfl
theorem Qm (Z:Nat):GOK prog (zz Z):=
 gok_nil
def nw (F:iO):Ev.Spec:=fun args objs k=>match args,objs with | [.agg [i6 d,i6 e,i6 f,.bool g,i6 h,i6 i,i6 j,i6 l,i6 m,i6 n],.c (i6 a),.c (i6 b)],[]=>F d e f g h i j l m n a b (fun r=>match r with | (o,p,q,s,t)=>k (.agg [i6 o,i6 p,i6 q,.bool s,i6 t],[])) | _,_=>none
theorem Dk (Z:Nat):FnOK prog 136 (nw (bC Z)):=by
 intro args objs kk r h
 unfold nw at h
 split at h
 ·skip
  exact fo0 (Qm Z) func136 rfl kr _ _ kk r ((Et Z _ _ _ _ _ _ _ _ _ _ _ _ kk).trans h)
 ·cases h
def PM (i:Nat):Option (List Nat):=Ev.look i []
def Dp (a:cS) (b:bX) (f:Nat):Option Ev.Spec:=Ev.look f [(85,mm a),(86,ky b)]
def FS (Z:Nat):Nat→Option Ev.Spec:=Dp (bL Z) (bg Z)
def oi (Z:Nat) (a0:cS) (c:bX) (e5 b:Int) (e6 e7:Int) (e8 e9 g0:Int) (g1:Bool) (g2 g3:Int) (c7 c8:Int) (c9 d0:Int) (d1 d2:Int) (d3 d4:Int) (d5 d6:Int) (d7 d8:Int) (d9 e0:Bool) (e1:(List BM)) (e2:(List (BM×Int))) (e3 e4:LI) (k0:(Int×Int×Int×Int×Bool×Int×Int×Int×Int×Int×Int×Int×Int×Int×Int×Int×Int×Int×Int×Bool×Bool×(List BM)×(List (BM×Int))×LI×LI)→OA):OA:=(a0 e5 e8 e9 g0 g1 g2 g3 c7 c8 c9 d0 d1 d2 d3 d4 d5 d6 d7 d8 d9 e0 e1 e2 e3 e4 (fun (b6,a,I,J,K,L,M,N,O,P,d,e,f,g,h,i,j,k,l,m,n,o,p,q,r,s)=>bif !b6 then bif decide (i64.wrap (a+b)≥e6) then (c (decide (i64.wrap (a+b)≤e7)) I J K L M N O P d e f g h i j k l m n o p q r s (fun (b7,Q,R,S,T,U,V,W,X,Y,t,u,v,w,x,y,z,A,B,C,D,E,F,G,H)=>k0 (i64.wrap (a+b),Q,R,S,T,U,V,W,X,Y,t,u,v,w,x,y,z,A,B,C,D,E,F,G,H))) else (c (false) I J K L M N O P d e f g h i j k l m n o p q r s (fun (b7,Q,R,S,T,U,V,W,X,Y,t,u,v,w,x,y,z,A,B,C,D,E,F,G,H)=>k0 (i64.wrap (a+b),Q,R,S,T,U,V,W,X,Y,t,u,v,w,x,y,z,A,B,C,D,E,F,G,H))) else (c (false) I J K L M N O P d e f g h i j k l m n o p q r s (fun (g4,b8,b9,c0,c1,c2,c3,c4,c5,c6,a1,a2,a3,a4,a5,a6,a7,a8,a9,b0,b1,b2,b3,b4,b5)=>k0 (i64.wrap (a+b),b8,b9,c0,c1,c2,c3,c4,c5,c6,a1,a2,a3,a4,a5,a6,a7,a8,a9,b0,b1,b2,b3,b4,b5)))))
abbrev bf:Type:=Int→Int→Int→Int→Int→Int→Int→Bool→Int→Int→Int→Int→Int→Int→Int→Int→Int→Int→Int→Int→Int→Int→Bool→Bool→((List BM))→((List (BM×Int)))→LI→LI→((Int×Int×Int×Int×Bool×Int×Int×Int×Int×Int×Int×Int×Int×Int×Int×Int×Int×Int×Int×Bool×Bool×(List BM)×(List (BM×Int))×LI×LI)→OA)→OA
def aA (Z:Nat):bf:=oi Z (bL Z) (bg Z)
theorem En (Z:Nat) (a:cS) (b:bX) (x y:Int) (z A:Int) (B C D:Int) (E:Bool) (F G:Int) (d e:Int) (f g:Int) (h i:Int) (j l:Int) (m n:Int) (o p:Int) (q s:Bool) (t:(List BM)) (u:(List (BM×Int))) (v w:LI) (k:Ev.Cont):evalFn tab (Dp a b) J0 PM Z Tryz.f37 [.c (.ptr 0 0),.c (i6 x),.c (i6 y),.c (i6 z),.c (i6 A)] [.cells 86 [i6 B,i6 C,i6 D,.bool E,i6 F,i6 G,i6 d,i6 e,i6 f,i6 g,.ptr 1 0,.own 2,.own 3,i6 h,i6 i],.cells 147 (i6 j::.own 4::ctb (.int .u64 l::.int .u64 m::.own 5::i6 n::.int .u64 o::i6 p::.bool q::.bool s::[])),.vec 29 tq t false,.vec 36 (.pair tq ti) u false,.vec 3 ti v false,.vec 5 (.int .u8) w false] k=oi Z a b x y z A B C D E F G d e f g h i j l m n o p q s t u v w (fun r=>match r with | (W,X,Y,a0,a1,a2,a3,a4,a5,a6,H,I,J,K,L,M,N,O,P,Q,R,S,T,U,V)=>k (.c (i6 W),[.cells 86 [i6 X,i6 Y,i6 a0,.bool a1,i6 a2,i6 a3,i6 a4,i6 a5,i6 a6,i6 H,.ptr 1 0,.own 2,.own 3,i6 I,i6 J],.cells 147 (i6 K::.own 4::ctb (.int .u64 L::.int .u64 M::.own 5::i6 N::.int .u64 O::i6 P::.bool Q::.bool R::[])),.vec 29 tq S false,.vec 36 (.pair tq ti) T false,.vec 3 ti U false,.vec 5 (.int .u8) V false])):=by
 kernel_rfl
theorem Pb (Z:Nat):GOK prog (FS Z):=
 gc (AF Z) func85 kr rfl <|
 gc (za Z) func86 kr rfl <|
 gok_nil
def jC (F:bf):Ev.Spec:=fun args objs k=>match args,objs with | [.c (.ptr Q R),.c (i6 S),.c (i6 T),.c (i6 U),.c (i6 V)],[.cells W [i6 X,i6 Y,i6 a0,.bool a1,i6 a2,i6 a3,i6 a,i6 b,i6 d,i6 e,.ptr a4 a5,.own a6,.own a7,i6 f,i6 g],.cells a8 h,.vec a9 tq i false,.vec b0 (.pair tq ti) j false,.vec l ti m false,.vec n (.int .u8) o false]=>(match splitRun 2 ctn h with | some ([i6 p,.own q],[.int .u64 s,.int .u64 t,.own u,i6 v,.int .u64 w,i6 x,.bool y,.bool z])=>bif qb [Q,R,W,a4,a5,a6,a7,a8,a9,b0,l,n,q,u] [0,0,86,1,0,2,3,147,29,36,3,5,4,5] then F S T U V X Y a0 a1 a2 a3 a b d e f g p s t v w x y z i j m o (fun r=>match r with | (b1,b2,b3,b4,b5,b6,b7,b8,b9,c0,A,B,C,D,E,G,H,I,J,K,L,M,N,O,P)=>k (.c (i6 b1),[.cells 86 [i6 b2,i6 b3,i6 b4,.bool b5,i6 b6,i6 b7,i6 b8,i6 b9,i6 c0,i6 A,.ptr 1 0,.own 2,.own 3,i6 B,i6 C],.cells 147 (i6 D::.own 4::ctb (.int .u64 E::.int .u64 G::.own 5::i6 H::.int .u64 I::i6 J::.bool K::.bool L::[])),.vec 29 tq M false,.vec 36 (.pair tq ti) N false,.vec 3 ti O false,.vec 5 (.int .u8) P false])) else none | _=>none) | _,_=>none
theorem vC (Z:Nat):FnOK prog 37 (jC (aA Z)):=by
 intro args objs kk r h
 unfold jC at h
 split at h
 ·skip
  split at h
  rotate_left 1
  ·cases h
  rename_i hsp
  have esp:=splitRun_eq hsp
  subst esp
  obtain ⟨hb,h⟩:=cond_some' h
  cases qb_eq hb
  exact fo0 (Pb Z) func37 rfl kr _ _ kk r ((En Z (bL Z) (bg Z) _ _ _ _ _ _ _ _ _ _ _ _ _ _ _ _ _ _ _ _ _ _ _ _ _ _ _ _ kk).trans h)
 ·cases h
def Bv (i:Nat):Option (List Nat):=Ev.look i [(200004,[0]),(200005,[0]),(200006,[6]),(200010,[0]),(200012,[6]),(600000,[]),(900004,[0,6,8]),(900005,[0,1,2,6,8]),(900006,[0,1,2,6,79]),(900010,[0,6,8]),(900012,[])]
def BD (g:bf) (h:bX) (i:iO) (a:dh) (b:ad) (c:lx) (d:lw) (e:mX) (f:Nat):Option Ev.Spec:=Ev.look f [(37,jC g),(86,ky h),(136,nw i),(142,kM a),(143,cZ b),(144,uA c),(145,qd d),(146,wZ e)]
def AQ (Z:Nat):Nat→Option Ev.Spec:=BD (aA Z) (bg Z) (bC Z) (aG Z) (aa Z) (fJ Z) (iq Z) (ei Z)
def ez (Z:Nat) (d8 d9:Int) (x7 x8 x9:Int) (y0:Bool) (y1 y2:Int) (y3 y4:Int) (w1 w2:Int) (w3 w4:Int) (w5 w6:Int) (w7 w8:Int) (w9 x0:Int) (x1 x2:Bool) (x3:(List BM)) (x4:(List (BM×Int))) (x5 x6:LI) (k0:(Int×Int×Int×Bool×Int×Int×Int×Int×Int×Int×Int×Int×Int×Int×Int×Int×Int×Int×Bool×Bool×(List BM)×(List (BM×Int))×LI×LI)→OA):OA:=(aa Z (240) w5 w6 w7 w8 w9 x0 x1 x2 x5 x6 (fun (v0,v1,v2,v3,v4,v5,v6,v7,v8,v9,q2,q3)=>(aG Z v1 x7 x8 x9 y0 y1 y2 y3 y4 w1 w2 w3 w4 v2 v3 v4 v5 v6 v7 v8 v9 x3 x4 q2 q3 (fun (w0,R,S,T,U,V,d6,W,X,d7,b3,b4,b5,b6,b7,b8,b9,c0,c1,c2,c3,c4,c5,c6,c7)=>bif !w0 then k0 (R,S,T,U,V,d6,W,X,d7,b3,b4,b5,b6,b7,b8,b9,c0,c1,c2,c3,c4,c5,c6,c7) else bif v0==0 then (fJ Z X R S T U V d8 d9 (0) (0) ([]) b6 b7 b8 b9 c0 c1 c2 c3 c6 c7 (fun (a,P,Q,c8,c9,d0,d1,d2,d3,d4,Y,a0,n7,n8)=>(aG Z c8 R S T U V d6 W X d7 b3 b4 b5 c9 d0 d1 d2 d3 d4 Y a0 c4 c5 n7 n8 (fun (d5,x,y,z,A,B,C,D,E,F,j,k,l,m,n,o,p,q,r,s,t,c,d,u,v)=>bif d5 then (fun (z5:OA)=>
(fun (z4:OA)=>
(fun (z3:OA)=>
(fun (z2:OA)=>
(fun (z1:OA)=>
(fun (z0:OA)=>
both z0 (both z0 (both (both z2 z1) (both z2 z1)))) (both (both (bif decide ((d.length+(1:Nat))*(48:Nat)≤(140737488355328:Nat)∧d.length+(1:Nat)≤(140737488355328:Nat)) then both z4 z4 else none) (both (both z3 z3) (both z3 z3))) (both z2 z2))) (both z2 (both z3 z3))) (both (both z3 z3) z3)) (bif decide ((d.length+(1:Nat))*(48:Nat)≤(140737488355328:Nat)∧d.length+(1:Nat)≤(140737488355328:Nat)) then bif decide ((c.length+(1:Nat))*(40:Nat)≤(140737488355328:Nat)∧c.length+(1:Nat)≤(140737488355328:Nat)) then z5 else none else none)) (bif decide ((c.length+(1:Nat))*(40:Nat)≤(140737488355328:Nat)∧c.length+(1:Nat)≤(140737488355328:Nat)) then z5 else none)) (k0 (x,y,z,A,B,C,D,E,F,j,k,l,m,n,o,p,q,r,s,t,c++ [(a,P,Q)],d++ [((a,P,Q),(-1:Int))],u,v)) else k0 (x,y,z,A,B,C,D,E,F,j,k,l,m,n,o,p,q,r,s,t,c,d,u,v))))) else (iq Z (241) W b6 b7 b8 b9 c0 c1 c2 c3 c6 c7 (fun (a,P,Q,c8,c9,d0,d1,d2,d3,d4,Y,a0)=>(aG Z P R S T U V d6 W X d7 b3 b4 b5 Q c8 c9 d0 d1 d2 d3 d4 c4 c5 Y a0 (fun (d5,x,y,z,A,B,C,D,E,F,j,k,l,m,n,o,p,q,r,s,t,c,d,u,v)=>bif !d5 then k0 (x,y,z,A,B,C,D,E,F,j,k,l,m,n,o,p,q,r,s,t,c,d,u,v) else (bg Z (decide (a < (↑c.length:Int))) x y z A B C D E F j k l m n o p q r s t c d u v (fun (q4,k2,k3,k4,k5,k6,k7,k8,k9,l0,e0,e1,e2,e3,e4,e5,e6,e7,e8,e9,g0,g1,g2,g3,g4)=>bif !q4 then k0 (k2,k3,k4,k5,k6,k7,k8,k9,l0,e0,e1,e2,e3,e4,e5,e6,e7,e8,e9,g0,g1,g2,g3,g4) else (aA Z (96) (0) ((-200:Int)) (200) k2 k3 k4 k5 k6 k7 k8 k9 l0 e0 e1 e2 e3 e4 e5 e6 e7 e8 e9 g0 g1 g2 g3 g4 (fun (l1,q5,q6,q7,q8,q9,r0,r1,r2,r3,n9,o0,o1,o2,o3,o4,o5,o6,o7,o8,o9,p0,p1,p2,p3)=>(aA Z (144) (0) ((-200:Int)) (200) q5 q6 q7 q8 q9 r0 r1 r2 r3 n9 o0 o1 o2 o3 o4 o5 o6 o7 o8 o9 p0 p1 p2 p3 (fun (l2,G,H,I,J,K,L,M,N,e,w,a1,O,a2,a3,a4,a5,a6,a7,a8,a9,b,b0,b1,b2)=>bif O != 0 then k0 (G,H,I,J,K,L,M,N,e,w,a1,O,a2,a3,a4,a5,a6,a7,a8,a9,b,b0,b1,b2) else (fun (z0:OA)=>
both ((bC Z G H I J K L M N e w l1 l2 (fun (r4,r5,r6,r7,r8)=>bif decide ((0:Int)≤a∧a < (↑b.length:Int)) then (ei Z e r4 r5 r6 r7 r8 d8 d9 ((b.getD a.toNat ((0:Int),(0:Int),[])).fst) ((b.getD a.toNat ((0:Int),(0:Int),[])).snd.fst) ((b.getD a.toNat ((0:Int),(0:Int),[])).snd.snd) a2 a3 a4 a5 a6 a7 a8 a9 b1 b2 (fun (l3,l4,l5,r9,s0,s1,s2,s3,s4,s5,p4,p5,p6,p7)=>(aG Z r9 G H I J K L M N e w a1 O s0 s1 s2 s3 s4 s5 p4 p5 b b0 p6 p7 (fun (s6,l6,l7,l8,l9,m0,m1,m2,m3,m4,g5,g6,g7,g8,g9,h0,h1,h2,h3,h4,h5,f,g,h6,h7)=>bif s6 then (fun (z6:OA)=>(fun (z5:OA)=>(fun (z4:OA)=>(fun (z3:OA)=>(fun (z2:OA)=>(fun (z1:OA)=>(fun (z0:OA)=>both z0 (both z0 (both z1 z1))) (both (both (bif decide ((g.length+(1:Nat))*(48:Nat)≤(140737488355328:Nat)∧g.length+(1:Nat)≤(140737488355328:Nat)) then both z5 z5 else none) (both z3 z3)) (both z2 z2))) (both z2 (both z2 z3))) (both z3 z4)) (both z4 z4)) (bif decide ((g.length+(1:Nat))*(48:Nat)≤(140737488355328:Nat)∧g.length+(1:Nat)≤(140737488355328:Nat)) then bif decide ((f.length+(1:Nat))*(40:Nat)≤(140737488355328:Nat)∧f.length+(1:Nat)≤(140737488355328:Nat)) then z6 else none else none)) (bif decide ((f.length+(1:Nat))*(40:Nat)≤(140737488355328:Nat)∧f.length+(1:Nat)≤(140737488355328:Nat)) then z6 else none)) (k0 (l6,l7,l8,l9,m0,m1,m2,m3,m4,g5,g6,g7,g8,g9,h0,h1,h2,h3,h4,h5,f++ [(l3,l4,l5)],g++ [((l3,l4,l5),a)],h6,h7)) else k0 (l6,l7,l8,l9,m0,m1,m2,m3,m4,g5,g6,g7,g8,g9,h0,h1,h2,h3,h4,h5,f,g,h6,h7))))) else none))) (bif decide ((0:Int)≤a∧a < (↑b.length:Int)) then both z0 z0 else none)) ((bC Z G H I J K L M N e w l1 l2 (fun (s7,s8,s9,t0,t1)=>(ei Z e s7 s8 s9 t0 t1 d8 d9 ((b.getD a.toNat ((0:Int),(0:Int),[])).fst) ((b.getD a.toNat ((0:Int),(0:Int),[])).snd.fst) ((b.getD a.toNat ((0:Int),(0:Int),[])).snd.snd) a2 a3 a4 a5 a6 a7 a8 a9 b1 b2 (fun (m5,m6,m7,t2,t3,t4,t5,t6,t7,t8,p8,p9,q0,q1)=>(aG Z t2 G H I J K L M N e w a1 O t3 t4 t5 t6 t7 t8 p8 p9 b b0 q0 q1 (fun (t9,m8,m9,n0,n1,n2,n3,n4,n5,n6,h8,h9,j0,j1,j2,j3,j4,j5,j6,j7,j8,h,i,j9,k1)=>bif t9 then (fun (z6:OA)=>(fun (z5:OA)=>(fun (z4:OA)=>(fun (z3:OA)=>(fun (z2:OA)=>(fun (z1:OA)=>(fun (z0:OA)=>both z0 (both z0 (both z1 z1))) (both (both (bif decide ((i.length+(1:Nat))*(48:Nat)≤(140737488355328:Nat)∧i.length+(1:Nat)≤(140737488355328:Nat)) then both z5 z5 else none) (both z3 z3)) (both z2 z2))) (both z2 (both z2 z3))) (both z3 z4)) (both z4 z4)) (bif decide ((i.length+(1:Nat))*(48:Nat)≤(140737488355328:Nat)∧i.length+(1:Nat)≤(140737488355328:Nat)) then bif decide ((h.length+(1:Nat))*(40:Nat)≤(140737488355328:Nat)∧h.length+(1:Nat)≤(140737488355328:Nat)) then z6 else none else none)) (bif decide ((h.length+(1:Nat))*(40:Nat)≤(140737488355328:Nat)∧h.length+(1:Nat)≤(140737488355328:Nat)) then z6 else none)) (k0 (m8,m9,n0,n1,n2,n3,n4,n5,n6,h8,h9,j0,j1,j2,j3,j4,j5,j6,j7,j8,h++ [(m5,m6,m7)],i++ [((m5,m6,m7),a)],j9,k1)) else k0 (m8,m9,n0,n1,n2,n3,n4,n5,n6,h8,h9,j0,j1,j2,j3,j4,j5,j6,j7,j8,h,i,j9,k1))))))))))))))))))))))
abbrev gi:Type:=Int→Int→Int→Int→Int→Bool→Int→Int→Int→Int→Int→Int→Int→Int→Int→Int→Int→Int→Int→Int→Bool→Bool→((List BM))→((List (BM×Int)))→LI→LI→((Int×Int×Int×Bool×Int×Int×Int×Int×Int×Int×Int×Int×Int×Int×Int×Int×Int×Int×Bool×Bool×(List BM)×(List (BM×Int))×LI×LI)→OA)→OA
theorem Lc (Z:Nat) (a6:bf) (g0:bX) (e4:iO) (g:dh) (e7:ad) (e8:lx) (e9:lw) (a5:mX) (a3 a4:Int) (q4 q5 q6:Int) (q7:Bool) (q8 q9:Int) (r0 r1:Int) (o8 o9:Int) (p0 p1:Int) (p2 p3:Int) (p4 p5:Int) (p6 p7:Int) (p8 p9:Bool) (q0:(List BM)) (q1:(List (BM×Int))) (q2 q3:LI) (k:Ev.Cont):evalFn tab (BD a6 g0 e4 g e7 e8 e9 a5) J0 Bv Z Tryz.f87 [.c (.ptr 0 0),.c (i6 a3),.c (i6 a4)] [.cells 86 [i6 q4,i6 q5,i6 q6,.bool q7,i6 q8,i6 q9,i6 r0,i6 r1,i6 o8,i6 o9,.ptr 1 0,.own 2,.own 3,i6 p0,i6 p1],.cells 147 (i6 p2::.own 4::ctb (.int .u64 p3::.int .u64 p4::.own 5::i6 p5::.int .u64 p6::i6 p7::.bool p8::.bool p9::[])),.vec 29 tq q0 false,.vec 36 (.pair tq ti) q1 false,.vec 3 ti q2 false,.vec 5 (.int .u8) q3 false] (wkC [1000002,1000003] k)=(fun  (k0:(Int×Int×Int×Bool×Int×Int×Int×Int×Int×Int×Int×Int×Int×Int×Int×Int×Int×Int×Bool×Bool×(List BM)×(List (BM×Int))×LI×LI)→OA)=>
 (e7 ((240:Int)) p2 p3 p4 p5 p6 p7 p8 p9 q2 q3
 (fun (y5,y6,y7,y8,y9,z7,z8,z9,A0,A1,t7,t8)=>
 (g y6 q4 q5 q6 q7 q8 q9 r0 r1 o8 o9 p0 p1 y7 y8 y9 z7 z8 z9 A0 A1 q0 q1 t7 t8
 (fun (A2,V,W,X,Y,a0,e5,a1,a2,e6,c1,c2,c3,c4,c5,c6,c7,c8,c9,d0,d1,d2,d3,d4,d5)=>
 bif !A2 then
 k0 (V,W,X,Y,a0,e5,a1,a2,e6,c1,c2,c3,c4,c5,c6,c7,c8,c9,d0,d1,d2,d3,d4,d5)
 else
 bif y5==(0:Int) then
 (e8 a2 V W X Y a0 a3 a4 ((0:Int)) ((0:Int)) ([]) c4 c5 c6 c7 c8 c9 d0 d1 d4 d5
 (fun (a,T,U,d6,d7,d8,d9,e0,e1,e2,a7,a8,r2,r3)=>
 (g d6 V W X Y a0 e5 a1 a2 e6 c1 c2 c3 d7 d8 d9 e0 e1 e2 a7 a8 d2 d3 r2 r3
 (fun (e3,B,C,D,E,F,G,H,I,J,m,n,o,p,q,s,t,u,v,w,x,d,e,y,z)=>
 bif e3 then
 (fun (z5:OA)=>
(fun (z4:OA)=>
(fun (z3:OA)=>
(fun (z2:OA)=>
(fun (z1:OA)=>
(fun (z0:OA)=>
both z0 (both z0 (both (both z2 z1) (both z2 z1))))
 (both (both (bif decide ((e.length+(1:Nat))*(48:Nat)≤(140737488355328:Nat)∧e.length+(1:Nat)≤(140737488355328:Nat)) then both z4 z4 else none) (both (both z3 z3) (both z3 z3))) (both z2 z2)))
 (both z2 (both z3 z3)))
 (both (both z3 z3) z3))
 (bif decide ((e.length+(1:Nat))*(48:Nat)≤(140737488355328:Nat)∧e.length+(1:Nat)≤(140737488355328:Nat)) then bif decide ((d.length+(1:Nat))*(40:Nat)≤(140737488355328:Nat)∧d.length+(1:Nat)≤(140737488355328:Nat)) then z5 else none else none))
 (bif decide ((d.length+(1:Nat))*(40:Nat)≤(140737488355328:Nat)∧d.length+(1:Nat)≤(140737488355328:Nat)) then z5 else none))
 (k0 (B,C,D,E,F,G,H,I,J,m,n,o,p,q,s,t,u,v,w,x,d++ [(a,T,U)],e++ [((a,T,U),(-1:Int))],y,z))
 else
 k0 (B,C,D,E,F,G,H,I,J,m,n,o,p,q,s,t,u,v,w,x,d,e,y,z)))))
 else
 (e9 ((241:Int)) a1 c4 c5 c6 c7 c8 c9 d0 d1 d4 d5
 (fun (a,T,U,d6,d7,d8,d9,e0,e1,e2,a7,a8)=>
 (g T V W X Y a0 e5 a1 a2 e6 c1 c2 c3 U d6 d7 d8 d9 e0 e1 e2 d2 d3 a7 a8
 (fun (e3,B,C,D,E,F,G,H,I,J,m,n,o,p,q,s,t,u,v,w,x,d,e,y,z)=>
 bif !e3 then
 k0 (B,C,D,E,F,G,H,I,J,m,n,o,p,q,s,t,u,v,w,x,d,e,y,z)
 else
 (g0 (decide (a < (↑d.length:Int))) B C D E F G H I J m n o p q s t u v w x d e y z
 (fun (t9,l3,l4,l5,l6,l7,l8,l9,m0,m1,g1,g2,g3,g4,g5,g6,g7,g8,g9,h0,h1,h2,h3,h4,h5)=>
 bif !t9 then
 k0 (l3,l4,l5,l6,l7,l8,l9,m0,m1,g1,g2,g3,g4,g5,g6,g7,g8,g9,h0,h1,h2,h3,h4,h5)
 else
 (a6 ((96:Int)) ((0:Int)) ((-200:Int)) ((200:Int)) l3 l4 l5 l6 l7 l8 l9 m0 m1 g1 g2 g3 g4 g5 g6 g7 g8 g9 h0 h1 h2 h3 h4 h5
 (fun (m2,v0,v1,v2,v3,v4,v5,v6,v7,v8,r4,r5,r6,r7,r8,r9,s0,s1,s2,s3,s4,s5,s6,s7,s8)=>
 (a6 ((144:Int)) ((0:Int)) ((-200:Int)) ((200:Int)) v0 v1 v2 v3 v4 v5 v6 v7 v8 r4 r5 r6 r7 r8 r9 s0 s1 s2 s3 s4 s5 s6 s7 s8
 (fun (m3,K,L,M,N,O,P,Q,R,f,A,a9,S,b0,b1,b2,b3,b4,b5,b6,b7,b,b8,b9,c0)=>
 bif S != (0:Int) then
 k0 (K,L,M,N,O,P,Q,R,f,A,a9,S,b0,b1,b2,b3,b4,b5,b6,b7,b,b8,b9,c0)
 else
 (fun (z0:OA)=>
both ((e4 K L M N O P Q R f A m2 m3 (fun (v9,w0,w1,w2,w3)=>bif decide ((0:Int)≤a∧a < (↑b.length:Int)) then (a5 f v9 w0 w1 w2 w3 a3 a4 ((b.getD a.toNat ((0:Int),(0:Int),[])).fst) ((b.getD a.toNat ((0:Int),(0:Int),[])).snd.fst) ((b.getD a.toNat ((0:Int),(0:Int),[])).snd.snd) b0 b1 b2 b3 b4 b5 b6 b7 b9 c0 (fun (m4,m5,m6,w4,w5,w6,w7,w8,w9,x0,s9,t0,t1,t2)=>(g w4 K L M N O P Q R f A a9 S w5 w6 w7 w8 w9 x0 s9 t0 b b8 t1 t2 (fun (x1,m7,m8,m9,n0,n1,n2,n3,n4,n5,h6,h7,h8,h9,j0,j1,j2,j3,j4,j5,j6,h,i,j7,j8)=>bif x1 then (fun (z6:OA)=>(fun (z5:OA)=>(fun (z4:OA)=>(fun (z3:OA)=>(fun (z2:OA)=>(fun (z1:OA)=>(fun (z0:OA)=>both z0 (both z0 (both z1 z1))) (both (both (bif decide ((i.length+(1:Nat))*(48:Nat)≤(140737488355328:Nat)∧i.length+(1:Nat)≤(140737488355328:Nat)) then both z5 z5 else none) (both z3 z3)) (both z2 z2))) (both z2 (both z2 z3))) (both z3 z4)) (both z4 z4)) (bif decide ((i.length+(1:Nat))*(48:Nat)≤(140737488355328:Nat)∧i.length+(1:Nat)≤(140737488355328:Nat)) then bif decide ((h.length+(1:Nat))*(40:Nat)≤(140737488355328:Nat)∧h.length+(1:Nat)≤(140737488355328:Nat)) then z6 else none else none)) (bif decide ((h.length+(1:Nat))*(40:Nat)≤(140737488355328:Nat)∧h.length+(1:Nat)≤(140737488355328:Nat)) then z6 else none)) (k0 (m7,m8,m9,n0,n1,n2,n3,n4,n5,h6,h7,h8,h9,j0,j1,j2,j3,j4,j5,j6,h++ [(m4,m5,m6)],i++ [((m4,m5,m6),a)],j7,j8)) else k0 (m7,m8,m9,n0,n1,n2,n3,n4,n5,h6,h7,h8,h9,j0,j1,j2,j3,j4,j5,j6,h,i,j7,j8))))) else none))) (bif decide ((0:Int)≤a∧a < (↑b.length:Int)) then both z0 z0 else none))
 ((e4 K L M N O P Q R f A m2 m3 (fun (x2,x3,x4,x5,x6)=>(a5 f x2 x3 x4 x5 x6 a3 a4 ((b.getD a.toNat ((0:Int),(0:Int),[])).fst) ((b.getD a.toNat ((0:Int),(0:Int),[])).snd.fst) ((b.getD a.toNat ((0:Int),(0:Int),[])).snd.snd) b0 b1 b2 b3 b4 b5 b6 b7 b9 c0 (fun (n6,n7,n8,x7,x8,x9,y0,y1,y2,y3,t3,t4,t5,t6)=>(g x7 K L M N O P Q R f A a9 S x8 x9 y0 y1 y2 y3 t3 t4 b b8 t5 t6 (fun (y4,n9,o0,o1,o2,o3,o4,o5,o6,o7,j9,k1,k2,k3,k4,k5,k6,k7,k8,k9,l0,j,l,l1,l2)=>bif y4 then (fun (z6:OA)=>(fun (z5:OA)=>(fun (z4:OA)=>(fun (z3:OA)=>(fun (z2:OA)=>(fun (z1:OA)=>(fun (z0:OA)=>both z0 (both z0 (both z1 z1))) (both (both (bif decide ((l.length+(1:Nat))*(48:Nat)≤(140737488355328:Nat)∧l.length+(1:Nat)≤(140737488355328:Nat)) then both z5 z5 else none) (both z3 z3)) (both z2 z2))) (both z2 (both z2 z3))) (both z3 z4)) (both z4 z4)) (bif decide ((l.length+(1:Nat))*(48:Nat)≤(140737488355328:Nat)∧l.length+(1:Nat)≤(140737488355328:Nat)) then bif decide ((j.length+(1:Nat))*(40:Nat)≤(140737488355328:Nat)∧j.length+(1:Nat)≤(140737488355328:Nat)) then z6 else none else none)) (bif decide ((j.length+(1:Nat))*(40:Nat)≤(140737488355328:Nat)∧j.length+(1:Nat)≤(140737488355328:Nat)) then z6 else none)) (k0 (n9,o0,o1,o2,o3,o4,o5,o6,o7,j9,k1,k2,k3,k4,k5,k6,k7,k8,k9,l0,j++ [(n6,n7,n8)],l++ [((n6,n7,n8),a)],l1,l2)) else k0 (n9,o0,o1,o2,o3,o4,o5,o6,o7,j9,k1,k2,k3,k4,k5,k6,k7,k8,k9,l0,j,l,l1,l2))))))))))))))))))))))) (fun r=>match r with | (B7,B8,B9,C0,C1,C2,C3,C4,C5,C6,A3,A4,A5,A6,A7,A8,A9,B0,B1,B2,B3,B4,B5,B6)=>k (.tup [],[.cells 86 [i6 B7,i6 B8,i6 B9,.bool C0,i6 C1,i6 C2,i6 C3,i6 C4,i6 C5,i6 C6,.ptr 1 0,.own 2,.own 3,i6 A3,i6 A4],.cells 147 (i6 A5::.own 4::ctb (.int .u64 A6::.int .u64 A7::.own 5::i6 A8::.int .u64 A9::i6 B0::.bool B1::.bool B2::[])),.vec 29 tq B3 true,.vec 36 (.pair tq ti) B4 true,.vec 3 ti B5 false,.vec 5 (.int .u8) B6 false])):=by
 kernel_rfl
theorem I8 (Z:Nat):GOK prog (AQ Z):=
 gc (vC Z) func37 kr rfl <|
 gc (za Z) func86 kr rfl <|
 gc (Dk Z) func136 kr rfl <|
 gc (vt Z) func142 kr rfl <|
 gc (dk Z) func143 kr rfl <|
 gc (Mk Z) func144 kr rfl <|
 gc (Ei Z) func145 kr rfl <|
 gc (Iu Z) func146 kr rfl <|
 gok_nil
theorem NH (Z:Nat):FnOK prog 87 (evalFn tab (AQ Z) J0 Bv Z Tryz.f87):=
 fn_ok tab_ok (I8 Z) mixed func87 (c:=(Tryz.f87.body).getD .skip) rfl (fun q hq=>by
  rw [(by kernel_rfl:obl J0 ((Tryz.f87.body).getD .skip)= [])] at hq
  cases hq)
def vZ (F:gi):Ev.Spec:=fun args objs k=>match args,objs with | [.c (.ptr N O),.c (i6 P),.c (i6 Q)],[.cells R [i6 S,i6 T,i6 U,.bool V,i6 W,i6 X,i6 Y,i6 a0,i6 a,i6 b,.ptr a1 a2,.own a3,.own a4,i6 d,i6 e],.cells a5 f,.vec a6 tq g false,.vec a7 (.pair tq ti) h false,.vec i ti j false,.vec l (.int .u8) m false]=>(match splitRun 2 ctn f with | some ([i6 n,.own o],[.int .u64 p,.int .u64 q,.own s,i6 t,.int .u64 u,i6 v,.bool w,.bool x])=>bif qb [N,O,R,a1,a2,a3,a4,a5,a6,a7,i,l,o,s] [0,0,86,1,0,2,3,147,29,36,3,5,4,5] then F P Q S T U V W X Y a0 a b d e n p q t u v w x g h j m (fun r=>match r with | (a8,a9,b0,b1,b2,b3,b4,b5,b6,b7,y,z,A,B,C,D,E,G,H,I,J,K,L,M)=>k (.tup [],[.cells 86 [i6 a8,i6 a9,i6 b0,.bool b1,i6 b2,i6 b3,i6 b4,i6 b5,i6 b6,i6 b7,.ptr 1 0,.own 2,.own 3,i6 y,i6 z],.cells 147 (i6 A::.own 4::ctb (.int .u64 B::.int .u64 C::.own 5::i6 D::.int .u64 E::i6 G::.bool H::.bool I::[])),.vec 29 tq J true,.vec 36 (.pair tq ti) K true,.vec 3 ti L false,.vec 5 (.int .u8) M false])) else none | _=>none) | _,_=>none
theorem LN (Z:Nat):FnOK prog 87 (vZ (ez Z)):=by
 intro args objs kk r h
 unfold vZ at h
 split at h
 ·skip
  split at h
  rotate_left 1
  ·cases h
  rename_i hsp
  have esp:=splitRun_eq hsp
  subst esp
  obtain ⟨hb,h⟩:=cond_some' h
  cases qb_eq hb
  exact (NH Z).wk [1000002,1000003] _ _ kk r ((Lc Z (aA Z) (bg Z) (bC Z) (aG Z) (aa Z) (fJ Z) (iq Z) (ei Z) _ _ _ _ _ _ _ _ _ _ _ _ _ _ _ _ _ _ _ _ _ _ _ _ _ _ kk).trans h)
 ·cases h
def ji (i:Nat):Option (List Nat):=Ev.look i [(3,[0,1,4,5,1000002,1000003]),(100000,[]),(400000,[1000002,1000003])]
def tG (a:cS) (b:bX) (c:gi) (f:Nat):Option Ev.Spec:=Ev.look f [(85,mm a),(86,ky b),(87,vZ c)]
def D6 (Z:Nat):Nat→Option Ev.Spec:=tG (bL Z) (bg Z) (ez Z)
abbrev rx:Type:=Int×Int×Bool×Int×Int×Int×Bool×Int×Int×Int×Int×Int×Int×Int×Int×Int×Int×Int×Int×Int×Int×Bool×Bool×(List BM)×(List (BM×Int))×LI×LI
abbrev BR:Type:=(Int×Int×Int×Bool×Int×Int×Int×Int×Int×Int×Int×Int×Int×Int×Int×Int×Int×Int×Bool×Bool×(List BM)×(List (BM×Int))×LI×LI→OA)
def tH (Z:Nat) (j8:cS) (c6:bX) (c9:gi) (e b:Int) (o1:Bool) (o2 o3 o4:Int) (o5:Bool) (o6 o7:Int) (o8 m4:Int) (m5 m6:Int) (m7 m8:Int) (m9 n0:Int) (n1 n2:Int) (n3 n4:Int) (n5 n6:Bool) (n7:(List BM)) (n8:(List (BM×Int))) (n9 o0:LI) (c:rx→OA) (B:BR):OA:=match B with | ret=>(j8 (48) o2 o3 o4 o5 o6 o7 o8 m4 m5 m6 m7 m8 m9 n0 n1 n2 n3 n4 n5 n6 n7 n8 n9 o0 (fun (l4,a,b8,b9,c0,c1,c2,c3,c4,c5,a5,a6,a2,a4,a7,a8,a9,b0,b1,b2,b3,b4,b5,a3,b6,b7)=>bif a4 != 0 then ret (b8,b9,c0,c1,c2,c3,c4,c5,a5,a6,a2,a4,a7,a8,a9,b0,b1,b2,b3,b4,b5,a3,b6,b7) else bif l4 then (c6 (!o1) b8 b9 c0 c1 c2 c3 c4 c5 a5 a6 a2 a4 a7 a8 a9 b0 b1 b2 b3 b4 b5 a3 b6 b7 (fun (o9,l5,l6,l7,l8,l9,m0,m1,m2,m3,j9,k0,k1,k2,k3,k4,k5,k6,k7,k8,k9,l0,l1,l2,l3)=>ret (l5,l6,l7,l8,l9,m0,m1,m2,m3,j9,k0,k1,k2,k3,k4,k5,k6,k7,k8,k9,l0,l1,l2,l3))) else both (bif decide ((↑a3.length:Int) < a2) then bif decide (i64.wrap (b+a)≥1) then (c6 (decide (i64.wrap (b+a)≤40)) b8 b9 c0 c1 c2 c3 c4 c5 a5 a6 a2 a4 a7 a8 a9 b0 b1 b2 b3 b4 b5 a3 b6 b7 (fun (c8,I,J,K,L,M,N,O,P,Q,f,g,h,i,j,k,l,m,n,o,p,q,r,s,t)=>bif !c8 then ret (I,J,K,L,M,N,O,P,Q,f,g,h,i,j,k,l,m,n,o,p,q,r,s,t) else (c9 (i64.wrap (b+a)) e I J K L M N O P Q f g h i j k l m n o p q r s t (fun (R,S,T,U,V,W,X,Y,a0,a1,u,d,v,w,x,y,z,A,C,D,E,F,G,H)=>bif d != 0 then ret (R,S,T,U,V,W,X,Y,a0,a1,u,d,v,w,x,y,z,A,C,D,E,F,G,H) else c (e,i64.wrap (b+a),false,R,S,T,U,V,W,X,Y,a0,a1,u,d,v,w,x,y,z,A,C,D,E,F,G,H))))) else (c6 (false) b8 b9 c0 c1 c2 c3 c4 c5 a5 a6 a2 a4 a7 a8 a9 b0 b1 b2 b3 b4 b5 a3 b6 b7 (fun (c8,I,J,K,L,M,N,O,P,Q,f,g,h,i,j,k,l,m,n,o,p,q,r,s,t)=>bif !c8 then ret (I,J,K,L,M,N,O,P,Q,f,g,h,i,j,k,l,m,n,o,p,q,r,s,t) else (c9 (i64.wrap (b+a)) e I J K L M N O P Q f g h i j k l m n o p q r s t (fun (R,S,T,U,V,W,X,Y,a0,a1,u,d,v,w,x,y,z,A,C,D,E,F,G,H)=>bif d != 0 then ret (R,S,T,U,V,W,X,Y,a0,a1,u,d,v,w,x,y,z,A,C,D,E,F,G,H) else c (e,i64.wrap (b+a),false,R,S,T,U,V,W,X,Y,a0,a1,u,d,v,w,x,y,z,A,C,D,E,F,G,H))))) else (c6 (false) b8 b9 c0 c1 c2 c3 c4 c5 a5 a6 a2 a4 a7 a8 a9 b0 b1 b2 b3 b4 b5 a3 b6 b7 (fun (j7,g8,g9,h0,h1,h2,h3,h4,h5,h6,d0,d1,d2,d3,d4,d5,d6,d7,d8,d9,e0,e1,e2,e3,e4)=>bif !j7 then ret (g8,g9,h0,h1,h2,h3,h4,h5,h6,d0,d1,d2,d3,d4,d5,d6,d7,d8,d9,e0,e1,e2,e3,e4) else (c9 (i64.wrap (b+a)) e g8 g9 h0 h1 h2 h3 h4 h5 h6 d0 d1 d2 d3 d4 d5 d6 d7 d8 d9 e0 e1 e2 e3 e4 (fun (h7,h8,h9,j0,j1,j2,j3,j4,j5,j6,e5,c7,e6,e7,e8,e9,g0,g1,g2,g3,g4,g5,g6,g7)=>bif c7 != 0 then ret (h7,h8,h9,j0,j1,j2,j3,j4,j5,j6,e5,c7,e6,e7,e8,e9,g0,g1,g2,g3,g4,g5,g6,g7) else c (e,i64.wrap (b+a),false,h7,h8,h9,j0,j1,j2,j3,j4,j5,j6,e5,c7,e6,e7,e8,e9,g0,g1,g2,g3,g4,g5,g6,g7)))))) (bif decide ((↑a3.length:Int) < a2) then bif decide (i64.wrap (b+a)≥1) then (c6 (decide (i64.wrap (b+a)≤40)) b8 b9 c0 c1 c2 c3 c4 c5 a5 a6 a2 a4 a7 a8 a9 b0 b1 b2 b3 b4 b5 a3 b6 b7 (fun (c8,I,J,K,L,M,N,O,P,Q,f,g,h,i,j,k,l,m,n,o,p,q,r,s,t)=>bif !c8 then ret (I,J,K,L,M,N,O,P,Q,f,g,h,i,j,k,l,m,n,o,p,q,r,s,t) else (c9 (i64.wrap (b+a)) e I J K L M N O P Q f g h i j k l m n o p q r s t (fun (R,S,T,U,V,W,X,Y,a0,a1,u,d,v,w,x,y,z,A,C,D,E,F,G,H)=>bif d != 0 then ret (R,S,T,U,V,W,X,Y,a0,a1,u,d,v,w,x,y,z,A,C,D,E,F,G,H) else c (e,i64.wrap (b+a),false,R,S,T,U,V,W,X,Y,a0,a1,u,d,v,w,x,y,z,A,C,D,E,F,G,H))))) else (c6 (false) b8 b9 c0 c1 c2 c3 c4 c5 a5 a6 a2 a4 a7 a8 a9 b0 b1 b2 b3 b4 b5 a3 b6 b7 (fun (c8,I,J,K,L,M,N,O,P,Q,f,g,h,i,j,k,l,m,n,o,p,q,r,s,t)=>bif !c8 then ret (I,J,K,L,M,N,O,P,Q,f,g,h,i,j,k,l,m,n,o,p,q,r,s,t) else (c9 (i64.wrap (b+a)) e I J K L M N O P Q f g h i j k l m n o p q r s t (fun (R,S,T,U,V,W,X,Y,a0,a1,u,d,v,w,x,y,z,A,C,D,E,F,G,H)=>bif d != 0 then ret (R,S,T,U,V,W,X,Y,a0,a1,u,d,v,w,x,y,z,A,C,D,E,F,G,H) else c (e,i64.wrap (b+a),false,R,S,T,U,V,W,X,Y,a0,a1,u,d,v,w,x,y,z,A,C,D,E,F,G,H))))) else (c6 (false) b8 b9 c0 c1 c2 c3 c4 c5 a5 a6 a2 a4 a7 a8 a9 b0 b1 b2 b3 b4 b5 a3 b6 b7 (fun (j7,g8,g9,h0,h1,h2,h3,h4,h5,h6,d0,d1,d2,d3,d4,d5,d6,d7,d8,d9,e0,e1,e2,e3,e4)=>bif !j7 then ret (g8,g9,h0,h1,h2,h3,h4,h5,h6,d0,d1,d2,d3,d4,d5,d6,d7,d8,d9,e0,e1,e2,e3,e4) else (c9 (i64.wrap (b+a)) e g8 g9 h0 h1 h2 h3 h4 h5 h6 d0 d1 d2 d3 d4 d5 d6 d7 d8 d9 e0 e1 e2 e3 e4 (fun (h7,h8,h9,j0,j1,j2,j3,j4,j5,j6,e5,c7,e6,e7,e8,e9,g0,g1,g2,g3,g4,g5,g6,g7)=>bif c7 != 0 then ret (h7,h8,h9,j0,j1,j2,j3,j4,j5,j6,e5,c7,e6,e7,e8,e9,g0,g1,g2,g3,g4,g5,g6,g7) else c (e,i64.wrap (b+a),false,h7,h8,h9,j0,j1,j2,j3,j4,j5,j6,e5,c7,e6,e7,e8,e9,g0,g1,g2,g3,g4,g5,g6,g7))))))))
def kA (Z:Nat) (v:Int×Int×Bool×Int×Int×Int×Bool×Int×Int×Int×Int×Int×Int×Int×Int×Int×Int×Int×Int×Int×Int×Bool×Bool×(List BM)×(List (BM×Int))×LI×LI) (c:(Int×Int×Bool×Int×Int×Int×Bool×Int×Int×Int×Int×Int×Int×Int×Int×Int×Int×Int×Int×Int×Int×Bool×Bool×(List BM)×(List (BM×Int))×LI×LI)→OA) (B:(Int×Int×Int×Bool×Int×Int×Int×Int×Int×Int×Int×Int×Int×Int×Int×Int×Int×Int×Bool×Bool×(List BM)×(List (BM×Int))×LI×LI→OA)):OA:=match v with | (s,t,u,w,x,y,z,A,C,D,a,b,d,e,f,g,h,i,j,k,l,m,n,o,p,q,r)=>tH Z (bL Z) (bg Z) (ez Z) s t u w x y z A C D a b d e f g h i j k l m n o p q r c B
def Eg (Z:Nat) (v:rx) (ret:(Int×Int×Int×Bool×Int×Int×Int×Int×Int×Int×Int×Int×Int×Int×Int×Int×Int×Int×Bool×Bool×(List BM)×(List (BM×Int))×LI×LI→OA)):OA:=iter (kA Z) Z v ret
def xO (v:rx):Ev.St:=match v with | (s,t,u,w,x,y,z,A,B,C,a,b,d,e,f,g,h,i,j,k,l,m,n,o,p,q,r)=>⟨[(0,.c (.ptr 0 0)),(1,.c (i6 s)),(4,.c (i6 t)),(5,.c (.bool u))],[(0,.cells 86 [i6 w,i6 x,i6 y,.bool z,i6 A,i6 B,i6 C,i6 a,i6 b,i6 d,.ptr 1 0,.own 2,.own 3,i6 e,i6 f]),(1,.cells 147 (i6 g::.own 4::ctb (.int .u64 h::.int .u64 i::.own 5::i6 j::.int .u64 k::i6 l::.bool m::.bool n::[]))),(2,.vec 29 tq o true),(3,.vec 36 (.pair tq ti) p true),(4,.vec 3 ti q false),(5,.vec 5 (.int .u8) r false)],6,6⟩
def sD (K:KT):BR:=(fun v=>match v with | (o,p,q,r,s,t,u,w,x,y,a,b,c,d,e,f,g,h,i,j,k,l,m,n)=>K .ret ⟨[],[(0,.cells 86 [i6 o,i6 p,i6 q,.bool r,i6 s,i6 t,i6 u,i6 w,i6 x,i6 y,.ptr 1 0,.own 2,.own 3,i6 a,i6 b]),(1,.cells 147 (i6 c::.own 4::ctb (.int .u64 d::.int .u64 e::.own 5::i6 f::.int .u64 g::i6 h::.bool i::.bool j::[]))),(2,.vec 29 tq k true),(3,.vec 36 (.pair tq ti) l true),(4,.vec 3 ti m false),(5,.vec 5 (.int .u8) n false)],6,6⟩)
theorem Kw (Z:Nat) (a:cS) (b:bX) (c:gi) (R:Ev.St→OA) (K:KT) (u w:Int) (x:Bool) (y z A:Int) (B:Bool) (C D:Int) (E d:Int) (e f:Int) (g h:Int) (i j:Int) (k l:Int) (m n:Int) (o p:Bool) (q:(List BM)) (r:(List (BM×Int))) (s t:LI):evalCode tab (tG a b c) J0 ji Z (bodyOf 0 Tryz.f38) (xO (u,w,x,y,z,A,B,C,D,E,d,e,f,g,h,i,j,k,l,m,n,o,p,q,r,s,t)) (lc ji 3 0 R K)=tH Z a b c u w x y z A B C D E d e f g h i j k l m n o p q r s t (fun v=>R (xO v)) (sD K):=by
 kernel_rfl
def nD (Z:Nat):Ev.Blk:=fun st K=>match canonO (ji 3) st with | some s=>(match s with | ⟨[(L,.c (.ptr M N)),(O,.c (i6 P)),(Q,.c (i6 R)),(S,.c (.bool T))],[(U,.cells V [i6 W,i6 X,i6 Y,.bool a0,i6 a1,i6 a2,i6 a3,i6 a,i6 b,i6 d,.ptr a4 a5,.own e,.own f,i6 g,i6 h]),(i,.cells j k),(l,.vec m tq n true),(o,.vec p (.pair tq ti) q true),(r,.vec t ti u false),(v,.vec w (.int .u8) x false)],y,z⟩=>(match splitRun 2 ctn k with | some ([i6 A,.own B],[.int .u64 C,.int .u64 D,.own E,i6 F,.int .u64 G,i6 H,.bool I,.bool J])=>bif qb [L,M,N,O,Q,S,U,V,a4,a5,e,f,i,j,l,m,o,p,r,t,v,w,y,z,B,E] [0,0,0,1,4,5,0,86,1,0,2,3,1,147,2,29,3,36,4,3,5,5,6,6,4,5] then iter (kA Z) Z (P,R,T,W,X,Y,a0,a1,a2,a3,a,b,d,g,h,A,C,D,F,G,H,I,J,n,q,u,x) (sD K) else none | _=>none) | _=>none) | none=>none
theorem HN (Z:Nat) (st:Ev.St) (K:KT) (r:Ans) (h:nD Z st K=some r):evalCode tab (D6 Z) J0 ji Z (.block 0 (.loop (bodyOf 0 Tryz.f38))) st K=some r:=by
 unfold nD at h
 split at h
 ·rename_i s hs
  split at h
  ·skip
   split at h
   rotate_left 1
   ·cases h
   rename_i hsp
   have esp:=splitRun_eq hsp
   subst esp
   obtain ⟨hb,h⟩:=cond_some' h
   cases qb_eq hb
   exact blk_loop (S:=xO) (ks:=sD) (step:=kA Z) (v:=(_,_,_,_,_,_,_,_,_,_,_,_,_,_,_,_,_,_,_,_,_,_,_,_,_,_,_)) kr kr (fun R K v=>by obtain ⟨u,w,x,y,z,A,B,C,D,E,a,b,c,d,e,f,g,i,j,k,l,m,n,o,p,q,t⟩:=v; exact Kw Z (bL Z) (bg Z) (ez Z) R K u w x y z A B C D E a b c d e f g i j k l m n o p q t) hs h
  ·cases h
 ·cases h
def FR (Z:Nat) (i:Nat):Option Ev.Blk:=Ev.look i [(100000,nD Z)]
def xA (Z:Nat) (z:cS) (A:bX) (B:gi) (p q:Int) (r s:Int) (t:Bool) (u v:Int) (w x:Int) (y a:Int) (b c:Int) (d e:Int) (f g:Int) (h i:Int) (j k:Bool) (l:(List BM)) (m:(List (BM×Int))) (n o:LI) (k0:(Int×Int×Int×Bool×Int×Int×Int×Int×Int×Int×Int×Int×Int×Int×Int×Int×Int×Int×Bool×Bool×(List BM)×(List (BM×Int))×LI×LI)→OA):OA:=(Eg Z (p,0,true,q,r,s,t,u,v,w,x,y,a,b,c,d,e,f,g,h,i,j,k,l,m,n,o) (fun (ret0_0,ret0_1,ret0_2,ret0_3,ret0_4,ret0_5,ret0_6,ret0_7,ret0_8,ret0_9,ret0_10,ret0_11,ret0_12,ret0_13,ret0_14,ret0_15,ret0_16,ret0_17,ret0_18,ret0_19,ret0_20,ret0_21,ret0_22,ret0_23)=>k0 (ret0_0,ret0_1,ret0_2,ret0_3,ret0_4,ret0_5,ret0_6,ret0_7,ret0_8,ret0_9,ret0_10,ret0_11,ret0_12,ret0_13,ret0_14,ret0_15,ret0_16,ret0_17,ret0_18,ret0_19,ret0_20,ret0_21,ret0_22,ret0_23)))
abbrev fR:Type:=Int→Int→Int→Int→Bool→Int→Int→Int→Int→Int→Int→Int→Int→Int→Int→Int→Int→Int→Int→Bool→Bool→((List BM))→((List (BM×Int)))→LI→LI→((Int×Int×Int×Bool×Int×Int×Int×Int×Int×Int×Int×Int×Int×Int×Int×Int×Int×Int×Bool×Bool×(List BM)×(List (BM×Int))×LI×LI)→OA)→OA
def dQ (Z:Nat):fR:=xA Z (bL Z) (bg Z) (ez Z)
theorem GR (Z:Nat) (a:cS) (b:bX) (d:gi) (v w:Int) (x y:Int) (z:Bool) (A B:Int) (C D:Int) (E e:Int) (f g:Int) (h i:Int) (j l:Int) (m n:Int) (o p:Bool) (q:(List BM)) (s:(List (BM×Int))) (t u:LI) (k:Ev.Cont):evalFn tab (tG a b d) (FR Z) ji Z Tryz.f38 [.c (.ptr 0 0),.c (i6 v)] [.cells 86 [i6 w,i6 x,i6 y,.bool z,i6 A,i6 B,i6 C,i6 D,i6 E,i6 e,.ptr 1 0,.own 2,.own 3,i6 f,i6 g],.cells 147 (i6 h::.own 4::ctb (.int .u64 i::.int .u64 j::.own 5::i6 l::.int .u64 m::i6 n::.bool o::.bool p::[])),.vec 29 tq q false,.vec 36 (.pair tq ti) s false,.vec 3 ti t false,.vec 5 (.int .u8) u false] k=xA Z a b d v w x y z A B C D E e f g h i j l m n o p q s t u (fun r=>match r with | (T,U,V,W,X,Y,a0,a1,a2,a3,F,G,H,I,J,K,L,M,N,O,P,Q,R,S)=>k (.tup [],[.cells 86 [i6 T,i6 U,i6 V,.bool W,i6 X,i6 Y,i6 a0,i6 a1,i6 a2,i6 a3,.ptr 1 0,.own 2,.own 3,i6 F,i6 G],.cells 147 (i6 H::.own 4::ctb (.int .u64 I::.int .u64 J::.own 5::i6 K::.int .u64 L::i6 M::.bool N::.bool O::[])),.vec 29 tq P true,.vec 36 (.pair tq ti) Q true,.vec 3 ti R false,.vec 5 (.int .u8) S false])):=by
 kernel_rfl
theorem Bn (Z:Nat):GOK prog (D6 Z):=
 gc (AF Z) func85 kr rfl <|
 gc (za Z) func86 kr rfl <|
 gc (LN Z) func87 kr rfl <|
 gok_nil
theorem JM (Z:Nat):BlkOK prog Tryz.f38.ntmps (.block 0 (.loop (bodyOf 0 Tryz.f38))) (nD Z):=bo0 (Bn Z) kr kr (HN Z)
def ph (F:fR):Ev.Spec:=fun args objs k=>match args,objs with | [.c (.ptr M N),.c (i6 O)],[.cells P [i6 Q,i6 R,i6 S,.bool T,i6 U,i6 V,i6 W,i6 X,i6 Y,i6 a,.ptr a0 a1,.own a2,.own a3,i6 b,i6 d],.cells a4 e,.vec a5 tq f false,.vec a6 (.pair tq ti) g false,.vec h ti i false,.vec j (.int .u8) l false]=>(match splitRun 2 ctn e with | some ([i6 m,.own n],[.int .u64 o,.int .u64 p,.own q,i6 s,.int .u64 t,i6 u,.bool v,.bool w])=>bif qb [M,N,P,a0,a1,a2,a3,a4,a5,a6,h,j,n,q] [0,0,86,1,0,2,3,147,29,36,3,5,4,5] then F O Q R S T U V W X Y a b d m o p s t u v w f g i l (fun r=>match r with | (a7,a8,a9,b0,b1,b2,b3,b4,b5,b6,x,y,z,A,B,C,D,E,G,H,I,J,K,L)=>k (.tup [],[.cells 86 [i6 a7,i6 a8,i6 a9,.bool b0,i6 b1,i6 b2,i6 b3,i6 b4,i6 b5,i6 b6,.ptr 1 0,.own 2,.own 3,i6 x,i6 y],.cells 147 (i6 z::.own 4::ctb (.int .u64 A::.int .u64 B::.own 5::i6 C::.int .u64 D::i6 E::.bool G::.bool H::[])),.vec 29 tq I true,.vec 36 (.pair tq ti) J true,.vec 3 ti K false,.vec 5 (.int .u8) L false])) else none | _=>none) | _,_=>none
theorem MJ (Z:Nat):FnOK prog 38 (ph (dQ Z)):=by
 intro args objs kk r h
 unfold ph at h
 split at h
 ·skip
  split at h
  rotate_left 1
  ·cases h
  rename_i hsp
  have esp:=splitRun_eq hsp
  subst esp
  obtain ⟨hb,h⟩:=cond_some' h
  cases qb_eq hb
  exact fo1 (Bn Z) func38 rfl (JM Z) kr _ _ kk r ((GR Z (bL Z) (bg Z) (ez Z) _ _ _ _ _ _ _ _ _ _ _ _ _ _ _ _ _ _ _ _ _ _ _ _ _ kk).trans h)
 ·cases h
def cL (i:Nat):Option (List Nat):=Ev.look i [(3,[0,1,5,6]),(10,[0,1,5,6,36,37]),(100000,[5]),(100002,[0,1,5,6]),(400000,[4]),(400002,[4])]
def oh (a:bf) (f:Nat):Option Ev.Spec:=Ev.look f [(37,jC a)]
def tI (Z:Nat):Nat→Option Ev.Spec:=oh (aA Z)
abbrev qa:Type:=Int×Bool×Int×Int×Int×Int×Int×Bool×Int×Int×Int×Int×Int×Int×Int×Int×Int×Int×Int×Int×Int×Int×Bool×Bool×(List BM)×(List (BM×Int))×LI×LI×(List Bool)
abbrev wF:Type:=(Int×Bool×Int×Int×Int×Bool×Int×Int×Int×Int×Int×Int×Int×Int×Int×Int×Int×Int×Int×Int×Bool×Bool×(List BM)×(List (BM×Int))×LI×LI×(List Bool)→OA)
def kg (Z:Nat) (G:bf) (w:Int) (a:Bool) (E F:Int) (x y z:Int) (A:Bool) (C D:Int) (f g:Int) (h i:Int) (j e:Int) (k l:Int) (m n:Int) (o p:Int) (q r:Bool) (s:(List BM)) (t:(List (BM×Int))) (u v:LI) (d:(List Bool)) (c:qa→OA) (B:wF):OA:=match B with | b=>bif decide (F < E) then bif e != 0 then b (w,a,x,y,z,A,C,D,f,g,h,i,j,e,k,l,m,n,o,p,q,r,s,t,u,v,d) else bif decide ((d.length+ [a].length)*(1:Nat)≤(140737488355328:Nat)∧d.length+ [a].length≤(140737488355328:Nat)) then c (w,a,E,i64.wrap (F+(1:Int)),x,y,z,A,C,D,f,g,h,i,j,e,k,l,m,n,o,p,q,r,s,t,u,v,d++ [a]) else none else b (w,a,x,y,z,A,C,D,f,g,h,i,j,e,k,l,m,n,o,p,q,r,s,t,u,v,d)
def dj (Z:Nat) (v:Int×Bool×Int×Int×Int×Int×Int×Bool×Int×Int×Int×Int×Int×Int×Int×Int×Int×Int×Int×Int×Int×Int×Bool×Bool×(List BM)×(List (BM×Int))×LI×LI×(List Bool)) (c:(Int×Bool×Int×Int×Int×Int×Int×Bool×Int×Int×Int×Int×Int×Int×Int×Int×Int×Int×Int×Int×Int×Int×Bool×Bool×(List BM)×(List (BM×Int))×LI×LI×(List Bool))→OA) (B:(Int×Bool×Int×Int×Int×Bool×Int×Int×Int×Int×Int×Int×Int×Int×Int×Int×Int×Int×Int×Int×Bool×Bool×(List BM)×(List (BM×Int))×LI×LI×(List Bool)→OA)):OA:=match v with | (u,w,x,y,z,A,C,D,E,F,a,b,d,e,f,g,h,i,j,k,l,m,n,o,p,q,r,s,t)=>kg Z (aA Z) u w x y z A C D E F a b d e f g h i j k l m n o p q r s t c B
def eC (Z:Nat) (v:qa) (b:wF):OA:=iter (dj Z) Z v b
def wJ (v:qa):Ev.St:=match v with | (u,w,x,y,z,A,B,C,D,E,a,b,d,e,f,g,h,i,j,k,l,m,n,o,p,q,r,s,t)=>⟨[(0,.c (.ptr 0 0)),(1,.c (i6 u)),(5,.c (.own 6)),(6,.c (.bool w)),(36,.c (i6 x)),(37,.c (i6 y))],[(0,.cells 86 [i6 z,i6 A,i6 B,.bool C,i6 D,i6 E,i6 a,i6 b,i6 d,i6 e,.ptr 1 0,.own 2,.own 3,i6 f,i6 g]),(1,.cells 147 (i6 h::.own 4::ctb (.int .u64 i::.int .u64 j::.own 5::i6 k::.int .u64 l::i6 m::.bool n::.bool o::[]))),(2,.vec 29 tq p false),(3,.vec 36 (.pair tq ti) q false),(4,.vec 3 ti r false),(5,.vec 5 (.int .u8) s false),(6,.vec 4 .bool t true)],7,6⟩
def yz (K:KT):wF:=(fun v=>match v with | (s,t,u,w,x,y,z,A,B,C,a,b,d,e,f,g,h,i,j,k,l,m,n,o,p,q,r)=>K .normal ⟨[(0,.c (.ptr 0 0)),(1,.c (i6 s)),(5,.c (.own 6)),(6,.c (.bool t))],[(0,.cells 86 [i6 u,i6 w,i6 x,.bool y,i6 z,i6 A,i6 B,i6 C,i6 a,i6 b,.ptr 1 0,.own 2,.own 3,i6 d,i6 e]),(1,.cells 147 (i6 f::.own 4::ctb (.int .u64 g::.int .u64 h::.own 5::i6 i::.int .u64 j::i6 k::.bool l::.bool m::[]))),(2,.vec 29 tq n false),(3,.vec 36 (.pair tq ti) o false),(4,.vec 3 ti p false),(5,.vec 5 (.int .u8) q false),(6,.vec 4 .bool r true)],7,6⟩)
theorem Hd (Z:Nat) (a:bf) (R:Ev.St→OA) (K:KT) (u:Int) (w:Bool) (x y:Int) (z A B:Int) (C:Bool) (D E:Int) (b c:Int) (d e:Int) (f g:Int) (h i:Int) (j k:Int) (l m:Int) (n o:Bool) (p:(List BM)) (q:(List (BM×Int))) (r s:LI) (t:(List Bool)):evalCode tab (oh a) J0 cL Z (bodyOf 2 Tryz.f39) (wJ (u,w,x,y,z,A,B,C,D,E,b,c,d,e,f,g,h,i,j,k,l,m,n,o,p,q,r,s,t)) (lc cL 10 2 R K)=kg Z a u w x y z A B C D E b c d e f g h i j k l m n o p q r s t (fun v=>R (wJ v)) (yz K):=by
 kernel_rfl
def gN (Z:Nat):Ev.Blk:=fun st K=>match canonO (cL 10) st with | some s=>(match s with | ⟨[(S,.c (.ptr T U)),(V,.c (i6 W)),(X,.c (.own Y)),(a0,.c (.bool a1)),(a2,.c (i6 a3)),(a4,.c (i6 a5))],[(a6,.cells a [i6 a7,i6 a8,i6 a9,.bool b0,i6 b1,i6 b2,i6 b,i6 d,i6 e,i6 f,.ptr g h,.own i,.own j,i6 k,i6 l]),(m,.cells n o),(p,.vec q tq r false),(t,.vec u (.pair tq ti) v false),(w,.vec x ti y false),(z,.vec A (.int .u8) B false),(C,.vec D .bool E true)],F,G⟩=>(match splitRun 2 ctn o with | some ([i6 H,.own I],[.int .u64 J,.int .u64 L,.own M,i6 N,.int .u64 O,i6 P,.bool Q,.bool R])=>bif qb [S,T,U,V,X,Y,a0,a2,a4,a6,a,g,h,i,j,m,n,p,q,t,u,w,x,z,A,C,D,F,G,I,M] [0,0,0,1,5,6,6,36,37,0,86,1,0,2,3,1,147,2,29,3,36,4,3,5,5,6,4,7,6,4,5] then iter (dj Z) Z (W,a1,a3,a5,a7,a8,a9,b0,b1,b2,b,d,e,f,k,l,H,J,L,N,O,P,Q,R,r,v,y,B,E) (yz K) else none | _=>none) | _=>none) | none=>none
theorem Hy (Z:Nat) (st:Ev.St) (K:KT) (r:Ans) (h:gN Z st K=some r):evalCode tab (tI Z) J0 cL Z (.block 2 (.loop (bodyOf 2 Tryz.f39))) st K=some r:=by
 unfold gN at h
 split at h
 ·rename_i s hs
  split at h
  ·skip
   split at h
   rotate_left 1
   ·cases h
   rename_i hsp
   have esp:=splitRun_eq hsp
   subst esp
   obtain ⟨hb,h⟩:=cond_some' h
   cases qb_eq hb
   exact blk_loop (S:=wJ) (ks:=yz) (step:=dj Z) (v:=(_,_,_,_,_,_,_,_,_,_,_,_,_,_,_,_,_,_,_,_,_,_,_,_,_,_,_,_,_)) kr kr (fun R K v=>by obtain ⟨x,y,z,A,B,C,D,E,F,G,a,b,c,d,e,f,g,i,j,k,l,m,n,o,p,q,t,u,w⟩:=v; exact Hd Z (aA Z) R K x y z A B C D E F G a b c d e f g i j k l m n o p q t u w) hs h
  ·cases h
 ·cases h
abbrev us:Type:=Int×Bool×Int×Int×Int×Bool×Int×Int×Int×Int×Int×Int×Int×Int×Int×Int×Int×Int×Int×Int×Bool×Bool×(List BM)×(List (BM×Int))×LI×LI×(List Bool)
abbrev qr:Type:=(Int×Int×Int×Bool×Int×Int×Int×Int×Int×Int×Int×Int×Int×Int×Int×Int×Int×Int×Bool×Bool×(List BM)×(List (BM×Int))×LI×LI×(List Bool)→OA)
def lj (Z:Nat) (a6:bf) (d:Int) (a5:Bool) (W X Y:Int) (a0:Bool) (a1 a2:Int) (a3 a4:Int) (H I:Int) (J e:Int) (K L:Int) (M N:Int) (O P:Int) (Q R:Bool) (S:(List BM)) (T:(List (BM×Int))) (U V:LI) (a:(List Bool)) (c:us→OA) (B:qr):OA:=match B with | b=>bif e==0 then bif decide ((↑a.length:Int) < d) then bif !a5 then bif (↑a.length:Int)==0 then (a6 (192) (0) (0) (i64.wrap (d - (↑a.length:Int))) W X Y a0 a1 a2 a3 a4 H I J e K L M N O P Q R S T U V (fun (c2,c3,c4,c5,c6,c7,c8,c9,d0,d1,a7,a8,a9,b0,b1,b2,b3,b4,b5,b6,b7,b8,b9,c0,c1)=>(eC Z (d,a5,c2,0,c3,c4,c5,c6,c7,c8,c9,d0,d1,a7,a8,a9,b0,b1,b2,b3,b4,b5,b6,b7,b8,b9,c0,c1,a) (fun (w,x,y,z,A,C,D,E,F,G,f,g,h,i,j,k,l,m,n,o,p,q,r,s,t,u,v)=>c (w,!x,y,z,A,C,D,E,F,G,f,g,h,i,j,k,l,m,n,o,p,q,r,s,t,u,v))))) else (a6 (192) (0) (1) (i64.wrap (d - (↑a.length:Int))) W X Y a0 a1 a2 a3 a4 H I J e K L M N O P Q R S T U V (fun (c2,c3,c4,c5,c6,c7,c8,c9,d0,d1,a7,a8,a9,b0,b1,b2,b3,b4,b5,b6,b7,b8,b9,c0,c1)=>(eC Z (d,a5,c2,0,c3,c4,c5,c6,c7,c8,c9,d0,d1,a7,a8,a9,b0,b1,b2,b3,b4,b5,b6,b7,b8,b9,c0,c1,a) (fun (w,x,y,z,A,C,D,E,F,G,f,g,h,i,j,k,l,m,n,o,p,q,r,s,t,u,v)=>c (w,!x,y,z,A,C,D,E,F,G,f,g,h,i,j,k,l,m,n,o,p,q,r,s,t,u,v))))) else (a6 (192) (0) (1) (i64.wrap (d - (↑a.length:Int))) W X Y a0 a1 a2 a3 a4 H I J e K L M N O P Q R S T U V (fun (e7,e8,e9,g0,g1,g2,g3,g4,g5,g6,d2,d3,d4,d5,d6,d7,d8,d9,e0,e1,e2,e3,e4,e5,e6)=>(eC Z (d,a5,e7,0,e8,e9,g0,g1,g2,g3,g4,g5,g6,d2,d3,d4,d5,d6,d7,d8,d9,e0,e1,e2,e3,e4,e5,e6,a) (fun (w,x,y,z,A,C,D,E,F,G,f,g,h,i,j,k,l,m,n,o,p,q,r,s,t,u,v)=>c (w,!x,y,z,A,C,D,E,F,G,f,g,h,i,j,k,l,m,n,o,p,q,r,s,t,u,v))))) else b (W,X,Y,a0,a1,a2,a3,a4,H,I,J,e,K,L,M,N,O,P,Q,R,S,T,U,V,a) else b (W,X,Y,a0,a1,a2,a3,a4,H,I,J,e,K,L,M,N,O,P,Q,R,S,T,U,V,a)
def dJ (Z:Nat) (v:Int×Bool×Int×Int×Int×Bool×Int×Int×Int×Int×Int×Int×Int×Int×Int×Int×Int×Int×Int×Int×Bool×Bool×(List BM)×(List (BM×Int))×LI×LI×(List Bool)) (c:(Int×Bool×Int×Int×Int×Bool×Int×Int×Int×Int×Int×Int×Int×Int×Int×Int×Int×Int×Int×Int×Bool×Bool×(List BM)×(List (BM×Int))×LI×LI×(List Bool))→OA) (B:(Int×Int×Int×Bool×Int×Int×Int×Int×Int×Int×Int×Int×Int×Int×Int×Int×Int×Int×Bool×Bool×(List BM)×(List (BM×Int))×LI×LI×(List Bool)→OA)):OA:=match v with | (s,t,u,w,x,y,z,A,C,D,a,b,d,e,f,g,h,i,j,k,l,m,n,o,p,q,r)=>lj Z (aA Z) s t u w x y z A C D a b d e f g h i j k l m n o p q r c B
def rs (Z:Nat) (v:us) (b:qr):OA:=iter (dJ Z) Z v b
def nQ (Z:Nat) (i:Nat):Option Ev.Blk:=Ev.look i [(100002,gN Z)]
def pR (v:us):Ev.St:=match v with | (s,t,u,w,x,y,z,A,B,C,a,b,d,e,f,g,h,i,j,k,l,m,n,o,p,q,r)=>⟨[(0,.c (.ptr 0 0)),(1,.c (i6 s)),(5,.c (.own 6)),(6,.c (.bool t))],[(0,.cells 86 [i6 u,i6 w,i6 x,.bool y,i6 z,i6 A,i6 B,i6 C,i6 a,i6 b,.ptr 1 0,.own 2,.own 3,i6 d,i6 e]),(1,.cells 147 (i6 f::.own 4::ctb (.int .u64 g::.int .u64 h::.own 5::i6 i::.int .u64 j::i6 k::.bool l::.bool m::[]))),(2,.vec 29 tq n false),(3,.vec 36 (.pair tq ti) o false),(4,.vec 3 ti p false),(5,.vec 5 (.int .u8) q false),(6,.vec 4 .bool r true)],7,6⟩
def vO (K:KT):qr:=(fun v=>match v with | (q,r,s,t,u,w,x,y,z,A,a,b,d,e,f,g,h,i,j,k,l,m,n,o,p)=>K .normal ⟨[(5,.c (.own 6))],[(0,.cells 86 [i6 q,i6 r,i6 s,.bool t,i6 u,i6 w,i6 x,i6 y,i6 z,i6 A,.ptr 1 0,.own 2,.own 3,i6 a,i6 b]),(1,.cells 147 (i6 d::.own 4::ctb (.int .u64 e::.int .u64 f::.own 5::i6 g::.int .u64 h::i6 i::.bool j::.bool k::[]))),(2,.vec 29 tq l false),(3,.vec 36 (.pair tq ti) m false),(4,.vec 3 ti n false),(5,.vec 5 (.int .u8) o false),(6,.vec 4 .bool p true)],7,6⟩)
theorem KW (Z:Nat) (a:bf) (R:Ev.St→OA) (K:KT) (s:Int) (t:Bool) (u w x:Int) (y:Bool) (z A:Int) (B C:Int) (b c:Int) (d e:Int) (f g:Int) (h i:Int) (j k:Int) (l m:Bool) (n:(List BM)) (o:(List (BM×Int))) (p q:LI) (r:(List Bool)):evalCode tab (oh a) (nQ Z) cL Z (bodyOf 0 Tryz.f39) (pR (s,t,u,w,x,y,z,A,B,C,b,c,d,e,f,g,h,i,j,k,l,m,n,o,p,q,r)) (lc cL 3 0 R K)=lj Z a s t u w x y z A B C b c d e f g h i j k l m n o p q r (fun v=>R (pR v)) (vO K):=by
 kernel_rfl
def oP (Z:Nat):Ev.Blk:=fun st K=>match canonO (cL 3) st with | some s=>(match s with | ⟨[(O,.c (.ptr P Q)),(R,.c (i6 S)),(T,.c (.own U)),(V,.c (.bool W))],[(X,.cells Y [i6 a0,i6 a1,i6 a2,.bool a3,i6 a4,i6 a5,i6 a6,i6 a7,i6 a,i6 b,.ptr a8 d,.own e,.own f,i6 g,i6 h]),(i,.cells j k),(l,.vec m tq n false),(o,.vec p (.pair tq ti) q false),(r,.vec t ti u false),(v,.vec w (.int .u8) x false),(y,.vec z .bool A true)],B,C⟩=>(match splitRun 2 ctn k with | some ([i6 D,.own E],[.int .u64 F,.int .u64 G,.own H,i6 I,.int .u64 J,i6 L,.bool M,.bool N])=>bif qb [O,P,Q,R,T,U,V,X,Y,a8,d,e,f,i,j,l,m,o,p,r,t,v,w,y,z,B,C,E,H] [0,0,0,1,5,6,6,0,86,1,0,2,3,1,147,2,29,3,36,4,3,5,5,6,4,7,6,4,5] then iter (dJ Z) Z (S,W,a0,a1,a2,a3,a4,a5,a6,a7,a,b,g,h,D,F,G,I,J,L,M,N,n,q,u,x,A) (vO K) else none | _=>none) | _=>none) | none=>none
theorem Qf (Z:Nat) (st:Ev.St) (K:KT) (r:Ans) (h:oP Z st K=some r):evalCode tab (tI Z) (nQ Z) cL Z (.block 0 (.loop (bodyOf 0 Tryz.f39))) st K=some r:=by
 unfold oP at h
 split at h
 ·rename_i s hs
  split at h
  ·skip
   split at h
   rotate_left 1
   ·cases h
   rename_i hsp
   have esp:=splitRun_eq hsp
   subst esp
   obtain ⟨hb,h⟩:=cond_some' h
   cases qb_eq hb
   exact blk_loop (S:=pR) (ks:=vO) (step:=dJ Z) (v:=(_,_,_,_,_,_,_,_,_,_,_,_,_,_,_,_,_,_,_,_,_,_,_,_,_,_,_)) kr kr (fun R K v=>by obtain ⟨u,w,x,y,z,A,B,C,D,E,a,b,c,d,e,f,g,i,j,k,l,m,n,o,p,q,t⟩:=v; exact KW Z (aA Z) R K u w x y z A B C D E a b c d e f g i j k l m n o p q t) hs h
  ·cases h
 ·cases h
def HA (Z:Nat) (i:Nat):Option Ev.Blk:=Ev.look i [(100002,gN Z),(100000,oP Z)]
def nL (Z:Nat) (Y:bf) (O P:Int) (Q R:Int) (S:Bool) (T U:Int) (V W:Int) (X z:Int) (A B:Int) (C D:Int) (E F:Int) (G H:Int) (I J:Bool) (K:(List BM)) (L:(List (BM×Int))) (M N:LI) (k0:(Int×Int×Int×Bool×Int×Int×Int×Int×Int×Int×Int×Int×Int×Int×Int×Int×Int×Int×Bool×Bool×(List BM)×(List (BM×Int))×LI×LI×(List Bool))→OA):OA:=(rs Z (O,false,P,Q,R,S,T,U,V,W,X,z,A,B,C,D,E,F,G,H,I,J,K,L,M,N,[]) (fun (p,q,r,s,t,u,v,w,x,y,a,b,c,d,e,f,g,h,i,j,k,l,m,n,o)=>k0 (p,q,r,s,t,u,v,w,x,y,a,b,c,d,e,f,g,h,i,j,k,l,m,n,o)))
abbrev eS:Type:=Int→Int→Int→Int→Bool→Int→Int→Int→Int→Int→Int→Int→Int→Int→Int→Int→Int→Int→Int→Bool→Bool→((List BM))→((List (BM×Int)))→LI→LI→((Int×Int×Int×Bool×Int×Int×Int×Int×Int×Int×Int×Int×Int×Int×Int×Int×Int×Int×Bool×Bool×(List BM)×(List (BM×Int))×LI×LI×(List Bool))→OA)→OA
def cz (Z:Nat):eS:=nL Z (aA Z)
theorem OW (Z:Nat) (a:bf) (t u:Int) (v w:Int) (x:Bool) (y z:Int) (A B:Int) (C b:Int) (d e:Int) (f g:Int) (h i:Int) (j l:Int) (m n:Bool) (o:(List BM)) (p:(List (BM×Int))) (q s:LI) (k:Ev.Cont):evalFn tab (oh a) (HA Z) cL Z Tryz.f39 [.c (.ptr 0 0),.c (i6 t)] [.cells 86 [i6 u,i6 v,i6 w,.bool x,i6 y,i6 z,i6 A,i6 B,i6 C,i6 b,.ptr 1 0,.own 2,.own 3,i6 d,i6 e],.cells 147 (i6 f::.own 4::ctb (.int .u64 g::.int .u64 h::.own 5::i6 i::.int .u64 j::i6 l::.bool m::.bool n::[])),.vec 29 tq o false,.vec 36 (.pair tq ti) p false,.vec 3 ti q false,.vec 5 (.int .u8) s false] k=nL Z a t u v w x y z A B C b d e f g h i j l m n o p q s (fun r=>match r with | (S,T,U,V,W,X,Y,a0,a1,a2,D,E,F,G,H,I,J,K,L,M,N,O,P,Q,R)=>k (.c (.own 6),[.cells 86 [i6 S,i6 T,i6 U,.bool V,i6 W,i6 X,i6 Y,i6 a0,i6 a1,i6 a2,.ptr 1 0,.own 2,.own 3,i6 D,i6 E],.cells 147 (i6 F::.own 4::ctb (.int .u64 G::.int .u64 H::.own 5::i6 I::.int .u64 J::i6 K::.bool L::.bool M::[])),.vec 29 tq N false,.vec 36 (.pair tq ti) O false,.vec 3 ti P false,.vec 5 (.int .u8) Q false,.vec 4 .bool R true])):=by
 kernel_rfl
theorem pM (Z:Nat):GOK prog (tI Z):=
 gc (vC Z) func37 kr rfl <|
 gok_nil
theorem H2 (Z:Nat):BlkOK prog Tryz.f39.ntmps (.block 2 (.loop (bodyOf 2 Tryz.f39))) (gN Z):=bo0 (pM Z) kr kr (Hy Z)
theorem JC (Z:Nat):BlkOK prog Tryz.f39.ntmps (.block 0 (.loop (bodyOf 0 Tryz.f39))) (oP Z):=
 blk_of (blk_of_code tab_ok (pM Z) mixed (J:=nQ Z) (kp:=cL) (fuel:=Z) kr (fun q hq=>by
  rw [(by kernel_rfl:obl (nQ Z) (.block 0 (.loop (bodyOf 0 Tryz.f39)))= [(.block 2 (.loop (bodyOf 2 Tryz.f39)),gN Z)])] at hq
  simp only [List.mem_cons,List.not_mem_nil,or_false] at hq
  subst hq
  ·exact H2 Z)) (Qf Z)
def pj (F:eS):Ev.Spec:=fun args objs k=>match args,objs with | [.c (.ptr N O),.c (i6 P)],[.cells Q [i6 R,i6 S,i6 T,.bool U,i6 V,i6 W,i6 X,i6 Y,i6 a0,i6 a,.ptr a1 a2,.own a3,.own a4,i6 b,i6 d],.cells a5 e,.vec a6 tq f false,.vec a7 (.pair tq ti) g false,.vec h ti i false,.vec j (.int .u8) l false]=>(match splitRun 2 ctn e with | some ([i6 m,.own n],[.int .u64 o,.int .u64 p,.own q,i6 s,.int .u64 t,i6 u,.bool v,.bool w])=>bif qb [N,O,Q,a1,a2,a3,a4,a5,a6,a7,h,j,n,q] [0,0,86,1,0,2,3,147,29,36,3,5,4,5] then F P R S T U V W X Y a0 a b d m o p s t u v w f g i l (fun r=>match r with | (a8,a9,b0,b1,b2,b3,b4,b5,b6,b7,x,y,z,A,B,C,D,E,G,H,I,J,K,L,M)=>k (.c (.own 6),[.cells 86 [i6 a8,i6 a9,i6 b0,.bool b1,i6 b2,i6 b3,i6 b4,i6 b5,i6 b6,i6 b7,.ptr 1 0,.own 2,.own 3,i6 x,i6 y],.cells 147 (i6 z::.own 4::ctb (.int .u64 A::.int .u64 B::.own 5::i6 C::.int .u64 D::i6 E::.bool G::.bool H::[])),.vec 29 tq I false,.vec 36 (.pair tq ti) J false,.vec 3 ti K false,.vec 5 (.int .u8) L false,.vec 4 .bool M true])) else none | _=>none) | _,_=>none
theorem Nw (Z:Nat):FnOK prog 39 (pj (cz Z)):=by
 intro args objs kk r h
 unfold pj at h
 split at h
 ·skip
  split at h
  rotate_left 1
  ·cases h
  rename_i hsp
  have esp:=splitRun_eq hsp
  subst esp
  obtain ⟨hb,h⟩:=cond_some' h
  cases qb_eq hb
  exact fo1 (pM Z) func39 rfl (JC Z) kr _ _ kk r ((OW Z (aA Z) _ _ _ _ _ _ _ _ _ _ _ _ _ _ _ _ _ _ _ _ _ _ _ _ _ kk).trans h)
 ·cases h
def jj (i:Nat):Option (List Nat):=Ev.look i [(10,[2,3,12,15,16,18,19]),(100000,[2,3,12,15,16,18]),(200008,[15]),(200016,[18]),(200017,[15,18]),(400000,[10,11,12,13])]
def vP (e:cX) (g:bN) (h:da) (i:ba) (j:cE) (k:eU) (a:bf) (b:fR) (c:eS) (d:ao) (f:Nat):Option Ev.Spec:=Ev.look f [(25,na e),(27,kQ g),(29,mG h),(30,kf i),(34,ly j),(36,uO k),(37,jC a),(38,ph b),(39,pj c),(40,fT d)]
def CF (Z:Nat):Nat→Option Ev.Spec:=vP (cw Z) (bt Z) (ct Z) (aF Z) (cu Z) (eh Z) (aA Z) (dQ Z) (cz Z) (ak Z)
abbrev xQ:Type:=(List BM)×Int×Int×Int×Int×Int×Int×Bool×Int×Int×Int×Int×Int×Int×Int×Int×Int×Int×Int×Int×Bool×Bool×Int×Int×Int×Bool×Int×Int×Int×Int×Int×Int×Int×Int×LI×LI×LI×(List BM)×(List (BM×Int))
abbrev tL:Type:=((List BM)×Int×Int×Int×Int×Int×Bool×Int×Int×Int×Int×Int×Int×Int×Int×Int×Int×Int×Int×Bool×Bool×Int×Int×Int×Bool×Int×Int×Int×Int×Int×Int×Int×Int×LI×LI×LI×(List BM)×(List (BM×Int))→OA)
def lP (Z:Nat) (e4:cX) (e5:bN) (e6:da) (e7:ba) (e8:cE) (e9:eU) (b6:bf) (b7:fR) (e2:eS) (e3:ao) (k:(List BM)) (a b5:Int) (l m:Int) (n o:Int) (p:Bool) (q r:Int) (d e:Int) (f g:Int) (u v:Int) (w x:Int) (y z:Int) (A C:Bool) (D E F:Int) (G:Bool) (H I:Int) (J K:Int) (L M:Int) (N h:Int) (i O P:LI) (Q:(List BM)) (j:(List (BM×Int))) (c:xQ→OA) (B:tL):OA:=match B with | b=>bif h==0 then bif decide ((↑j.length:Int) < a) then (b6 (0) b5 (i64.wrap (b5+1)) (40) D E F G H I J K L M N h u v w x y z A C Q j O P (fun (t,a6,a7,a8,a9,b0,b1,b2,b3,b4,R,S,s,T,U,V,W,X,Y,a0,a1,a2,a3,a4,a5)=>bif s==0 then (b7 t a6 a7 a8 a9 b0 b1 b2 b3 b4 R S s T U V W X Y a0 a1 a2 a3 a4 a5 (fun (d2,d3,d4,d5,d6,d7,d8,d9,e0,e1,b8,b9,c0,c1,c2,c3,c4,c5,c6,c7,c8,c9,d0,d1)=>c (k,a,t,l,m,n,o,p,q,r,d,e,f,g,c0,c1,c2,c3,c4,c5,c6,c7,d2,d3,d4,d5,d6,d7,d8,d9,e0,e1,b8,b9,i,d0,d1,c8,c9))) else c (k,a,t,l,m,n,o,p,q,r,d,e,f,g,T,U,V,W,X,Y,a0,a1,a6,a7,a8,a9,b0,b1,b2,b3,b4,R,S,s,i,a4,a5,a2,a3))) else b (k,a,l,m,n,o,p,q,r,d,e,f,g,u,v,w,x,y,z,A,C,D,E,F,G,H,I,J,K,L,M,N,h,i,O,P,Q,j) else b (k,a,l,m,n,o,p,q,r,d,e,f,g,u,v,w,x,y,z,A,C,D,E,F,G,H,I,J,K,L,M,N,h,i,O,P,Q,j)
def fm (Z:Nat) (v:(List BM)×Int×Int×Int×Int×Int×Int×Bool×Int×Int×Int×Int×Int×Int×Int×Int×Int×Int×Int×Int×Bool×Bool×Int×Int×Int×Bool×Int×Int×Int×Int×Int×Int×Int×Int×LI×LI×LI×(List BM)×(List (BM×Int))) (c:((List BM)×Int×Int×Int×Int×Int×Int×Bool×Int×Int×Int×Int×Int×Int×Int×Int×Int×Int×Int×Int×Bool×Bool×Int×Int×Int×Bool×Int×Int×Int×Int×Int×Int×Int×Int×LI×LI×LI×(List BM)×(List (BM×Int)))→OA) (B:((List BM)×Int×Int×Int×Int×Int×Bool×Int×Int×Int×Int×Int×Int×Int×Int×Int×Int×Int×Int×Bool×Bool×Int×Int×Int×Bool×Int×Int×Int×Int×Int×Int×Int×Int×LI×LI×LI×(List BM)×(List (BM×Int))→OA)):OA:=match v with | (G,H,I,J,K,L,M,N,O,P,a,b,d,e,f,g,h,i,j,k,l,m,n,o,p,q,r,s,t,u,w,x,y,z,A,C,D,E,F)=>lP Z (cw Z) (bt Z) (ct Z) (aF Z) (cu Z) (eh Z) (aA Z) (dQ Z) (cz Z) (ak Z) G H I J K L M N O P a b d e f g h i j k l m n o p q r s t u w x y z A C D E F c B
def uR (Z:Nat) (v:xQ) (b:tL):OA:=iter (fm Z) Z v b
def pS (v:xQ):Ev.St:=match v with | (F,G,H,I,J,K,L,M,N,O,a,b,d,e,f,g,h,i,j,k,l,m,n,o,p,q,r,s,t,u,w,x,y,z,A,B,C,D,E)=>⟨[(2,.c (.sl tq F)),(3,.c (i6 G)),(12,.c (.ptr 0 0)),(15,.c (.ptr 1 0)),(16,.c (.ptr 2 0)),(18,.c (.ptr 3 0)),(19,.c (i6 H))],[(0,.cells 40 [i6 I,.own 4]),(1,.cells 67 [i6 J,i6 K,i6 L,.bool M,i6 N,i6 O,i6 a,i6 b,i6 d,i6 e]),(2,.cells 147 (i6 f::.own 5::ctb (.int .u64 g::.int .u64 h::.own 6::i6 i::.int .u64 j::i6 k::.bool l::.bool m::[]))),(3,.cells 86 [i6 n,i6 o,i6 p,.bool q,i6 r,i6 s,i6 t,i6 u,i6 w,i6 x,.ptr 2 0,.own 7,.own 8,i6 y,i6 z]),(4,.vec 3 ti A true),(5,.vec 3 ti B true),(6,.vec 5 (.int .u8) C true),(7,.vec 29 tq D true),(8,.vec 36 (.pair tq ti) E true)],9,0⟩
def rL (K:KT):tL:=(fun v=>match v with | (E,F,G,H,I,J,L,M,N,O,a,b,d,e,f,g,h,i,j,k,l,m,n,o,p,q,r,s,t,u,w,x,y,z,A,B,C,D)=>K .normal ⟨[(2,.c (.sl tq E)),(3,.c (i6 F)),(12,.c (.ptr 0 0)),(15,.c (.ptr 1 0)),(16,.c (.ptr 2 0)),(18,.c (.ptr 3 0))],[(0,.cells 40 [i6 G,.own 4]),(1,.cells 67 [i6 H,i6 I,i6 J,.bool L,i6 M,i6 N,i6 O,i6 a,i6 b,i6 d]),(2,.cells 147 (i6 e::.own 5::ctb (.int .u64 f::.int .u64 g::.own 6::i6 h::.int .u64 i::i6 j::.bool k::.bool l::[]))),(3,.cells 86 [i6 m,i6 n,i6 o,.bool p,i6 q,i6 r,i6 s,i6 t,i6 u,i6 w,.ptr 2 0,.own 7,.own 8,i6 x,i6 y]),(4,.vec 3 ti z true),(5,.vec 3 ti A true),(6,.vec 5 (.int .u8) B true),(7,.vec 29 tq C true),(8,.vec 36 (.pair tq ti) D true)],9,0⟩)
theorem HB (Z:Nat) (e:cX) (f:bN) (g:da) (h:ba) (i:cE) (j:eU) (a:bf) (b:fR) (c:eS) (d:ao) (R:Ev.St→OA) (K:KT) (P:(List BM)) (Q S:Int) (T U:Int) (V W:Int) (X:Bool) (Y a0:Int) (k l:Int) (m n:Int) (o p:Int) (q r:Int) (s t:Int) (u w:Bool) (x y z:Int) (A:Bool) (B C:Int) (D E:Int) (F G:Int) (H I:Int) (J L M:LI) (N:(List BM)) (O:(List (BM×Int))):evalCode tab (vP e f g h i j a b c d) J0 jj Z (bodyOf 0 Tryz.f12) (pS (P,Q,S,T,U,V,W,X,Y,a0,k,l,m,n,o,p,q,r,s,t,u,w,x,y,z,A,B,C,D,E,F,G,H,I,J,L,M,N,O)) (lc jj 10 0 R K)=lP Z e f g h i j a b c d P Q S T U V W X Y a0 k l m n o p q r s t u w x y z A B C D E F G H I J L M N O (fun v=>R (pS v)) (rL K):=by
 kernel_rfl
def lK (Z:Nat):Ev.Blk:=fun st K=>match canonO (jj 10) st with | some s=>(match s with | ⟨[(b4,.c (.sl tq b5)),(b6,.c (i6 b7)),(b8,.c (.ptr b9 c0)),(c1,.c (.ptr c2 c3)),(c4,.c (.ptr c5 a)),(b,.c (.ptr d e)),(f,.c (i6 c6))],[(g,.cells h [i6 c7,.own i]),(j,.cells k [i6 c8,i6 c9,i6 d0,.bool d1,i6 d2,i6 d3,i6 l,i6 m,i6 n,i6 o]),(p,.cells q r),(t,.cells u [i6 v,i6 w,i6 x,.bool y,i6 z,i6 A,i6 B,i6 C,i6 D,i6 E,.ptr F G,.own H,.own I,i6 J,i6 L]),(M,.vec N ti O true),(P,.vec Q ti R true),(S,.vec T (.int .u8) U true),(V,.vec W tq X true),(Y,.vec a0 (.pair tq ti) a1 true)],a2,a3⟩=>(match splitRun 2 ctn r with | some ([i6 a4,.own a5],[.int .u64 a6,.int .u64 a7,.own a8,i6 a9,.int .u64 b0,i6 b1,.bool b2,.bool b3])=>bif qb [b4,b6,b8,b9,c0,c1,c2,c3,c4,c5,a,b,d,e,f,g,h,i,j,k,p,q,t,u,F,G,H,I,M,N,P,Q,S,T,V,W,Y,a0,a2,a3,a5,a8] [2,3,12,0,0,15,1,0,16,2,0,18,3,0,19,0,40,4,1,67,2,147,3,86,2,0,7,8,4,3,5,3,6,5,7,29,8,36,9,0,5,6] then iter (fm Z) Z (b5,b7,c6,c7,c8,c9,d0,d1,d2,d3,l,m,n,o,a4,a6,a7,a9,b0,b1,b2,b3,v,w,x,y,z,A,B,C,D,E,J,L,O,R,U,X,a1) (rL K) else none | _=>none) | _=>none) | none=>none
theorem LK (Z:Nat) (st:Ev.St) (K:KT) (r:Ans) (h:lK Z st K=some r):evalCode tab (CF Z) J0 jj Z (.block 0 (.loop (bodyOf 0 Tryz.f12))) st K=some r:=by
 unfold lK at h
 split at h
 ·rename_i s hs
  split at h
  ·skip
   split at h
   rotate_left 1
   ·cases h
   rename_i hsp
   have esp:=splitRun_eq hsp
   subst esp
   obtain ⟨hb,h⟩:=cond_some' h
   cases qb_eq hb
   exact blk_loop (S:=pS) (ks:=rL) (step:=fm Z) (v:=(_,_,_,_,_,_,_,_,_,_,_,_,_,_,_,_,_,_,_,_,_,_,_,_,_,_,_,_,_,_,_,_,_,_,_,_,_,_,_)) kr kr (fun R K v=>by obtain ⟨H,I,J,L,M,N,O,P,Q,T,a,b,c,d,e,f,g,i,j,k,l,m,n,o,p,q,t,u,w,x,y,z,A,B,C,D,E,F,G⟩:=v; exact HB Z (cw Z) (bt Z) (ct Z) (aF Z) (cu Z) (eh Z) (aA Z) (dQ Z) (cz Z) (ak Z) R K H I J L M N O P Q T a b c d e f g i j k l m n o p q t u w x y z A B C D E F G) hs h
  ·cases h
 ·cases h
def JU (Z:Nat) (i:Nat):Option Ev.Blk:=Ev.look i [(100000,lK Z)]
def yD (Z:Nat) (k7:cX) (c1:bN) (c2:da) (d:ba) (c3:cE) (c4:eU) (k8:bf) (k9:fR) (b7:eS) (b8:ao) (a9 b0 b1:Int) (b2:Bool) (b3 b4 b5:Int) (b6:LI) (a:(List (Int×Int×LI))) (b:Int) (c5:LI) (k0:(Int×Int×(List (BM×Int))×(List Bool)×LI)→OA):OA:=(k7 a9 b0 b1 b2 b3 b4 b5 b6 a (fun c=>bif c==0 then bif decide (b < 0) then k0 (0,2,[],[],[]) else bif decide (b > i64.wrap (60 - (↑a.length:Int))) then k0 (0,2,[],[],[]) else bif c != 0 then k0 (0,c,[],[],[]) else (c1 a9 b0 b1 b2 b3 b4 (i64.wrap ((↑a.length:Int)+b)) (fun (e,f,g,h,i,j,k,l,m,n)=>(c2 e f g h i j k l m n b5 b6 (fun (g6,g7)=>(c4 g6 g7 c5 (fun p6=>(d a (fun c6=>none))) (fun (l6,g8,g9,h0,h1,h2,h3,h4,h5,h6,c8)=>(d a (fun c6=>(uR Z (a,b,0,0,e,f,g,h,i,j,k,l,m,n,g8,g9,h0,h1,h2,h3,h4,h5,e,f,g,h,i,j,k,l,m,n,b,0,[],h6,c8,c6,[]) (fun (P,Q,k6,R,S,T,U,V,W,X,o,p,q,r,s,t,u,v,w,x,y,z,A,B,C,D,E,F,G,H,I,J,K,h7,L,M,N,O)=>(b7 (i64.wrap ((↑P.length:Int)+Q)) z A B C D E F G H I J K r s t u v w x y N O L M (fun (l7,l8,l9,m0,m1,m2,m3,m4,m5,m6,l0,b9,c9,d0,d1,d2,d3,d4,d5,d6,l1,d7,d8,d9,e0)=>bif b9 != 0 then k0 (0,b9,[],[],[]) else (b8 c9 d0 d1 d2 d3 d4 d5 d6 d8 d9 (fun (h8,m7,m8,m9,n0,n1,n2,n3,n4,n5,l2,e1)=>(c3 R S T U V W X o p q h8 e1 (fun (h9,j0)=>k0 (h9,0,d7,e0,j0))))))))))))))))) else bif c != 0 then k0 (0,c,[],[],[]) else (c1 a9 b0 b1 b2 b3 b4 (i64.wrap ((↑a.length:Int)+b)) (fun (Y,a0,a1,a2,a3,a4,a5,a6,a7,a8)=>(c2 Y a0 a1 a2 a3 a4 a5 a6 a7 a8 b5 b6 (fun (j1,j2)=>(c4 j1 j2 c5 (fun p7=>(d a (fun c7=>none))) (fun (n6,j3,j4,j5,j6,j7,j8,j9,k1,k2,e2)=>(d a (fun c7=>(uR Z (a,b,0,0,Y,a0,a1,a2,a3,a4,a5,a6,a7,a8,j3,j4,j5,j6,j7,j8,j9,k1,Y,a0,a1,a2,a3,a4,a5,a6,a7,a8,b,0,[],k2,e2,c7,[]) (fun (P,Q,k6,R,S,T,U,V,W,X,o,p,q,r,s,t,u,v,w,x,y,z,A,B,C,D,E,F,G,H,I,J,K,h7,L,M,N,O)=>(b7 (i64.wrap ((↑P.length:Int)+Q)) z A B C D E F G H I J K r s t u v w x y N O L M (fun (n7,n8,n9,o0,o1,o2,o3,o4,o5,o6,l3,c0,e3,e4,e5,e6,e7,e8,e9,g0,l4,g1,g2,g3,g4)=>bif c0 != 0 then k0 (0,c0,[],[],[]) else (b8 e3 e4 e5 e6 e7 e8 e9 g0 g2 g3 (fun (k3,o7,o8,o9,p0,p1,p2,p3,p4,p5,l5,g5)=>(c3 R S T U V W X o p q k3 g5 (fun (k4,k5)=>k0 (k4,0,g1,g4,k5)))))))))))))))))))
abbrev bq:Type:=Int→Int→Int→Bool→Int→Int→Int→LI→((List (Int×Int×LI)))→Int→LI→((Int×Int×(List (BM×Int))×(List Bool)×LI)→OA)→OA
def aQ (Z:Nat):bq:=yD Z (cw Z) (bt Z) (ct Z) (aF Z) (cu Z) (eh Z) (aA Z) (dQ Z) (cz Z) (ak Z)
theorem Fm (Z:Nat) (f:cX) (g:bN) (h:da) (i:ba) (j:cE) (l:eU) (a:bf) (b:fR) (d:eS) (e:ao) (n o p:Int) (q:Bool) (s t u:Int) (v:LI) (w:(List (Int×Int×LI))) (x:Int) (m:LI) (k:Ev.Cont):evalFn tab (vP f g h i j l a b d e) (JU Z) jj Z Tryz.f12 [.agg [i6 n,i6 o,i6 p,.bool q,i6 s,i6 t],.agg [i6 u,.sl ti v],.c (.sl tq w),.c (i6 x),.c (.sl (.int .u8) m)] [] k=yD Z f g h i j l a b d e n o p q s t u v w x m (fun r=>match r with | (y,z,A,B,C)=>k (.tup [(false,[.own 0]),(false,[.own 1]),(true,[i6 y,.own 2]),(false,[i6 z])],[.vec 36 (.pair tq ti) A true,.vec 4 .bool B true,.vec 3 ti C true])):=by
 kernel_rfl
theorem AM (Z:Nat):GOK prog (CF Z):=
 gc (Dm Z) func25 kr rfl <|
 gc (qL Z) func27 kr rfl <|
 gc (zp Z) func29 kr rfl <|
 gc (pA Z) func30 kr rfl <|
 gc (CP Z) func34 kr rfl <|
 gc (EG Z) func36 kr rfl <|
 gc (vC Z) func37 kr rfl <|
 gc (MJ Z) func38 kr rfl <|
 gc (Nw Z) func39 kr rfl <|
 gc (iz Z) func40 kr rfl <|
 gok_nil
theorem Pi (Z:Nat):BlkOK prog Tryz.f12.ntmps (.block 0 (.loop (bodyOf 0 Tryz.f12))) (lK Z):=bo0 (AM Z) kr kr (LK Z)
def vL (F:bq):Ev.Spec:=fun args objs k=>match args,objs with | [.agg [i6 b,i6 d,i6 e,.bool f,i6 g,i6 h],.agg [i6 i,.sl ti j],.c (.sl tq l),.c (i6 m),.c (.sl (.int .u8) a)],[]=>F b d e f g h i j l m a (fun r=>match r with | (n,o,p,q,s)=>k (.tup [(false,[.own 0]),(false,[.own 1]),(true,[i6 n,.own 2]),(false,[i6 o])],[.vec 36 (.pair tq ti) p true,.vec 4 .bool q true,.vec 3 ti s true])) | _,_=>none
theorem IF (Z:Nat):FnOK prog 12 (vL (aQ Z)):=by
 intro args objs kk r h
 unfold vL at h
 split at h
 ·skip
  exact fo1 (AM Z) func12 rfl (Pi Z) kr _ _ kk r ((Fm Z (cw Z) (bt Z) (ct Z) (aF Z) (cu Z) (eh Z) (aA Z) (dQ Z) (cz Z) (ak Z) _ _ _ _ _ _ _ _ _ _ _ kk).trans h)
 ·cases h
end
end Go.Proofs.YtohnjbmiaegofaaGreat

