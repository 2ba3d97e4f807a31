/- What the functions that SymbolGoes reaches do: their typed texts, each with the proof that the machine does it. No condition. -/
import Derived.Test.YtohnjbmiaegofaaGreatEvX
import Derived.Test.YtohnjbmiaegofaaGreatFsSymbolGoes4
import Derived.Test.YtohnjbmiaegofaaGreatFsSymbolGoes6
import Derived.Test.YtohnjbmiaegofaaGreatFsSymbolGoes3
import Derived.Test.YtohnjbmiaegofaaGreatFsSymbolGoes1
import Derived.Test.YtohnjbmiaegofaaGreatFsSymbolGoes2
import Derived.Test.YtohnjbmiaegofaaGreatFsSymbolGoes5
set_option linter.unusedVariables false
set_option linter.unusedSimpArgs false
set_option linter.unusedSectionVars false
set_option linter.unusedVariables false
set_option linter.unusedSimpArgs false
set_option maxRecDepth 100000
set_option maxHeartbeats 2000000
namespace Go.Proofs.YtohnjbmiaegofaaGreat
open Go Ev Tryz
open Go.IntKind (i64 u64 u8 i32 u32 u16)
noncomputable section
def jo (i:Nat):Option (List Nat):=Ev.look i [(2,[0,1,12,13]),(100000,[]),(400000,[4])]
def qT (a:bP) (b:ag) (f:Nat):Option Ev.Spec:=Ev.look f [(177,nF a),(179,eB b)]
def DW (Z:Nat):Nat→Option Ev.Spec:=qT (bH Z) (ac Z)
abbrev yV:Type:=Int×Int×Int×Int×Int×Int×Bool×Int×Int×Int×LI×Int×Int×LI
abbrev zG:Type:=(Bool×Int×Int×Int×Bool×Int×Int×Int×LI×Int×Int×LI→OA)×(Int×Int×Int×Bool×Int×Int×Int×LI×Int×Int×LI→OA)
def Az (Z:Nat) (C:bP) (D:ag) (g p:Int) (a u:Int) (v w:Int) (x:Bool) (y z A:Int) (q:LI) (r s:Int) (t:LI) (c:yV→OA) (B:zG):OA:=match B with | (ret,b)=>bif decide (a < p) then (C a g u v w x y z A q r s t (fun (E,F,k,l,m,n,o,d,e,f,h,i,j)=>bif F then (D d e f a g (fun G=>bif E != G then ret (false,k,l,m,n,o,d,e,f,h,i,j) else c (g,p,i64.wrap (a+1),k,l,m,n,o,d,e,f,h,i,j))) else c (g,p,i64.wrap (a+1),k,l,m,n,o,d,e,f,h,i,j))) else b (u,v,w,x,y,z,A,q,r,s,t)
def xI (Z:Nat) (v:Int×Int×Int×Int×Int×Int×Bool×Int×Int×Int×LI×Int×Int×LI) (c:(Int×Int×Int×Int×Int×Int×Bool×Int×Int×Int×LI×Int×Int×LI)→OA) (B:(Bool×Int×Int×Int×Bool×Int×Int×Int×LI×Int×Int×LI→OA)×(Int×Int×Int×Bool×Int×Int×Int×LI×Int×Int×LI→OA)):OA:=match v with | (f,g,h,i,j,k,l,m,n,o,a,b,d,e)=>Az Z (bH Z) (ac Z) f g h i j k l m n o a b d e c B
def Fz (Z:Nat) (v:yV) (ret:(Bool×Int×Int×Int×Bool×Int×Int×Int×LI×Int×Int×LI→OA)) (b:(Int×Int×Int×Bool×Int×Int×Int×LI×Int×Int×LI→OA)):OA:=iter (xI Z) Z v (ret,b)
def xp (v:yV):Ev.St:=match v with | (f,g,h,i,j,k,l,m,n,o,a,b,d,e)=>⟨[(0,.c (.ptr 0 0)),(1,.c (i6 f)),(12,.c (i6 g)),(13,.c (i6 h))],[(0,.cells 230 [i6 i,i6 j,i6 k,.bool l,i6 m,i6 n,i6 o,.sl (.int .u8) a,i6 b,i6 d,.sl (.int .u8) e])],1,1⟩
def tu (K:KT):zG:=((fun v=>match v with | (b,d,e,f,g,h,i,j,k,l,a,m)=>K .ret ⟨[(4,.c (.bool b))],[(0,.cells 230 [i6 d,i6 e,i6 f,.bool g,i6 h,i6 i,i6 j,.sl (.int .u8) k,i6 l,i6 a,.sl (.int .u8) m])],1,1⟩),(fun v=>match v with | (b,d,e,f,g,h,i,j,k,l,a)=>K .normal ⟨[],[(0,.cells 230 [i6 b,i6 d,i6 e,.bool f,i6 g,i6 h,i6 i,.sl (.int .u8) j,i6 k,i6 l,.sl (.int .u8) a])],1,1⟩))
theorem H3 (Z:Nat) (a:bP) (b:ag) (R:Ev.St→OA) (K:KT) (g h:Int) (i j:Int) (k l:Int) (m:Bool) (n o p:Int) (c:LI) (d e:Int) (f:LI):evalCode tab (qT a b) J0 jo Z (bodyOf 0 Tryz.f176) (xp (g,h,i,j,k,l,m,n,o,p,c,d,e,f)) (lc jo 2 0 R K)=Az Z a b g h i j k l m n o p c d e f (fun v=>R (xp v)) (tu K):=by
 kernel_rfl
def ls (Z:Nat):Ev.Blk:=fun st K=>match canonO (jo 2) st with | some s=>(match s with | ⟨[(f,.c (.ptr g h)),(i,.c (i6 j)),(k,.c (i6 l)),(m,.c (i6 n))],[(o,.cells p [i6 q,i6 r,i6 t,.bool u,i6 v,i6 w,i6 x,.sl (.int .u8) a,i6 b,i6 d,.sl (.int .u8) e])],y,z⟩=>bif qb [f,g,h,i,k,m,o,p,y,z] [0,0,0,1,12,13,0,230,1,1] then iter (xI Z) Z (j,l,n,q,r,t,u,v,w,x,a,b,d,e) (tu K) else none | _=>none) | none=>none
theorem MR (Z:Nat) (st:Ev.St) (K:KT) (r:Ans) (h:ls Z st K=some r):evalCode tab (DW Z) J0 jo Z (.block 0 (.loop (bodyOf 0 Tryz.f176))) st K=some r:=by
 unfold ls at h
 split at h
 ·rename_i s hs
  split at h
  ·skip
   obtain ⟨hb,h⟩:=cond_some' h
   cases qb_eq hb
   exact blk_loop (S:=xp) (ks:=tu) (step:=xI Z) (v:=(_,_,_,_,_,_,_,_,_,_,_,_,_,_)) kr kr (fun R K v=>by obtain ⟨e,f,g,i,j,k,l,m,n,o,a,b,c,d⟩:=v; exact H3 Z (bH Z) (ac Z) R K e f g i j k l m n o a b c d) hs h
  ·cases h
 ·cases h
def Kb (Z:Nat) (i:Nat):Option Ev.Blk:=Ev.look i [(100000,ls Z)]
def Bd (Z:Nat) (x:bP) (y:ag) (o p:Int) (q r:Int) (s:Bool) (t a u:Int) (v:LI) (w m:Int) (n:LI) (k0:(Bool×Int×Int×Int×Bool×Int×Int×Int×LI×Int×Int×LI)→OA):OA:=(Fz Z (o,a,0,p,q,r,s,t,a,u,v,w,m,n) (fun (ret0_0,ret0_1,ret0_2,ret0_3,ret0_4,ret0_5,ret0_6,ret0_7,ret0_8,ret0_9,ret0_10,ret0_11)=>k0 (ret0_0,ret0_1,ret0_2,ret0_3,ret0_4,ret0_5,ret0_6,ret0_7,ret0_8,ret0_9,ret0_10,ret0_11)) (fun (c,d,e,f,g,h,i,j,k,l,b)=>k0 (true,c,d,e,f,g,h,i,j,k,l,b)))
abbrev dY:Type:=Int→Int→Int→Int→Bool→Int→Int→Int→LI→Int→Int→LI→((Bool×Int×Int×Int×Bool×Int×Int×Int×LI×Int×Int×LI)→OA)→OA
def eV (Z:Nat):dY:=Bd Z (bH Z) (ac Z)
theorem P6 (Z:Nat) (a:bP) (b:ag) (f g:Int) (h i:Int) (j:Bool) (l m n:Int) (o:LI) (p d:Int) (e:LI) (k:Ev.Cont):evalFn tab (qT a b) (Kb Z) jo Z Tryz.f176 [.c (.ptr 0 0),.c (i6 f)] [.cells 230 [i6 g,i6 h,i6 i,.bool j,i6 l,i6 m,i6 n,.sl (.int .u8) o,i6 p,i6 d,.sl (.int .u8) e]] k=Bd Z a b f g h i j l m n o p d e (fun r=>match r with | (t,u,v,w,x,y,z,A,B,C,q,s)=>k (.c (.bool t),[.cells 230 [i6 u,i6 v,i6 w,.bool x,i6 y,i6 z,i6 A,.sl (.int .u8) B,i6 C,i6 q,.sl (.int .u8) s]])):=by
 kernel_rfl
theorem zM (Z:Nat):GOK prog (DW Z):=
 gc (zw Z) func177 kr rfl <|
 gc (ib Z) func179 kr rfl <|
 gok_nil
theorem Po (Z:Nat):BlkOK prog Tryz.f176.ntmps (.block 0 (.loop (bodyOf 0 Tryz.f176))) (ls Z):=bo0 (zM Z) kr kr (MR Z)
def re (F:dY):Ev.Spec:=fun args objs k=>match args,objs with | [.c (.ptr f g),.c (i6 h)],[.cells i [i6 j,i6 l,i6 m,.bool n,i6 o,i6 p,i6 q,.sl (.int .u8) s,i6 t,i6 a,.sl (.int .u8) b]]=>bif qb [f,g,i] [0,0,230] then F h j l m n o p q s t a b (fun r=>match r with | (u,v,w,x,y,z,A,B,C,D,d,e)=>k (.c (.bool u),[.cells 230 [i6 v,i6 w,i6 x,.bool y,i6 z,i6 A,i6 B,.sl (.int .u8) C,i6 D,i6 d,.sl (.int .u8) e]])) else none | _,_=>none
theorem Ol (Z:Nat):FnOK prog 176 (re (eV Z)):=by
 intro args objs kk r h
 unfold re at h
 split at h
 ·skip
  obtain ⟨hb,h⟩:=cond_some' h
  cases qb_eq hb
  exact fo1 (zM Z) func176 rfl (Po Z) kr _ _ kk r ((P6 Z (bH Z) (ac Z) _ _ _ _ _ _ _ _ _ _ _ _ kk).trans h)
 ·cases h
def cp (i:Nat):Option (List Nat):=Ev.look i [(11,[0,1,7,8,11,52,53,1000002]),(20,[0,1,7,8,11,12,13,52,53,75,76,1000002]),(100001,[]),(100003,[0,1,7,8,11,52,53]),(200007,[7]),(400001,[10]),(400003,[10]),(600000,[])]
def lH (e:aC) (l:aq) (g:aE) (a:ai) (h:ce) (i:bO) (j:fZ) (b:dY) (c:bP) (d:ek) (k:ag) (f:Nat):Option Ev.Spec:=Ev.look f [(35,fp e),(90,fC l),(130,go g),(132,dI a),(173,mK h),(174,mw i),(1000175,xR j),(176,re b),(177,nF c),(178,sS d),(179,eB k)]
def oA (Z:Nat):Nat→Option Ev.Spec:=lH (am Z) (aj Z) (az Z) (ab Z) (aY Z) (be Z) (cm Z) (eV Z) (bH Z) (dw Z) (ac Z)
abbrev rQ:Type:=Int×Int×Bool×Int×Int×Int×Int×Int×Int×Int×Bool×LI×LI×Int×Int×Int×Bool×Int×Int×Int×LI×Int×Int×Int×Bool×Int×Int×Int×LI×Int×Int×LI
abbrev yf:Type:=(Int×Int×Int×Int×Int×Int×Bool×LI×LI×Int×Int×Int×Bool×Int×Int×Int×LI×Int×Int×Int×Bool×Int×Int×Int×LI×Int×Int×LI→OA)
def mh (Z:Nat) (e1:aC) (e7:aq) (e2:aE) (b8:ai) (e3:ce) (e4:bO) (e5:fZ) (e0:dY) (d8:bP) (b9:ek) (c0:ag) (e d:Int) (n:Bool) (o p:Int) (q a:Int) (Q R S:Int) (N:Bool) (O P:LI) (f g h:Int) (i:Bool) (j k l:Int) (m:LI) (c7 c8 c9:Int) (d0:Bool) (d1 d2 d3:Int) (d4:LI) (d5 d6:Int) (d7:LI) (c:rQ→OA) (B:yf):OA:=match B with | b=>bif decide (a < q) then (d8 a d c7 c8 c9 d0 d1 d2 d3 d4 d5 d6 d7 (fun (e6,d9,b3,b4,b5,b6,b7,E,F,G,X,Y,a0)=>bif !n then both ((b9 a d b3 b4 b5 b6 b7 E F G X Y a0 (fun (c1,a1,a2,a3,a4,a5,H,I,J,a6,T,U)=>(c0 H I J a d (fun c5=>(b8 (i64.wrap (e+c1)) (i64.wrap c5) Q R S N O P (fun (c2,r,s,t,u,v,w)=>c (e,d,n,o,p,q,i64.wrap (a+1),r,s,t,u,v,w,f,g,h,i,j,k,l,m,a1,a2,a3,a4,a5,H,I,J,a6,T,U)) (fun (c2,r,s,t,u,v,w)=>c (e,d,n,o,p,q,i64.wrap (a+1),r,s,t,u,v,w,f,g,h,i,j,k,l,m,a1,a2,a3,a4,a5,H,I,J,a6,T,U)))))))) ((b9 a d b3 b4 b5 b6 b7 E F G X Y a0 (fun (c1,a1,a2,a3,a4,a5,H,I,J,a6,T,U)=>(c0 E F G a d (fun c5=>(b8 (i64.wrap (e+c1)) (i64.wrap c5) Q R S N O P (fun (c2,r,s,t,u,v,w)=>c (e,d,n,o,p,q,i64.wrap (a+1),r,s,t,u,v,w,f,g,h,i,j,k,l,m,a1,a2,a3,a4,a5,H,I,J,a6,T,U)) (fun (c2,r,s,t,u,v,w)=>c (e,d,n,o,p,q,i64.wrap (a+1),r,s,t,u,v,w,f,g,h,i,j,k,l,m,a1,a2,a3,a4,a5,H,I,J,a6,T,U)))))))) else bif !d9 then both ((b9 a d b3 b4 b5 b6 b7 E F G X Y a0 (fun (c3,a7,a8,a9,b0,b1,K,L,M,b2,V,W)=>(c0 K L M a d (fun c6=>(b8 (i64.wrap (e+c3)) (i64.wrap c6) Q R S N O P (fun (c4,x,y,z,A,C,D)=>c (e,d,n,o,p,q,i64.wrap (a+1),x,y,z,A,C,D,f,g,h,i,j,k,l,m,a7,a8,a9,b0,b1,K,L,M,b2,V,W)) (fun (c4,x,y,z,A,C,D)=>c (e,d,n,o,p,q,i64.wrap (a+1),x,y,z,A,C,D,f,g,h,i,j,k,l,m,a7,a8,a9,b0,b1,K,L,M,b2,V,W)))))))) ((b9 a d b3 b4 b5 b6 b7 E F G X Y a0 (fun (c3,a7,a8,a9,b0,b1,K,L,M,b2,V,W)=>(c0 E F G a d (fun c6=>(b8 (i64.wrap (e+c3)) (i64.wrap c6) Q R S N O P (fun (c4,x,y,z,A,C,D)=>c (e,d,n,o,p,q,i64.wrap (a+1),x,y,z,A,C,D,f,g,h,i,j,k,l,m,a7,a8,a9,b0,b1,K,L,M,b2,V,W)) (fun (c4,x,y,z,A,C,D)=>c (e,d,n,o,p,q,i64.wrap (a+1),x,y,z,A,C,D,f,g,h,i,j,k,l,m,a7,a8,a9,b0,b1,K,L,M,b2,V,W)))))))) else c (e,d,n,o,p,q,i64.wrap (a+1),Q,R,S,N,O,P,f,g,h,i,j,k,l,m,b3,b4,b5,b6,b7,E,F,G,X,Y,a0))) else b (e,o,p,Q,R,S,N,O,P,f,g,h,i,j,k,l,m,c7,c8,c9,d0,d1,d2,d3,d4,d5,d6,d7)
def ie (Z:Nat) (v:Int×Int×Bool×Int×Int×Int×Int×Int×Int×Int×Bool×LI×LI×Int×Int×Int×Bool×Int×Int×Int×LI×Int×Int×Int×Bool×Int×Int×Int×LI×Int×Int×LI) (c:(Int×Int×Bool×Int×Int×Int×Int×Int×Int×Int×Bool×LI×LI×Int×Int×Int×Bool×Int×Int×Int×LI×Int×Int×Int×Bool×Int×Int×Int×LI×Int×Int×LI)→OA) (B:(Int×Int×Int×Int×Int×Int×Bool×LI×LI×Int×Int×Int×Bool×Int×Int×Int×LI×Int×Int×Int×Bool×Int×Int×Int×LI×Int×Int×LI→OA)):OA:=match v with | (y,z,A,C,D,E,F,G,H,I,a,b,d,e,f,g,h,i,j,k,l,m,n,o,p,q,r,s,t,u,w,x)=>mh Z (am Z) (aj Z) (az Z) (ab Z) (aY Z) (be Z) (cm Z) (eV Z) (bH Z) (dw Z) (ac Z) y z A C D E F G H I a b d e f g h i j k l m n o p q r s t u w x c B
def de (Z:Nat) (v:rQ) (b:yf):OA:=iter (ie Z) Z v b
def vV (v:rQ):Ev.St:=match v with | (y,z,A,B,C,D,E,F,G,H,a,b,d,e,f,g,h,i,j,k,l,m,n,o,p,q,r,s,t,u,w,x)=>⟨[(0,.c (.ptr 0 0)),(1,.c (i6 y)),(7,.c (.ptr 3 0)),(8,.c (.ptr 4 0)),(11,.c (.ptr 5 0)),(12,.c (i6 z)),(13,.c (.bool A)),(52,.c (i6 B)),(53,.c (i6 C)),(75,.c (i6 D)),(76,.c (i6 E))],[(0,.cells 138 (i6 F::.own 1::ctb (.int .u64 G::.int .u64 H::.own 2::.bool a::[]))),(1,.vec 3 ti b false),(2,.vec 5 (.int .u8) d true),(3,.cells 113 [i6 e,i6 f,i6 g,.bool h,i6 i]),(4,.cells 29 [i6 j,i6 k,.sl (.int .u8) l]),(5,.cells 230 [i6 m,i6 n,i6 o,.bool p,i6 q,i6 r,i6 s,.sl (.int .u8) t,i6 u,i6 w,.sl (.int .u8) x])],6,3⟩
def pd (K:KT):yf:=(fun v=>match v with | (t,u,w,x,y,z,A,B,C,D,a,b,d,e,f,g,h,i,j,k,l,m,n,o,p,q,r,s)=>K .normal ⟨[(0,.c (.ptr 0 0)),(1,.c (i6 t)),(7,.c (.ptr 3 0)),(8,.c (.ptr 4 0)),(11,.c (.ptr 5 0)),(52,.c (i6 u)),(53,.c (i6 w))],[(0,.cells 138 (i6 x::.own 1::ctb (.int .u64 y::.int .u64 z::.own 2::.bool A::[]))),(1,.vec 3 ti B false),(2,.vec 5 (.int .u8) C true),(3,.cells 113 [i6 D,i6 a,i6 b,.bool d,i6 e]),(4,.cells 29 [i6 f,i6 g,.sl (.int .u8) h]),(5,.cells 230 [i6 i,i6 j,i6 k,.bool l,i6 m,i6 n,i6 o,.sl (.int .u8) p,i6 q,i6 r,.sl (.int .u8) s])],6,3⟩)
theorem FL (Z:Nat) (e:aC) (k:aq) (f:aE) (a:ai) (g:ce) (h:bO) (i:fZ) (b:dY) (c:bP) (d:ek) (j:ag) (R:Ev.St→OA) (K:KT) (I J:Int) (L:Bool) (M N:Int) (O P:Int) (Q S T:Int) (l:Bool) (m n:LI) (o p q:Int) (r:Bool) (s t u:Int) (w:LI) (x y z:Int) (A:Bool) (B C D:Int) (E:LI) (F G:Int) (H:LI):evalCode tab (lH e k f a g h i b c d j) J0 cp Z (bodyOf 3 Tryz.f135) (vV (I,J,L,M,N,O,P,Q,S,T,l,m,n,o,p,q,r,s,t,u,w,x,y,z,A,B,C,D,E,F,G,H)) (lc cp 20 3 R K)=mh Z e k f a g h i b c d j I J L M N O P Q S T l m n o p q r s t u w x y z A B C D E F G H (fun v=>R (vV v)) (pd K):=by
 kernel_rfl
def gP (Z:Nat):Ev.Blk:=fun st K=>match canonO (cp 20) st with | some s=>(match s with | ⟨[(a0,.c (.ptr a1 a2)),(a3,.c (i6 a4)),(a5,.c (.ptr a6 a7)),(a8,.c (.ptr a9 b0)),(a,.c (.ptr b d)),(e,.c (i6 b1)),(f,.c (.bool b2)),(g,.c (i6 b3)),(h,.c (i6 b4)),(i,.c (i6 b5)),(j,.c (i6 b6))],[(k,.cells l m),(n,.vec o ti p false),(q,.vec r (.int .u8) t true),(u,.cells v [i6 w,i6 x,i6 y,.bool z,i6 A]),(B,.cells C [i6 D,i6 E,.sl (.int .u8) F]),(G,.cells H [i6 I,i6 J,i6 L,.bool M,i6 N,i6 O,i6 P,.sl (.int .u8) Q,i6 R,i6 S,.sl (.int .u8) T])],U,V⟩=>(match splitRun 2 ctn m with | some ([i6 b7,.own W],[.int .u64 b8,.int .u64 b9,.own X,.bool Y])=>bif qb [a0,a1,a2,a3,a5,a6,a7,a8,a9,b0,a,b,d,e,f,g,h,i,j,k,l,n,o,q,r,u,v,B,C,G,H,U,V,W,X] [0,0,0,1,7,3,0,8,4,0,11,5,0,12,13,52,53,75,76,0,138,1,3,2,5,3,113,4,29,5,230,6,3,1,2] then iter (ie Z) Z (a4,b1,b2,b3,b4,b5,b6,b7,b8,b9,Y,p,t,w,x,y,z,A,D,E,F,I,J,L,M,N,O,P,Q,R,S,T) (pd K) else none | _=>none) | _=>none) | none=>none
theorem O4 (Z:Nat) (st:Ev.St) (K:KT) (r:Ans) (h:gP Z st K=some r):evalCode tab (oA Z) J0 cp Z (.block 3 (.loop (bodyOf 3 Tryz.f135))) st K=some r:=by
 unfold gP at h
 split at h
 ·rename_i s hs
  split at h
  ·skip
   split at h
   rotate_left 1
   ·cases h
   rename_i hsp
   have esp:=splitRun_eq hsp
   subst esp
   obtain ⟨hb,h⟩:=cond_some' h
   cases qb_eq hb
   exact blk_loop (S:=vV) (ks:=pd) (step:=ie Z) (v:=(_,_,_,_,_,_,_,_,_,_,_,_,_,_,_,_,_,_,_,_,_,_,_,_,_,_,_,_,_,_,_,_)) kr kr (fun R K v=>by obtain ⟨A,B,C,D,E,F,G,H,I,J,a,b,c,d,e,f,g,i,j,k,l,m,n,o,p,q,t,u,w,x,y,z⟩:=v; exact FL Z (am Z) (aj Z) (az Z) (ab Z) (aY Z) (be Z) (cm Z) (eV Z) (bH Z) (dw Z) (ac Z) R K A B C D E F G H I J a b c d e f g i j k l m n o p q t u w x y z) hs h
  ·cases h
 ·cases h
abbrev yh:Type:=Int×Int×Int×Int×Int×Int×Bool×LI×LI×Int×Int×Int×Bool×Int×Int×Int×LI×Int×Int×Int×Bool×Int×Int×Int×LI×Int×Int×LI
abbrev tB:Type:=(Int×Int×Int×Bool×LI×LI→OA)
def mW (Z:Nat) (e1:aC) (e6:aq) (c8:aE) (c6:ai) (e2:ce) (e3:bO) (e4:fZ) (d6:dY) (d9:bP) (e0:ek) (e5:ag) (I K:Int) (a X:Int) (Y a0:Int) (a1:Bool) (a2 a3:LI) (J L M:Int) (H:Bool) (N d O:Int) (P:LI) (b5 b6 b7:Int) (b8:Bool) (b9 c0 c1:Int) (c2:LI) (c3 c4:Int) (c5:LI) (c:yh→OA) (B:tB):OA:=match B with | b=>bif decide (a < K) then bif H then (d6 a b5 b6 b7 b8 b9 c0 c1 c2 c3 c4 c5 (fun (W,a6,a7,a8,a9,b0,b1,b2,b3,b4,a4,a5)=>bif H then bif W then (c8 J (fun d5=>(c6 (i64.wrap (I+d5)) (1) X Y a0 a1 a2 a3 (fun (c7,Q,R,S,T,U,V)=>(de Z (I,a,W,K,a,d,0,Q,R,S,T,U,V,J,L,M,H,N,d,O,P,a6,a7,a8,a9,b0,b1,b2,b3,b4,a4,a5) (fun (w,x,y,z,A,C,D,E,F,G,e,f,g,h,i,j,k,l,m,n,o,p,q,r,s,t,u,v)=>c (w,x,i64.wrap (y+1),z,A,C,D,E,F,G,e,f,g,h,i,j,k,l,m,n,o,p,q,r,s,t,u,v)))) (fun (c7,Q,R,S,T,U,V)=>(de Z (I,a,W,K,a,d,0,Q,R,S,T,U,V,J,L,M,H,N,d,O,P,a6,a7,a8,a9,b0,b1,b2,b3,b4,a4,a5) (fun (w,x,y,z,A,C,D,E,F,G,e,f,g,h,i,j,k,l,m,n,o,p,q,r,s,t,u,v)=>c (w,x,i64.wrap (y+1),z,A,C,D,E,F,G,e,f,g,h,i,j,k,l,m,n,o,p,q,r,s,t,u,v))))))) else (c8 J (fun d5=>(c6 (i64.wrap (I+d5)) (0) X Y a0 a1 a2 a3 (fun (c7,Q,R,S,T,U,V)=>(de Z (I,a,W,K,a,d,0,Q,R,S,T,U,V,J,L,M,H,N,d,O,P,a6,a7,a8,a9,b0,b1,b2,b3,b4,a4,a5) (fun (w,x,y,z,A,C,D,E,F,G,e,f,g,h,i,j,k,l,m,n,o,p,q,r,s,t,u,v)=>c (w,x,i64.wrap (y+1),z,A,C,D,E,F,G,e,f,g,h,i,j,k,l,m,n,o,p,q,r,s,t,u,v)))) (fun (c7,Q,R,S,T,U,V)=>(de Z (I,a,W,K,a,d,0,Q,R,S,T,U,V,J,L,M,H,N,d,O,P,a6,a7,a8,a9,b0,b1,b2,b3,b4,a4,a5) (fun (w,x,y,z,A,C,D,E,F,G,e,f,g,h,i,j,k,l,m,n,o,p,q,r,s,t,u,v)=>c (w,x,i64.wrap (y+1),z,A,C,D,E,F,G,e,f,g,h,i,j,k,l,m,n,o,p,q,r,s,t,u,v))))))) else (de Z (I,a,W,K,a,d,0,X,Y,a0,a1,a2,a3,J,L,M,H,N,d,O,P,a6,a7,a8,a9,b0,b1,b2,b3,b4,a4,a5) (fun (w,x,y,z,A,C,D,E,F,G,e,f,g,h,i,j,k,l,m,n,o,p,q,r,s,t,u,v)=>c (w,x,i64.wrap (y+1),z,A,C,D,E,F,G,e,f,g,h,i,j,k,l,m,n,o,p,q,r,s,t,u,v))))) else bif H then (c8 J (fun d8=>(c6 (i64.wrap (I+d8)) (0) X Y a0 a1 a2 a3 (fun (d7,c9,d0,d1,d2,d3,d4)=>(de Z (I,a,false,K,a,d,0,c9,d0,d1,d2,d3,d4,J,L,M,H,N,d,O,P,b5,b6,b7,b8,b9,c0,c1,c2,c3,c4,c5) (fun (w,x,y,z,A,C,D,E,F,G,e,f,g,h,i,j,k,l,m,n,o,p,q,r,s,t,u,v)=>c (w,x,i64.wrap (y+1),z,A,C,D,E,F,G,e,f,g,h,i,j,k,l,m,n,o,p,q,r,s,t,u,v)))) (fun (d7,c9,d0,d1,d2,d3,d4)=>(de Z (I,a,false,K,a,d,0,c9,d0,d1,d2,d3,d4,J,L,M,H,N,d,O,P,b5,b6,b7,b8,b9,c0,c1,c2,c3,c4,c5) (fun (w,x,y,z,A,C,D,E,F,G,e,f,g,h,i,j,k,l,m,n,o,p,q,r,s,t,u,v)=>c (w,x,i64.wrap (y+1),z,A,C,D,E,F,G,e,f,g,h,i,j,k,l,m,n,o,p,q,r,s,t,u,v))))))) else (de Z (I,a,false,K,a,d,0,X,Y,a0,a1,a2,a3,J,L,M,H,N,d,O,P,b5,b6,b7,b8,b9,c0,c1,c2,c3,c4,c5) (fun (w,x,y,z,A,C,D,E,F,G,e,f,g,h,i,j,k,l,m,n,o,p,q,r,s,t,u,v)=>c (w,x,i64.wrap (y+1),z,A,C,D,E,F,G,e,f,g,h,i,j,k,l,m,n,o,p,q,r,s,t,u,v))) else b (X,Y,a0,a1,a2,a3)
def gm (Z:Nat) (v:Int×Int×Int×Int×Int×Int×Bool×LI×LI×Int×Int×Int×Bool×Int×Int×Int×LI×Int×Int×Int×Bool×Int×Int×Int×LI×Int×Int×LI) (c:(Int×Int×Int×Int×Int×Int×Bool×LI×LI×Int×Int×Int×Bool×Int×Int×Int×LI×Int×Int×Int×Bool×Int×Int×Int×LI×Int×Int×LI)→OA) (B:(Int×Int×Int×Bool×LI×LI→OA)):OA:=match v with | (t,u,w,x,y,z,A,C,D,E,a,b,d,e,f,g,h,i,j,k,l,m,n,o,p,q,r,s)=>mW Z (am Z) (aj Z) (az Z) (ab Z) (aY Z) (be Z) (cm Z) (eV Z) (bH Z) (dw Z) (ac Z) t u w x y z A C D E a b d e f g h i j k l m n o p q r s c B
def ku (Z:Nat) (v:yh) (b:tB):OA:=iter (gm Z) Z v b
def kX (Z:Nat) (i:Nat):Option Ev.Blk:=Ev.look i [(100003,gP Z)]
def xJ (v:yh):Ev.St:=match v with | (t,u,w,x,y,z,A,B,C,D,a,b,d,e,f,g,h,i,j,k,l,m,n,o,p,q,r,s)=>⟨[(0,.c (.ptr 0 0)),(1,.c (i6 t)),(7,.c (.ptr 3 0)),(8,.c (.ptr 4 0)),(11,.c (.ptr 5 0)),(52,.c (i6 u)),(53,.c (i6 w))],[(0,.cells 138 (i6 x::.own 1::ctb (.int .u64 y::.int .u64 z::.own 2::.bool A::[]))),(1,.vec 3 ti B false),(2,.vec 5 (.int .u8) C true),(3,.cells 113 [i6 D,i6 a,i6 b,.bool d,i6 e]),(4,.cells 29 [i6 f,i6 g,.sl (.int .u8) h]),(5,.cells 230 [i6 i,i6 j,i6 k,.bool l,i6 m,i6 n,i6 o,.sl (.int .u8) p,i6 q,i6 r,.sl (.int .u8) s])],6,3⟩
def pe (K:KT):tB:=(fun v=>match v with | (a,b,c,d,e,f)=>K .normal ⟨[],[(0,.cells 138 (i6 a::.own 1::ctb (.int .u64 b::.int .u64 c::.own 2::.bool d::[]))),(1,.vec 3 ti e false),(2,.vec 5 (.int .u8) f true)],3,3⟩)
theorem P9 (Z:Nat) (e:aC) (k:aq) (f:aE) (a:ai) (g:ce) (h:bO) (i:fZ) (b:dY) (c:bP) (d:ek) (j:ag) (R:Ev.St→OA) (K:KT) (E F:Int) (G H:Int) (I J:Int) (L:Bool) (M N:LI) (O l m:Int) (n:Bool) (o p q:Int) (r:LI) (s t u:Int) (w:Bool) (x y z:Int) (A:LI) (B C:Int) (D:LI):evalCode tab (lH e k f a g h i b c d j) (kX Z) cp Z (bodyOf 1 Tryz.f135) (xJ (E,F,G,H,I,J,L,M,N,O,l,m,n,o,p,q,r,s,t,u,w,x,y,z,A,B,C,D)) (lc cp 11 1 R K)=mW Z e k f a g h i b c d j E F G H I J L M N O l m n o p q r s t u w x y z A B C D (fun v=>R (xJ v)) (pe K):=by
 kernel_rfl
def kC (Z:Nat):Ev.Blk:=fun st K=>match canonO (cp 11) st with | some s=>(match s with | ⟨[(R,.c (.ptr S T)),(U,.c (i6 V)),(W,.c (.ptr X Y)),(a0,.c (.ptr a1 a2)),(a,.c (.ptr b d)),(e,.c (i6 a3)),(f,.c (i6 a4))],[(g,.cells h i),(j,.vec k ti a5 false),(l,.vec m (.int .u8) a6 true),(n,.cells o [i6 a7,i6 p,i6 q,.bool r,i6 t]),(u,.cells v [i6 w,i6 x,.sl (.int .u8) y]),(z,.cells A [i6 B,i6 C,i6 D,.bool E,i6 F,i6 G,i6 H,.sl (.int .u8) I,i6 J,i6 L,.sl (.int .u8) M])],N,O⟩=>(match splitRun 2 ctn i with | some ([i6 a8,.own P],[.int .u64 a9,.int .u64 b0,.own Q,.bool b1])=>bif qb [R,S,T,U,W,X,Y,a0,a1,a2,a,b,d,e,f,g,h,j,k,l,m,n,o,u,v,z,A,N,O,P,Q] [0,0,0,1,7,3,0,8,4,0,11,5,0,52,53,0,138,1,3,2,5,3,113,4,29,5,230,6,3,1,2] then iter (gm Z) Z (V,a3,a4,a8,a9,b0,b1,a5,a6,a7,p,q,r,t,w,x,y,B,C,D,E,F,G,H,I,J,L,M) (pe K) else none | _=>none) | _=>none) | none=>none
theorem Of (Z:Nat) (st:Ev.St) (K:KT) (r:Ans) (h:kC Z st K=some r):evalCode tab (oA Z) (kX Z) cp Z (.block 1 (.loop (bodyOf 1 Tryz.f135))) st K=some r:=by
 unfold kC at h
 split at h
 ·rename_i s hs
  split at h
  ·skip
   split at h
   rotate_left 1
   ·cases h
   rename_i hsp
   have esp:=splitRun_eq hsp
   subst esp
   obtain ⟨hb,h⟩:=cond_some' h
   cases qb_eq hb
   exact blk_loop (S:=xJ) (ks:=pe) (step:=gm Z) (v:=(_,_,_,_,_,_,_,_,_,_,_,_,_,_,_,_,_,_,_,_,_,_,_,_,_,_,_,_)) kr kr (fun R K v=>by obtain ⟨w,x,y,z,A,B,C,D,E,F,a,b,c,d,e,f,g,i,j,k,l,m,n,o,p,q,t,u⟩:=v; exact P9 Z (am Z) (aj Z) (az Z) (ab Z) (aY Z) (be Z) (cm Z) (eV Z) (bH Z) (dw Z) (ac Z) R K w x y z A B C D E F a b c d e f g i j k l m n o p q t u) hs h
  ·cases h
 ·cases h
def pn (Z:Nat) (i:Nat):Option Ev.Blk:=Ev.look i [(100003,gP Z),(100001,kC Z)]
def cC (Z:Nat) (w g:Int) (h i:Int) (j:Bool) (k m l:Int) (n:LI) (x u:Int) (v:LI) (W X Y:Int) (a0:Bool) (a1 a2:LI) (k0:(Int×Int×Int×Int×Bool×LI×LI)→OA):OA:=(ab Z ((-1:Int)) (0) W X Y a0 a1 a2 (fun (L,a,b,c,d,e,f)=>bif L==7 then k0 (7,a,b,c,d,e,f) else (aY Z g h i j k (fun V=>bif !V then k0 (2,a,b,c,d,e,f) else (aj Z m l n (fun S=>bif !S then k0 (30,a,b,c,d,e,f) else (aj Z x u v (fun T=>bif !T then k0 (30,a,b,c,d,e,f) else (am Z a b c d e f (fun (z,o,p,q,r,s,t,A)=>(be Z z A w g h i j k (fun U=>bif !U then k0 (2,o,p,q,r,s,t) else (cm Z g h i j k m l n x u v (fun (B,C,D,E,F,G,H,I,J,K,y)=>(ku Z (w,l,0,o,p,q,r,s,t,g,h,i,j,k,m,l,n,B,C,D,E,F,G,H,I,J,K,y) (fun (M,N,O,P,Q,R)=>k0 (0,M,N,O,P,Q,R)))))))))))))))) (fun (L,a,b,c,d,e,f)=>bif L==7 then k0 (7,a,b,c,d,e,f) else (aY Z g h i j k (fun V=>bif !V then k0 (2,a,b,c,d,e,f) else (aj Z m l n (fun S=>bif !S then k0 (30,a,b,c,d,e,f) else (aj Z x u v (fun T=>bif !T then k0 (30,a,b,c,d,e,f) else (am Z a b c d e f (fun (z,o,p,q,r,s,t,A)=>(be Z z A w g h i j k (fun U=>bif !U then k0 (2,o,p,q,r,s,t) else (cm Z g h i j k m l n x u v (fun (B,C,D,E,F,G,H,I,J,K,y)=>(ku Z (w,l,0,o,p,q,r,s,t,g,h,i,j,k,m,l,n,B,C,D,E,F,G,H,I,J,K,y) (fun (M,N,O,P,Q,R)=>k0 (0,M,N,O,P,Q,R)))))))))))))))))
abbrev uE:Type:=Int→Int→Int→Int→Bool→Int→Int→Int→LI→Int→Int→LI→Int→Int→Int→Bool→LI→LI→((Int×Int×Int×Int×Bool×LI×LI)→OA)→OA
theorem Nk (Z:Nat) (C:aC) (x:aq) (b5:aE) (a5:ai) (Q:ce) (R:bO) (S:fZ) (b2:dY) (b3:bP) (b4:ek) (b6:ag) (A h:Int) (i j:Int) (l:Bool) (m o n:Int) (p:LI) (B y:Int) (z:LI) (a6 a7 a8:Int) (a9:Bool) (b0 b1:LI) (k:Ev.Cont):evalFn tab (lH C x b5 a5 Q R S b2 b3 b4 b6) (pn Z) cp Z Tryz.f135 [.c (.ptr 0 0),.c (i6 A),.agg [i6 h,i6 i,i6 j,.bool l,i6 m],.agg [i6 o,i6 n,.sl (.int .u8) p],.agg [i6 B,i6 y,.sl (.int .u8) z]] [.cells 138 (i6 a6::.own 1::ctb (.int .u64 a7::.int .u64 a8::.own 2::.bool a9::[])),.vec 3 ti b0 false,.vec 5 (.int .u8) b1 false] (wkC [1000002] k)=(fun  (k0:(Int×Int×Int×Int×Bool×LI×LI)→OA)=>
 (a5 ((-1:Int)) ((0:Int)) a6 a7 a8 a9 b0 b1
 (fun (T,a,b,d,e,f,g)=>
 bif T==(7:Int) then
 k0 ((7:Int),a,b,d,e,f,g)
 else
 (Q h i j l m
 (fun a4=>
 bif !a4 then
 k0 ((2:Int),a,b,d,e,f,g)
 else
 (x o n p
 (fun a1=>
 bif !a1 then
 k0 ((30:Int),a,b,d,e,f,g)
 else
 (x B y z
 (fun a2=>
 bif !a2 then
 k0 ((30:Int),a,b,d,e,f,g)
 else
 (C a b d e f g
 (fun (E,q,s,t,u,v,w,F)=>
 (R E F A h i j l m
 (fun a3=>
 bif !a3 then
 k0 ((2:Int),q,s,t,u,v,w)
 else
 (S h i j l m o n p B y z
 (fun (G,H,I,J,K,L,M,N,O,P,D)=>
 (ku Z (A,n,(0:Int),q,s,t,u,v,w,h,i,j,l,m,o,n,p,G,H,I,J,K,L,M,N,O,P,D)
 (fun (U,V,W,X,Y,a0)=>
 k0 ((0:Int),U,V,W,X,Y,a0))))))))))))))))
 (fun (T,a,b,d,e,f,g)=>
 bif T==(7:Int) then
 k0 ((7:Int),a,b,d,e,f,g)
 else
 (Q h i j l m
 (fun a4=>
 bif !a4 then
 k0 ((2:Int),a,b,d,e,f,g)
 else
 (x o n p
 (fun a1=>
 bif !a1 then
 k0 ((30:Int),a,b,d,e,f,g)
 else
 (x B y z
 (fun a2=>
 bif !a2 then
 k0 ((30:Int),a,b,d,e,f,g)
 else
 (C a b d e f g
 (fun (E,q,s,t,u,v,w,F)=>
 (R E F A h i j l m
 (fun a3=>
 bif !a3 then
 k0 ((2:Int),q,s,t,u,v,w)
 else
 (S h i j l m o n p B y z
 (fun (G,H,I,J,K,L,M,N,O,P,D)=>
 (ku Z (A,n,(0:Int),q,s,t,u,v,w,h,i,j,l,m,o,n,p,G,H,I,J,K,L,M,N,O,P,D)
 (fun (U,V,W,X,Y,a0)=>
 k0 ((0:Int),U,V,W,X,Y,a0)))))))))))))))))) (fun r=>match r with | (b7,b8,b9,c0,c1,c2,c3)=>k (.c (i6 b7),[.cells 138 (i6 b8::.own 1::ctb (.int .u64 b9::.int .u64 c0::.own 2::.bool c1::[])),.vec 3 ti c2 false,.vec 5 (.int .u8) c3 true])):=by
 kernel_rfl
theorem uh (Z:Nat):GOK prog (oA Z):=
 gc (ij Z) func35 kr rfl <|
 gc (kT Z) func90 kr rfl <|
 gc (lh Z) func130 kr rfl <|
 gc (ef Z) func132 kr rfl <|
 gc (BP Z) func173 kr rfl <|
 gc (AL Z) func174 kr rfl <|
 gc (IN Z) func175 kr rfl <|
 gc (Ol Z) func176 kr rfl <|
 gc (zw Z) func177 kr rfl <|
 gc (OU Z) func178 kr rfl <|
 gc (ib Z) func179 kr rfl <|
 gok_nil
theorem MT (Z:Nat):BlkOK prog Tryz.f135.ntmps (.block 3 (.loop (bodyOf 3 Tryz.f135))) (gP Z):=bo0 (uh Z) kr kr (O4 Z)
theorem MD (Z:Nat):BlkOK prog Tryz.f135.ntmps (.block 1 (.loop (bodyOf 1 Tryz.f135))) (kC Z):=
 blk_of (blk_of_code tab_ok (uh Z) mixed (J:=kX Z) (kp:=cp) (fuel:=Z) kr (fun q hq=>by
  rw [(by kernel_rfl:obl (kX Z) (.block 1 (.loop (bodyOf 1 Tryz.f135)))= [(.block 3 (.loop (bodyOf 3 Tryz.f135)),gP Z)])] at hq
  simp only [List.mem_cons,List.not_mem_nil,or_false] at hq
  subst hq
  ·exact MT Z)) (Of Z)
theorem Pk (Z:Nat):FnOK prog 135 (evalFn tab (oA Z) (pn Z) cp Z Tryz.f135):=
 fn_ok tab_ok (uh Z) mixed func135 (c:=(Tryz.f135.body).getD .skip) rfl (fun q hq=>by
  rw [(by kernel_rfl:obl (pn Z) ((Tryz.f135.body).getD .skip)= [(.block 1 (.loop (bodyOf 1 Tryz.f135)),kC Z)])] at hq
  simp only [List.mem_cons,List.not_mem_nil,or_false] at hq
  subst hq
  ·exact MD Z)
def un (F:uE):Ev.Spec:=fun args objs k=>match args,objs with | [.c (.ptr l m),.c (i6 n),.agg [i6 o,i6 p,i6 q,.bool s,i6 t],.agg [i6 u,i6 v,.sl (.int .u8) w],.agg [i6 x,i6 a,.sl (.int .u8) b]],[.cells y d,.vec z ti e false,.vec A (.int .u8) f false]=>(match splitRun 2 ctn d with | some ([i6 g,.own B],[.int .u64 h,.int .u64 i,.own C,.bool j])=>bif qb [l,m,y,z,A,B,C] [0,0,138,3,5,1,2] then F n o p q s t u v w x a b g h i j e f (fun r=>match r with | (D,E,G,H,I,J,K)=>k (.c (i6 D),[.cells 138 (i6 E::.own 1::ctb (.int .u64 G::.int .u64 H::.own 2::.bool I::[])),.vec 3 ti J false,.vec 5 (.int .u8) K true])) else none | _=>none) | _,_=>none
theorem OO (Z:Nat):FnOK prog 135 (un (cC Z)):=by
 intro args objs kk r h
 unfold un at h
 split at h
 ·skip
  split at h
  rotate_left 1
  ·cases h
  rename_i hsp
  have esp:=splitRun_eq hsp
  subst esp
  obtain ⟨hb,h⟩:=cond_some' h
  cases qb_eq hb
  exact (Pk Z).wk [1000002] _ _ kk r ((Nk Z (am Z) (aj Z) (az Z) (ab Z) (aY Z) (be Z) (cm Z) (eV Z) (bH Z) (dw Z) (ac Z) _ _ _ _ _ _ _ _ _ _ _ _ _ _ _ _ _ _ kk).trans h)
 ·cases h
def Do (i:Nat):Option (List Nat):=Ev.look i [(200003,[0,3]),(200005,[0,3]),(200008,[0,3]),(200009,[3]),(600000,[]),(900003,[0,3]),(900005,[0,3]),(900008,[0,3]),(900009,[])]
def Bg (e:aK) (a:ai) (b:nT) (c:xX) (d:uE) (g:iO) (f:Nat):Option Ev.Spec:=Ev.look f [(78,iR e),(132,dI a),(133,wQ b),(134,pt c),(135,un d),(136,nw g)]
def CY (Z:Nat):Nat→Option Ev.Spec:=Bg (av Z) (ab Z) (fk Z) (dq Z) (cC Z) (bC Z)
def cF (Z:Nat) (d e:Int) (f:LI) (b y:Int) (z A:Int) (B:Bool) (C W:Int) (w x:Int) (U V:Int) (c4 c5 c6:Int) (c7:Bool) (c:(List BM)) (c8 c9:LI) (k0:(Int×Int×Int×Bool×Int×Int×Int×Int×Int×Int×Int×Int×Int×Bool×(List BM)×LI×LI)→OA):OA:=bif decide (b < 0) then (ab Z (240) (0) c4 c5 c6 c7 c8 c9 (fun (c3,O,P,Q,R,S,T)=>(fk Z x y z A B C d e f (0) (0) ([]) O P Q R S T (fun (a4,h,i,j,k,l,m)=>(fun (z1:OA)=>
both z1 z1) (bif decide ((c.length+(1:Nat))*(40:Nat)≤(140737488355328:Nat)∧c.length+(1:Nat)≤(140737488355328:Nat)) then (k0 (y,z,A,B,C,W,w,x,U,V,h,i,j,k,c++ [(d,e,f)],l,m)) else none)) (fun (a4,h,i,j,k,l,m)=>(fun (z3:OA)=>
both z3 z3) (bif decide ((c.length+(1:Nat))*(40:Nat)≤(140737488355328:Nat)∧c.length+(1:Nat)≤(140737488355328:Nat)) then (k0 (y,z,A,B,C,W,w,x,U,V,h,i,j,k,c++ [(d,e,f)],l,m)) else none)))) (fun (c3,O,P,Q,R,S,T)=>(fk Z x y z A B C d e f (0) (0) ([]) O P Q R S T (fun (a4,h,i,j,k,l,m)=>(fun (z5:OA)=>
both z5 z5) (bif decide ((c.length+(1:Nat))*(40:Nat)≤(140737488355328:Nat)∧c.length+(1:Nat)≤(140737488355328:Nat)) then (k0 (y,z,A,B,C,W,w,x,U,V,h,i,j,k,c++ [(d,e,f)],l,m)) else none)) (fun (a4,h,i,j,k,l,m)=>(fun (z7:OA)=>
both z7 z7) (bif decide ((c.length+(1:Nat))*(40:Nat)≤(140737488355328:Nat)∧c.length+(1:Nat)≤(140737488355328:Nat)) then (k0 (y,z,A,B,C,W,w,x,U,V,h,i,j,k,c++ [(d,e,f)],l,m)) else none))))) else (ab Z (240) (1) c4 c5 c6 c7 c8 c9 (fun (c3,O,P,Q,R,S,T)=>(dq Z (241) w b O P Q R S T (fun (a4,h,i,j,k,l,m)=>(av Z (96) (0) y z A B C W w x U V h i j k c l m (fun (b2,b3,b4,b5,b6,b7,b8,b9,c0,c1,a5,a6,a7,a8,a9,b0,b1)=>(av Z (144) (0) b2 b3 b4 b5 b6 b7 b8 b9 c0 c1 a5 a6 a7 a8 a9 b0 b1 (fun (n,o,p,q,r,s,t,u,g,v,X,Y,a0,a1,a,a2,a3)=>bif decide (0≤b∧b < (↑a.length:Int)) then both ((bC Z n o p q r s t u g v ((0:Int)) ((0:Int)) (fun (D,E,F,G,H)=>(cC Z g D E F G H d e f ((a.getD b.toNat ((0:Int),(0:Int),[])).fst) ((a.getD b.toNat ((0:Int),(0:Int),[])).snd.fst) ((a.getD b.toNat ((0:Int),(0:Int),[])).snd.snd) X Y a0 a1 a2 a3 (fun (c2,I,J,K,L,M,N)=>(fun (z9:OA)=>both z9 z9) (bif decide ((a.length+(1:Nat))*(40:Nat)≤(140737488355328:Nat)∧a.length+(1:Nat)≤(140737488355328:Nat)) then (k0 (n,o,p,q,r,s,t,u,g,v,I,J,K,L,a++ [(d,e,f)],M,N)) else none)))))) ((bC Z n o p q r s t u g v ((0:Int)) ((0:Int)) (fun (D,E,F,G,H)=>(cC Z g D E F G H d e f ((a.getD b.toNat ((0:Int),(0:Int),[])).fst) ((a.getD b.toNat ((0:Int),(0:Int),[])).snd.fst) ((a.getD b.toNat ((0:Int),(0:Int),[])).snd.snd) X Y a0 a1 a2 a3 (fun (c2,I,J,K,L,M,N)=>(fun (z11:OA)=>both z11 z11) (bif decide ((a.length+(1:Nat))*(40:Nat)≤(140737488355328:Nat)∧a.length+(1:Nat)≤(140737488355328:Nat)) then (k0 (n,o,p,q,r,s,t,u,g,v,I,J,K,L,a++ [(d,e,f)],M,N)) else none)))))) else none))))))) (fun (c3,O,P,Q,R,S,T)=>(dq Z (241) w b O P Q R S T (fun (a4,h,i,j,k,l,m)=>(av Z (96) (0) y z A B C W w x U V h i j k c l m (fun (b2,b3,b4,b5,b6,b7,b8,b9,c0,c1,a5,a6,a7,a8,a9,b0,b1)=>(av Z (144) (0) b2 b3 b4 b5 b6 b7 b8 b9 c0 c1 a5 a6 a7 a8 a9 b0 b1 (fun (n,o,p,q,r,s,t,u,g,v,X,Y,a0,a1,a,a2,a3)=>bif decide (0≤b∧b < (↑a.length:Int)) then both ((bC Z n o p q r s t u g v ((0:Int)) ((0:Int)) (fun (D,E,F,G,H)=>(cC Z g D E F G H d e f ((a.getD b.toNat ((0:Int),(0:Int),[])).fst) ((a.getD b.toNat ((0:Int),(0:Int),[])).snd.fst) ((a.getD b.toNat ((0:Int),(0:Int),[])).snd.snd) X Y a0 a1 a2 a3 (fun (c2,I,J,K,L,M,N)=>(fun (z15:OA)=>both z15 z15) (bif decide ((a.length+(1:Nat))*(40:Nat)≤(140737488355328:Nat)∧a.length+(1:Nat)≤(140737488355328:Nat)) then (k0 (n,o,p,q,r,s,t,u,g,v,I,J,K,L,a++ [(d,e,f)],M,N)) else none)))))) ((bC Z n o p q r s t u g v ((0:Int)) ((0:Int)) (fun (D,E,F,G,H)=>(cC Z g D E F G H d e f ((a.getD b.toNat ((0:Int),(0:Int),[])).fst) ((a.getD b.toNat ((0:Int),(0:Int),[])).snd.fst) ((a.getD b.toNat ((0:Int),(0:Int),[])).snd.snd) X Y a0 a1 a2 a3 (fun (c2,I,J,K,L,M,N)=>(fun (z17:OA)=>both z17 z17) (bif decide ((a.length+(1:Nat))*(40:Nat)≤(140737488355328:Nat)∧a.length+(1:Nat)≤(140737488355328:Nat)) then (k0 (n,o,p,q,r,s,t,u,g,v,I,J,K,L,a++ [(d,e,f)],M,N)) else none)))))) else none))))))))
abbrev eE:Type:=Int→Int→LI→Int→Int→Int→Int→Bool→Int→Int→Int→Int→Int→Int→Int→Int→Int→Bool→((List BM))→LI→LI→((Int×Int×Int×Bool×Int×Int×Int×Int×Int×Int×Int×Int×Int×Bool×(List BM)×LI×LI)→OA)→OA
theorem KM (Z:Nat) (a2:aK) (b1:ai) (b2:nT) (b3:xX) (a1:uE) (a9:iO) (e f:Int) (g:LI) (b B:Int) (C D:Int) (E:Bool) (F a0:Int) (z A:Int) (X Y:Int) (d3 d4 d5:Int) (d6:Bool) (d:(List BM)) (d7 d8:LI) (k:Ev.Cont):evalFn tab (Bg a2 b1 b2 b3 a1 a9) J0 Do Z Tryz.f79 [.c (.ptr 0 0),.agg [i6 e,i6 f,.sl (.int .u8) g,i6 b]] [.cells 76 [i6 B,i6 C,i6 D,.bool E,i6 F,i6 a0,i6 z,i6 A,i6 X,i6 Y,.ptr 1 0,.own 2],.cells 138 (i6 d3::.own 3::ctb (.int .u64 d4::.int .u64 d5::.own 4::.bool d6::[])),.vec 29 tq d false,.vec 3 ti d7 false,.vec 5 (.int .u8) d8 false] (wkC [1000004] k)=(fun  (k0:(Int×Int×Int×Bool×Int×Int×Int×Int×Int×Int×Int×Int×Int×Bool×(List BM)×LI×LI)→OA)=>
 bif decide (b < (0:Int)) then
 (b1 ((240:Int)) ((0:Int)) d3 d4 d5 d6 d7 d8
 (fun (d2,R,S,T,U,V,W)=>
 (b2 A B C D E F e f g ((0:Int)) ((0:Int)) ([]) R S T U V W
 (fun (b0,i,j,l,m,n,o)=>
 (fun (z1:OA)=>
both z1 z1)
 (bif decide ((d.length+(1:Nat))*(40:Nat)≤(140737488355328:Nat)∧d.length+(1:Nat)≤(140737488355328:Nat)) then (k0 (B,C,D,E,F,a0,z,A,X,Y,i,j,l,m,d++ [(e,f,g)],n,o)) else none))
 (fun (b0,i,j,l,m,n,o)=>
 (fun (z3:OA)=>
both z3 z3)
 (bif decide ((d.length+(1:Nat))*(40:Nat)≤(140737488355328:Nat)∧d.length+(1:Nat)≤(140737488355328:Nat)) then (k0 (B,C,D,E,F,a0,z,A,X,Y,i,j,l,m,d++ [(e,f,g)],n,o)) else none))))
 (fun (d2,R,S,T,U,V,W)=>
 (b2 A B C D E F e f g ((0:Int)) ((0:Int)) ([]) R S T U V W
 (fun (b0,i,j,l,m,n,o)=>
 (fun (z5:OA)=>
both z5 z5)
 (bif decide ((d.length+(1:Nat))*(40:Nat)≤(140737488355328:Nat)∧d.length+(1:Nat)≤(140737488355328:Nat)) then (k0 (B,C,D,E,F,a0,z,A,X,Y,i,j,l,m,d++ [(e,f,g)],n,o)) else none))
 (fun (b0,i,j,l,m,n,o)=>
 (fun (z7:OA)=>
both z7 z7)
 (bif decide ((d.length+(1:Nat))*(40:Nat)≤(140737488355328:Nat)∧d.length+(1:Nat)≤(140737488355328:Nat)) then (k0 (B,C,D,E,F,a0,z,A,X,Y,i,j,l,m,d++ [(e,f,g)],n,o)) else none)))))
 else
 (b1 ((240:Int)) ((1:Int)) d3 d4 d5 d6 d7 d8
 (fun (d2,R,S,T,U,V,W)=>
 (b3 ((241:Int)) z b R S T U V W
 (fun (b0,i,j,l,m,n,o)=>
 (a2 ((96:Int)) ((0:Int)) B C D E F a0 z A X Y i j l m d n o
 (fun (c1,c2,c3,c4,c5,c6,c7,c8,c9,d0,b4,b5,b6,b7,b8,b9,c0)=>
 (a2 ((144:Int)) ((0:Int)) c1 c2 c3 c4 c5 c6 c7 c8 c9 d0 b4 b5 b6 b7 b8 b9 c0
 (fun (p,q,s,t,u,v,w,x,h,y,a3,a4,a5,a6,a,a7,a8)=>
 bif decide ((0:Int)≤b∧b < (↑a.length:Int)) then
 both ((a9 p q s t u v w x h y ((0:Int)) ((0:Int)) (fun (G,H,I,J,K)=>(a1 h G H I J K e f g ((a.getD b.toNat ((0:Int),(0:Int),[])).fst) ((a.getD b.toNat ((0:Int),(0:Int),[])).snd.fst) ((a.getD b.toNat ((0:Int),(0:Int),[])).snd.snd) a3 a4 a5 a6 a7 a8 (fun (d1,L,M,N,O,P,Q)=>(fun (z9:OA)=>both z9 z9) (bif decide ((a.length+(1:Nat))*(40:Nat)≤(140737488355328:Nat)∧a.length+(1:Nat)≤(140737488355328:Nat)) then (k0 (p,q,s,t,u,v,w,x,h,y,L,M,N,O,a++ [(e,f,g)],P,Q)) else none)))))) ((a9 p q s t u v w x h y ((0:Int)) ((0:Int)) (fun (G,H,I,J,K)=>(a1 h G H I J K e f g ((a.getD b.toNat ((0:Int),(0:Int),[])).fst) ((a.getD b.toNat ((0:Int),(0:Int),[])).snd.fst) ((a.getD b.toNat ((0:Int),(0:Int),[])).snd.snd) a3 a4 a5 a6 a7 a8 (fun (d1,L,M,N,O,P,Q)=>(fun (z11:OA)=>both z11 z11) (bif decide ((a.length+(1:Nat))*(40:Nat)≤(140737488355328:Nat)∧a.length+(1:Nat)≤(140737488355328:Nat)) then (k0 (p,q,s,t,u,v,w,x,h,y,L,M,N,O,a++ [(e,f,g)],P,Q)) else none))))))
 else none)))))))
 (fun (d2,R,S,T,U,V,W)=>
 (b3 ((241:Int)) z b R S T U V W
 (fun (b0,i,j,l,m,n,o)=>
 (a2 ((96:Int)) ((0:Int)) B C D E F a0 z A X Y i j l m d n o
 (fun (c1,c2,c3,c4,c5,c6,c7,c8,c9,d0,b4,b5,b6,b7,b8,b9,c0)=>
 (a2 ((144:Int)) ((0:Int)) c1 c2 c3 c4 c5 c6 c7 c8 c9 d0 b4 b5 b6 b7 b8 b9 c0
 (fun (p,q,s,t,u,v,w,x,h,y,a3,a4,a5,a6,a,a7,a8)=>
 bif decide ((0:Int)≤b∧b < (↑a.length:Int)) then
 both ((a9 p q s t u v w x h y ((0:Int)) ((0:Int)) (fun (G,H,I,J,K)=>(a1 h G H I J K e f g ((a.getD b.toNat ((0:Int),(0:Int),[])).fst) ((a.getD b.toNat ((0:Int),(0:Int),[])).snd.fst) ((a.getD b.toNat ((0:Int),(0:Int),[])).snd.snd) a3 a4 a5 a6 a7 a8 (fun (d1,L,M,N,O,P,Q)=>(fun (z15:OA)=>both z15 z15) (bif decide ((a.length+(1:Nat))*(40:Nat)≤(140737488355328:Nat)∧a.length+(1:Nat)≤(140737488355328:Nat)) then (k0 (p,q,s,t,u,v,w,x,h,y,L,M,N,O,a++ [(e,f,g)],P,Q)) else none)))))) ((a9 p q s t u v w x h y ((0:Int)) ((0:Int)) (fun (G,H,I,J,K)=>(a1 h G H I J K e f g ((a.getD b.toNat ((0:Int),(0:Int),[])).fst) ((a.getD b.toNat ((0:Int),(0:Int),[])).snd.fst) ((a.getD b.toNat ((0:Int),(0:Int),[])).snd.snd) a3 a4 a5 a6 a7 a8 (fun (d1,L,M,N,O,P,Q)=>(fun (z17:OA)=>both z17 z17) (bif decide ((a.length+(1:Nat))*(40:Nat)≤(140737488355328:Nat)∧a.length+(1:Nat)≤(140737488355328:Nat)) then (k0 (p,q,s,t,u,v,w,x,h,y,L,M,N,O,a++ [(e,f,g)],P,Q)) else none))))))
 else none))))))))) (fun r=>match r with | (e6,e7,e8,e9,g0,g1,g2,g3,g4,g5,d9,e0,e1,e2,e3,e4,e5)=>k (.tup [],[.cells 76 [i6 e6,i6 e7,i6 e8,.bool e9,i6 g0,i6 g1,i6 g2,i6 g3,i6 g4,i6 g5,.ptr 1 0,.own 2],.cells 138 (i6 d9::.own 3::ctb (.int .u64 e0::.int .u64 e1::.own 4::.bool e2::[])),.vec 29 tq e3 true,.vec 3 ti e4 false,.vec 5 (.int .u8) e5 true])):=by
 kernel_rfl
theorem Hw (Z:Nat):GOK prog (CY Z):=
 gc (xL Z) func78 kr rfl <|
 gc (ef Z) func132 kr rfl <|
 gc (Is Z) func133 kr rfl <|
 gc (D0 Z) func134 kr rfl <|
 gc (OO Z) func135 kr rfl <|
 gc (Dk Z) func136 kr rfl <|
 gok_nil
theorem Ek (Z:Nat):FnOK prog 79 (evalFn tab (CY Z) J0 Do Z Tryz.f79):=
 fn_ok tab_ok (Hw Z) mixed func79 (c:=(Tryz.f79.body).getD .skip) rfl (fun q hq=>by
  rw [(by kernel_rfl:obl J0 ((Tryz.f79.body).getD .skip)= [])] at hq
  cases hq)
def tl (F:eE):Ev.Spec:=fun args objs k=>match args,objs with | [.c (.ptr y z),.agg [i6 A,i6 B,.sl (.int .u8) C,i6 D]],[.cells E [i6 G,i6 H,i6 I,.bool J,i6 K,i6 L,i6 a,i6 b,i6 d,i6 e,.ptr M N,.own O],.cells P f,.vec Q tq g false,.vec R ti h false,.vec S (.int .u8) i false]=>(match splitRun 2 ctn f with | some ([i6 j,.own l],[.int .u64 m,.int .u64 n,.own o,.bool p])=>bif qb [y,z,E,M,N,O,P,Q,R,S,l,o] [0,0,76,1,0,2,138,29,3,5,3,4] then F A B C D G H I J K L a b d e j m n p g h i (fun r=>match r with | (T,U,V,W,X,Y,a0,a1,a2,a3,q,s,t,u,v,w,x)=>k (.tup [],[.cells 76 [i6 T,i6 U,i6 V,.bool W,i6 X,i6 Y,i6 a0,i6 a1,i6 a2,i6 a3,.ptr 1 0,.own 2],.cells 138 (i6 q::.own 3::ctb (.int .u64 s::.int .u64 t::.own 4::.bool u::[])),.vec 29 tq v true,.vec 3 ti w false,.vec 5 (.int .u8) x true])) else none | _=>none) | _,_=>none
theorem Mb (Z:Nat):FnOK prog 79 (tl (cF Z)):=by
 intro args objs kk r h
 unfold tl at h
 split at h
 ·skip
  split at h
  rotate_left 1
  ·cases h
  rename_i hsp
  have esp:=splitRun_eq hsp
  subst esp
  obtain ⟨hb,h⟩:=cond_some' h
  cases qb_eq hb
  exact (Ek Z).wk [1000004] _ _ kk r ((KM Z (av Z) (ab Z) (fk Z) (dq Z) (cC Z) (bC Z) _ _ _ _ _ _ _ _ _ _ _ _ _ _ _ _ _ _ _ _ _ kk).trans h)
 ·cases h
def cV (i:Nat):Option (List Nat):=Ev.look i [(1,[0,1,4,1000002,1000004]),(6,[0,1,4,5,6,1000002]),(100000,[]),(100002,[0,1,4]),(400000,[]),(400002,[])]
def nJ (a:aK) (b:eE) (c:ch) (f:Nat):Option Ev.Spec:=Ev.look f [(78,iR a),(79,tl b),(80,oa c)]
def ws (Z:Nat):Nat→Option Ev.Spec:=nJ (av Z) (cF Z) (bx Z)
abbrev tF:Type:=(List (BM×Int))×Int×Int×Int×Int×Int×Int×Bool×Int×Int×Int×Int×Int×Int×Int×Int×Int×Bool×(List BM)×LI×LI
abbrev tQ:Type:=((List (BM×Int))×Int×Int×Int×Int×Bool×Int×Int×Int×Int×Int×Int×Int×Int×Int×Bool×(List BM)×LI×LI→OA)
def iX (Z:Nat) (w:aK) (x:eE) (a9:ch) (a:(List (BM×Int))) (o v:Int) (a8 p:Int) (q r:Int) (s:Bool) (t u:Int) (d e:Int) (f g:Int) (h i j:Int) (k:Bool) (l:(List BM)) (m n:LI) (c:tF→OA) (B:tQ):OA:=match B with | b=>bif decide ((↑a.length:Int) > 0) then bif decide ((0:Int)≤(0:Int)∧(0:Int) < (↑a.length:Int)) then bif (a.getD (Int.toNat 0) ((0,0,[]),0)).fst.snd.fst==v then bif decide ((0:Int)≤(0:Int)∧(0:Int) < (↑a.length:Int)) then (w (48) (i64.wrap ((a.getD (Int.toNat 0) ((0,0,[]),0)).fst.fst - a8)) p q r s t u d e f g h i j k l m n (fun (X,Y,a0,a1,a2,a3,a4,a5,a6,a7,G,H,I,J,K,L,M)=>bif decide ((0:Int)≤(0:Int)∧(0:Int) < (↑a.length:Int)) then bif decide ((0:Int)≤(0:Int)∧(0:Int) < (↑a.length:Int)) then (x ((a.getD (Int.toNat 0) ((0,0,[]),0)).fst.fst) ((a.getD (Int.toNat 0) ((0,0,[]),0)).fst.snd.fst) ((a.getD (Int.toNat 0) ((0,0,[]),0)).fst.snd.snd) ((a.getD (Int.toNat 0) ((0,0,[]),0)).snd) X Y a0 a1 a2 a3 a4 a5 a6 a7 G H I J K L M (fun (N,O,P,Q,R,S,T,U,V,W,y,z,A,C,D,E,F)=>bif decide (0≤Ev.loOf (some 1)∧Ev.loOf (some 1)≤Ev.hiOf Option.none (↑a.length:Int)∧Ev.hiOf Option.none (↑a.length:Int)≤(↑a.length:Int)) then c (List.take (Ev.hiOf Option.none (↑a.length:Int) - Ev.loOf (some 1)).toNat (List.drop (Ev.loOf (some 1)).toNat a),o,v,(a.getD (Int.toNat 0) ((0,0,[]),0)).fst.fst,N,O,P,Q,R,S,T,U,V,W,y,z,A,C,D,E,F) else none)) else none else none)) else none else b (a,o,p,q,r,s,t,u,d,e,f,g,h,i,j,k,l,m,n) else none else b (a,o,p,q,r,s,t,u,d,e,f,g,h,i,j,k,l,m,n)
def cO (Z:Nat) (v:(List (BM×Int))×Int×Int×Int×Int×Int×Int×Bool×Int×Int×Int×Int×Int×Int×Int×Int×Int×Bool×(List BM)×LI×LI) (c:((List (BM×Int))×Int×Int×Int×Int×Int×Int×Bool×Int×Int×Int×Int×Int×Int×Int×Int×Int×Bool×(List BM)×LI×LI)→OA) (B:((List (BM×Int))×Int×Int×Int×Int×Bool×Int×Int×Int×Int×Int×Int×Int×Int×Int×Bool×(List BM)×LI×LI→OA)):OA:=match v with | (m,n,o,p,q,r,s,t,u,w,a,b,d,e,f,g,h,i,j,k,l)=>iX Z (av Z) (cF Z) (bx Z) m n o p q r s t u w a b d e f g h i j k l c B
def yW (Z:Nat) (v:tF) (b:tQ):OA:=iter (cO Z) Z v b
def pk (v:tF):Ev.St:=match v with | (m,n,o,p,q,r,s,t,u,w,a,b,d,e,f,g,h,i,j,k,l)=>⟨[(0,.c (.ptr 0 0)),(1,.c (.sl (.pair tq ti) m)),(4,.c (i6 n)),(5,.c (i6 o)),(6,.c (i6 p))],[(0,.cells 76 [i6 q,i6 r,i6 s,.bool t,i6 u,i6 w,i6 a,i6 b,i6 d,i6 e,.ptr 1 0,.own 2]),(1,.cells 138 (i6 f::.own 3::ctb (.int .u64 g::.int .u64 h::.own 4::.bool i::[]))),(2,.vec 29 tq j true),(3,.vec 3 ti k false),(4,.vec 5 (.int .u8) l true)],5,5⟩
def qU (K:KT):tQ:=(fun v=>match v with | (k,l,m,n,o,p,q,r,s,t,a,b,d,e,f,g,h,i,j)=>K .normal ⟨[(0,.c (.ptr 0 0)),(1,.c (.sl (.pair tq ti) k)),(4,.c (i6 l))],[(0,.cells 76 [i6 m,i6 n,i6 o,.bool p,i6 q,i6 r,i6 s,i6 t,i6 a,i6 b,.ptr 1 0,.own 2]),(1,.cells 138 (i6 d::.own 3::ctb (.int .u64 e::.int .u64 f::.own 4::.bool g::[]))),(2,.vec 29 tq h true),(3,.vec 3 ti i false),(4,.vec 5 (.int .u8) j true)],5,5⟩)
theorem OG (Z:Nat) (a:aK) (b:eE) (c:ch) (R:Ev.St→OA) (K:KT) (o:(List (BM×Int))) (p q:Int) (r s:Int) (t u:Int) (w:Bool) (x y:Int) (d e:Int) (f g:Int) (h i j:Int) (k:Bool) (l:(List BM)) (m n:LI):evalCode tab (nJ a b c) J0 cV Z (bodyOf 2 Tryz.f31) (pk (o,p,q,r,s,t,u,w,x,y,d,e,f,g,h,i,j,k,l,m,n)) (lc cV 6 2 R K)=iX Z a b c o p q r s t u w x y d e f g h i j k l m n (fun v=>R (pk v)) (qU K):=by
 kernel_rfl
def gJ (Z:Nat):Ev.Blk:=fun st K=>match canonO (cV 6) st with | some s=>(match s with | ⟨[(C,.c (.ptr D E)),(F,.c (.sl (.pair tq ti) G)),(H,.c (i6 I)),(J,.c (i6 L)),(M,.c (i6 N))],[(O,.cells P [i6 Q,i6 R,i6 S,.bool T,i6 U,i6 V,i6 a,i6 b,i6 d,i6 e,.ptr W f,.own g]),(h,.cells i j),(k,.vec l tq m true),(n,.vec o ti p false),(q,.vec r (.int .u8) t true)],u,v⟩=>(match splitRun 2 ctn j with | some ([i6 w,.own x],[.int .u64 y,.int .u64 z,.own A,.bool B])=>bif qb [C,D,E,F,H,J,M,O,P,W,f,g,h,i,k,l,n,o,q,r,u,v,x,A] [0,0,0,1,4,5,6,0,76,1,0,2,1,138,2,29,3,3,4,5,5,5,3,4] then iter (cO Z) Z (G,I,L,N,Q,R,S,T,U,V,a,b,d,e,w,y,z,B,m,p,t) (qU K) else none | _=>none) | _=>none) | none=>none
theorem Pm (Z:Nat) (st:Ev.St) (K:KT) (r:Ans) (h:gJ Z st K=some r):evalCode tab (ws Z) J0 cV Z (.block 2 (.loop (bodyOf 2 Tryz.f31))) st K=some r:=by
 unfold gJ at h
 split at h
 ·rename_i s hs
  split at h
  ·skip
   split at h
   rotate_left 1
   ·cases h
   rename_i hsp
   have esp:=splitRun_eq hsp
   subst esp
   obtain ⟨hb,h⟩:=cond_some' h
   cases qb_eq hb
   exact blk_loop (S:=pk) (ks:=qU) (step:=cO Z) (v:=(_,_,_,_,_,_,_,_,_,_,_,_,_,_,_,_,_,_,_,_,_)) kr kr (fun R K v=>by obtain ⟨m,n,o,p,q,t,u,w,x,y,a,b,c,d,e,f,g,i,j,k,l⟩:=v; exact OG Z (av Z) (cF Z) (bx Z) R K m n o p q t u w x y a b c d e f g i j k l) hs h
  ·cases h
 ·cases h
abbrev yR:Type:=(List (BM×Int))×Int×Int×Int×Int×Bool×Int×Int×Int×Int×Int×Int×Int×Int×Int×Bool×(List BM)×LI×LI
abbrev qs:Type:=(Int×Int×Int×Bool×Int×Int×Int×Int×Int×Int×Int×Int×Int×Bool×(List BM)×LI×LI→OA)
def gR (Z:Nat) (u:aK) (b5:eE) (v:ch) (a:(List (BM×Int))) (b4 m:Int) (n o:Int) (p:Bool) (q r:Int) (s t:Int) (d e:Int) (f g h:Int) (i:Bool) (j:(List BM)) (k l:LI) (c:yR→OA) (B:qs):OA:=match B with | b=>bif decide ((↑a.length:Int) > 0) then bif decide ((0:Int)≤(0:Int)∧(0:Int) < (↑a.length:Int)) then (u (0) (i64.wrap ((a.getD (Int.toNat 0) ((0,0,[]),0)).fst.snd.fst - b4)) m n o p q r s t d e f g h i j k l (fun (T,U,V,W,X,Y,a0,a1,a2,a3,w,x,y,z,A,C,D)=>(yW Z (a,(a.getD (Int.toNat 0) ((0,0,[]),0)).fst.snd.fst,(a.getD (Int.toNat 0) ((0,0,[]),0)).fst.snd.fst,0,T,U,V,W,X,Y,a0,a1,a2,a3,w,x,y,z,A,C,D) (fun (a4,a5,a6,a7,a8,a9,b0,b1,b2,b3,E,F,G,H,I,J,K,L,M)=>(v (48) (true) (0) G H I J L M (fun (b6,N,O,P,Q,R,S)=>c (a4,a5,a6,a7,a8,a9,b0,b1,b2,b3,E,F,N,O,P,Q,K,R,S))))))) else none else b (m,n,o,p,q,r,s,t,d,e,f,g,h,i,j,k,l)
def cT (Z:Nat) (v:(List (BM×Int))×Int×Int×Int×Int×Bool×Int×Int×Int×Int×Int×Int×Int×Int×Int×Bool×(List BM)×LI×LI) (c:((List (BM×Int))×Int×Int×Int×Int×Bool×Int×Int×Int×Int×Int×Int×Int×Int×Int×Bool×(List BM)×LI×LI)→OA) (B:(Int×Int×Int×Bool×Int×Int×Int×Int×Int×Int×Int×Int×Int×Bool×(List BM)×LI×LI→OA)):OA:=match v with | (k,l,m,n,o,p,q,r,s,t,a,b,d,e,f,g,h,i,j)=>gR Z (av Z) (cF Z) (bx Z) k l m n o p q r s t a b d e f g h i j c B
def BH (Z:Nat) (v:yR) (b:qs):OA:=iter (cT Z) Z v b
def mc (Z:Nat) (i:Nat):Option Ev.Blk:=Ev.look i [(100002,gJ Z)]
def td (v:yR):Ev.St:=match v with | (k,l,m,n,o,p,q,r,s,t,a,b,d,e,f,g,h,i,j)=>⟨[(0,.c (.ptr 0 0)),(1,.c (.sl (.pair tq ti) k)),(4,.c (i6 l))],[(0,.cells 76 [i6 m,i6 n,i6 o,.bool p,i6 q,i6 r,i6 s,i6 t,i6 a,i6 b,.ptr 1 0,.own 2]),(1,.cells 138 (i6 d::.own 3::ctb (.int .u64 e::.int .u64 f::.own 4::.bool g::[]))),(2,.vec 29 tq h true),(3,.vec 3 ti i false),(4,.vec 5 (.int .u8) j true)],5,5⟩
def uH (K:KT):qs:=(fun v=>match v with | (h,i,j,k,l,m,n,o,p,q,a,b,c,d,e,f,g)=>K .normal ⟨[],[(0,.cells 76 [i6 h,i6 i,i6 j,.bool k,i6 l,i6 m,i6 n,i6 o,i6 p,i6 q,.ptr 1 0,.own 2]),(1,.cells 138 (i6 a::.own 3::ctb (.int .u64 b::.int .u64 c::.own 4::.bool d::[]))),(2,.vec 29 tq e true),(3,.vec 3 ti f false),(4,.vec 5 (.int .u8) g true)],5,5⟩)
theorem JT (Z:Nat) (a:aK) (b:eE) (c:ch) (R:Ev.St→OA) (K:KT) (m:(List (BM×Int))) (n o:Int) (p q:Int) (r:Bool) (s t:Int) (u w:Int) (d e:Int) (f g h:Int) (i:Bool) (j:(List BM)) (k l:LI):evalCode tab (nJ a b c) (mc Z) cV Z (bodyOf 0 Tryz.f31) (td (m,n,o,p,q,r,s,t,u,w,d,e,f,g,h,i,j,k,l)) (lc cV 1 0 R K)=gR Z a b c m n o p q r s t u w d e f g h i j k l (fun v=>R (td v)) (uH K):=by
 kernel_rfl
def mb (Z:Nat):Ev.Blk:=fun st K=>match canonO (cV 1) st with | some s=>(match s with | ⟨[(y,.c (.ptr z A)),(B,.c (.sl (.pair tq ti) C)),(D,.c (i6 E))],[(F,.cells G [i6 H,i6 I,i6 J,.bool L,i6 M,i6 N,i6 O,i6 P,i6 a,i6 b,.ptr Q R,.own S]),(d,.cells e f),(g,.vec h tq i true),(j,.vec k ti l false),(m,.vec n (.int .u8) o true)],p,q⟩=>(match splitRun 2 ctn f with | some ([i6 r,.own t],[.int .u64 u,.int .u64 v,.own w,.bool x])=>bif qb [y,z,A,B,D,F,G,Q,R,S,d,e,g,h,j,k,m,n,p,q,t,w] [0,0,0,1,4,0,76,1,0,2,1,138,2,29,3,3,4,5,5,5,3,4] then iter (cT Z) Z (C,E,H,I,J,L,M,N,O,P,a,b,r,u,v,x,i,l,o) (uH K) else none | _=>none) | _=>none) | none=>none
theorem IJ (Z:Nat) (st:Ev.St) (K:KT) (r:Ans) (h:mb Z st K=some r):evalCode tab (ws Z) (mc Z) cV Z (.block 0 (.loop (bodyOf 0 Tryz.f31))) st K=some r:=by
 unfold mb at h
 split at h
 ·rename_i s hs
  split at h
  ·skip
   split at h
   rotate_left 1
   ·cases h
   rename_i hsp
   have esp:=splitRun_eq hsp
   subst esp
   obtain ⟨hb,h⟩:=cond_some' h
   cases qb_eq hb
   exact blk_loop (S:=td) (ks:=uH) (step:=cT Z) (v:=(_,_,_,_,_,_,_,_,_,_,_,_,_,_,_,_,_,_,_)) kr kr (fun R K v=>by obtain ⟨k,l,m,n,o,p,q,t,u,w,a,b,c,d,e,f,g,i,j⟩:=v; exact JT Z (av Z) (cF Z) (bx Z) R K k l m n o p q t u w a b c d e f g i j) hs h
  ·cases h
 ·cases h
def F9 (Z:Nat) (i:Nat):Option Ev.Blk:=Ev.look i [(100002,gJ Z),(100000,mb Z)]
def qe (Z:Nat) (J:aK) (K:eE) (L:ch) (z:(List (BM×Int))) (A B C:Int) (D:Bool) (E F:Int) (G H:Int) (I r:Int) (s t u:Int) (v:Bool) (w:(List BM)) (x y:LI) (k0:(Int×Int×Int×Bool×Int×Int×Int×Int×Int×Int×Int×Int×Int×Bool×(List BM)×LI×LI)→OA):OA:=(BH Z (z,0,A,B,C,D,E,F,G,H,I,r,s,t,u,v,w,x,y) (fun (h,i,j,k,l,m,n,o,p,q,a,b,c,d,e,f,g)=>k0 (h,i,j,k,l,m,n,o,p,q,a,b,c,d,e,f,g)))
abbrev jM:Type:=((List (BM×Int)))→Int→Int→Int→Bool→Int→Int→Int→Int→Int→Int→Int→Int→Int→Bool→((List BM))→LI→LI→((Int×Int×Int×Bool×Int×Int×Int×Int×Int×Int×Int×Int×Int×Bool×(List BM)×LI×LI)→OA)→OA
def fD (Z:Nat):jM:=qe Z (av Z) (cF Z) (bx Z)
theorem Kx (Z:Nat) (a:aK) (b:eE) (d:ch) (n:(List (BM×Int))) (o p q:Int) (s:Bool) (t u:Int) (v w:Int) (x e:Int) (f g h:Int) (i:Bool) (j:(List BM)) (l m:LI) (k:Ev.Cont):evalFn tab (nJ a b d) (F9 Z) cV Z Tryz.f31 [.c (.ptr 0 0),.c (.sl (.pair tq ti) n)] [.cells 76 [i6 o,i6 p,i6 q,.bool s,i6 t,i6 u,i6 v,i6 w,i6 x,i6 e,.ptr 1 0,.own 2],.cells 138 (i6 f::.own 3::ctb (.int .u64 g::.int .u64 h::.own 4::.bool i::[])),.vec 29 tq j false,.vec 3 ti l false,.vec 5 (.int .u8) m false] k=qe Z a b d n o p q s t u v w x e f g h i j l m (fun r=>match r with | (F,G,H,I,J,K,L,M,N,O,y,z,A,B,C,D,E)=>k (.tup [],[.cells 76 [i6 F,i6 G,i6 H,.bool I,i6 J,i6 K,i6 L,i6 M,i6 N,i6 O,.ptr 1 0,.own 2],.cells 138 (i6 y::.own 3::ctb (.int .u64 z::.int .u64 A::.own 4::.bool B::[])),.vec 29 tq C true,.vec 3 ti D false,.vec 5 (.int .u8) E true])):=by
 kernel_rfl
theorem uy (Z:Nat):GOK prog (ws Z):=
 gc (xL Z) func78 kr rfl <|
 gc (Mb Z) func79 kr rfl <|
 gc (qu Z) func80 kr rfl <|
 gok_nil
theorem NS (Z:Nat):BlkOK prog Tryz.f31.ntmps (.block 2 (.loop (bodyOf 2 Tryz.f31))) (gJ Z):=bo0 (uy Z) kr kr (Pm Z)
theorem Pn (Z:Nat):BlkOK prog Tryz.f31.ntmps (.block 0 (.loop (bodyOf 0 Tryz.f31))) (mb Z):=
 blk_of (blk_of_code tab_ok (uy Z) mixed (J:=mc Z) (kp:=cV) (fuel:=Z) kr (fun q hq=>by
  rw [(by kernel_rfl:obl (mc Z) (.block 0 (.loop (bodyOf 0 Tryz.f31)))= [(.block 2 (.loop (bodyOf 2 Tryz.f31)),gJ Z)])] at hq
  simp only [List.mem_cons,List.not_mem_nil,or_false] at hq
  subst hq
  ·exact NS Z)) (IJ Z)
def yN (F:jM):Ev.Spec:=fun args objs k=>match args,objs with | [.c (.ptr v w),.c (.sl (.pair tq ti) x)],[.cells y [i6 z,i6 A,i6 B,.bool C,i6 D,i6 E,i6 G,i6 H,i6 I,i6 a,.ptr J K,.own L],.cells M b,.vec N tq d false,.vec O ti e false,.vec P (.int .u8) f false]=>(match splitRun 2 ctn b with | some ([i6 g,.own h],[.int .u64 i,.int .u64 j,.own l,.bool m])=>bif qb [v,w,y,J,K,L,M,N,O,P,h,l] [0,0,76,1,0,2,138,29,3,5,3,4] then F x z A B C D E G H I a g i j m d e f (fun r=>match r with | (Q,R,S,T,U,V,W,X,Y,a0,n,o,p,q,s,t,u)=>k (.tup [],[.cells 76 [i6 Q,i6 R,i6 S,.bool T,i6 U,i6 V,i6 W,i6 X,i6 Y,i6 a0,.ptr 1 0,.own 2],.cells 138 (i6 n::.own 3::ctb (.int .u64 o::.int .u64 p::.own 4::.bool q::[])),.vec 29 tq s true,.vec 3 ti t false,.vec 5 (.int .u8) u true])) else none | _=>none) | _,_=>none
theorem Ky (Z:Nat):FnOK prog 31 (yN (fD Z)):=by
 intro args objs kk r h
 unfold yN at h
 split at h
 ·skip
  split at h
  rotate_left 1
  ·cases h
  rename_i hsp
  have esp:=splitRun_eq hsp
  subst esp
  obtain ⟨hb,h⟩:=cond_some' h
  cases qb_eq hb
  exact fo1 (uy Z) func31 rfl (Pn Z) kr _ _ kk r ((Kx Z (av Z) (cF Z) (bx Z) _ _ _ _ _ _ _ _ _ _ _ _ _ _ _ _ _ _ kk).trans h)
 ·cases h
def JE (i:Nat):Option (List Nat):=Ev.look i [(200010,[14]),(200013,[14])]
def Cg (e:cX) (g:cc) (h:bN) (i:jW) (j:da) (k:ba) (a:jM) (b:iW) (c:iY) (l:cE) (d:aC) (f:Nat):Option Ev.Spec:=Ev.look f [(25,na e),(26,ol g),(27,kQ h),(28,ve i),(29,mG j),(30,kf k),(31,yN a),(32,tx b),(33,wA c),(34,ly l),(35,fp d)]
def PV (Z:Nat):Nat→Option Ev.Spec:=Cg (cw Z) (bR Z) (bt Z) (gU Z) (ct Z) (aF Z) (fD Z) (gL Z) (gW Z) (cu Z) (am Z)
def oS (Z:Nat) (s2:cX) (s3:cc) (w:bN) (x:jW) (y:da) (c:ba) (s:jM) (t:iW) (u:iY) (z:cE) (v:aC) (j k l:Int) (m:Bool) (n o p:Int) (q:LI) (a:(List (Int×Int×LI))) (d:(List ((Int×Int×LI)×Int))) (b:(List Bool)) (k0:(Int×Int×LI×LI)→OA):OA:=(s2 j k l m n o p q a (fun e=>bif e==0 then (s3 a d (fun r=>bif r==0 then bif (↑b.length:Int) != i64.wrap ((↑a.length:Int)+(↑d.length:Int)) then k0 (0,2,[],[]) else bif r != 0 then k0 (0,r,[],[]) else (w j k l m n o ((↑b.length:Int)) (fun (f,g,M,N,O,P,Q,R,S,T)=>(y f g M N O P Q R S T p q (fun (d3,U)=>(x d3 U (fun c9=>(c a (fun k4=>none))) (fun (s6,n2,n3,n4,n5,n6,n7)=>(c a (fun k4=>(s d f g M N O P Q R S T n2 n3 n4 n5 k4 n6 n7 (fun (d4,d5,d6,d7,d8,d9,e0,e1,e2,e3,A,B,C,D,d1,E,F)=>(t b d4 d5 d6 d7 d8 d9 e0 e1 e2 e3 A B C D d1 E F (fun (e4,e5,e6,e7,e8,e9,g0,s7,s8,s9,k6,k7,k8,k9,s4,l0,l1)=>(u k6 k7 k8 k9 l0 l1 (fun (V,g1,g2,g3,g4,g5,g6)=>(v V g1 g2 g3 g4 g5 (fun (W,g7,t0,t1,t2,t3,t4,n8)=>(z f g M N O P Q R S T W n8 (fun (n9,o0)=>k0 (n9,0,g6,o0))))))))))))))))))) else bif r != 0 then k0 (0,r,[],[]) else (w j k l m n o ((↑b.length:Int)) (fun (h,i,X,Y,a0,a1,a2,a3,a4,a5)=>(y h i X Y a0 a1 a2 a3 a4 a5 p q (fun (g8,a6)=>(x g8 a6 (fun d0=>(c a (fun k5=>none))) (fun (t5,o1,o2,o3,o4,o5,o6)=>(c a (fun k5=>(s d h i X Y a0 a1 a2 a3 a4 a5 o1 o2 o3 o4 k5 o5 o6 (fun (g9,h0,h1,h2,h3,h4,h5,h6,h7,h8,G,H,I,J,d2,K,L)=>(t b g9 h0 h1 h2 h3 h4 h5 h6 h7 h8 G H I J d2 K L (fun (h9,j0,j1,j2,j3,j4,j5,t6,t7,t8,l2,l3,l4,l5,s5,l6,l7)=>(u l2 l3 l4 l5 l6 l7 (fun (a7,j6,j7,j8,j9,k1,k2)=>(v a7 j6 j7 j8 j9 k1 (fun (a8,k3,t9,v0,v1,v2,v3,o7)=>(z h i X Y a0 a1 a2 a3 a4 a5 a8 o7 (fun (o8,o9)=>k0 (o8,0,k2,o9))))))))))))))))))))) else bif e==0 then bif (↑b.length:Int) != i64.wrap ((↑a.length:Int)+(↑d.length:Int)) then k0 (0,2,[],[]) else bif e != 0 then k0 (0,e,[],[]) else (w j k l m n o ((↑b.length:Int)) (fun (a9,b0,b1,b2,b3,b4,b5,b6,b7,b8)=>(y a9 b0 b1 b2 b3 b4 b5 b6 b7 b8 p q (fun (f,g)=>(x f g (fun v4=>(c a (fun c9=>none))) (fun (d3,U,p0,p1,p2,p3,p4)=>(c a (fun c9=>(s d a9 b0 b1 b2 b3 b4 b5 b6 b7 b8 U p0 p1 p2 c9 p3 p4 (fun (p5,p6,p7,p8,p9,q0,q1,q2,q3,q4,l8,l9,m0,m1,m2,m3,m4)=>(t b p5 p6 p7 p8 p9 q0 q1 q2 q3 q4 l8 l9 m0 m1 m2 m3 m4 (fun (d4,d5,d6,d7,d8,d9,e0,e1,e2,e3,A,B,C,D,d1,E,F)=>(u A B C D E F (fun (e4,e5,e6,e7,e8,e9,g0)=>(v e4 e5 e6 e7 e8 e9 (fun (V,g1,g2,g3,g4,g5,g6,q5)=>(z a9 b0 b1 b2 b3 b4 b5 b6 b7 b8 V q5 (fun (W,g7)=>k0 (W,0,g0,g7))))))))))))))))))) else bif e != 0 then k0 (0,e,[],[]) else (w j k l m n o ((↑b.length:Int)) (fun (b9,c0,c1,c2,c3,c4,c5,c6,c7,c8)=>(y b9 c0 c1 c2 c3 c4 c5 c6 c7 c8 p q (fun (h,i)=>(x h i (fun v5=>(c a (fun d0=>none))) (fun (g8,a6,q6,q7,q8,q9,r0)=>(c a (fun d0=>(s d b9 c0 c1 c2 c3 c4 c5 c6 c7 c8 a6 q6 q7 q8 d0 q9 r0 (fun (r1,r2,r3,r4,r5,r6,r7,r8,r9,s0,m5,m6,m7,m8,m9,n0,n1)=>(t b r1 r2 r3 r4 r5 r6 r7 r8 r9 s0 m5 m6 m7 m8 m9 n0 n1 (fun (g9,h0,h1,h2,h3,h4,h5,h6,h7,h8,G,H,I,J,d2,K,L)=>(u G H I J K L (fun (h9,j0,j1,j2,j3,j4,j5)=>(v h9 j0 j1 j2 j3 j4 (fun (a7,j6,j7,j8,j9,k1,k2,s1)=>(z b9 c0 c1 c2 c3 c4 c5 c6 c7 c8 a7 s1 (fun (a8,k3)=>k0 (a8,0,j5,k3)))))))))))))))))))))
abbrev bi:Type:=Int→Int→Int→Bool→Int→Int→Int→LI→((List (Int×Int×LI)))→((List ((Int×Int×LI)×Int)))→((List Bool))→((Int×Int×LI×LI)→OA)→OA
def aW (Z:Nat):bi:=oS Z (cw Z) (bR Z) (bt Z) (gU Z) (ct Z) (aF Z) (fD Z) (gL Z) (gW Z) (cu Z) (am Z)
theorem Nd (Z:Nat) (f:cX) (g:cc) (h:bN) (i:jW) (j:da) (l:ba) (a:jM) (b:iW) (d:iY) (m:cE) (e:aC) (o p q:Int) (s:Bool) (t u v:Int) (w:LI) (x:(List (Int×Int×LI))) (y:(List ((Int×Int×LI)×Int))) (n:(List Bool)) (k:Ev.Cont):evalFn tab (Cg f g h i j l a b d m e) J0 JE Z Tryz.f11 [.agg [i6 o,i6 p,i6 q,.bool s,i6 t,i6 u],.agg [i6 v,.sl ti w],.c (.sl tq x),.c (.sl (.pair tq ti) y),.c (.sl .bool n)] [] k=oS Z f g h i j l a b d m e o p q s t u v w x y n (fun r=>match r with | (z,A,B,C)=>k (.tup [(false,[.own 0]),(true,[i6 z,.own 1]),(false,[i6 A])],[.vec 5 (.int .u8) B true,.vec 3 ti C true])):=by
 kernel_rfl
theorem PK (Z:Nat):GOK prog (PV Z):=
 gc (Dm Z) func25 kr rfl <|
 gc (DX Z) func26 kr rfl <|
 gc (qL Z) func27 kr rfl <|
 gc (P0 Z) func28 kr rfl <|
 gc (zp Z) func29 kr rfl <|
 gc (pA Z) func30 kr rfl <|
 gc (Ky Z) func31 kr rfl <|
 gc (Fj Z) func32 kr rfl <|
 gc (DB Z) func33 kr rfl <|
 gc (CP Z) func34 kr rfl <|
 gc (ij Z) func35 kr rfl <|
 gok_nil
def ud (F:bi):Ev.Spec:=fun args objs k=>match args,objs with | [.agg [i6 b,i6 d,i6 e,.bool f,i6 g,i6 h],.agg [i6 i,.sl ti j],.c (.sl tq l),.c (.sl (.pair tq ti) m),.c (.sl .bool a)],[]=>F b d e f g h i j l m a (fun r=>match r with | (n,o,p,q)=>k (.tup [(false,[.own 0]),(true,[i6 n,.own 1]),(false,[i6 o])],[.vec 5 (.int .u8) p true,.vec 3 ti q true])) | _,_=>none
theorem IS (Z:Nat):FnOK prog 11 (ud (aW Z)):=by
 intro args objs kk r h
 unfold ud at h
 split at h
 ·skip
  exact fo0 (PK Z) func11 rfl kr _ _ kk r ((Nd Z (cw Z) (bR Z) (bt Z) (gU Z) (ct Z) (aF Z) (fD Z) (gL Z) (gW Z) (cu Z) (am Z) _ _ _ _ _ _ _ _ _ _ _ kk).trans h)
 ·cases h
def O8 (i:Nat):Option (List Nat):=Ev.look i []
def Eb (a:aP) (f:Nat):Option Ev.Spec:=Ev.look f [(43,iv a)]
def Ho (Z:Nat):Nat→Option Ev.Spec:=Eb (aH Z)
def yp (Z:Nat) (a:aP) (b c:Int) (d:LI) (k0:(Bool)→OA):OA:=(a b c d (fun e=>k0 !e))
abbrev eY:Type:=Int→Int→LI→(Bool→OA)→OA
def fz (Z:Nat):eY:=yp Z (aH Z)
theorem HX (Z:Nat) (a:aP) (b d:Int) (e:LI) (k:Ev.Cont):evalFn tab (Eb a) J0 O8 Z Tryz.f42 [.agg [i6 b,i6 d,.sl (.int .u8) e]] [] k=yp Z a b d e (fun r=>match r with | f=>k (.c (.bool f),[])):=by
 kernel_rfl
theorem Jo (Z:Nat):GOK prog (Ho Z):=
 gc (kZ Z) func43 kr rfl <|
 gok_nil
def qm (F:eY):Ev.Spec:=fun args objs k=>match args,objs with | [.agg [i6 a,i6 b,.sl (.int .u8) d]],[]=>F a b d (fun r=>match r with | e=>k (.c (.bool e),[])) | _,_=>none
theorem PH (Z:Nat):FnOK prog 42 (qm (fz Z)):=by
 intro args objs kk r h
 unfold qm at h
 split at h
 ·skip
  exact fo0 (Jo Z) func42 rfl kr _ _ kk r ((HX Z (aH Z) _ _ _ kk).trans h)
 ·cases h
def iV (i:Nat):Option (List Nat):=Ev.look i [(2,[0,1,7,8]),(100000,[]),(400000,[4])]
def uk (a:eY) (f:Nat):Option Ev.Spec:=Ev.look f [(42,qm a)]
def Dg (Z:Nat):Nat→Option Ev.Spec:=uk (fz Z)
abbrev qK:Type:=(List BM)×Int×Int
abbrev zP:Type:=(Int→OA)×(Unit→OA)
def lt (Z:Nat) (f:eY) (d:(List BM)) (e a:Int) (c:qK→OA) (B:zP):OA:=match B with | (ret,b)=>bif decide (a < e) then bif decide (0≤a∧a < (↑d.length:Int)) then (f ((d.getD a.toNat (0,0,[])).fst) ((d.getD a.toNat (0,0,[])).snd.fst) ((d.getD a.toNat (0,0,[])).snd.snd) (fun g=>bif g then ret a else c (d,e,i64.wrap (a+1)))) else none else b ()
def dZ (Z:Nat) (v:(List BM)×Int×Int) (c:((List BM)×Int×Int)→OA) (B:(Int→OA)×(Unit→OA)):OA:=match v with | (a,b,d)=>lt Z (fz Z) a b d c B
def BG (Z:Nat) (v:qK) (ret:(Int→OA)) (b:(Unit→OA)):OA:=iter (dZ Z) Z v (ret,b)
def pq (v:qK):Ev.St:=match v with | (a,b,d)=>⟨[(0,.c (.sl tq a)),(1,.c (.clo 42 [])),(7,.c (i6 b)),(8,.c (i6 d))],[],0,0⟩
def tg (K:KT):zP:=((fun v=>match v with | a=>K .ret ⟨[(4,.c (i6 a))],[],0,0⟩),(fun v=>match v with | ()=>K .normal ⟨[],[],0,0⟩))
theorem In (Z:Nat) (a:eY) (R:Ev.St→OA) (K:KT) (b:(List BM)) (c d:Int):evalCode tab (uk a) J0 iV Z (bodyOf 0 Tryz.f89) (pq (b,c,d)) (lc iV 2 0 R K)=lt Z a b c d (fun v=>R (pq v)) (tg K):=by
 kernel_rfl
def lf (Z:Nat):Ev.Blk:=fun st K=>match canonO (iV 2) st with | some s=>(match s with | ⟨[(a,.c (.sl tq b)),(d,.c (.clo e [])),(f,.c (i6 g)),(h,.c (i6 i))],[],j,k⟩=>bif qb [a,d,e,f,h,j,k] [0,1,42,7,8,0,0] then iter (dZ Z) Z (b,g,i) (tg K) else none | _=>none) | none=>none
theorem N6 (Z:Nat) (st:Ev.St) (K:KT) (r:Ans) (h:lf Z st K=some r):evalCode tab (Dg Z) J0 iV Z (.block 0 (.loop (bodyOf 0 Tryz.f89))) st K=some r:=by
 unfold lf at h
 split at h
 ·rename_i s hs
  split at h
  ·skip
   obtain ⟨hb,h⟩:=cond_some' h
   cases qb_eq hb
   exact blk_loop (S:=pq) (ks:=tg) (step:=dZ Z) (v:=(_,_,_)) kr kr (fun R K v=>by obtain ⟨a,b,c⟩:=v; exact In Z (fz Z) R K a b c) hs h
  ·cases h
 ·cases h
def Ke (Z:Nat) (i:Nat):Option Ev.Blk:=Ev.look i [(100000,lf Z)]
def wO (Z:Nat) (b:eY) (a:(List BM)) (k0:(Int)→OA):OA:=(BG Z (a,(↑a.length:Int),0) (fun ret0_0=>k0 ret0_0) (fun ()=>k0 ((-1:Int))))
abbrev jO:Type:=((List BM))→(Int→OA)→OA
def jx (Z:Nat):jO:=wO Z (fz Z)
theorem GT (Z:Nat) (a:eY) (b:(List BM)) (k:Ev.Cont):evalFn tab (uk a) (Ke Z) iV Z Tryz.f89 [.c (.sl tq b),.c (.clo 42 [])] [] k=wO Z a b (fun r=>match r with | d=>k (.c (i6 d),[])):=by
 kernel_rfl
theorem CU (Z:Nat):GOK prog (Dg Z):=
 gc (PH Z) func42 kr rfl <|
 gok_nil
theorem KB (Z:Nat):BlkOK prog Tryz.f89.ntmps (.block 0 (.loop (bodyOf 0 Tryz.f89))) (lf Z):=bo0 (CU Z) kr kr (N6 Z)
def xG (F:jO):Ev.Spec:=fun args objs k=>match args,objs with | [.c (.sl tq a),.c (.clo b [])],[]=>bif qb [b] [42] then F a (fun r=>match r with | d=>k (.c (i6 d),[])) else none | _,_=>none
theorem NT (Z:Nat):FnOK prog 89 (xG (jx Z)):=by
 intro args objs kk r h
 unfold xG at h
 split at h
 ·skip
  obtain ⟨hb,h⟩:=cond_some' h
  cases qb_eq hb
  exact fo1 (CU Z) func89 rfl (KB Z) kr _ _ kk r ((GT Z (fz Z) _ kk).trans h)
 ·cases h
def Gt (i:Nat):Option (List Nat):=Ev.look i []
def By (a:jO) (f:Nat):Option Ev.Spec:=Ev.look f [(89,xG a)]
def NW (Z:Nat):Nat→Option Ev.Spec:=By (jx Z)
def rU (Z:Nat) (a:jO) (b:(List BM)) (k0:(Bool)→OA):OA:=(a b (fun c=>k0 (decide (c≥0))))
abbrev dB:Type:=((List BM))→(Bool→OA)→OA
def cG (Z:Nat):dB:=rU Z (jx Z)
theorem Oc (Z:Nat) (a:jO) (b:(List BM)) (k:Ev.Cont):evalFn tab (By a) J0 Gt Z Tryz.f41 [.c (.sl tq b),.c (.clo 42 [])] [] k=rU Z a b (fun r=>match r with | d=>k (.c (.bool d),[])):=by
 kernel_rfl
theorem PJ (Z:Nat):GOK prog (NW Z):=
 gc (NT Z) func89 kr rfl <|
 gok_nil
def tc (F:dB):Ev.Spec:=fun args objs k=>match args,objs with | [.c (.sl tq a),.c (.clo b [])],[]=>bif qb [b] [42] then F a (fun r=>match r with | d=>k (.c (.bool d),[])) else none | _,_=>none
theorem E6 (Z:Nat):FnOK prog 41 (tc (cG Z)):=by
 intro args objs kk r h
 unfold tc at h
 split at h
 ·skip
  obtain ⟨hb,h⟩:=cond_some' h
  cases qb_eq hb
  exact fo0 (PJ Z) func41 rfl kr _ _ kk r ((Oc Z (jx Z) _ kk).trans h)
 ·cases h
def L1 (i:Nat):Option (List Nat):=Ev.look i []
def MN (f:Nat):Option Ev.Spec:=Ev.look f []
def zA (Z:Nat):Nat→Option Ev.Spec:=MN
def fw (Z:Nat) (a:LI) (k0:(LI)→OA):OA:=bif decide ((↑a.length:Int)=0) then both (k0 []) (bif decide (((0:Nat)+a.length)*(1:Nat)≤(140737488355328:Nat)∧(0:Nat)+a.length≤(140737488355328:Nat)) then k0 ([]++a) else none) else bif decide (((0:Nat)+a.length)*(1:Nat)≤(140737488355328:Nat)∧(0:Nat)+a.length≤(140737488355328:Nat)) then k0 ([]++a) else none
abbrev lq:Type:=LI→(LI→OA)→OA
theorem NX (Z:Nat) (a:LI) (k:Ev.Cont):evalFn tab (zA Z) J0 L1 Z Tryz.f91 [.c (.sl (.int .u8) a)] [] k=fw Z a (fun r=>match r with | b=>k (.c (.own 0),[.vec 5 (.int .u8) b true])):=by
 kernel_rfl
theorem KD (Z:Nat):GOK prog (zA Z):=
 gok_nil
def pJ (F:lq):Ev.Spec:=fun args objs k=>match args,objs with | [.c (.sl (.int .u8) a)],[]=>F a (fun r=>match r with | b=>k (.c (.own 0),[.vec 5 (.int .u8) b true])) | _,_=>none
theorem FN (Z:Nat):FnOK prog 91 (pJ (fw Z)):=by
 intro args objs kk r h
 unfold pJ at h
 split at h
 ·skip
  exact fo0 (KD Z) func91 rfl kr _ _ kk r ((NX Z _ kk).trans h)
 ·cases h
def G1 (i:Nat):Option (List Nat):=Ev.look i []
def CG (a:lq) (f:Nat):Option Ev.Spec:=Ev.look f [(91,pJ a)]
def HQ (Z:Nat):Nat→Option Ev.Spec:=CG (fw Z)
def rO (Z:Nat) (a:lq) (b c:Int) (d:LI) (k0:(Int×Int×LI)→OA):OA:=(a d (fun e=>k0 (b,c,e)))
abbrev dt:Type:=Int→Int→LI→((Int×Int×LI)→OA)→OA
def dg (Z:Nat):dt:=rO Z (fw Z)
theorem KV (Z:Nat) (a:lq) (b c:Int) (d:LI) (k:Ev.Cont):evalFn tab (CG a) J0 G1 Z Tryz.f44 [.agg [i6 b,i6 c,.sl (.int .u8) d]] [] k=rO Z a b c d (fun r=>match r with | (e,f,g)=>k (.agg [i6 e,i6 f,.own 0],[.vec 5 (.int .u8) g true])):=by
 kernel_rfl
theorem FI (Z:Nat):GOK prog (HQ Z):=
 gc (FN Z) func91 kr rfl <|
 gok_nil
def yx (F:dt):Ev.Spec:=fun args objs k=>match args,objs with | [.agg [i6 a,i6 b,.sl (.int .u8) c]],[]=>F a b c (fun r=>match r with | (d,e,f)=>k (.agg [i6 d,i6 e,.own 0],[.vec 5 (.int .u8) f true])) | _,_=>none
theorem Ib (Z:Nat):FnOK prog 44 (yx (dg Z)):=by
 intro args objs kk r h
 unfold yx at h
 split at h
 ·skip
  exact fo0 (FI Z) func44 rfl kr _ _ kk r ((KV Z (fw Z) _ _ _ kk).trans h)
 ·cases h
def cU (i:Nat):Option (List Nat):=Ev.look i [(10,[2,9,33,34,35]),(16,[9,12,45,46,47]),(100000,[2,9]),(100002,[12]),(400000,[6,7]),(400002,[6,7])]
def lJ (b:cc) (c:ba) (a:dB) (d:dt) (f:Nat):Option Ev.Spec:=Ev.look f [(26,ol b),(30,kf c),(41,tc a),(44,yx d)]
def nc (Z:Nat):Nat→Option Ev.Spec:=lJ (bR Z) (aF Z) (cG Z) (dg Z)
abbrev uQ:Type:=(List Bool)×(List (BM×Int))×Int×Int×(List BM)
abbrev uG:Type:=((List Bool)×(List BM)→OA)
def mI (Z:Nat) (i:cc) (j:ba) (h:dB) (k:dt) (f:(List Bool)) (d:(List (BM×Int))) (g a:Int) (e:(List BM)) (c:uQ→OA) (B:uG):OA:=match B with | b=>bif decide (a < g) then bif decide (0≤a∧a < (↑d.length:Int)) then bif decide ((e.length+(1:Nat))*(40:Nat)≤(140737488355328:Nat)∧e.length+(1:Nat)≤(140737488355328:Nat)) then c (f,d,g,i64.wrap (a+(1:Int)),e++ [((d.getD a.toNat (((0:Int),(0:Int),[]),(0:Int))).fst.fst,(d.getD a.toNat (((0:Int),(0:Int),[]),(0:Int))).fst.snd.fst,(d.getD a.toNat (((0:Int),(0:Int),[]),(0:Int))).fst.snd.snd)]) else none else none else b (f,e)
def gn (Z:Nat) (v:(List Bool)×(List (BM×Int))×Int×Int×(List BM)) (c:((List Bool)×(List (BM×Int))×Int×Int×(List BM))→OA) (B:((List Bool)×(List BM)→OA)):OA:=match v with | (a,b,d,e,f)=>mI Z (bR Z) (aF Z) (cG Z) (dg Z) a b d e f c B
def vl (Z:Nat) (v:uQ) (b:uG):OA:=iter (gn Z) Z v b
def yl (v:uQ):Ev.St:=match v with | (a,b,d,e,f)=>⟨[(2,.c (.sl .bool a)),(9,.c (.own 0)),(33,.c (.sl (.pair tq ti) b)),(34,.c (i6 d)),(35,.c (i6 e))],[(0,.vec 29 tq f true)],1,0⟩
def rk (K:KT):uG:=(fun v=>match v with | (a,b)=>K .normal ⟨[(2,.c (.sl .bool a)),(9,.c (.own 0))],[(0,.vec 29 tq b true)],1,0⟩)
theorem ON (Z:Nat) (b:cc) (c:ba) (a:dB) (d:dt) (R:Ev.St→OA) (K:KT) (e:(List Bool)) (f:(List (BM×Int))) (g h:Int) (i:(List BM)):evalCode tab (lJ b c a d) J0 cU Z (bodyOf 0 Tryz.f14) (yl (e,f,g,h,i)) (lc cU 10 0 R K)=mI Z b c a d e f g h i (fun v=>R (yl v)) (rk K):=by
 kernel_rfl
def iw (Z:Nat):Ev.Blk:=fun st K=>match canonO (cU 10) st with | some s=>(match s with | ⟨[(a,.c (.sl .bool b)),(d,.c (.own e)),(f,.c (.sl (.pair tq ti) g)),(h,.c (i6 i)),(j,.c (i6 k))],[(l,.vec m tq n true)],o,p⟩=>bif qb [a,d,e,f,h,j,l,m,o,p] [2,9,0,33,34,35,0,29,1,0] then iter (gn Z) Z (b,g,i,k,n) (rk K) else none | _=>none) | none=>none
theorem HP (Z:Nat) (st:Ev.St) (K:KT) (r:Ans) (h:iw Z st K=some r):evalCode tab (nc Z) J0 cU Z (.block 0 (.loop (bodyOf 0 Tryz.f14))) st K=some r:=by
 unfold iw at h
 split at h
 ·rename_i s hs
  split at h
  ·skip
   obtain ⟨hb,h⟩:=cond_some' h
   cases qb_eq hb
   exact blk_loop (S:=yl) (ks:=rk) (step:=gn Z) (v:=(_,_,_,_,_)) kr kr (fun R K v=>by obtain ⟨a,b,c,d,e⟩:=v; exact ON Z (bR Z) (aF Z) (cG Z) (dg Z) R K a b c d e) hs h
  ·cases h
 ·cases h
abbrev qi:Type:=(List Bool)×Int×Int×(List BM)×(List BM)
abbrev pB:Type:=((List BM)→OA)
def om (Z:Nat) (m:cc) (n:ba) (l:dB) (k:dt) (f:(List Bool)) (g a:Int) (d:(List BM)) (e:(List BM)) (c:qi→OA) (B:pB):OA:=match B with | b=>bif decide (a < g) then bif decide (0≤a∧a < (↑f.length:Int)) then bif f.getD a.toNat false then bif decide (0≤a∧a < (↑d.length:Int)) then (k ((d.getD a.toNat (0,0,[])).fst) ((d.getD a.toNat (0,0,[])).snd.fst) ((d.getD a.toNat (0,0,[])).snd.snd) (fun (h,i,j)=>bif decide ((e.length+(1:Nat))*(40:Nat)≤(140737488355328:Nat)∧e.length+(1:Nat)≤(140737488355328:Nat)) then c (f,g,i64.wrap (a+(1:Int)),d,e++ [(h,i,j)]) else none)) else none else c (f,g,i64.wrap (a+1),d,e) else none else b e
def gM (Z:Nat) (v:(List Bool)×Int×Int×(List BM)×(List BM)) (c:((List Bool)×Int×Int×(List BM)×(List BM))→OA) (B:((List BM)→OA)):OA:=match v with | (a,b,d,e,f)=>om Z (bR Z) (aF Z) (cG Z) (dg Z) a b d e f c B
def Dx (Z:Nat) (v:qi) (b:pB):OA:=iter (gM Z) Z v b
def zJ (Z:Nat) (i:Nat):Option Ev.Blk:=Ev.look i [(100000,iw Z)]
def vj (v:qi):Ev.St:=match v with | (a,b,d,e,f)=>⟨[(9,.c (.own 0)),(12,.c (.own 1)),(45,.c (.sl .bool a)),(46,.c (i6 b)),(47,.c (i6 d))],[(0,.vec 29 tq e true),(1,.vec 29 tq f true)],2,0⟩
def wl (K:KT):pB:=(fun v=>match v with | a=>K .normal ⟨[(12,.c (.own 0))],[(0,.vec 29 tq a true)],1,0⟩)
theorem Kl (Z:Nat) (b:cc) (c:ba) (a:dB) (d:dt) (R:Ev.St→OA) (K:KT) (e:(List Bool)) (f g:Int) (h:(List BM)) (i:(List BM)):evalCode tab (lJ b c a d) (zJ Z) cU Z (bodyOf 2 Tryz.f14) (vj (e,f,g,h,i)) (lc cU 16 2 R K)=om Z b c a d e f g h i (fun v=>R (vj v)) (wl K):=by
 kernel_rfl
def jI (Z:Nat):Ev.Blk:=fun st K=>match canonO (cU 16) st with | some s=>(match s with | ⟨[(e,.c (.own f)),(g,.c (.own h)),(i,.c (.sl .bool j)),(k,.c (i6 l)),(m,.c (i6 n))],[(o,.vec p tq q true),(r,.vec a tq t true)],b,d⟩=>bif qb [e,f,g,h,i,k,m,o,p,r,a,b,d] [9,0,12,1,45,46,47,0,29,1,29,2,0] then iter (gM Z) Z (j,l,n,q,t) (wl K) else none | _=>none) | none=>none
theorem Pu (Z:Nat) (st:Ev.St) (K:KT) (r:Ans) (h:jI Z st K=some r):evalCode tab (nc Z) (zJ Z) cU Z (.block 2 (.loop (bodyOf 2 Tryz.f14))) st K=some r:=by
 unfold jI at h
 split at h
 ·rename_i s hs
  split at h
  ·skip
   obtain ⟨hb,h⟩:=cond_some' h
   cases qb_eq hb
   exact blk_loop (S:=vj) (ks:=wl) (step:=gM Z) (v:=(_,_,_,_,_)) kr kr (fun R K v=>by obtain ⟨a,b,c,d,e⟩:=v; exact Kl Z (bR Z) (aF Z) (cG Z) (dg Z) R K a b c d e) hs h
  ·cases h
 ·cases h
def qh (Z:Nat) (i:Nat):Option Ev.Blk:=Ev.look i [(100000,iw Z),(100002,jI Z)]
def yH (Z:Nat) (i:cc) (j:ba) (f:dB) (m:dt) (a:(List (Int×Int×LI))) (b:(List ((Int×Int×LI)×Int))) (d:(List Bool)) (k0:(Int×(List BM))→OA):OA:=(f a (fun l=>bif l then k0 (30,[]) else (i a b (fun e=>bif e != 0 then k0 (e,[]) else bif (↑d.length:Int) != i64.wrap ((↑a.length:Int)+(↑b.length:Int)) then k0 (2,[]) else (j a (fun k=>(vl Z (d,b,(↑b.length:Int),0,k) (fun (c,g)=>(Dx Z (c,(↑c.length:Int),0,g,[]) (fun h=>k0 (0,h)))))))))))
abbrev bw:Type:=((List (Int×Int×LI)))→((List ((Int×Int×LI)×Int)))→((List Bool))→((Int×(List BM))→OA)→OA
def aU (Z:Nat):bw:=yH Z (bR Z) (aF Z) (cG Z) (dg Z)
theorem Gw (Z:Nat) (b:cc) (d:ba) (a:dB) (e:dt) (f:(List (Int×Int×LI))) (g:(List ((Int×Int×LI)×Int))) (h:(List Bool)) (k:Ev.Cont):evalFn tab (lJ b d a e) (qh Z) cU Z Tryz.f14 [.c (.sl tq f),.c (.sl (.pair tq ti) g),.c (.sl .bool h)] [] k=yH Z b d a e f g h (fun r=>match r with | (i,j)=>k (.tup [(false,[.own 0]),(false,[i6 i])],[.vec 29 tq j true])):=by
 kernel_rfl
theorem rS (Z:Nat):GOK prog (nc Z):=
 gc (DX Z) func26 kr rfl <|
 gc (pA Z) func30 kr rfl <|
 gc (E6 Z) func41 kr rfl <|
 gc (Ib Z) func44 kr rfl <|
 gok_nil
theorem MO (Z:Nat):BlkOK prog Tryz.f14.ntmps (.block 0 (.loop (bodyOf 0 Tryz.f14))) (iw Z):=bo0 (rS Z) kr kr (HP Z)
theorem P5 (Z:Nat):BlkOK prog Tryz.f14.ntmps (.block 2 (.loop (bodyOf 2 Tryz.f14))) (jI Z):=bo0 (rS Z) kr kr (Pu Z)
theorem N7 (Z:Nat):FnOK prog 14 (evalFn tab (nc Z) (qh Z) cU Z Tryz.f14):=
 fn_ok tab_ok (rS Z) mixed func14 (c:=(Tryz.f14.body).getD .skip) rfl (fun q hq=>by
  rw [(by kernel_rfl:obl (qh Z) ((Tryz.f14.body).getD .skip)= [(.block 0 (.loop (bodyOf 0 Tryz.f14)),iw Z),(.block 2 (.loop (bodyOf 2 Tryz.f14)),jI Z)])] at hq
  simp only [List.mem_cons,List.not_mem_nil,or_false] at hq
  rcases hq with rfl | rfl
  ·exact MO Z
  ·exact P5 Z)
def yg (F:bw):Ev.Spec:=fun args objs k=>match args,objs with | [.c (.sl tq a),.c (.sl (.pair tq ti) b),.c (.sl .bool d)],[]=>F a b d (fun r=>match r with | (e,f)=>k (.tup [(false,[.own 0]),(false,[i6 e])],[.vec 29 tq f true])) | _,_=>none
theorem KA (Z:Nat):FnOK prog 14 (yg (aU Z)):=by
 intro args objs kk r h
 unfold yg at h
 split at h
 ·skip
  exact N7 Z _ _ kk r ((Gw Z (bR Z) (aF Z) (cG Z) (dg Z) _ _ _ kk).trans h)
 ·cases h
def OY (i:Nat):Option (List Nat):=Ev.look i []
def Ab (a:aP) (f:Nat):Option Ev.Spec:=Ev.look f [(43,iv a)]
def Mr (Z:Nat):Nat→Option Ev.Spec:=Ab (aH Z)
def xY (Z:Nat) (a:aP) (b c:Int) (d:LI) (k0:(Bool)→OA):OA:=(a b c d (fun e=>k0 !e))
abbrev eQ:Type:=Int→Int→LI→(Bool→OA)→OA
def fV (Z:Nat):eQ:=xY Z (aH Z)
theorem KJ (Z:Nat) (a:aP) (b d:Int) (e:LI) (k:Ev.Cont):evalFn tab (Ab a) J0 OY Z Tryz.f45 [.agg [i6 b,i6 d,.sl (.int .u8) e]] [] k=xY Z a b d e (fun r=>match r with | f=>k (.c (.bool f),[])):=by
 kernel_rfl
theorem E8 (Z:Nat):GOK prog (Mr Z):=
 gc (kZ Z) func43 kr rfl <|
 gok_nil
def vK (F:eQ):Ev.Spec:=fun args objs k=>match args,objs with | [.agg [i6 a,i6 b,.sl (.int .u8) d]],[]=>F a b d (fun r=>match r with | e=>k (.c (.bool e),[])) | _,_=>none
theorem GJ (Z:Nat):FnOK prog 45 (vK (fV Z)):=by
 intro args objs kk r h
 unfold vK at h
 split at h
 ·skip
  exact fo0 (E8 Z) func45 rfl kr _ _ kk r ((KJ Z (aH Z) _ _ _ kk).trans h)
 ·cases h
def jm (i:Nat):Option (List Nat):=Ev.look i [(2,[0,1,7,8]),(100000,[]),(400000,[4])]
def vo (a:eQ) (f:Nat):Option Ev.Spec:=Ev.look f [(45,vK a)]
def Ay (Z:Nat):Nat→Option Ev.Spec:=vo (fV Z)
abbrev tP:Type:=(List BM)×Int×Int
abbrev zn:Type:=(Int→OA)×(Unit→OA)
def lQ (Z:Nat) (f:eQ) (d:(List BM)) (e a:Int) (c:tP→OA) (B:zn):OA:=match B with | (ret,b)=>bif decide (a < e) then bif decide (0≤a∧a < (↑d.length:Int)) then (f ((d.getD a.toNat (0,0,[])).fst) ((d.getD a.toNat (0,0,[])).snd.fst) ((d.getD a.toNat (0,0,[])).snd.snd) (fun g=>bif g then ret a else c (d,e,i64.wrap (a+1)))) else none else b ()
def eH (Z:Nat) (v:(List BM)×Int×Int) (c:((List BM)×Int×Int)→OA) (B:(Int→OA)×(Unit→OA)):OA:=match v with | (a,b,d)=>lQ Z (fV Z) a b d c B
def Be (Z:Nat) (v:tP) (ret:(Int→OA)) (b:(Unit→OA)):OA:=iter (eH Z) Z v (ret,b)
def wi (v:tP):Ev.St:=match v with | (a,b,d)=>⟨[(0,.c (.sl tq a)),(1,.c (.clo 45 [])),(7,.c (i6 b)),(8,.c (i6 d))],[],0,0⟩
def qq (K:KT):zn:=((fun v=>match v with | a=>K .ret ⟨[(4,.c (i6 a))],[],0,0⟩),(fun v=>match v with | ()=>K .normal ⟨[],[],0,0⟩))
theorem EA (Z:Nat) (a:eQ) (R:Ev.St→OA) (K:KT) (b:(List BM)) (c d:Int):evalCode tab (vo a) J0 jm Z (bodyOf 0 Tryz.f89) (wi (b,c,d)) (lc jm 2 0 R K)=lQ Z a b c d (fun v=>R (wi v)) (qq K):=by
 kernel_rfl
def oI (Z:Nat):Ev.Blk:=fun st K=>match canonO (jm 2) st with | some s=>(match s with | ⟨[(a,.c (.sl tq b)),(d,.c (.clo e [])),(f,.c (i6 g)),(h,.c (i6 i))],[],j,k⟩=>bif qb [a,d,e,f,h,j,k] [0,1,45,7,8,0,0] then iter (eH Z) Z (b,g,i) (qq K) else none | _=>none) | none=>none
theorem EV (Z:Nat) (st:Ev.St) (K:KT) (r:Ans) (h:oI Z st K=some r):evalCode tab (Ay Z) J0 jm Z (.block 0 (.loop (bodyOf 0 Tryz.f89))) st K=some r:=by
 unfold oI at h
 split at h
 ·rename_i s hs
  split at h
  ·skip
   obtain ⟨hb,h⟩:=cond_some' h
   cases qb_eq hb
   exact blk_loop (S:=wi) (ks:=qq) (step:=eH Z) (v:=(_,_,_)) kr kr (fun R K v=>by obtain ⟨a,b,c⟩:=v; exact EA Z (fV Z) R K a b c) hs h
  ·cases h
 ·cases h
def PS (Z:Nat) (i:Nat):Option Ev.Blk:=Ev.look i [(100000,oI Z)]
def yv (Z:Nat) (b:eQ) (a:(List BM)) (k0:(Int)→OA):OA:=(Be Z (a,(↑a.length:Int),0) (fun ret0_0=>k0 ret0_0) (fun ()=>k0 ((-1:Int))))
abbrev js:Type:=((List BM))→(Int→OA)→OA
def kn (Z:Nat):js:=yv Z (fV Z)
theorem KF (Z:Nat) (a:eQ) (b:(List BM)) (k:Ev.Cont):evalFn tab (vo a) (PS Z) jm Z Tryz.f89 [.c (.sl tq b),.c (.clo 45 [])] [] k=yv Z a b (fun r=>match r with | d=>k (.c (i6 d),[])):=by
 kernel_rfl
theorem CT (Z:Nat):GOK prog (Ay Z):=
 gc (GJ Z) func45 kr rfl <|
 gok_nil
theorem K0 (Z:Nat):BlkOK prog Tryz.f89.ntmps (.block 0 (.loop (bodyOf 0 Tryz.f89))) (oI Z):=bo0 (CT Z) kr kr (EV Z)
def wv (F:js):Ev.Spec:=fun args objs k=>match args,objs with | [.c (.sl tq a),.c (.clo b [])],[]=>bif qb [b] [45] then F a (fun r=>match r with | d=>k (.c (i6 d),[])) else none | _,_=>none
theorem Jd (Z:Nat):FnOK prog 89 (wv (kn Z)):=by
 intro args objs kk r h
 unfold wv at h
 split at h
 ·skip
  obtain ⟨hb,h⟩:=cond_some' h
  cases qb_eq hb
  exact fo1 (CT Z) func89 rfl (K0 Z) kr _ _ kk r ((KF Z (fV Z) _ kk).trans h)
 ·cases h
def If (i:Nat):Option (List Nat):=Ev.look i []
def BT (a:js) (f:Nat):Option Ev.Spec:=Ev.look f [(89,wv a)]
def PC (Z:Nat):Nat→Option Ev.Spec:=BT (kn Z)
def qx (Z:Nat) (a:js) (b:(List BM)) (k0:(Bool)→OA):OA:=(a b (fun c=>k0 (decide (c≥0))))
abbrev eJ:Type:=((List BM))→(Bool→OA)→OA
def dR (Z:Nat):eJ:=qx Z (kn Z)
theorem HV (Z:Nat) (a:js) (b:(List BM)) (k:Ev.Cont):evalFn tab (BT a) J0 If Z Tryz.f41 [.c (.sl tq b),.c (.clo 45 [])] [] k=qx Z a b (fun r=>match r with | d=>k (.c (.bool d),[])):=by
 kernel_rfl
theorem Ng (Z:Nat):GOK prog (PC Z):=
 gc (Jd Z) func89 kr rfl <|
 gok_nil
def vz (F:eJ):Ev.Spec:=fun args objs k=>match args,objs with | [.c (.sl tq a),.c (.clo b [])],[]=>bif qb [b] [45] then F a (fun r=>match r with | d=>k (.c (.bool d),[])) else none | _,_=>none
theorem FC (Z:Nat):FnOK prog 41 (vz (dR Z)):=by
 intro args objs kk r h
 unfold vz at h
 split at h
 ·skip
  obtain ⟨hb,h⟩:=cond_some' h
  cases qb_eq hb
  exact fo0 (Ng Z) func41 rfl kr _ _ kk r ((HV Z (kn Z) _ kk).trans h)
 ·cases h
end
end Go.Proofs.YtohnjbmiaegofaaGreat

