/- What the functions that SymbolRefines reaches do: their typed texts, each with the proof that the machine does it. No condition. -/
import Derived.Test.YtohnjbmiaegofaaGreatEvX
import Derived.Test.YtohnjbmiaegofaaGreatFsSymbolRefines2
import Derived.Test.YtohnjbmiaegofaaGreatFsSymbolRefines3
import Derived.Test.YtohnjbmiaegofaaGreatFsSymbolRefines4
import Derived.Test.YtohnjbmiaegofaaGreatFsSymbolRefines1
set_option linter.unusedVariables false
set_option linter.unusedSimpArgs false
set_option linter.unusedSectionVars false
set_option linter.unusedVariables false
set_option linter.unusedSimpArgs false
set_option maxRecDepth 100000
set_option maxHeartbeats 2000000
namespace Go.Proofs.YtohnjbmiaegofaaGreat
open Go Ev
open Go.IntKind (i64 u64 u8 i32 u32 u16)
noncomputable section
def hH (i:Nat):Option (List Nat):=Ev.look i [(8,[0,1,2,3,9,44,45]),(100000,[]),(400000,[8])]
def rX (d:aC) (a:ac) (b:dP) (c:dU) (f:Nat):Option Ev.Spec:=Ev.look f [(130,fy d),(143,bW a),(177,oL b),(178,sg c)]
def xD (fuel:Nat):Nat→Option Ev.Spec:=rX (au fuel) (aa fuel) (dm fuel) (db fuel)
abbrev rO:Type:=Int×Int×Int×Int×Int×Int×Int×Int×Bool×Int×Int×Int×Int×Int×LI×Int×Int×Int×Int×Int×Int×Bool×Bool×LI×LI×LI
abbrev xB:Type:=(Int×Int×Int×Int×Bool×Int×Int×Int×Int×Int×LI×Int×Int×Int×Int×Int×Int×Bool×Bool×LI×LI×LI→OA)×(Int×Int×Int×Bool×Int×Int×Int×Int×Int×LI×Int×Int×Int×Int×Int×Int×Bool×Bool×LI×LI×LI→OA)
def jw (fuel:Nat) (e2:aC) (G:ac) (d5:dP) (H:dU) (f d:Int) (r s:Int) (a d0:Int) (d1 d2:Int) (d3:Bool) (d4 e:Int) (c5 c6 c7:Int) (c8:LI) (h i:Int) (j k:Int) (l m:Int) (n o:Bool) (c9 p q:LI) (c:rO→OA) (B:xB):OA:=match B with | (ret,b)=>bif decide (a < s) then (d5 a d d0 d1 d2 d3 d4 e c5 c6 c7 c8 c9 (fun (d8,d9,x,y,z,A,C,D,E,F,t,u,g)=>bif r==1 then bif d9 then bif decide (0≤i64.wrap (i64.wrap (d*e)+a)∧i64.wrap (i64.wrap (d*e)+a) < (↑g.length:Int)) then c (f,d,r,s,i64.wrap (a+1),x,y,z,A,C,D,E,F,t,u,h,i,j,k,l,m,n,o,g.set (i64.wrap (i64.wrap (d*e)+a)).toNat d8,p,q) else none else (H a d x y z A C D E F t u g (fun (e0,a7,a8,a9,b0,b1,b2,b3,b4,b5,M,v)=>(G (i64.wrap (f+e0)) h i j k l m n o p q (fun (d6,N,O,P,Q,R,S,T,U,V,I,J)=>bif N != 0 then ret (N,a7,a8,a9,b0,b1,b2,b3,b4,b5,M,O,P,Q,R,S,T,U,V,v,I,J) else bif decide (0≤i64.wrap (i64.wrap (d*e)+a)∧i64.wrap (i64.wrap (d*e)+a) < (↑v.length:Int)) then c (f,d,r,s,i64.wrap (a+1),a7,a8,a9,b0,b1,b2,b3,b4,b5,M,O,P,Q,R,S,T,U,V,v.set (i64.wrap (i64.wrap (d*e)+a)).toNat (u8.wrap d6),I,J) else none)))) else (H a d x y z A C D E F t u g (fun (e1,b6,b7,b8,b9,c0,c1,c2,c3,c4,W,w)=>(G (i64.wrap (f+e1)) h i j k l m n o p q (fun (d7,X,Y,a0,a1,a2,a3,a4,a5,a6,K,L)=>bif X != 0 then ret (X,b6,b7,b8,b9,c0,c1,c2,c3,c4,W,Y,a0,a1,a2,a3,a4,a5,a6,w,K,L) else bif decide (0≤i64.wrap (i64.wrap (d*e)+a)∧i64.wrap (i64.wrap (d*e)+a) < (↑w.length:Int)) then c (f,d,r,s,i64.wrap (a+1),b6,b7,b8,b9,c0,c1,c2,c3,c4,W,Y,a0,a1,a2,a3,a4,a5,a6,w.set (i64.wrap (i64.wrap (d*e)+a)).toNat (u8.wrap d7),K,L) else none)))))) else b (d0,d1,d2,d3,d4,e,c5,c6,c7,c8,h,i,j,k,l,m,n,o,c9,p,q)
def fh (fuel:Nat) (v:Int×Int×Int×Int×Int×Int×Int×Int×Bool×Int×Int×Int×Int×Int×(List Int)×Int×Int×Int×Int×Int×Int×Bool×Bool×(List Int)×(List Int)×(List Int)) (c:(Int×Int×Int×Int×Int×Int×Int×Int×Bool×Int×Int×Int×Int×Int×(List Int)×Int×Int×Int×Int×Int×Int×Bool×Bool×(List Int)×(List Int)×(List Int))→Option Ans) (B:(Int×Int×Int×Int×Bool×Int×Int×Int×Int×Int×(List Int)×Int×Int×Int×Int×Int×Int×Bool×Bool×(List Int)×(List Int)×(List Int)→Option Ans)×(Int×Int×Int×Bool×Int×Int×Int×Int×Int×(List Int)×Int×Int×Int×Int×Int×Int×Bool×Bool×(List Int)×(List Int)×(List Int)→Option Ans)):Option Ans:=match v with | (r,s,t,u,w,x,y,z,A,C,a,b,d,e,f,g,h,i,j,k,l,m,n,o,p,q)=>jw fuel (au fuel) (aa fuel) (dm fuel) (db fuel) r s t u w x y z A C a b d e f g h i j k l m n o p q c B
def sD (fuel:Nat) (v:rO) (ret:(Int×Int×Int×Int×Bool×Int×Int×Int×Int×Int×(List Int)×Int×Int×Int×Int×Int×Int×Bool×Bool×(List Int)×(List Int)×(List Int)→Option Ans)) (b:(Int×Int×Int×Bool×Int×Int×Int×Int×Int×(List Int)×Int×Int×Int×Int×Int×Int×Bool×Bool×(List Int)×(List Int)×(List Int)→Option Ans)):Option Ans:=iter (fh fuel) fuel v (ret,b)
def nY (v:rO):Ev.St:=match v with | (r,s,t,u,w,x,y,z,A,B,a,b,d,e,f,g,h,i,j,k,l,m,n,o,p,q)=>⟨[(0,.c (.ptr 0 0)),(1,.c (.ptr 1 0)),(2,.c (i6 r)),(3,.c (i6 s)),(9,.c (i6 t)),(44,.c (i6 u)),(45,.c (i6 w))],[(0,.cells 230 [i6 x,i6 y,i6 z,.bool A,i6 B,i6 a,i6 b,.own 2,i6 d,i6 e,.sl (.int .u8) f]),(1,.cells 147 (i6 g::.own 3::ctb (.int .u64 h::.int .u64 i::.own 4::i6 j::.int .u64 k::i6 l::.bool m::.bool n::[]))),(2,.vec 5 (.int .u8) o false),(3,.vec 3 (.int .i64) p false),(4,.vec 5 (.int .u8) q false)],5,5⟩
def rf (K:KT):xB:=((fun v=>match v with | (m,n,o,p,q,r,s,t,u,w,a,b,d,e,f,g,h,i,j,k,l,x)=>K .ret ⟨[(8,.c (i6 m))],[(0,.cells 230 [i6 n,i6 o,i6 p,.bool q,i6 r,i6 s,i6 t,.own 2,i6 u,i6 w,.sl (.int .u8) a]),(1,.cells 147 (i6 b::.own 3::ctb (.int .u64 d::.int .u64 e::.own 4::i6 f::.int .u64 g::i6 h::.bool i::.bool j::[]))),(2,.vec 5 (.int .u8) k false),(3,.vec 3 (.int .i64) l false),(4,.vec 5 (.int .u8) x false)],5,5⟩),(fun v=>match v with | (m,n,o,p,q,r,s,t,u,w,a,b,d,e,f,g,h,i,j,k,l)=>K .normal ⟨[],[(0,.cells 230 [i6 m,i6 n,i6 o,.bool p,i6 q,i6 r,i6 s,.own 2,i6 t,i6 u,.sl (.int .u8) w]),(1,.cells 147 (i6 a::.own 3::ctb (.int .u64 b::.int .u64 d::.own 4::i6 e::.int .u64 f::i6 g::.bool h::.bool i::[]))),(2,.vec 5 (.int .u8) j false),(3,.vec 3 (.int .i64) k false),(4,.vec 5 (.int .u8) l false)],5,5⟩))
theorem CH (fuel:Nat) (d:aC) (a:ac) (b:dP) (c:dU) (R:Ev.St→OA) (K:KT) (u w:Int) (x y:Int) (z A:Int) (B C:Int) (D:Bool) (E e:Int) (f g h:Int) (i:LI) (j k:Int) (l m:Int) (n o:Int) (p q:Bool) (r s t:LI):evalCode tab (rX d a b c) J0 hH fuel (bodyOf 0 Tryz.f185) (nY (u,w,x,y,z,A,B,C,D,E,e,f,g,h,i,j,k,l,m,n,o,p,q,r,s,t)) (lc hH 8 0 R K)=jw fuel d a b c u w x y z A B C D E e f g h i j k l m n o p q r s t (fun v=>R (nY v)) (rf K):=by
  kernel_rfl
def iV (fuel:Nat):Ev.Blk:=fun st K=>match canonO (hH 8) st with | some s=>(match s with | ⟨[(J,.c (.ptr L M)),(N,.c (.ptr O P)),(Q,.c (i6 R)),(S,.c (i6 T)),(U,.c (i6 V)),(W,.c (i6 X)),(a,.c (i6 Y))],[(b,.cells d [i6 a0,i6 a1,i6 a2,.bool a3,i6 a4,i6 e,i6 f,.own g,i6 h,i6 i,.sl (.int .u8) j]),(k,.cells l m),(n,.vec o (.int .u8) p false),(q,.vec r (.int .i64) t false),(u,.vec v (.int .u8) w false)],x,y⟩=>(match splitRun 2 ctn m with | some ([i6 z,.own A],[.int .u64 B,.int .u64 C,.own D,i6 E,.int .u64 F,i6 G,.bool H,.bool I])=>bif qb [J,L,M,N,O,P,Q,S,U,W,a,b,d,g,k,l,n,o,q,r,u,v,x,y,A,D] [0,0,0,1,1,0,2,3,9,44,45,0,230,2,1,147,2,5,3,3,4,5,5,5,3,4] then iter (fh fuel) fuel (R,T,V,X,Y,a0,a1,a2,a3,a4,e,f,h,i,j,z,B,C,E,F,G,H,I,p,t,w) (rf K) else none | _=>none) | _=>none) | none=>none
theorem FH (fuel:Nat) (st:Ev.St) (K:KT) (r:Ans) (h:iV fuel st K=some r):evalCode tab (xD fuel) J0 hH fuel (.block 0 (.loop (bodyOf 0 Tryz.f185))) st K=some r:=by
  unfold iV at h
  split at h
  · rename_i s hs
    split at h
    · skip
      split at h
      rotate_left 1
      · cases h
      rename_i hsp
      have esp:=splitRun_eq hsp
      subst esp
      obtain ⟨hb,h⟩:=cond_some' h
      cases qb_eq hb
      exact blk_loop (S:=nY) (ks:=rf) (step:=fh fuel) (v:=(_,_,_,_,_,_,_,_,_,_,_,_,_,_,_,_,_,_,_,_,_,_,_,_,_,_)) (by kernel_rfl) (by kernel_rfl) (fun R K v=>by obtain ⟨t,u,w,x,y,z,A,B,C,D,a,b,c,d,e,f,g,i,j,k,l,m,n,o,p,q⟩:=v; exact CH fuel (au fuel) (aa fuel) (dm fuel) (db fuel) R K t u w x y z A B C D a b c d e f g i j k l m n o p q) hs h
    · cases h
  · cases h
def Iw (fuel:Nat) (i:Nat):Option Ev.Blk:=Ev.look i [(100000,iV fuel)]
def pa (fuel:Nat) (a5:aC) (a4:ac) (a8:dP) (a9:dU) (B a3:Int) (b C D:Int) (c:Bool) (E a:Int) (F G y:Int) (z:LI) (S T:Int) (U V:Int) (W X:Int) (Y a0:Bool) (A a1 a2:LI) (k0:(Int×Int×Int×Int×Bool×Int×Int×Int×Int×Int×LI×Int×Int×Int×Int×Int×Int×Bool×Bool×LI×LI×LI)→OA):OA:=bif c then (a5 b (fun a7=>(a4 (i64.wrap (B+a7)) S T U V W X Y a0 a1 a2 (fun (a6,J,K,L,M,N,O,P,Q,R,H,I)=>bif J != 0 then k0 (J,b,C,D,c,E,a,F,G,y,z,K,L,M,N,O,P,Q,R,A,H,I) else (sD fuel (B,a3,a6,a,0,b,C,D,c,E,a,F,G,y,z,K,L,M,N,O,P,Q,R,A,H,I) (fun (ret0_0,ret0_1,ret0_2,ret0_3,ret0_4,ret0_5,ret0_6,ret0_7,ret0_8,ret0_9,ret0_10,ret0_11,ret0_12,ret0_13,ret0_14,ret0_15,ret0_16,ret0_17,ret0_18,ret0_19,ret0_20,ret0_21)=>k0 (ret0_0,ret0_1,ret0_2,ret0_3,ret0_4,ret0_5,ret0_6,ret0_7,ret0_8,ret0_9,ret0_10,ret0_11,ret0_12,ret0_13,ret0_14,ret0_15,ret0_16,ret0_17,ret0_18,ret0_19,ret0_20,ret0_21)) (fun (o,p,q,r,s,t,u,v,w,x,d,e,f,g,h,i,j,k,l,m,n)=>k0 (0,o,p,q,r,s,t,u,v,w,x,d,e,f,g,h,i,j,k,l,m,n))))))) else (sD fuel (B,a3,0,a,0,b,C,D,c,E,a,F,G,y,z,S,T,U,V,W,X,Y,a0,A,a1,a2) (fun (ret0_0,ret0_1,ret0_2,ret0_3,ret0_4,ret0_5,ret0_6,ret0_7,ret0_8,ret0_9,ret0_10,ret0_11,ret0_12,ret0_13,ret0_14,ret0_15,ret0_16,ret0_17,ret0_18,ret0_19,ret0_20,ret0_21)=>k0 (ret0_0,ret0_1,ret0_2,ret0_3,ret0_4,ret0_5,ret0_6,ret0_7,ret0_8,ret0_9,ret0_10,ret0_11,ret0_12,ret0_13,ret0_14,ret0_15,ret0_16,ret0_17,ret0_18,ret0_19,ret0_20,ret0_21)) (fun (o,p,q,r,s,t,u,v,w,x,d,e,f,g,h,i,j,k,l,m,n)=>k0 (0,o,p,q,r,s,t,u,v,w,x,d,e,f,g,h,i,j,k,l,m,n)))
abbrev ee:Type:=Int→Int→Int→Int→Int→Bool→Int→Int→Int→Int→Int→LI→Int→Int→Int→Int→Int→Int→Bool→Bool→LI→LI→LI→((Int×Int×Int×Int×Bool×Int×Int×Int×Int×Int×LI×Int×Int×Int×Int×Int×Int×Bool×Bool×LI×LI×LI)→Option Ans)→Option Ans
def dk (fuel:Nat):ee:=pa fuel (au fuel) (aa fuel) (dm fuel) (db fuel)
theorem CL (fuel:Nat) (e:aC) (a:ac) (b:dP) (d:dU) (u v:Int) (w x y:Int) (z:Bool) (A B:Int) (C D f:Int) (g:LI) (h i:Int) (j l:Int) (m n:Int) (o p:Bool) (q s t:LI) (k:Ev.Cont):evalFn tab (rX e a b d) (Iw fuel) hH fuel Tryz.f185 [.c (.ptr 0 0),.c (.ptr 1 0),.c (i6 u),.c (i6 v)] [.cells 230 [i6 w,i6 x,i6 y,.bool z,i6 A,i6 B,i6 C,.own 2,i6 D,i6 f,.sl (.int .u8) g],.cells 147 (i6 h::.own 3::ctb (.int .u64 i::.int .u64 j::.own 4::i6 l::.int .u64 m::i6 n::.bool o::.bool p::[])),.vec 5 (.int .u8) q false,.vec 3 (.int .i64) s false,.vec 5 (.int .u8) t false] k=pa fuel e a b d u v w x y z A B C D f g h i j l m n o p q s t (fun r=>match r with | (Q,R,S,T,U,V,W,X,Y,a0,E,F,G,H,I,J,K,L,M,N,O,P)=>k (.c (i6 Q),[.cells 230 [i6 R,i6 S,i6 T,.bool U,i6 V,i6 W,i6 X,.own 2,i6 Y,i6 a0,.sl (.int .u8) E],.cells 147 (i6 F::.own 3::ctb (.int .u64 G::.int .u64 H::.own 4::i6 I::.int .u64 J::i6 K::.bool L::.bool M::[])),.vec 5 (.int .u8) N false,.vec 3 (.int .i64) O false,.vec 5 (.int .u8) P false])):=by
  kernel_rfl
theorem wu (fuel:Nat):GOK Tryz.prog (xD fuel):=
  gc (lq fuel) Tryz.func130 (by kernel_rfl) rfl <|
  gc (cA fuel) Tryz.func143 (by kernel_rfl) rfl <|
  gc (Do fuel) Tryz.func177 (by kernel_rfl) rfl <|
  gc (GC fuel) Tryz.func178 (by kernel_rfl) rfl <|
  gok_nil
theorem BG (fuel:Nat):BlkOK Tryz.prog Tryz.f185.ntmps (.block 0 (.loop (bodyOf 0 Tryz.f185))) (iV fuel):=bo0 (wu fuel) (by kernel_rfl) (by kernel_rfl) (FH fuel)
def mm (F:ee):Ev.Spec:=fun args objs k=>match args,objs with | [.c (.ptr G H),.c (.ptr I J),.c (i6 K),.c (i6 L)],[.cells M [i6 N,i6 O,i6 P,.bool Q,i6 R,i6 S,i6 T,.own U,i6 V,i6 a,.sl (.int .u8) b],.cells W d,.vec X (.int .u8) e false,.vec Y (.int .i64) f false,.vec a0 (.int .u8) g false]=>(match splitRun 2 ctn d with | some ([i6 h,.own i],[.int .u64 j,.int .u64 l,.own m,i6 n,.int .u64 o,i6 p,.bool q,.bool s])=>bif qb [G,H,I,J,M,U,W,X,Y,a0,i,m] [0,0,1,0,230,2,147,5,3,5,3,4] then F K L N O P Q R S T V a b h j l n o p q s e f g (fun r=>match r with | (a1,a2,a3,a4,a5,a6,a7,a8,a9,b0,t,u,v,w,x,y,z,A,B,C,D,E)=>k (.c (i6 a1),[.cells 230 [i6 a2,i6 a3,i6 a4,.bool a5,i6 a6,i6 a7,i6 a8,.own 2,i6 a9,i6 b0,.sl (.int .u8) t],.cells 147 (i6 u::.own 3::ctb (.int .u64 v::.int .u64 w::.own 4::i6 x::.int .u64 y::i6 z::.bool A::.bool B::[])),.vec 5 (.int .u8) C false,.vec 3 (.int .i64) D false,.vec 5 (.int .u8) E false])) else none | _=>none) | _,_=>none
theorem En (fuel:Nat):FnOK Tryz.prog 185 (mm (dk fuel)):=by
  intro args objs kk r h
  unfold mm at h
  split at h
  · skip
    split at h
    rotate_left 1
    · cases h
    rename_i hsp
    have esp:=splitRun_eq hsp
    subst esp
    obtain ⟨hb,h⟩:=cond_some' h
    cases qb_eq hb
    exact fo1 (wu fuel) Tryz.func185 rfl (BG fuel) (by kernel_rfl) _ _ kk r ((CL fuel (au fuel) (aa fuel) (dm fuel) (db fuel) _ _ _ _ _ _ _ _ _ _ _ _ _ _ _ _ _ _ _ _ _ _ _ kk).trans h)
  · cases h
def gT (i:Nat):Option (List Nat):=Ev.look i [(13,[0,1,3,4,12,18,64,65]),(100000,[3,4,12,18]),(200009,[8]),(200011,[8,11]),(400000,[12,13]),(600000,[])]
def tQ (d:am) (i:ao) (a:ac) (e:br) (g:bq) (b:fD) (h:bv) (c:ee) (f:Nat):Option Ev.Spec:=Ev.look f [(40,eA d),(90,dH i),(143,bW a),(173,jY e),(174,jB g),(1000175,pE b),(182,kh h),(185,mm c)]
def wa (fuel:Nat):Nat→Option Ev.Spec:=tQ (ah fuel) (ai fuel) (aa fuel) (aI fuel) (aN fuel) (dr fuel) (aL fuel) (dk fuel)
abbrev oV:Type:=Int×Int×Int×Int×Int×Int×Int×Int×Int×Int×Int×Bool×Bool×LI×LI×Int×Int×Int×Int×Int×Bool×Int×Int×Int×Int×Int×LI×LI×LI
abbrev wn:Type:=(Int×Int×Int×Int×Int×Int×Int×Bool×Bool×LI×LI×Int×Int×LI→OA)×(Int×Int×Int×Int×Int×Int×Int×Int×Bool×Bool×LI×LI×Int×Int×Int×Int×Int×Bool×Int×Int×Int×Int×Int×LI×LI×LI→OA)
def js (fuel:Nat) (a6:am) (b0:ao) (a4:ac) (a7:br) (a8:bq) (a5:fD) (a9:bv) (R:ee) (I J:Int) (K L:Int) (a M:Int) (N O:Int) (P Q o:Int) (p q:Bool) (r s:LI) (t u:Int) (v w x:Int) (y:Bool) (z A:Int) (C D E:Int) (F G H:LI) (c:oV→OA) (B:wn):OA:=match B with | (ret,b)=>bif decide (a < L) then (R I a v w x y z A C D E F M N O P Q o p q H r s (fun (n,U,V,W,X,Y,a0,a1,a2,a3,S,d,e,f,g,h,i,j,k,T,l,m)=>bif n != 0 then ret (n,d,e,f,g,h,i,j,k,l,m,0,0,[]) else c (I,J,K,L,i64.wrap (a+1),d,e,f,g,h,i,j,k,l,m,t,u,U,V,W,X,Y,a0,a1,a2,a3,S,G,T))) else b (J,K,M,N,O,P,Q,o,p,q,r,s,t,u,v,w,x,y,z,A,C,D,E,F,G,H)
def fR (fuel:Nat) (v:Int×Int×Int×Int×Int×Int×Int×Int×Int×Int×Int×Bool×Bool×(List Int)×(List Int)×Int×Int×Int×Int×Int×Bool×Int×Int×Int×Int×Int×(List Int)×(List Int)×(List Int)) (c:(Int×Int×Int×Int×Int×Int×Int×Int×Int×Int×Int×Bool×Bool×(List Int)×(List Int)×Int×Int×Int×Int×Int×Bool×Int×Int×Int×Int×Int×(List Int)×(List Int)×(List Int))→Option Ans) (B:(Int×Int×Int×Int×Int×Int×Int×Bool×Bool×(List Int)×(List Int)×Int×Int×(List Int)→Option Ans)×(Int×Int×Int×Int×Int×Int×Int×Int×Bool×Bool×(List Int)×(List Int)×Int×Int×Int×Int×Int×Bool×Int×Int×Int×Int×Int×(List Int)×(List Int)×(List Int)→Option Ans)):Option Ans:=match v with | (u,w,x,y,z,A,C,D,E,F,a,b,d,e,f,g,h,i,j,k,l,m,n,o,p,q,r,s,t)=>js fuel (ah fuel) (ai fuel) (aa fuel) (aI fuel) (aN fuel) (dr fuel) (aL fuel) (dk fuel) u w x y z A C D E F a b d e f g h i j k l m n o p q r s t c B
def uT (fuel:Nat) (v:oV) (ret:(Int×Int×Int×Int×Int×Int×Int×Bool×Bool×(List Int)×(List Int)×Int×Int×(List Int)→Option Ans)) (b:(Int×Int×Int×Int×Int×Int×Int×Int×Bool×Bool×(List Int)×(List Int)×Int×Int×Int×Int×Int×Bool×Int×Int×Int×Int×Int×(List Int)×(List Int)×(List Int)→Option Ans)):Option Ans:=iter (fR fuel) fuel v (ret,b)
def rV (v:oV):Ev.St:=match v with | (u,w,x,y,z,A,B,C,D,E,a,b,d,e,f,g,h,i,j,k,l,m,n,o,p,q,r,s,t)=>⟨[(0,.c (.ptr 0 0)),(1,.c (i6 u)),(3,.c (i6 w)),(4,.c (i6 x)),(12,.c (.ptr 3 0)),(18,.c (.ptr 4 0)),(64,.c (i6 y)),(65,.c (i6 z))],[(0,.cells 147 (i6 A::.own 1::ctb (.int .u64 B::.int .u64 C::.own 2::i6 D::.int .u64 E::i6 a::.bool b::.bool d::[]))),(1,.vec 3 (.int .i64) e false),(2,.vec 5 (.int .u8) f false),(3,.cells 29 [i6 g,i6 h,.own 5]),(4,.cells 230 [i6 i,i6 j,i6 k,.bool l,i6 m,i6 n,i6 o,.own 6,i6 p,i6 q,.sl (.int .u8) r]),(5,.vec 5 (.int .u8) s true),(6,.vec 5 (.int .u8) t true)],7,3⟩
def qY (K:KT):wn:=((fun v=>match v with | (f,g,h,i,j,k,l,m,n,o,a,b,d,e)=>K .ret ⟨[(12,.c (.ptr 3 0)),(13,.c (i6 f))],[(0,.cells 147 (i6 g::.own 1::ctb (.int .u64 h::.int .u64 i::.own 2::i6 j::.int .u64 k::i6 l::.bool m::.bool n::[]))),(1,.vec 3 (.int .i64) o false),(2,.vec 5 (.int .u8) a false),(3,.cells 29 [i6 b,i6 d,.own 4]),(4,.vec 5 (.int .u8) e true)],5,3⟩),(fun v=>match v with | (f,g,h,i,j,k,l,m,n,o,a,b,d,e,p,q,r,s,t,u,w,x,y,z,A,B)=>K .normal ⟨[(3,.c (i6 f)),(4,.c (i6 g)),(12,.c (.ptr 3 0)),(18,.c (.ptr 4 0))],[(0,.cells 147 (i6 h::.own 1::ctb (.int .u64 i::.int .u64 j::.own 2::i6 k::.int .u64 l::i6 m::.bool n::.bool o::[]))),(1,.vec 3 (.int .i64) a false),(2,.vec 5 (.int .u8) b false),(3,.cells 29 [i6 d,i6 e,.own 5]),(4,.cells 230 [i6 p,i6 q,i6 r,.bool s,i6 t,i6 u,i6 w,.own 6,i6 x,i6 y,.sl (.int .u8) z]),(5,.vec 5 (.int .u8) A true),(6,.vec 5 (.int .u8) B true)],7,3⟩))
theorem Hf (fuel:Nat) (d:am) (h:ao) (a:ac) (e:br) (f:bq) (b:fD) (g:bv) (c:ee) (R:Ev.St→OA) (K:KT) (C D:Int) (E F:Int) (G H:Int) (I J:Int) (L M i:Int) (j k:Bool) (l m:LI) (n o:Int) (p q r:Int) (s:Bool) (t u:Int) (w x y:Int) (z A B:LI):evalCode tab (tQ d h a e f b g c) J0 gT fuel (bodyOf 0 Tryz.f146) (rV (C,D,E,F,G,H,I,J,L,M,i,j,k,l,m,n,o,p,q,r,s,t,u,w,x,y,z,A,B)) (lc gT 13 0 R K)=js fuel d h a e f b g c C D E F G H I J L M i j k l m n o p q r s t u w x y z A B (fun v=>R (rV v)) (qY K):=by
  kernel_rfl
def jt (fuel:Nat):Ev.Blk:=fun st K=>match canonO (gT 13) st with | some s=>(match s with | ⟨[(V,.c (.ptr W X)),(Y,.c (i6 a0)),(a1,.c (i6 a2)),(a3,.c (i6 a4)),(a5,.c (.ptr a6 a7)),(a8,.c (.ptr a b)),(d,.c (i6 a9)),(e,.c (i6 b0))],[(f,.cells g h),(i,.vec j (.int .i64) k false),(l,.vec m (.int .u8) n false),(o,.cells p [i6 q,i6 r,.own t]),(u,.cells v [i6 w,i6 x,i6 y,.bool z,i6 A,i6 B,i6 C,.own D,i6 E,i6 F,.sl (.int .u8) G]),(H,.vec I (.int .u8) J true),(L,.vec M (.int .u8) N true)],O,P⟩=>(match splitRun 2 ctn h with | some ([i6 b1,.own Q],[.int .u64 b2,.int .u64 b3,.own R,i6 b4,.int .u64 b5,i6 S,.bool T,.bool U])=>bif qb [V,W,X,Y,a1,a3,a5,a6,a7,a8,a,b,d,e,f,g,i,j,l,m,o,p,t,u,v,D,H,I,L,M,O,P,Q,R] [0,0,0,1,3,4,12,3,0,18,4,0,64,65,0,147,1,3,2,5,3,29,5,4,230,6,5,5,6,5,7,3,1,2] then iter (fR fuel) fuel (a0,a2,a4,a9,b0,b1,b2,b3,b4,b5,S,T,U,k,n,q,r,w,x,y,z,A,B,C,E,F,G,J,N) (qY K) else none | _=>none) | _=>none) | none=>none
theorem BD (fuel:Nat) (st:Ev.St) (K:KT) (r:Ans) (h:jt fuel st K=some r):evalCode tab (wa fuel) J0 gT fuel (.block 0 (.loop (bodyOf 0 Tryz.f146))) st K=some r:=by
  unfold jt at h
  split at h
  · rename_i s hs
    split at h
    · skip
      split at h
      rotate_left 1
      · cases h
      rename_i hsp
      have esp:=splitRun_eq hsp
      subst esp
      obtain ⟨hb,h⟩:=cond_some' h
      cases qb_eq hb
      exact blk_loop (S:=rV) (ks:=qY) (step:=fR fuel) (v:=(_,_,_,_,_,_,_,_,_,_,_,_,_,_,_,_,_,_,_,_,_,_,_,_,_,_,_,_,_)) (by kernel_rfl) (by kernel_rfl) (fun R K v=>by obtain ⟨x,y,z,A,B,C,D,E,F,G,a,b,c,d,e,f,g,i,j,k,l,m,n,o,p,q,t,u,w⟩:=v; exact Hf fuel (ah fuel) (ai fuel) (aa fuel) (aI fuel) (aN fuel) (dr fuel) (aL fuel) (dk fuel) R K x y z A B C D E F G a b c d e f g i j k l m n o p q t u w) hs h
    · cases h
  · cases h
def zH (fuel:Nat) (i:Nat):Option Ev.Blk:=Ev.look i [(100000,jt fuel)]
def tf (fuel:Nat) (I:am) (b4:ao) (G:ac) (a1:br) (a2:bq) (H:fD) (a3:bv) (c8:ee) (D m:Int) (n o:Int) (p:Bool) (q b:Int) (a E F:Int) (C:LI) (b5 b6:Int) (b7 b8:Int) (b9 c0:Int) (c1 c2:Bool) (c3 c4:LI) (k0:(Int×Int×LI×Int×Int×Int×Int×Int×Int×Int×Bool×Bool×LI×LI)→OA):OA:=(G ((-1:Int)) b5 b6 b7 b8 b9 c0 c1 c2 c3 c4 (fun (e5,B,e,f,g,h,i,j,k,l,c,d)=>bif B==7 then k0 (0,0,[],B,e,f,g,h,i,j,k,l,c,d) else (a1 m n o p q (fun c7=>bif !c7 then k0 (0,0,[],2,e,f,g,h,i,j,k,l,c,d) else (a3 b a (0) (fun (c9,d0,L,d1)=>bif L != 0 then k0 (0,0,[],30,e,f,g,h,i,j,k,l,c,d) else (b4 E F C (fun c5=>bif !c5 then k0 (0,0,[],30,e,f,g,h,i,j,k,l,c,d) else (I e f g h i j k l c d (fun (M,s,t,u,v,w,x,y,z,A,r,J)=>(a2 M J D m n o p q (fun c6=>bif !c6 then k0 (0,0,[],2,s,t,u,v,w,x,y,z,A,r) else bif decide (0≤i64.wrap (b*a)∧i64.wrap (b*a)=i64.wrap (b*a)∧(↑(1:Nat):Int)*i64.wrap (b*a)≤281474976710656∧i64.wrap (b*a)≤281474976710656) then (H m n o p q b a E F C (List.replicate (i64.wrap (b*a)).toNat (0:Int)) (fun (N,O,P,Q,R,S,T,U,V,W,K)=>(uT fuel (D,b,a,a,0,s,t,u,v,w,x,y,z,A,r,0,0,O,P,Q,R,S,T,U,V,W,K,[],N) (fun (ret0_0,ret0_1,ret0_2,ret0_3,ret0_4,ret0_5,ret0_6,ret0_7,ret0_8,ret0_9,ret0_10,ret0_11,ret0_12,ret0_13)=>k0 (ret0_11,ret0_12,ret0_13,ret0_0,ret0_1,ret0_2,ret0_3,ret0_4,ret0_5,ret0_6,ret0_7,ret0_8,ret0_9,ret0_10)) (fun (a4,a5,a6,a7,a8,a9,b0,b1,b2,b3,X,Y,d2,d3,d4,d5,d6,d7,d8,d9,e0,e1,e2,e3,e4,a0)=>k0 (a4,a5,a0,0,a6,a7,a8,a9,b0,b1,b2,b3,X,Y))))) else none))))))))))))
abbrev iY:Type:=Int→Int→Int→Int→Bool→Int→Int→Int→Int→Int→LI→Int→Int→Int→Int→Int→Int→Bool→Bool→LI→LI→((Int×Int×LI×Int×Int×Int×Int×Int×Int×Int×Bool×Bool×LI×LI)→Option Ans)→Option Ans
def cW (fuel:Nat):iY:=tf fuel (ah fuel) (ai fuel) (aa fuel) (aI fuel) (aN fuel) (dr fuel) (aL fuel) (dk fuel)
theorem Gv (fuel:Nat) (e:am) (i:ao) (a:ac) (f:br) (g:bq) (b:fD) (h:bv) (d:ee) (w x:Int) (y z:Int) (A:Bool) (B C:Int) (D E F:Int) (j:LI) (l m:Int) (n o:Int) (p q:Int) (s t:Bool) (u v:LI) (k:Ev.Cont):evalFn tab (tQ e i a f g b h d) (zH fuel) gT fuel Tryz.f146 [.c (.ptr 0 0),.c (i6 w),.agg [i6 x,i6 y,i6 z,.bool A,i6 B],.c (i6 C),.c (i6 D),.agg [i6 E,i6 F,.sl (.int .u8) j]] [.cells 147 (i6 l::.own 1::ctb (.int .u64 m::.int .u64 n::.own 2::i6 o::.int .u64 p::i6 q::.bool s::.bool t::[])),.vec 3 (.int .i64) u false,.vec 5 (.int .u8) v false] k=tf fuel e i a f g b h d w x y z A B C D E F j l m n o p q s t u v (fun r=>match r with | (K,L,M,N,O,P,Q,R,S,T,G,H,I,J)=>k (.tup [(true,[i6 K,i6 L,.sl (.int .u8) M]),(false,[i6 N])],[.cells 147 (i6 O::.own 1::ctb (.int .u64 P::.int .u64 Q::.own 2::i6 R::.int .u64 S::i6 T::.bool G::.bool H::[])),.vec 3 (.int .i64) I false,.vec 5 (.int .u8) J false])):=by
  kernel_rfl
theorem yK (fuel:Nat):GOK Tryz.prog (wa fuel):=
  gc (eT fuel) Tryz.func40 (by kernel_rfl) rfl <|
  gc (gG fuel) Tryz.func90 (by kernel_rfl) rfl <|
  gc (cA fuel) Tryz.func143 (by kernel_rfl) rfl <|
  gc (yG fuel) Tryz.func173 (by kernel_rfl) rfl <|
  gc (wB fuel) Tryz.func174 (by kernel_rfl) rfl <|
  gc (Gh fuel) Tryz.func175 (by kernel_rfl) rfl <|
  gc (ze fuel) Tryz.func182 (by kernel_rfl) rfl <|
  gc (En fuel) Tryz.func185 (by kernel_rfl) rfl <|
  gok_nil
theorem Ia (fuel:Nat):BlkOK Tryz.prog Tryz.f146.ntmps (.block 0 (.loop (bodyOf 0 Tryz.f146))) (jt fuel):=bo0 (yK fuel) (by kernel_rfl) (by kernel_rfl) (BD fuel)
def te (F:iY):Ev.Spec:=fun args objs k=>match args,objs with | [.c (.ptr t u),.c (i6 v),.agg [i6 w,i6 x,i6 y,.bool z,i6 A],.c (i6 B),.c (i6 C),.agg [i6 D,i6 E,.sl (.int .u8) a]],[.cells G b,.vec H (.int .i64) d false,.vec I (.int .u8) e false]=>(match splitRun 2 ctn b with | some ([i6 f,.own J],[.int .u64 g,.int .u64 h,.own K,i6 i,.int .u64 j,i6 l,.bool m,.bool n])=>bif qb [t,u,G,H,I,J,K] [0,0,147,3,5,1,2] then F v w x y z A B C D E a f g h i j l m n d e (fun r=>match r with | (L,M,N,O,P,Q,R,S,T,U,o,p,q,s)=>k (.tup [(true,[i6 L,i6 M,.sl (.int .u8) N]),(false,[i6 O])],[.cells 147 (i6 P::.own 1::ctb (.int .u64 Q::.int .u64 R::.own 2::i6 S::.int .u64 T::i6 U::.bool o::.bool p::[])),.vec 3 (.int .i64) q false,.vec 5 (.int .u8) s false])) else none | _=>none) | _,_=>none
theorem zA (fuel:Nat):FnOK Tryz.prog 146 (te (cW fuel)):=by
  intro args objs kk r h
  unfold te at h
  split at h
  · skip
    split at h
    rotate_left 1
    · cases h
    rename_i hsp
    have esp:=splitRun_eq hsp
    subst esp
    obtain ⟨hb,h⟩:=cond_some' h
    cases qb_eq hb
    exact fo1 (yK fuel) Tryz.func146 rfl (Ia fuel) (by kernel_rfl) _ _ kk r ((Gv fuel (ah fuel) (ai fuel) (aa fuel) (aI fuel) (aN fuel) (dr fuel) (aL fuel) (dk fuel) _ _ _ _ _ _ _ _ _ _ _ _ _ _ _ _ _ _ _ _ _ kk).trans h)
  · cases h
def Be (i:Nat):Option (List Nat):=Ev.look i []
def Gi (f:Nat):Option Ev.Spec:=Ev.look f []
def wO (fuel:Nat):Nat→Option Ev.Spec:=Gi
def bg (fuel:Nat) (e f g:Int) (h:Bool) (c d:Int) (i j:Int) (k l:Int) (a b:Int) (k0:(Int×Int×Int×Bool×Int)→Option Ans):Option Ans:=k0 (d,a,b,false,c)
abbrev iw:Type:=Int→Int→Int→Bool→Int→Int→Int→Int→Int→Int→Int→Int→((Int×Int×Int×Bool×Int)→Option Ans)→Option Ans
theorem Gj (fuel:Nat) (d e f:Int) (g:Bool) (h i:Int) (j l:Int) (m n:Int) (a b:Int) (k:Ev.Cont):evalFn tab (wO fuel) J0 Be fuel Tryz.f136 [.agg [i6 d,i6 e,i6 f,.bool g,i6 h,i6 i,i6 j,i6 l,i6 m,i6 n],.c (i6 a),.c (i6 b)] [] k=bg fuel d e f g h i j l m n a b (fun r=>match r with | (o,p,q,s,t)=>k (.agg [i6 o,i6 p,i6 q,.bool s,i6 t],[])):=by
  kernel_rfl
theorem Jk (fuel:Nat):GOK Tryz.prog (wO fuel):=
  gok_nil
def kQ (F:iw):Ev.Spec:=fun args objs k=>match args,objs with | [.agg [i6 d,i6 e,i6 f,.bool g,i6 h,i6 i,i6 j,i6 l,i6 m,i6 n],.c (i6 a),.c (i6 b)],[]=>F d e f g h i j l m n a b (fun r=>match r with | (o,p,q,s,t)=>k (.agg [i6 o,i6 p,i6 q,.bool s,i6 t],[])) | _,_=>none
theorem wE (fuel:Nat):FnOK Tryz.prog 136 (kQ (bg fuel)):=by
  intro args objs kk r h
  unfold kQ at h
  split at h
  · skip
    exact fo0 (Jk fuel) Tryz.func136 rfl (by kernel_rfl) _ _ kk r ((Gj fuel _ _ _ _ _ _ _ _ _ _ _ _ kk).trans h)
  · cases h
def CS (i:Nat):Option (List Nat):=Ev.look i []
def xi (a:ce) (b:bB) (f:Nat):Option Ev.Spec:=Ev.look f [(85,kX a),(86,gH b)]
def Jn (fuel:Nat):Nat→Option Ev.Spec:=xi (bm fuel) (aR fuel)
def je (fuel:Nat) (a0:ce) (c:bB) (e5 b:Int) (e6 e7:Int) (e8 e9 g0:Int) (g1:Bool) (g2 g3:Int) (c7 c8:Int) (c9 d0:Int) (d1 d2:Int) (d3 d4:Int) (d5 d6:Int) (d7 d8:Int) (d9 e0:Bool) (e1:(List (Int×(Int×LI)))) (e2:(List ((Int×(Int×LI))×Int))) (e3 e4:LI) (k0:(Int×Int×Int×Int×Bool×Int×Int×Int×Int×Int×Int×Int×Int×Int×Int×Int×Int×Int×Int×Bool×Bool×(List (Int×(Int×LI)))×(List ((Int×(Int×LI))×Int))×LI×LI)→OA):OA:=(a0 e5 e8 e9 g0 g1 g2 g3 c7 c8 c9 d0 d1 d2 d3 d4 d5 d6 d7 d8 d9 e0 e1 e2 e3 e4 (fun (b6,a,I,J,K,L,M,N,O,P,d,e,f,g,h,i,j,k,l,m,n,o,p,q,r,s)=>bif !b6 then bif decide (i64.wrap (a+b)≥e6) then (c (decide (i64.wrap (a+b)≤e7)) I J K L M N O P d e f g h i j k l m n o p q r s (fun (b7,Q,R,S,T,U,V,W,X,Y,t,u,v,w,x,y,z,A,B,C,D,E,F,G,H)=>k0 (i64.wrap (a+b),Q,R,S,T,U,V,W,X,Y,t,u,v,w,x,y,z,A,B,C,D,E,F,G,H))) else (c (false) I J K L M N O P d e f g h i j k l m n o p q r s (fun (b7,Q,R,S,T,U,V,W,X,Y,t,u,v,w,x,y,z,A,B,C,D,E,F,G,H)=>k0 (i64.wrap (a+b),Q,R,S,T,U,V,W,X,Y,t,u,v,w,x,y,z,A,B,C,D,E,F,G,H))) else (c (false) I J K L M N O P d e f g h i j k l m n o p q r s (fun (g4,b8,b9,c0,c1,c2,c3,c4,c5,c6,a1,a2,a3,a4,a5,a6,a7,a8,a9,b0,b1,b2,b3,b4,b5)=>k0 (i64.wrap (a+b),b8,b9,c0,c1,c2,c3,c4,c5,c6,a1,a2,a3,a4,a5,a6,a7,a8,a9,b0,b1,b2,b3,b4,b5)))))
abbrev aQ:Type:=Int→Int→Int→Int→Int→Int→Int→Bool→Int→Int→Int→Int→Int→Int→Int→Int→Int→Int→Int→Int→Int→Int→Bool→Bool→((List (Int×(Int×LI))))→((List ((Int×(Int×LI))×Int)))→LI→LI→((Int×Int×Int×Int×Bool×Int×Int×Int×Int×Int×Int×Int×Int×Int×Int×Int×Int×Int×Int×Bool×Bool×(List (Int×(Int×LI)))×(List ((Int×(Int×LI))×Int))×LI×LI)→Option Ans)→Option Ans
def aq (fuel:Nat):aQ:=je fuel (bm fuel) (aR fuel)
theorem Js (fuel:Nat) (a:ce) (b:bB) (x y:Int) (z A:Int) (B C D:Int) (E:Bool) (F G:Int) (d e:Int) (f g:Int) (h i:Int) (j l:Int) (m n:Int) (o p:Int) (q s:Bool) (t:(List (Int×(Int×LI)))) (u:(List ((Int×(Int×LI))×Int))) (v w:LI) (k:Ev.Cont):evalFn tab (xi a b) J0 CS fuel Tryz.f37 [.c (.ptr 0 0),.c (i6 x),.c (i6 y),.c (i6 z),.c (i6 A)] [.cells 86 [i6 B,i6 C,i6 D,.bool E,i6 F,i6 G,i6 d,i6 e,i6 f,i6 g,.ptr 1 0,.own 2,.own 3,i6 h,i6 i],.cells 147 (i6 j::.own 4::ctb (.int .u64 l::.int .u64 m::.own 5::i6 n::.int .u64 o::i6 p::.bool q::.bool s::[])),.vec 29 (.pair (.int .i64) (.pair (.int .i64) (.sl (.int .u8)))) t false,.vec 36 (.pair (.pair (.int .i64) (.pair (.int .i64) (.sl (.int .u8)))) (.int .i64)) u false,.vec 3 (.int .i64) v false,.vec 5 (.int .u8) w false] k=je fuel a b x y z A B C D E F G d e f g h i j l m n o p q s t u v w (fun r=>match r with | (W,X,Y,a0,a1,a2,a3,a4,a5,a6,H,I,J,K,L,M,N,O,P,Q,R,S,T,U,V)=>k (.c (i6 W),[.cells 86 [i6 X,i6 Y,i6 a0,.bool a1,i6 a2,i6 a3,i6 a4,i6 a5,i6 a6,i6 H,.ptr 1 0,.own 2,.own 3,i6 I,i6 J],.cells 147 (i6 K::.own 4::ctb (.int .u64 L::.int .u64 M::.own 5::i6 N::.int .u64 O::i6 P::.bool Q::.bool R::[])),.vec 29 (.pair (.int .i64) (.pair (.int .i64) (.sl (.int .u8)))) S false,.vec 36 (.pair (.pair (.int .i64) (.pair (.int .i64) (.sl (.int .u8)))) (.int .i64)) T false,.vec 3 (.int .i64) U false,.vec 5 (.int .u8) V false])):=by
  kernel_rfl
theorem AK (fuel:Nat):GOK Tryz.prog (Jn fuel):=
  gc (xs fuel) Tryz.func85 (by kernel_rfl) rfl <|
  gc (ra fuel) Tryz.func86 (by kernel_rfl) rfl <|
  gok_nil
def iH (F:aQ):Ev.Spec:=fun args objs k=>match args,objs with | [.c (.ptr Q R),.c (i6 S),.c (i6 T),.c (i6 U),.c (i6 V)],[.cells W [i6 X,i6 Y,i6 a0,.bool a1,i6 a2,i6 a3,i6 a,i6 b,i6 d,i6 e,.ptr a4 a5,.own a6,.own a7,i6 f,i6 g],.cells a8 h,.vec a9 (.pair (.int .i64) (.pair (.int .i64) (.sl (.int .u8)))) i false,.vec b0 (.pair (.pair (.int .i64) (.pair (.int .i64) (.sl (.int .u8)))) (.int .i64)) j false,.vec l (.int .i64) m false,.vec n (.int .u8) o false]=>(match splitRun 2 ctn h with | some ([i6 p,.own q],[.int .u64 s,.int .u64 t,.own u,i6 v,.int .u64 w,i6 x,.bool y,.bool z])=>bif qb [Q,R,W,a4,a5,a6,a7,a8,a9,b0,l,n,q,u] [0,0,86,1,0,2,3,147,29,36,3,5,4,5] then F S T U V X Y a0 a1 a2 a3 a b d e f g p s t v w x y z i j m o (fun r=>match r with | (b1,b2,b3,b4,b5,b6,b7,b8,b9,c0,A,B,C,D,E,G,H,I,J,K,L,M,N,O,P)=>k (.c (i6 b1),[.cells 86 [i6 b2,i6 b3,i6 b4,.bool b5,i6 b6,i6 b7,i6 b8,i6 b9,i6 c0,i6 A,.ptr 1 0,.own 2,.own 3,i6 B,i6 C],.cells 147 (i6 D::.own 4::ctb (.int .u64 E::.int .u64 G::.own 5::i6 H::.int .u64 I::i6 J::.bool K::.bool L::[])),.vec 29 (.pair (.int .i64) (.pair (.int .i64) (.sl (.int .u8)))) M false,.vec 36 (.pair (.pair (.int .i64) (.pair (.int .i64) (.sl (.int .u8)))) (.int .i64)) N false,.vec 3 (.int .i64) O false,.vec 5 (.int .u8) P false])) else none | _=>none) | _,_=>none
theorem mb (fuel:Nat):FnOK Tryz.prog 37 (iH (aq fuel)):=by
  intro args objs kk r h
  unfold iH at h
  split at h
  · skip
    split at h
    rotate_left 1
    · cases h
    rename_i hsp
    have esp:=splitRun_eq hsp
    subst esp
    obtain ⟨hb,h⟩:=cond_some' h
    cases qb_eq hb
    exact fo0 (AK fuel) Tryz.func37 rfl (by kernel_rfl) _ _ kk r ((Js fuel (bm fuel) (aR fuel) _ _ _ _ _ _ _ _ _ _ _ _ _ _ _ _ _ _ _ _ _ _ _ _ _ _ _ _ kk).trans h)
  · cases h
def wj (i:Nat):Option (List Nat):=Ev.look i [(200004,[0]),(200005,[0]),(200006,[6]),(200010,[0]),(200012,[6]),(600000,[]),(900004,[0,6,8]),(900005,[0,1,2,6,8]),(900006,[0,1,2,6,79]),(900010,[0,6,8]),(900012,[])]
def wm (g:aQ) (h:bB) (i:iw) (a:cN) (b:ac) (c:le) (d:jh) (e:iY) (f:Nat):Option Ev.Spec:=Ev.look f [(37,iH g),(86,gH h),(136,kQ i),(142,gz a),(143,bW b),(144,py c),(145,uC d),(146,te e)]
def vi (fuel:Nat):Nat→Option Ev.Spec:=wm (aq fuel) (aR fuel) (bg fuel) (aB fuel) (aa fuel) (dY fuel) (fq fuel) (cW fuel)
def da (fuel:Nat) (d8 d9:Int) (x7 x8 x9:Int) (y0:Bool) (y1 y2:Int) (y3 y4:Int) (w1 w2:Int) (w3 w4:Int) (w5 w6:Int) (w7 w8:Int) (w9 x0:Int) (x1 x2:Bool) (x3:(List (Int×(Int×(List Int))))) (x4:(List ((Int×(Int×(List Int)))×Int))) (x5 x6:(List Int)) (k0:(Int×Int×Int×Bool×Int×Int×Int×Int×Int×Int×Int×Int×Int×Int×Int×Int×Int×Int×Bool×Bool×(List (Int×(Int×(List Int))))×(List ((Int×(Int×(List Int)))×Int))×(List Int)×(List Int))→Option Ans):Option Ans:=(aa fuel (240) w5 w6 w7 w8 w9 x0 x1 x2 x5 x6 (fun (v0,v1,v2,v3,v4,v5,v6,v7,v8,v9,q2,q3)=>(aB fuel v1 x7 x8 x9 y0 y1 y2 y3 y4 w1 w2 w3 w4 v2 v3 v4 v5 v6 v7 v8 v9 x3 x4 q2 q3 (fun (w0,R,S,T,U,V,d6,W,X,d7,b3,b4,b5,b6,b7,b8,b9,c0,c1,c2,c3,c4,c5,c6,c7)=>bif !w0 then k0 (R,S,T,U,V,d6,W,X,d7,b3,b4,b5,b6,b7,b8,b9,c0,c1,c2,c3,c4,c5,c6,c7) else bif v0==0 then (dY fuel X R S T U V d8 d9 (0) (0) ([]) b6 b7 b8 b9 c0 c1 c2 c3 c6 c7 (fun (a,P,Q,c8,c9,d0,d1,d2,d3,d4,Y,a0,n7,n8)=>(aB fuel c8 R S T U V d6 W X d7 b3 b4 b5 c9 d0 d1 d2 d3 d4 Y a0 c4 c5 n7 n8 (fun (d5,x,y,z,A,B,C,D,E,F,j,k,l,m,n,o,p,q,r,s,t,c,d,u,v)=>bif d5 then (fun (z5:Option Ans)=>
(fun (z4:Option Ans)=>
(fun (z3:Option Ans)=>
(fun (z2:Option Ans)=>
(fun (z1:Option Ans)=>
(fun (z0:Option Ans)=>
both z0 (both z0 (both (both z2 z1) (both z2 z1)))) (both (both (bif decide ((d.length+(1:Nat))*(48:Nat)≤(140737488355328:Nat)∧d.length+(1:Nat)≤(140737488355328:Nat)) then both z4 z4 else none) (both (both z3 z3) (both z3 z3))) (both z2 z2))) (both z2 (both z3 z3))) (both (both z3 z3) z3)) (bif decide ((d.length+(1:Nat))*(48:Nat)≤(140737488355328:Nat)∧d.length+(1:Nat)≤(140737488355328:Nat)) then bif decide ((c.length+(1:Nat))*(40:Nat)≤(140737488355328:Nat)∧c.length+(1:Nat)≤(140737488355328:Nat)) then z5 else none else none)) (bif decide ((c.length+(1:Nat))*(40:Nat)≤(140737488355328:Nat)∧c.length+(1:Nat)≤(140737488355328:Nat)) then z5 else none)) (k0 (x,y,z,A,B,C,D,E,F,j,k,l,m,n,o,p,q,r,s,t,c++ [(a,P,Q)],d++ [((a,P,Q),(-1:Int))],u,v)) else k0 (x,y,z,A,B,C,D,E,F,j,k,l,m,n,o,p,q,r,s,t,c,d,u,v))))) else (fq fuel (241) W b6 b7 b8 b9 c0 c1 c2 c3 c6 c7 (fun (a,P,Q,c8,c9,d0,d1,d2,d3,d4,Y,a0)=>(aB fuel P R S T U V d6 W X d7 b3 b4 b5 Q c8 c9 d0 d1 d2 d3 d4 c4 c5 Y a0 (fun (d5,x,y,z,A,B,C,D,E,F,j,k,l,m,n,o,p,q,r,s,t,c,d,u,v)=>bif !d5 then k0 (x,y,z,A,B,C,D,E,F,j,k,l,m,n,o,p,q,r,s,t,c,d,u,v) else (aR fuel (decide (a < (↑c.length:Int))) x y z A B C D E F j k l m n o p q r s t c d u v (fun (q4,k2,k3,k4,k5,k6,k7,k8,k9,l0,e0,e1,e2,e3,e4,e5,e6,e7,e8,e9,g0,g1,g2,g3,g4)=>bif !q4 then k0 (k2,k3,k4,k5,k6,k7,k8,k9,l0,e0,e1,e2,e3,e4,e5,e6,e7,e8,e9,g0,g1,g2,g3,g4) else (aq fuel (96) (0) ((-200:Int)) (200) k2 k3 k4 k5 k6 k7 k8 k9 l0 e0 e1 e2 e3 e4 e5 e6 e7 e8 e9 g0 g1 g2 g3 g4 (fun (l1,q5,q6,q7,q8,q9,r0,r1,r2,r3,n9,o0,o1,o2,o3,o4,o5,o6,o7,o8,o9,p0,p1,p2,p3)=>(aq fuel (144) (0) ((-200:Int)) (200) q5 q6 q7 q8 q9 r0 r1 r2 r3 n9 o0 o1 o2 o3 o4 o5 o6 o7 o8 o9 p0 p1 p2 p3 (fun (l2,G,H,I,J,K,L,M,N,e,w,a1,O,a2,a3,a4,a5,a6,a7,a8,a9,b,b0,b1,b2)=>bif O != 0 then k0 (G,H,I,J,K,L,M,N,e,w,a1,O,a2,a3,a4,a5,a6,a7,a8,a9,b,b0,b1,b2) else (fun (z0:Option Ans)=>
both ((bg fuel G H I J K L M N e w l1 l2 (fun (r4,r5,r6,r7,r8)=>bif decide ((0:Int)≤a∧a < (↑b.length:Int)) then (cW fuel e r4 r5 r6 r7 r8 d8 d9 ((b.getD a.toNat ((0:Int),(0:Int),[])).fst) ((b.getD a.toNat ((0:Int),(0:Int),[])).snd.fst) ((b.getD a.toNat ((0:Int),(0:Int),[])).snd.snd) a2 a3 a4 a5 a6 a7 a8 a9 b1 b2 (fun (l3,l4,l5,r9,s0,s1,s2,s3,s4,s5,p4,p5,p6,p7)=>(aB fuel r9 G H I J K L M N e w a1 O s0 s1 s2 s3 s4 s5 p4 p5 b b0 p6 p7 (fun (s6,l6,l7,l8,l9,m0,m1,m2,m3,m4,g5,g6,g7,g8,g9,h0,h1,h2,h3,h4,h5,f,g,h6,h7)=>bif s6 then (fun (z6:Option Ans)=>(fun (z5:Option Ans)=>(fun (z4:Option Ans)=>(fun (z3:Option Ans)=>(fun (z2:Option Ans)=>(fun (z1:Option Ans)=>(fun (z0:Option Ans)=>both z0 (both z0 (both z1 z1))) (both (both (bif decide ((g.length+(1:Nat))*(48:Nat)≤(140737488355328:Nat)∧g.length+(1:Nat)≤(140737488355328:Nat)) then both z5 z5 else none) (both z3 z3)) (both z2 z2))) (both z2 (both z2 z3))) (both z3 z4)) (both z4 z4)) (bif decide ((g.length+(1:Nat))*(48:Nat)≤(140737488355328:Nat)∧g.length+(1:Nat)≤(140737488355328:Nat)) then bif decide ((f.length+(1:Nat))*(40:Nat)≤(140737488355328:Nat)∧f.length+(1:Nat)≤(140737488355328:Nat)) then z6 else none else none)) (bif decide ((f.length+(1:Nat))*(40:Nat)≤(140737488355328:Nat)∧f.length+(1:Nat)≤(140737488355328:Nat)) then z6 else none)) (k0 (l6,l7,l8,l9,m0,m1,m2,m3,m4,g5,g6,g7,g8,g9,h0,h1,h2,h3,h4,h5,f++ [(l3,l4,l5)],g++ [((l3,l4,l5),a)],h6,h7)) else k0 (l6,l7,l8,l9,m0,m1,m2,m3,m4,g5,g6,g7,g8,g9,h0,h1,h2,h3,h4,h5,f,g,h6,h7))))) else none))) (bif decide ((0:Int)≤a∧a < (↑b.length:Int)) then both z0 z0 else none)) ((bg fuel G H I J K L M N e w l1 l2 (fun (s7,s8,s9,t0,t1)=>(cW fuel e s7 s8 s9 t0 t1 d8 d9 ((b.getD a.toNat ((0:Int),(0:Int),[])).fst) ((b.getD a.toNat ((0:Int),(0:Int),[])).snd.fst) ((b.getD a.toNat ((0:Int),(0:Int),[])).snd.snd) a2 a3 a4 a5 a6 a7 a8 a9 b1 b2 (fun (m5,m6,m7,t2,t3,t4,t5,t6,t7,t8,p8,p9,q0,q1)=>(aB fuel t2 G H I J K L M N e w a1 O t3 t4 t5 t6 t7 t8 p8 p9 b b0 q0 q1 (fun (t9,m8,m9,n0,n1,n2,n3,n4,n5,n6,h8,h9,j0,j1,j2,j3,j4,j5,j6,j7,j8,h,i,j9,k1)=>bif t9 then (fun (z6:Option Ans)=>(fun (z5:Option Ans)=>(fun (z4:Option Ans)=>(fun (z3:Option Ans)=>(fun (z2:Option Ans)=>(fun (z1:Option Ans)=>(fun (z0:Option Ans)=>both z0 (both z0 (both z1 z1))) (both (both (bif decide ((i.length+(1:Nat))*(48:Nat)≤(140737488355328:Nat)∧i.length+(1:Nat)≤(140737488355328:Nat)) then both z5 z5 else none) (both z3 z3)) (both z2 z2))) (both z2 (both z2 z3))) (both z3 z4)) (both z4 z4)) (bif decide ((i.length+(1:Nat))*(48:Nat)≤(140737488355328:Nat)∧i.length+(1:Nat)≤(140737488355328:Nat)) then bif decide ((h.length+(1:Nat))*(40:Nat)≤(140737488355328:Nat)∧h.length+(1:Nat)≤(140737488355328:Nat)) then z6 else none else none)) (bif decide ((h.length+(1:Nat))*(40:Nat)≤(140737488355328:Nat)∧h.length+(1:Nat)≤(140737488355328:Nat)) then z6 else none)) (k0 (m8,m9,n0,n1,n2,n3,n4,n5,n6,h8,h9,j0,j1,j2,j3,j4,j5,j6,j7,j8,h++ [(m5,m6,m7)],i++ [((m5,m6,m7),a)],j9,k1)) else k0 (m8,m9,n0,n1,n2,n3,n4,n5,n6,h8,h9,j0,j1,j2,j3,j4,j5,j6,j7,j8,h,i,j9,k1))))))))))))))))))))))
abbrev fb:Type:=Int→Int→Int→Int→Int→Bool→Int→Int→Int→Int→Int→Int→Int→Int→Int→Int→Int→Int→Int→Int→Bool→Bool→((List (Int×(Int×LI))))→((List ((Int×(Int×LI))×Int)))→LI→LI→((Int×Int×Int×Bool×Int×Int×Int×Int×Int×Int×Int×Int×Int×Int×Int×Int×Int×Int×Bool×Bool×(List (Int×(Int×LI)))×(List ((Int×(Int×LI))×Int))×LI×LI)→Option Ans)→Option Ans
theorem Kb (fuel:Nat) (a6:aQ) (g0:bB) (e4:iw) (g:cN) (e7:ac) (e8:le) (e9:jh) (a5:iY) (a3 a4:Int) (q4 q5 q6:Int) (q7:Bool) (q8 q9:Int) (r0 r1:Int) (o8 o9:Int) (p0 p1:Int) (p2 p3:Int) (p4 p5:Int) (p6 p7:Int) (p8 p9:Bool) (q0:(List (Int×(Int×LI)))) (q1:(List ((Int×(Int×LI))×Int))) (q2 q3:LI) (k:Ev.Cont):evalFn tab (wm a6 g0 e4 g e7 e8 e9 a5) J0 wj fuel Tryz.f87 [.c (.ptr 0 0),.c (i6 a3),.c (i6 a4)] [.cells 86 [i6 q4,i6 q5,i6 q6,.bool q7,i6 q8,i6 q9,i6 r0,i6 r1,i6 o8,i6 o9,.ptr 1 0,.own 2,.own 3,i6 p0,i6 p1],.cells 147 (i6 p2::.own 4::ctb (.int .u64 p3::.int .u64 p4::.own 5::i6 p5::.int .u64 p6::i6 p7::.bool p8::.bool p9::[])),.vec 29 (.pair (.int .i64) (.pair (.int .i64) (.sl (.int .u8)))) q0 false,.vec 36 (.pair (.pair (.int .i64) (.pair (.int .i64) (.sl (.int .u8)))) (.int .i64)) q1 false,.vec 3 (.int .i64) q2 false,.vec 5 (.int .u8) q3 false] (wkC [1000002,1000003] k)=(fun  (k0:(Int×Int×Int×Bool×Int×Int×Int×Int×Int×Int×Int×Int×Int×Int×Int×Int×Int×Int×Bool×Bool×(List (Int×(Int×LI)))×(List ((Int×(Int×LI))×Int))×LI×LI)→OA)=>
  (e7 ((240:Int)) p2 p3 p4 p5 p6 p7 p8 p9 q2 q3
  (fun (y5,y6,y7,y8,y9,z7,z8,z9,A0,A1,t7,t8)=>
  (g y6 q4 q5 q6 q7 q8 q9 r0 r1 o8 o9 p0 p1 y7 y8 y9 z7 z8 z9 A0 A1 q0 q1 t7 t8
  (fun (A2,V,W,X,Y,a0,e5,a1,a2,e6,c1,c2,c3,c4,c5,c6,c7,c8,c9,d0,d1,d2,d3,d4,d5)=>
  bif !A2 then
  k0 (V,W,X,Y,a0,e5,a1,a2,e6,c1,c2,c3,c4,c5,c6,c7,c8,c9,d0,d1,d2,d3,d4,d5)
  else
  bif y5==(0:Int) then
  (e8 a2 V W X Y a0 a3 a4 ((0:Int)) ((0:Int)) ([]) c4 c5 c6 c7 c8 c9 d0 d1 d4 d5
  (fun (a,T,U,d6,d7,d8,d9,e0,e1,e2,a7,a8,r2,r3)=>
  (g d6 V W X Y a0 e5 a1 a2 e6 c1 c2 c3 d7 d8 d9 e0 e1 e2 a7 a8 d2 d3 r2 r3
  (fun (e3,B,C,D,E,F,G,H,I,J,m,n,o,p,q,s,t,u,v,w,x,d,e,y,z)=>
  bif e3 then
  (fun (z5:OA)=>
(fun (z4:OA)=>
(fun (z3:OA)=>
(fun (z2:OA)=>
(fun (z1:OA)=>
(fun (z0:OA)=>
both z0 (both z0 (both (both z2 z1) (both z2 z1))))
  (both (both (bif decide ((e.length+(1:Nat))*(48:Nat)≤(140737488355328:Nat)∧e.length+(1:Nat)≤(140737488355328:Nat)) then both z4 z4 else none) (both (both z3 z3) (both z3 z3))) (both z2 z2)))
  (both z2 (both z3 z3)))
  (both (both z3 z3) z3))
  (bif decide ((e.length+(1:Nat))*(48:Nat)≤(140737488355328:Nat)∧e.length+(1:Nat)≤(140737488355328:Nat)) then bif decide ((d.length+(1:Nat))*(40:Nat)≤(140737488355328:Nat)∧d.length+(1:Nat)≤(140737488355328:Nat)) then z5 else none else none))
  (bif decide ((d.length+(1:Nat))*(40:Nat)≤(140737488355328:Nat)∧d.length+(1:Nat)≤(140737488355328:Nat)) then z5 else none))
  (k0 (B,C,D,E,F,G,H,I,J,m,n,o,p,q,s,t,u,v,w,x,d++ [(a,T,U)],e++ [((a,T,U),(-1:Int))],y,z))
  else
  k0 (B,C,D,E,F,G,H,I,J,m,n,o,p,q,s,t,u,v,w,x,d,e,y,z)))))
  else
  (e9 ((241:Int)) a1 c4 c5 c6 c7 c8 c9 d0 d1 d4 d5
  (fun (a,T,U,d6,d7,d8,d9,e0,e1,e2,a7,a8)=>
  (g T V W X Y a0 e5 a1 a2 e6 c1 c2 c3 U d6 d7 d8 d9 e0 e1 e2 d2 d3 a7 a8
  (fun (e3,B,C,D,E,F,G,H,I,J,m,n,o,p,q,s,t,u,v,w,x,d,e,y,z)=>
  bif !e3 then
  k0 (B,C,D,E,F,G,H,I,J,m,n,o,p,q,s,t,u,v,w,x,d,e,y,z)
  else
  (g0 (decide (a < (↑d.length:Int))) B C D E F G H I J m n o p q s t u v w x d e y z
  (fun (t9,l3,l4,l5,l6,l7,l8,l9,m0,m1,g1,g2,g3,g4,g5,g6,g7,g8,g9,h0,h1,h2,h3,h4,h5)=>
  bif !t9 then
  k0 (l3,l4,l5,l6,l7,l8,l9,m0,m1,g1,g2,g3,g4,g5,g6,g7,g8,g9,h0,h1,h2,h3,h4,h5)
  else
  (a6 ((96:Int)) ((0:Int)) ((-200:Int)) ((200:Int)) l3 l4 l5 l6 l7 l8 l9 m0 m1 g1 g2 g3 g4 g5 g6 g7 g8 g9 h0 h1 h2 h3 h4 h5
  (fun (m2,v0,v1,v2,v3,v4,v5,v6,v7,v8,r4,r5,r6,r7,r8,r9,s0,s1,s2,s3,s4,s5,s6,s7,s8)=>
  (a6 ((144:Int)) ((0:Int)) ((-200:Int)) ((200:Int)) v0 v1 v2 v3 v4 v5 v6 v7 v8 r4 r5 r6 r7 r8 r9 s0 s1 s2 s3 s4 s5 s6 s7 s8
  (fun (m3,K,L,M,N,O,P,Q,R,f,A,a9,S,b0,b1,b2,b3,b4,b5,b6,b7,b,b8,b9,c0)=>
  bif S != (0:Int) then
  k0 (K,L,M,N,O,P,Q,R,f,A,a9,S,b0,b1,b2,b3,b4,b5,b6,b7,b,b8,b9,c0)
  else
  (fun (z0:OA)=>
both ((e4 K L M N O P Q R f A m2 m3 (fun (v9,w0,w1,w2,w3)=>bif decide ((0:Int)≤a∧a < (↑b.length:Int)) then (a5 f v9 w0 w1 w2 w3 a3 a4 ((b.getD a.toNat ((0:Int),(0:Int),[])).fst) ((b.getD a.toNat ((0:Int),(0:Int),[])).snd.fst) ((b.getD a.toNat ((0:Int),(0:Int),[])).snd.snd) b0 b1 b2 b3 b4 b5 b6 b7 b9 c0 (fun (m4,m5,m6,w4,w5,w6,w7,w8,w9,x0,s9,t0,t1,t2)=>(g w4 K L M N O P Q R f A a9 S w5 w6 w7 w8 w9 x0 s9 t0 b b8 t1 t2 (fun (x1,m7,m8,m9,n0,n1,n2,n3,n4,n5,h6,h7,h8,h9,j0,j1,j2,j3,j4,j5,j6,h,i,j7,j8)=>bif x1 then (fun (z6:OA)=>(fun (z5:OA)=>(fun (z4:OA)=>(fun (z3:OA)=>(fun (z2:OA)=>(fun (z1:OA)=>(fun (z0:OA)=>both z0 (both z0 (both z1 z1))) (both (both (bif decide ((i.length+(1:Nat))*(48:Nat)≤(140737488355328:Nat)∧i.length+(1:Nat)≤(140737488355328:Nat)) then both z5 z5 else none) (both z3 z3)) (both z2 z2))) (both z2 (both z2 z3))) (both z3 z4)) (both z4 z4)) (bif decide ((i.length+(1:Nat))*(48:Nat)≤(140737488355328:Nat)∧i.length+(1:Nat)≤(140737488355328:Nat)) then bif decide ((h.length+(1:Nat))*(40:Nat)≤(140737488355328:Nat)∧h.length+(1:Nat)≤(140737488355328:Nat)) then z6 else none else none)) (bif decide ((h.length+(1:Nat))*(40:Nat)≤(140737488355328:Nat)∧h.length+(1:Nat)≤(140737488355328:Nat)) then z6 else none)) (k0 (m7,m8,m9,n0,n1,n2,n3,n4,n5,h6,h7,h8,h9,j0,j1,j2,j3,j4,j5,j6,h++ [(m4,m5,m6)],i++ [((m4,m5,m6),a)],j7,j8)) else k0 (m7,m8,m9,n0,n1,n2,n3,n4,n5,h6,h7,h8,h9,j0,j1,j2,j3,j4,j5,j6,h,i,j7,j8))))) else none))) (bif decide ((0:Int)≤a∧a < (↑b.length:Int)) then both z0 z0 else none))
  ((e4 K L M N O P Q R f A m2 m3 (fun (x2,x3,x4,x5,x6)=>(a5 f x2 x3 x4 x5 x6 a3 a4 ((b.getD a.toNat ((0:Int),(0:Int),[])).fst) ((b.getD a.toNat ((0:Int),(0:Int),[])).snd.fst) ((b.getD a.toNat ((0:Int),(0:Int),[])).snd.snd) b0 b1 b2 b3 b4 b5 b6 b7 b9 c0 (fun (n6,n7,n8,x7,x8,x9,y0,y1,y2,y3,t3,t4,t5,t6)=>(g x7 K L M N O P Q R f A a9 S x8 x9 y0 y1 y2 y3 t3 t4 b b8 t5 t6 (fun (y4,n9,o0,o1,o2,o3,o4,o5,o6,o7,j9,k1,k2,k3,k4,k5,k6,k7,k8,k9,l0,j,l,l1,l2)=>bif y4 then (fun (z6:OA)=>(fun (z5:OA)=>(fun (z4:OA)=>(fun (z3:OA)=>(fun (z2:OA)=>(fun (z1:OA)=>(fun (z0:OA)=>both z0 (both z0 (both z1 z1))) (both (both (bif decide ((l.length+(1:Nat))*(48:Nat)≤(140737488355328:Nat)∧l.length+(1:Nat)≤(140737488355328:Nat)) then both z5 z5 else none) (both z3 z3)) (both z2 z2))) (both z2 (both z2 z3))) (both z3 z4)) (both z4 z4)) (bif decide ((l.length+(1:Nat))*(48:Nat)≤(140737488355328:Nat)∧l.length+(1:Nat)≤(140737488355328:Nat)) then bif decide ((j.length+(1:Nat))*(40:Nat)≤(140737488355328:Nat)∧j.length+(1:Nat)≤(140737488355328:Nat)) then z6 else none else none)) (bif decide ((j.length+(1:Nat))*(40:Nat)≤(140737488355328:Nat)∧j.length+(1:Nat)≤(140737488355328:Nat)) then z6 else none)) (k0 (n9,o0,o1,o2,o3,o4,o5,o6,o7,j9,k1,k2,k3,k4,k5,k6,k7,k8,k9,l0,j++ [(n6,n7,n8)],l++ [((n6,n7,n8),a)],l1,l2)) else k0 (n9,o0,o1,o2,o3,o4,o5,o6,o7,j9,k1,k2,k3,k4,k5,k6,k7,k8,k9,l0,j,l,l1,l2))))))))))))))))))))))) (fun r=>match r with | (B7,B8,B9,C0,C1,C2,C3,C4,C5,C6,A3,A4,A5,A6,A7,A8,A9,B0,B1,B2,B3,B4,B5,B6)=>k (.tup [],[.cells 86 [i6 B7,i6 B8,i6 B9,.bool C0,i6 C1,i6 C2,i6 C3,i6 C4,i6 C5,i6 C6,.ptr 1 0,.own 2,.own 3,i6 A3,i6 A4],.cells 147 (i6 A5::.own 4::ctb (.int .u64 A6::.int .u64 A7::.own 5::i6 A8::.int .u64 A9::i6 B0::.bool B1::.bool B2::[])),.vec 29 (.pair (.int .i64) (.pair (.int .i64) (.sl (.int .u8)))) B3 true,.vec 36 (.pair (.pair (.int .i64) (.pair (.int .i64) (.sl (.int .u8)))) (.int .i64)) B4 true,.vec 3 (.int .i64) B5 false,.vec 5 (.int .u8) B6 false])):=by
  kernel_rfl
theorem CX (fuel:Nat):GOK Tryz.prog (vi fuel):=
  gc (mb fuel) Tryz.func37 (by kernel_rfl) rfl <|
  gc (ra fuel) Tryz.func86 (by kernel_rfl) rfl <|
  gc (wE fuel) Tryz.func136 (by kernel_rfl) rfl <|
  gc (rD fuel) Tryz.func142 (by kernel_rfl) rfl <|
  gc (cA fuel) Tryz.func143 (by kernel_rfl) rfl <|
  gc (JX fuel) Tryz.func144 (by kernel_rfl) rfl <|
  gc (uP fuel) Tryz.func145 (by kernel_rfl) rfl <|
  gc (zA fuel) Tryz.func146 (by kernel_rfl) rfl <|
  gok_nil
theorem AX (fuel:Nat):FnOK Tryz.prog 87 (evalFn tab (vi fuel) J0 wj fuel Tryz.f87):=
  fn_ok tab_ok (CX fuel) mixed Tryz.func87 (c:=(Tryz.f87.body).getD .skip) rfl (fun q hq=>by
    rw [(by kernel_rfl:obl J0 ((Tryz.f87.body).getD .skip)= [])] at hq
    cases hq)
def tF (F:fb):Ev.Spec:=fun args objs k=>match args,objs with | [.c (.ptr N O),.c (i6 P),.c (i6 Q)],[.cells R [i6 S,i6 T,i6 U,.bool V,i6 W,i6 X,i6 Y,i6 a0,i6 a,i6 b,.ptr a1 a2,.own a3,.own a4,i6 d,i6 e],.cells a5 f,.vec a6 (.pair (.int .i64) (.pair (.int .i64) (.sl (.int .u8)))) g false,.vec a7 (.pair (.pair (.int .i64) (.pair (.int .i64) (.sl (.int .u8)))) (.int .i64)) h false,.vec i (.int .i64) j false,.vec l (.int .u8) m false]=>(match splitRun 2 ctn f with | some ([i6 n,.own o],[.int .u64 p,.int .u64 q,.own s,i6 t,.int .u64 u,i6 v,.bool w,.bool x])=>bif qb [N,O,R,a1,a2,a3,a4,a5,a6,a7,i,l,o,s] [0,0,86,1,0,2,3,147,29,36,3,5,4,5] then F P Q S T U V W X Y a0 a b d e n p q t u v w x g h j m (fun r=>match r with | (a8,a9,b0,b1,b2,b3,b4,b5,b6,b7,y,z,A,B,C,D,E,G,H,I,J,K,L,M)=>k (.tup [],[.cells 86 [i6 a8,i6 a9,i6 b0,.bool b1,i6 b2,i6 b3,i6 b4,i6 b5,i6 b6,i6 b7,.ptr 1 0,.own 2,.own 3,i6 y,i6 z],.cells 147 (i6 A::.own 4::ctb (.int .u64 B::.int .u64 C::.own 5::i6 D::.int .u64 E::i6 G::.bool H::.bool I::[])),.vec 29 (.pair (.int .i64) (.pair (.int .i64) (.sl (.int .u8)))) J true,.vec 36 (.pair (.pair (.int .i64) (.pair (.int .i64) (.sl (.int .u8)))) (.int .i64)) K true,.vec 3 (.int .i64) L false,.vec 5 (.int .u8) M false])) else none | _=>none) | _,_=>none
theorem DH (fuel:Nat):FnOK Tryz.prog 87 (tF (da fuel)):=by
  intro args objs kk r h
  unfold tF at h
  split at h
  · skip
    split at h
    rotate_left 1
    · cases h
    rename_i hsp
    have esp:=splitRun_eq hsp
    subst esp
    obtain ⟨hb,h⟩:=cond_some' h
    cases qb_eq hb
    exact (AX fuel).wk [1000002,1000003] _ _ kk r ((Kb fuel (aq fuel) (aR fuel) (bg fuel) (aB fuel) (aa fuel) (dY fuel) (fq fuel) (cW fuel) _ _ _ _ _ _ _ _ _ _ _ _ _ _ _ _ _ _ _ _ _ _ _ _ _ _ kk).trans h)
  · cases h
def gP (i:Nat):Option (List Nat):=Ev.look i [(3,[0,1,4,5,1000002,1000003]),(100000,[]),(400000,[1000002,1000003])]
def qj (a:ce) (b:bB) (c:fb) (f:Nat):Option Ev.Spec:=Ev.look f [(85,kX a),(86,gH b),(87,tF c)]
def vV (fuel:Nat):Nat→Option Ev.Spec:=qj (bm fuel) (aR fuel) (da fuel)
abbrev ti:Type:=Int×Int×Bool×Int×Int×Int×Bool×Int×Int×Int×Int×Int×Int×Int×Int×Int×Int×Int×Int×Int×Int×Bool×Bool×(List (Int×(Int×LI)))×(List ((Int×(Int×LI))×Int))×LI×LI
abbrev yc:Type:=(Int×Int×Int×Bool×Int×Int×Int×Int×Int×Int×Int×Int×Int×Int×Int×Int×Int×Int×Bool×Bool×(List (Int×(Int×LI)))×(List ((Int×(Int×LI))×Int))×LI×LI→OA)
def pZ (fuel:Nat) (j8:ce) (c6:bB) (c9:fb) (e b:Int) (o1:Bool) (o2 o3 o4:Int) (o5:Bool) (o6 o7:Int) (o8 m4:Int) (m5 m6:Int) (m7 m8:Int) (m9 n0:Int) (n1 n2:Int) (n3 n4:Int) (n5 n6:Bool) (n7:(List (Int×(Int×LI)))) (n8:(List ((Int×(Int×LI))×Int))) (n9 o0:LI) (c:ti→OA) (B:yc):OA:=match B with | ret=>(j8 (48) o2 o3 o4 o5 o6 o7 o8 m4 m5 m6 m7 m8 m9 n0 n1 n2 n3 n4 n5 n6 n7 n8 n9 o0 (fun (l4,a,b8,b9,c0,c1,c2,c3,c4,c5,a5,a6,a2,a4,a7,a8,a9,b0,b1,b2,b3,b4,b5,a3,b6,b7)=>bif a4 != 0 then ret (b8,b9,c0,c1,c2,c3,c4,c5,a5,a6,a2,a4,a7,a8,a9,b0,b1,b2,b3,b4,b5,a3,b6,b7) else bif l4 then (c6 (!o1) b8 b9 c0 c1 c2 c3 c4 c5 a5 a6 a2 a4 a7 a8 a9 b0 b1 b2 b3 b4 b5 a3 b6 b7 (fun (o9,l5,l6,l7,l8,l9,m0,m1,m2,m3,j9,k0,k1,k2,k3,k4,k5,k6,k7,k8,k9,l0,l1,l2,l3)=>ret (l5,l6,l7,l8,l9,m0,m1,m2,m3,j9,k0,k1,k2,k3,k4,k5,k6,k7,k8,k9,l0,l1,l2,l3))) else both (bif decide ((↑a3.length:Int) < a2) then bif decide (i64.wrap (b+a)≥1) then (c6 (decide (i64.wrap (b+a)≤40)) b8 b9 c0 c1 c2 c3 c4 c5 a5 a6 a2 a4 a7 a8 a9 b0 b1 b2 b3 b4 b5 a3 b6 b7 (fun (c8,I,J,K,L,M,N,O,P,Q,f,g,h,i,j,k,l,m,n,o,p,q,r,s,t)=>bif !c8 then ret (I,J,K,L,M,N,O,P,Q,f,g,h,i,j,k,l,m,n,o,p,q,r,s,t) else (c9 (i64.wrap (b+a)) e I J K L M N O P Q f g h i j k l m n o p q r s t (fun (R,S,T,U,V,W,X,Y,a0,a1,u,d,v,w,x,y,z,A,C,D,E,F,G,H)=>bif d != 0 then ret (R,S,T,U,V,W,X,Y,a0,a1,u,d,v,w,x,y,z,A,C,D,E,F,G,H) else c (e,i64.wrap (b+a),false,R,S,T,U,V,W,X,Y,a0,a1,u,d,v,w,x,y,z,A,C,D,E,F,G,H))))) else (c6 (false) b8 b9 c0 c1 c2 c3 c4 c5 a5 a6 a2 a4 a7 a8 a9 b0 b1 b2 b3 b4 b5 a3 b6 b7 (fun (c8,I,J,K,L,M,N,O,P,Q,f,g,h,i,j,k,l,m,n,o,p,q,r,s,t)=>bif !c8 then ret (I,J,K,L,M,N,O,P,Q,f,g,h,i,j,k,l,m,n,o,p,q,r,s,t) else (c9 (i64.wrap (b+a)) e I J K L M N O P Q f g h i j k l m n o p q r s t (fun (R,S,T,U,V,W,X,Y,a0,a1,u,d,v,w,x,y,z,A,C,D,E,F,G,H)=>bif d != 0 then ret (R,S,T,U,V,W,X,Y,a0,a1,u,d,v,w,x,y,z,A,C,D,E,F,G,H) else c (e,i64.wrap (b+a),false,R,S,T,U,V,W,X,Y,a0,a1,u,d,v,w,x,y,z,A,C,D,E,F,G,H))))) else (c6 (false) b8 b9 c0 c1 c2 c3 c4 c5 a5 a6 a2 a4 a7 a8 a9 b0 b1 b2 b3 b4 b5 a3 b6 b7 (fun (j7,g8,g9,h0,h1,h2,h3,h4,h5,h6,d0,d1,d2,d3,d4,d5,d6,d7,d8,d9,e0,e1,e2,e3,e4)=>bif !j7 then ret (g8,g9,h0,h1,h2,h3,h4,h5,h6,d0,d1,d2,d3,d4,d5,d6,d7,d8,d9,e0,e1,e2,e3,e4) else (c9 (i64.wrap (b+a)) e g8 g9 h0 h1 h2 h3 h4 h5 h6 d0 d1 d2 d3 d4 d5 d6 d7 d8 d9 e0 e1 e2 e3 e4 (fun (h7,h8,h9,j0,j1,j2,j3,j4,j5,j6,e5,c7,e6,e7,e8,e9,g0,g1,g2,g3,g4,g5,g6,g7)=>bif c7 != 0 then ret (h7,h8,h9,j0,j1,j2,j3,j4,j5,j6,e5,c7,e6,e7,e8,e9,g0,g1,g2,g3,g4,g5,g6,g7) else c (e,i64.wrap (b+a),false,h7,h8,h9,j0,j1,j2,j3,j4,j5,j6,e5,c7,e6,e7,e8,e9,g0,g1,g2,g3,g4,g5,g6,g7)))))) (bif decide ((↑a3.length:Int) < a2) then bif decide (i64.wrap (b+a)≥1) then (c6 (decide (i64.wrap (b+a)≤40)) b8 b9 c0 c1 c2 c3 c4 c5 a5 a6 a2 a4 a7 a8 a9 b0 b1 b2 b3 b4 b5 a3 b6 b7 (fun (c8,I,J,K,L,M,N,O,P,Q,f,g,h,i,j,k,l,m,n,o,p,q,r,s,t)=>bif !c8 then ret (I,J,K,L,M,N,O,P,Q,f,g,h,i,j,k,l,m,n,o,p,q,r,s,t) else (c9 (i64.wrap (b+a)) e I J K L M N O P Q f g h i j k l m n o p q r s t (fun (R,S,T,U,V,W,X,Y,a0,a1,u,d,v,w,x,y,z,A,C,D,E,F,G,H)=>bif d != 0 then ret (R,S,T,U,V,W,X,Y,a0,a1,u,d,v,w,x,y,z,A,C,D,E,F,G,H) else c (e,i64.wrap (b+a),false,R,S,T,U,V,W,X,Y,a0,a1,u,d,v,w,x,y,z,A,C,D,E,F,G,H))))) else (c6 (false) b8 b9 c0 c1 c2 c3 c4 c5 a5 a6 a2 a4 a7 a8 a9 b0 b1 b2 b3 b4 b5 a3 b6 b7 (fun (c8,I,J,K,L,M,N,O,P,Q,f,g,h,i,j,k,l,m,n,o,p,q,r,s,t)=>bif !c8 then ret (I,J,K,L,M,N,O,P,Q,f,g,h,i,j,k,l,m,n,o,p,q,r,s,t) else (c9 (i64.wrap (b+a)) e I J K L M N O P Q f g h i j k l m n o p q r s t (fun (R,S,T,U,V,W,X,Y,a0,a1,u,d,v,w,x,y,z,A,C,D,E,F,G,H)=>bif d != 0 then ret (R,S,T,U,V,W,X,Y,a0,a1,u,d,v,w,x,y,z,A,C,D,E,F,G,H) else c (e,i64.wrap (b+a),false,R,S,T,U,V,W,X,Y,a0,a1,u,d,v,w,x,y,z,A,C,D,E,F,G,H))))) else (c6 (false) b8 b9 c0 c1 c2 c3 c4 c5 a5 a6 a2 a4 a7 a8 a9 b0 b1 b2 b3 b4 b5 a3 b6 b7 (fun (j7,g8,g9,h0,h1,h2,h3,h4,h5,h6,d0,d1,d2,d3,d4,d5,d6,d7,d8,d9,e0,e1,e2,e3,e4)=>bif !j7 then ret (g8,g9,h0,h1,h2,h3,h4,h5,h6,d0,d1,d2,d3,d4,d5,d6,d7,d8,d9,e0,e1,e2,e3,e4) else (c9 (i64.wrap (b+a)) e g8 g9 h0 h1 h2 h3 h4 h5 h6 d0 d1 d2 d3 d4 d5 d6 d7 d8 d9 e0 e1 e2 e3 e4 (fun (h7,h8,h9,j0,j1,j2,j3,j4,j5,j6,e5,c7,e6,e7,e8,e9,g0,g1,g2,g3,g4,g5,g6,g7)=>bif c7 != 0 then ret (h7,h8,h9,j0,j1,j2,j3,j4,j5,j6,e5,c7,e6,e7,e8,e9,g0,g1,g2,g3,g4,g5,g6,g7) else c (e,i64.wrap (b+a),false,h7,h8,h9,j0,j1,j2,j3,j4,j5,j6,e5,c7,e6,e7,e8,e9,g0,g1,g2,g3,g4,g5,g6,g7))))))))
def gu (fuel:Nat) (v:Int×Int×Bool×Int×Int×Int×Bool×Int×Int×Int×Int×Int×Int×Int×Int×Int×Int×Int×Int×Int×Int×Bool×Bool×(List (Int×(Int×(List Int))))×(List ((Int×(Int×(List Int)))×Int))×(List Int)×(List Int)) (c:(Int×Int×Bool×Int×Int×Int×Bool×Int×Int×Int×Int×Int×Int×Int×Int×Int×Int×Int×Int×Int×Int×Bool×Bool×(List (Int×(Int×(List Int))))×(List ((Int×(Int×(List Int)))×Int))×(List Int)×(List Int))→Option Ans) (B:(Int×Int×Int×Bool×Int×Int×Int×Int×Int×Int×Int×Int×Int×Int×Int×Int×Int×Int×Bool×Bool×(List (Int×(Int×(List Int))))×(List ((Int×(Int×(List Int)))×Int))×(List Int)×(List Int)→Option Ans)):Option Ans:=match v with | (s,t,u,w,x,y,z,A,C,D,a,b,d,e,f,g,h,i,j,k,l,m,n,o,p,q,r)=>pZ fuel (bm fuel) (aR fuel) (da fuel) s t u w x y z A C D a b d e f g h i j k l m n o p q r c B
def vA (fuel:Nat) (v:ti) (ret:(Int×Int×Int×Bool×Int×Int×Int×Int×Int×Int×Int×Int×Int×Int×Int×Int×Int×Int×Bool×Bool×(List (Int×(Int×(List Int))))×(List ((Int×(Int×(List Int)))×Int))×(List Int)×(List Int)→Option Ans)):Option Ans:=iter (gu fuel) fuel v ret
def ry (v:ti):Ev.St:=match v with | (s,t,u,w,x,y,z,A,B,C,a,b,d,e,f,g,h,i,j,k,l,m,n,o,p,q,r)=>⟨[(0,.c (.ptr 0 0)),(1,.c (i6 s)),(4,.c (i6 t)),(5,.c (.bool u))],[(0,.cells 86 [i6 w,i6 x,i6 y,.bool z,i6 A,i6 B,i6 C,i6 a,i6 b,i6 d,.ptr 1 0,.own 2,.own 3,i6 e,i6 f]),(1,.cells 147 (i6 g::.own 4::ctb (.int .u64 h::.int .u64 i::.own 5::i6 j::.int .u64 k::i6 l::.bool m::.bool n::[]))),(2,.vec 29 (.pair (.int .i64) (.pair (.int .i64) (.sl (.int .u8)))) o true),(3,.vec 36 (.pair (.pair (.int .i64) (.pair (.int .i64) (.sl (.int .u8)))) (.int .i64)) p true),(4,.vec 3 (.int .i64) q false),(5,.vec 5 (.int .u8) r false)],6,6⟩
def sB (K:KT):yc:=(fun v=>match v with | (o,p,q,r,s,t,u,w,x,y,a,b,c,d,e,f,g,h,i,j,k,l,m,n)=>K .ret ⟨[],[(0,.cells 86 [i6 o,i6 p,i6 q,.bool r,i6 s,i6 t,i6 u,i6 w,i6 x,i6 y,.ptr 1 0,.own 2,.own 3,i6 a,i6 b]),(1,.cells 147 (i6 c::.own 4::ctb (.int .u64 d::.int .u64 e::.own 5::i6 f::.int .u64 g::i6 h::.bool i::.bool j::[]))),(2,.vec 29 (.pair (.int .i64) (.pair (.int .i64) (.sl (.int .u8)))) k true),(3,.vec 36 (.pair (.pair (.int .i64) (.pair (.int .i64) (.sl (.int .u8)))) (.int .i64)) l true),(4,.vec 3 (.int .i64) m false),(5,.vec 5 (.int .u8) n false)],6,6⟩)
theorem Dg (fuel:Nat) (a:ce) (b:bB) (c:fb) (R:Ev.St→OA) (K:KT) (u w:Int) (x:Bool) (y z A:Int) (B:Bool) (C D:Int) (E d:Int) (e f:Int) (g h:Int) (i j:Int) (k l:Int) (m n:Int) (o p:Bool) (q:(List (Int×(Int×LI)))) (r:(List ((Int×(Int×LI))×Int))) (s t:LI):evalCode tab (qj a b c) J0 gP fuel (bodyOf 0 Tryz.f38) (ry (u,w,x,y,z,A,B,C,D,E,d,e,f,g,h,i,j,k,l,m,n,o,p,q,r,s,t)) (lc gP 3 0 R K)=pZ fuel a b c u w x y z A B C D E d e f g h i j k l m n o p q r s t (fun v=>R (ry v)) (sB K):=by
  kernel_rfl
def kH (fuel:Nat):Ev.Blk:=fun st K=>match canonO (gP 3) st with | some s=>(match s with | ⟨[(L,.c (.ptr M N)),(O,.c (i6 P)),(Q,.c (i6 R)),(S,.c (.bool T))],[(U,.cells V [i6 W,i6 X,i6 Y,.bool a0,i6 a1,i6 a2,i6 a3,i6 a,i6 b,i6 d,.ptr a4 a5,.own e,.own f,i6 g,i6 h]),(i,.cells j k),(l,.vec m (.pair (.int .i64) (.pair (.int .i64) (.sl (.int .u8)))) n true),(o,.vec p (.pair (.pair (.int .i64) (.pair (.int .i64) (.sl (.int .u8)))) (.int .i64)) q true),(r,.vec t (.int .i64) u false),(v,.vec w (.int .u8) x false)],y,z⟩=>(match splitRun 2 ctn k with | some ([i6 A,.own B],[.int .u64 C,.int .u64 D,.own E,i6 F,.int .u64 G,i6 H,.bool I,.bool J])=>bif qb [L,M,N,O,Q,S,U,V,a4,a5,e,f,i,j,l,m,o,p,r,t,v,w,y,z,B,E] [0,0,0,1,4,5,0,86,1,0,2,3,1,147,2,29,3,36,4,3,5,5,6,6,4,5] then iter (gu fuel) fuel (P,R,T,W,X,Y,a0,a1,a2,a3,a,b,d,g,h,A,C,D,F,G,H,I,J,n,q,u,x) (sB K) else none | _=>none) | _=>none) | none=>none
theorem AG (fuel:Nat) (st:Ev.St) (K:KT) (r:Ans) (h:kH fuel st K=some r):evalCode tab (vV fuel) J0 gP fuel (.block 0 (.loop (bodyOf 0 Tryz.f38))) st K=some r:=by
  unfold kH at h
  split at h
  · rename_i s hs
    split at h
    · skip
      split at h
      rotate_left 1
      · cases h
      rename_i hsp
      have esp:=splitRun_eq hsp
      subst esp
      obtain ⟨hb,h⟩:=cond_some' h
      cases qb_eq hb
      exact blk_loop (S:=ry) (ks:=sB) (step:=gu fuel) (v:=(_,_,_,_,_,_,_,_,_,_,_,_,_,_,_,_,_,_,_,_,_,_,_,_,_,_,_)) (by kernel_rfl) (by kernel_rfl) (fun R K v=>by obtain ⟨u,w,x,y,z,A,B,C,D,E,a,b,c,d,e,f,g,i,j,k,l,m,n,o,p,q,t⟩:=v; exact Dg fuel (bm fuel) (aR fuel) (da fuel) R K u w x y z A B C D E a b c d e f g i j k l m n o p q t) hs h
    · cases h
  · cases h
def D6 (fuel:Nat) (i:Nat):Option Ev.Blk:=Ev.look i [(100000,kH fuel)]
def nA (fuel:Nat) (z:ce) (A:bB) (B:fb) (p q:Int) (r s:Int) (t:Bool) (u v:Int) (w x:Int) (y a:Int) (b c:Int) (d e:Int) (f g:Int) (h i:Int) (j k:Bool) (l:(List (Int×(Int×LI)))) (m:(List ((Int×(Int×LI))×Int))) (n o:LI) (k0:(Int×Int×Int×Bool×Int×Int×Int×Int×Int×Int×Int×Int×Int×Int×Int×Int×Int×Int×Bool×Bool×(List (Int×(Int×LI)))×(List ((Int×(Int×LI))×Int))×LI×LI)→OA):OA:=(vA fuel (p,0,true,q,r,s,t,u,v,w,x,y,a,b,c,d,e,f,g,h,i,j,k,l,m,n,o) (fun (ret0_0,ret0_1,ret0_2,ret0_3,ret0_4,ret0_5,ret0_6,ret0_7,ret0_8,ret0_9,ret0_10,ret0_11,ret0_12,ret0_13,ret0_14,ret0_15,ret0_16,ret0_17,ret0_18,ret0_19,ret0_20,ret0_21,ret0_22,ret0_23)=>k0 (ret0_0,ret0_1,ret0_2,ret0_3,ret0_4,ret0_5,ret0_6,ret0_7,ret0_8,ret0_9,ret0_10,ret0_11,ret0_12,ret0_13,ret0_14,ret0_15,ret0_16,ret0_17,ret0_18,ret0_19,ret0_20,ret0_21,ret0_22,ret0_23)))
abbrev dL:Type:=Int→Int→Int→Int→Bool→Int→Int→Int→Int→Int→Int→Int→Int→Int→Int→Int→Int→Int→Int→Bool→Bool→((List (Int×(Int×LI))))→((List ((Int×(Int×LI))×Int)))→LI→LI→((Int×Int×Int×Bool×Int×Int×Int×Int×Int×Int×Int×Int×Int×Int×Int×Int×Int×Int×Bool×Bool×(List (Int×(Int×LI)))×(List ((Int×(Int×LI))×Int))×LI×LI)→Option Ans)→Option Ans
def dl (fuel:Nat):dL:=nA fuel (bm fuel) (aR fuel) (da fuel)
theorem Hi (fuel:Nat) (a:ce) (b:bB) (d:fb) (v w:Int) (x y:Int) (z:Bool) (A B:Int) (C D:Int) (E e:Int) (f g:Int) (h i:Int) (j l:Int) (m n:Int) (o p:Bool) (q:(List (Int×(Int×LI)))) (s:(List ((Int×(Int×LI))×Int))) (t u:LI) (k:Ev.Cont):evalFn tab (qj a b d) (D6 fuel) gP fuel Tryz.f38 [.c (.ptr 0 0),.c (i6 v)] [.cells 86 [i6 w,i6 x,i6 y,.bool z,i6 A,i6 B,i6 C,i6 D,i6 E,i6 e,.ptr 1 0,.own 2,.own 3,i6 f,i6 g],.cells 147 (i6 h::.own 4::ctb (.int .u64 i::.int .u64 j::.own 5::i6 l::.int .u64 m::i6 n::.bool o::.bool p::[])),.vec 29 (.pair (.int .i64) (.pair (.int .i64) (.sl (.int .u8)))) q false,.vec 36 (.pair (.pair (.int .i64) (.pair (.int .i64) (.sl (.int .u8)))) (.int .i64)) s false,.vec 3 (.int .i64) t false,.vec 5 (.int .u8) u false] k=nA fuel a b d v w x y z A B C D E e f g h i j l m n o p q s t u (fun r=>match r with | (T,U,V,W,X,Y,a0,a1,a2,a3,F,G,H,I,J,K,L,M,N,O,P,Q,R,S)=>k (.tup [],[.cells 86 [i6 T,i6 U,i6 V,.bool W,i6 X,i6 Y,i6 a0,i6 a1,i6 a2,i6 a3,.ptr 1 0,.own 2,.own 3,i6 F,i6 G],.cells 147 (i6 H::.own 4::ctb (.int .u64 I::.int .u64 J::.own 5::i6 K::.int .u64 L::i6 M::.bool N::.bool O::[])),.vec 29 (.pair (.int .i64) (.pair (.int .i64) (.sl (.int .u8)))) P true,.vec 36 (.pair (.pair (.int .i64) (.pair (.int .i64) (.sl (.int .u8)))) (.int .i64)) Q true,.vec 3 (.int .i64) R false,.vec 5 (.int .u8) S false])):=by
  kernel_rfl
theorem wx (fuel:Nat):GOK Tryz.prog (vV fuel):=
  gc (xs fuel) Tryz.func85 (by kernel_rfl) rfl <|
  gc (ra fuel) Tryz.func86 (by kernel_rfl) rfl <|
  gc (DH fuel) Tryz.func87 (by kernel_rfl) rfl <|
  gok_nil
theorem H8 (fuel:Nat):BlkOK Tryz.prog Tryz.f38.ntmps (.block 0 (.loop (bodyOf 0 Tryz.f38))) (kH fuel):=bo0 (wx fuel) (by kernel_rfl) (by kernel_rfl) (AG fuel)
def nd (F:dL):Ev.Spec:=fun args objs k=>match args,objs with | [.c (.ptr M N),.c (i6 O)],[.cells P [i6 Q,i6 R,i6 S,.bool T,i6 U,i6 V,i6 W,i6 X,i6 Y,i6 a,.ptr a0 a1,.own a2,.own a3,i6 b,i6 d],.cells a4 e,.vec a5 (.pair (.int .i64) (.pair (.int .i64) (.sl (.int .u8)))) f false,.vec a6 (.pair (.pair (.int .i64) (.pair (.int .i64) (.sl (.int .u8)))) (.int .i64)) g false,.vec h (.int .i64) i false,.vec j (.int .u8) l false]=>(match splitRun 2 ctn e with | some ([i6 m,.own n],[.int .u64 o,.int .u64 p,.own q,i6 s,.int .u64 t,i6 u,.bool v,.bool w])=>bif qb [M,N,P,a0,a1,a2,a3,a4,a5,a6,h,j,n,q] [0,0,86,1,0,2,3,147,29,36,3,5,4,5] then F O Q R S T U V W X Y a b d m o p s t u v w f g i l (fun r=>match r with | (a7,a8,a9,b0,b1,b2,b3,b4,b5,b6,x,y,z,A,B,C,D,E,G,H,I,J,K,L)=>k (.tup [],[.cells 86 [i6 a7,i6 a8,i6 a9,.bool b0,i6 b1,i6 b2,i6 b3,i6 b4,i6 b5,i6 b6,.ptr 1 0,.own 2,.own 3,i6 x,i6 y],.cells 147 (i6 z::.own 4::ctb (.int .u64 A::.int .u64 B::.own 5::i6 C::.int .u64 D::i6 E::.bool G::.bool H::[])),.vec 29 (.pair (.int .i64) (.pair (.int .i64) (.sl (.int .u8)))) I true,.vec 36 (.pair (.pair (.int .i64) (.pair (.int .i64) (.sl (.int .u8)))) (.int .i64)) J true,.vec 3 (.int .i64) K false,.vec 5 (.int .u8) L false])) else none | _=>none) | _,_=>none
theorem EB (fuel:Nat):FnOK Tryz.prog 38 (nd (dl fuel)):=by
  intro args objs kk r h
  unfold nd at h
  split at h
  · skip
    split at h
    rotate_left 1
    · cases h
    rename_i hsp
    have esp:=splitRun_eq hsp
    subst esp
    obtain ⟨hb,h⟩:=cond_some' h
    cases qb_eq hb
    exact fo1 (wx fuel) Tryz.func38 rfl (H8 fuel) (by kernel_rfl) _ _ kk r ((Hi fuel (bm fuel) (aR fuel) (da fuel) _ _ _ _ _ _ _ _ _ _ _ _ _ _ _ _ _ _ _ _ _ _ _ _ _ kk).trans h)
  · cases h
def bU (i:Nat):Option (List Nat):=Ev.look i [(3,[0,1,5,6]),(10,[0,1,5,6,36,37]),(100000,[5]),(100002,[0,1,5,6]),(400000,[4]),(400002,[4])]
def kO (a:aQ) (f:Nat):Option Ev.Spec:=Ev.look f [(37,iH a)]
def tV (fuel:Nat):Nat→Option Ev.Spec:=kO (aq fuel)
abbrev np:Type:=Int×Bool×Int×Int×Int×Int×Int×Bool×Int×Int×Int×Int×Int×Int×Int×Int×Int×Int×Int×Int×Int×Int×Bool×Bool×(List (Int×(Int×LI)))×(List ((Int×(Int×LI))×Int))×LI×LI×(List Bool)
abbrev qU:Type:=(Int×Bool×Int×Int×Int×Bool×Int×Int×Int×Int×Int×Int×Int×Int×Int×Int×Int×Int×Int×Int×Bool×Bool×(List (Int×(Int×LI)))×(List ((Int×(Int×LI))×Int))×LI×LI×(List Bool)→OA)
def hX (fuel:Nat) (G:aQ) (w:Int) (a:Bool) (E F:Int) (x y z:Int) (A:Bool) (C D:Int) (f g:Int) (h i:Int) (j e:Int) (k l:Int) (m n:Int) (o p:Int) (q r:Bool) (s:(List (Int×(Int×LI)))) (t:(List ((Int×(Int×LI))×Int))) (u v:LI) (d:(List Bool)) (c:np→OA) (B:qU):OA:=match B with | b=>bif decide (F < E) then bif e != 0 then b (w,a,x,y,z,A,C,D,f,g,h,i,j,e,k,l,m,n,o,p,q,r,s,t,u,v,d) else bif decide ((d.length+ [a].length)*(1:Nat)≤(140737488355328:Nat)∧d.length+ [a].length≤(140737488355328:Nat)) then c (w,a,E,i64.wrap (F+(1:Int)),x,y,z,A,C,D,f,g,h,i,j,e,k,l,m,n,o,p,q,r,s,t,u,v,d++ [a]) else none else b (w,a,x,y,z,A,C,D,f,g,h,i,j,e,k,l,m,n,o,p,q,r,s,t,u,v,d)
def cM (fuel:Nat) (v:Int×Bool×Int×Int×Int×Int×Int×Bool×Int×Int×Int×Int×Int×Int×Int×Int×Int×Int×Int×Int×Int×Int×Bool×Bool×(List (Int×(Int×(List Int))))×(List ((Int×(Int×(List Int)))×Int))×(List Int)×(List Int)×(List Bool)) (c:(Int×Bool×Int×Int×Int×Int×Int×Bool×Int×Int×Int×Int×Int×Int×Int×Int×Int×Int×Int×Int×Int×Int×Bool×Bool×(List (Int×(Int×(List Int))))×(List ((Int×(Int×(List Int)))×Int))×(List Int)×(List Int)×(List Bool))→Option Ans) (B:(Int×Bool×Int×Int×Int×Bool×Int×Int×Int×Int×Int×Int×Int×Int×Int×Int×Int×Int×Int×Int×Bool×Bool×(List (Int×(Int×(List Int))))×(List ((Int×(Int×(List Int)))×Int))×(List Int)×(List Int)×(List Bool)→Option Ans)):Option Ans:=match v with | (u,w,x,y,z,A,C,D,E,F,a,b,d,e,f,g,h,i,j,k,l,m,n,o,p,q,r,s,t)=>hX fuel (aq fuel) u w x y z A C D E F a b d e f g h i j k l m n o p q r s t c B
def dp (fuel:Nat) (v:np) (b:qU):Option Ans:=iter (cM fuel) fuel v b
def uf (v:np):Ev.St:=match v with | (u,w,x,y,z,A,B,C,D,E,a,b,d,e,f,g,h,i,j,k,l,m,n,o,p,q,r,s,t)=>⟨[(0,.c (.ptr 0 0)),(1,.c (i6 u)),(5,.c (.own 6)),(6,.c (.bool w)),(36,.c (i6 x)),(37,.c (i6 y))],[(0,.cells 86 [i6 z,i6 A,i6 B,.bool C,i6 D,i6 E,i6 a,i6 b,i6 d,i6 e,.ptr 1 0,.own 2,.own 3,i6 f,i6 g]),(1,.cells 147 (i6 h::.own 4::ctb (.int .u64 i::.int .u64 j::.own 5::i6 k::.int .u64 l::i6 m::.bool n::.bool o::[]))),(2,.vec 29 (.pair (.int .i64) (.pair (.int .i64) (.sl (.int .u8)))) p false),(3,.vec 36 (.pair (.pair (.int .i64) (.pair (.int .i64) (.sl (.int .u8)))) (.int .i64)) q false),(4,.vec 3 (.int .i64) r false),(5,.vec 5 (.int .u8) s false),(6,.vec 4 .bool t true)],7,6⟩
def qQ (K:KT):qU:=(fun v=>match v with | (s,t,u,w,x,y,z,A,B,C,a,b,d,e,f,g,h,i,j,k,l,m,n,o,p,q,r)=>K .normal ⟨[(0,.c (.ptr 0 0)),(1,.c (i6 s)),(5,.c (.own 6)),(6,.c (.bool t))],[(0,.cells 86 [i6 u,i6 w,i6 x,.bool y,i6 z,i6 A,i6 B,i6 C,i6 a,i6 b,.ptr 1 0,.own 2,.own 3,i6 d,i6 e]),(1,.cells 147 (i6 f::.own 4::ctb (.int .u64 g::.int .u64 h::.own 5::i6 i::.int .u64 j::i6 k::.bool l::.bool m::[]))),(2,.vec 29 (.pair (.int .i64) (.pair (.int .i64) (.sl (.int .u8)))) n false),(3,.vec 36 (.pair (.pair (.int .i64) (.pair (.int .i64) (.sl (.int .u8)))) (.int .i64)) o false),(4,.vec 3 (.int .i64) p false),(5,.vec 5 (.int .u8) q false),(6,.vec 4 .bool r true)],7,6⟩)
theorem DZ (fuel:Nat) (a:aQ) (R:Ev.St→OA) (K:KT) (u:Int) (w:Bool) (x y:Int) (z A B:Int) (C:Bool) (D E:Int) (b c:Int) (d e:Int) (f g:Int) (h i:Int) (j k:Int) (l m:Int) (n o:Bool) (p:(List (Int×(Int×LI)))) (q:(List ((Int×(Int×LI))×Int))) (r s:LI) (t:(List Bool)):evalCode tab (kO a) J0 bU fuel (bodyOf 2 Tryz.f39) (uf (u,w,x,y,z,A,B,C,D,E,b,c,d,e,f,g,h,i,j,k,l,m,n,o,p,q,r,s,t)) (lc bU 10 2 R K)=hX fuel a u w x y z A B C D E b c d e f g h i j k l m n o p q r s t (fun v=>R (uf v)) (qQ K):=by
  kernel_rfl
def eI (fuel:Nat):Ev.Blk:=fun st K=>match canonO (bU 10) st with | some s=>(match s with | ⟨[(S,.c (.ptr T U)),(V,.c (i6 W)),(X,.c (.own Y)),(a0,.c (.bool a1)),(a2,.c (i6 a3)),(a4,.c (i6 a5))],[(a6,.cells a [i6 a7,i6 a8,i6 a9,.bool b0,i6 b1,i6 b2,i6 b,i6 d,i6 e,i6 f,.ptr g h,.own i,.own j,i6 k,i6 l]),(m,.cells n o),(p,.vec q (.pair (.int .i64) (.pair (.int .i64) (.sl (.int .u8)))) r false),(t,.vec u (.pair (.pair (.int .i64) (.pair (.int .i64) (.sl (.int .u8)))) (.int .i64)) v false),(w,.vec x (.int .i64) y false),(z,.vec A (.int .u8) B false),(C,.vec D .bool E true)],F,G⟩=>(match splitRun 2 ctn o with | some ([i6 H,.own I],[.int .u64 J,.int .u64 L,.own M,i6 N,.int .u64 O,i6 P,.bool Q,.bool R])=>bif qb [S,T,U,V,X,Y,a0,a2,a4,a6,a,g,h,i,j,m,n,p,q,t,u,w,x,z,A,C,D,F,G,I,M] [0,0,0,1,5,6,6,36,37,0,86,1,0,2,3,1,147,2,29,3,36,4,3,5,5,6,4,7,6,4,5] then iter (cM fuel) fuel (W,a1,a3,a5,a7,a8,a9,b0,b1,b2,b,d,e,f,k,l,H,J,L,N,O,P,Q,R,r,v,y,B,E) (qQ K) else none | _=>none) | _=>none) | none=>none
theorem IY (fuel:Nat) (st:Ev.St) (K:KT) (r:Ans) (h:eI fuel st K=some r):evalCode tab (tV fuel) J0 bU fuel (.block 2 (.loop (bodyOf 2 Tryz.f39))) st K=some r:=by
  unfold eI at h
  split at h
  · rename_i s hs
    split at h
    · skip
      split at h
      rotate_left 1
      · cases h
      rename_i hsp
      have esp:=splitRun_eq hsp
      subst esp
      obtain ⟨hb,h⟩:=cond_some' h
      cases qb_eq hb
      exact blk_loop (S:=uf) (ks:=qQ) (step:=cM fuel) (v:=(_,_,_,_,_,_,_,_,_,_,_,_,_,_,_,_,_,_,_,_,_,_,_,_,_,_,_,_,_)) (by kernel_rfl) (by kernel_rfl) (fun R K v=>by obtain ⟨x,y,z,A,B,C,D,E,F,G,a,b,c,d,e,f,g,i,j,k,l,m,n,o,p,q,t,u,w⟩:=v; exact DZ fuel (aq fuel) R K x y z A B C D E F G a b c d e f g i j k l m n o p q t u w) hs h
    · cases h
  · cases h
abbrev uv:Type:=Int×Bool×Int×Int×Int×Bool×Int×Int×Int×Int×Int×Int×Int×Int×Int×Int×Int×Int×Int×Int×Bool×Bool×(List (Int×(Int×LI)))×(List ((Int×(Int×LI))×Int))×LI×LI×(List Bool)
abbrev qg:Type:=(Int×Int×Int×Bool×Int×Int×Int×Int×Int×Int×Int×Int×Int×Int×Int×Int×Int×Int×Bool×Bool×(List (Int×(Int×LI)))×(List ((Int×(Int×LI))×Int))×LI×LI×(List Bool)→OA)
def jK (fuel:Nat) (a6:aQ) (d:Int) (a5:Bool) (W X Y:Int) (a0:Bool) (a1 a2:Int) (a3 a4:Int) (H I:Int) (J e:Int) (K L:Int) (M N:Int) (O P:Int) (Q R:Bool) (S:(List (Int×(Int×LI)))) (T:(List ((Int×(Int×LI))×Int))) (U V:LI) (a:(List Bool)) (c:uv→OA) (B:qg):OA:=match B with | b=>bif e==0 then bif decide ((↑a.length:Int) < d) then bif !a5 then bif (↑a.length:Int)==0 then (a6 (192) (0) (0) (i64.wrap (d - (↑a.length:Int))) W X Y a0 a1 a2 a3 a4 H I J e K L M N O P Q R S T U V (fun (c2,c3,c4,c5,c6,c7,c8,c9,d0,d1,a7,a8,a9,b0,b1,b2,b3,b4,b5,b6,b7,b8,b9,c0,c1)=>(dp fuel (d,a5,c2,0,c3,c4,c5,c6,c7,c8,c9,d0,d1,a7,a8,a9,b0,b1,b2,b3,b4,b5,b6,b7,b8,b9,c0,c1,a) (fun (w,x,y,z,A,C,D,E,F,G,f,g,h,i,j,k,l,m,n,o,p,q,r,s,t,u,v)=>c (w,!x,y,z,A,C,D,E,F,G,f,g,h,i,j,k,l,m,n,o,p,q,r,s,t,u,v))))) else (a6 (192) (0) (1) (i64.wrap (d - (↑a.length:Int))) W X Y a0 a1 a2 a3 a4 H I J e K L M N O P Q R S T U V (fun (c2,c3,c4,c5,c6,c7,c8,c9,d0,d1,a7,a8,a9,b0,b1,b2,b3,b4,b5,b6,b7,b8,b9,c0,c1)=>(dp fuel (d,a5,c2,0,c3,c4,c5,c6,c7,c8,c9,d0,d1,a7,a8,a9,b0,b1,b2,b3,b4,b5,b6,b7,b8,b9,c0,c1,a) (fun (w,x,y,z,A,C,D,E,F,G,f,g,h,i,j,k,l,m,n,o,p,q,r,s,t,u,v)=>c (w,!x,y,z,A,C,D,E,F,G,f,g,h,i,j,k,l,m,n,o,p,q,r,s,t,u,v))))) else (a6 (192) (0) (1) (i64.wrap (d - (↑a.length:Int))) W X Y a0 a1 a2 a3 a4 H I J e K L M N O P Q R S T U V (fun (e7,e8,e9,g0,g1,g2,g3,g4,g5,g6,d2,d3,d4,d5,d6,d7,d8,d9,e0,e1,e2,e3,e4,e5,e6)=>(dp fuel (d,a5,e7,0,e8,e9,g0,g1,g2,g3,g4,g5,g6,d2,d3,d4,d5,d6,d7,d8,d9,e0,e1,e2,e3,e4,e5,e6,a) (fun (w,x,y,z,A,C,D,E,F,G,f,g,h,i,j,k,l,m,n,o,p,q,r,s,t,u,v)=>c (w,!x,y,z,A,C,D,E,F,G,f,g,h,i,j,k,l,m,n,o,p,q,r,s,t,u,v))))) else b (W,X,Y,a0,a1,a2,a3,a4,H,I,J,e,K,L,M,N,O,P,Q,R,S,T,U,V,a) else b (W,X,Y,a0,a1,a2,a3,a4,H,I,J,e,K,L,M,N,O,P,Q,R,S,T,U,V,a)
def dn (fuel:Nat) (v:Int×Bool×Int×Int×Int×Bool×Int×Int×Int×Int×Int×Int×Int×Int×Int×Int×Int×Int×Int×Int×Bool×Bool×(List (Int×(Int×(List Int))))×(List ((Int×(Int×(List Int)))×Int))×(List Int)×(List Int)×(List Bool)) (c:(Int×Bool×Int×Int×Int×Bool×Int×Int×Int×Int×Int×Int×Int×Int×Int×Int×Int×Int×Int×Int×Bool×Bool×(List (Int×(Int×(List Int))))×(List ((Int×(Int×(List Int)))×Int))×(List Int)×(List Int)×(List Bool))→Option Ans) (B:(Int×Int×Int×Bool×Int×Int×Int×Int×Int×Int×Int×Int×Int×Int×Int×Int×Int×Int×Bool×Bool×(List (Int×(Int×(List Int))))×(List ((Int×(Int×(List Int)))×Int))×(List Int)×(List Int)×(List Bool)→Option Ans)):Option Ans:=match v with | (s,t,u,w,x,y,z,A,C,D,a,b,d,e,f,g,h,i,j,k,l,m,n,o,p,q,r)=>jK fuel (aq fuel) s t u w x y z A C D a b d e f g h i j k l m n o p q r c B
def sm (fuel:Nat) (v:uv) (b:qg):Option Ans:=iter (dn fuel) fuel v b
def i7 (fuel:Nat) (i:Nat):Option Ev.Blk:=Ev.look i [(100002,eI fuel)]
def rS (v:uv):Ev.St:=match v with | (s,t,u,w,x,y,z,A,B,C,a,b,d,e,f,g,h,i,j,k,l,m,n,o,p,q,r)=>⟨[(0,.c (.ptr 0 0)),(1,.c (i6 s)),(5,.c (.own 6)),(6,.c (.bool t))],[(0,.cells 86 [i6 u,i6 w,i6 x,.bool y,i6 z,i6 A,i6 B,i6 C,i6 a,i6 b,.ptr 1 0,.own 2,.own 3,i6 d,i6 e]),(1,.cells 147 (i6 f::.own 4::ctb (.int .u64 g::.int .u64 h::.own 5::i6 i::.int .u64 j::i6 k::.bool l::.bool m::[]))),(2,.vec 29 (.pair (.int .i64) (.pair (.int .i64) (.sl (.int .u8)))) n false),(3,.vec 36 (.pair (.pair (.int .i64) (.pair (.int .i64) (.sl (.int .u8)))) (.int .i64)) o false),(4,.vec 3 (.int .i64) p false),(5,.vec 5 (.int .u8) q false),(6,.vec 4 .bool r true)],7,6⟩
def mg (K:KT):qg:=(fun v=>match v with | (q,r,s,t,u,w,x,y,z,A,a,b,d,e,f,g,h,i,j,k,l,m,n,o,p)=>K .normal ⟨[(5,.c (.own 6))],[(0,.cells 86 [i6 q,i6 r,i6 s,.bool t,i6 u,i6 w,i6 x,i6 y,i6 z,i6 A,.ptr 1 0,.own 2,.own 3,i6 a,i6 b]),(1,.cells 147 (i6 d::.own 4::ctb (.int .u64 e::.int .u64 f::.own 5::i6 g::.int .u64 h::i6 i::.bool j::.bool k::[]))),(2,.vec 29 (.pair (.int .i64) (.pair (.int .i64) (.sl (.int .u8)))) l false),(3,.vec 36 (.pair (.pair (.int .i64) (.pair (.int .i64) (.sl (.int .u8)))) (.int .i64)) m false),(4,.vec 3 (.int .i64) n false),(5,.vec 5 (.int .u8) o false),(6,.vec 4 .bool p true)],7,6⟩)
theorem IO (fuel:Nat) (a:aQ) (R:Ev.St→OA) (K:KT) (s:Int) (t:Bool) (u w x:Int) (y:Bool) (z A:Int) (B C:Int) (b c:Int) (d e:Int) (f g:Int) (h i:Int) (j k:Int) (l m:Bool) (n:(List (Int×(Int×LI)))) (o:(List ((Int×(Int×LI))×Int))) (p q:LI) (r:(List Bool)):evalCode tab (kO a) (i7 fuel) bU fuel (bodyOf 0 Tryz.f39) (rS (s,t,u,w,x,y,z,A,B,C,b,c,d,e,f,g,h,i,j,k,l,m,n,o,p,q,r)) (lc bU 3 0 R K)=jK fuel a s t u w x y z A B C b c d e f g h i j k l m n o p q r (fun v=>R (rS v)) (mg K):=by
  kernel_rfl
def jT (fuel:Nat):Ev.Blk:=fun st K=>match canonO (bU 3) st with | some s=>(match s with | ⟨[(O,.c (.ptr P Q)),(R,.c (i6 S)),(T,.c (.own U)),(V,.c (.bool W))],[(X,.cells Y [i6 a0,i6 a1,i6 a2,.bool a3,i6 a4,i6 a5,i6 a6,i6 a7,i6 a,i6 b,.ptr a8 d,.own e,.own f,i6 g,i6 h]),(i,.cells j k),(l,.vec m (.pair (.int .i64) (.pair (.int .i64) (.sl (.int .u8)))) n false),(o,.vec p (.pair (.pair (.int .i64) (.pair (.int .i64) (.sl (.int .u8)))) (.int .i64)) q false),(r,.vec t (.int .i64) u false),(v,.vec w (.int .u8) x false),(y,.vec z .bool A true)],B,C⟩=>(match splitRun 2 ctn k with | some ([i6 D,.own E],[.int .u64 F,.int .u64 G,.own H,i6 I,.int .u64 J,i6 L,.bool M,.bool N])=>bif qb [O,P,Q,R,T,U,V,X,Y,a8,d,e,f,i,j,l,m,o,p,r,t,v,w,y,z,B,C,E,H] [0,0,0,1,5,6,6,0,86,1,0,2,3,1,147,2,29,3,36,4,3,5,5,6,4,7,6,4,5] then iter (dn fuel) fuel (S,W,a0,a1,a2,a3,a4,a5,a6,a7,a,b,g,h,D,F,G,I,J,L,M,N,n,q,u,x,A) (mg K) else none | _=>none) | _=>none) | none=>none
theorem Cy (fuel:Nat) (st:Ev.St) (K:KT) (r:Ans) (h:jT fuel st K=some r):evalCode tab (tV fuel) (i7 fuel) bU fuel (.block 0 (.loop (bodyOf 0 Tryz.f39))) st K=some r:=by
  unfold jT at h
  split at h
  · rename_i s hs
    split at h
    · skip
      split at h
      rotate_left 1
      · cases h
      rename_i hsp
      have esp:=splitRun_eq hsp
      subst esp
      obtain ⟨hb,h⟩:=cond_some' h
      cases qb_eq hb
      exact blk_loop (S:=rS) (ks:=mg) (step:=dn fuel) (v:=(_,_,_,_,_,_,_,_,_,_,_,_,_,_,_,_,_,_,_,_,_,_,_,_,_,_,_)) (by kernel_rfl) (by kernel_rfl) (fun R K v=>by obtain ⟨u,w,x,y,z,A,B,C,D,E,a,b,c,d,e,f,g,i,j,k,l,m,n,o,p,q,t⟩:=v; exact IO fuel (aq fuel) R K u w x y z A B C D E a b c d e f g i j k l m n o p q t) hs h
    · cases h
  · cases h
def EE (fuel:Nat) (i:Nat):Option Ev.Blk:=Ev.look i [(100002,eI fuel),(100000,jT fuel)]
def kj (fuel:Nat) (Y:aQ) (O P:Int) (Q R:Int) (S:Bool) (T U:Int) (V W:Int) (X z:Int) (A B:Int) (C D:Int) (E F:Int) (G H:Int) (I J:Bool) (K:(List (Int×(Int×LI)))) (L:(List ((Int×(Int×LI))×Int))) (M N:LI) (k0:(Int×Int×Int×Bool×Int×Int×Int×Int×Int×Int×Int×Int×Int×Int×Int×Int×Int×Int×Bool×Bool×(List (Int×(Int×LI)))×(List ((Int×(Int×LI))×Int))×LI×LI×(List Bool))→OA):OA:=(sm fuel (O,false,P,Q,R,S,T,U,V,W,X,z,A,B,C,D,E,F,G,H,I,J,K,L,M,N,[]) (fun (p,q,r,s,t,u,v,w,x,y,a,b,c,d,e,f,g,h,i,j,k,l,m,n,o)=>k0 (p,q,r,s,t,u,v,w,x,y,a,b,c,d,e,f,g,h,i,j,k,l,m,n,o)))
abbrev eC:Type:=Int→Int→Int→Int→Bool→Int→Int→Int→Int→Int→Int→Int→Int→Int→Int→Int→Int→Int→Int→Bool→Bool→((List (Int×(Int×LI))))→((List ((Int×(Int×LI))×Int)))→LI→LI→((Int×Int×Int×Bool×Int×Int×Int×Int×Int×Int×Int×Int×Int×Int×Int×Int×Int×Int×Bool×Bool×(List (Int×(Int×LI)))×(List ((Int×(Int×LI))×Int))×LI×LI×(List Bool))→Option Ans)→Option Ans
def bT (fuel:Nat):eC:=kj fuel (aq fuel)
theorem GM (fuel:Nat) (a:aQ) (t u:Int) (v w:Int) (x:Bool) (y z:Int) (A B:Int) (C b:Int) (d e:Int) (f g:Int) (h i:Int) (j l:Int) (m n:Bool) (o:(List (Int×(Int×LI)))) (p:(List ((Int×(Int×LI))×Int))) (q s:LI) (k:Ev.Cont):evalFn tab (kO a) (EE fuel) bU fuel Tryz.f39 [.c (.ptr 0 0),.c (i6 t)] [.cells 86 [i6 u,i6 v,i6 w,.bool x,i6 y,i6 z,i6 A,i6 B,i6 C,i6 b,.ptr 1 0,.own 2,.own 3,i6 d,i6 e],.cells 147 (i6 f::.own 4::ctb (.int .u64 g::.int .u64 h::.own 5::i6 i::.int .u64 j::i6 l::.bool m::.bool n::[])),.vec 29 (.pair (.int .i64) (.pair (.int .i64) (.sl (.int .u8)))) o false,.vec 36 (.pair (.pair (.int .i64) (.pair (.int .i64) (.sl (.int .u8)))) (.int .i64)) p false,.vec 3 (.int .i64) q false,.vec 5 (.int .u8) s false] k=kj fuel a t u v w x y z A B C b d e f g h i j l m n o p q s (fun r=>match r with | (S,T,U,V,W,X,Y,a0,a1,a2,D,E,F,G,H,I,J,K,L,M,N,O,P,Q,R)=>k (.c (.own 6),[.cells 86 [i6 S,i6 T,i6 U,.bool V,i6 W,i6 X,i6 Y,i6 a0,i6 a1,i6 a2,.ptr 1 0,.own 2,.own 3,i6 D,i6 E],.cells 147 (i6 F::.own 4::ctb (.int .u64 G::.int .u64 H::.own 5::i6 I::.int .u64 J::i6 K::.bool L::.bool M::[])),.vec 29 (.pair (.int .i64) (.pair (.int .i64) (.sl (.int .u8)))) N false,.vec 36 (.pair (.pair (.int .i64) (.pair (.int .i64) (.sl (.int .u8)))) (.int .i64)) O false,.vec 3 (.int .i64) P false,.vec 5 (.int .u8) Q false,.vec 4 .bool R true])):=by
  kernel_rfl
theorem rn (fuel:Nat):GOK Tryz.prog (tV fuel):=
  gc (mb fuel) Tryz.func37 (by kernel_rfl) rfl <|
  gok_nil
theorem Ha (fuel:Nat):BlkOK Tryz.prog Tryz.f39.ntmps (.block 2 (.loop (bodyOf 2 Tryz.f39))) (eI fuel):=bo0 (rn fuel) (by kernel_rfl) (by kernel_rfl) (IY fuel)
theorem F9 (fuel:Nat):BlkOK Tryz.prog Tryz.f39.ntmps (.block 0 (.loop (bodyOf 0 Tryz.f39))) (jT fuel):=
  blk_of (blk_of_code tab_ok (rn fuel) mixed (J:=i7 fuel) (kp:=bU) (fuel:=fuel) (by kernel_rfl) (fun q hq=>by
    rw [(by kernel_rfl:obl (i7 fuel) (.block 0 (.loop (bodyOf 0 Tryz.f39)))= [(.block 2 (.loop (bodyOf 2 Tryz.f39)),eI fuel)])] at hq
    simp only [List.mem_cons,List.not_mem_nil,or_false] at hq
    subst hq
    · exact Ha fuel)) (Cy fuel)
def nc (F:eC):Ev.Spec:=fun args objs k=>match args,objs with | [.c (.ptr N O),.c (i6 P)],[.cells Q [i6 R,i6 S,i6 T,.bool U,i6 V,i6 W,i6 X,i6 Y,i6 a0,i6 a,.ptr a1 a2,.own a3,.own a4,i6 b,i6 d],.cells a5 e,.vec a6 (.pair (.int .i64) (.pair (.int .i64) (.sl (.int .u8)))) f false,.vec a7 (.pair (.pair (.int .i64) (.pair (.int .i64) (.sl (.int .u8)))) (.int .i64)) g false,.vec h (.int .i64) i false,.vec j (.int .u8) l false]=>(match splitRun 2 ctn e with | some ([i6 m,.own n],[.int .u64 o,.int .u64 p,.own q,i6 s,.int .u64 t,i6 u,.bool v,.bool w])=>bif qb [N,O,Q,a1,a2,a3,a4,a5,a6,a7,h,j,n,q] [0,0,86,1,0,2,3,147,29,36,3,5,4,5] then F P R S T U V W X Y a0 a b d m o p s t u v w f g i l (fun r=>match r with | (a8,a9,b0,b1,b2,b3,b4,b5,b6,b7,x,y,z,A,B,C,D,E,G,H,I,J,K,L,M)=>k (.c (.own 6),[.cells 86 [i6 a8,i6 a9,i6 b0,.bool b1,i6 b2,i6 b3,i6 b4,i6 b5,i6 b6,i6 b7,.ptr 1 0,.own 2,.own 3,i6 x,i6 y],.cells 147 (i6 z::.own 4::ctb (.int .u64 A::.int .u64 B::.own 5::i6 C::.int .u64 D::i6 E::.bool G::.bool H::[])),.vec 29 (.pair (.int .i64) (.pair (.int .i64) (.sl (.int .u8)))) I false,.vec 36 (.pair (.pair (.int .i64) (.pair (.int .i64) (.sl (.int .u8)))) (.int .i64)) J false,.vec 3 (.int .i64) K false,.vec 5 (.int .u8) L false,.vec 4 .bool M true])) else none | _=>none) | _,_=>none
theorem Hj (fuel:Nat):FnOK Tryz.prog 39 (nc (bT fuel)):=by
  intro args objs kk r h
  unfold nc at h
  split at h
  · skip
    split at h
    rotate_left 1
    · cases h
    rename_i hsp
    have esp:=splitRun_eq hsp
    subst esp
    obtain ⟨hb,h⟩:=cond_some' h
    cases qb_eq hb
    exact fo1 (rn fuel) Tryz.func39 rfl (F9 fuel) (by kernel_rfl) _ _ kk r ((GM fuel (aq fuel) _ _ _ _ _ _ _ _ _ _ _ _ _ _ _ _ _ _ _ _ _ _ _ _ _ kk).trans h)
  · cases h
end
end Go.Proofs.YtohnjbmiaegofaaGreat

