/- What the functions that SymbolRefines reaches do: their typed texts, each with the proof that the machine does it. No condition. -/
import Derived.Test.YtohnjbmiaegofaaGreatEvX
import Derived.Test.YtohnjbmiaegofaaGreatFsSymbolRefines1
import Derived.Test.YtohnjbmiaegofaaGreatFsSymbolRefines3
import Derived.Test.YtohnjbmiaegofaaGreatFsSymbolRefines5
import Derived.Test.YtohnjbmiaegofaaGreatFsSymbolRefines2
import Derived.Test.YtohnjbmiaegofaaGreatFsSymbolRefines4
set_option linter.unusedVariables false
set_option linter.unusedSimpArgs false
set_option linter.unusedSectionVars false
set_option linter.unusedVariables false
set_option linter.unusedSimpArgs false
set_option maxRecDepth 100000
set_option maxHeartbeats 2000000
namespace Go.Proofs.YtohnjbmiaegofaaGreat
open Go Ev
open Go.IntKind (i64 u64 u8 i32 u32 u16)
noncomputable section
def iJ (i:Nat):Option (List Nat):=Ev.look i [(10,[2,3,12,15,16,18,19]),(100000,[2,3,12,15,16,18]),(200008,[15]),(200016,[18]),(200017,[15,18]),(400000,[10,11,12,13])]
def nn (e:cq) (g:bk) (h:cp) (i:aO) (j:cx) (k:et) (a:aQ) (b:dL) (c:eC) (d:am) (f:Nat):Option Ev.Spec:=Ev.look f [(25,kN e),(27,gE g),(29,lC h),(30,ir i),(34,lu j),(36,oi k),(37,iH a),(38,nd b),(39,nc c),(40,eA d)]
def vC (fuel:Nat):Nat→Option Ev.Spec:=nn (bE fuel) (bb fuel) (bH fuel) (aA fuel) (bD fuel) (dg fuel) (aq fuel) (dl fuel) (bT fuel) (ah fuel)
abbrev qf:Type:=(List (Int×(Int×LI)))×Int×Int×Int×Int×Int×Int×Bool×Int×Int×Int×Int×Int×Int×Int×Int×Int×Int×Int×Int×Bool×Bool×Int×Int×Int×Bool×Int×Int×Int×Int×Int×Int×Int×Int×LI×LI×LI×(List (Int×(Int×LI)))×(List ((Int×(Int×LI))×Int))
abbrev uc:Type:=((List (Int×(Int×LI)))×Int×Int×Int×Int×Int×Bool×Int×Int×Int×Int×Int×Int×Int×Int×Int×Int×Int×Int×Bool×Bool×Int×Int×Int×Bool×Int×Int×Int×Int×Int×Int×Int×Int×LI×LI×LI×(List (Int×(Int×LI)))×(List ((Int×(Int×LI))×Int))→OA)
def jM (fuel:Nat) (e4:cq) (e5:bk) (e6:cp) (e7:aO) (e8:cx) (e9:et) (b6:aQ) (b7:dL) (e2:eC) (e3:am) (k:(List (Int×(Int×LI)))) (a b5:Int) (l m:Int) (n o:Int) (p:Bool) (q r:Int) (d e:Int) (f g:Int) (u v:Int) (w x:Int) (y z:Int) (A C:Bool) (D E F:Int) (G:Bool) (H I:Int) (J K:Int) (L M:Int) (N h:Int) (i O P:LI) (Q:(List (Int×(Int×LI)))) (j:(List ((Int×(Int×LI))×Int))) (c:qf→OA) (B:uc):OA:=match B with | b=>bif h==0 then bif decide ((↑j.length:Int) < a) then (b6 (0) b5 (i64.wrap (b5+1)) (40) D E F G H I J K L M N h u v w x y z A C Q j O P (fun (t,a6,a7,a8,a9,b0,b1,b2,b3,b4,R,S,s,T,U,V,W,X,Y,a0,a1,a2,a3,a4,a5)=>bif s==0 then (b7 t a6 a7 a8 a9 b0 b1 b2 b3 b4 R S s T U V W X Y a0 a1 a2 a3 a4 a5 (fun (d2,d3,d4,d5,d6,d7,d8,d9,e0,e1,b8,b9,c0,c1,c2,c3,c4,c5,c6,c7,c8,c9,d0,d1)=>c (k,a,t,l,m,n,o,p,q,r,d,e,f,g,c0,c1,c2,c3,c4,c5,c6,c7,d2,d3,d4,d5,d6,d7,d8,d9,e0,e1,b8,b9,i,d0,d1,c8,c9))) else c (k,a,t,l,m,n,o,p,q,r,d,e,f,g,T,U,V,W,X,Y,a0,a1,a6,a7,a8,a9,b0,b1,b2,b3,b4,R,S,s,i,a4,a5,a2,a3))) else b (k,a,l,m,n,o,p,q,r,d,e,f,g,u,v,w,x,y,z,A,C,D,E,F,G,H,I,J,K,L,M,N,h,i,O,P,Q,j) else b (k,a,l,m,n,o,p,q,r,d,e,f,g,u,v,w,x,y,z,A,C,D,E,F,G,H,I,J,K,L,M,N,h,i,O,P,Q,j)
def eF (fuel:Nat) (v:(List (Int×(Int×(List Int))))×Int×Int×Int×Int×Int×Int×Bool×Int×Int×Int×Int×Int×Int×Int×Int×Int×Int×Int×Int×Bool×Bool×Int×Int×Int×Bool×Int×Int×Int×Int×Int×Int×Int×Int×(List Int)×(List Int)×(List Int)×(List (Int×(Int×(List Int))))×(List ((Int×(Int×(List Int)))×Int))) (c:((List (Int×(Int×(List Int))))×Int×Int×Int×Int×Int×Int×Bool×Int×Int×Int×Int×Int×Int×Int×Int×Int×Int×Int×Int×Bool×Bool×Int×Int×Int×Bool×Int×Int×Int×Int×Int×Int×Int×Int×(List Int)×(List Int)×(List Int)×(List (Int×(Int×(List Int))))×(List ((Int×(Int×(List Int)))×Int)))→Option Ans) (B:((List (Int×(Int×(List Int))))×Int×Int×Int×Int×Int×Bool×Int×Int×Int×Int×Int×Int×Int×Int×Int×Int×Int×Int×Bool×Bool×Int×Int×Int×Bool×Int×Int×Int×Int×Int×Int×Int×Int×(List Int)×(List Int)×(List Int)×(List (Int×(Int×(List Int))))×(List ((Int×(Int×(List Int)))×Int))→Option Ans)):Option Ans:=match v with | (G,H,I,J,K,L,M,N,O,P,a,b,d,e,f,g,h,i,j,k,l,m,n,o,p,q,r,s,t,u,w,x,y,z,A,C,D,E,F)=>jM fuel (bE fuel) (bb fuel) (bH fuel) (aA fuel) (bD fuel) (dg fuel) (aq fuel) (dl fuel) (bT fuel) (ah fuel) G H I J K L M N O P a b d e f g h i j k l m n o p q r s t u w x y z A C D E F c B
def sC (fuel:Nat) (v:qf) (b:uc):Option Ans:=iter (eF fuel) fuel v b
def qr (v:qf):Ev.St:=match v with | (F,G,H,I,J,K,L,M,N,O,a,b,d,e,f,g,h,i,j,k,l,m,n,o,p,q,r,s,t,u,w,x,y,z,A,B,C,D,E)=>⟨[(2,.c (.sl (.pair (.int .i64) (.pair (.int .i64) (.sl (.int .u8)))) F)),(3,.c (i6 G)),(12,.c (.ptr 0 0)),(15,.c (.ptr 1 0)),(16,.c (.ptr 2 0)),(18,.c (.ptr 3 0)),(19,.c (i6 H))],[(0,.cells 40 [i6 I,.own 4]),(1,.cells 67 [i6 J,i6 K,i6 L,.bool M,i6 N,i6 O,i6 a,i6 b,i6 d,i6 e]),(2,.cells 147 (i6 f::.own 5::ctb (.int .u64 g::.int .u64 h::.own 6::i6 i::.int .u64 j::i6 k::.bool l::.bool m::[]))),(3,.cells 86 [i6 n,i6 o,i6 p,.bool q,i6 r,i6 s,i6 t,i6 u,i6 w,i6 x,.ptr 2 0,.own 7,.own 8,i6 y,i6 z]),(4,.vec 3 (.int .i64) A true),(5,.vec 3 (.int .i64) B true),(6,.vec 5 (.int .u8) C true),(7,.vec 29 (.pair (.int .i64) (.pair (.int .i64) (.sl (.int .u8)))) D true),(8,.vec 36 (.pair (.pair (.int .i64) (.pair (.int .i64) (.sl (.int .u8)))) (.int .i64)) E true)],9,0⟩
def sj (K:KT):uc:=(fun v=>match v with | (E,F,G,H,I,J,L,M,N,O,a,b,d,e,f,g,h,i,j,k,l,m,n,o,p,q,r,s,t,u,w,x,y,z,A,B,C,D)=>K .normal ⟨[(2,.c (.sl (.pair (.int .i64) (.pair (.int .i64) (.sl (.int .u8)))) E)),(3,.c (i6 F)),(12,.c (.ptr 0 0)),(15,.c (.ptr 1 0)),(16,.c (.ptr 2 0)),(18,.c (.ptr 3 0))],[(0,.cells 40 [i6 G,.own 4]),(1,.cells 67 [i6 H,i6 I,i6 J,.bool L,i6 M,i6 N,i6 O,i6 a,i6 b,i6 d]),(2,.cells 147 (i6 e::.own 5::ctb (.int .u64 f::.int .u64 g::.own 6::i6 h::.int .u64 i::i6 j::.bool k::.bool l::[]))),(3,.cells 86 [i6 m,i6 n,i6 o,.bool p,i6 q,i6 r,i6 s,i6 t,i6 u,i6 w,.ptr 2 0,.own 7,.own 8,i6 x,i6 y]),(4,.vec 3 (.int .i64) z true),(5,.vec 3 (.int .i64) A true),(6,.vec 5 (.int .u8) B true),(7,.vec 29 (.pair (.int .i64) (.pair (.int .i64) (.sl (.int .u8)))) C true),(8,.vec 36 (.pair (.pair (.int .i64) (.pair (.int .i64) (.sl (.int .u8)))) (.int .i64)) D true)],9,0⟩)
theorem GB (fuel:Nat) (e:cq) (f:bk) (g:cp) (h:aO) (i:cx) (j:et) (a:aQ) (b:dL) (c:eC) (d:am) (R:Ev.St→OA) (K:KT) (P:(List (Int×(Int×LI)))) (Q S:Int) (T U:Int) (V W:Int) (X:Bool) (Y a0:Int) (k l:Int) (m n:Int) (o p:Int) (q r:Int) (s t:Int) (u w:Bool) (x y z:Int) (A:Bool) (B C:Int) (D E:Int) (F G:Int) (H I:Int) (J L M:LI) (N:(List (Int×(Int×LI)))) (O:(List ((Int×(Int×LI))×Int))):evalCode tab (nn e f g h i j a b c d) J0 iJ fuel (bodyOf 0 Tryz.f12) (qr (P,Q,S,T,U,V,W,X,Y,a0,k,l,m,n,o,p,q,r,s,t,u,w,x,y,z,A,B,C,D,E,F,G,H,I,J,L,M,N,O)) (lc iJ 10 0 R K)=jM fuel e f g h i j a b c d P Q S T U V W X Y a0 k l m n o p q r s t u w x y z A B C D E F G H I J L M N O (fun v=>R (qr v)) (sj K):=by
  kernel_rfl
def lL (fuel:Nat):Ev.Blk:=fun st K=>match canonO (iJ 10) st with | some s=>(match s with | ⟨[(b4,.c (.sl (.pair (.int .i64) (.pair (.int .i64) (.sl (.int .u8)))) b5)),(b6,.c (i6 b7)),(b8,.c (.ptr b9 c0)),(c1,.c (.ptr c2 c3)),(c4,.c (.ptr c5 a)),(b,.c (.ptr d e)),(f,.c (i6 c6))],[(g,.cells h [i6 c7,.own i]),(j,.cells k [i6 c8,i6 c9,i6 d0,.bool d1,i6 d2,i6 d3,i6 l,i6 m,i6 n,i6 o]),(p,.cells q r),(t,.cells u [i6 v,i6 w,i6 x,.bool y,i6 z,i6 A,i6 B,i6 C,i6 D,i6 E,.ptr F G,.own H,.own I,i6 J,i6 L]),(M,.vec N (.int .i64) O true),(P,.vec Q (.int .i64) R true),(S,.vec T (.int .u8) U true),(V,.vec W (.pair (.int .i64) (.pair (.int .i64) (.sl (.int .u8)))) X true),(Y,.vec a0 (.pair (.pair (.int .i64) (.pair (.int .i64) (.sl (.int .u8)))) (.int .i64)) a1 true)],a2,a3⟩=>(match splitRun 2 ctn r with | some ([i6 a4,.own a5],[.int .u64 a6,.int .u64 a7,.own a8,i6 a9,.int .u64 b0,i6 b1,.bool b2,.bool b3])=>bif qb [b4,b6,b8,b9,c0,c1,c2,c3,c4,c5,a,b,d,e,f,g,h,i,j,k,p,q,t,u,F,G,H,I,M,N,P,Q,S,T,V,W,Y,a0,a2,a3,a5,a8] [2,3,12,0,0,15,1,0,16,2,0,18,3,0,19,0,40,4,1,67,2,147,3,86,2,0,7,8,4,3,5,3,6,5,7,29,8,36,9,0,5,6] then iter (eF fuel) fuel (b5,b7,c6,c7,c8,c9,d0,d1,d2,d3,l,m,n,o,a4,a6,a7,a9,b0,b1,b2,b3,v,w,x,y,z,A,B,C,D,E,J,L,O,R,U,X,a1) (sj K) else none | _=>none) | _=>none) | none=>none
theorem C7 (fuel:Nat) (st:Ev.St) (K:KT) (r:Ans) (h:lL fuel st K=some r):evalCode tab (vC fuel) J0 iJ fuel (.block 0 (.loop (bodyOf 0 Tryz.f12))) st K=some r:=by
  unfold lL at h
  split at h
  · rename_i s hs
    split at h
    · skip
      split at h
      rotate_left 1
      · cases h
      rename_i hsp
      have esp:=splitRun_eq hsp
      subst esp
      obtain ⟨hb,h⟩:=cond_some' h
      cases qb_eq hb
      exact blk_loop (S:=qr) (ks:=sj) (step:=eF fuel) (v:=(_,_,_,_,_,_,_,_,_,_,_,_,_,_,_,_,_,_,_,_,_,_,_,_,_,_,_,_,_,_,_,_,_,_,_,_,_,_,_)) (by kernel_rfl) (by kernel_rfl) (fun R K v=>by obtain ⟨H,I,J,L,M,N,O,P,Q,T,a,b,c,d,e,f,g,i,j,k,l,m,n,o,p,q,t,u,w,x,y,z,A,B,C,D,E,F,G⟩:=v; exact GB fuel (bE fuel) (bb fuel) (bH fuel) (aA fuel) (bD fuel) (dg fuel) (aq fuel) (dl fuel) (bT fuel) (ah fuel) R K H I J L M N O P Q T a b c d e f g i j k l m n o p q t u w x y z A B C D E F G) hs h
    · cases h
  · cases h
def Hs (fuel:Nat) (i:Nat):Option Ev.Blk:=Ev.look i [(100000,lL fuel)]
def pY (fuel:Nat) (k7:cq) (c1:bk) (c2:cp) (d:aO) (c3:cx) (c4:et) (k8:aQ) (k9:dL) (b7:eC) (b8:am) (a9 b0 b1:Int) (b2:Bool) (b3 b4 b5:Int) (b6:LI) (a:(List (Int×Int×LI))) (b:Int) (c5:LI) (k0:(Int×Int×(List ((Int×(Int×LI))×Int))×(List Bool)×LI)→OA):OA:=(k7 a9 b0 b1 b2 b3 b4 b5 b6 a (fun c=>bif c==0 then bif decide (b < 0) then k0 (0,2,[],[],[]) else bif decide (b > i64.wrap (60 - (↑a.length:Int))) then k0 (0,2,[],[],[]) else bif c != 0 then k0 (0,c,[],[],[]) else (c1 a9 b0 b1 b2 b3 b4 (i64.wrap ((↑a.length:Int)+b)) (fun (e,f,g,h,i,j,k,l,m,n)=>(c2 e f g h i j k l m n b5 b6 (fun (g6,g7)=>(c4 g6 g7 c5 (fun p6=>(d a (fun c6=>none))) (fun (l6,g8,g9,h0,h1,h2,h3,h4,h5,h6,c8)=>(d a (fun c6=>(sC fuel (a,b,0,0,e,f,g,h,i,j,k,l,m,n,g8,g9,h0,h1,h2,h3,h4,h5,e,f,g,h,i,j,k,l,m,n,b,0,[],h6,c8,c6,[]) (fun (P,Q,k6,R,S,T,U,V,W,X,o,p,q,r,s,t,u,v,w,x,y,z,A,B,C,D,E,F,G,H,I,J,K,h7,L,M,N,O)=>(b7 (i64.wrap ((↑P.length:Int)+Q)) z A B C D E F G H I J K r s t u v w x y N O L M (fun (l7,l8,l9,m0,m1,m2,m3,m4,m5,m6,l0,b9,c9,d0,d1,d2,d3,d4,d5,d6,l1,d7,d8,d9,e0)=>bif b9 != 0 then k0 (0,b9,[],[],[]) else (b8 c9 d0 d1 d2 d3 d4 d5 d6 d8 d9 (fun (h8,m7,m8,m9,n0,n1,n2,n3,n4,n5,l2,e1)=>(c3 R S T U V W X o p q h8 e1 (fun (h9,j0)=>k0 (h9,0,d7,e0,j0))))))))))))))))) else bif c != 0 then k0 (0,c,[],[],[]) else (c1 a9 b0 b1 b2 b3 b4 (i64.wrap ((↑a.length:Int)+b)) (fun (Y,a0,a1,a2,a3,a4,a5,a6,a7,a8)=>(c2 Y a0 a1 a2 a3 a4 a5 a6 a7 a8 b5 b6 (fun (j1,j2)=>(c4 j1 j2 c5 (fun p7=>(d a (fun c7=>none))) (fun (n6,j3,j4,j5,j6,j7,j8,j9,k1,k2,e2)=>(d a (fun c7=>(sC fuel (a,b,0,0,Y,a0,a1,a2,a3,a4,a5,a6,a7,a8,j3,j4,j5,j6,j7,j8,j9,k1,Y,a0,a1,a2,a3,a4,a5,a6,a7,a8,b,0,[],k2,e2,c7,[]) (fun (P,Q,k6,R,S,T,U,V,W,X,o,p,q,r,s,t,u,v,w,x,y,z,A,B,C,D,E,F,G,H,I,J,K,h7,L,M,N,O)=>(b7 (i64.wrap ((↑P.length:Int)+Q)) z A B C D E F G H I J K r s t u v w x y N O L M (fun (n7,n8,n9,o0,o1,o2,o3,o4,o5,o6,l3,c0,e3,e4,e5,e6,e7,e8,e9,g0,l4,g1,g2,g3,g4)=>bif c0 != 0 then k0 (0,c0,[],[],[]) else (b8 e3 e4 e5 e6 e7 e8 e9 g0 g2 g3 (fun (k3,o7,o8,o9,p0,p1,p2,p3,p4,p5,l5,g5)=>(c3 R S T U V W X o p q k3 g5 (fun (k4,k5)=>k0 (k4,0,g1,g4,k5)))))))))))))))))))
abbrev gR:Type:=Int→Int→Int→Bool→Int→Int→Int→LI→((List (Int×Int×LI)))→Int→LI→((Int×Int×(List ((Int×(Int×LI))×Int))×(List Bool)×LI)→Option Ans)→Option Ans
def gl (fuel:Nat):gR:=pY fuel (bE fuel) (bb fuel) (bH fuel) (aA fuel) (bD fuel) (dg fuel) (aq fuel) (dl fuel) (bT fuel) (ah fuel)
theorem I6 (fuel:Nat) (f:cq) (g:bk) (h:cp) (i:aO) (j:cx) (l:et) (a:aQ) (b:dL) (d:eC) (e:am) (n o p:Int) (q:Bool) (s t u:Int) (v:LI) (w:(List (Int×Int×LI))) (x:Int) (m:LI) (k:Ev.Cont):evalFn tab (nn f g h i j l a b d e) (Hs fuel) iJ fuel Tryz.f12 [.agg [i6 n,i6 o,i6 p,.bool q,i6 s,i6 t],.agg [i6 u,.sl (.int .i64) v],.c (.sl (.pair (.int .i64) (.pair (.int .i64) (.sl (.int .u8)))) w),.c (i6 x),.c (.sl (.int .u8) m)] [] k=pY fuel f g h i j l a b d e n o p q s t u v w x m (fun r=>match r with | (y,z,A,B,C)=>k (.tup [(false,[.own 0]),(false,[.own 1]),(true,[i6 y,.own 2]),(false,[i6 z])],[.vec 36 (.pair (.pair (.int .i64) (.pair (.int .i64) (.sl (.int .u8)))) (.int .i64)) A true,.vec 4 .bool B true,.vec 3 (.int .i64) C true])):=by
  kernel_rfl
theorem wY (fuel:Nat):GOK Tryz.prog (vC fuel):=
  gc (wo fuel) Tryz.func25 (by kernel_rfl) rfl <|
  gc (qI fuel) Tryz.func27 (by kernel_rfl) rfl <|
  gc (vK fuel) Tryz.func29 (by kernel_rfl) rfl <|
  gc (rk fuel) Tryz.func30 (by kernel_rfl) rfl <|
  gc (wA fuel) Tryz.func34 (by kernel_rfl) rfl <|
  gc (Av fuel) Tryz.func36 (by kernel_rfl) rfl <|
  gc (mb fuel) Tryz.func37 (by kernel_rfl) rfl <|
  gc (EB fuel) Tryz.func38 (by kernel_rfl) rfl <|
  gc (Hj fuel) Tryz.func39 (by kernel_rfl) rfl <|
  gc (eT fuel) Tryz.func40 (by kernel_rfl) rfl <|
  gok_nil
theorem GJ (fuel:Nat):BlkOK Tryz.prog Tryz.f12.ntmps (.block 0 (.loop (bodyOf 0 Tryz.f12))) (lL fuel):=bo0 (wY fuel) (by kernel_rfl) (by kernel_rfl) (C7 fuel)
def ne (F:gR):Ev.Spec:=fun args objs k=>match args,objs with | [.agg [i6 b,i6 d,i6 e,.bool f,i6 g,i6 h],.agg [i6 i,.sl (.int .i64) j],.c (.sl (.pair (.int .i64) (.pair (.int .i64) (.sl (.int .u8)))) l),.c (i6 m),.c (.sl (.int .u8) a)],[]=>F b d e f g h i j l m a (fun r=>match r with | (n,o,p,q,s)=>k (.tup [(false,[.own 0]),(false,[.own 1]),(true,[i6 n,.own 2]),(false,[i6 o])],[.vec 36 (.pair (.pair (.int .i64) (.pair (.int .i64) (.sl (.int .u8)))) (.int .i64)) p true,.vec 4 .bool q true,.vec 3 (.int .i64) s true])) | _,_=>none
theorem D5 (fuel:Nat):FnOK Tryz.prog 12 (ne (gl fuel)):=by
  intro args objs kk r h
  unfold ne at h
  split at h
  · skip
    exact fo1 (wY fuel) Tryz.func12 rfl (GJ fuel) (by kernel_rfl) _ _ kk r ((I6 fuel (bE fuel) (bb fuel) (bH fuel) (aA fuel) (bD fuel) (dg fuel) (aq fuel) (dl fuel) (bT fuel) (ah fuel) _ _ _ _ _ _ _ _ _ _ _ kk).trans h)
  · cases h
def H4 (i:Nat):Option (List Nat):=Ev.look i [(600000,[])]
def uR (a:bt) (b:bZ) (f:Nat):Option Ev.Spec:=Ev.look f [(71,io a),(76,ji b)]
def Fc (fuel:Nat):Nat→Option Ev.Spec:=uR (aM fuel) (bI fuel)
def tu (fuel:Nat) (g:bt) (h:bZ) (a:Int) (b:LI) (k0:(Int)→OA) (k1:(Int×Int×Int×Int×Bool×LI×LI)→OA):OA:=(g a b (fun i=>bif !i then k0 (10) else (h a b (fun (c,d,e,f)=>k1 (0,c,d,e,true,f,[])))))
abbrev gI:Type:=Int→LI→(Int→Option Ans)→((Int×Int×Int×Int×Bool×LI×LI)→Option Ans)→Option Ans
def eV (fuel:Nat):gI:=tu fuel (aM fuel) (bI fuel)
theorem Ah (fuel:Nat) (b:bt) (c:bZ) (d:Int) (e:LI) (k:Ev.Cont):evalFn tab (uR b c) J0 H4 fuel Tryz.f28 [.agg [i6 d,.sl (.int .i64) e]] [] k=tu fuel b c d e (fun r=>match r with | a=>k (.tup [(false,[.nilptr]),(false,[i6 a])],[])) (fun r=>match r with | (a,f,g,h,i,j,l)=>k (.tup [(false,[.ptr 0 0]),(false,[i6 a])],[.cells 138 (i6 f::.own 1::ctb (.int .u64 g::.int .u64 h::.own 2::.bool i::[])),.vec 3 (.int .i64) j true,.vec 5 (.int .u8) l true])):=by
  kernel_rfl
theorem zX (fuel:Nat):GOK Tryz.prog (Fc fuel):=
  gc (kf fuel) Tryz.func71 (by kernel_rfl) rfl <|
  gc (tN fuel) Tryz.func76 (by kernel_rfl) rfl <|
  gok_nil
def qt (F:gI):Ev.Spec:=fun args objs k=>match args,objs with | [.agg [i6 b,.sl (.int .i64) c]],[]=>F b c (fun r=>match r with | a=>k (.tup [(false,[.nilptr]),(false,[i6 a])],[])) (fun r=>match r with | (a,d,e,f,g,h,i)=>k (.tup [(false,[.ptr 0 0]),(false,[i6 a])],[.cells 138 (i6 d::.own 1::ctb (.int .u64 e::.int .u64 f::.own 2::.bool g::[])),.vec 3 (.int .i64) h true,.vec 5 (.int .u8) i true])) | _,_=>none
theorem IF (fuel:Nat):FnOK Tryz.prog 28 (qt (eV fuel)):=by
  intro args objs kk r h
  unfold qt at h
  split at h
  · skip
    exact fo0 (zX fuel) Tryz.func28 rfl (by kernel_rfl) _ _ kk r ((Ah fuel (aM fuel) (bI fuel) _ _ kk).trans h)
  · cases h
def cj (i:Nat):Option (List Nat):=Ev.look i [(2,[0,1,9,10,11]),(8,[0,1,20,21,22]),(100000,[0,1]),(100002,[0,1]),(200010,[1,8]),(400000,[4]),(400002,[4])]
def kz (a:aY) (f:Nat):Option Ev.Spec:=Ev.look f [(43,iM a)]
def jJ (fuel:Nat):Nat→Option Ev.Spec:=kz (aS fuel)
abbrev rs:Type:=(List (Int×(Int×LI)))×(List ((Int×(Int×LI))×Int))×(List ((Int×(Int×LI))×Int))×Int×Int
abbrev uZ:Type:=(Int→OA)×((List (Int×(Int×LI)))×(List ((Int×(Int×LI))×Int))→OA)
def kD (fuel:Nat) (h:aY) (e:(List (Int×(Int×LI)))) (f:(List ((Int×(Int×LI))×Int))) (d:(List ((Int×(Int×LI))×Int))) (g a:Int) (c:rs→OA) (B:uZ):OA:=match B with | (ret,b)=>bif decide (a < g) then bif decide (0≤a∧a < (↑d.length:Int)) then (h ((d.getD a.toNat ((0,0,[]),0)).fst.fst) ((d.getD a.toNat ((0,0,[]),0)).fst.snd.fst) ((d.getD a.toNat ((0,0,[]),0)).fst.snd.snd) (fun i=>bif !i then ret (30) else c (e,f,d,g,i64.wrap (a+1)))) else none else b (e,f)
def cV (fuel:Nat) (v:(List (Int×(Int×(List Int))))×(List ((Int×(Int×(List Int)))×Int))×(List ((Int×(Int×(List Int)))×Int))×Int×Int) (c:((List (Int×(Int×(List Int))))×(List ((Int×(Int×(List Int)))×Int))×(List ((Int×(Int×(List Int)))×Int))×Int×Int)→Option Ans) (B:(Int→Option Ans)×((List (Int×(Int×(List Int))))×(List ((Int×(Int×(List Int)))×Int))→Option Ans)):Option Ans:=match v with | (a,b,d,e,f)=>kD fuel (aS fuel) a b d e f c B
def vl (fuel:Nat) (v:rs) (ret:(Int→Option Ans)) (b:((List (Int×(Int×(List Int))))×(List ((Int×(Int×(List Int)))×Int))→Option Ans)):Option Ans:=iter (cV fuel) fuel v (ret,b)
def oK (v:rs):Ev.St:=match v with | (a,b,d,e,f)=>⟨[(0,.c (.sl (.pair (.int .i64) (.pair (.int .i64) (.sl (.int .u8)))) a)),(1,.c (.sl (.pair (.pair (.int .i64) (.pair (.int .i64) (.sl (.int .u8)))) (.int .i64)) b)),(9,.c (.sl (.pair (.pair (.int .i64) (.pair (.int .i64) (.sl (.int .u8)))) (.int .i64)) d)),(10,.c (i6 e)),(11,.c (i6 f))],[],0,0⟩
def pm (K:KT):uZ:=((fun v=>match v with | a=>K .ret ⟨[(4,.c (i6 a))],[],0,0⟩),(fun v=>match v with | (a,b)=>K .normal ⟨[(0,.c (.sl (.pair (.int .i64) (.pair (.int .i64) (.sl (.int .u8)))) a)),(1,.c (.sl (.pair (.pair (.int .i64) (.pair (.int .i64) (.sl (.int .u8)))) (.int .i64)) b))],[],0,0⟩))
theorem JS (fuel:Nat) (a:aY) (R:Ev.St→OA) (K:KT) (b:(List (Int×(Int×LI)))) (c:(List ((Int×(Int×LI))×Int))) (d:(List ((Int×(Int×LI))×Int))) (e f:Int):evalCode tab (kz a) J0 cj fuel (bodyOf 0 Tryz.f26) (oK (b,c,d,e,f)) (lc cj 2 0 R K)=kD fuel a b c d e f (fun v=>R (oK v)) (pm K):=by
  kernel_rfl
def eH (fuel:Nat):Ev.Blk:=fun st K=>match canonO (cj 2) st with | some s=>(match s with | ⟨[(a,.c (.sl (.pair (.int .i64) (.pair (.int .i64) (.sl (.int .u8)))) b)),(d,.c (.sl (.pair (.pair (.int .i64) (.pair (.int .i64) (.sl (.int .u8)))) (.int .i64)) e)),(f,.c (.sl (.pair (.pair (.int .i64) (.pair (.int .i64) (.sl (.int .u8)))) (.int .i64)) g)),(h,.c (i6 i)),(j,.c (i6 k))],[],l,m⟩=>bif qb [a,d,f,h,j,l,m] [0,1,9,10,11,0,0] then iter (cV fuel) fuel (b,e,g,i,k) (pm K) else none | _=>none) | none=>none
theorem FW (fuel:Nat) (st:Ev.St) (K:KT) (r:Ans) (h:eH fuel st K=some r):evalCode tab (jJ fuel) J0 cj fuel (.block 0 (.loop (bodyOf 0 Tryz.f26))) st K=some r:=by
  unfold eH at h
  split at h
  · rename_i s hs
    split at h
    · skip
      obtain ⟨hb,h⟩:=cond_some' h
      cases qb_eq hb
      exact blk_loop (S:=oK) (ks:=pm) (step:=cV fuel) (v:=(_,_,_,_,_)) (by kernel_rfl) (by kernel_rfl) (fun R K v=>by obtain ⟨a,b,c,d,e⟩:=v; exact JS fuel (aS fuel) R K a b c d e) hs h
    · cases h
  · cases h
abbrev ta:Type:=(List (Int×(Int×LI)))×(List ((Int×(Int×LI))×Int))×(List ((Int×(Int×LI))×Int))×Int×Int
abbrev zf:Type:=(Int→OA)×((List (Int×(Int×LI)))×(List ((Int×(Int×LI))×Int))→OA)
def i0 (fuel:Nat) (h:aY) (f:(List (Int×(Int×LI)))) (e:(List ((Int×(Int×LI))×Int))) (d:(List ((Int×(Int×LI))×Int))) (g a:Int) (c:ta→OA) (B:zf):OA:=match B with | (ret,b)=>bif decide (a < g) then bif decide (0≤a∧a < (↑d.length:Int)) then bif decide ((d.getD a.toNat ((0,0,[]),0)).snd < (-1:Int)) then ret (2) else bif decide ((d.getD a.toNat ((0,0,[]),0)).snd≥i64.wrap ((↑f.length:Int)+a)) then ret (2) else bif decide (a > 0) then bif decide (0≤i64.wrap (a - 1)∧i64.wrap (a - 1) < (↑e.length:Int)) then bif decide ((d.getD a.toNat ((0,0,[]),0)).fst.snd.fst < (e.getD (i64.wrap (a - 1)).toNat ((0,0,[]),0)).fst.snd.fst) then ret (2) else c (f,e,d,g,i64.wrap (a+1)) else none else c (f,e,d,g,i64.wrap (a+1)) else none else b (f,e)
def dE (fuel:Nat) (v:(List (Int×(Int×(List Int))))×(List ((Int×(Int×(List Int)))×Int))×(List ((Int×(Int×(List Int)))×Int))×Int×Int) (c:((List (Int×(Int×(List Int))))×(List ((Int×(Int×(List Int)))×Int))×(List ((Int×(Int×(List Int)))×Int))×Int×Int)→Option Ans) (B:(Int→Option Ans)×((List (Int×(Int×(List Int))))×(List ((Int×(Int×(List Int)))×Int))→Option Ans)):Option Ans:=match v with | (a,b,d,e,f)=>i0 fuel (aS fuel) a b d e f c B
def yq (fuel:Nat) (v:ta) (ret:(Int→Option Ans)) (b:((List (Int×(Int×(List Int))))×(List ((Int×(Int×(List Int)))×Int))→Option Ans)):Option Ans:=iter (dE fuel) fuel v (ret,b)
def uV (fuel:Nat) (i:Nat):Option Ev.Blk:=Ev.look i [(100000,eH fuel)]
def ov (v:ta):Ev.St:=match v with | (a,b,d,e,f)=>⟨[(0,.c (.sl (.pair (.int .i64) (.pair (.int .i64) (.sl (.int .u8)))) a)),(1,.c (.sl (.pair (.pair (.int .i64) (.pair (.int .i64) (.sl (.int .u8)))) (.int .i64)) b)),(20,.c (.sl (.pair (.pair (.int .i64) (.pair (.int .i64) (.sl (.int .u8)))) (.int .i64)) d)),(21,.c (i6 e)),(22,.c (i6 f))],[],0,0⟩
def sR (K:KT):zf:=((fun v=>match v with | a=>K .ret ⟨[(4,.c (i6 a))],[],0,0⟩),(fun v=>match v with | (a,b)=>K .normal ⟨[(0,.c (.sl (.pair (.int .i64) (.pair (.int .i64) (.sl (.int .u8)))) a)),(1,.c (.sl (.pair (.pair (.int .i64) (.pair (.int .i64) (.sl (.int .u8)))) (.int .i64)) b))],[],0,0⟩))
theorem H1 (fuel:Nat) (a:aY) (R:Ev.St→OA) (K:KT) (b:(List (Int×(Int×LI)))) (c:(List ((Int×(Int×LI))×Int))) (d:(List ((Int×(Int×LI))×Int))) (e f:Int):evalCode tab (kz a) (uV fuel) cj fuel (bodyOf 2 Tryz.f26) (ov (b,c,d,e,f)) (lc cj 8 2 R K)=i0 fuel a b c d e f (fun v=>R (ov v)) (sR K):=by
  kernel_rfl
def ix (fuel:Nat):Ev.Blk:=fun st K=>match canonO (cj 8) st with | some s=>(match s with | ⟨[(a,.c (.sl (.pair (.int .i64) (.pair (.int .i64) (.sl (.int .u8)))) b)),(d,.c (.sl (.pair (.pair (.int .i64) (.pair (.int .i64) (.sl (.int .u8)))) (.int .i64)) e)),(f,.c (.sl (.pair (.pair (.int .i64) (.pair (.int .i64) (.sl (.int .u8)))) (.int .i64)) g)),(h,.c (i6 i)),(j,.c (i6 k))],[],l,m⟩=>bif qb [a,d,f,h,j,l,m] [0,1,20,21,22,0,0] then iter (dE fuel) fuel (b,e,g,i,k) (sR K) else none | _=>none) | none=>none
theorem BF (fuel:Nat) (st:Ev.St) (K:KT) (r:Ans) (h:ix fuel st K=some r):evalCode tab (jJ fuel) (uV fuel) cj fuel (.block 2 (.loop (bodyOf 2 Tryz.f26))) st K=some r:=by
  unfold ix at h
  split at h
  · rename_i s hs
    split at h
    · skip
      obtain ⟨hb,h⟩:=cond_some' h
      cases qb_eq hb
      exact blk_loop (S:=ov) (ks:=sR) (step:=dE fuel) (v:=(_,_,_,_,_)) (by kernel_rfl) (by kernel_rfl) (fun R K v=>by obtain ⟨a,b,c,d,e⟩:=v; exact H1 fuel (aS fuel) R K a b c d e) hs h
    · cases h
  · cases h
def nK (fuel:Nat) (i:Nat):Option Ev.Blk:=Ev.look i [(100000,eH fuel),(100002,ix fuel)]
def tp (fuel:Nat) (g:aY) (f:(List (Int×Int×LI))) (b:(List ((Int×Int×LI)×Int))) (k0:(Int)→OA):OA:=(vl fuel (f,b,b,(↑b.length:Int),0) (fun ret0_0=>k0 ret0_0) (fun (c,a)=>(yq fuel (c,a,a,(↑a.length:Int),0) (fun ret2_0=>k0 ret2_0) (fun (d,e)=>bif decide (i64.wrap ((↑d.length:Int)+(↑e.length:Int)) > 60) then k0 (2) else k0 (0)))))
abbrev bz:Type:=((List (Int×Int×LI)))→((List ((Int×Int×LI)×Int)))→(Int→Option Ans)→Option Ans
def bp (fuel:Nat):bz:=tp fuel (aS fuel)
theorem Il (fuel:Nat) (a:aY) (b:(List (Int×Int×LI))) (d:(List ((Int×Int×LI)×Int))) (k:Ev.Cont):evalFn tab (kz a) (nK fuel) cj fuel Tryz.f26 [.c (.sl (.pair (.int .i64) (.pair (.int .i64) (.sl (.int .u8)))) b),.c (.sl (.pair (.pair (.int .i64) (.pair (.int .i64) (.sl (.int .u8)))) (.int .i64)) d)] [] k=tp fuel a b d (fun r=>match r with | e=>k (.c (i6 e),[])):=by
  kernel_rfl
theorem pK (fuel:Nat):GOK Tryz.prog (jJ fuel):=
  gc (rN fuel) Tryz.func43 (by kernel_rfl) rfl <|
  gok_nil
theorem CA (fuel:Nat):BlkOK Tryz.prog Tryz.f26.ntmps (.block 0 (.loop (bodyOf 0 Tryz.f26))) (eH fuel):=bo0 (pK fuel) (by kernel_rfl) (by kernel_rfl) (FW fuel)
theorem Jf (fuel:Nat):BlkOK Tryz.prog Tryz.f26.ntmps (.block 2 (.loop (bodyOf 2 Tryz.f26))) (ix fuel):=bo0 (pK fuel) (by kernel_rfl) (by kernel_rfl) (BF fuel)
theorem J3 (fuel:Nat):FnOK Tryz.prog 26 (evalFn tab (jJ fuel) (nK fuel) cj fuel Tryz.f26):=
  fn_ok tab_ok (pK fuel) mixed Tryz.func26 (c:=(Tryz.f26.body).getD .skip) rfl (fun q hq=>by
    rw [(by kernel_rfl:obl (nK fuel) ((Tryz.f26.body).getD .skip)= [(.block 0 (.loop (bodyOf 0 Tryz.f26)),eH fuel),(.block 2 (.loop (bodyOf 2 Tryz.f26)),ix fuel)])] at hq
    simp only [List.mem_cons,List.not_mem_nil,or_false] at hq
    rcases hq with rfl | rfl
    · exact CA fuel
    · exact Jf fuel)
def kv (F:bz):Ev.Spec:=fun args objs k=>match args,objs with | [.c (.sl (.pair (.int .i64) (.pair (.int .i64) (.sl (.int .u8)))) a),.c (.sl (.pair (.pair (.int .i64) (.pair (.int .i64) (.sl (.int .u8)))) (.int .i64)) b)],[]=>F a b (fun r=>match r with | d=>k (.c (i6 d),[])) | _,_=>none
theorem xw (fuel:Nat):FnOK Tryz.prog 26 (kv (bp fuel)):=by
  intro args objs kk r h
  unfold kv at h
  split at h
  · skip
    exact J3 fuel _ _ kk r ((Il fuel (aS fuel) _ _ kk).trans h)
  · cases h
def Fa (i:Nat):Option (List Nat):=Ev.look i []
def ys (a:bK) (f:Nat):Option Ev.Spec:=Ev.look f [(80,jd a)]
def zY (fuel:Nat):Nat→Option Ev.Spec:=ys (aZ fuel)
def tH (fuel:Nat) (a:bK) (q r:Int) (s t u:Int) (v:Bool) (w x:Int) (y z:Int) (h i:Int) (j k l:Int) (m:Bool) (n:(List (Int×(Int×LI)))) (o p:LI) (k0:(Int×Int×Int×Bool×Int×Int×Int×Int×Int×Int×Int×Int×Int×Bool×(List (Int×(Int×LI)))×LI×LI)→OA):OA:=(a q (false) r j k l m o p (fun (A,b,c,d,e,f,g)=>k0 (s,t,u,v,w,x,y,z,h,i,b,c,d,e,n,f,g)))
abbrev aF:Type:=Int→Int→Int→Int→Int→Bool→Int→Int→Int→Int→Int→Int→Int→Int→Int→Bool→((List (Int×(Int×LI))))→LI→LI→((Int×Int×Int×Bool×Int×Int×Int×Int×Int×Int×Int×Int×Int×Bool×(List (Int×(Int×LI)))×LI×LI)→Option Ans)→Option Ans
def ap (fuel:Nat):aF:=tH fuel (aZ fuel)
theorem HX (fuel:Nat) (a:bK) (m n:Int) (o p q:Int) (s:Bool) (t u:Int) (v w:Int) (b d:Int) (e f g:Int) (h:Bool) (i:(List (Int×(Int×LI)))) (j l:LI) (k:Ev.Cont):evalFn tab (ys a) J0 Fa fuel Tryz.f78 [.c (.ptr 0 0),.c (i6 m),.c (i6 n)] [.cells 76 [i6 o,i6 p,i6 q,.bool s,i6 t,i6 u,i6 v,i6 w,i6 b,i6 d,.ptr 1 0,.own 2],.cells 138 (i6 e::.own 3::ctb (.int .u64 f::.int .u64 g::.own 4::.bool h::[])),.vec 29 (.pair (.int .i64) (.pair (.int .i64) (.sl (.int .u8)))) i false,.vec 3 (.int .i64) j false,.vec 5 (.int .u8) l false] k=tH fuel a m n o p q s t u v w b d e f g h i j l (fun r=>match r with | (E,F,G,H,I,J,K,L,M,N,x,y,z,A,B,C,D)=>k (.tup [],[.cells 76 [i6 E,i6 F,i6 G,.bool H,i6 I,i6 J,i6 K,i6 L,i6 M,i6 N,.ptr 1 0,.own 2],.cells 138 (i6 x::.own 3::ctb (.int .u64 y::.int .u64 z::.own 4::.bool A::[])),.vec 29 (.pair (.int .i64) (.pair (.int .i64) (.sl (.int .u8)))) B false,.vec 3 (.int .i64) C false,.vec 5 (.int .u8) D true])):=by
  kernel_rfl
theorem Cm (fuel:Nat):GOK Tryz.prog (zY fuel):=
  gc (nJ fuel) Tryz.func80 (by kernel_rfl) rfl <|
  gok_nil
def gS (F:aF):Ev.Spec:=fun args objs k=>match args,objs with | [.c (.ptr w x),.c (i6 y),.c (i6 z)],[.cells A [i6 B,i6 C,i6 D,.bool E,i6 G,i6 H,i6 I,i6 J,i6 a,i6 b,.ptr K L,.own M],.cells N d,.vec O (.pair (.int .i64) (.pair (.int .i64) (.sl (.int .u8)))) e false,.vec P (.int .i64) f false,.vec Q (.int .u8) g false]=>(match splitRun 2 ctn d with | some ([i6 h,.own i],[.int .u64 j,.int .u64 l,.own m,.bool n])=>bif qb [w,x,A,K,L,M,N,O,P,Q,i,m] [0,0,76,1,0,2,138,29,3,5,3,4] then F y z B C D E G H I J a b h j l n e f g (fun r=>match r with | (R,S,T,U,V,W,X,Y,a0,a1,o,p,q,s,t,u,v)=>k (.tup [],[.cells 76 [i6 R,i6 S,i6 T,.bool U,i6 V,i6 W,i6 X,i6 Y,i6 a0,i6 a1,.ptr 1 0,.own 2],.cells 138 (i6 o::.own 3::ctb (.int .u64 p::.int .u64 q::.own 4::.bool s::[])),.vec 29 (.pair (.int .i64) (.pair (.int .i64) (.sl (.int .u8)))) t false,.vec 3 (.int .i64) u false,.vec 5 (.int .u8) v true])) else none | _=>none) | _,_=>none
theorem ud (fuel:Nat):FnOK Tryz.prog 78 (gS (ap fuel)):=by
  intro args objs kk r h
  unfold gS at h
  split at h
  · skip
    split at h
    rotate_left 1
    · cases h
    rename_i hsp
    have esp:=splitRun_eq hsp
    subst esp
    obtain ⟨hb,h⟩:=cond_some' h
    cases qb_eq hb
    exact fo0 (Cm fuel) Tryz.func78 rfl (by kernel_rfl) _ _ kk r ((HX fuel (aZ fuel) _ _ _ _ _ _ _ _ _ _ _ _ _ _ _ _ _ _ _ kk).trans h)
  · cases h
def cr (i:Nat):Option (List Nat):=Ev.look i [(1,[0,1,4,1000004]),(4,[0,1,4,5]),(100000,[]),(100002,[0,1,4,5]),(400000,[]),(400002,[])]
def kF (a:aF) (f:Nat):Option Ev.Spec:=Ev.look f [(78,gS a)]
def ql (fuel:Nat):Nat→Option Ev.Spec:=kF (ap fuel)
abbrev tj:Type:=(List Bool)×Bool×Int×Int×Int×Int×Bool×Int×Int×Int×Int×Int×Int×Int×Int×Int×Bool×(List (Int×(Int×LI)))×LI×LI
abbrev su:Type:=((List Bool)×Bool×Int×Int×Int×Int×Bool×Int×Int×Int×Int×Int×Int×Int×Int×Int×Bool×(List (Int×(Int×LI)))×LI×LI→OA)
def jN (fuel:Nat) (w:aF) (d:(List Bool)) (e:Bool) (a p:Int) (q r:Int) (s:Bool) (t u:Int) (v f:Int) (g h:Int) (i j k:Int) (l:Bool) (m:(List (Int×(Int×LI)))) (n o:LI) (c:tj→OA) (B:su):OA:=match B with | b=>bif decide (a < (↑d.length:Int)) then bif decide (0≤a∧a < (↑d.length:Int)) then bif d.getD a.toNat false==e then c (d,e,i64.wrap (a+1),p,q,r,s,t,u,v,f,g,h,i,j,k,l,m,n,o) else b (d,e,a,p,q,r,s,t,u,v,f,g,h,i,j,k,l,m,n,o) else none else b (d,e,a,p,q,r,s,t,u,v,f,g,h,i,j,k,l,m,n,o)
def dR (fuel:Nat) (v:(List Bool)×Bool×Int×Int×Int×Int×Bool×Int×Int×Int×Int×Int×Int×Int×Int×Int×Bool×(List (Int×(Int×(List Int))))×(List Int)×(List Int)) (c:((List Bool)×Bool×Int×Int×Int×Int×Bool×Int×Int×Int×Int×Int×Int×Int×Int×Int×Bool×(List (Int×(Int×(List Int))))×(List Int)×(List Int))→Option Ans) (B:((List Bool)×Bool×Int×Int×Int×Int×Bool×Int×Int×Int×Int×Int×Int×Int×Int×Int×Bool×(List (Int×(Int×(List Int))))×(List Int)×(List Int)→Option Ans)):Option Ans:=match v with | (l,m,n,o,p,q,r,s,t,u,a,b,d,e,f,g,h,i,j,k)=>jN fuel (ap fuel) l m n o p q r s t u a b d e f g h i j k c B
def vy (fuel:Nat) (v:tj) (b:su):Option Ans:=iter (dR fuel) fuel v b
def ub (v:tj):Ev.St:=match v with | (l,m,n,o,p,q,r,s,t,u,a,b,d,e,f,g,h,i,j,k)=>⟨[(0,.c (.ptr 0 0)),(1,.c (.sl .bool l)),(4,.c (.bool m)),(5,.c (i6 n))],[(0,.cells 76 [i6 o,i6 p,i6 q,.bool r,i6 s,i6 t,i6 u,i6 a,i6 b,i6 d,.ptr 1 0,.own 2]),(1,.cells 138 (i6 e::.own 3::ctb (.int .u64 f::.int .u64 g::.own 4::.bool h::[]))),(2,.vec 29 (.pair (.int .i64) (.pair (.int .i64) (.sl (.int .u8)))) i false),(3,.vec 3 (.int .i64) j false),(4,.vec 5 (.int .u8) k true)],5,5⟩
def rc (K:KT):su:=(fun v=>match v with | (l,m,n,o,p,q,r,s,t,u,a,b,d,e,f,g,h,i,j,k)=>K .normal ⟨[(0,.c (.ptr 0 0)),(1,.c (.sl .bool l)),(4,.c (.bool m)),(5,.c (i6 n))],[(0,.cells 76 [i6 o,i6 p,i6 q,.bool r,i6 s,i6 t,i6 u,i6 a,i6 b,i6 d,.ptr 1 0,.own 2]),(1,.cells 138 (i6 e::.own 3::ctb (.int .u64 f::.int .u64 g::.own 4::.bool h::[]))),(2,.vec 29 (.pair (.int .i64) (.pair (.int .i64) (.sl (.int .u8)))) i false),(3,.vec 3 (.int .i64) j false),(4,.vec 5 (.int .u8) k true)],5,5⟩)
theorem In (fuel:Nat) (a:aF) (R:Ev.St→OA) (K:KT) (l:(List Bool)) (m:Bool) (n o:Int) (p q:Int) (r:Bool) (s t:Int) (u b:Int) (c d:Int) (e f g:Int) (h:Bool) (i:(List (Int×(Int×LI)))) (j k:LI):evalCode tab (kF a) J0 cr fuel (bodyOf 2 Tryz.f32) (ub (l,m,n,o,p,q,r,s,t,u,b,c,d,e,f,g,h,i,j,k)) (lc cr 4 2 R K)=jN fuel a l m n o p q r s t u b c d e f g h i j k (fun v=>R (ub v)) (rc K):=by
  kernel_rfl
def gi (fuel:Nat):Ev.Blk:=fun st K=>match canonO (cr 4) st with | some s=>(match s with | ⟨[(A,.c (.ptr B C)),(D,.c (.sl .bool E)),(F,.c (.bool G)),(H,.c (i6 I))],[(J,.cells L [i6 M,i6 N,i6 O,.bool P,i6 Q,i6 R,i6 S,i6 a,i6 b,i6 d,.ptr T U,.own e]),(f,.cells g h),(i,.vec j (.pair (.int .i64) (.pair (.int .i64) (.sl (.int .u8)))) k false),(l,.vec m (.int .i64) n false),(o,.vec p (.int .u8) q true)],r,t⟩=>(match splitRun 2 ctn h with | some ([i6 u,.own v],[.int .u64 w,.int .u64 x,.own y,.bool z])=>bif qb [A,B,C,D,F,H,J,L,T,U,e,f,g,i,j,l,m,o,p,r,t,v,y] [0,0,0,1,4,5,0,76,1,0,2,1,138,2,29,3,3,4,5,5,5,3,4] then iter (dR fuel) fuel (E,G,I,M,N,O,P,Q,R,S,a,b,d,u,w,x,z,k,n,q) (rc K) else none | _=>none) | _=>none) | none=>none
theorem AC (fuel:Nat) (st:Ev.St) (K:KT) (r:Ans) (h:gi fuel st K=some r):evalCode tab (ql fuel) J0 cr fuel (.block 2 (.loop (bodyOf 2 Tryz.f32))) st K=some r:=by
  unfold gi at h
  split at h
  · rename_i s hs
    split at h
    · skip
      split at h
      rotate_left 1
      · cases h
      rename_i hsp
      have esp:=splitRun_eq hsp
      subst esp
      obtain ⟨hb,h⟩:=cond_some' h
      cases qb_eq hb
      exact blk_loop (S:=ub) (ks:=rc) (step:=dR fuel) (v:=(_,_,_,_,_,_,_,_,_,_,_,_,_,_,_,_,_,_,_,_)) (by kernel_rfl) (by kernel_rfl) (fun R K v=>by obtain ⟨l,m,n,o,p,q,t,u,w,x,a,b,c,d,e,f,g,i,j,k⟩:=v; exact In fuel (ap fuel) R K l m n o p q t u w x a b c d e f g i j k) hs h
    · cases h
  · cases h
abbrev nL:Type:=(List Bool)×Bool×Int×Int×Int×Bool×Int×Int×Int×Int×Int×Int×Int×Int×Int×Bool×(List (Int×(Int×LI)))×LI×LI
abbrev mE:Type:=(Int×Int×Int×Bool×Int×Int×Int×Int×Int×Int×Int×Int×Int×Bool×(List (Int×(Int×LI)))×LI×LI→OA)
def iE (fuel:Nat) (w:aF) (n:(List Bool)) (a8:Bool) (o p q:Int) (r:Bool) (s t:Int) (u v:Int) (e f:Int) (g h i:Int) (j:Bool) (k:(List (Int×(Int×LI)))) (l m:LI) (c:nL→OA) (B:mE):OA:=match B with | b=>bif decide ((↑n.length:Int) > 0) then (vy fuel (n,a8,0,o,p,q,r,s,t,u,v,e,f,g,h,i,j,k,l,m) (fun (a,P,d,Q,R,S,T,U,V,W,x,y,z,A,C,D,E,F,G,H)=>(w (192) d Q R S T U V W x y z A C D E F G H (fun (X,Y,a0,a1,a2,a3,a4,a5,a6,a7,I,J,K,L,M,N,O)=>bif decide (0≤Ev.loOf (some d)∧Ev.loOf (some d)≤Ev.hiOf Option.none (↑a.length:Int)∧Ev.hiOf Option.none (↑a.length:Int)≤(↑a.length:Int)) then c (List.take (Ev.hiOf Option.none (↑a.length:Int) - Ev.loOf (some d)).toNat (List.drop (Ev.loOf (some d)).toNat a),!P,X,Y,a0,a1,a2,a3,a4,a5,a6,a7,I,J,K,L,M,N,O) else none)))) else b (o,p,q,r,s,t,u,v,e,f,g,h,i,j,k,l,m)
def bQ (fuel:Nat) (v:(List Bool)×Bool×Int×Int×Int×Bool×Int×Int×Int×Int×Int×Int×Int×Int×Int×Bool×(List (Int×(Int×(List Int))))×(List Int)×(List Int)) (c:((List Bool)×Bool×Int×Int×Int×Bool×Int×Int×Int×Int×Int×Int×Int×Int×Int×Bool×(List (Int×(Int×(List Int))))×(List Int)×(List Int))→Option Ans) (B:(Int×Int×Int×Bool×Int×Int×Int×Int×Int×Int×Int×Int×Int×Bool×(List (Int×(Int×(List Int))))×(List Int)×(List Int)→Option Ans)):Option Ans:=match v with | (k,l,m,n,o,p,q,r,s,t,a,b,d,e,f,g,h,i,j)=>iE fuel (ap fuel) k l m n o p q r s t a b d e f g h i j c B
def xg (fuel:Nat) (v:nL) (b:mE):Option Ans:=iter (bQ fuel) fuel v b
def jQ (fuel:Nat) (i:Nat):Option Ev.Blk:=Ev.look i [(100002,gi fuel)]
def og (v:nL):Ev.St:=match v with | (k,l,m,n,o,p,q,r,s,t,a,b,d,e,f,g,h,i,j)=>⟨[(0,.c (.ptr 0 0)),(1,.c (.sl .bool k)),(4,.c (.bool l))],[(0,.cells 76 [i6 m,i6 n,i6 o,.bool p,i6 q,i6 r,i6 s,i6 t,i6 a,i6 b,.ptr 1 0,.own 2]),(1,.cells 138 (i6 d::.own 3::ctb (.int .u64 e::.int .u64 f::.own 4::.bool g::[]))),(2,.vec 29 (.pair (.int .i64) (.pair (.int .i64) (.sl (.int .u8)))) h false),(3,.vec 3 (.int .i64) i false),(4,.vec 5 (.int .u8) j true)],5,5⟩
def rH (K:KT):mE:=(fun v=>match v with | (h,i,j,k,l,m,n,o,p,q,a,b,c,d,e,f,g)=>K .normal ⟨[],[(0,.cells 76 [i6 h,i6 i,i6 j,.bool k,i6 l,i6 m,i6 n,i6 o,i6 p,i6 q,.ptr 1 0,.own 2]),(1,.cells 138 (i6 a::.own 3::ctb (.int .u64 b::.int .u64 c::.own 4::.bool d::[]))),(2,.vec 29 (.pair (.int .i64) (.pair (.int .i64) (.sl (.int .u8)))) e false),(3,.vec 3 (.int .i64) f false),(4,.vec 5 (.int .u8) g true)],5,5⟩)
theorem ED (fuel:Nat) (a:aF) (R:Ev.St→OA) (K:KT) (k:(List Bool)) (l:Bool) (m n o:Int) (p:Bool) (q r:Int) (s t:Int) (b c:Int) (d e f:Int) (g:Bool) (h:(List (Int×(Int×LI)))) (i j:LI):evalCode tab (kF a) (jQ fuel) cr fuel (bodyOf 0 Tryz.f32) (og (k,l,m,n,o,p,q,r,s,t,b,c,d,e,f,g,h,i,j)) (lc cr 1 0 R K)=iE fuel a k l m n o p q r s t b c d e f g h i j (fun v=>R (og v)) (rH K):=by
  kernel_rfl
def km (fuel:Nat):Ev.Blk:=fun st K=>match canonO (cr 1) st with | some s=>(match s with | ⟨[(y,.c (.ptr z A)),(B,.c (.sl .bool C)),(D,.c (.bool E))],[(F,.cells G [i6 H,i6 I,i6 J,.bool L,i6 M,i6 N,i6 O,i6 P,i6 a,i6 b,.ptr Q R,.own S]),(d,.cells e f),(g,.vec h (.pair (.int .i64) (.pair (.int .i64) (.sl (.int .u8)))) i false),(j,.vec k (.int .i64) l false),(m,.vec n (.int .u8) o true)],p,q⟩=>(match splitRun 2 ctn f with | some ([i6 r,.own t],[.int .u64 u,.int .u64 v,.own w,.bool x])=>bif qb [y,z,A,B,D,F,G,Q,R,S,d,e,g,h,j,k,m,n,p,q,t,w] [0,0,0,1,4,0,76,1,0,2,1,138,2,29,3,3,4,5,5,5,3,4] then iter (bQ fuel) fuel (C,E,H,I,J,L,M,N,O,P,a,b,r,u,v,x,i,l,o) (rH K) else none | _=>none) | _=>none) | none=>none
theorem Id (fuel:Nat) (st:Ev.St) (K:KT) (r:Ans) (h:km fuel st K=some r):evalCode tab (ql fuel) (jQ fuel) cr fuel (.block 0 (.loop (bodyOf 0 Tryz.f32))) st K=some r:=by
  unfold km at h
  split at h
  · rename_i s hs
    split at h
    · skip
      split at h
      rotate_left 1
      · cases h
      rename_i hsp
      have esp:=splitRun_eq hsp
      subst esp
      obtain ⟨hb,h⟩:=cond_some' h
      cases qb_eq hb
      exact blk_loop (S:=og) (ks:=rH) (step:=bQ fuel) (v:=(_,_,_,_,_,_,_,_,_,_,_,_,_,_,_,_,_,_,_)) (by kernel_rfl) (by kernel_rfl) (fun R K v=>by obtain ⟨k,l,m,n,o,p,q,t,u,w,a,b,c,d,e,f,g,i,j⟩:=v; exact ED fuel (ap fuel) R K k l m n o p q t u w a b c d e f g i j) hs h
    · cases h
  · cases h
def Jg (fuel:Nat) (i:Nat):Option Ev.Blk:=Ev.look i [(100002,gi fuel),(100000,km fuel)]
def mT (fuel:Nat) (J:aF) (z:(List Bool)) (A B C:Int) (D:Bool) (E F:Int) (G H:Int) (I r:Int) (s t u:Int) (v:Bool) (w:(List (Int×(Int×LI)))) (x y:LI) (k0:(Int×Int×Int×Bool×Int×Int×Int×Int×Int×Int×Int×Int×Int×Bool×(List (Int×(Int×LI)))×LI×LI)→OA):OA:=(xg fuel (z,false,A,B,C,D,E,F,G,H,I,r,s,t,u,v,w,x,y) (fun (h,i,j,k,l,m,n,o,p,q,a,b,c,d,e,f,g)=>k0 (h,i,j,k,l,m,n,o,p,q,a,b,c,d,e,f,g)))
abbrev gp:Type:=((List Bool))→Int→Int→Int→Bool→Int→Int→Int→Int→Int→Int→Int→Int→Int→Bool→((List (Int×(Int×LI))))→LI→LI→((Int×Int×Int×Bool×Int×Int×Int×Int×Int×Int×Int×Int×Int×Bool×(List (Int×(Int×LI)))×LI×LI)→Option Ans)→Option Ans
def gb (fuel:Nat):gp:=mT fuel (ap fuel)
theorem Dn (fuel:Nat) (a:aF) (l:(List Bool)) (m n o:Int) (p:Bool) (q s:Int) (t u:Int) (v b:Int) (d e f:Int) (g:Bool) (h:(List (Int×(Int×LI)))) (i j:LI) (k:Ev.Cont):evalFn tab (kF a) (Jg fuel) cr fuel Tryz.f32 [.c (.ptr 0 0),.c (.sl .bool l)] [.cells 76 [i6 m,i6 n,i6 o,.bool p,i6 q,i6 s,i6 t,i6 u,i6 v,i6 b,.ptr 1 0,.own 2],.cells 138 (i6 d::.own 3::ctb (.int .u64 e::.int .u64 f::.own 4::.bool g::[])),.vec 29 (.pair (.int .i64) (.pair (.int .i64) (.sl (.int .u8)))) h false,.vec 3 (.int .i64) i false,.vec 5 (.int .u8) j false] k=mT fuel a l m n o p q s t u v b d e f g h i j (fun r=>match r with | (D,E,F,G,H,I,J,K,L,M,w,x,y,z,A,B,C)=>k (.tup [],[.cells 76 [i6 D,i6 E,i6 F,.bool G,i6 H,i6 I,i6 J,i6 K,i6 L,i6 M,.ptr 1 0,.own 2],.cells 138 (i6 w::.own 3::ctb (.int .u64 x::.int .u64 y::.own 4::.bool z::[])),.vec 29 (.pair (.int .i64) (.pair (.int .i64) (.sl (.int .u8)))) A false,.vec 3 (.int .i64) B false,.vec 5 (.int .u8) C true])):=by
  kernel_rfl
theorem ot (fuel:Nat):GOK Tryz.prog (ql fuel):=
  gc (ud fuel) Tryz.func78 (by kernel_rfl) rfl <|
  gok_nil
theorem Gr (fuel:Nat):BlkOK Tryz.prog Tryz.f32.ntmps (.block 2 (.loop (bodyOf 2 Tryz.f32))) (gi fuel):=bo0 (ot fuel) (by kernel_rfl) (by kernel_rfl) (AC fuel)
theorem Fj (fuel:Nat):BlkOK Tryz.prog Tryz.f32.ntmps (.block 0 (.loop (bodyOf 0 Tryz.f32))) (km fuel):=
  blk_of (blk_of_code tab_ok (ot fuel) mixed (J:=jQ fuel) (kp:=cr) (fuel:=fuel) (by kernel_rfl) (fun q hq=>by
    rw [(by kernel_rfl:obl (jQ fuel) (.block 0 (.loop (bodyOf 0 Tryz.f32)))= [(.block 2 (.loop (bodyOf 2 Tryz.f32)),gi fuel)])] at hq
    simp only [List.mem_cons,List.not_mem_nil,or_false] at hq
    subst hq
    · exact Gr fuel)) (Id fuel)
def pO (F:gp):Ev.Spec:=fun args objs k=>match args,objs with | [.c (.ptr v w),.c (.sl .bool x)],[.cells y [i6 z,i6 A,i6 B,.bool C,i6 D,i6 E,i6 G,i6 H,i6 I,i6 a,.ptr J K,.own L],.cells M b,.vec N (.pair (.int .i64) (.pair (.int .i64) (.sl (.int .u8)))) d false,.vec O (.int .i64) e false,.vec P (.int .u8) f false]=>(match splitRun 2 ctn b with | some ([i6 g,.own h],[.int .u64 i,.int .u64 j,.own l,.bool m])=>bif qb [v,w,y,J,K,L,M,N,O,P,h,l] [0,0,76,1,0,2,138,29,3,5,3,4] then F x z A B C D E G H I a g i j m d e f (fun r=>match r with | (Q,R,S,T,U,V,W,X,Y,a0,n,o,p,q,s,t,u)=>k (.tup [],[.cells 76 [i6 Q,i6 R,i6 S,.bool T,i6 U,i6 V,i6 W,i6 X,i6 Y,i6 a0,.ptr 1 0,.own 2],.cells 138 (i6 n::.own 3::ctb (.int .u64 o::.int .u64 p::.own 4::.bool q::[])),.vec 29 (.pair (.int .i64) (.pair (.int .i64) (.sl (.int .u8)))) s false,.vec 3 (.int .i64) t false,.vec 5 (.int .u8) u true])) else none | _=>none) | _,_=>none
theorem JN (fuel:Nat):FnOK Tryz.prog 32 (pO (gb fuel)):=by
  intro args objs kk r h
  unfold pO at h
  split at h
  · skip
    split at h
    rotate_left 1
    · cases h
    rename_i hsp
    have esp:=splitRun_eq hsp
    subst esp
    obtain ⟨hb,h⟩:=cond_some' h
    cases qb_eq hb
    exact fo1 (ot fuel) Tryz.func32 rfl (Fj fuel) (by kernel_rfl) _ _ kk r ((Dn fuel (ap fuel) _ _ _ _ _ _ _ _ _ _ _ _ _ _ _ _ _ _ kk).trans h)
  · cases h
def ig (i:Nat):Option (List Nat):=Ev.look i [(2,[2,3,8,9,10]),(100000,[]),(400000,[4])]
def rG (a:bc) (b:aj) (f:Nat):Option Ev.Spec:=Ev.look f [(170,hZ a),(195,en b)]
def xF (fuel:Nat):Nat→Option Ev.Spec:=rG (aK fuel) (af fuel)
abbrev mq:Type:=LI×Int×Int×Int×Int×LI×Int×Int×LI
abbrev yp:Type:=(Bool→OA)×(Unit→OA)
def jo (fuel:Nat) (l:bc) (m:aj) (d:LI) (h a:Int) (i j:Int) (k:LI) (e f:Int) (g:LI) (c:mq→OA) (B:yp):OA:=match B with | (ret,b)=>bif decide (a < h) then bif decide (0≤a∧a < (↑d.length:Int)) then bif d.getD a.toNat (0:Int)==(1:Int) then (l e f g i j (fun o=>bif o then (m e f g a (fun n=>bif n then ret true else c (d,h,i64.wrap (a+1),i,j,k,e,f,g))) else c (d,h,i64.wrap (a+1),i,j,k,e,f,g))) else c (d,h,i64.wrap (a+1),i,j,k,e,f,g) else none else b ()
def eM (fuel:Nat) (v:(List Int)×Int×Int×Int×Int×(List Int)×Int×Int×(List Int)) (c:((List Int)×Int×Int×Int×Int×(List Int)×Int×Int×(List Int))→Option Ans) (B:(Bool→Option Ans)×(Unit→Option Ans)):Option Ans:=match v with | (a,b,d,e,f,g,h,i,j)=>jo fuel (aK fuel) (af fuel) a b d e f g h i j c B
def xa (fuel:Nat) (v:mq) (ret:(Bool→Option Ans)) (b:(Unit→Option Ans)):Option Ans:=iter (eM fuel) fuel v (ret,b)
def tl (v:mq):Ev.St:=match v with | (a,b,d,e,f,g,h,i,j)=>⟨[(2,.c (.ptr 0 0)),(3,.c (.ptr 1 0)),(8,.c (.sl (.int .u8) a)),(9,.c (i6 b)),(10,.c (i6 d))],[(0,.cells 29 [i6 e,i6 f,.sl (.int .u8) g]),(1,.cells 29 [i6 h,i6 i,.sl (.int .u8) j])],2,0⟩
def oU (K:KT):yp:=((fun v=>match v with | a=>K .ret ⟨[(4,.c (.bool a))],[],0,0⟩),(fun v=>match v with | ()=>K .normal ⟨[],[],0,0⟩))
theorem Bu (fuel:Nat) (a:bc) (b:aj) (R:Ev.St→OA) (K:KT) (c:LI) (d e:Int) (f g:Int) (h:LI) (i j:Int) (k:LI):evalCode tab (rG a b) J0 ig fuel (bodyOf 0 Tryz.f169) (tl (c,d,e,f,g,h,i,j,k)) (lc ig 2 0 R K)=jo fuel a b c d e f g h i j k (fun v=>R (tl v)) (oU K):=by
  kernel_rfl
def jV (fuel:Nat):Ev.Blk:=fun st K=>match canonO (ig 2) st with | some s=>(match s with | ⟨[(g,.c (.ptr h i)),(j,.c (.ptr k l)),(m,.c (.sl (.int .u8) n)),(o,.c (i6 p)),(q,.c (i6 r))],[(t,.cells a [i6 u,i6 v,.sl (.int .u8) w]),(b,.cells d [i6 x,i6 y,.sl (.int .u8) z])],e,f⟩=>bif qb [g,h,i,j,k,l,m,o,q,t,a,b,d,e,f] [2,0,0,3,1,0,8,9,10,0,29,1,29,2,0] then iter (eM fuel) fuel (n,p,r,u,v,w,x,y,z) (oU K) else none | _=>none) | none=>none
theorem Dj (fuel:Nat) (st:Ev.St) (K:KT) (r:Ans) (h:jV fuel st K=some r):evalCode tab (xF fuel) J0 ig fuel (.block 0 (.loop (bodyOf 0 Tryz.f169))) st K=some r:=by
  unfold jV at h
  split at h
  · rename_i s hs
    split at h
    · skip
      obtain ⟨hb,h⟩:=cond_some' h
      cases qb_eq hb
      exact blk_loop (S:=tl) (ks:=oU) (step:=eM fuel) (v:=(_,_,_,_,_,_,_,_,_)) (by kernel_rfl) (by kernel_rfl) (fun R K v=>by obtain ⟨a,b,c,d,e,f,g,i,j⟩:=v; exact Bu fuel (aK fuel) (af fuel) R K a b c d e f g i j) hs h
    · cases h
  · cases h
def zZ (fuel:Nat) (i:Nat):Option Ev.Blk:=Ev.look i [(100000,jV fuel)]
def qG (fuel:Nat) (g:bc) (h:aj) (b c:Int) (a:LI) (d e:Int) (f:LI) (k0:(Bool)→OA):OA:=(xa fuel (a,(↑a.length:Int),0,b,c,a,d,e,f) (fun ret0_0=>k0 ret0_0) (fun ()=>k0 false))
abbrev iU:Type:=Int→Int→LI→Int→Int→LI→(Bool→Option Ans)→Option Ans
def eQ (fuel:Nat):iU:=qG fuel (aK fuel) (af fuel)
theorem BX (fuel:Nat) (a:bc) (b:aj) (d e:Int) (f:LI) (g h:Int) (i:LI) (k:Ev.Cont):evalFn tab (rG a b) (zZ fuel) ig fuel Tryz.f169 [.agg [i6 d,i6 e,.sl (.int .u8) f],.agg [i6 g,i6 h,.sl (.int .u8) i]] [] k=qG fuel a b d e f g h i (fun r=>match r with | j=>k (.c (.bool j),[])):=by
  kernel_rfl
theorem yy (fuel:Nat):GOK Tryz.prog (xF fuel):=
  gc (sT fuel) Tryz.func170 (by kernel_rfl) rfl <|
  gc (gm fuel) Tryz.func195 (by kernel_rfl) rfl <|
  gok_nil
theorem CY (fuel:Nat):BlkOK Tryz.prog Tryz.f169.ntmps (.block 0 (.loop (bodyOf 0 Tryz.f169))) (jV fuel):=bo0 (yy fuel) (by kernel_rfl) (by kernel_rfl) (Dj fuel)
def rJ (F:iU):Ev.Spec:=fun args objs k=>match args,objs with | [.agg [i6 a,i6 b,.sl (.int .u8) d],.agg [i6 e,i6 f,.sl (.int .u8) g]],[]=>F a b d e f g (fun r=>match r with | h=>k (.c (.bool h),[])) | _,_=>none
theorem Hp (fuel:Nat):FnOK Tryz.prog 169 (rJ (eQ fuel)):=by
  intro args objs kk r h
  unfold rJ at h
  split at h
  · skip
    exact fo1 (yy fuel) Tryz.func169 rfl (CY fuel) (by kernel_rfl) _ _ kk r ((BX fuel (aK fuel) (af fuel) _ _ _ _ _ _ kk).trans h)
  · cases h
def Jy (i:Nat):Option (List Nat):=Ev.look i []
def DX (f:Nat):Option Ev.Spec:=Ev.look f []
def vW (fuel:Nat):Nat→Option Ev.Spec:=DX
def ct (fuel:Nat) (a b:(List Int)) (k0:(Bool)→Option Ans):Option Ans:=k0 ((Go.strOfNums a).toList==(Go.strOfNums b).toList)
abbrev dz:Type:=LI→LI→(Bool→Option Ans)→Option Ans
theorem AZ (fuel:Nat) (a b:LI) (k:Ev.Cont):evalFn tab (vW fuel) J0 Jy fuel Tryz.f196 [.c (.sl (.int .u8) a),.c (.sl (.int .u8) b)] [] k=ct fuel a b (fun r=>match r with | d=>k (.c (.bool d),[])):=by
  kernel_rfl
theorem Bw (fuel:Nat):GOK Tryz.prog (vW fuel):=
  gok_nil
def ri (F:dz):Ev.Spec:=fun args objs k=>match args,objs with | [.c (.sl (.int .u8) a),.c (.sl (.int .u8) b)],[]=>F a b (fun r=>match r with | d=>k (.c (.bool d),[])) | _,_=>none
theorem Hu (fuel:Nat):FnOK Tryz.prog 196 (ri (ct fuel)):=by
  intro args objs kk r h
  unfold ri at h
  split at h
  · skip
    exact fo0 (Bw fuel) Tryz.func196 rfl (by kernel_rfl) _ _ kk r ((AZ fuel _ _ kk).trans h)
  · cases h
def HL (i:Nat):Option (List Nat):=Ev.look i [(200003,[0])]
def Ge (f:Nat):Option Ev.Spec:=Ev.look f []
def xV (fuel:Nat):Nat→Option Ev.Spec:=Ge
def bf (fuel:Nat) (d e:Int) (a c:Int) (b:(List Int)) (f:(List (Int×Int))) (k0:(Int×Int×Int×(List Int)×(List (Int×Int)))→Option Ans):Option Ans:=bif decide (d < 0) then k0 (0,a,c,b,f) else bif decide (e < 0) then k0 (0,a,c,b,f) else bif decide (d≥a) then k0 (0,a,c,b,f) else bif decide (e≥c) then k0 (0,a,c,b,f) else bif decide (0≤i64.wrap (i64.wrap (e*a)+d)∧i64.wrap (i64.wrap (e*a)+d) < (↑b.length:Int)) then k0 (b.getD (i64.wrap (i64.wrap (e*a)+d)).toNat 0,a,c,b,f) else none
abbrev bL:Type:=Int→Int→Int→Int→LI→((List (Int×Int)))→((Int×Int×Int×LI×(List (Int×Int)))→Option Ans)→Option Ans
theorem Bh (fuel:Nat) (a b:Int) (d e:Int) (f:LI) (g:(List (Int×Int))) (k:Ev.Cont):evalFn tab (xV fuel) J0 HL fuel Tryz.f203 [.c (.ptr 0 0),.c (i6 a),.c (i6 b)] [.cells 240 [i6 d,i6 e,.sl (.int .u8) f,.own 1],.vec 22 (.pair (.int .i64) (.int .i64)) g false] k=bf fuel a b d e f g (fun r=>match r with | (h,i,j,l,m)=>k (.c (.int .u8 h),[.cells 240 [i6 i,i6 j,.sl (.int .u8) l,.own 1],.vec 22 (.pair (.int .i64) (.int .i64)) m false])):=by
  kernel_rfl
theorem AL (fuel:Nat):GOK Tryz.prog (xV fuel):=
  gok_nil
def kW (F:bL):Ev.Spec:=fun args objs k=>match args,objs with | [.c (.ptr a b),.c (i6 d),.c (i6 e)],[.cells f [i6 g,i6 h,.sl (.int .u8) i,.own j],.vec l (.pair (.int .i64) (.int .i64)) m false]=>bif qb [a,b,f,j,l] [0,0,240,1,22] then F d e g h i m (fun r=>match r with | (n,o,p,q,s)=>k (.c (.int .u8 n),[.cells 240 [i6 o,i6 p,.sl (.int .u8) q,.own 1],.vec 22 (.pair (.int .i64) (.int .i64)) s false])) else none | _,_=>none
theorem zi (fuel:Nat):FnOK Tryz.prog 203 (kW (bf fuel)):=by
  intro args objs kk r h
  unfold kW at h
  split at h
  · skip
    obtain ⟨hb,h⟩:=cond_some' h
    cases qb_eq hb
    exact fo0 (AL fuel) Tryz.func203 rfl (by kernel_rfl) _ _ kk r ((Bh fuel _ _ _ _ _ _ kk).trans h)
  · cases h
def hD (i:Nat):Option (List Nat):=Ev.look i [(3,[0,1,5,7,15,16]),(100000,[7]),(200005,[0,5]),(400000,[6])]
def rR (b:aj) (a:bL) (f:Nat):Option Ev.Spec:=Ev.look f [(195,en b),(203,kW a)]
def yT (fuel:Nat):Nat→Option Ev.Spec:=rR (af fuel) (bf fuel)
abbrev rW:Type:=Int×Int×Int×Int×Int×LI×(List (Int×Int))×Int×Int×LI×LI
abbrev nr:Type:=(Int×Int×LI×(List (Int×Int))×LI→OA)
def jO (fuel:Nat) (o:aj) (n:bL) (e g:Int) (a f h:Int) (i:LI) (j:(List (Int×Int))) (k l:Int) (m d:LI) (c:rW→OA) (B:nr):OA:=match B with | b=>bif decide (a < g) then (o k l m (i64.wrap (i64.wrap (e*f)+a)) (fun u=>bif !u then (n a (i64.wrap (e - 1)) f h i j (fun (p,q,r,s,t)=>bif decide (0≤a∧a < (↑d.length:Int)) then c (e,g,i64.wrap (a+1),q,r,s,t,k,l,m,d.set a.toNat p) else none)) else c (e,g,i64.wrap (a+1),f,h,i,j,k,l,m,d))) else b (f,h,i,j,d)
def fG (fuel:Nat) (v:Int×Int×Int×Int×Int×(List Int)×(List (Int×Int))×Int×Int×(List Int)×(List Int)) (c:(Int×Int×Int×Int×Int×(List Int)×(List (Int×Int))×Int×Int×(List Int)×(List Int))→Option Ans) (B:(Int×Int×(List Int)×(List (Int×Int))×(List Int)→Option Ans)):Option Ans:=match v with | (b,d,e,f,g,h,i,j,k,l,a)=>jO fuel (af fuel) (bf fuel) b d e f g h i j k l a c B
def vX (fuel:Nat) (v:rW) (b:nr):Option Ans:=iter (fG fuel) fuel v b
def pw (v:rW):Ev.St:=match v with | (b,d,e,f,g,h,i,j,k,l,a)=>⟨[(0,.c (.ptr 0 0)),(1,.c (i6 b)),(5,.c (.ptr 2 0)),(7,.c (.own 3)),(15,.c (i6 d)),(16,.c (i6 e))],[(0,.cells 240 [i6 f,i6 g,.sl (.int .u8) h,.own 1]),(1,.vec 22 (.pair (.int .i64) (.int .i64)) i false),(2,.cells 29 [i6 j,i6 k,.sl (.int .u8) l]),(3,.vec 5 (.int .u8) a true)],4,2⟩
def pe (K:KT):nr:=(fun v=>match v with | (a,b,d,e,f)=>K .normal ⟨[(7,.c (.own 2))],[(0,.cells 240 [i6 a,i6 b,.sl (.int .u8) d,.own 1]),(1,.vec 22 (.pair (.int .i64) (.int .i64)) e false),(2,.vec 5 (.int .u8) f true)],3,2⟩)
theorem BC (fuel:Nat) (b:aj) (a:bL) (R:Ev.St→OA) (K:KT) (d e:Int) (f g h:Int) (i:LI) (j:(List (Int×Int))) (k l:Int) (m c:LI):evalCode tab (rR b a) J0 hD fuel (bodyOf 0 Tryz.f197) (pw (d,e,f,g,h,i,j,k,l,m,c)) (lc hD 3 0 R K)=jO fuel b a d e f g h i j k l m c (fun v=>R (pw v)) (pe K):=by
  kernel_rfl
def ll (fuel:Nat):Ev.Blk:=fun st K=>match canonO (hD 3) st with | some s=>(match s with | ⟨[(o,.c (.ptr p q)),(r,.c (i6 t)),(u,.c (.ptr v w)),(x,.c (.own y)),(z,.c (i6 A)),(a,.c (i6 B))],[(b,.cells d [i6 C,i6 D,.sl (.int .u8) E,.own e]),(f,.vec g (.pair (.int .i64) (.int .i64)) F false),(h,.cells i [i6 G,i6 H,.sl (.int .u8) I]),(j,.vec k (.int .u8) l true)],m,n⟩=>bif qb [o,p,q,r,u,v,w,x,y,z,a,b,d,e,f,g,h,i,j,k,m,n] [0,0,0,1,5,2,0,7,3,15,16,0,240,1,1,22,2,29,3,5,4,2] then iter (fG fuel) fuel (t,A,B,C,D,E,F,G,H,I,l) (pe K) else none | _=>none) | none=>none
theorem JL (fuel:Nat) (st:Ev.St) (K:KT) (r:Ans) (h:ll fuel st K=some r):evalCode tab (yT fuel) J0 hD fuel (.block 0 (.loop (bodyOf 0 Tryz.f197))) st K=some r:=by
  unfold ll at h
  split at h
  · rename_i s hs
    split at h
    · skip
      obtain ⟨hb,h⟩:=cond_some' h
      cases qb_eq hb
      exact blk_loop (S:=pw) (ks:=pe) (step:=fG fuel) (v:=(_,_,_,_,_,_,_,_,_,_,_)) (by kernel_rfl) (by kernel_rfl) (fun R K v=>by obtain ⟨b,c,d,e,f,g,i,j,k,l,a⟩:=v; exact BC fuel (af fuel) (bf fuel) R K b c d e f g i j k l a) hs h
    · cases h
  · cases h
def Dq (fuel:Nat) (i:Nat):Option Ev.Blk:=Ev.look i [(100000,ll fuel)]
def oa (fuel:Nat) (o:aj) (n:bL) (g h i:Int) (j:LI) (a k:Int) (l:LI) (m:(List (Int×Int))) (k0:(Int×Int×LI×(List (Int×Int))×LI)→OA):OA:=bif decide (0≤a∧a=a∧(↑(1:Nat):Int)*a≤281474976710656∧a≤281474976710656) then (vX fuel (g,(↑(List.replicate a.toNat (0:Int)).length:Int),0,a,k,l,m,h,i,j,List.replicate a.toNat (0:Int)) (fun (b,c,d,e,f)=>k0 (b,c,d,e,f))) else none
abbrev cP:Type:=Int→Int→Int→LI→Int→Int→LI→((List (Int×Int)))→((Int×Int×LI×(List (Int×Int))×LI)→Option Ans)→Option Ans
def bR (fuel:Nat):cP:=oa fuel (af fuel) (bf fuel)
theorem EM (fuel:Nat) (b:aj) (a:bL) (d e f:Int) (g:LI) (h i:Int) (j:LI) (l:(List (Int×Int))) (k:Ev.Cont):evalFn tab (rR b a) (Dq fuel) hD fuel Tryz.f197 [.c (.ptr 0 0),.c (i6 d),.agg [i6 e,i6 f,.sl (.int .u8) g]] [.cells 240 [i6 h,i6 i,.sl (.int .u8) j,.own 1],.vec 22 (.pair (.int .i64) (.int .i64)) l false] k=oa fuel b a d e f g h i j l (fun r=>match r with | (m,n,o,p,q)=>k (.c (.own 2),[.cells 240 [i6 m,i6 n,.sl (.int .u8) o,.own 1],.vec 22 (.pair (.int .i64) (.int .i64)) p false,.vec 5 (.int .u8) q true])):=by
  kernel_rfl
theorem yg (fuel:Nat):GOK Tryz.prog (yT fuel):=
  gc (gm fuel) Tryz.func195 (by kernel_rfl) rfl <|
  gc (zi fuel) Tryz.func203 (by kernel_rfl) rfl <|
  gok_nil
theorem Ie (fuel:Nat):BlkOK Tryz.prog Tryz.f197.ntmps (.block 0 (.loop (bodyOf 0 Tryz.f197))) (ll fuel):=bo0 (yg fuel) (by kernel_rfl) (by kernel_rfl) (JL fuel)
def tA (F:cP):Ev.Spec:=fun args objs k=>match args,objs with | [.c (.ptr a b),.c (i6 d),.agg [i6 e,i6 f,.sl (.int .u8) g]],[.cells h [i6 i,i6 j,.sl (.int .u8) l,.own m],.vec n (.pair (.int .i64) (.int .i64)) o false]=>bif qb [a,b,h,m,n] [0,0,240,1,22] then F d e f g i j l o (fun r=>match r with | (p,q,s,t,u)=>k (.c (.own 2),[.cells 240 [i6 p,i6 q,.sl (.int .u8) s,.own 1],.vec 22 (.pair (.int .i64) (.int .i64)) t false,.vec 5 (.int .u8) u true])) else none | _,_=>none
theorem Bf (fuel:Nat):FnOK Tryz.prog 197 (tA (bR fuel)):=by
  intro args objs kk r h
  unfold tA at h
  split at h
  · skip
    obtain ⟨hb,h⟩:=cond_some' h
    cases qb_eq hb
    exact fo1 (yg fuel) Tryz.func197 rfl (Ie fuel) (by kernel_rfl) _ _ kk r ((EM fuel (af fuel) (bf fuel) _ _ _ _ _ _ _ _ kk).trans h)
  · cases h
def iQ (i:Nat):Option (List Nat):=Ev.look i [(3,[0,1,2,7,13,14,15]),(100000,[7]),(400000,[6])]
def pX (a:bL) (f:Nat):Option Ev.Spec:=Ev.look f [(203,kW a)]
def vt (fuel:Nat):Nat→Option Ev.Spec:=pX (bf fuel)
abbrev nM:Type:=Int×Int×Int×Int×Int×Int×Int×LI×(List (Int×Int))
abbrev nV:Type:=(Int×Int×Int×LI×(List (Int×Int))→OA)
def jf (fuel:Nat) (l:bL) (e f:Int) (g h:Int) (a i j:Int) (k:LI) (d:(List (Int×Int))) (c:nM→OA) (B:nV):OA:=match B with | b=>bif decide (a < h) then bif decide (0≤a∧a < (↑d.length:Int)) then (l (i64.wrap (e+(d.getD a.toNat (0,0)).fst)) (i64.wrap (f+(d.getD a.toNat (0,0)).snd)) i j k d (fun (m,n,o,p,q)=>c (e,f,i64.wrap (i64.wrap (2*g)+i64.wrap m),h,i64.wrap (a+1),n,o,p,q))) else none else b (g,i,j,k,d)
def fJ (fuel:Nat) (v:Int×Int×Int×Int×Int×Int×Int×(List Int)×(List (Int×Int))) (c:(Int×Int×Int×Int×Int×Int×Int×(List Int)×(List (Int×Int)))→Option Ans) (B:(Int×Int×Int×(List Int)×(List (Int×Int))→Option Ans)):Option Ans:=match v with | (a,b,d,e,f,g,h,i,j)=>jf fuel (bf fuel) a b d e f g h i j c B
def vT (fuel:Nat) (v:nM) (b:nV):Option Ans:=iter (fJ fuel) fuel v b
def qP (v:nM):Ev.St:=match v with | (a,b,d,e,f,g,h,i,j)=>⟨[(0,.c (.ptr 0 0)),(1,.c (i6 a)),(2,.c (i6 b)),(7,.c (i6 d)),(13,.c (.own 1)),(14,.c (i6 e)),(15,.c (i6 f))],[(0,.cells 240 [i6 g,i6 h,.sl (.int .u8) i,.own 1]),(1,.vec 22 (.pair (.int .i64) (.int .i64)) j false)],2,2⟩
def mP (K:KT):nV:=(fun v=>match v with | (a,b,d,e,f)=>K .normal ⟨[(7,.c (i6 a))],[(0,.cells 240 [i6 b,i6 d,.sl (.int .u8) e,.own 1]),(1,.vec 22 (.pair (.int .i64) (.int .i64)) f false)],2,2⟩)
theorem Dh (fuel:Nat) (a:bL) (R:Ev.St→OA) (K:KT) (b c:Int) (d e:Int) (f g h:Int) (i:LI) (j:(List (Int×Int))):evalCode tab (pX a) J0 iQ fuel (bodyOf 0 Tryz.f198) (qP (b,c,d,e,f,g,h,i,j)) (lc iQ 3 0 R K)=jf fuel a b c d e f g h i j (fun v=>R (qP v)) (mP K):=by
  kernel_rfl
def kV (fuel:Nat):Ev.Blk:=fun st K=>match canonO (iQ 3) st with | some s=>(match s with | ⟨[(i,.c (.ptr j k)),(l,.c (i6 m)),(n,.c (i6 o)),(p,.c (i6 q)),(r,.c (.own t)),(u,.c (i6 v)),(w,.c (i6 x))],[(a,.cells b [i6 y,i6 z,.sl (.int .u8) A,.own d]),(e,.vec f (.pair (.int .i64) (.int .i64)) B false)],g,h⟩=>bif qb [i,j,k,l,n,p,r,t,u,w,a,b,d,e,f,g,h] [0,0,0,1,2,7,13,1,14,15,0,240,1,1,22,2,2] then iter (fJ fuel) fuel (m,o,q,v,x,y,z,A,B) (mP K) else none | _=>none) | none=>none
theorem DP (fuel:Nat) (st:Ev.St) (K:KT) (r:Ans) (h:kV fuel st K=some r):evalCode tab (vt fuel) J0 iQ fuel (.block 0 (.loop (bodyOf 0 Tryz.f198))) st K=some r:=by
  unfold kV at h
  split at h
  · rename_i s hs
    split at h
    · skip
      obtain ⟨hb,h⟩:=cond_some' h
      cases qb_eq hb
      exact blk_loop (S:=qP) (ks:=mP) (step:=fJ fuel) (v:=(_,_,_,_,_,_,_,_,_)) (by kernel_rfl) (by kernel_rfl) (fun R K v=>by obtain ⟨a,b,c,d,e,f,g,i,j⟩:=v; exact Dh fuel (bf fuel) R K a b c d e f g i j) hs h
    · cases h
  · cases h
def Dr (fuel:Nat) (i:Nat):Option Ev.Blk:=Ev.look i [(100000,kV fuel)]
def nW (fuel:Nat) (l:bL) (g h:Int) (i j:Int) (k:LI) (a:(List (Int×Int))) (k0:(Int×Int×Int×LI×(List (Int×Int)))→OA):OA:=(vT fuel (g,h,0,(↑a.length:Int),0,i,j,k,a) (fun (b,c,d,e,f)=>k0 (b,c,d,e,f)))
abbrev cO:Type:=Int→Int→Int→Int→LI→((List (Int×Int)))→((Int×Int×Int×LI×(List (Int×Int)))→Option Ans)→Option Ans
def cu (fuel:Nat):cO:=nW fuel (bf fuel)
theorem AN (fuel:Nat) (a:bL) (b d:Int) (e f:Int) (g:LI) (h:(List (Int×Int))) (k:Ev.Cont):evalFn tab (pX a) (Dr fuel) iQ fuel Tryz.f198 [.c (.ptr 0 0),.c (i6 b),.c (i6 d)] [.cells 240 [i6 e,i6 f,.sl (.int .u8) g,.own 1],.vec 22 (.pair (.int .i64) (.int .i64)) h false] k=nW fuel a b d e f g h (fun r=>match r with | (i,j,l,m,n)=>k (.c (i6 i),[.cells 240 [i6 j,i6 l,.sl (.int .u8) m,.own 1],.vec 22 (.pair (.int .i64) (.int .i64)) n false])):=by
  kernel_rfl
theorem wy (fuel:Nat):GOK Tryz.prog (vt fuel):=
  gc (zi fuel) Tryz.func203 (by kernel_rfl) rfl <|
  gok_nil
theorem I3 (fuel:Nat):BlkOK Tryz.prog Tryz.f198.ntmps (.block 0 (.loop (bodyOf 0 Tryz.f198))) (kV fuel):=bo0 (wy fuel) (by kernel_rfl) (by kernel_rfl) (DP fuel)
def nE (F:cO):Ev.Spec:=fun args objs k=>match args,objs with | [.c (.ptr a b),.c (i6 d),.c (i6 e)],[.cells f [i6 g,i6 h,.sl (.int .u8) i,.own j],.vec l (.pair (.int .i64) (.int .i64)) m false]=>bif qb [a,b,f,j,l] [0,0,240,1,22] then F d e g h i m (fun r=>match r with | (n,o,p,q,s)=>k (.c (i6 n),[.cells 240 [i6 o,i6 p,.sl (.int .u8) q,.own 1],.vec 22 (.pair (.int .i64) (.int .i64)) s false])) else none | _,_=>none
theorem JC (fuel:Nat):FnOK Tryz.prog 198 (nE (cu fuel)):=by
  intro args objs kk r h
  unfold nE at h
  split at h
  · skip
    obtain ⟨hb,h⟩:=cond_some' h
    cases qb_eq hb
    exact fo1 (wy fuel) Tryz.func198 rfl (I3 fuel) (by kernel_rfl) _ _ kk r ((AN fuel (bf fuel) _ _ _ _ _ _ kk).trans h)
  · cases h
def cm (i:Nat):Option (List Nat):=Ev.look i [(4,[0,1,7,8,9,10,27,28,1000002]),(13,[0,1,7,8,9,10,11,27,28,60,61]),(100000,[]),(100002,[0,1,7,8,9,10,27,28]),(200008,[8,9]),(200017,[8]),(400000,[]),(400002,[])]
def jc (d:aw) (a:ag) (e:bi) (g:aj) (h:dz) (b:cP) (c:cO) (f:Nat):Option Ev.Spec:=Ev.look f [(129,fH d),(132,cS a),(183,ln e),(195,en g),(196,ri h),(197,tA b),(198,nE c)]
def tT (fuel:Nat):Nat→Option Ev.Spec:=jc (av fuel) (ab fuel) (aW fuel) (af fuel) (ct fuel) (bR fuel) (cu fuel)
abbrev rM:Type:=Int×Int×Int×Int×Int×Int×Int×Int×Int×Bool×LI×LI×Int×Int×Int×Bool×Int×Int×Int×LI×Int×Int×LI×Int×Int×LI×(List (Int×Int))
abbrev tZ:Type:=(Int×Int×Int×Int×Int×Int×Bool×LI×LI×Int×Int×Int×Bool×Int×Int×Int×LI×Int×Int×LI×Int×Int×LI×(List (Int×Int))→OA)
def lH (fuel:Nat) (V:aw) (O:ag) (W:bi) (R:aj) (X:dz) (U:cP) (P:cO) (j e:Int) (q r:Int) (s a:Int) (G H I:Int) (J:Bool) (z A:LI) (k l m:Int) (n:Bool) (o d p:Int) (f:LI) (g h:Int) (i:LI) (C D:Int) (E:LI) (F:(List (Int×Int))) (c:rM→OA) (B:tZ):OA:=match B with | b=>bif decide (a < s) then (R g h i (i64.wrap (i64.wrap (e*d)+a)) (fun T=>bif !T then bif decide (0≤i64.wrap (i64.wrap (e*d)+a)∧i64.wrap (i64.wrap (e*d)+a) < (↑f.length:Int)) then (P a e C D E F (fun (S,K,L,M,N)=>(O (i64.wrap (j+S)) (i64.wrap (f.getD (i64.wrap (i64.wrap (e*d)+a)).toNat 0)) G H I J z A (fun (Q,t,u,v,w,x,y)=>c (j,e,q,r,s,i64.wrap (a+1),t,u,v,w,x,y,k,l,m,n,o,d,p,f,g,h,i,K,L,M,N)) (fun (Q,t,u,v,w,x,y)=>c (j,e,q,r,s,i64.wrap (a+1),t,u,v,w,x,y,k,l,m,n,o,d,p,f,g,h,i,K,L,M,N))))) else none else c (j,e,q,r,s,i64.wrap (a+1),G,H,I,J,z,A,k,l,m,n,o,d,p,f,g,h,i,C,D,E,F))) else b (j,q,r,G,H,I,J,z,A,k,l,m,n,o,d,p,f,g,h,i,C,D,E,F)
def fv (fuel:Nat) (v:Int×Int×Int×Int×Int×Int×Int×Int×Int×Bool×(List Int)×(List Int)×Int×Int×Int×Bool×Int×Int×Int×(List Int)×Int×Int×(List Int)×Int×Int×(List Int)×(List (Int×Int))) (c:(Int×Int×Int×Int×Int×Int×Int×Int×Int×Bool×(List Int)×(List Int)×Int×Int×Int×Bool×Int×Int×Int×(List Int)×Int×Int×(List Int)×Int×Int×(List Int)×(List (Int×Int)))→Option Ans) (B:(Int×Int×Int×Int×Int×Int×Bool×(List Int)×(List Int)×Int×Int×Int×Bool×Int×Int×Int×(List Int)×Int×Int×(List Int)×Int×Int×(List Int)×(List (Int×Int))→Option Ans)):Option Ans:=match v with | (s,t,u,w,x,y,z,A,C,D,a,b,d,e,f,g,h,i,j,k,l,m,n,o,p,q,r)=>lH fuel (av fuel) (ab fuel) (aW fuel) (af fuel) (ct fuel) (bR fuel) (cu fuel) s t u w x y z A C D a b d e f g h i j k l m n o p q r c B
def gK (fuel:Nat) (v:rM) (b:tZ):Option Ans:=iter (fv fuel) fuel v b
def qD (v:rM):Ev.St:=match v with | (s,t,u,w,x,y,z,A,B,C,a,b,d,e,f,g,h,i,j,k,l,m,n,o,p,q,r)=>⟨[(0,.c (.ptr 0 0)),(1,.c (i6 s)),(7,.c (.ptr 3 0)),(8,.c (.ptr 4 0)),(9,.c (.ptr 5 0)),(10,.c (.ptr 6 0)),(11,.c (i6 t)),(27,.c (i6 u)),(28,.c (i6 w)),(60,.c (i6 x)),(61,.c (i6 y))],[(0,.cells 138 (i6 z::.own 1::ctb (.int .u64 A::.int .u64 B::.own 2::.bool C::[]))),(1,.vec 3 (.int .i64) a false),(2,.vec 5 (.int .u8) b true),(3,.cells 24 [i6 d,i6 e,i6 f,.bool g,i6 h]),(4,.cells 29 [i6 i,i6 j,.sl (.int .u8) k]),(5,.cells 29 [i6 l,i6 m,.sl (.int .u8) n]),(6,.cells 240 [i6 o,i6 p,.sl (.int .u8) q,.own 7]),(7,.vec 22 (.pair (.int .i64) (.int .i64)) r true)],8,3⟩
def pu (K:KT):tZ:=(fun v=>match v with | (p,q,r,s,t,u,w,x,y,z,a,b,d,e,f,g,h,i,j,k,l,m,n,o)=>K .normal ⟨[(0,.c (.ptr 0 0)),(1,.c (i6 p)),(7,.c (.ptr 3 0)),(8,.c (.ptr 4 0)),(9,.c (.ptr 5 0)),(10,.c (.ptr 6 0)),(27,.c (i6 q)),(28,.c (i6 r))],[(0,.cells 138 (i6 s::.own 1::ctb (.int .u64 t::.int .u64 u::.own 2::.bool w::[]))),(1,.vec 3 (.int .i64) x false),(2,.vec 5 (.int .u8) y true),(3,.cells 24 [i6 z,i6 a,i6 b,.bool d,i6 e]),(4,.cells 29 [i6 f,i6 g,.sl (.int .u8) h]),(5,.cells 29 [i6 i,i6 j,.sl (.int .u8) k]),(6,.cells 240 [i6 l,i6 m,.sl (.int .u8) n,.own 7]),(7,.vec 22 (.pair (.int .i64) (.int .i64)) o true)],8,3⟩)
theorem Ax (fuel:Nat) (d:aw) (a:ag) (e:bi) (f:aj) (g:dz) (b:cP) (c:cO) (R:Ev.St→OA) (K:KT) (z A:Int) (B C:Int) (D E:Int) (F G H:Int) (I:Bool) (h i:LI) (j k l:Int) (m:Bool) (n o p:Int) (q:LI) (r s:Int) (t:LI) (u w:Int) (x:LI) (y:(List (Int×Int))):evalCode tab (jc d a e f g b c) J0 cm fuel (bodyOf 2 Tryz.f172) (qD (z,A,B,C,D,E,F,G,H,I,h,i,j,k,l,m,n,o,p,q,r,s,t,u,w,x,y)) (lc cm 13 2 R K)=lH fuel d a e f g b c z A B C D E F G H I h i j k l m n o p q r s t u w x y (fun v=>R (qD v)) (pu K):=by
  kernel_rfl
def gg (fuel:Nat):Ev.Blk:=fun st K=>match canonO (cm 13) st with | some s=>(match s with | ⟨[(a2,.c (.ptr a3 a4)),(a5,.c (i6 a6)),(a7,.c (.ptr a8 a9)),(b0,.c (.ptr b1 b2)),(a,.c (.ptr b d)),(e,.c (.ptr f g)),(h,.c (i6 b3)),(i,.c (i6 b4)),(j,.c (i6 b5)),(k,.c (i6 b6)),(l,.c (i6 b7))],[(m,.cells n o),(p,.vec q (.int .i64) r false),(t,.vec u (.int .u8) v true),(w,.cells x [i6 y,i6 z,i6 A,.bool B,i6 C]),(D,.cells E [i6 F,i6 G,.sl (.int .u8) H]),(I,.cells J [i6 L,i6 M,.sl (.int .u8) N]),(O,.cells P [i6 Q,i6 R,.sl (.int .u8) S,.own T]),(U,.vec V (.pair (.int .i64) (.int .i64)) W true)],X,Y⟩=>(match splitRun 2 ctn o with | some ([i6 b8,.own a0],[.int .u64 b9,.int .u64 c0,.own a1,.bool c1])=>bif qb [a2,a3,a4,a5,a7,a8,a9,b0,b1,b2,a,b,d,e,f,g,h,i,j,k,l,m,n,p,q,t,u,w,x,D,E,I,J,O,P,T,U,V,X,Y,a0,a1] [0,0,0,1,7,3,0,8,4,0,9,5,0,10,6,0,11,27,28,60,61,0,138,1,3,2,5,3,24,4,29,5,29,6,240,7,7,22,8,3,1,2] then iter (fv fuel) fuel (a6,b3,b4,b5,b6,b7,b8,b9,c0,c1,r,v,y,z,A,B,C,F,G,H,L,M,N,Q,R,S,W) (pu K) else none | _=>none) | _=>none) | none=>none
theorem CV (fuel:Nat) (st:Ev.St) (K:KT) (r:Ans) (h:gg fuel st K=some r):evalCode tab (tT fuel) J0 cm fuel (.block 2 (.loop (bodyOf 2 Tryz.f172))) st K=some r:=by
  unfold gg at h
  split at h
  · rename_i s hs
    split at h
    · skip
      split at h
      rotate_left 1
      · cases h
      rename_i hsp
      have esp:=splitRun_eq hsp
      subst esp
      obtain ⟨hb,h⟩:=cond_some' h
      cases qb_eq hb
      exact blk_loop (S:=qD) (ks:=pu) (step:=fv fuel) (v:=(_,_,_,_,_,_,_,_,_,_,_,_,_,_,_,_,_,_,_,_,_,_,_,_,_,_,_)) (by kernel_rfl) (by kernel_rfl) (fun R K v=>by obtain ⟨u,w,x,y,z,A,B,C,D,E,a,b,c,d,e,f,g,i,j,k,l,m,n,o,p,q,t⟩:=v; exact Ax fuel (av fuel) (ab fuel) (aW fuel) (af fuel) (ct fuel) (bR fuel) (cu fuel) R K u w x y z A B C D E a b c d e f g i j k l m n o p q t) hs h
    · cases h
  · cases h
abbrev nj:Type:=Int×Int×Int×Int×Int×Int×Bool×LI×LI×Int×Int×Int×Bool×Int×Int×Int×LI×Int×Int×LI×Int×Int×LI×(List (Int×Int))
abbrev tn:Type:=(Int×Int×Int×Bool×LI×LI→OA)
def kZ (fuel:Nat) (a9:aw) (a8:ag) (b9:bi) (c0:aj) (b5:dz) (b4:cP) (b8:cO) (p u:Int) (a a0:Int) (a1 a2:Int) (a3:Bool) (a4 a5:LI) (q m n:Int) (f:Bool) (o d U:Int) (e:LI) (r s:Int) (t:LI) (b0 b1:Int) (b2:LI) (b3:(List (Int×Int))) (c:nj→OA) (B:tn):OA:=match B with | b=>bif decide (a < u) then bif f then bif decide (0≤Ev.loOf (some (i64.wrap (a*d)))∧Ev.loOf (some (i64.wrap (a*d)))≤Ev.hiOf (some (i64.wrap (i64.wrap (a+1)*d))) (↑e.length:Int)∧Ev.hiOf (some (i64.wrap (i64.wrap (a+1)*d))) (↑e.length:Int)≤(↑e.length:Int)) then (b4 a r s t b0 b1 b2 b3 (fun (V,W,X,Y,b6)=>(b5 b6 (List.take (Ev.hiOf (some (i64.wrap (i64.wrap (a+1)*d))) (↑e.length:Int) - Ev.loOf (some (i64.wrap (a*d)))).toNat (List.drop (Ev.loOf (some (i64.wrap (a*d)))).toNat e)) (fun b7=>bif b7 then (a9 q m n f o (fun a7=>(a8 (i64.wrap (p+a7)) (1) a0 a1 a2 a3 a4 a5 (fun (a6,g,h,i,j,k,l)=>c (p,u,i64.wrap (a+1),g,h,i,j,k,l,q,m,n,f,o,d,U,e,r,s,t,V,W,X,Y)) (fun (a6,g,h,i,j,k,l)=>c (p,u,i64.wrap (a+1),g,h,i,j,k,l,q,m,n,f,o,d,U,e,r,s,t,V,W,X,Y))))) else (a9 q m n f o (fun a7=>(a8 (i64.wrap (p+a7)) (0) a0 a1 a2 a3 a4 a5 (fun (a6,g,h,i,j,k,l)=>(gK fuel (p,a,u,a,d,0,g,h,i,j,k,l,q,m,n,f,o,d,U,e,r,s,t,V,W,X,Y) (fun (K,L,M,N,O,P,Q,R,S,T,v,w,x,y,z,A,C,D,E,F,G,H,I,J)=>c (K,L,i64.wrap (M+1),N,O,P,Q,R,S,T,v,w,x,y,z,A,C,D,E,F,G,H,I,J)))) (fun (a6,g,h,i,j,k,l)=>(gK fuel (p,a,u,a,d,0,g,h,i,j,k,l,q,m,n,f,o,d,U,e,r,s,t,V,W,X,Y) (fun (K,L,M,N,O,P,Q,R,S,T,v,w,x,y,z,A,C,D,E,F,G,H,I,J)=>c (K,L,i64.wrap (M+1),N,O,P,Q,R,S,T,v,w,x,y,z,A,C,D,E,F,G,H,I,J))))))))))) else none else (gK fuel (p,a,u,a,d,0,a0,a1,a2,a3,a4,a5,q,m,n,f,o,d,U,e,r,s,t,b0,b1,b2,b3) (fun (K,L,M,N,O,P,Q,R,S,T,v,w,x,y,z,A,C,D,E,F,G,H,I,J)=>c (K,L,i64.wrap (M+1),N,O,P,Q,R,S,T,v,w,x,y,z,A,C,D,E,F,G,H,I,J))) else b (a0,a1,a2,a3,a4,a5)
def fX (fuel:Nat) (v:Int×Int×Int×Int×Int×Int×Bool×(List Int)×(List Int)×Int×Int×Int×Bool×Int×Int×Int×(List Int)×Int×Int×(List Int)×Int×Int×(List Int)×(List (Int×Int))) (c:(Int×Int×Int×Int×Int×Int×Bool×(List Int)×(List Int)×Int×Int×Int×Bool×Int×Int×Int×(List Int)×Int×Int×(List Int)×Int×Int×(List Int)×(List (Int×Int)))→Option Ans) (B:(Int×Int×Int×Bool×(List Int)×(List Int)→Option Ans)):Option Ans:=match v with | (p,q,r,s,t,u,w,x,y,z,a,b,d,e,f,g,h,i,j,k,l,m,n,o)=>kZ fuel (av fuel) (ab fuel) (aW fuel) (af fuel) (ct fuel) (bR fuel) (cu fuel) p q r s t u w x y z a b d e f g h i j k l m n o c B
def rU (fuel:Nat) (v:nj) (b:tn):Option Ans:=iter (fX fuel) fuel v b
def kC (fuel:Nat) (i:Nat):Option Ev.Blk:=Ev.look i [(100002,gg fuel)]
def oH (v:nj):Ev.St:=match v with | (p,q,r,s,t,u,w,x,y,z,a,b,d,e,f,g,h,i,j,k,l,m,n,o)=>⟨[(0,.c (.ptr 0 0)),(1,.c (i6 p)),(7,.c (.ptr 3 0)),(8,.c (.ptr 4 0)),(9,.c (.ptr 5 0)),(10,.c (.ptr 6 0)),(27,.c (i6 q)),(28,.c (i6 r))],[(0,.cells 138 (i6 s::.own 1::ctb (.int .u64 t::.int .u64 u::.own 2::.bool w::[]))),(1,.vec 3 (.int .i64) x false),(2,.vec 5 (.int .u8) y true),(3,.cells 24 [i6 z,i6 a,i6 b,.bool d,i6 e]),(4,.cells 29 [i6 f,i6 g,.sl (.int .u8) h]),(5,.cells 29 [i6 i,i6 j,.sl (.int .u8) k]),(6,.cells 240 [i6 l,i6 m,.sl (.int .u8) n,.own 7]),(7,.vec 22 (.pair (.int .i64) (.int .i64)) o true)],8,3⟩
def mA (K:KT):tn:=(fun v=>match v with | (a,b,c,d,e,f)=>K .normal ⟨[],[(0,.cells 138 (i6 a::.own 1::ctb (.int .u64 b::.int .u64 c::.own 2::.bool d::[]))),(1,.vec 3 (.int .i64) e false),(2,.vec 5 (.int .u8) f true)],3,3⟩)
theorem Jp (fuel:Nat) (d:aw) (a:ag) (e:bi) (f:aj) (g:dz) (b:cP) (c:cO) (R:Ev.St→OA) (K:KT) (w x:Int) (y z:Int) (A B:Int) (C:Bool) (D E:LI) (F h i:Int) (j:Bool) (k l m:Int) (n:LI) (o p:Int) (q:LI) (r s:Int) (t:LI) (u:(List (Int×Int))):evalCode tab (jc d a e f g b c) (kC fuel) cm fuel (bodyOf 0 Tryz.f172) (oH (w,x,y,z,A,B,C,D,E,F,h,i,j,k,l,m,n,o,p,q,r,s,t,u)) (lc cm 4 0 R K)=kZ fuel d a e f g b c w x y z A B C D E F h i j k l m n o p q r s t u (fun v=>R (oH v)) (mA K):=by
  kernel_rfl
def lW (fuel:Nat):Ev.Blk:=fun st K=>match canonO (cm 4) st with | some s=>(match s with | ⟨[(V,.c (.ptr W X)),(Y,.c (i6 a0)),(a1,.c (.ptr a2 a3)),(a4,.c (.ptr a5 a6)),(a,.c (.ptr b d)),(e,.c (.ptr f g)),(h,.c (i6 a7)),(i,.c (i6 a8))],[(j,.cells k l),(m,.vec n (.int .i64) a9 false),(o,.vec p (.int .u8) b0 true),(q,.cells r [i6 b1,i6 t,i6 u,.bool v,i6 w]),(x,.cells y [i6 z,i6 A,.sl (.int .u8) B]),(C,.cells D [i6 E,i6 F,.sl (.int .u8) G]),(H,.cells I [i6 J,i6 L,.sl (.int .u8) M,.own N]),(O,.vec P (.pair (.int .i64) (.int .i64)) Q true)],R,S⟩=>(match splitRun 2 ctn l with | some ([i6 b2,.own T],[.int .u64 b3,.int .u64 b4,.own U,.bool b5])=>bif qb [V,W,X,Y,a1,a2,a3,a4,a5,a6,a,b,d,e,f,g,h,i,j,k,m,n,o,p,q,r,x,y,C,D,H,I,N,O,P,R,S,T,U] [0,0,0,1,7,3,0,8,4,0,9,5,0,10,6,0,27,28,0,138,1,3,2,5,3,24,4,29,5,29,6,240,7,7,22,8,3,1,2] then iter (fX fuel) fuel (a0,a7,a8,b2,b3,b4,b5,a9,b0,b1,t,u,v,w,z,A,B,E,F,G,J,L,M,Q) (mA K) else none | _=>none) | _=>none) | none=>none
theorem Cz (fuel:Nat) (st:Ev.St) (K:KT) (r:Ans) (h:lW fuel st K=some r):evalCode tab (tT fuel) (kC fuel) cm fuel (.block 0 (.loop (bodyOf 0 Tryz.f172))) st K=some r:=by
  unfold lW at h
  split at h
  · rename_i s hs
    split at h
    · skip
      split at h
      rotate_left 1
      · cases h
      rename_i hsp
      have esp:=splitRun_eq hsp
      subst esp
      obtain ⟨hb,h⟩:=cond_some' h
      cases qb_eq hb
      exact blk_loop (S:=oH) (ks:=mA) (step:=fX fuel) (v:=(_,_,_,_,_,_,_,_,_,_,_,_,_,_,_,_,_,_,_,_,_,_,_,_)) (by kernel_rfl) (by kernel_rfl) (fun R K v=>by obtain ⟨p,q,t,u,w,x,y,z,A,B,a,b,c,d,e,f,g,i,j,k,l,m,n,o⟩:=v; exact Jp fuel (av fuel) (ab fuel) (aW fuel) (af fuel) (ct fuel) (bR fuel) (cu fuel) R K p q t u w x y z A B a b c d e f g i j k l m n o) hs h
    · cases h
  · cases h
def Cf (fuel:Nat) (i:Nat):Option Ev.Blk:=Ev.look i [(100002,gg fuel),(100000,lW fuel)]
def sY (fuel:Nat) (F:aw) (C:ag) (i:bi) (G:aj) (H:dz) (D:cP) (E:cO) (A b:Int) (c d:Int) (e:Bool) (f g a:Int) (h:LI) (B s:Int) (t:LI) (u v w:Int) (x:Bool) (y z:LI) (k0:(Int×Int×Int×Bool×LI×LI)→OA):OA:=(i b c d e f g a (fun (j,k,I,l)=>(rU fuel (A,a,0,u,v,w,x,y,z,b,c,d,e,f,g,a,h,B,s,t,j,k,h,l) (fun (m,n,o,p,q,r)=>k0 (m,n,o,p,q,r)))))
abbrev iK:Type:=Int→Int→Int→Int→Bool→Int→Int→Int→LI→Int→Int→LI→Int→Int→Int→Bool→LI→LI→((Int×Int×Int×Bool×LI×LI)→Option Ans)→Option Ans
def fI (fuel:Nat):iK:=sY fuel (av fuel) (ab fuel) (aW fuel) (af fuel) (ct fuel) (bR fuel) (cu fuel)
theorem EA (fuel:Nat) (e:aw) (a:ag) (f:bi) (g:aj) (h:dz) (b:cP) (d:cO) (s t:Int) (u v:Int) (w:Bool) (x y z:Int) (A:LI) (B i:Int) (j:LI) (l m n:Int) (o:Bool) (p q:LI) (k:Ev.Cont):evalFn tab (jc e a f g h b d) (Cf fuel) cm fuel Tryz.f172 [.c (.ptr 0 0),.c (i6 s),.agg [i6 t,i6 u,i6 v,.bool w,i6 x],.agg [i6 y,i6 z,.sl (.int .u8) A],.agg [i6 B,i6 i,.sl (.int .u8) j]] [.cells 138 (i6 l::.own 1::ctb (.int .u64 m::.int .u64 n::.own 2::.bool o::[])),.vec 3 (.int .i64) p false,.vec 5 (.int .u8) q false] k=sY fuel e a f g h b d s t u v w x y z A B i j l m n o p q (fun r=>match r with | (C,D,E,F,G,H)=>k (.tup [],[.cells 138 (i6 C::.own 1::ctb (.int .u64 D::.int .u64 E::.own 2::.bool F::[])),.vec 3 (.int .i64) G false,.vec 5 (.int .u8) H true])):=by
  kernel_rfl
theorem ps (fuel:Nat):GOK Tryz.prog (tT fuel):=
  gc (kA fuel) Tryz.func129 (by kernel_rfl) rfl <|
  gc (di fuel) Tryz.func132 (by kernel_rfl) rfl <|
  gc (yl fuel) Tryz.func183 (by kernel_rfl) rfl <|
  gc (gm fuel) Tryz.func195 (by kernel_rfl) rfl <|
  gc (Hu fuel) Tryz.func196 (by kernel_rfl) rfl <|
  gc (Bf fuel) Tryz.func197 (by kernel_rfl) rfl <|
  gc (JC fuel) Tryz.func198 (by kernel_rfl) rfl <|
  gok_nil
theorem FR (fuel:Nat):BlkOK Tryz.prog Tryz.f172.ntmps (.block 2 (.loop (bodyOf 2 Tryz.f172))) (gg fuel):=bo0 (ps fuel) (by kernel_rfl) (by kernel_rfl) (CV fuel)
theorem DV (fuel:Nat):BlkOK Tryz.prog Tryz.f172.ntmps (.block 0 (.loop (bodyOf 0 Tryz.f172))) (lW fuel):=
  blk_of (blk_of_code tab_ok (ps fuel) mixed (J:=kC fuel) (kp:=cm) (fuel:=fuel) (by kernel_rfl) (fun q hq=>by
    rw [(by kernel_rfl:obl (kC fuel) (.block 0 (.loop (bodyOf 0 Tryz.f172)))= [(.block 2 (.loop (bodyOf 2 Tryz.f172)),gg fuel)])] at hq
    simp only [List.mem_cons,List.not_mem_nil,or_false] at hq
    subst hq
    · exact FR fuel)) (Cz fuel)
def rC (F:iK):Ev.Spec:=fun args objs k=>match args,objs with | [.c (.ptr l m),.c (i6 n),.agg [i6 o,i6 p,i6 q,.bool s,i6 t],.agg [i6 u,i6 v,.sl (.int .u8) w],.agg [i6 x,i6 a,.sl (.int .u8) b]],[.cells y d,.vec z (.int .i64) e false,.vec A (.int .u8) f false]=>(match splitRun 2 ctn d with | some ([i6 g,.own B],[.int .u64 h,.int .u64 i,.own C,.bool j])=>bif qb [l,m,y,z,A,B,C] [0,0,138,3,5,1,2] then F n o p q s t u v w x a b g h i j e f (fun r=>match r with | (D,E,G,H,I,J)=>k (.tup [],[.cells 138 (i6 D::.own 1::ctb (.int .u64 E::.int .u64 G::.own 2::.bool H::[])),.vec 3 (.int .i64) I false,.vec 5 (.int .u8) J true])) else none | _=>none) | _,_=>none
theorem CO (fuel:Nat):FnOK Tryz.prog 172 (rC (fI fuel)):=by
  intro args objs kk r h
  unfold rC at h
  split at h
  · skip
    split at h
    rotate_left 1
    · cases h
    rename_i hsp
    have esp:=splitRun_eq hsp
    subst esp
    obtain ⟨hb,h⟩:=cond_some' h
    cases qb_eq hb
    exact fo1 (ps fuel) Tryz.func172 rfl (DV fuel) (by kernel_rfl) _ _ kk r ((EA fuel (av fuel) (ab fuel) (aW fuel) (af fuel) (ct fuel) (bR fuel) (cu fuel) _ _ _ _ _ _ _ _ _ _ _ _ _ _ _ _ _ _ kk).trans h)
  · cases h
def FE (i:Nat):Option (List Nat):=Ev.look i [(200009,[7,8,9]),(600000,[])]
def xx (c:az) (i:ao) (d:aU) (a:ag) (e:iU) (g:bc) (h:bX) (b:iK) (f:Nat):Option Ev.Spec:=Ev.look f [(35,eG c),(90,dH i),(128,fw d),(132,cS a),(169,rJ e),(170,hZ g),(171,ld h),(172,rC b)]
def Cs (fuel:Nat):Nat→Option Ev.Spec:=xx (ak fuel) (ai fuel) (aE fuel) (ab fuel) (eQ fuel) (aK fuel) (bO fuel) (fI fuel)
def oQ (fuel:Nat) (P:az) (x:ao) (Q:aU) (U:ag) (R:iU) (S:bc) (T:bX) (O:iK) (y l:Int) (m n:Int) (o:Bool) (p i j:Int) (q:LI) (k g:Int) (h:LI) (V W X:Int) (Y:Bool) (a0 a1:LI) (k0:(Int×Int×Int×Int×Bool×LI×LI)→OA) (k1:(Int×Int×Int×Int×Bool×LI×LI)→OA):OA:=(U ((-1:Int)) (0) V W X Y a0 a1 (fun (H,a,b,c,d,e,f)=>bif H==7 then k0 (7,a,b,c,d,e,f) else (Q l m n o p (fun N=>bif !N then k0 (2,a,b,c,d,e,f) else (x i j q (fun I=>bif !I then k0 (30,a,b,c,d,e,f) else (x k g h (fun J=>bif !J then k0 (30,a,b,c,d,e,f) else (R i j q k g h (fun K=>bif K then k0 (30,a,b,c,d,e,f) else (S k g h i j (fun L=>bif !L then k0 (2,a,b,c,d,e,f) else (P a b c d e f (fun (z,r,s,t,u,v,w,A)=>(T z A y l m n o p (fun M=>bif !M then k0 (2,r,s,t,u,v,w) else (O y l m n o p i j q k g h r s t u v w (fun (B,C,D,E,F,G)=>k1 (0,B,C,D,E,F,G)))))))))))))))))) (fun (H,a,b,c,d,e,f)=>bif H==7 then k1 (7,a,b,c,d,e,f) else (Q l m n o p (fun N=>bif !N then k1 (2,a,b,c,d,e,f) else (x i j q (fun I=>bif !I then k1 (30,a,b,c,d,e,f) else (x k g h (fun J=>bif !J then k1 (30,a,b,c,d,e,f) else (R i j q k g h (fun K=>bif K then k1 (30,a,b,c,d,e,f) else (S k g h i j (fun L=>bif !L then k1 (2,a,b,c,d,e,f) else (P a b c d e f (fun (z,r,s,t,u,v,w,A)=>(T z A y l m n o p (fun M=>bif !M then k1 (2,r,s,t,u,v,w) else (O y l m n o p i j q k g h r s t u v w (fun (B,C,D,E,F,G)=>k1 (0,B,C,D,E,F,G)))))))))))))))))))
abbrev li:Type:=Int→Int→Int→Int→Bool→Int→Int→Int→LI→Int→Int→LI→Int→Int→Int→Bool→LI→LI→((Int×Int×Int×Int×Bool×LI×LI)→Option Ans)→((Int×Int×Int×Int×Bool×LI×LI)→Option Ans)→Option Ans
def dM (fuel:Nat):li:=oQ fuel (ak fuel) (ai fuel) (aE fuel) (ab fuel) (eQ fuel) (aK fuel) (bO fuel) (fI fuel)
theorem Im (fuel:Nat) (l:az) (q:ao) (m:aU) (i:ag) (n:iU) (o:bc) (p:bX) (j:iK) (A B:Int) (C D:Int) (E:Bool) (F G H:Int) (I:LI) (J s:Int) (t:LI) (u v w:Int) (x:Bool) (y z:LI) (k:Ev.Cont):evalFn tab (xx l q m i n o p j) J0 FE fuel Tryz.f133 [.c (.ptr 0 0),.c (i6 A),.agg [i6 B,i6 C,i6 D,.bool E,i6 F],.agg [i6 G,i6 H,.sl (.int .u8) I],.agg [i6 J,i6 s,.sl (.int .u8) t]] [.cells 138 (i6 u::.own 1::ctb (.int .u64 v::.int .u64 w::.own 2::.bool x::[])),.vec 3 (.int .i64) y false,.vec 5 (.int .u8) z false] k=oQ fuel l q m i n o p j A B C D E F G H I J s t u v w x y z (fun r=>match r with | (a,b,d,e,f,g,h)=>k (.c (i6 a),[.cells 138 (i6 b::.own 1::ctb (.int .u64 d::.int .u64 e::.own 2::.bool f::[])),.vec 3 (.int .i64) g false,.vec 5 (.int .u8) h false])) (fun r=>match r with | (a,b,d,e,f,g,h)=>k (.c (i6 a),[.cells 138 (i6 b::.own 1::ctb (.int .u64 d::.int .u64 e::.own 2::.bool f::[])),.vec 3 (.int .i64) g false,.vec 5 (.int .u8) h true])):=by
  kernel_rfl
theorem AW (fuel:Nat):GOK Tryz.prog (Cs fuel):=
  gc (gd fuel) Tryz.func35 (by kernel_rfl) rfl <|
  gc (gG fuel) Tryz.func90 (by kernel_rfl) rfl <|
  gc (lQ fuel) Tryz.func128 (by kernel_rfl) rfl <|
  gc (di fuel) Tryz.func132 (by kernel_rfl) rfl <|
  gc (Hp fuel) Tryz.func169 (by kernel_rfl) rfl <|
  gc (sT fuel) Tryz.func170 (by kernel_rfl) rfl <|
  gc (yv fuel) Tryz.func171 (by kernel_rfl) rfl <|
  gc (CO fuel) Tryz.func172 (by kernel_rfl) rfl <|
  gok_nil
def rA (F:li):Ev.Spec:=fun args objs k=>match args,objs with | [.c (.ptr t u),.c (i6 v),.agg [i6 w,i6 x,i6 y,.bool z,i6 A],.agg [i6 B,i6 C,.sl (.int .u8) D],.agg [i6 E,i6 i,.sl (.int .u8) j]],[.cells G l,.vec H (.int .i64) m false,.vec I (.int .u8) n false]=>(match splitRun 2 ctn l with | some ([i6 o,.own J],[.int .u64 p,.int .u64 q,.own K,.bool s])=>bif qb [t,u,G,H,I,J,K] [0,0,138,3,5,1,2] then F v w x y z A B C D E i j o p q s m n (fun r=>match r with | (a,b,d,e,f,g,h)=>k (.c (i6 a),[.cells 138 (i6 b::.own 1::ctb (.int .u64 d::.int .u64 e::.own 2::.bool f::[])),.vec 3 (.int .i64) g false,.vec 5 (.int .u8) h false])) (fun r=>match r with | (a,b,d,e,f,g,h)=>k (.c (i6 a),[.cells 138 (i6 b::.own 1::ctb (.int .u64 d::.int .u64 e::.own 2::.bool f::[])),.vec 3 (.int .i64) g false,.vec 5 (.int .u8) h true])) else none | _=>none) | _,_=>none
theorem H3 (fuel:Nat):FnOK Tryz.prog 133 (rA (dM fuel)):=by
  intro args objs kk r h
  unfold rA at h
  split at h
  · skip
    split at h
    rotate_left 1
    · cases h
    rename_i hsp
    have esp:=splitRun_eq hsp
    subst esp
    obtain ⟨hb,h⟩:=cond_some' h
    cases qb_eq hb
    exact fo0 (AW fuel) Tryz.func133 rfl (by kernel_rfl) _ _ kk r ((Im fuel (ak fuel) (ai fuel) (aE fuel) (ab fuel) (eQ fuel) (aK fuel) (bO fuel) (fI fuel) _ _ _ _ _ _ _ _ _ _ _ _ _ _ _ _ _ _ kk).trans h)
  · cases h
def HH (i:Nat):Option (List Nat):=Ev.look i []
def Ds (f:Nat):Option Ev.Spec:=Ev.look f []
def yL (fuel:Nat):Nat→Option Ev.Spec:=Ds
def bC (fuel:Nat) (b c d:Int) (e:Bool) (f g h:Int) (i:(List Int)) (j k:Int) (a:(List Int)) (k0:(Int×Int×Int×Bool×Int×Int×Int×(List Int)×Int×Int×(List Int))→Option Ans):Option Ans:=k0 (b,c,d,e,f,g,h,i,j,k,a)
abbrev ej:Type:=Int→Int→Int→Bool→Int→Int→Int→LI→Int→Int→LI→((Int×Int×Int×Bool×Int×Int×Int×LI×Int×Int×LI)→Option Ans)→Option Ans
theorem Bc (fuel:Nat) (b d e:Int) (f:Bool) (g h i:Int) (j:LI) (l m:Int) (a:LI) (k:Ev.Cont):evalFn tab (yL fuel) J0 HH fuel Tryz.f175 [.agg [i6 b,i6 d,i6 e,.bool f,i6 g],.c (i6 h),.c (i6 i),.c (.sl (.int .u8) j),.agg [i6 l,i6 m,.sl (.int .u8) a]] [] k=bC fuel b d e f g h i j l m a (fun r=>match r with | (o,p,q,s,t,u,v,w,x,y,n)=>k (.c (.ptr 0 0),[.cells 230 [i6 o,i6 p,i6 q,.bool s,i6 t,i6 u,i6 v,.sl (.int .u8) w,i6 x,i6 y,.sl (.int .u8) n]])):=by
  kernel_rfl
theorem Ay (fuel:Nat):GOK Tryz.prog (yL fuel):=
  gok_nil
def qM (F:ej):Ev.Spec:=fun args objs k=>match args,objs with | [.agg [i6 d,i6 e,i6 f,.bool g,i6 h],.c (i6 i),.c (i6 j),.c (.sl (.int .u8) l),.agg [i6 m,i6 n,.sl (.int .u8) a]],[]=>F d e f g h i j l m n a (fun r=>match r with | (o,p,q,s,t,u,v,w,x,y,b)=>k (.c (.ptr 0 0),[.cells 230 [i6 o,i6 p,i6 q,.bool s,i6 t,i6 u,i6 v,.sl (.int .u8) w,i6 x,i6 y,.sl (.int .u8) b]])) | _,_=>none
theorem Dd (fuel:Nat):FnOK Tryz.prog 175 (qM (bC fuel)):=by
  intro args objs kk r h
  unfold qM at h
  split at h
  · skip
    exact fo0 (Ay fuel) Tryz.func175 rfl (by kernel_rfl) _ _ kk r ((Bc fuel _ _ _ _ _ _ _ _ _ _ _ kk).trans h)
  · cases h
end
end Go.Proofs.YtohnjbmiaegofaaGreat

