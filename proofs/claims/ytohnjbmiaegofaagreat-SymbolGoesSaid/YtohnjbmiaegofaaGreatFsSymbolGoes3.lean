/- What the functions that SymbolGoes reaches do: their typed texts, each with the proof that the machine does it. No condition. -/
import Derived.Test.YtohnjbmiaegofaaGreatEvX
import Derived.Test.YtohnjbmiaegofaaGreatFsSymbolGoes2
import Derived.Test.YtohnjbmiaegofaaGreatFsSymbolGoes1
import Derived.Test.YtohnjbmiaegofaaGreatEvY
import Derived.Test.YtohnjbmiaegofaaGreatEvU
set_option linter.unusedVariables false
set_option linter.unusedSimpArgs false
set_option linter.unusedSectionVars false
set_option linter.unusedVariables false
set_option linter.unusedSimpArgs false
set_option maxRecDepth 100000
set_option maxHeartbeats 2000000
namespace Go.Proofs.YtohnjbmiaegofaaGreat
open Go Ev Tryz
open Go.IntKind (i64 u64 u8 i32 u32 u16)
noncomputable section
def kz (i:Nat):Option (List Nat):=Ev.look i [(11,[0,1,2,11,38,39]),(100000,[2,11]),(400000,[6,7])]
def xP (b:ao) (c:bo) (a:ad) (f:Nat):Option Ev.Spec:=Ev.look f [(40,fT b),(138,iu c),(143,cZ a)]
def zr (Z:Nat):Nat→Option Ev.Spec:=xP (ak Z) (au Z) (aa Z)
abbrev yi:Type:=Int×Int×Int×Int×Int×Int×Int×Int×Int×Int×Int×Bool×Bool×LI×LI
abbrev BN:Type:=(Int×Int×Int×Int×Int×Int×Int×Int×Bool×Bool×LI×LI→OA)×(Int×Int×Int×Int×Int×Int×Int×Int×Bool×Bool×LI×LI→OA)
def mn (Z:Nat) (F:ao) (G:bo) (D:ad) (t u:Int) (a v:Int) (w x:Int) (y z:Int) (A C o:Int) (p q:Bool) (r s:LI) (c:yi→OA) (B:BN):OA:=match B with | (ret,b)=>bif decide (w < v) then (D (i64.wrap (i64.wrap (t+a) - 1)) x y z A C o p q r s (fun (E,f,g,h,i,j,k,l,m,n,d,e)=>bif f != 0 then ret (0,f,g,h,i,j,k,l,m,n,d,e) else c (t,u,i64.wrap (i64.wrap (2*a)+E),v,i64.wrap (w+1),g,h,i,j,k,l,m,n,d,e))) else b (u,a,x,y,z,A,C,o,p,q,r,s)
def gA (Z:Nat) (v:Int×Int×Int×Int×Int×Int×Int×Int×Int×Int×Int×Bool×Bool×LI×LI) (c:(Int×Int×Int×Int×Int×Int×Int×Int×Int×Int×Int×Bool×Bool×LI×LI)→OA) (B:(Int×Int×Int×Int×Int×Int×Int×Int×Bool×Bool×LI×LI→OA)×(Int×Int×Int×Int×Int×Int×Int×Int×Bool×Bool×LI×LI→OA)):OA:=match v with | (g,h,i,j,k,l,m,n,o,p,a,b,d,e,f)=>mn Z (ak Z) (au Z) (aa Z) g h i j k l m n o p a b d e f c B
def AI (Z:Nat) (v:yi) (ret:(Int×Int×Int×Int×Int×Int×Int×Int×Bool×Bool×LI×LI→OA)) (b:(Int×Int×Int×Int×Int×Int×Int×Int×Bool×Bool×LI×LI→OA)):OA:=iter (gA Z) Z v (ret,b)
def yC (v:yi):Ev.St:=match v with | (g,h,i,j,k,l,m,n,o,p,a,b,d,e,f)=>⟨[(0,.c (.ptr 0 0)),(1,.c (i6 g)),(2,.c (i6 h)),(11,.c (i6 i)),(38,.c (i6 j)),(39,.c (i6 k))],[(0,.cells 147 (i6 l::.own 1::ctb (.int .u64 m::.int .u64 n::.own 2::i6 o::.int .u64 p::i6 a::.bool b::.bool d::[]))),(1,.vec 3 ti e false),(2,.vec 5 (.int .u8) f false)],3,3⟩
def wN (K:KT):BN:=((fun v=>match v with | (d,e,f,g,h,i,j,k,l,m,a,b)=>K .ret ⟨[(6,.c (i6 d)),(7,.c (i6 e))],[(0,.cells 147 (i6 f::.own 1::ctb (.int .u64 g::.int .u64 h::.own 2::i6 i::.int .u64 j::i6 k::.bool l::.bool m::[]))),(1,.vec 3 ti a false),(2,.vec 5 (.int .u8) b false)],3,3⟩),(fun v=>match v with | (d,e,f,g,h,i,j,k,l,m,a,b)=>K .normal ⟨[(2,.c (i6 d)),(11,.c (i6 e))],[(0,.cells 147 (i6 f::.own 1::ctb (.int .u64 g::.int .u64 h::.own 2::i6 i::.int .u64 j::i6 k::.bool l::.bool m::[]))),(1,.vec 3 ti a false),(2,.vec 5 (.int .u8) b false)],3,3⟩))
theorem Nh (Z:Nat) (b:ao) (c:bo) (a:ad) (R:Ev.St→OA) (K:KT) (i j:Int) (k l:Int) (m n:Int) (o p:Int) (q r d:Int) (e f:Bool) (g h:LI):evalCode tab (xP b c a) J0 kz Z (bodyOf 0 Tryz.f145) (yC (i,j,k,l,m,n,o,p,q,r,d,e,f,g,h)) (lc kz 11 0 R K)=mn Z b c a i j k l m n o p q r d e f g h (fun v=>R (yC v)) (wN K):=by
 kernel_rfl
def oj (Z:Nat):Ev.Blk:=fun st K=>match canonO (kz 11) st with | some s=>(match s with | ⟨[(p,.c (.ptr q r)),(t,.c (i6 u)),(v,.c (i6 w)),(x,.c (i6 y)),(z,.c (i6 A)),(B,.c (i6 C))],[(D,.cells E a),(b,.vec d ti e false),(f,.vec g (.int .u8) h false)],i,j⟩=>(match splitRun 2 ctn a with | some ([i6 F,.own k],[.int .u64 G,.int .u64 H,.own l,i6 I,.int .u64 J,i6 m,.bool n,.bool o])=>bif qb [p,q,r,t,v,x,z,B,D,E,b,d,f,g,i,j,k,l] [0,0,0,1,2,11,38,39,0,147,1,3,2,5,3,3,1,2] then iter (gA Z) Z (u,w,y,A,C,F,G,H,I,J,m,n,o,e,h) (wN K) else none | _=>none) | _=>none) | none=>none
theorem HO (Z:Nat) (st:Ev.St) (K:KT) (r:Ans) (h:oj Z st K=some r):evalCode tab (zr Z) J0 kz Z (.block 0 (.loop (bodyOf 0 Tryz.f145))) st K=some r:=by
 unfold oj at h
 split at h
 ·rename_i s hs
  split at h
  ·skip
   split at h
   rotate_left 1
   ·cases h
   rename_i hsp
   have esp:=splitRun_eq hsp
   subst esp
   obtain ⟨hb,h⟩:=cond_some' h
   cases qb_eq hb
   exact blk_loop (S:=yC) (ks:=wN) (step:=gA Z) (v:=(_,_,_,_,_,_,_,_,_,_,_,_,_,_,_)) kr kr (fun R K v=>by obtain ⟨f,g,i,j,k,l,m,n,o,p,a,b,c,d,e⟩:=v; exact Nh Z (ak Z) (au Z) (aa Z) R K f g i j k l m n o p a b c d e) hs h
  ·cases h
 ·cases h
def PA (Z:Nat) (i:Nat):Option Ev.Blk:=Ev.look i [(100000,oj Z)]
def xv (Z:Nat) (A:ao) (F:bo) (z:ad) (y a:Int) (R S:Int) (T U:Int) (V W:Int) (X Y:Bool) (P Q:LI) (k0:(Int×Int×Int×Int×Int×Int×Int×Int×Bool×Bool×LI×LI)→OA):OA:=(z ((-1:Int)) R S T U V W X Y P Q (fun (a0,v,d,e,f,g,h,i,j,k,b,c)=>bif v==7 then k0 (0,v,d,e,f,g,h,i,j,k,b,c) else bif decide (a < 0) then k0 (0,2,d,e,f,g,h,i,j,k,b,c) else bif decide (a > 10) then k0 (0,2,d,e,f,g,h,i,j,k,b,c) else bif decide (a < 0) then none else (A d e f g h i j k b c (fun (C,m,n,o,p,q,r,s,t,u,l,B)=>(F C B y (i64.wrap (Ev.ishl IntKind.i64 1 a - 1)) (fun x=>bif x != 0 then k0 (0,x,m,n,o,p,q,r,s,t,u,l) else (AI Z (y,a,1,a,0,m,n,o,p,q,r,s,t,u,l) (fun (ret0_0,ret0_1,ret0_2,ret0_3,ret0_4,ret0_5,ret0_6,ret0_7,ret0_8,ret0_9,ret0_10,ret0_11)=>k0 (ret0_0,ret0_1,ret0_2,ret0_3,ret0_4,ret0_5,ret0_6,ret0_7,ret0_8,ret0_9,ret0_10,ret0_11)) (fun (w,G,H,I,J,K,L,M,N,O,D,E)=>bif decide (w < 0) then none else k0 (i64.wrap (G - Ev.ishl IntKind.i64 1 w),0,H,I,J,K,L,M,N,O,D,E)))))))))
abbrev lw:Type:=Int→Int→Int→Int→Int→Int→Int→Int→Bool→Bool→LI→LI→((Int×Int×Int×Int×Int×Int×Int×Int×Bool×Bool×LI×LI)→OA)→OA
def iq (Z:Nat):lw:=xv Z (ak Z) (au Z) (aa Z)
theorem Hc (Z:Nat) (b:ao) (d:bo) (a:ad) (g h:Int) (i j:Int) (l m:Int) (n o:Int) (p q:Bool) (e f:LI) (k:Ev.Cont):evalFn tab (xP b d a) (PA Z) kz Z Tryz.f145 [.c (.ptr 0 0),.c (i6 g),.c (i6 h)] [.cells 147 (i6 i::.own 1::ctb (.int .u64 j::.int .u64 l::.own 2::i6 m::.int .u64 n::i6 o::.bool p::.bool q::[])),.vec 3 ti e false,.vec 5 (.int .u8) f false] k=xv Z b d a g h i j l m n o p q e f (fun r=>match r with | (u,v,w,x,y,z,A,B,C,D,s,t)=>k (.tup [(false,[i6 u]),(false,[i6 v])],[.cells 147 (i6 w::.own 1::ctb (.int .u64 x::.int .u64 y::.own 2::i6 z::.int .u64 A::i6 B::.bool C::.bool D::[])),.vec 3 ti s false,.vec 5 (.int .u8) t false])):=by
 kernel_rfl
theorem CH (Z:Nat):GOK prog (zr Z):=
 gc (iz Z) func40 kr rfl <|
 gc (nu Z) func138 kr rfl <|
 gc (dk Z) func143 kr rfl <|
 gok_nil
theorem Gm (Z:Nat):BlkOK prog Tryz.f145.ntmps (.block 0 (.loop (bodyOf 0 Tryz.f145))) (oj Z):=bo0 (CH Z) kr kr (HO Z)
def qd (F:lw):Ev.Spec:=fun args objs k=>match args,objs with | [.c (.ptr g h),.c (i6 i),.c (i6 j)],[.cells l a,.vec m ti b false,.vec n (.int .u8) d false]=>(match splitRun 2 ctn a with | some ([i6 o,.own p],[.int .u64 q,.int .u64 s,.own t,i6 u,.int .u64 v,i6 w,.bool x,.bool y])=>bif qb [g,h,l,m,n,p,t] [0,0,147,3,5,1,2] then F i j o q s u v w x y b d (fun r=>match r with | (z,A,B,C,D,E,G,H,I,J,e,f)=>k (.tup [(false,[i6 z]),(false,[i6 A])],[.cells 147 (i6 B::.own 1::ctb (.int .u64 C::.int .u64 D::.own 2::i6 E::.int .u64 G::i6 H::.bool I::.bool J::[])),.vec 3 ti e false,.vec 5 (.int .u8) f false])) else none | _=>none) | _,_=>none
def ur (Z:Nat):Ev.Spec:=qd (iq Z)
theorem Ei (Z:Nat):FnOK prog 145 (ur Z):=by
 intro args objs kk r h
 unfold ur qd at h
 split at h
 ·skip
  split at h
  rotate_left 1
  ·cases h
  rename_i hsp
  have esp:=splitRun_eq hsp
  subst esp
  obtain ⟨hb,h⟩:=cond_some' h
  cases qb_eq hb
  exact fo1 (CH Z) func145 rfl (Gm Z) kr _ _ kk r ((Hc Z (ak Z) (au Z) (aa Z) _ _ _ _ _ _ _ _ _ _ _ _ kk).trans h)
 ·cases h
def Bi:List (Nat×Func):=[(9,Tryz.f9),(10,Tryz.f10),(11,Tryz.f11),(12,Tryz.f12),(13,Tryz.f13),(15,Tryz.f15),(17,Tryz.f17),(24,Tryz.f24),(25,Tryz.f25),(26,Tryz.f26),(27,Tryz.f27),(28,Tryz.f28),(29,Tryz.f29),(30,Tryz.f30),(31,Tryz.f31),(32,Tryz.f32),(34,Tryz.f34),(36,Tryz.f36),(37,Tryz.f37),(38,Tryz.f38),(39,Tryz.f39),(41,Tryz.f41),(43,Tryz.f43),(70,Tryz.f70),(72,Tryz.f72),(74,Tryz.f74),(75,Tryz.f75),(78,Tryz.f78),(79,Tryz.f79),(82,Tryz.f82),(85,Tryz.f85),(86,Tryz.f86),(87,Tryz.f87),(89,Tryz.f89),(90,Tryz.f90),(126,Tryz.f126),(128,Tryz.f128),(129,Tryz.f129),(130,Tryz.f130),(133,Tryz.f133),(135,Tryz.f135),(136,Tryz.f136),(142,Tryz.f142),(144,Tryz.f144),(146,Tryz.f146),(147,Tryz.f147),(163,Tryz.f163),(164,Tryz.f164),(169,Tryz.f169),(170,Tryz.f170),(171,Tryz.f171),(172,Tryz.f172),(173,Tryz.f173),(174,Tryz.f174),(175,Tryz.f175),(176,Tryz.f176),(177,Tryz.f177),(178,Tryz.f178),(179,Tryz.f179),(182,Tryz.f182),(183,Tryz.f183),(184,Tryz.f184),(185,Tryz.f185),(195,Tryz.f195),(196,Tryz.f196),(197,Tryz.f197),(198,Tryz.f198),(199,Tryz.f199),(200,Tryz.f200),(203,Tryz.f203),(1000175,Tryz.f175)]
def ID:List (Nat×List (Nat×List Nat)):=[(11,[(200010,[14]),(200013,[14]),(900010,[3,4,11,14,15,17]),(900013,[10,11,12])]),(12,[(10,[2,3,12,15,16,18,19]),(100000,[2,3,12,15,16,18]),(200008,[15]),(200016,[18]),(200017,[15,18]),(400000,[10,11,12,13]),(900008,[2,3,12,15,16,18]),(900016,[10,11,12,13]),(900017,[10,11,12,13])]),(13,[(4,[0,1,5]),(100000,[]),(200006,[0,1]),(400000,[4]),(900006,[0,1,5,41])]),(17,[(4,[0,1,5]),(100000,[]),(200006,[0,1]),(400000,[4]),(900006,[0,1,5,25])]),(26,[(2,[0,1,9,10,11]),(8,[0,1,20,21,22]),(100000,[0,1]),(100002,[0,1]),(200010,[1,8]),(400000,[4]),(400002,[4]),(900010,[0,1,20,21,22,55])]),(27,[(200001,[2]),(900001,[2,4,5])]),(28,[(600000,[])]),(29,[(200002,[2,3,5]),(900002,[4,5])]),(31,[(1,[0,1,4,1000002,1000004]),(6,[0,1,4,5,6,1000002]),(100000,[]),(100002,[0,1,4]),(400000,[]),(400002,[])]),(32,[(1,[0,1,4,1000004]),(4,[0,1,4,5]),(100000,[]),(100002,[0,1,4,5]),(400000,[]),(400002,[])]),(34,[(200001,[2,3]),(900001,[4])]),(36,[(5,[6,17]),(100000,[6]),(400000,[4,5]),(600000,[])]),(38,[(3,[0,1,4,5,1000002,1000003]),(100000,[]),(400000,[1000002,1000003]),(900008,[0,1,4,44])]),(39,[(3,[0,1,5,6]),(10,[0,1,5,6,36,37]),(100000,[5]),(100002,[0,1,5,6]),(400000,[4]),(400002,[4])]),(79,[(200003,[0,3]),(200005,[0,3]),(200008,[0,3]),(200009,[3]),(600000,[]),(900003,[0,3]),(900005,[0,3]),(900008,[0,3]),(900009,[])]),(87,[(200004,[0]),(200005,[0]),(200006,[6]),(200010,[0]),(200012,[6]),(600000,[]),(900004,[0,6,8]),(900005,[0,1,2,6,8]),(900006,[0,1,2,6,79]),(900010,[0,6,8]),(900012,[])]),(89,[(2,[0,1,7,8]),(100000,[]),(400000,[4])]),(90,[(4,[23,24,25]),(100000,[]),(400000,[2])]),(128,[(200001,[1]),(900001,[1,3,4])]),(133,[(200009,[7,8,9]),(600000,[]),(900009,[0,1,7,8,9,42])]),(135,[(11,[0,1,7,8,11,52,53,1000002]),(20,[0,1,7,8,11,12,13,52,53,75,76,1000002]),(100001,[]),(100003,[0,1,7,8,11,52,53]),(200007,[7]),(400001,[10]),(400003,[10]),(600000,[]),(900007,[0,1,7,8,9,35]),(900024,[0,1,7,8,11,12,13,52,53,75,76])]),(144,[(13,[0,1,3,4,8,11,12,18,66,67]),(100000,[3,4,12,18]),(200009,[8,11]),(400000,[12,13]),(600000,[]),(900009,[0,1,3,4,8,11,12,60])]),(146,[(13,[0,1,3,4,12,18,64,65]),(100000,[3,4,12,18]),(200009,[8]),(200011,[8,11]),(400000,[12,13]),(600000,[]),(900009,[0,1,3,4,8,11,12,53]),(900011,[0,1,3,4,12,18])]),(169,[(2,[2,3,8,9,10]),(100000,[]),(400000,[4])]),(171,[(200001,[3,5]),(900001,[6])]),(172,[(4,[0,1,7,8,9,10,27,28,1000002]),(13,[0,1,7,8,9,10,11,27,28,60,61]),(100000,[]),(100002,[0,1,7,8,9,10,27,28]),(200008,[8,9]),(200017,[8]),(400000,[]),(400002,[]),(900008,[0,1,7,8,9,10,11,12,27,28,49]),(900017,[0,1,7,8,9,10,11,27,28,60,61])]),(174,[(200001,[3,5]),(900001,[6])]),(176,[(2,[0,1,12,13]),(100000,[]),(400000,[4])]),(177,[(3,[0,1,2,8,29]),(100000,[8]),(200001,[0]),(200005,[0]),(400000,[6,7]),(900001,[0,1,2,8]),(900005,[0,1,2,8,29,60])]),(178,[(3,[0,1,2,7,17,18,19]),(8,[0,1,2,7,41,42,43]),(100000,[0,1,2,7]),(100002,[7]),(200005,[0,9]),(200010,[0,11]),(400000,[6]),(400002,[6]),(900005,[0,1,2,7,17,18,19]),(900010,[0,1,2,7,41,42,43])]),(182,[(5,[2,6,8,9,34,35]),(100000,[6,8,9]),(400000,[6,7])]),(183,[(200001,[3]),(900001,[6])]),(184,[(9,[0,1,2,4,11,53,54]),(100000,[]),(200006,[11]),(200011,[0,11]),(200015,[0]),(400000,[12]),(900006,[]),(900011,[0,1,2,4,11,15,53,54,66]),(900015,[0,1,2,4,11,53,54])]),(185,[(8,[0,1,2,3,9,44,45]),(100000,[]),(400000,[8])]),(197,[(3,[0,1,5,7,15,16]),(100000,[7]),(200005,[0,5]),(400000,[6]),(900005,[0,1,5,7,8,15,16,29])]),(198,[(3,[0,1,2,7,13,14,15]),(100000,[7]),(400000,[6])]),(203,[(200003,[0]),(900003,[6])])]
def uP (f i:Nat):Option (List Nat):=match Ev.look f ID with | some l=>Ev.look i l | none=>none
theorem vma_ok {fl:Nat} (hfl:10000≤fl) {kd:Int} {st:List Int} (h:vMa kd st=true) {K:Bool→OA}:aT fl kd st K=K true:=by
 unfold vMa at h
 simp only [Bool.and_eq_true,Bool.or_eq_true,decide_eq_true_eq,List.all_eq_true] at h
 obtain ⟨h1,h2,h3⟩:=h
 have lp:∀ e:Int,(∀ s ∈ st,s < e)→∀ (ret:Bool→OA) (b:Unit→OA),eA fl (e,st,(st.length:Int),0) ret b=b ():=by
  intro e he ret b
  unfold eA
  refine iter_upto (step:=bM fl) (fun i:Nat=>(e,st,(st.length:Int),(i:Int))) st.length (fun i hi c=> ?_) (fun c=> ?_) (by omega)
  ·have hm:st.getD i 0 ∈ st:=by rw [List.getD_eq_getElem?_getD,List.getElem?_eq_getElem hi]; exact List.getElem_mem hi
   have a:=(h3 _ hm).1
   have b:=he _ hm
   simp only [bM]
   rw [decY (show (i:Int) < (st.length:Int) by omega),decY (show (0:Int)≤(i:Int)∧(i:Int) < (st.length:Int) by omega),Int.toNat_natCast,ndecY (show ¬ st.getD i 0 < 0 by omega),ndecY (show ¬ st.getD i 0≥e by omega),wrapY (by omega) (by omega)]
   rfl
  ·simp only [bM]
   rw [ndecY (show ¬ (st.length:Int) < (st.length:Int) by omega)]
 unfold aT
 rcases h1 with rfl | rfl
 ·have e0:((0:Int) != 0)=false:=rfl
  have e1:((0:Int)==1)=false:=rfl
  rw [e0,cond_false,ndecY (show ¬ (st.length:Int) > 8192 by omega),e1,cond_false,lp 64 (fun s hs=>(h3 s hs).2)]
 ·have e0:((1:Int) != 0)=true:=rfl
  have e1:((1:Int) != 1)=false:=rfl
  have e2:((1:Int)==1)=true:=rfl
  rw [e0,cond_true,e1,cond_false,ndecY (show ¬ (st.length:Int) > 8192 by omega),e2,cond_true,lp 65536 (fun s hs=>(h3 s hs).2)]
def spv9:Ev.Spec:=fun args objs k=>match args,objs with | [.agg [.int .i64 kd,.sl ti st]],[]=>bif vMa kd st then k (.c (.bool true),[]) else none | _,_=>none
theorem vmspec9 {kd:Int} {st:List Int} (kk:Ev.Cont) (h:vMa kd st=true):vb 10000 [.agg [.int .i64 kd,.sl ti st]] [] kk=kk (.c (.bool true),[]):=
 vma_ok (fl:=10000) (by omega) h (K:=fun b=>kk (.c (.bool b),[]))
theorem spv9_ok:FnOK prog 71 spv9:=by
 intro args objs kk r h
 unfold spv9 at h
 split at h
 ·obtain ⟨hb,h⟩:=cond_some' h
  exact nK 10000 _ _ kk r ((vmspec9 kk hb).trans h)
 ·cases h
def Ca (f:Nat):Option Ev.Spec:=Ev.look f [(33,yr 100000),(35,u7 100000),(40,tV 100000),(71,spv9),(73,sY 100000),(76,uN 100000),(77,wD 100000),(80,pP 100000),(84,ql 100000),(132,vT 100000),(134,qE 100000),(141,u5 100000),(143,uM 100000),(145,ur 100000)]
theorem Iw:GOK prog Ca:=
 gok_cons ⟨DB 100000,enters_of func33 kr rfl⟩ <|
 gok_cons ⟨ij 100000,enters_of func35 kr rfl⟩ <|
 gok_cons ⟨iz 100000,enters_of func40 kr rfl⟩ <|
 gok_cons ⟨spv9_ok,enters_of func71 kr rfl⟩ <|
 gok_cons ⟨zU 100000,enters_of func73 kr rfl⟩ <|
 gok_cons ⟨yB 100000,enters_of func76 kr rfl⟩ <|
 gok_cons ⟨D9 100000,enters_of func77 kr rfl⟩ <|
 gok_cons ⟨qu 100000,enters_of func80 kr rfl⟩ <|
 gok_cons ⟨yK 100000,enters_of func84 kr rfl⟩ <|
 gok_cons ⟨ef 100000,enters_of func132 kr rfl⟩ <|
 gok_cons ⟨D0 100000,enters_of func134 kr rfl⟩ <|
 gok_cons ⟨zy 100000,enters_of func141 kr rfl⟩ <|
 gok_cons ⟨dk 100000,enters_of func143 kr rfl⟩ <|
 gok_cons ⟨Ei 100000,enters_of func145 kr rfl⟩ <|
 gok_nil
theorem MV:Fns prog Bi:=
 fns_cons func9 <|
 fns_cons func10 <|
 fns_cons func11 <|
 fns_cons func12 <|
 fns_cons func13 <|
 fns_cons func15 <|
 fns_cons func17 <|
 fns_cons func24 <|
 fns_cons func25 <|
 fns_cons func26 <|
 fns_cons func27 <|
 fns_cons func28 <|
 fns_cons func29 <|
 fns_cons func30 <|
 fns_cons func31 <|
 fns_cons func32 <|
 fns_cons func34 <|
 fns_cons func36 <|
 fns_cons func37 <|
 fns_cons func38 <|
 fns_cons func39 <|
 fns_cons func41 <|
 fns_cons func43 <|
 fns_cons func70 <|
 fns_cons func72 <|
 fns_cons func74 <|
 fns_cons func75 <|
 fns_cons func78 <|
 fns_cons func79 <|
 fns_cons func82 <|
 fns_cons func85 <|
 fns_cons func86 <|
 fns_cons func87 <|
 fns_cons func89 <|
 fns_cons func90 <|
 fns_cons func126 <|
 fns_cons func128 <|
 fns_cons func129 <|
 fns_cons func130 <|
 fns_cons func133 <|
 fns_cons func135 <|
 fns_cons func136 <|
 fns_cons func142 <|
 fns_cons func144 <|
 fns_cons func146 <|
 fns_cons func147 <|
 fns_cons func163 <|
 fns_cons func164 <|
 fns_cons func169 <|
 fns_cons func170 <|
 fns_cons func171 <|
 fns_cons func172 <|
 fns_cons func173 <|
 fns_cons func174 <|
 fns_cons func175 <|
 fns_cons func176 <|
 fns_cons func177 <|
 fns_cons func178 <|
 fns_cons func179 <|
 fns_cons func182 <|
 fns_cons func183 <|
 fns_cons func184 <|
 fns_cons func185 <|
 fns_cons func195 <|
 fns_cons func196 <|
 fns_cons func197 <|
 fns_cons func198 <|
 fns_cons func199 <|
 fns_cons func200 <|
 fns_cons func203 <|
 fns_cons func175 <|
 fns_nil
def Aq:Nat→Option Ev.Spec:=evs tab Bi uP 100000 Ca 60
theorem L2:GOK prog Aq:=evs_ok tab_ok mixed MV kr Iw 60
theorem LR:evalFn tab Aq (fun _=>none) (uP 9) 100000 Tryz.f9 [] [] trueR=some ():=by
 kernel_rfl
def bu (Z:Nat) (k0:(Bool)→OA):OA:=k0 true
abbrev bD:Type:=(Bool→OA)→OA
def rj (F:bD):Ev.Spec:=fun args objs k=>match args,objs with | [],[]=>F (fun r=>k (.c (.bool r),[])) | _,_=>none
def Aa (Z:Nat):Ev.Spec:=rj (bu Z)
theorem ML (Z:Nat):FnOK prog 9 (Aa Z):=by
 intro args objs kk r h
 unfold Aa rj at h
 split at h
 ·exact true_ok (fn_ok (fuel:=100000) tab_ok L2 mixed func9 (kp:=uP 9) (J:=fun _=>none) (c:=(Tryz.f9.body).getD .skip) rfl (fun q hq=>by rw [obl_none] at hq; cases hq)) LR h
 ·cases h
def jb (i:Nat):Option (List Nat):=Ev.look i [(4,[0,1,5]),(100000,[]),(200006,[0,1]),(400000,[4])]
def O2 (f:Nat):Option Ev.Spec:=Ev.look f []
def nY (Z:Nat):Nat→Option Ev.Spec:=O2
def fx (Z:Nat) (v:(List Bool)×(List Bool)×Int) (c:((List Bool)×(List Bool)×Int)→OA) (B:(Bool→OA)×(Unit→OA)):OA:=match v,B with | (d,e,a),(ret,b)=>bif decide (a < (↑d.length:Int)) then bif decide ((0:Int)≤a∧a < (↑d.length:Int)) then bif decide ((0:Int)≤a∧a < (↑e.length:Int)) then bif !d.getD a.toNat false==e.getD a.toNat false then ret false else c (d,e,i64.wrap (a+(1:Int))) else none else none else b ()
def AJ (Z:Nat) (v:(List Bool)×(List Bool)×Int) (ret:(Bool→OA)) (b:(Unit→OA)):OA:=iter (fx Z) Z v (ret,b)
def vf (v:(List Bool)×(List Bool)×Int):Ev.St:=match v with | (a,b,d)=>⟨[(0,.c (.sl .bool a)),(1,.c (.sl .bool b)),(5,.c (i6 d))],[],0,0⟩
def ss (K:KT):(Bool→OA)×(Unit→OA):=((fun v=>match v with | a=>K .ret ⟨[(4,.c (.bool a))],[],0,0⟩),(fun v=>match v with | ()=>K .normal ⟨[],[],0,0⟩))
theorem Hi (Z:Nat) (R:Ev.St→OA) (K:KT) (a:(List Bool)) (b:(List Bool)) (c:Int):evalCode tab (nY Z) J0 jb Z (bodyOf 0 Tryz.f17) (vf (a,b,c)) (lc jb 4 0 R K)=fx Z (a,b,c) (fun v=>R (vf v)) (ss K):=by
 kernel_rfl
def oE (Z:Nat):Ev.Blk:=fun st K=>match canonO (jb 4) st with | some s=>(match s with | ⟨[(a,.c (.sl .bool b)),(d,.c (.sl .bool e)),(f,.c (i6 g))],[],h,i⟩=>bif qb [a,d,f,h,i] [0,1,5,0,0] then iter (fx Z) Z (b,e,g) (ss K) else none | _=>none) | none=>none
theorem KY (Z:Nat) (st:Ev.St) (K:KT) (r:Ans) (h:oE Z st K=some r):evalCode tab (nY Z) J0 jb Z (.block 0 (.loop (bodyOf 0 Tryz.f17))) st K=some r:=by
 unfold oE at h
 split at h
 ·rename_i s hs
  split at h
  ·skip
   obtain ⟨hb,h⟩:=cond_some' h
   cases qb_eq hb
   exact blk_loop (S:=vf) (ks:=ss) (step:=fx Z) (v:=(_,_,_)) kr kr (fun R K v=>by obtain ⟨a,b,c⟩:=v; exact Hi Z R K a b c) hs h
  ·cases h
 ·cases h
def EP (Z:Nat) (i:Nat):Option Ev.Blk:=Ev.look i [(100000,oE Z)]
def aO (Z:Nat) (a:(List Bool)) (b:(List Bool)) (k0:(Bool)→OA):OA:=bif (↑a.length:Int) != (↑b.length:Int) then k0 false else (AJ Z (a,b,0) (fun ret0_0=>k0 ret0_0) (fun ()=>k0 true))
abbrev bB:Type:=((List Bool))→((List Bool))→(Bool→OA)→OA
theorem Mn (Z:Nat) (a:(List Bool)) (b:(List Bool)) (k:Ev.Cont):evalFn tab (nY Z) (EP Z) jb Z Tryz.f17 [.c (.sl .bool a),.c (.sl .bool b)] [] k=aO Z a b (fun r=>match r with | d=>k (.c (.bool d),[])):=by
 kernel_rfl
theorem CD (Z:Nat):GOK prog (nY Z):=
 gok_nil
theorem Ny (Z:Nat):BlkOK prog Tryz.f17.ntmps (.block 0 (.loop (bodyOf 0 Tryz.f17))) (oE Z):=bo0 (CD Z) kr kr (KY Z)
def sn (F:bB):Ev.Spec:=fun args objs k=>match args,objs with | [.c (.sl .bool a),.c (.sl .bool b)],[]=>F a b (fun r=>match r with | d=>k (.c (.bool d),[])) | _,_=>none
theorem HY (Z:Nat):FnOK prog 17 (sn (aO Z)):=by
 intro args objs kk r h
 unfold sn at h
 split at h
 ·skip
  exact fo1 (CD Z) func17 rfl (Ny Z) kr _ _ kk r ((Mn Z _ _ kk).trans h)
 ·cases h
def i7 (i:Nat):Option (List Nat):=Ev.look i [(4,[2,3,5]),(100000,[]),(200006,[2,3]),(400000,[4])]
def IX (f:Nat):Option Ev.Spec:=Ev.look f []
def mz (Z:Nat):Nat→Option Ev.Spec:=IX
abbrev CL:Type:=Int×Int×LI×Int×LI
abbrev Om:Type:=(Bool→OA)×(Unit→OA)
def fF (Z:Nat) (v:Int×Int×LI×Int×LI) (c:(Int×Int×LI×Int×LI)→OA) (B:(Bool→OA)×(Unit→OA)):OA:=match v,B with | (a,f,d,g,e),(ret,b)=>bif decide (a < (↑d.length:Int)) then bif decide ((0:Int)≤a∧a < (↑d.length:Int)) then bif decide ((0:Int)≤a∧a < (↑e.length:Int)) then bif d.getD a.toNat (0:Int) != e.getD a.toNat (0:Int) then ret false else c (i64.wrap (a+(1:Int)),f,d,g,e) else none else none else b ()
def Cx (Z:Nat) (v:CL) (ret:(Bool→OA)) (b:(Unit→OA)):OA:=iter (fF Z) Z v (ret,b)
def yX (v:CL):Ev.St:=match v with | (a,b,d,e,f)=>⟨[(2,.c (.ptr 0 0)),(3,.c (.ptr 1 0)),(5,.c (i6 a))],[(0,.cells 40 [i6 b,.sl ti d]),(1,.cells 40 [i6 e,.sl ti f])],2,0⟩
def rC (K:KT):Om:=((fun v=>match v with | a=>K .ret ⟨[(4,.c (.bool a))],[],0,0⟩),(fun v=>match v with | ()=>K .normal ⟨[],[],0,0⟩))
theorem Nu (Z:Nat) (R:Ev.St→OA) (K:KT) (a b:Int) (c:LI) (d:Int) (e:LI):evalCode tab (mz Z) J0 i7 Z (bodyOf 0 Tryz.f18) (yX (a,b,c,d,e)) (lc i7 4 0 R K)=fF Z (a,b,c,d,e) (fun v=>R (yX v)) (rC K):=by
 kernel_rfl
def lv (Z:Nat):Ev.Blk:=fun st K=>match canonO (i7 4) st with | some s=>(match s with | ⟨[(e,.c (.ptr f g)),(h,.c (.ptr i j)),(k,.c (i6 l))],[(m,.cells n [i6 o,.sl ti p]),(q,.cells a [i6 r,.sl ti t])],b,d⟩=>bif qb [e,f,g,h,i,j,k,m,n,q,a,b,d] [2,0,0,3,1,0,5,0,40,1,40,2,0] then iter (fF Z) Z (l,o,p,r,t) (rC K) else none | _=>none) | none=>none
theorem M3 (Z:Nat) (st:Ev.St) (K:KT) (r:Ans) (h:lv Z st K=some r):evalCode tab (mz Z) J0 i7 Z (.block 0 (.loop (bodyOf 0 Tryz.f18))) st K=some r:=by
 unfold lv at h
 split at h
 ·rename_i s hs
  split at h
  ·skip
   obtain ⟨hb,h⟩:=cond_some' h
   cases qb_eq hb
   exact blk_loop (S:=yX) (ks:=rC) (step:=fF Z) (v:=(_,_,_,_,_)) kr kr (fun R K v=>by obtain ⟨a,b,c,d,e⟩:=v; exact Nu Z R K a b c d e) hs h
  ·cases h
 ·cases h
def Qd (Z:Nat) (i:Nat):Option Ev.Blk:=Ev.look i [(100000,lv Z)]
def aM (Z:Nat) (a:Int) (b:LI) (c:Int) (d:LI) (k0:(Bool)→OA):OA:=bif a != c then k0 false else bif (↑b.length:Int) != (↑d.length:Int) then k0 false else (Cx Z (0,a,b,c,d) (fun ret0_0=>k0 ret0_0) (fun ()=>k0 true))
abbrev bE:Type:=Int→LI→Int→LI→(Bool→OA)→OA
theorem O7 (Z:Nat) (a:Int) (b:LI) (d:Int) (e:LI) (k:Ev.Cont):evalFn tab (mz Z) (Qd Z) i7 Z Tryz.f18 [.agg [i6 a,.sl ti b],.agg [i6 d,.sl ti e]] [] k=aM Z a b d e (fun r=>match r with | f=>k (.c (.bool f),[])):=by
 kernel_rfl
theorem DO (Z:Nat):GOK prog (mz Z):=
 gok_nil
theorem LC (Z:Nat):BlkOK prog Tryz.f18.ntmps (.block 0 (.loop (bodyOf 0 Tryz.f18))) (lv Z):=bo0 (DO Z) kr kr (M3 Z)
def xl (F:bE):Ev.Spec:=fun args objs k=>match args,objs with | [.agg [i6 a,.sl ti b],.agg [i6 d,.sl ti e]],[]=>F a b d e (fun r=>match r with | f=>k (.c (.bool f),[])) | _,_=>none
theorem H6 (Z:Nat):FnOK prog 18 (xl (aM Z)):=by
 intro args objs kk r h
 unfold xl at h
 split at h
 ·skip
  exact fo1 (DO Z) func18 rfl (LC Z) kr _ _ kk r ((O7 Z _ _ _ _ kk).trans h)
 ·cases h
def PE (i:Nat):Option (List Nat):=Ev.look i []
def EU (f:Nat):Option Ev.Spec:=Ev.look f []
def AU (Z:Nat):Nat→Option Ev.Spec:=EU
def dN (Z:Nat) (a b:Int) (c:LI) (d e:Int) (f:LI) (k0:(Bool)→OA):OA:=bif a==d then bif b==e then k0 ((Go.strOfNums c).toList==(Go.strOfNums f).toList) else k0 false else k0 false
abbrev gE:Type:=Int→Int→LI→Int→Int→LI→(Bool→OA)→OA
theorem Ou (Z:Nat) (a b:Int) (d:LI) (e f:Int) (g:LI) (k:Ev.Cont):evalFn tab (AU Z) J0 PE Z Tryz.f15 [.agg [i6 a,i6 b,.sl (.int .u8) d],.agg [i6 e,i6 f,.sl (.int .u8) g]] [] k=dN Z a b d e f g (fun r=>match r with | h=>k (.c (.bool h),[])):=by
 kernel_rfl
theorem GG (Z:Nat):GOK prog (AU Z):=
 gok_nil
def wg (F:gE):Ev.Spec:=fun args objs k=>match args,objs with | [.agg [i6 a,i6 b,.sl (.int .u8) d],.agg [i6 e,i6 f,.sl (.int .u8) g]],[]=>F a b d e f g (fun r=>match r with | h=>k (.c (.bool h),[])) | _,_=>none
theorem GM (Z:Nat):FnOK prog 15 (wg (dN Z)):=by
 intro args objs kk r h
 unfold wg at h
 split at h
 ·skip
  exact fo0 (GG Z) func15 rfl kr _ _ kk r ((Ou Z _ _ _ _ _ _ kk).trans h)
 ·cases h
def kB (i:Nat):Option (List Nat):=Ev.look i [(4,[0,1,5]),(100000,[]),(200006,[0,1]),(400000,[4])]
def uF (a:gE) (f:Nat):Option Ev.Spec:=Ev.look f [(15,wg a)]
def AV (Z:Nat):Nat→Option Ev.Spec:=uF (dN Z)
abbrev vy:Type:=(List (BM×Int))×(List (BM×Int))×Int
abbrev AA:Type:=(Bool→OA)×(Unit→OA)
def ou (Z:Nat) (f:gE) (d:(List (BM×Int))) (e:(List (BM×Int))) (a:Int) (c:vy→OA) (B:AA):OA:=match B with | (ret,b)=>bif decide (a < (↑d.length:Int)) then bif decide (0≤a∧a < (↑d.length:Int)) then bif decide (0≤a∧a < (↑e.length:Int)) then bif (d.getD a.toNat ((0,0,[]),0)).snd != (e.getD a.toNat ((0,0,[]),0)).snd then ret false else bif decide (0≤a∧a < (↑d.length:Int)) then bif decide (0≤a∧a < (↑e.length:Int)) then (f ((d.getD a.toNat ((0,0,[]),0)).fst.fst) ((d.getD a.toNat ((0,0,[]),0)).fst.snd.fst) ((d.getD a.toNat ((0,0,[]),0)).fst.snd.snd) ((e.getD a.toNat ((0,0,[]),0)).fst.fst) ((e.getD a.toNat ((0,0,[]),0)).fst.snd.fst) ((e.getD a.toNat ((0,0,[]),0)).fst.snd.snd) (fun g=>bif !g then ret false else c (d,e,i64.wrap (a+1)))) else none else none else none else none else b ()
def iK (Z:Nat) (v:(List (BM×Int))×(List (BM×Int))×Int) (c:((List (BM×Int))×(List (BM×Int))×Int)→OA) (B:(Bool→OA)×(Unit→OA)):OA:=match v with | (a,b,d)=>ou Z (dN Z) a b d c B
def DM (Z:Nat) (v:vy) (ret:(Bool→OA)) (b:(Unit→OA)):OA:=iter (iK Z) Z v (ret,b)
def qw (v:vy):Ev.St:=match v with | (a,b,d)=>⟨[(0,.c (.sl (.pair tq ti) a)),(1,.c (.sl (.pair tq ti) b)),(5,.c (i6 d))],[],0,0⟩
def sK (K:KT):AA:=((fun v=>match v with | a=>K .ret ⟨[(4,.c (.bool a))],[],0,0⟩),(fun v=>match v with | ()=>K .normal ⟨[],[],0,0⟩))
theorem MM (Z:Nat) (a:gE) (R:Ev.St→OA) (K:KT) (b:(List (BM×Int))) (c:(List (BM×Int))) (d:Int):evalCode tab (uF a) J0 kB Z (bodyOf 0 Tryz.f13) (qw (b,c,d)) (lc kB 4 0 R K)=ou Z a b c d (fun v=>R (qw v)) (sK K):=by
 kernel_rfl
def mi (Z:Nat):Ev.Blk:=fun st K=>match canonO (kB 4) st with | some s=>(match s with | ⟨[(a,.c (.sl (.pair tq ti) b)),(d,.c (.sl (.pair tq ti) e)),(f,.c (i6 g))],[],h,i⟩=>bif qb [a,d,f,h,i] [0,1,5,0,0] then iter (iK Z) Z (b,e,g) (sK K) else none | _=>none) | none=>none
theorem Jy (Z:Nat) (st:Ev.St) (K:KT) (r:Ans) (h:mi Z st K=some r):evalCode tab (AV Z) J0 kB Z (.block 0 (.loop (bodyOf 0 Tryz.f13))) st K=some r:=by
 unfold mi at h
 split at h
 ·rename_i s hs
  split at h
  ·skip
   obtain ⟨hb,h⟩:=cond_some' h
   cases qb_eq hb
   exact blk_loop (S:=qw) (ks:=sK) (step:=iK Z) (v:=(_,_,_)) kr kr (fun R K v=>by obtain ⟨a,b,c⟩:=v; exact MM Z (dN Z) R K a b c) hs h
  ·cases h
 ·cases h
def LM (Z:Nat) (i:Nat):Option Ev.Blk:=Ev.look i [(100000,mi Z)]
def sX (Z:Nat) (c:gE) (a:(List ((Int×Int×LI)×Int))) (b:(List ((Int×Int×LI)×Int))) (k0:(Bool)→OA):OA:=bif (↑a.length:Int) != (↑b.length:Int) then k0 false else (DM Z (a,b,0) (fun ret0_0=>k0 ret0_0) (fun ()=>k0 true))
abbrev bn:Type:=((List ((Int×Int×LI)×Int)))→((List ((Int×Int×LI)×Int)))→(Bool→OA)→OA
def aV (Z:Nat):bn:=sX Z (dN Z)
theorem Je (Z:Nat) (a:gE) (b:(List ((Int×Int×LI)×Int))) (d:(List ((Int×Int×LI)×Int))) (k:Ev.Cont):evalFn tab (uF a) (LM Z) kB Z Tryz.f13 [.c (.sl (.pair tq ti) b),.c (.sl (.pair tq ti) d)] [] k=sX Z a b d (fun r=>match r with | e=>k (.c (.bool e),[])):=by
 kernel_rfl
theorem Bj (Z:Nat):GOK prog (AV Z):=
 gc (GM Z) func15 kr rfl <|
 gok_nil
theorem Gn (Z:Nat):BlkOK prog Tryz.f13.ntmps (.block 0 (.loop (bodyOf 0 Tryz.f13))) (mi Z):=bo0 (Bj Z) kr kr (Jy Z)
def tk (F:bn):Ev.Spec:=fun args objs k=>match args,objs with | [.c (.sl (.pair tq ti) a),.c (.sl (.pair tq ti) b)],[]=>F a b (fun r=>match r with | d=>k (.c (.bool d),[])) | _,_=>none
theorem J6 (Z:Nat):FnOK prog 13 (tk (aV Z)):=by
 intro args objs kk r h
 unfold tk at h
 split at h
 ·skip
  exact fo1 (Bj Z) func13 rfl (Gn Z) kr _ _ kk r ((Je Z (dN Z) _ _ kk).trans h)
 ·cases h
def Qa (i:Nat):Option (List Nat):=Ev.look i []
def Jk (f:Nat):Option Ev.Spec:=Ev.look f []
def AG (Z:Nat):Nat→Option Ev.Spec:=Jk
def fb (Z:Nat) (c a b:Int) (e:Bool) (d:Int) (k0:(Bool)→OA):OA:=bif decide (c < 0) then k0 false else bif decide (c > 3) then k0 false else bif decide (d < 0) then k0 false else bif decide (d > 1) then k0 false else bif decide (a < (-8:Int)) then k0 false else bif decide (a > 8) then k0 false else bif decide (b < (-8:Int)) then k0 false else bif decide (b > 0) then k0 false else bif decide (b < 0) then k0 true else k0 (decide (a < 0))
abbrev ov:Type:=Int→Int→Int→Bool→Int→(Bool→OA)→OA
theorem L7 (Z:Nat) (a b d:Int) (e:Bool) (f:Int) (k:Ev.Cont):evalFn tab (AG Z) J0 Qa Z Tryz.f22 [.agg [i6 a,i6 b,i6 d,.bool e,i6 f]] [] k=fb Z a b d e f (fun r=>match r with | g=>k (.c (.bool g),[])):=by
 kernel_rfl
theorem Ov (Z:Nat):GOK prog (AG Z):=
 gok_nil
def qA (F:ov):Ev.Spec:=fun args objs k=>match args,objs with | [.agg [i6 a,i6 b,i6 d,.bool e,i6 f]],[]=>F a b d e f (fun r=>match r with | g=>k (.c (.bool g),[])) | _,_=>none
theorem EW (Z:Nat):FnOK prog 22 (qA (fb Z)):=by
 intro args objs kk r h
 unfold qA at h
 split at h
 ·skip
  exact fo0 (Ov Z) func22 rfl kr _ _ kk r ((L7 Z _ _ _ _ _ kk).trans h)
 ·cases h
def H5 (i:Nat):Option (List Nat):=Ev.look i []
def BF (a:ov) (f:Nat):Option Ev.Spec:=Ev.look f [(22,qA a)]
def G7 (Z:Nat):Nat→Option Ev.Spec:=BF (fb Z)
def rV (Z:Nat) (c:ov) (d e f:Int) (a:Bool) (g b:Int) (k0:(Bool)→OA):OA:=(c d e f a g (fun h=>bif h then bif !a then bif b==0 then k0 true else k0 (b==1) else k0 false else k0 false))
abbrev bp:Type:=Int→Int→Int→Bool→Int→Int→(Bool→OA)→OA
def bc (Z:Nat):bp:=rV Z (fb Z)
theorem K9 (Z:Nat) (a:ov) (b d e:Int) (f:Bool) (g h:Int) (k:Ev.Cont):evalFn tab (BF a) J0 H5 Z Tryz.f7 [.agg [i6 b,i6 d,i6 e,.bool f,i6 g,i6 h]] [] k=rV Z a b d e f g h (fun r=>match r with | i=>k (.c (.bool i),[])):=by
 kernel_rfl
theorem J3 (Z:Nat):GOK prog (G7 Z):=
 gc (EW Z) func22 kr rfl <|
 gok_nil
def xu (F:bp):Ev.Spec:=fun args objs k=>match args,objs with | [.agg [i6 a,i6 b,i6 d,.bool e,i6 f,i6 g]],[]=>F a b d e f g (fun r=>match r with | h=>k (.c (.bool h),[])) | _,_=>none
theorem Ir (Z:Nat):FnOK prog 7 (xu (bc Z)):=by
 intro args objs kk r h
 unfold xu at h
 split at h
 ·skip
  exact fo0 (J3 Z) func7 rfl kr _ _ kk r ((K9 Z (fb Z) _ _ _ _ _ _ kk).trans h)
 ·cases h
def jU (i:Nat):Option (List Nat):=Ev.look i [(5,[6,17]),(100000,[6]),(400000,[4,5]),(600000,[])]
def sI (b:bY) (c:cA) (a:co) (f:Nat):Option Ev.Spec:=Ev.look f [(71,i9 b),(76,lV c),(84,mV a)]
def Ar (Z:Nat):Nat→Option Ev.Spec:=sI (aT Z) (ck Z) (bA Z)
abbrev tv:Type:=Int×Int×Int×Int×Int×Int×Int×Bool×Bool×LI×LI
abbrev vg:Type:=(Int×Int×Int×Int×Int×Int×Bool×Bool×LI×LI→OA)
def od (Z:Nat) (y:bY) (z:cA) (n:co) (d e:Int) (f g:Int) (h i j:Int) (k l:Bool) (m a:LI) (c:tv→OA) (B:vg):OA:=match B with | b=>bif decide (d < 4) then (n e f g h i j k l m a (fun (o,p,q,r,s,t,u,v,w,x)=>c (i64.wrap (d+1),o,p,q,r,s,t,u,v,w,x))) else b (e,f,g,h,i,j,k,l,m,a)
def hZ (Z:Nat) (v:Int×Int×Int×Int×Int×Int×Int×Bool×Bool×LI×LI) (c:(Int×Int×Int×Int×Int×Int×Int×Bool×Bool×LI×LI)→OA) (B:(Int×Int×Int×Int×Int×Int×Bool×Bool×LI×LI→OA)):OA:=match v with | (b,d,e,f,g,h,i,j,k,l,a)=>od Z (aT Z) (ck Z) (bA Z) b d e f g h i j k l a c B
def zc (Z:Nat) (v:tv) (b:vg):OA:=iter (hZ Z) Z v b
def yP (v:tv):Ev.St:=match v with | (b,d,e,f,g,h,i,j,k,l,a)=>⟨[(6,.c (.ptr 0 0)),(17,.c (i6 b))],[(0,.cells 147 (i6 d::.own 1::ctb (.int .u64 e::.int .u64 f::.own 2::i6 g::.int .u64 h::i6 i::.bool j::.bool k::[]))),(1,.vec 3 ti l true),(2,.vec 5 (.int .u8) a true)],3,0⟩
def tY (K:KT):vg:=(fun v=>match v with | (a,b,d,e,f,g,h,i,j,k)=>K .normal ⟨[(6,.c (.ptr 0 0))],[(0,.cells 147 (i6 a::.own 1::ctb (.int .u64 b::.int .u64 d::.own 2::i6 e::.int .u64 f::i6 g::.bool h::.bool i::[]))),(1,.vec 3 ti j true),(2,.vec 5 (.int .u8) k true)],3,0⟩)
theorem Ii (Z:Nat) (b:bY) (c:cA) (a:co) (R:Ev.St→OA) (K:KT) (e f:Int) (g h:Int) (i j k:Int) (l m:Bool) (n d:LI):evalCode tab (sI b c a) J0 jU Z (bodyOf 0 Tryz.f36) (yP (e,f,g,h,i,j,k,l,m,n,d)) (lc jU 5 0 R K)=od Z b c a e f g h i j k l m n d (fun v=>R (yP v)) (tY K):=by
 kernel_rfl
def kY (Z:Nat):Ev.Blk:=fun st K=>match canonO (jU 5) st with | some s=>(match s with | ⟨[(h,.c (.ptr i j)),(k,.c (i6 l))],[(m,.cells n a),(o,.vec p ti q true),(r,.vec t (.int .u8) b true)],d,e⟩=>(match splitRun 2 ctn a with | some ([i6 u,.own f],[.int .u64 v,.int .u64 w,.own g,i6 x,.int .u64 y,i6 z,.bool A,.bool B])=>bif qb [h,i,j,k,m,n,o,p,r,t,d,e,f,g] [6,0,0,17,0,147,1,3,2,5,3,0,1,2] then iter (hZ Z) Z (l,u,v,w,x,y,z,A,B,q,b) (tY K) else none | _=>none) | _=>none) | none=>none
theorem NB (Z:Nat) (st:Ev.St) (K:KT) (r:Ans) (h:kY Z st K=some r):evalCode tab (Ar Z) J0 jU Z (.block 0 (.loop (bodyOf 0 Tryz.f36))) st K=some r:=by
 unfold kY at h
 split at h
 ·rename_i s hs
  split at h
  ·skip
   split at h
   rotate_left 1
   ·cases h
   rename_i hsp
   have esp:=splitRun_eq hsp
   subst esp
   obtain ⟨hb,h⟩:=cond_some' h
   cases qb_eq hb
   exact blk_loop (S:=yP) (ks:=tY) (step:=hZ Z) (v:=(_,_,_,_,_,_,_,_,_,_,_)) kr kr (fun R K v=>by obtain ⟨b,c,d,e,f,g,i,j,k,l,a⟩:=v; exact Ii Z (aT Z) (ck Z) (bA Z) R K b c d e f g i j k l a) hs h
  ·cases h
 ·cases h
def FM (Z:Nat) (i:Nat):Option Ev.Blk:=Ev.look i [(100000,kY Z)]
def su (Z:Nat) (r:bY) (s:cA) (u:co) (b:Int) (c a:LI) (k0:(Int)→OA) (k1:(Int×Int×Int×Int×Int×Int×Int×Bool×Bool×LI×LI)→OA):OA:=(r b c (fun t=>bif !t then k0 (10) else (s b c (fun (d,e,f,g)=>bif decide (((0:Nat)+a.length)*(1:Nat)≤(140737488355328:Nat)∧(0:Nat)+a.length≤(140737488355328:Nat)) then (zc Z ((0:Int),d,e,f,(0:Int),(0:Int),(0:Int),false,true,g,[]++a) (fun (h,i,j,k,l,m,n,o,p,q)=>k1 (0,h,i,j,k,l,m,n,o,p,q))) else none))))
abbrev eU:Type:=Int→LI→LI→(Int→OA)→((Int×Int×Int×Int×Int×Int×Int×Bool×Bool×LI×LI)→OA)→OA
def eh (Z:Nat):eU:=su Z (aT Z) (ck Z) (bA Z)
theorem N8 (Z:Nat) (d:bY) (e:cA) (b:co) (f:Int) (g h:LI) (k:Ev.Cont):evalFn tab (sI d e b) (FM Z) jU Z Tryz.f36 [.agg [i6 f,.sl ti g],.c (.sl (.int .u8) h)] [] k=su Z d e b f g h (fun r=>match r with | a=>k (.tup [(false,[.nilptr]),(false,[i6 a])],[])) (fun r=>match r with | (a,j,l,m,n,o,p,q,s,t,i)=>k (.tup [(false,[.ptr 0 0]),(false,[i6 a])],[.cells 147 (i6 j::.own 1::ctb (.int .u64 l::.int .u64 m::.own 2::i6 n::.int .u64 o::i6 p::.bool q::.bool s::[])),.vec 3 ti t true,.vec 5 (.int .u8) i true])):=by
 kernel_rfl
theorem zK (Z:Nat):GOK prog (Ar Z):=
 gc (nK Z) func71 kr rfl <|
 gc (yB Z) func76 kr rfl <|
 gc (yK Z) func84 kr rfl <|
 gok_nil
theorem Em (Z:Nat):BlkOK prog Tryz.f36.ntmps (.block 0 (.loop (bodyOf 0 Tryz.f36))) (kY Z):=bo0 (zK Z) kr kr (NB Z)
def uO (F:eU):Ev.Spec:=fun args objs k=>match args,objs with | [.agg [i6 d,.sl ti e],.c (.sl (.int .u8) f)],[]=>F d e f (fun r=>match r with | a=>k (.tup [(false,[.nilptr]),(false,[i6 a])],[])) (fun r=>match r with | (a,g,h,i,j,l,m,n,o,p,b)=>k (.tup [(false,[.ptr 0 0]),(false,[i6 a])],[.cells 147 (i6 g::.own 1::ctb (.int .u64 h::.int .u64 i::.own 2::i6 j::.int .u64 l::i6 m::.bool n::.bool o::[])),.vec 3 ti p true,.vec 5 (.int .u8) b true])) | _,_=>none
theorem EG (Z:Nat):FnOK prog 36 (uO (eh Z)):=by
 intro args objs kk r h
 unfold uO at h
 split at h
 ·skip
  exact fo1 (zK Z) func36 rfl (Em Z) kr _ _ kk r ((N8 Z (aT Z) (ck Z) (bA Z) _ _ _ kk).trans h)
 ·cases h
def Pd (i:Nat):Option (List Nat):=Ev.look i []
def Jv (f:Nat):Option Ev.Spec:=Ev.look f []
def zH (Z:Nat):Nat→Option Ev.Spec:=Jv
def aF (Z:Nat) (a:(List (Int×Int×LI))) (k0:((List BM))→OA):OA:=bif decide ((↑a.length:Int)=0) then both (k0 []) (bif decide (((0:Nat)+a.length)*(40:Nat)≤(140737488355328:Nat)∧(0:Nat)+a.length≤(140737488355328:Nat)) then k0 ([]++a) else none) else bif decide (((0:Nat)+a.length)*(40:Nat)≤(140737488355328:Nat)∧(0:Nat)+a.length≤(140737488355328:Nat)) then k0 ([]++a) else none
abbrev ba:Type:=((List (Int×Int×LI)))→(((List BM))→OA)→OA
theorem Mi (Z:Nat) (a:(List (Int×Int×LI))) (k:Ev.Cont):evalFn tab (zH Z) J0 Pd Z Tryz.f30 [.c (.sl tq a)] [] k=aF Z a (fun r=>match r with | b=>k (.c (.own 0),[.vec 29 tq b true])):=by
 kernel_rfl
theorem Ep (Z:Nat):GOK prog (zH Z):=
 gok_nil
def kf (F:ba):Ev.Spec:=fun args objs k=>match args,objs with | [.c (.sl tq a)],[]=>F a (fun r=>match r with | b=>k (.c (.own 0),[.vec 29 tq b true])) | _,_=>none
theorem pA (Z:Nat):FnOK prog 30 (kf (aF Z)):=by
 intro args objs kk r h
 unfold kf at h
 split at h
 ·skip
  exact fo0 (Ep Z) func30 rfl kr _ _ kk r ((Mi Z _ kk).trans h)
 ·cases h
def HH (i:Nat):Option (List Nat):=Ev.look i []
def FA (f:Nat):Option Ev.Spec:=Ev.look f []
def D8 (Z:Nat):Nat→Option Ev.Spec:=FA
def cf (Z:Nat) (a b:Int) (k0:(Bool)→OA):OA:=bif decide (a≥0) then bif decide (b≥0) then bif decide (a≤200) then bif decide (b≤200) then k0 (decide (i64.wrap (a*b)≤8192)) else k0 false else k0 false else k0 false else k0 false
abbrev dp:Type:=Int→Int→(Bool→OA)→OA
theorem Kf (Z:Nat) (a b:Int) (k:Ev.Cont):evalFn tab (D8 Z) J0 HH Z Tryz.f147 [.c (i6 a),.c (i6 b)] [] k=cf Z a b (fun r=>match r with | d=>k (.c (.bool d),[])):=by
 kernel_rfl
theorem NC (Z:Nat):GOK prog (D8 Z):=
 gok_nil
def nP (F:dp):Ev.Spec:=fun args objs k=>match args,objs with | [.c (i6 a),.c (i6 b)],[]=>F a b (fun r=>match r with | d=>k (.c (.bool d),[])) | _,_=>none
theorem BO (Z:Nat):FnOK prog 147 (nP (cf Z)):=by
 intro args objs kk r h
 unfold nP at h
 split at h
 ·skip
  exact fo0 (NC Z) func147 rfl kr _ _ kk r ((Kf Z _ _ kk).trans h)
 ·cases h
def kw (i:Nat):Option (List Nat):=Ev.look i [(4,[23,24,25]),(100000,[]),(400000,[2])]
def uZ (a:dp) (f:Nat):Option Ev.Spec:=Ev.look f [(147,nP a)]
def zs (Z:Nat):Nat→Option Ev.Spec:=uZ (cf Z)
def ix (Z:Nat) (f:dp) (d:LI) (e a:Int) (c:(LI×Int×Int)→OA) (B:(Bool→OA)×(Unit→OA)):OA:=match B with | (ret,b)=>bif decide (a < e) then bif decide (0≤a∧a < (↑d.length:Int)) then bif decide (d.getD a.toNat (0:Int) > (1:Int)) then ret false else c (d,e,i64.wrap (a+1)) else none else b ()
def dH (Z:Nat) (v:LI×Int×Int) (c:(LI×Int×Int)→OA) (B:(Bool→OA)×(Unit→OA)):OA:=match v with | (a,b,d)=>ix Z (cf Z) a b d c B
def DU (Z:Nat) (v:LI×Int×Int) (ret:(Bool→OA)) (b:(Unit→OA)):OA:=iter (dH Z) Z v (ret,b)
def oW (v:LI×Int×Int):Ev.St:=match v with | (a,b,d)=>⟨[(23,.c (.sl (.int .u8) a)),(24,.c (i6 b)),(25,.c (i6 d))],[],0,0⟩
def yt (K:KT):(Bool→OA)×(Unit→OA):=((fun v=>match v with | a=>K .ret ⟨[(2,.c (.bool a))],[],0,0⟩),(fun v=>match v with | ()=>K .normal ⟨[],[],0,0⟩))
theorem Kr (Z:Nat) (a:dp) (R:Ev.St→OA) (K:KT) (b:LI) (c d:Int):evalCode tab (uZ a) J0 kw Z (bodyOf 0 Tryz.f90) (oW (b,c,d)) (lc kw 4 0 R K)=ix Z a b c d (fun v=>R (oW v)) (yt K):=by
 kernel_rfl
def oB (Z:Nat):Ev.Blk:=fun st K=>match canonO (kw 4) st with | some s=>(match s with | ⟨[(a,.c (.sl (.int .u8) b)),(d,.c (i6 e)),(f,.c (i6 g))],[],h,i⟩=>bif qb [a,d,f,h,i] [23,24,25,0,0] then iter (dH Z) Z (b,e,g) (yt K) else none | _=>none) | none=>none
theorem Iy (Z:Nat) (st:Ev.St) (K:KT) (r:Ans) (h:oB Z st K=some r):evalCode tab (zs Z) J0 kw Z (.block 0 (.loop (bodyOf 0 Tryz.f90))) st K=some r:=by
 unfold oB at h
 split at h
 ·rename_i s hs
  split at h
  ·skip
   obtain ⟨hb,h⟩:=cond_some' h
   cases qb_eq hb
   exact blk_loop (S:=oW) (ks:=yt) (step:=dH Z) (v:=(_,_,_)) kr kr (fun R K v=>by obtain ⟨a,b,c⟩:=v; exact Kr Z (cf Z) R K a b c) hs h
  ·cases h
 ·cases h
def Mj (Z:Nat) (i:Nat):Option Ev.Blk:=Ev.look i [(100000,oB Z)]
def xK (Z:Nat) (d:dp) (b c:Int) (a:LI) (k0:(Bool)→OA):OA:=(d b c (fun e=>bif !e then k0 false else bif (↑a.length:Int) != i64.wrap (b*c) then k0 false else (DU Z (a,(↑a.length:Int),0) (fun ret0_0=>k0 ret0_0) (fun ()=>k0 true))))
abbrev aq:Type:=Int→Int→LI→(Bool→OA)→OA
def aj (Z:Nat):aq:=xK Z (cf Z)
theorem Oo (Z:Nat) (a:dp) (b d:Int) (e:LI) (k:Ev.Cont):evalFn tab (uZ a) (Mj Z) kw Z Tryz.f90 [.agg [i6 b,i6 d,.sl (.int .u8) e]] [] k=xK Z a b d e (fun r=>match r with | f=>k (.c (.bool f),[])):=by
 kernel_rfl
theorem zI (Z:Nat):GOK prog (zs Z):=
 gc (BO Z) func147 kr rfl <|
 gok_nil
theorem KK (Z:Nat):BlkOK prog Tryz.f90.ntmps (.block 0 (.loop (bodyOf 0 Tryz.f90))) (oB Z):=bo0 (zI Z) kr kr (Iy Z)
def fC (F:aq):Ev.Spec:=fun args objs k=>match args,objs with | [.agg [i6 a,i6 b,.sl (.int .u8) d]],[]=>F a b d (fun r=>match r with | e=>k (.c (.bool e),[])) | _,_=>none
theorem kT (Z:Nat):FnOK prog 90 (fC (aj Z)):=by
 intro args objs kk r h
 unfold fC at h
 split at h
 ·skip
  exact fo1 (zI Z) func90 rfl (KK Z) kr _ _ kk r ((Oo Z (cf Z) _ _ _ kk).trans h)
 ·cases h
def LP (i:Nat):Option (List Nat):=Ev.look i []
def Cm (a:aq) (f:Nat):Option Ev.Spec:=Ev.look f [(90,fC a)]
def Ld (Z:Nat):Nat→Option Ev.Spec:=Cm (aj Z)
def pa (Z:Nat) (c:aq) (a b:Int) (d:LI) (k0:(Bool)→OA):OA:=(c a b d (fun e=>bif e then bif decide (a≥1) then bif decide (a≤40) then bif decide (b≥1) then k0 (decide (b≤40)) else k0 false else k0 false else k0 false else k0 false))
abbrev aP:Type:=Int→Int→LI→(Bool→OA)→OA
def aH (Z:Nat):aP:=pa Z (aj Z)
theorem H0 (Z:Nat) (a:aq) (b d:Int) (e:LI) (k:Ev.Cont):evalFn tab (Cm a) J0 LP Z Tryz.f43 [.agg [i6 b,i6 d,.sl (.int .u8) e]] [] k=pa Z a b d e (fun r=>match r with | f=>k (.c (.bool f),[])):=by
 kernel_rfl
theorem PR (Z:Nat):GOK prog (Ld Z):=
 gc (kT Z) func90 kr rfl <|
 gok_nil
def iv (F:aP):Ev.Spec:=fun args objs k=>match args,objs with | [.agg [i6 a,i6 b,.sl (.int .u8) d]],[]=>F a b d (fun r=>match r with | e=>k (.c (.bool e),[])) | _,_=>none
theorem kZ (Z:Nat):FnOK prog 43 (iv (aH Z)):=by
 intro args objs kk r h
 unfold iv at h
 split at h
 ·skip
  exact fo0 (PR Z) func43 rfl kr _ _ kk r ((H0 Z (aj Z) _ _ _ kk).trans h)
 ·cases h
def OF (i:Nat):Option (List Nat):=Ev.look i []
def DY (a:aP) (f:Nat):Option Ev.Spec:=Ev.look f [(43,iv a)]
def Pq (Z:Nat):Nat→Option Ev.Spec:=DY (aH Z)
def rR (Z:Nat) (a:aP) (b c:Int) (d:LI) (k0:(Bool)→OA):OA:=(a b c d (fun e=>k0 !e))
abbrev fX:Type:=Int→Int→LI→(Bool→OA)→OA
def fs (Z:Nat):fX:=rR Z (aH Z)
theorem MA (Z:Nat) (a:aP) (b d:Int) (e:LI) (k:Ev.Cont):evalFn tab (DY a) J0 OF Z Tryz.f72 [.agg [i6 b,i6 d,.sl (.int .u8) e]] [] k=rR Z a b d e (fun r=>match r with | f=>k (.c (.bool f),[])):=by
 kernel_rfl
theorem J2 (Z:Nat):GOK prog (Pq Z):=
 gc (kZ Z) func43 kr rfl <|
 gok_nil
def xF (F:fX):Ev.Spec:=fun args objs k=>match args,objs with | [.agg [i6 a,i6 b,.sl (.int .u8) d]],[]=>F a b d (fun r=>match r with | e=>k (.c (.bool e),[])) | _,_=>none
theorem GO (Z:Nat):FnOK prog 72 (xF (fs Z)):=by
 intro args objs kk r h
 unfold xF at h
 split at h
 ·skip
  exact fo0 (J2 Z) func72 rfl kr _ _ kk r ((MA Z (aH Z) _ _ _ kk).trans h)
 ·cases h
def kq (i:Nat):Option (List Nat):=Ev.look i [(2,[0,1,7,8]),(100000,[]),(400000,[4])]
def oT (a:fX) (f:Nat):Option Ev.Spec:=Ev.look f [(72,xF a)]
def zd (Z:Nat):Nat→Option Ev.Spec:=oT (fs Z)
abbrev ro:Type:=(List BM)×Int×Int
abbrev Dv:Type:=(Int→OA)×(Unit→OA)
def mJ (Z:Nat) (f:fX) (d:(List BM)) (e a:Int) (c:ro→OA) (B:Dv):OA:=match B with | (ret,b)=>bif decide (a < e) then bif decide (0≤a∧a < (↑d.length:Int)) then (f ((d.getD a.toNat (0,0,[])).fst) ((d.getD a.toNat (0,0,[])).snd.fst) ((d.getD a.toNat (0,0,[])).snd.snd) (fun g=>bif g then ret a else c (d,e,i64.wrap (a+1)))) else none else b ()
def dT (Z:Nat) (v:(List BM)×Int×Int) (c:((List BM)×Int×Int)→OA) (B:(Int→OA)×(Unit→OA)):OA:=match v with | (a,b,d)=>mJ Z (fs Z) a b d c B
def zL (Z:Nat) (v:ro) (ret:(Int→OA)) (b:(Unit→OA)):OA:=iter (dT Z) Z v (ret,b)
def ug (v:ro):Ev.St:=match v with | (a,b,d)=>⟨[(0,.c (.sl tq a)),(1,.c (.clo 72 [])),(7,.c (i6 b)),(8,.c (i6 d))],[],0,0⟩
def wa (K:KT):Dv:=((fun v=>match v with | a=>K .ret ⟨[(4,.c (i6 a))],[],0,0⟩),(fun v=>match v with | ()=>K .normal ⟨[],[],0,0⟩))
theorem Qi (Z:Nat) (a:fX) (R:Ev.St→OA) (K:KT) (b:(List BM)) (c d:Int):evalCode tab (oT a) J0 kq Z (bodyOf 0 Tryz.f89) (ug (b,c,d)) (lc kq 2 0 R K)=mJ Z a b c d (fun v=>R (ug v)) (wa K):=by
 kernel_rfl
def la (Z:Nat):Ev.Blk:=fun st K=>match canonO (kq 2) st with | some s=>(match s with | ⟨[(a,.c (.sl tq b)),(d,.c (.clo e [])),(f,.c (i6 g)),(h,.c (i6 i))],[],j,k⟩=>bif qb [a,d,e,f,h,j,k] [0,1,72,7,8,0,0] then iter (dT Z) Z (b,g,i) (wa K) else none | _=>none) | none=>none
theorem Jm (Z:Nat) (st:Ev.St) (K:KT) (r:Ans) (h:la Z st K=some r):evalCode tab (zd Z) J0 kq Z (.block 0 (.loop (bodyOf 0 Tryz.f89))) st K=some r:=by
 unfold la at h
 split at h
 ·rename_i s hs
  split at h
  ·skip
   obtain ⟨hb,h⟩:=cond_some' h
   cases qb_eq hb
   exact blk_loop (S:=ug) (ks:=wa) (step:=dT Z) (v:=(_,_,_)) kr kr (fun R K v=>by obtain ⟨a,b,c⟩:=v; exact Qi Z (fs Z) R K a b c) hs h
  ·cases h
 ·cases h
def EN (Z:Nat) (i:Nat):Option Ev.Blk:=Ev.look i [(100000,la Z)]
def wb (Z:Nat) (b:fX) (a:(List BM)) (k0:(Int)→OA):OA:=(zL Z (a,(↑a.length:Int),0) (fun ret0_0=>k0 ret0_0) (fun ()=>k0 ((-1:Int))))
abbrev km:Type:=((List BM))→(Int→OA)→OA
def jt (Z:Nat):km:=wb Z (fs Z)
theorem Na (Z:Nat) (a:fX) (b:(List BM)) (k:Ev.Cont):evalFn tab (oT a) (EN Z) kq Z Tryz.f89 [.c (.sl tq b),.c (.clo 72 [])] [] k=wb Z a b (fun r=>match r with | d=>k (.c (i6 d),[])):=by
 kernel_rfl
theorem DD (Z:Nat):GOK prog (zd Z):=
 gc (GO Z) func72 kr rfl <|
 gok_nil
theorem Pg (Z:Nat):BlkOK prog Tryz.f89.ntmps (.block 0 (.loop (bodyOf 0 Tryz.f89))) (la Z):=bo0 (DD Z) kr kr (Jm Z)
def ta (F:km):Ev.Spec:=fun args objs k=>match args,objs with | [.c (.sl tq a),.c (.clo b [])],[]=>bif qb [b] [72] then F a (fun r=>match r with | d=>k (.c (i6 d),[])) else none | _,_=>none
theorem Fx (Z:Nat):FnOK prog 89 (ta (jt Z)):=by
 intro args objs kk r h
 unfold ta at h
 split at h
 ·skip
  obtain ⟨hb,h⟩:=cond_some' h
  cases qb_eq hb
  exact fo1 (DD Z) func89 rfl (Pg Z) kr _ _ kk r ((Na Z (fs Z) _ kk).trans h)
 ·cases h
def Jg (i:Nat):Option (List Nat):=Ev.look i []
def zN (a:km) (f:Nat):Option Ev.Spec:=Ev.look f [(89,ta a)]
def FD (Z:Nat):Nat→Option Ev.Spec:=zN (jt Z)
def wy (Z:Nat) (a:km) (b:(List BM)) (k0:(Bool)→OA):OA:=(a b (fun c=>k0 (decide (c≥0))))
abbrev iP:Type:=((List BM))→(Bool→OA)→OA
def eP (Z:Nat):iP:=wy Z (jt Z)
theorem Ow (Z:Nat) (a:km) (b:(List BM)) (k:Ev.Cont):evalFn tab (zN a) J0 Jg Z Tryz.f41 [.c (.sl tq b),.c (.clo 72 [])] [] k=wy Z a b (fun r=>match r with | d=>k (.c (.bool d),[])):=by
 kernel_rfl
theorem NI (Z:Nat):GOK prog (FD Z):=
 gc (Fx Z) func89 kr rfl <|
 gok_nil
def qH (F:iP):Ev.Spec:=fun args objs k=>match args,objs with | [.c (.sl tq a),.c (.clo b [])],[]=>bif qb [b] [72] then F a (fun r=>match r with | d=>k (.c (.bool d),[])) else none | _,_=>none
theorem Oj (Z:Nat):FnOK prog 41 (qH (eP Z)):=by
 intro args objs kk r h
 unfold qH at h
 split at h
 ·skip
  obtain ⟨hb,h⟩:=cond_some' h
  cases qb_eq hb
  exact fo0 (NI Z) func41 rfl kr _ _ kk r ((Ow Z (jt Z) _ kk).trans h)
 ·cases h
def Hl (i:Nat):Option (List Nat):=Ev.look i [(200001,[1])]
def Kj (f:Nat):Option Ev.Spec:=Ev.look f []
def CB (Z:Nat):Nat→Option Ev.Spec:=Kj
def aN (Z:Nat) (c a b:Int) (e:Bool) (d:Int) (k0:(Bool)→OA):OA:=bif decide (c≥0) then bif decide (c≤3) then bif d==0 then bif decide (a≥(-8:Int)) then bif decide (a≤8) then bif decide (b≥(-8:Int)) then bif decide (b≤0) then bif decide (b < 0) then k0 true else k0 (decide (a < 0)) else k0 false else k0 false else k0 false else k0 false else bif d==1 then bif decide (a≥(-8:Int)) then bif decide (a≤8) then bif decide (b≥(-8:Int)) then bif decide (b≤0) then bif decide (b < 0) then k0 true else k0 (decide (a < 0)) else k0 false else k0 false else k0 false else k0 false else k0 false else k0 false else k0 false
abbrev bk:Type:=Int→Int→Int→Bool→Int→(Bool→OA)→OA
theorem J8 (Z:Nat) (a b d:Int) (e:Bool) (f:Int) (k:Ev.Cont):evalFn tab (CB Z) J0 Hl Z Tryz.f128 [.agg [i6 a,i6 b,i6 d,.bool e,i6 f]] [] k=aN Z a b d e f (fun r=>match r with | g=>k (.c (.bool g),[])):=by
 kernel_rfl
theorem I4 (Z:Nat):GOK prog (CB Z):=
 gok_nil
def gB (F:bk):Ev.Spec:=fun args objs k=>match args,objs with | [.agg [i6 a,i6 b,i6 d,.bool e,i6 f]],[]=>F a b d e f (fun r=>match r with | g=>k (.c (.bool g),[])) | _,_=>none
theorem mL (Z:Nat):FnOK prog 128 (gB (aN Z)):=by
 intro args objs kk r h
 unfold gB at h
 split at h
 ·skip
  exact fo0 (I4 Z) func128 rfl kr _ _ kk r ((J8 Z _ _ _ _ _ kk).trans h)
 ·cases h
def Kv (i:Nat):Option (List Nat):=Ev.look i []
def DV (a:bk) (f:Nat):Option Ev.Spec:=Ev.look f [(128,gB a)]
def IV (Z:Nat):Nat→Option Ev.Spec:=DV (aN Z)
def uf (Z:Nat) (c:bk) (d e f:Int) (a:Bool) (g b:Int) (k0:(Bool)→OA):OA:=(c d e f a g (fun h=>bif h then bif !a then bif b==0 then k0 true else k0 (b==1) else k0 false else k0 false))
abbrev iT:Type:=Int→Int→Int→Bool→Int→Int→(Bool→OA)→OA
def iB (Z:Nat):iT:=uf Z (aN Z)
theorem Fq (Z:Nat) (a:bk) (b d e:Int) (f:Bool) (g h:Int) (k:Ev.Cont):evalFn tab (DV a) J0 Kv Z Tryz.f126 [.agg [i6 b,i6 d,i6 e,.bool f,i6 g,i6 h]] [] k=uf Z a b d e f g h (fun r=>match r with | i=>k (.c (.bool i),[])):=by
 kernel_rfl
theorem Hv (Z:Nat):GOK prog (IV Z):=
 gc (mL Z) func128 kr rfl <|
 gok_nil
def qS (F:iT):Ev.Spec:=fun args objs k=>match args,objs with | [.agg [i6 a,i6 b,i6 d,.bool e,i6 f,i6 g]],[]=>F a b d e f g (fun r=>match r with | h=>k (.c (.bool h),[])) | _,_=>none
theorem LX (Z:Nat):FnOK prog 126 (qS (iB Z)):=by
 intro args objs kk r h
 unfold qS at h
 split at h
 ·skip
  exact fo0 (Hv Z) func126 rfl kr _ _ kk r ((Fq Z (aN Z) _ _ _ _ _ _ kk).trans h)
 ·cases h
def Pf (i:Nat):Option (List Nat):=Ev.look i []
def Jt (f:Nat):Option Ev.Spec:=Ev.look f []
def Dq (Z:Nat):Nat→Option Ev.Spec:=Jt
def dc (Z:Nat) (a:Int) (k0:((List (Int×Int)))→OA):OA:=bif a==0 then k0 ([((-1:Int),(-2:Int)),(0,(-2:Int)),(1,(-2:Int)),((-2:Int),(-1:Int)),((-1:Int),(-1:Int)),(0,(-1:Int)),(1,(-1:Int)),(2,(-1:Int)),((-2:Int),0),((-1:Int),0)]) else bif a==1 then k0 ([((-1:Int),(-2:Int)),(0,(-2:Int)),((-1:Int),(-1:Int)),(0,(-1:Int)),(1,(-1:Int)),((-2:Int),0),((-1:Int),0)]) else bif a==2 then k0 ([((-2:Int),(-1:Int)),((-1:Int),(-1:Int)),(0,(-1:Int)),(1,(-1:Int)),(2,(-1:Int)),((-2:Int),0),((-1:Int),0)]) else k0 ([((-1:Int),(-1:Int)),(0,(-1:Int)),(1,(-1:Int)),((-1:Int),0)])
abbrev fq:Type:=Int→(((List (Int×Int)))→OA)→OA
theorem Jc (Z:Nat) (a:Int) (k:Ev.Cont):evalFn tab (Dq Z) J0 Pf Z Tryz.f163 [.c (i6 a)] [] k=dc Z a (fun r=>match r with | b=>k (.c (.own 0),[.vec 22 (.pair ti ti) b true])):=by
 kernel_rfl
theorem LY (Z:Nat):GOK prog (Dq Z):=
 gok_nil
def lU (F:fq):Ev.Spec:=fun args objs k=>match args,objs with | [.c (i6 a)],[]=>F a (fun r=>match r with | b=>k (.c (.own 0),[.vec 22 (.pair ti ti) b true])) | _,_=>none
theorem Ai (Z:Nat):FnOK prog 163 (lU (dc Z)):=by
 intro args objs kk r h
 unfold lU at h
 split at h
 ·skip
  exact fo0 (LY Z) func163 rfl kr _ _ kk r ((Jc Z _ kk).trans h)
 ·cases h
def HK (i:Nat):Option (List Nat):=Ev.look i []
def AZ (a:fq) (f:Nat):Option Ev.Spec:=Ev.look f [(163,lU a)]
def FW (Z:Nat):Nat→Option Ev.Spec:=AZ (dc Z)
def rT (Z:Nat) (a:fq) (b d e:Int) (f:Bool) (g:Int) (k0:(Int)→OA):OA:=(a b (fun c=>k0 (Ev.ishl IntKind.i64 2 (↑c.length:Int))))
abbrev aD:Type:=Int→Int→Int→Bool→Int→(Int→OA)→OA
def aB (Z:Nat):aD:=rT Z (dc Z)
theorem Mm (Z:Nat) (a:fq) (b d e:Int) (f:Bool) (g:Int) (k:Ev.Cont):evalFn tab (AZ a) J0 HK Z Tryz.f129 [.agg [i6 b,i6 d,i6 e,.bool f,i6 g]] [] k=rT Z a b d e f g (fun r=>match r with | h=>k (.c (i6 h),[])):=by
 kernel_rfl
theorem Nx (Z:Nat):GOK prog (FW Z):=
 gc (Ai Z) func163 kr rfl <|
 gok_nil
def gZ (F:aD):Ev.Spec:=fun args objs k=>match args,objs with | [.agg [i6 a,i6 b,i6 d,.bool e,i6 f]],[]=>F a b d e f (fun r=>match r with | g=>k (.c (i6 g),[])) | _,_=>none
theorem mR (Z:Nat):FnOK prog 129 (gZ (aB Z)):=by
 intro args objs kk r h
 unfold gZ at h
 split at h
 ·skip
  exact fo0 (Nx Z) func129 rfl kr _ _ kk r ((Mm Z (dc Z) _ _ _ _ _ kk).trans h)
 ·cases h
def Hx (i:Nat):Option (List Nat):=Ev.look i []
def Cs (a:bk) (b:aD) (f:Nat):Option Ev.Spec:=Ev.look f [(128,gB a),(129,gZ b)]
def JQ (Z:Nat):Nat→Option Ev.Spec:=Cs (aN Z) (aB Z)
def wV (Z:Nat) (f:bk) (g:aD) (a b c:Int) (d:Bool) (e:Int) (k0:(Int×Int)→OA):OA:=(f a b c d e (fun h=>bif !h then k0 (0,2) else (g a b c d e (fun i=>k0 (i64.wrap (i+1),0)))))
abbrev jw:Type:=Int→Int→Int→Bool→Int→((Int×Int)→OA)→OA
def eZ (Z:Nat):jw:=wV Z (aN Z) (aB Z)
theorem Jp (Z:Nat) (a:bk) (b:aD) (c d e:Int) (f:Bool) (g:Int) (k:Ev.Cont):evalFn tab (Cs a b) J0 Hx Z Tryz.f74 [.agg [i6 c,i6 d,i6 e,.bool f,i6 g]] [] k=wV Z a b c d e f g (fun r=>match r with | (h,i)=>k (.tup [(false,[i6 h]),(false,[i6 i])],[])):=by
 kernel_rfl
theorem Qb (Z:Nat):GOK prog (JQ Z):=
 gc (mL Z) func128 kr rfl <|
 gc (mR Z) func129 kr rfl <|
 gok_nil
def ry (F:jw):Ev.Spec:=fun args objs k=>match args,objs with | [.agg [i6 a,i6 b,i6 c,.bool d,i6 e]],[]=>F a b c d e (fun r=>match r with | (f,g)=>k (.tup [(false,[i6 f]),(false,[i6 g])],[])) | _,_=>none
theorem Oi (Z:Nat):FnOK prog 74 (ry (eZ Z)):=by
 intro args objs kk r h
 unfold ry at h
 split at h
 ·skip
  exact fo0 (Qb Z) func74 rfl kr _ _ kk r ((Jp Z (aN Z) (aB Z) _ _ _ _ _ kk).trans h)
 ·cases h
def He (i:Nat):Option (List Nat):=Ev.look i []
def Gd (f:Nat):Option Ev.Spec:=Ev.look f []
def zl (Z:Nat):Nat→Option Ev.Spec:=Gd
def ap (Z:Nat) (a:Int) (k0:((List (Int×Int)))→OA):OA:=bif a==0 then k0 ([((-1:Int),(-1:Int)),(0,(-1:Int)),(1,(-1:Int)),((-1:Int),0)]) else k0 ([(0,(-1:Int)),((-1:Int),0)])
abbrev aL:Type:=Int→(((List (Int×Int)))→OA)→OA
theorem Gx (Z:Nat) (a:Int) (k:Ev.Cont):evalFn tab (zl Z) J0 He Z Tryz.f164 [.c (i6 a)] [] k=ap Z a (fun r=>match r with | b=>k (.c (.own 0),[.vec 22 (.pair ti ti) b true])):=by
 kernel_rfl
theorem I2 (Z:Nat):GOK prog (zl Z):=
 gok_nil
def kR (F:aL):Ev.Spec:=fun args objs k=>match args,objs with | [.c (i6 a)],[]=>F a (fun r=>match r with | b=>k (.c (.own 0),[.vec 22 (.pair ti ti) b true])) | _,_=>none
theorem rG (Z:Nat):FnOK prog 164 (kR (ap Z)):=by
 intro args objs kk r h
 unfold kR at h
 split at h
 ·skip
  exact fo0 (I2 Z) func164 rfl kr _ _ kk r ((Gx Z _ kk).trans h)
 ·cases h
def EE (i:Nat):Option (List Nat):=Ev.look i []
def Ae (a:aL) (f:Nat):Option Ev.Spec:=Ev.look f [(164,kR a)]
def Pe (Z:Nat):Nat→Option Ev.Spec:=Ae (ap Z)
def oO (Z:Nat) (a:aL) (b:Int) (k0:(Int)→OA):OA:=(a b (fun c=>k0 (Ev.ishl IntKind.i64 32 (↑c.length:Int))))
abbrev aE:Type:=Int→(Int→OA)→OA
def az (Z:Nat):aE:=oO Z (ap Z)
theorem Ga (Z:Nat) (a:aL) (b:Int) (k:Ev.Cont):evalFn tab (Ae a) J0 EE Z Tryz.f130 [.c (i6 b)] [] k=oO Z a b (fun r=>match r with | d=>k (.c (i6 d),[])):=by
 kernel_rfl
theorem Ox (Z:Nat):GOK prog (Pe Z):=
 gc (rG Z) func164 kr rfl <|
 gok_nil
def go (F:aE):Ev.Spec:=fun args objs k=>match args,objs with | [.c (i6 a)],[]=>F a (fun r=>match r with | b=>k (.c (i6 b),[])) | _,_=>none
theorem lh (Z:Nat):FnOK prog 130 (go (az Z)):=by
 intro args objs kk r h
 unfold go at h
 split at h
 ·skip
  exact fo0 (Ox Z) func130 rfl kr _ _ kk r ((Ga Z (ap Z) _ kk).trans h)
 ·cases h
def NJ (i:Nat):Option (List Nat):=Ev.look i []
def DN (a:aE) (f:Nat):Option Ev.Spec:=Ev.look f [(130,go a)]
def Nf (Z:Nat):Nat→Option Ev.Spec:=DN (az Z)
def zZ (Z:Nat) (b:aE) (a:Int) (k0:(Int×Int)→OA):OA:=bif a != 0 then bif a != 1 then k0 (0,2) else (b a (fun c=>k0 (i64.wrap (c+1),0))) else (b a (fun d=>k0 (i64.wrap (d+1),0)))
abbrev jE:Type:=Int→((Int×Int)→OA)→OA
def kS (Z:Nat):jE:=zZ Z (az Z)
theorem I1 (Z:Nat) (a:aE) (b:Int) (k:Ev.Cont):evalFn tab (DN a) J0 NJ Z Tryz.f75 [.c (i6 b)] [] k=zZ Z a b (fun r=>match r with | (d,e)=>k (.tup [(false,[i6 d]),(false,[i6 e])],[])):=by
 kernel_rfl
theorem Gk (Z:Nat):GOK prog (Nf Z):=
 gc (lh Z) func130 kr rfl <|
 gok_nil
def xk (F:jE):Ev.Spec:=fun args objs k=>match args,objs with | [.c (i6 a)],[]=>F a (fun r=>match r with | (b,d)=>k (.tup [(false,[i6 b]),(false,[i6 d])],[])) | _,_=>none
theorem NP (Z:Nat):FnOK prog 75 (xk (kS Z)):=by
 intro args objs kk r h
 unfold xk at h
 split at h
 ·skip
  exact fo0 (Gk Z) func75 rfl kr _ _ kk r ((I1 Z (az Z) _ kk).trans h)
 ·cases h
def Ql (i:Nat):Option (List Nat):=Ev.look i [(200001,[2]),(900001,[2,4,5])]
def D1 (a:kL) (b:jw) (c:jE) (f:Nat):Option Ev.Spec:=Ev.look f [(73,tO a),(74,ry b),(75,xk c)]
def OD (Z:Nat):Nat→Option Ev.Spec:=D1 (gv Z) (eZ Z) (kS Z)
def sC (Z:Nat) (j:kL) (k:jw) (l:jE) (b c d:Int) (e:Bool) (f g m:Int) (k0:(Int×Int×Int×Bool×Int×Int×Int×Int×Int×Int)→OA):OA:=both ((j m (fun a=>(fun (z0:OA)=>both z0 z0) ((k b c d e f (fun (h,p)=>(l g (fun (n,q)=>bif decide (a < 0) then none else k0 (b,c,d,e,f,g,a,i64.wrap (i64.wrap (241+Ev.ishl IntKind.i64 1 a) - 1),i64.wrap (i64.wrap (i64.wrap (241+Ev.ishl IntKind.i64 1 a) - 1)+h),i64.wrap (i64.wrap (i64.wrap (i64.wrap (241+Ev.ishl IntKind.i64 1 a) - 1)+h)+n)))))))))) ((j m (fun a=>(k b c d e f (fun (i,s)=>(l g (fun (o,r)=>bif decide (a < 0) then none else k0 (b,c,d,e,f,g,a,i64.wrap (i64.wrap (241+Ev.ishl IntKind.i64 1 a) - 1),i64.wrap (i64.wrap (i64.wrap (241+Ev.ishl IntKind.i64 1 a) - 1)+i),i64.wrap (i64.wrap (i64.wrap (i64.wrap (241+Ev.ishl IntKind.i64 1 a) - 1)+i)+o)))))))))
abbrev bN:Type:=Int→Int→Int→Bool→Int→Int→Int→((Int×Int×Int×Bool×Int×Int×Int×Int×Int×Int)→OA)→OA
def bt (Z:Nat):bN:=sC Z (gv Z) (eZ Z) (kS Z)
theorem GX (Z:Nat) (a:kL) (b:jw) (d:jE) (e f g:Int) (h:Bool) (i j l:Int) (k:Ev.Cont):evalFn tab (D1 a b d) J0 Ql Z Tryz.f27 [.agg [i6 e,i6 f,i6 g,.bool h,i6 i,i6 j],.c (i6 l)] [] k=sC Z a b d e f g h i j l (fun r=>match r with | (m,n,o,p,q,s,t,u,v,w)=>k (.agg [i6 m,i6 n,i6 o,.bool p,i6 q,i6 s,i6 t,i6 u,i6 v,i6 w],[])):=by
 kernel_rfl
theorem Ie (Z:Nat):GOK prog (OD Z):=
 gc (zU Z) func73 kr rfl <|
 gc (Oi Z) func74 kr rfl <|
 gc (NP Z) func75 kr rfl <|
 gok_nil
def kQ (F:bN):Ev.Spec:=fun args objs k=>match args,objs with | [.agg [i6 a,i6 b,i6 d,.bool e,i6 f,i6 g],.c (i6 h)],[]=>F a b d e f g h (fun r=>match r with | (i,j,l,m,n,o,p,q,s,t)=>k (.agg [i6 i,i6 j,i6 l,.bool m,i6 n,i6 o,i6 p,i6 q,i6 s,i6 t],[])) | _,_=>none
theorem qL (Z:Nat):FnOK prog 27 (kQ (bt Z)):=by
 intro args objs kk r h
 unfold kQ at h
 split at h
 ·skip
  exact fo0 (Ie Z) func27 rfl kr _ _ kk r ((GX Z (gv Z) (eZ Z) (kS Z) _ _ _ _ _ _ _ kk).trans h)
 ·cases h
def Ig (i:Nat):Option (List Nat):=Ev.look i []
def Au (b:bN) (a:iT) (f:Nat):Option Ev.Spec:=Ev.look f [(27,kQ b),(126,qS a)]
def FP (Z:Nat):Nat→Option Ev.Spec:=Au (bt Z) (iB Z)
def yZ (Z:Nat) (j:bN) (g:iT) (a b c:Int) (d:Bool) (e f:Int) (k0:(Int×Int)→OA):OA:=(g a b c d e f (fun k=>bif !k then k0 (0,2) else (j a b c d e f (0) (fun (l,m,n,o,p,q,r,h,s,i)=>k0 (i64.wrap (i - h),0)))))
abbrev i5:Type:=Int→Int→Int→Bool→Int→Int→((Int×Int)→OA)→OA
def il (Z:Nat):i5:=yZ Z (bt Z) (iB Z)
theorem Lr (Z:Nat) (b:bN) (a:iT) (c d e:Int) (f:Bool) (g h:Int) (k:Ev.Cont):evalFn tab (Au b a) J0 Ig Z Tryz.f70 [.agg [i6 c,i6 d,i6 e,.bool f,i6 g,i6 h]] [] k=yZ Z b a c d e f g h (fun r=>match r with | (i,j)=>k (.tup [(false,[i6 i]),(false,[i6 j])],[])):=by
 kernel_rfl
theorem K6 (Z:Nat):GOK prog (FP Z):=
 gc (qL Z) func27 kr rfl <|
 gc (LX Z) func126 kr rfl <|
 gok_nil
def vR (F:i5):Ev.Spec:=fun args objs k=>match args,objs with | [.agg [i6 a,i6 b,i6 c,.bool d,i6 e,i6 f]],[]=>F a b c d e f (fun r=>match r with | (g,h)=>k (.tup [(false,[i6 g]),(false,[i6 h])],[])) | _,_=>none
theorem ND (Z:Nat):FnOK prog 70 (vR (il Z)):=by
 intro args objs kk r h
 unfold vR at h
 split at h
 ·skip
  exact fo0 (K6 Z) func70 rfl kr _ _ kk r ((Lr Z (bt Z) (iB Z) _ _ _ _ _ _ kk).trans h)
 ·cases h
def Fe (i:Nat):Option (List Nat):=Ev.look i []
def CC (a:iP) (b:i5) (c:bY) (f:Nat):Option Ev.Spec:=Ev.look f [(41,qH a),(70,vR b),(71,i9 c)]
def OB (Z:Nat):Nat→Option Ev.Spec:=CC (eP Z) (il Z) (aT Z)
def vD (Z:Nat) (c:iP) (i:i5) (j:bY) (l m n:Int) (o:Bool) (e p f:Int) (a:LI) (g:(List (Int×Int×LI))) (k0:(Int)→OA):OA:=(i l m n o e p (fun (h,d)=>bif d != 0 then k0 d else bif decide ((↑a.length:Int) > 0) then (j f a (fun b=>bif !b then k0 (10) else bif f != e then k0 (10) else bif (↑a.length:Int) != h then k0 (10) else (c g (fun k=>bif k then k0 (30) else k0 (0))))) else (c g (fun b=>bif b then k0 (30) else k0 (0)))))
abbrev cX:Type:=Int→Int→Int→Bool→Int→Int→Int→LI→((List (Int×Int×LI)))→(Int→OA)→OA
def cw (Z:Nat):cX:=vD Z (eP Z) (il Z) (aT Z)
theorem IG (Z:Nat) (a:iP) (b:i5) (d:bY) (e f g:Int) (h:Bool) (i j l:Int) (m:LI) (n:(List (Int×Int×LI))) (k:Ev.Cont):evalFn tab (CC a b d) J0 Fe Z Tryz.f25 [.agg [i6 e,i6 f,i6 g,.bool h,i6 i,i6 j],.agg [i6 l,.sl ti m],.c (.sl tq n)] [] k=vD Z a b d e f g h i j l m n (fun r=>match r with | o=>k (.c (i6 o),[])):=by
 kernel_rfl
theorem GH (Z:Nat):GOK prog (OB Z):=
 gc (Oj Z) func41 kr rfl <|
 gc (ND Z) func70 kr rfl <|
 gc (nK Z) func71 kr rfl <|
 gok_nil
def na (F:cX):Ev.Spec:=fun args objs k=>match args,objs with | [.agg [i6 a,i6 b,i6 d,.bool e,i6 f,i6 g],.agg [i6 h,.sl ti i],.c (.sl tq j)],[]=>F a b d e f g h i j (fun r=>match r with | l=>k (.c (i6 l),[])) | _,_=>none
theorem Dm (Z:Nat):FnOK prog 25 (na (cw Z)):=by
 intro args objs kk r h
 unfold na at h
 split at h
 ·skip
  exact fo0 (GH Z) func25 rfl kr _ _ kk r ((IG Z (eP Z) (il Z) (aT Z) _ _ _ _ _ _ _ _ _ kk).trans h)
 ·cases h
def IU (i:Nat):Option (List Nat):=Ev.look i []
def KP (f:Nat):Option Ev.Spec:=Ev.look f []
def DP (Z:Nat):Nat→Option Ev.Spec:=KP
def eO (Z:Nat) (a:LI) (k0:(LI)→OA):OA:=bif decide ((↑a.length:Int)=0) then both (k0 []) (bif decide (((0:Nat)+a.length)*(8:Nat)≤(140737488355328:Nat)∧(0:Nat)+a.length≤(140737488355328:Nat)) then k0 ([]++a) else none) else bif decide (((0:Nat)+a.length)*(8:Nat)≤(140737488355328:Nat)∧(0:Nat)+a.length≤(140737488355328:Nat)) then k0 ([]++a) else none
abbrev oQ:Type:=LI→(LI→OA)→OA
theorem GA (Z:Nat) (a:LI) (k:Ev.Cont):evalFn tab (DP Z) J0 IU Z Tryz.f82 [.c (.sl ti a)] [] k=eO Z a (fun r=>match r with | b=>k (.c (.own 0),[.vec 3 ti b true])):=by
 kernel_rfl
theorem F4 (Z:Nat):GOK prog (DP Z):=
 gok_nil
def xo (F:oQ):Ev.Spec:=fun args objs k=>match args,objs with | [.c (.sl ti a)],[]=>F a (fun r=>match r with | b=>k (.c (.own 0),[.vec 3 ti b true])) | _,_=>none
theorem H7 (Z:Nat):FnOK prog 82 (xo (eO Z)):=by
 intro args objs kk r h
 unfold xo at h
 split at h
 ·skip
  exact fo0 (F4 Z) func82 rfl kr _ _ kk r ((GA Z _ kk).trans h)
 ·cases h
def Kd (i:Nat):Option (List Nat):=Ev.look i [(200001,[2,3])]
def Ba (a:oQ) (f:Nat):Option Ev.Spec:=Ev.look f [(82,xo a)]
def O0 (Z:Nat):Nat→Option Ev.Spec:=Ba (eO Z)
def rd (Z:Nat) (c:oQ) (f g h:Int) (i:Bool) (j k:Int) (l b:Int) (m n d:Int) (a:LI) (k0:(Int×LI)→OA):OA:=bif decide (0≤Ev.loOf (some b)∧Ev.loOf (some b)≤Ev.hiOf Option.none (↑a.length:Int)∧Ev.hiOf Option.none (↑a.length:Int)≤(↑a.length:Int)) then (c (List.take (Ev.hiOf Option.none (↑a.length:Int) - Ev.loOf (some b)).toNat (List.drop (Ev.loOf (some b)).toNat a)) (fun e=>k0 (d,e))) else none
abbrev cE:Type:=Int→Int→Int→Bool→Int→Int→Int→Int→Int→Int→Int→LI→((Int×LI)→OA)→OA
def cu (Z:Nat):cE:=rd Z (eO Z)
theorem Og (Z:Nat) (a:oQ) (d e f:Int) (g:Bool) (h i:Int) (j l:Int) (m n b:Int) (c:LI) (k:Ev.Cont):evalFn tab (Ba a) J0 Kd Z Tryz.f34 [.agg [i6 d,i6 e,i6 f,.bool g,i6 h,i6 i,i6 j,i6 l,i6 m,i6 n],.agg [i6 b,.sl ti c]] [] k=rd Z a d e f g h i j l m n b c (fun r=>match r with | (o,p)=>k (.agg [i6 o,.own 0],[.vec 3 ti p true])):=by
 kernel_rfl
theorem OT (Z:Nat):GOK prog (O0 Z):=
 gc (H7 Z) func82 kr rfl <|
 gok_nil
def ly (F:cE):Ev.Spec:=fun args objs k=>match args,objs with | [.agg [i6 c,i6 d,i6 e,.bool f,i6 g,i6 h,i6 i,i6 j,i6 l,i6 m],.agg [i6 a,.sl ti b]],[]=>F c d e f g h i j l m a b (fun r=>match r with | (n,o)=>k (.agg [i6 n,.own 0],[.vec 3 ti o true])) | _,_=>none
theorem CP (Z:Nat):FnOK prog 34 (ly (cu Z)):=by
 intro args objs kk r h
 unfold ly at h
 split at h
 ·skip
  exact fo0 (OT Z) func34 rfl kr _ _ kk r ((Og Z (eO Z) _ _ _ _ _ _ _ _ _ _ _ _ kk).trans h)
 ·cases h
def NV (i:Nat):Option (List Nat):=Ev.look i [(200002,[2,3,5])]
def zB (a:oD) (f:Nat):Option Ev.Spec:=Ev.look f [(77,rH a)]
def LE (Z:Nat):Nat→Option Ev.Spec:=zB (fh Z)
def yY (Z:Nat) (e:oD) (j k l:Int) (m:Bool) (f n:Int) (o b:Int) (p g i:Int) (c:LI) (k0:(Int×LI)→OA):OA:=(e f g (fun (d,h,a)=>bif decide (0≤Ev.loOf (some b)∧Ev.loOf (some b)≤Ev.hiOf Option.none (↑a.length:Int)∧Ev.hiOf Option.none (↑a.length:Int)≤(↑a.length:Int)) then k0 (d,List.take (Ev.loOf (some b)).toNat a++List.take (Ev.hiOf Option.none (↑a.length:Int) - Ev.loOf (some b)).toNat c++List.drop ((Ev.loOf (some b)).toNat+Min.min (Ev.hiOf Option.none (↑a.length:Int) - Ev.loOf (some b)).toNat c.length) a) else none))
abbrev da:Type:=Int→Int→Int→Bool→Int→Int→Int→Int→Int→Int→Int→LI→((Int×LI)→OA)→OA
def ct (Z:Nat):da:=yY Z (fh Z)
theorem EC (Z:Nat) (a:oD) (d e f:Int) (g:Bool) (h i:Int) (j l:Int) (m n b:Int) (c:LI) (k:Ev.Cont):evalFn tab (zB a) J0 NV Z Tryz.f29 [.agg [i6 d,i6 e,i6 f,.bool g,i6 h,i6 i,i6 j,i6 l,i6 m,i6 n],.agg [i6 b,.sl ti c]] [] k=yY Z a d e f g h i j l m n b c (fun r=>match r with | (o,p)=>k (.agg [i6 o,.own 0],[.vec 3 ti p true])):=by
 kernel_rfl
theorem J9 (Z:Nat):GOK prog (LE Z):=
 gc (D9 Z) func77 kr rfl <|
 gok_nil
def mG (F:da):Ev.Spec:=fun args objs k=>match args,objs with | [.agg [i6 c,i6 d,i6 e,.bool f,i6 g,i6 h,i6 i,i6 j,i6 l,i6 m],.agg [i6 a,.sl ti b]],[]=>F c d e f g h i j l m a b (fun r=>match r with | (n,o)=>k (.agg [i6 n,.own 0],[.vec 3 ti o true])) | _,_=>none
theorem zp (Z:Nat):FnOK prog 29 (mG (ct Z)):=by
 intro args objs kk r h
 unfold mG at h
 split at h
 ·skip
  exact fo0 (J9 Z) func29 rfl kr _ _ kk r ((EC Z (fh Z) _ _ _ _ _ _ _ _ _ _ _ _ kk).trans h)
 ·cases h
def Iz (i:Nat):Option (List Nat):=Ev.look i []
def LU (f:Nat):Option Ev.Spec:=Ev.look f []
def AO (Z:Nat):Nat→Option Ev.Spec:=LU
def aG (Z:Nat) (p q:Int) (r s:Int) (t:Bool) (u v:Int) (w x:Int) (y b:Int) (c a:Int) (d e:Int) (f g:Int) (h i:Int) (j k:Bool) (l:(List BM)) (m:(List (BM×Int))) (n o:LI) (k0:(Bool×Int×Int×Int×Bool×Int×Int×Int×Int×Int×Int×Int×Int×Int×Int×Int×Int×Int×Int×Bool×Bool×(List BM)×(List (BM×Int))×LI×LI)→OA):OA:=bif a==0 then k0 (p==0,q,r,s,t,u,v,w,x,y,b,c,p,d,e,f,g,h,i,j,k,l,m,n,o) else k0 (a==0,q,r,s,t,u,v,w,x,y,b,c,a,d,e,f,g,h,i,j,k,l,m,n,o)
abbrev dh:Type:=Int→Int→Int→Int→Bool→Int→Int→Int→Int→Int→Int→Int→Int→Int→Int→Int→Int→Int→Int→Bool→Bool→((List BM))→((List (BM×Int)))→LI→LI→((Bool×Int×Int×Int×Bool×Int×Int×Int×Int×Int×Int×Int×Int×Int×Int×Int×Int×Int×Int×Bool×Bool×(List BM)×(List (BM×Int))×LI×LI)→OA)→OA
theorem OZ (Z:Nat) (s t:Int) (u v:Int) (w:Bool) (x y:Int) (z A:Int) (B a:Int) (b d:Int) (e f:Int) (g h:Int) (i j:Int) (l m:Bool) (n:(List BM)) (o:(List (BM×Int))) (p q:LI) (k:Ev.Cont):evalFn tab (AO Z) J0 Iz Z Tryz.f142 [.c (.ptr 0 0),.c (i6 s)] [.cells 86 [i6 t,i6 u,i6 v,.bool w,i6 x,i6 y,i6 z,i6 A,i6 B,i6 a,.ptr 1 0,.own 2,.own 3,i6 b,i6 d],.cells 147 (i6 e::.own 4::ctb (.int .u64 f::.int .u64 g::.own 5::i6 h::.int .u64 i::i6 j::.bool l::.bool m::[])),.vec 29 tq n false,.vec 36 (.pair tq ti) o false,.vec 3 ti p false,.vec 5 (.int .u8) q false] k=aG Z s t u v w x y z A B a b d e f g h i j l m n o p q (fun r=>match r with | (R,S,T,U,V,W,X,Y,a0,a1,C,D,E,F,G,H,I,J,K,L,M,N,O,P,Q)=>k (.c (.bool R),[.cells 86 [i6 S,i6 T,i6 U,.bool V,i6 W,i6 X,i6 Y,i6 a0,i6 a1,i6 C,.ptr 1 0,.own 2,.own 3,i6 D,i6 E],.cells 147 (i6 F::.own 4::ctb (.int .u64 G::.int .u64 H::.own 5::i6 I::.int .u64 J::i6 K::.bool L::.bool M::[])),.vec 29 tq N false,.vec 36 (.pair tq ti) O false,.vec 3 ti P false,.vec 5 (.int .u8) Q false])):=by
 kernel_rfl
theorem Ge (Z:Nat):GOK prog (AO Z):=
 gok_nil
def kM (F:dh):Ev.Spec:=fun args objs k=>match args,objs with | [.c (.ptr N O),.c (i6 P)],[.cells Q [i6 R,i6 S,i6 T,.bool U,i6 V,i6 W,i6 X,i6 Y,i6 a0,i6 a,.ptr a1 a2,.own a3,.own a4,i6 b,i6 d],.cells a5 e,.vec a6 tq f false,.vec a7 (.pair tq ti) g false,.vec h ti i false,.vec j (.int .u8) l false]=>(match splitRun 2 ctn e with | some ([i6 m,.own n],[.int .u64 o,.int .u64 p,.own q,i6 s,.int .u64 t,i6 u,.bool v,.bool w])=>bif qb [N,O,Q,a1,a2,a3,a4,a5,a6,a7,h,j,n,q] [0,0,86,1,0,2,3,147,29,36,3,5,4,5] then F P R S T U V W X Y a0 a b d m o p s t u v w f g i l (fun r=>match r with | (a8,a9,b0,b1,b2,b3,b4,b5,b6,b7,x,y,z,A,B,C,D,E,G,H,I,J,K,L,M)=>k (.c (.bool a8),[.cells 86 [i6 a9,i6 b0,i6 b1,.bool b2,i6 b3,i6 b4,i6 b5,i6 b6,i6 b7,i6 x,.ptr 1 0,.own 2,.own 3,i6 y,i6 z],.cells 147 (i6 A::.own 4::ctb (.int .u64 B::.int .u64 C::.own 5::i6 D::.int .u64 E::i6 G::.bool H::.bool I::[])),.vec 29 tq J false,.vec 36 (.pair tq ti) K false,.vec 3 ti L false,.vec 5 (.int .u8) M false])) else none | _=>none) | _,_=>none
theorem vt (Z:Nat):FnOK prog 142 (kM (aG Z)):=by
 intro args objs kk r h
 unfold kM at h
 split at h
 ·skip
  split at h
  rotate_left 1
  ·cases h
  rename_i hsp
  have esp:=splitRun_eq hsp
  subst esp
  obtain ⟨hb,h⟩:=cond_some' h
  cases qb_eq hb
  exact fo0 (Ge Z) func142 rfl kr _ _ kk r ((OZ Z _ _ _ _ _ _ _ _ _ _ _ _ _ _ _ _ _ _ _ _ _ _ _ _ _ kk).trans h)
 ·cases h
def L3 (i:Nat):Option (List Nat):=Ev.look i []
def AB (a:dh) (f:Nat):Option Ev.Spec:=Ev.look f [(142,kM a)]
def EJ (Z:Nat):Nat→Option Ev.Spec:=AB (aG Z)
def u3 (Z:Nat) (y:dh) (Y:Bool) (p q r:Int) (s:Bool) (t u:Int) (v w:Int) (x b:Int) (c a:Int) (d e:Int) (f g:Int) (h i:Int) (j k:Bool) (l:(List BM)) (m:(List (BM×Int))) (n o:LI) (k0:(Bool×Int×Int×Int×Bool×Int×Int×Int×Int×Int×Int×Int×Int×Int×Int×Int×Int×Int×Int×Bool×Bool×(List BM)×(List (BM×Int))×LI×LI)→OA):OA:=bif !Y then (y (3) p q r s t u v w x b c a d e f g h i j k l m n o (fun (O,P,Q,R,S,T,U,V,W,X,z,A,B,C,D,E,F,G,H,I,J,K,L,M,N)=>k0 (O,P,Q,R,S,T,U,V,W,X,z,A,B,C,D,E,F,G,H,I,J,K,L,M,N))) else k0 (a==0,p,q,r,s,t,u,v,w,x,b,c,a,d,e,f,g,h,i,j,k,l,m,n,o)
abbrev bX:Type:=Bool→Int→Int→Int→Bool→Int→Int→Int→Int→Int→Int→Int→Int→Int→Int→Int→Int→Int→Int→Bool→Bool→((List BM))→((List (BM×Int)))→LI→LI→((Bool×Int×Int×Int×Bool×Int×Int×Int×Int×Int×Int×Int×Int×Int×Int×Int×Int×Int×Int×Bool×Bool×(List BM)×(List (BM×Int))×LI×LI)→OA)→OA
def bg (Z:Nat):bX:=u3 Z (aG Z)
theorem IC (Z:Nat) (a:dh) (t:Bool) (u v w:Int) (x:Bool) (y z:Int) (A B:Int) (C b:Int) (d e:Int) (f g:Int) (h i:Int) (j l:Int) (m n:Bool) (o:(List BM)) (p:(List (BM×Int))) (q s:LI) (k:Ev.Cont):evalFn tab (AB a) J0 L3 Z Tryz.f86 [.c (.ptr 0 0),.c (.bool t)] [.cells 86 [i6 u,i6 v,i6 w,.bool x,i6 y,i6 z,i6 A,i6 B,i6 C,i6 b,.ptr 1 0,.own 2,.own 3,i6 d,i6 e],.cells 147 (i6 f::.own 4::ctb (.int .u64 g::.int .u64 h::.own 5::i6 i::.int .u64 j::i6 l::.bool m::.bool n::[])),.vec 29 tq o false,.vec 36 (.pair tq ti) p false,.vec 3 ti q false,.vec 5 (.int .u8) s false] k=u3 Z a t u v w x y z A B C b d e f g h i j l m n o p q s (fun r=>match r with | (S,T,U,V,W,X,Y,a0,a1,a2,D,E,F,G,H,I,J,K,L,M,N,O,P,Q,R)=>k (.c (.bool S),[.cells 86 [i6 T,i6 U,i6 V,.bool W,i6 X,i6 Y,i6 a0,i6 a1,i6 a2,i6 D,.ptr 1 0,.own 2,.own 3,i6 E,i6 F],.cells 147 (i6 G::.own 4::ctb (.int .u64 H::.int .u64 I::.own 5::i6 J::.int .u64 K::i6 L::.bool M::.bool N::[])),.vec 29 tq O false,.vec 36 (.pair tq ti) P false,.vec 3 ti Q false,.vec 5 (.int .u8) R false])):=by
 kernel_rfl
theorem FE (Z:Nat):GOK prog (EJ Z):=
 gc (vt Z) func142 kr rfl <|
 gok_nil
def ky (F:bX):Ev.Spec:=fun args objs k=>match args,objs with | [.c (.ptr N O),.c (.bool P)],[.cells Q [i6 R,i6 S,i6 T,.bool U,i6 V,i6 W,i6 X,i6 Y,i6 a0,i6 a,.ptr a1 a2,.own a3,.own a4,i6 b,i6 d],.cells a5 e,.vec a6 tq f false,.vec a7 (.pair tq ti) g false,.vec h ti i false,.vec j (.int .u8) l false]=>(match splitRun 2 ctn e with | some ([i6 m,.own n],[.int .u64 o,.int .u64 p,.own q,i6 s,.int .u64 t,i6 u,.bool v,.bool w])=>bif qb [N,O,Q,a1,a2,a3,a4,a5,a6,a7,h,j,n,q] [0,0,86,1,0,2,3,147,29,36,3,5,4,5] then F P R S T U V W X Y a0 a b d m o p s t u v w f g i l (fun r=>match r with | (a8,a9,b0,b1,b2,b3,b4,b5,b6,b7,x,y,z,A,B,C,D,E,G,H,I,J,K,L,M)=>k (.c (.bool a8),[.cells 86 [i6 a9,i6 b0,i6 b1,.bool b2,i6 b3,i6 b4,i6 b5,i6 b6,i6 b7,i6 x,.ptr 1 0,.own 2,.own 3,i6 y,i6 z],.cells 147 (i6 A::.own 4::ctb (.int .u64 B::.int .u64 C::.own 5::i6 D::.int .u64 E::i6 G::.bool H::.bool I::[])),.vec 29 tq J false,.vec 36 (.pair tq ti) K false,.vec 3 ti L false,.vec 5 (.int .u8) M false])) else none | _=>none) | _,_=>none
theorem za (Z:Nat):FnOK prog 86 (ky (bg Z)):=by
 intro args objs kk r h
 unfold ky at h
 split at h
 ·skip
  split at h
  rotate_left 1
  ·cases h
  rename_i hsp
  have esp:=splitRun_eq hsp
  subst esp
  obtain ⟨hb,h⟩:=cond_some' h
  cases qb_eq hb
  exact fo0 (FE Z) func86 rfl kr _ _ kk r ((IC Z (aG Z) _ _ _ _ _ _ _ _ _ _ _ _ _ _ _ _ _ _ _ _ _ _ _ _ _ kk).trans h)
 ·cases h
def Fw (i:Nat):Option (List Nat):=Ev.look i []
def Dd (a:kO) (b:dh) (f:Nat):Option Ev.Spec:=Ev.look f [(141,rq a),(142,kM b)]
def Ml (Z:Nat):Nat→Option Ev.Spec:=Dd (iG Z) (aG Z)
def lI (Z:Nat) (y:kO) (z:dh) (b2 p:Int) (q r:Int) (s:Bool) (t u:Int) (v w:Int) (x b:Int) (c a:Int) (d e:Int) (f g:Int) (h i:Int) (j k:Bool) (l:(List BM)) (m:(List (BM×Int))) (n o:LI) (k0:(Bool×Int×Int×Int×Int×Bool×Int×Int×Int×Int×Int×Int×Int×Int×Int×Int×Int×Int×Int×Int×Bool×Bool×(List BM)×(List (BM×Int))×LI×LI)→OA):OA:=bif a != 0 then k0 (false,0,p,q,r,s,t,u,v,w,x,b,c,a,d,e,f,g,h,i,j,k,l,m,n,o) else (y b2 d e f g h i j k n o (fun (S,T,U,V,W,X,Y,a0,a1,a2,A,B,C)=>(z U p q r s t u v w x b c a V W X Y a0 a1 a2 A l m B C (fun (b3,a3,a4,a5,a6,a7,a8,a9,b0,b1,D,E,F,G,H,I,J,K,L,M,N,O,P,Q,R)=>k0 (S,T,a3,a4,a5,a6,a7,a8,a9,b0,b1,D,E,F,G,H,I,J,K,L,M,N,O,P,Q,R)))))
abbrev cS:Type:=Int→Int→Int→Int→Bool→Int→Int→Int→Int→Int→Int→Int→Int→Int→Int→Int→Int→Int→Int→Bool→Bool→((List BM))→((List (BM×Int)))→LI→LI→((Bool×Int×Int×Int×Int×Bool×Int×Int×Int×Int×Int×Int×Int×Int×Int×Int×Int×Int×Int×Int×Bool×Bool×(List BM)×(List (BM×Int))×LI×LI)→OA)→OA
def bL (Z:Nat):cS:=lI Z (iG Z) (aG Z)
theorem Pa (Z:Nat) (a:kO) (b:dh) (u v:Int) (w x:Int) (y:Bool) (z A:Int) (B C:Int) (D d:Int) (e f:Int) (g h:Int) (i j:Int) (l m:Int) (n o:Bool) (p:(List BM)) (q:(List (BM×Int))) (s t:LI) (k:Ev.Cont):evalFn tab (Dd a b) J0 Fw Z Tryz.f85 [.c (.ptr 0 0),.c (i6 u)] [.cells 86 [i6 v,i6 w,i6 x,.bool y,i6 z,i6 A,i6 B,i6 C,i6 D,i6 d,.ptr 1 0,.own 2,.own 3,i6 e,i6 f],.cells 147 (i6 g::.own 4::ctb (.int .u64 h::.int .u64 i::.own 5::i6 j::.int .u64 l::i6 m::.bool n::.bool o::[])),.vec 29 tq p false,.vec 36 (.pair tq ti) q false,.vec 3 ti s false,.vec 5 (.int .u8) t false] k=lI Z a b u v w x y z A B C D d e f g h i j l m n o p q s t (fun r=>match r with | (U,V,W,X,Y,a0,a1,a2,a3,a4,E,F,G,H,I,J,K,L,M,N,O,P,Q,R,S,T)=>k (.agg [.bool U,i6 V],[.cells 86 [i6 W,i6 X,i6 Y,.bool a0,i6 a1,i6 a2,i6 a3,i6 a4,i6 E,i6 F,.ptr 1 0,.own 2,.own 3,i6 G,i6 H],.cells 147 (i6 I::.own 4::ctb (.int .u64 J::.int .u64 K::.own 5::i6 L::.int .u64 M::i6 N::.bool O::.bool P::[])),.vec 29 tq Q false,.vec 36 (.pair tq ti) R false,.vec 3 ti S false,.vec 5 (.int .u8) T false])):=by
 kernel_rfl
theorem LV (Z:Nat):GOK prog (Ml Z):=
 gc (zy Z) func141 kr rfl <|
 gc (vt Z) func142 kr rfl <|
 gok_nil
def mm (F:cS):Ev.Spec:=fun args objs k=>match args,objs with | [.c (.ptr O P),.c (i6 Q)],[.cells R [i6 S,i6 T,i6 U,.bool V,i6 W,i6 X,i6 Y,i6 a0,i6 a1,i6 a,.ptr a2 a3,.own a4,.own a5,i6 b,i6 d],.cells a6 e,.vec a7 tq f false,.vec a8 (.pair tq ti) g false,.vec h ti i false,.vec j (.int .u8) l false]=>(match splitRun 2 ctn e with | some ([i6 m,.own n],[.int .u64 o,.int .u64 p,.own q,i6 s,.int .u64 t,i6 u,.bool v,.bool w])=>bif qb [O,P,R,a2,a3,a4,a5,a6,a7,a8,h,j,n,q] [0,0,86,1,0,2,3,147,29,36,3,5,4,5] then F Q S T U V W X Y a0 a1 a b d m o p s t u v w f g i l (fun r=>match r with | (a9,b0,b1,b2,b3,b4,b5,b6,b7,b8,x,y,z,A,B,C,D,E,G,H,I,J,K,L,M,N)=>k (.agg [.bool a9,i6 b0],[.cells 86 [i6 b1,i6 b2,i6 b3,.bool b4,i6 b5,i6 b6,i6 b7,i6 b8,i6 x,i6 y,.ptr 1 0,.own 2,.own 3,i6 z,i6 A],.cells 147 (i6 B::.own 4::ctb (.int .u64 C::.int .u64 D::.own 5::i6 E::.int .u64 G::i6 H::.bool I::.bool J::[])),.vec 29 tq K false,.vec 36 (.pair tq ti) L false,.vec 3 ti M false,.vec 5 (.int .u8) N false])) else none | _=>none) | _,_=>none
theorem AF (Z:Nat):FnOK prog 85 (mm (bL Z)):=by
 intro args objs kk r h
 unfold mm at h
 split at h
 ·skip
  split at h
  rotate_left 1
  ·cases h
  rename_i hsp
  have esp:=splitRun_eq hsp
  subst esp
  obtain ⟨hb,h⟩:=cond_some' h
  cases qb_eq hb
  exact fo0 (LV Z) func85 rfl kr _ _ kk r ((Pa Z (iG Z) (aG Z) _ _ _ _ _ _ _ _ _ _ _ _ _ _ _ _ _ _ _ _ _ _ _ _ _ kk).trans h)
 ·cases h
def KQ (i:Nat):Option (List Nat):=Ev.look i []
def Cp (a:dp) (f:Nat):Option Ev.Spec:=Ev.look f [(147,nP a)]
def Ob (Z:Nat):Nat→Option Ev.Spec:=Cp (cf Z)
def kK (Z:Nat) (c:dp) (a b:Int) (k0:(Int×Int×Int×LI)→OA):OA:=(c a b (fun d=>bif !d then k0 (0,0,4,[]) else bif decide (0≤i64.wrap (a*b)∧i64.wrap (a*b)=i64.wrap (a*b)∧(↑(1:Nat):Int)*i64.wrap (a*b)≤281474976710656∧i64.wrap (a*b)≤281474976710656) then k0 (a,b,0,List.replicate (i64.wrap (a*b)).toNat (0:Int)) else none))
abbrev fK:Type:=Int→Int→((Int×Int×Int×LI)→OA)→OA
def dl (Z:Nat):fK:=kK Z (cf Z)
theorem Oa (Z:Nat) (a:dp) (b d:Int) (k:Ev.Cont):evalFn tab (Cp a) J0 KQ Z Tryz.f200 [.c (i6 b),.c (i6 d)] [] k=kK Z a b d (fun r=>match r with | (e,f,g,h)=>k (.tup [(true,[i6 e,i6 f,.own 0]),(false,[i6 g])],[.vec 5 (.int .u8) h true])):=by
 kernel_rfl
theorem GP (Z:Nat):GOK prog (Ob Z):=
 gc (BO Z) func147 kr rfl <|
 gok_nil
def wu (F:fK):Ev.Spec:=fun args objs k=>match args,objs with | [.c (i6 a),.c (i6 b)],[]=>F a b (fun r=>match r with | (d,e,f,g)=>k (.tup [(true,[i6 d,i6 e,.own 0]),(false,[i6 f])],[.vec 5 (.int .u8) g true])) | _,_=>none
theorem Kt (Z:Nat):FnOK prog 200 (wu (dl Z)):=by
 intro args objs kk r h
 unfold wu at h
 split at h
 ·skip
  exact fo0 (GP Z) func200 rfl kr _ _ kk r ((Oa Z (cf Z) _ _ kk).trans h)
 ·cases h
def jf (i:Nat):Option (List Nat):=Ev.look i [(5,[2,6,8,9,34,35]),(100000,[6,8,9]),(400000,[6,7])]
def xm (a:fK) (f:Nat):Option Ev.Spec:=Ev.look f [(200,wu a)]
def Dr (Z:Nat):Nat→Option Ev.Spec:=xm (dl Z)
abbrev sg:Type:=Int×Int×Int×Int×Int×Int×Int×Int×LI×LI
abbrev rN:Type:=(Int×Int×Int×Int×Int×LI×LI→OA)
def fM (Z:Nat) (m:fK) (e f:Int) (g a:Int) (h i:Int) (j k:Int) (l d:LI) (c:sg→OA) (B:rN):OA:=match B with | b=>bif decide (a < g) then bif decide (0≤a∧a < (↑d.length:Int)) then c (e,f,g,i64.wrap (a+1),h,i,j,k,l,d.set a.toNat (u8.wrap e)) else none else b (f,h,i,j,k,l,d)
def cx (Z:Nat) (v:Int×Int×Int×Int×Int×Int×Int×Int×LI×LI) (c:(Int×Int×Int×Int×Int×Int×Int×Int×LI×LI)→OA) (B:(Int×Int×Int×Int×Int×LI×LI→OA)):OA:=match v with | (a,b,d,e,f,g,h,i,j,k)=>fM Z (dl Z) a b d e f g h i j k c B
def je (Z:Nat) (v:sg) (b:rN):OA:=iter (cx Z) Z v b
def xV (v:sg):Ev.St:=match v with | (a,b,d,e,f,g,h,i,j,k)=>⟨[(2,.c (i6 a)),(6,.c (.ptr 0 0)),(8,.c (.ptr 1 0)),(9,.c (i6 b)),(34,.c (i6 d)),(35,.c (i6 e))],[(0,.cells 29 [i6 f,i6 g,.own 2]),(1,.cells 29 [i6 h,i6 i,.own 3]),(2,.vec 5 (.int .u8) j true),(3,.vec 5 (.int .u8) k true)],4,0⟩
def xi (K:KT):rN:=(fun v=>match v with | (a,b,d,e,f,g,h)=>K .normal ⟨[(6,.c (.ptr 0 0)),(8,.c (.ptr 1 0)),(9,.c (i6 a))],[(0,.cells 29 [i6 b,i6 d,.own 2]),(1,.cells 29 [i6 e,i6 f,.own 3]),(2,.vec 5 (.int .u8) g true),(3,.vec 5 (.int .u8) h true)],4,0⟩)
theorem Hk (Z:Nat) (a:fK) (R:Ev.St→OA) (K:KT) (b c:Int) (d e:Int) (f g:Int) (h i:Int) (j k:LI):evalCode tab (xm a) J0 jf Z (bodyOf 0 Tryz.f182) (xV (b,c,d,e,f,g,h,i,j,k)) (lc jf 5 0 R K)=fM Z a b c d e f g h i j k (fun v=>R (xV v)) (xi K):=by
 kernel_rfl
def nq (Z:Nat):Ev.Blk:=fun st K=>match canonO (jf 5) st with | some s=>(match s with | ⟨[(n,.c (i6 o)),(p,.c (.ptr q r)),(t,.c (.ptr u v)),(w,.c (i6 x)),(y,.c (i6 z)),(A,.c (i6 B))],[(a,.cells b [i6 C,i6 D,.own d]),(e,.cells f [i6 E,i6 F,.own g]),(h,.vec i (.int .u8) G true),(j,.vec k (.int .u8) H true)],l,m⟩=>bif qb [n,p,q,r,t,u,v,w,y,A,a,b,d,e,f,g,h,i,j,k,l,m] [2,6,0,0,8,1,0,9,34,35,0,29,2,1,29,3,2,5,3,5,4,0] then iter (cx Z) Z (o,x,z,B,C,D,E,F,G,H) (xi K) else none | _=>none) | none=>none
theorem NY (Z:Nat) (st:Ev.St) (K:KT) (r:Ans) (h:nq Z st K=some r):evalCode tab (Dr Z) J0 jf Z (.block 0 (.loop (bodyOf 0 Tryz.f182))) st K=some r:=by
 unfold nq at h
 split at h
 ·rename_i s hs
  split at h
  ·skip
   obtain ⟨hb,h⟩:=cond_some' h
   cases qb_eq hb
   exact blk_loop (S:=xV) (ks:=xi) (step:=cx Z) (v:=(_,_,_,_,_,_,_,_,_,_)) kr kr (fun R K v=>by obtain ⟨a,b,c,d,e,f,g,i,j,k⟩:=v; exact Hk Z (dl Z) R K a b c d e f g i j k) hs h
  ·cases h
 ·cases h
def EK (Z:Nat) (i:Nat):Option Ev.Blk:=Ev.look i [(100000,nq Z)]
def jz (Z:Nat) (h:fK) (f g a:Int) (k0:(Int×Int×Int×LI)→OA):OA:=bif decide (f < 0) then k0 (0,0,2,[]) else bif decide (g < 0) then k0 (0,0,2,[]) else bif a != 0 then bif a != 1 then k0 (0,0,2,[]) else (h f g (fun (k,l,m,i)=>(je Z (a,m,(↑i.length:Int),0,0,0,k,l,[],i) (fun (b,n,o,c,d,p,e)=>k0 (c,d,b,e))))) else (h f g (fun (q,r,s,j)=>(je Z (a,s,(↑j.length:Int),0,0,0,q,r,[],j) (fun (b,n,o,c,d,p,e)=>k0 (c,d,b,e)))))
abbrev ca:Type:=Int→Int→Int→((Int×Int×Int×LI)→OA)→OA
def aX (Z:Nat):ca:=jz Z (dl Z)
theorem GC (Z:Nat) (a:fK) (b d e:Int) (k:Ev.Cont):evalFn tab (xm a) (EK Z) jf Z Tryz.f182 [.c (i6 b),.c (i6 d),.c (i6 e)] [] k=jz Z a b d e (fun r=>match r with | (f,g,h,i)=>k (.tup [(true,[i6 f,i6 g,.own 0]),(false,[i6 h])],[.vec 5 (.int .u8) i true])):=by
 kernel_rfl
theorem Du (Z:Nat):GOK prog (Dr Z):=
 gc (Kt Z) func200 kr rfl <|
 gok_nil
theorem PG (Z:Nat):BlkOK prog Tryz.f182.ntmps (.block 0 (.loop (bodyOf 0 Tryz.f182))) (nq Z):=bo0 (Du Z) kr kr (NY Z)
def lT (F:ca):Ev.Spec:=fun args objs k=>match args,objs with | [.c (i6 a),.c (i6 b),.c (i6 d)],[]=>F a b d (fun r=>match r with | (e,f,g,h)=>k (.tup [(true,[i6 e,i6 f,.own 0]),(false,[i6 g])],[.vec 5 (.int .u8) h true])) | _,_=>none
theorem BU (Z:Nat):FnOK prog 182 (lT (aX Z)):=by
 intro args objs kk r h
 unfold lT at h
 split at h
 ·skip
  exact fo1 (Du Z) func182 rfl (PG Z) kr _ _ kk r ((GC Z (dl Z) _ _ _ kk).trans h)
 ·cases h
end
end Go.Proofs.YtohnjbmiaegofaaGreat

