/- What the functions that SymbolRefines reaches do: their typed texts, each with the proof that the machine does it. No condition. -/
import Derived.Test.YtohnjbmiaegofaaGreatEvX
import Derived.Test.YtohnjbmiaegofaaGreatFsSymbolRefines2
import Derived.Test.YtohnjbmiaegofaaGreatFsSymbolRefines1
import Derived.Test.YtohnjbmiaegofaaGreatEvY
import Derived.Test.YtohnjbmiaegofaaGreatEvU
set_option linter.unusedVariables false
set_option linter.unusedSimpArgs false
set_option linter.unusedSectionVars false
set_option linter.unusedVariables false
set_option linter.unusedSimpArgs false
set_option maxRecDepth 100000
set_option maxHeartbeats 2000000
namespace Go.Proofs.YtohnjbmiaegofaaGreat
open Go Ev
open Go.IntKind (i64 u64 u8 i32 u32 u16)
noncomputable section
def iB (i:Nat):Option (List Nat):=Ev.look i [(11,[0,1,2,11,38,39]),(100000,[2,11]),(400000,[6,7])]
def rz (b:am) (c:aX) (a:ac) (f:Nat):Option Ev.Spec:=Ev.look f [(40,eA b),(138,fz c),(143,bW a)]
def wC (fuel:Nat):Nat→Option Ev.Spec:=rz (ah fuel) (an fuel) (aa fuel)
abbrev qV:Type:=Int×Int×Int×Int×Int×Int×Int×Int×Int×Int×Int×Bool×Bool×LI×LI
abbrev wU:Type:=(Int×Int×Int×Int×Int×Int×Int×Int×Bool×Bool×LI×LI→OA)×(Int×Int×Int×Int×Int×Int×Int×Int×Bool×Bool×LI×LI→OA)
def ko (fuel:Nat) (F:am) (G:aX) (D:ac) (t u:Int) (a v:Int) (w x:Int) (y z:Int) (A C o:Int) (p q:Bool) (r s:LI) (c:qV→OA) (B:wU):OA:=match B with | (ret,b)=>bif decide (w < v) then (D (i64.wrap (i64.wrap (t+a) - 1)) x y z A C o p q r s (fun (E,f,g,h,i,j,k,l,m,n,d,e)=>bif f != 0 then ret (0,f,g,h,i,j,k,l,m,n,d,e) else c (t,u,i64.wrap (i64.wrap (2*a)+E),v,i64.wrap (w+1),g,h,i,j,k,l,m,n,d,e))) else b (u,a,x,y,z,A,C,o,p,q,r,s)
def fe (fuel:Nat) (v:Int×Int×Int×Int×Int×Int×Int×Int×Int×Int×Int×Bool×Bool×(List Int)×(List Int)) (c:(Int×Int×Int×Int×Int×Int×Int×Int×Int×Int×Int×Bool×Bool×(List Int)×(List Int))→Option Ans) (B:(Int×Int×Int×Int×Int×Int×Int×Int×Bool×Bool×(List Int)×(List Int)→Option Ans)×(Int×Int×Int×Int×Int×Int×Int×Int×Bool×Bool×(List Int)×(List Int)→Option Ans)):Option Ans:=match v with | (g,h,i,j,k,l,m,n,o,p,a,b,d,e,f)=>ko fuel (ah fuel) (an fuel) (aa fuel) g h i j k l m n o p a b d e f c B
def uG (fuel:Nat) (v:qV) (ret:(Int×Int×Int×Int×Int×Int×Int×Int×Bool×Bool×(List Int)×(List Int)→Option Ans)) (b:(Int×Int×Int×Int×Int×Int×Int×Int×Bool×Bool×(List Int)×(List Int)→Option Ans)):Option Ans:=iter (fe fuel) fuel v (ret,b)
def sb (v:qV):Ev.St:=match v with | (g,h,i,j,k,l,m,n,o,p,a,b,d,e,f)=>⟨[(0,.c (.ptr 0 0)),(1,.c (i6 g)),(2,.c (i6 h)),(11,.c (i6 i)),(38,.c (i6 j)),(39,.c (i6 k))],[(0,.cells 147 (i6 l::.own 1::ctb (.int .u64 m::.int .u64 n::.own 2::i6 o::.int .u64 p::i6 a::.bool b::.bool d::[]))),(1,.vec 3 (.int .i64) e false),(2,.vec 5 (.int .u8) f false)],3,3⟩
def qa (K:KT):wU:=((fun v=>match v with | (d,e,f,g,h,i,j,k,l,m,a,b)=>K .ret ⟨[(6,.c (i6 d)),(7,.c (i6 e))],[(0,.cells 147 (i6 f::.own 1::ctb (.int .u64 g::.int .u64 h::.own 2::i6 i::.int .u64 j::i6 k::.bool l::.bool m::[]))),(1,.vec 3 (.int .i64) a false),(2,.vec 5 (.int .u8) b false)],3,3⟩),(fun v=>match v with | (d,e,f,g,h,i,j,k,l,m,a,b)=>K .normal ⟨[(2,.c (i6 d)),(11,.c (i6 e))],[(0,.cells 147 (i6 f::.own 1::ctb (.int .u64 g::.int .u64 h::.own 2::i6 i::.int .u64 j::i6 k::.bool l::.bool m::[]))),(1,.vec 3 (.int .i64) a false),(2,.vec 5 (.int .u8) b false)],3,3⟩))
theorem FI (fuel:Nat) (b:am) (c:aX) (a:ac) (R:Ev.St→OA) (K:KT) (i j:Int) (k l:Int) (m n:Int) (o p:Int) (q r d:Int) (e f:Bool) (g h:LI):evalCode tab (rz b c a) J0 iB fuel (bodyOf 0 Tryz.f145) (sb (i,j,k,l,m,n,o,p,q,r,d,e,f,g,h)) (lc iB 11 0 R K)=ko fuel b c a i j k l m n o p q r d e f g h (fun v=>R (sb v)) (qa K):=by
  kernel_rfl
def i5 (fuel:Nat):Ev.Blk:=fun st K=>match canonO (iB 11) st with | some s=>(match s with | ⟨[(p,.c (.ptr q r)),(t,.c (i6 u)),(v,.c (i6 w)),(x,.c (i6 y)),(z,.c (i6 A)),(B,.c (i6 C))],[(D,.cells E a),(b,.vec d (.int .i64) e false),(f,.vec g (.int .u8) h false)],i,j⟩=>(match splitRun 2 ctn a with | some ([i6 F,.own k],[.int .u64 G,.int .u64 H,.own l,i6 I,.int .u64 J,i6 m,.bool n,.bool o])=>bif qb [p,q,r,t,v,x,z,B,D,E,b,d,f,g,i,j,k,l] [0,0,0,1,2,11,38,39,0,147,1,3,2,5,3,3,1,2] then iter (fe fuel) fuel (u,w,y,A,C,F,G,H,I,J,m,n,o,e,h) (qa K) else none | _=>none) | _=>none) | none=>none
theorem IL (fuel:Nat) (st:Ev.St) (K:KT) (r:Ans) (h:i5 fuel st K=some r):evalCode tab (wC fuel) J0 iB fuel (.block 0 (.loop (bodyOf 0 Tryz.f145))) st K=some r:=by
  unfold i5 at h
  split at h
  · rename_i s hs
    split at h
    · skip
      split at h
      rotate_left 1
      · cases h
      rename_i hsp
      have esp:=splitRun_eq hsp
      subst esp
      obtain ⟨hb,h⟩:=cond_some' h
      cases qb_eq hb
      exact blk_loop (S:=sb) (ks:=qa) (step:=fe fuel) (v:=(_,_,_,_,_,_,_,_,_,_,_,_,_,_,_)) (by kernel_rfl) (by kernel_rfl) (fun R K v=>by obtain ⟨f,g,i,j,k,l,m,n,o,p,a,b,c,d,e⟩:=v; exact FI fuel (ah fuel) (an fuel) (aa fuel) R K f g i j k l m n o p a b c d e) hs h
    · cases h
  · cases h
def Eo (fuel:Nat) (i:Nat):Option Ev.Blk:=Ev.look i [(100000,i5 fuel)]
def rt (fuel:Nat) (A:am) (F:aX) (z:ac) (y a:Int) (R S:Int) (T U:Int) (V W:Int) (X Y:Bool) (P Q:LI) (k0:(Int×Int×Int×Int×Int×Int×Int×Int×Bool×Bool×LI×LI)→OA):OA:=(z ((-1:Int)) R S T U V W X Y P Q (fun (a0,v,d,e,f,g,h,i,j,k,b,c)=>bif v==7 then k0 (0,v,d,e,f,g,h,i,j,k,b,c) else bif decide (a < 0) then k0 (0,2,d,e,f,g,h,i,j,k,b,c) else bif decide (a > 10) then k0 (0,2,d,e,f,g,h,i,j,k,b,c) else bif decide (a < 0) then none else (A d e f g h i j k b c (fun (C,m,n,o,p,q,r,s,t,u,l,B)=>(F C B y (i64.wrap (Ev.ishl IntKind.i64 1 a - 1)) (fun x=>bif x != 0 then k0 (0,x,m,n,o,p,q,r,s,t,u,l) else (uG fuel (y,a,1,a,0,m,n,o,p,q,r,s,t,u,l) (fun (ret0_0,ret0_1,ret0_2,ret0_3,ret0_4,ret0_5,ret0_6,ret0_7,ret0_8,ret0_9,ret0_10,ret0_11)=>k0 (ret0_0,ret0_1,ret0_2,ret0_3,ret0_4,ret0_5,ret0_6,ret0_7,ret0_8,ret0_9,ret0_10,ret0_11)) (fun (w,G,H,I,J,K,L,M,N,O,D,E)=>bif decide (w < 0) then none else k0 (i64.wrap (G - Ev.ishl IntKind.i64 1 w),0,H,I,J,K,L,M,N,O,D,E)))))))))
abbrev jh:Type:=Int→Int→Int→Int→Int→Int→Int→Int→Bool→Bool→LI→LI→((Int×Int×Int×Int×Int×Int×Int×Int×Bool×Bool×LI×LI)→Option Ans)→Option Ans
def fq (fuel:Nat):jh:=rt fuel (ah fuel) (an fuel) (aa fuel)
theorem Hh (fuel:Nat) (b:am) (d:aX) (a:ac) (g h:Int) (i j:Int) (l m:Int) (n o:Int) (p q:Bool) (e f:LI) (k:Ev.Cont):evalFn tab (rz b d a) (Eo fuel) iB fuel Tryz.f145 [.c (.ptr 0 0),.c (i6 g),.c (i6 h)] [.cells 147 (i6 i::.own 1::ctb (.int .u64 j::.int .u64 l::.own 2::i6 m::.int .u64 n::i6 o::.bool p::.bool q::[])),.vec 3 (.int .i64) e false,.vec 5 (.int .u8) f false] k=rt fuel b d a g h i j l m n o p q e f (fun r=>match r with | (u,v,w,x,y,z,A,B,C,D,s,t)=>k (.tup [(false,[i6 u]),(false,[i6 v])],[.cells 147 (i6 w::.own 1::ctb (.int .u64 x::.int .u64 y::.own 2::i6 z::.int .u64 A::i6 B::.bool C::.bool D::[])),.vec 3 (.int .i64) s false,.vec 5 (.int .u8) t false])):=by
  kernel_rfl
theorem yt (fuel:Nat):GOK Tryz.prog (wC fuel):=
  gc (eT fuel) Tryz.func40 (by kernel_rfl) rfl <|
  gc (kn fuel) Tryz.func138 (by kernel_rfl) rfl <|
  gc (cA fuel) Tryz.func143 (by kernel_rfl) rfl <|
  gok_nil
theorem Fw (fuel:Nat):BlkOK Tryz.prog Tryz.f145.ntmps (.block 0 (.loop (bodyOf 0 Tryz.f145))) (i5 fuel):=bo0 (yt fuel) (by kernel_rfl) (by kernel_rfl) (IL fuel)
def uC (F:jh):Ev.Spec:=fun args objs k=>match args,objs with | [.c (.ptr g h),.c (i6 i),.c (i6 j)],[.cells l a,.vec m (.int .i64) b false,.vec n (.int .u8) d false]=>(match splitRun 2 ctn a with | some ([i6 o,.own p],[.int .u64 q,.int .u64 s,.own t,i6 u,.int .u64 v,i6 w,.bool x,.bool y])=>bif qb [g,h,l,m,n,p,t] [0,0,147,3,5,1,2] then F i j o q s u v w x y b d (fun r=>match r with | (z,A,B,C,D,E,G,H,I,J,e,f)=>k (.tup [(false,[i6 z]),(false,[i6 A])],[.cells 147 (i6 B::.own 1::ctb (.int .u64 C::.int .u64 D::.own 2::i6 E::.int .u64 G::i6 H::.bool I::.bool J::[])),.vec 3 (.int .i64) e false,.vec 5 (.int .u8) f false])) else none | _=>none) | _,_=>none
def oJ (fuel:Nat):Ev.Spec:=uC (fq fuel)
theorem uP (fuel:Nat):FnOK Tryz.prog 145 (oJ fuel):=by
  intro args objs kk r h
  unfold oJ uC at h
  split at h
  · skip
    split at h
    rotate_left 1
    · cases h
    rename_i hsp
    have esp:=splitRun_eq hsp
    subst esp
    obtain ⟨hb,h⟩:=cond_some' h
    cases qb_eq hb
    exact fo1 (yt fuel) Tryz.func145 rfl (Fw fuel) (by kernel_rfl) _ _ kk r ((Hh fuel (ah fuel) (an fuel) (aa fuel) _ _ _ _ _ _ _ _ _ _ _ _ kk).trans h)
  · cases h
def xj:List (Nat×Func):=[(9,Tryz.f9),(10,Tryz.f10),(11,Tryz.f11),(12,Tryz.f12),(13,Tryz.f13),(15,Tryz.f15),(17,Tryz.f17),(24,Tryz.f24),(25,Tryz.f25),(26,Tryz.f26),(27,Tryz.f27),(28,Tryz.f28),(29,Tryz.f29),(30,Tryz.f30),(31,Tryz.f31),(32,Tryz.f32),(34,Tryz.f34),(36,Tryz.f36),(37,Tryz.f37),(38,Tryz.f38),(39,Tryz.f39),(41,Tryz.f41),(43,Tryz.f43),(70,Tryz.f70),(72,Tryz.f72),(74,Tryz.f74),(75,Tryz.f75),(78,Tryz.f78),(79,Tryz.f79),(82,Tryz.f82),(85,Tryz.f85),(86,Tryz.f86),(87,Tryz.f87),(89,Tryz.f89),(90,Tryz.f90),(126,Tryz.f126),(128,Tryz.f128),(129,Tryz.f129),(130,Tryz.f130),(133,Tryz.f133),(135,Tryz.f135),(136,Tryz.f136),(142,Tryz.f142),(144,Tryz.f144),(146,Tryz.f146),(147,Tryz.f147),(163,Tryz.f163),(164,Tryz.f164),(169,Tryz.f169),(170,Tryz.f170),(171,Tryz.f171),(172,Tryz.f172),(173,Tryz.f173),(174,Tryz.f174),(175,Tryz.f175),(176,Tryz.f176),(177,Tryz.f177),(178,Tryz.f178),(179,Tryz.f179),(182,Tryz.f182),(183,Tryz.f183),(184,Tryz.f184),(185,Tryz.f185),(195,Tryz.f195),(196,Tryz.f196),(197,Tryz.f197),(198,Tryz.f198),(199,Tryz.f199),(200,Tryz.f200),(203,Tryz.f203),(1000175,Tryz.f175)]
def JH:List (Nat×List (Nat×List Nat)):=[(11,[(200010,[14]),(200013,[14]),(900010,[3,4,11,14,15,17]),(900013,[10,11,12])]),(12,[(10,[2,3,12,15,16,18,19]),(100000,[2,3,12,15,16,18]),(200008,[15]),(200016,[18]),(200017,[15,18]),(400000,[10,11,12,13]),(900008,[2,3,12,15,16,18]),(900016,[10,11,12,13]),(900017,[10,11,12,13])]),(13,[(4,[0,1,5]),(100000,[]),(200006,[0,1]),(400000,[4]),(900006,[0,1,5,41])]),(17,[(4,[0,1,5]),(100000,[]),(200006,[0,1]),(400000,[4]),(900006,[0,1,5,25])]),(26,[(2,[0,1,9,10,11]),(8,[0,1,20,21,22]),(100000,[0,1]),(100002,[0,1]),(200010,[1,8]),(400000,[4]),(400002,[4]),(900010,[0,1,20,21,22,55])]),(27,[(200001,[2]),(900001,[2,4,5])]),(28,[(600000,[])]),(29,[(200002,[2,3,5]),(900002,[4,5])]),(31,[(1,[0,1,4,1000002,1000004]),(6,[0,1,4,5,6,1000002]),(100000,[]),(100002,[0,1,4]),(400000,[]),(400002,[])]),(32,[(1,[0,1,4,1000004]),(4,[0,1,4,5]),(100000,[]),(100002,[0,1,4,5]),(400000,[]),(400002,[])]),(34,[(200001,[2,3]),(900001,[4])]),(36,[(5,[6,17]),(100000,[6]),(400000,[4,5]),(600000,[])]),(38,[(3,[0,1,4,5,1000002,1000003]),(100000,[]),(400000,[1000002,1000003]),(900008,[0,1,4,44])]),(39,[(3,[0,1,5,6]),(10,[0,1,5,6,36,37]),(100000,[5]),(100002,[0,1,5,6]),(400000,[4]),(400002,[4])]),(79,[(200003,[0,3]),(200005,[0,3]),(200008,[0,3]),(200009,[3]),(600000,[]),(900003,[0,3]),(900005,[0,3]),(900008,[0,3]),(900009,[])]),(87,[(200004,[0]),(200005,[0]),(200006,[6]),(200010,[0]),(200012,[6]),(600000,[]),(900004,[0,6,8]),(900005,[0,1,2,6,8]),(900006,[0,1,2,6,79]),(900010,[0,6,8]),(900012,[])]),(89,[(2,[0,1,7,8]),(100000,[]),(400000,[4])]),(90,[(4,[23,24,25]),(100000,[]),(400000,[2])]),(128,[(200001,[1]),(900001,[1,3,4])]),(133,[(200009,[7,8,9]),(600000,[]),(900009,[0,1,7,8,9,42])]),(135,[(11,[0,1,7,8,11,52,53,1000002]),(20,[0,1,7,8,11,12,13,52,53,75,76,1000002]),(100001,[]),(100003,[0,1,7,8,11,52,53]),(200007,[7]),(400001,[10]),(400003,[10]),(600000,[]),(900007,[0,1,7,8,9,35]),(900024,[0,1,7,8,11,12,13,52,53,75,76])]),(144,[(13,[0,1,3,4,8,11,12,18,66,67]),(100000,[3,4,12,18]),(200009,[8,11]),(400000,[12,13]),(600000,[]),(900009,[0,1,3,4,8,11,12,60])]),(146,[(13,[0,1,3,4,12,18,64,65]),(100000,[3,4,12,18]),(200009,[8]),(200011,[8,11]),(400000,[12,13]),(600000,[]),(900009,[0,1,3,4,8,11,12,53]),(900011,[0,1,3,4,12,18])]),(169,[(2,[2,3,8,9,10]),(100000,[]),(400000,[4])]),(171,[(200001,[3,5]),(900001,[6])]),(172,[(4,[0,1,7,8,9,10,27,28,1000002]),(13,[0,1,7,8,9,10,11,27,28,60,61]),(100000,[]),(100002,[0,1,7,8,9,10,27,28]),(200008,[8,9]),(200017,[8]),(400000,[]),(400002,[]),(900008,[0,1,7,8,9,10,11,12,27,28,49]),(900017,[0,1,7,8,9,10,11,27,28,60,61])]),(174,[(200001,[3,5]),(900001,[6])]),(176,[(2,[0,1,12,13]),(100000,[]),(400000,[4])]),(177,[(3,[0,1,2,8,29]),(100000,[8]),(200001,[0]),(200005,[0]),(400000,[6,7]),(900001,[0,1,2,8]),(900005,[0,1,2,8,29,60])]),(178,[(3,[0,1,2,7,17,18,19]),(8,[0,1,2,7,41,42,43]),(100000,[0,1,2,7]),(100002,[7]),(200005,[0,9]),(200010,[0,11]),(400000,[6]),(400002,[6]),(900005,[0,1,2,7,17,18,19]),(900010,[0,1,2,7,41,42,43])]),(182,[(5,[2,6,8,9,34,35]),(100000,[6,8,9]),(400000,[6,7])]),(183,[(200001,[3]),(900001,[6])]),(184,[(9,[0,1,2,4,11,53,54]),(100000,[]),(200006,[11]),(200011,[0,11]),(200015,[0]),(400000,[12]),(900006,[]),(900011,[0,1,2,4,11,15,53,54,66]),(900015,[0,1,2,4,11,53,54])]),(185,[(8,[0,1,2,3,9,44,45]),(100000,[]),(400000,[8])]),(197,[(3,[0,1,5,7,15,16]),(100000,[7]),(200005,[0,5]),(400000,[6]),(900005,[0,1,5,7,8,15,16,29])]),(198,[(3,[0,1,2,7,13,14,15]),(100000,[7]),(400000,[6])]),(203,[(200003,[0]),(900003,[6])])]
def mU (f i:Nat):Option (List Nat):=match Ev.look f JH with | some l=>Ev.look i l | none=>none
theorem vma_ok {fl:Nat} (hfl:10000≤fl) {kd:Int} {st:List Int} (h:vMa kd st=true) {K:Bool→Option Ans}:aM fl kd st K=K true:=by
  unfold vMa at h
  simp only [Bool.and_eq_true,Bool.or_eq_true,decide_eq_true_eq,List.all_eq_true] at h
  obtain ⟨h1,h2,h3⟩:=h
  have lp:∀ e:Int,(∀ s ∈ st,s < e)→∀ (ret:Bool→Option Ans) (b:Unit→Option Ans),cZ fl (e,st,(st.length:Int),0) ret b=b ():=by
    intro e he ret b
    unfold cZ
    refine iter_upto (step:=bn fl) (fun i:Nat=>(e,st,(st.length:Int),(i:Int))) st.length (fun i hi c=> ?_) (fun c=> ?_) (by omega)
    · have hm:st.getD i 0 ∈ st:=by rw [List.getD_eq_getElem?_getD,List.getElem?_eq_getElem hi]; exact List.getElem_mem hi
      have a:=(h3 _ hm).1
      have b:=he _ hm
      simp only [bn]
      rw [decY (show (i:Int) < (st.length:Int) by omega),decY (show (0:Int)≤(i:Int)∧(i:Int) < (st.length:Int) by omega),Int.toNat_natCast,ndecY (show ¬ st.getD i 0 < 0 by omega),ndecY (show ¬ st.getD i 0≥e by omega),wrapY (by omega) (by omega)]
      rfl
    · simp only [bn]
      rw [ndecY (show ¬ (st.length:Int) < (st.length:Int) by omega)]
  unfold aM
  rcases h1 with rfl | rfl
  · have e0:((0:Int) != 0)=false:=rfl
    have e1:((0:Int)==1)=false:=rfl
    rw [e0,cond_false,ndecY (show ¬ (st.length:Int) > 8192 by omega),e1,cond_false,lp 64 (fun s hs=>(h3 s hs).2)]
  · have e0:((1:Int) != 0)=true:=rfl
    have e1:((1:Int) != 1)=false:=rfl
    have e2:((1:Int)==1)=true:=rfl
    rw [e0,cond_true,e1,cond_false,ndecY (show ¬ (st.length:Int) > 8192 by omega),e2,cond_true,lp 65536 (fun s hs=>(h3 s hs).2)]
def spv9:Ev.Spec:=fun args objs k=>match args,objs with | [.agg [.int .i64 kd,.sl (.int .i64) st]],[]=>bif vMa kd st then k (.c (.bool true),[]) else none | _,_=>none
theorem vmspec9 {kd:Int} {st:List Int} (kk:Ev.Cont) (h:vMa kd st=true):rZ 10000 [.agg [.int .i64 kd,.sl (.int .i64) st]] [] kk=kk (.c (.bool true),[]):=
  vma_ok (fl:=10000) (by omega) h (K:=fun b=>kk (.c (.bool b),[]))
theorem spv9_ok:FnOK Tryz.prog 71 spv9:=by
  intro args objs kk r h
  unfold spv9 at h
  split at h
  · obtain ⟨hb,h⟩:=cond_some' h
    exact kf 10000 _ _ kk r ((vmspec9 kk hb).trans h)
  · cases h
def yQ (f:Nat):Option Ev.Spec:=Ev.look f [(33,rm 100000),(35,oG 100000),(40,rj 100000),(71,spv9),(73,tr 100000),(76,uz 100000),(77,qW 100000),(80,oe 100000),(84,sN 100000),(132,qJ 100000),(134,uj 100000),(141,sG 100000),(143,qm 100000),(145,oJ 100000)]
theorem Kf:GOK Tryz.prog yQ:=
  gok_cons ⟨xX 100000,enters_of Tryz.func33 (by kernel_rfl) rfl⟩ <|
  gok_cons ⟨gd 100000,enters_of Tryz.func35 (by kernel_rfl) rfl⟩ <|
  gok_cons ⟨eT 100000,enters_of Tryz.func40 (by kernel_rfl) rfl⟩ <|
  gok_cons ⟨spv9_ok,enters_of Tryz.func71 (by kernel_rfl) rfl⟩ <|
  gok_cons ⟨yo 100000,enters_of Tryz.func73 (by kernel_rfl) rfl⟩ <|
  gok_cons ⟨tN 100000,enters_of Tryz.func76 (by kernel_rfl) rfl⟩ <|
  gok_cons ⟨xH 100000,enters_of Tryz.func77 (by kernel_rfl) rfl⟩ <|
  gok_cons ⟨nJ 100000,enters_of Tryz.func80 (by kernel_rfl) rfl⟩ <|
  gok_cons ⟨nU 100000,enters_of Tryz.func84 (by kernel_rfl) rfl⟩ <|
  gok_cons ⟨di 100000,enters_of Tryz.func132 (by kernel_rfl) rfl⟩ <|
  gok_cons ⟨vn 100000,enters_of Tryz.func134 (by kernel_rfl) rfl⟩ <|
  gok_cons ⟨uN 100000,enters_of Tryz.func141 (by kernel_rfl) rfl⟩ <|
  gok_cons ⟨cA 100000,enters_of Tryz.func143 (by kernel_rfl) rfl⟩ <|
  gok_cons ⟨uP 100000,enters_of Tryz.func145 (by kernel_rfl) rfl⟩ <|
  gok_nil
theorem FJ:Fns Tryz.prog xj:=
  fns_cons Tryz.func9 <|
  fns_cons Tryz.func10 <|
  fns_cons Tryz.func11 <|
  fns_cons Tryz.func12 <|
  fns_cons Tryz.func13 <|
  fns_cons Tryz.func15 <|
  fns_cons Tryz.func17 <|
  fns_cons Tryz.func24 <|
  fns_cons Tryz.func25 <|
  fns_cons Tryz.func26 <|
  fns_cons Tryz.func27 <|
  fns_cons Tryz.func28 <|
  fns_cons Tryz.func29 <|
  fns_cons Tryz.func30 <|
  fns_cons Tryz.func31 <|
  fns_cons Tryz.func32 <|
  fns_cons Tryz.func34 <|
  fns_cons Tryz.func36 <|
  fns_cons Tryz.func37 <|
  fns_cons Tryz.func38 <|
  fns_cons Tryz.func39 <|
  fns_cons Tryz.func41 <|
  fns_cons Tryz.func43 <|
  fns_cons Tryz.func70 <|
  fns_cons Tryz.func72 <|
  fns_cons Tryz.func74 <|
  fns_cons Tryz.func75 <|
  fns_cons Tryz.func78 <|
  fns_cons Tryz.func79 <|
  fns_cons Tryz.func82 <|
  fns_cons Tryz.func85 <|
  fns_cons Tryz.func86 <|
  fns_cons Tryz.func87 <|
  fns_cons Tryz.func89 <|
  fns_cons Tryz.func90 <|
  fns_cons Tryz.func126 <|
  fns_cons Tryz.func128 <|
  fns_cons Tryz.func129 <|
  fns_cons Tryz.func130 <|
  fns_cons Tryz.func133 <|
  fns_cons Tryz.func135 <|
  fns_cons Tryz.func136 <|
  fns_cons Tryz.func142 <|
  fns_cons Tryz.func144 <|
  fns_cons Tryz.func146 <|
  fns_cons Tryz.func147 <|
  fns_cons Tryz.func163 <|
  fns_cons Tryz.func164 <|
  fns_cons Tryz.func169 <|
  fns_cons Tryz.func170 <|
  fns_cons Tryz.func171 <|
  fns_cons Tryz.func172 <|
  fns_cons Tryz.func173 <|
  fns_cons Tryz.func174 <|
  fns_cons Tryz.func175 <|
  fns_cons Tryz.func176 <|
  fns_cons Tryz.func177 <|
  fns_cons Tryz.func178 <|
  fns_cons Tryz.func179 <|
  fns_cons Tryz.func182 <|
  fns_cons Tryz.func183 <|
  fns_cons Tryz.func184 <|
  fns_cons Tryz.func185 <|
  fns_cons Tryz.func195 <|
  fns_cons Tryz.func196 <|
  fns_cons Tryz.func197 <|
  fns_cons Tryz.func198 <|
  fns_cons Tryz.func199 <|
  fns_cons Tryz.func200 <|
  fns_cons Tryz.func203 <|
  fns_cons Tryz.func175 <|
  fns_nil
def vf:Nat→Option Ev.Spec:=evs tab xj mU 100000 yQ 60
theorem BM:GOK Tryz.prog vf:=evs_ok tab_ok mixed FJ (by kernel_rfl) Kf 60
theorem zw:evalFn tab vf (fun _=>none) (mU 9) 100000 Tryz.f9 [] [] trueR=some ():=by
  kernel_rfl
def hJ (fuel:Nat) (k0:(Bool)→Option Ans):Option Ans:=k0 true
abbrev i9:Type:=(Bool→Option Ans)→Option Ans
def tG (F:i9):Ev.Spec:=fun args objs k=>match args,objs with | [],[]=>F (fun r=>k (.c (.bool r),[])) | _,_=>none
def xY (fuel:Nat):Ev.Spec:=tG (hJ fuel)
theorem Ap (fuel:Nat):FnOK Tryz.prog 9 (xY fuel):=by
  intro args objs kk r h
  unfold xY tG at h
  split at h
  · exact true_ok (fn_ok (fuel:=100000) tab_ok BM mixed Tryz.func9 (kp:=mU 9) (J:=fun _=>none) (c:=(Tryz.f9.body).getD .skip) rfl (fun q hq=>by rw [obl_none] at hq; cases hq)) zw h
  · cases h
def Ch (i:Nat):Option (List Nat):=Ev.look i []
def GL (f:Nat):Option Ev.Spec:=Ev.look f []
def xh (fuel:Nat):Nat→Option Ev.Spec:=GL
def fc (fuel:Nat)  (k0:(Int×Int×(List Int))→Option Ans):Option Ans:=k0 (1,1,[1])
abbrev jX:Type:=((Int×Int×LI)→Option Ans)→Option Ans
theorem DI (fuel:Nat)  (k:Ev.Cont):evalFn tab (xh fuel) J0 Ch fuel Tryz.f10 [] [] k=fc fuel  (fun r=>match r with | (a,b,c)=>k (.agg [i6 a,i6 b,.own 0],[.vec 5 (.int .u8) c true])):=by
  kernel_rfl
theorem Kd (fuel:Nat):GOK Tryz.prog (xh fuel):=
  gok_nil
def tg (F:jX):Ev.Spec:=fun args objs k=>match args,objs with | [],[]=>F  (fun r=>match r with | (a,b,c)=>k (.agg [i6 a,i6 b,.own 0],[.vec 5 (.int .u8) c true])) | _,_=>none
theorem DG (fuel:Nat):FnOK Tryz.prog 10 (tg (fc fuel)):=by
  intro args objs kk r h
  unfold tg at h
  split at h
  · skip
    exact fo0 (Kd fuel) Tryz.func10 rfl (by kernel_rfl) _ _ kk r ((DI fuel kk).trans h)
  · cases h
def Ad (i:Nat):Option (List Nat):=Ev.look i []
def Gt (f:Nat):Option Ev.Spec:=Ev.look f []
def yV (fuel:Nat):Nat→Option Ev.Spec:=Gt
def bx (fuel:Nat) (a b:Int) (c:(List Int)) (d e:Int) (f:(List Int)) (k0:(Bool)→Option Ans):Option Ans:=bif a==d then bif b==e then k0 ((Go.strOfNums c).toList==(Go.strOfNums f).toList) else k0 false else k0 false
abbrev cU:Type:=Int→Int→LI→Int→Int→LI→(Bool→Option Ans)→Option Ans
theorem CD (fuel:Nat) (a b:Int) (d:LI) (e f:Int) (g:LI) (k:Ev.Cont):evalFn tab (yV fuel) J0 Ad fuel Tryz.f15 [.agg [i6 a,i6 b,.sl (.int .u8) d],.agg [i6 e,i6 f,.sl (.int .u8) g]] [] k=bx fuel a b d e f g (fun r=>match r with | h=>k (.c (.bool h),[])):=by
  kernel_rfl
theorem HG (fuel:Nat):GOK Tryz.prog (yV fuel):=
  gok_nil
def lm (F:cU):Ev.Spec:=fun args objs k=>match args,objs with | [.agg [i6 a,i6 b,.sl (.int .u8) d],.agg [i6 e,i6 f,.sl (.int .u8) g]],[]=>F a b d e f g (fun r=>match r with | h=>k (.c (.bool h),[])) | _,_=>none
theorem wl (fuel:Nat):FnOK Tryz.prog 15 (lm (bx fuel)):=by
  intro args objs kk r h
  unfold lm at h
  split at h
  · skip
    exact fo0 (HG fuel) Tryz.func15 rfl (by kernel_rfl) _ _ kk r ((CD fuel _ _ _ _ _ _ kk).trans h)
  · cases h
def FG (i:Nat):Option (List Nat):=Ev.look i []
def zE (f:Nat):Option Ev.Spec:=Ev.look f []
def uO (fuel:Nat):Nat→Option Ev.Spec:=zE
def cI (fuel:Nat) (a b:Int) (k0:(Bool)→Option Ans):Option Ans:=bif decide (a≥0) then bif decide (b≥0) then bif decide (a≤200) then bif decide (b≤200) then k0 (decide (i64.wrap (a*b)≤8192)) else k0 false else k0 false else k0 false else k0 false
abbrev fu:Type:=Int→Int→(Bool→Option Ans)→Option Ans
theorem Ck (fuel:Nat) (a b:Int) (k:Ev.Cont):evalFn tab (uO fuel) J0 FG fuel Tryz.f69 [.c (i6 a),.c (i6 b)] [] k=cI fuel a b (fun r=>match r with | d=>k (.c (.bool d),[])):=by
  kernel_rfl
theorem GE (fuel:Nat):GOK Tryz.prog (uO fuel):=
  gok_nil
def oD (F:fu):Ev.Spec:=fun args objs k=>match args,objs with | [.c (i6 a),.c (i6 b)],[]=>F a b (fun r=>match r with | d=>k (.c (.bool d),[])) | _,_=>none
theorem Hk (fuel:Nat):FnOK Tryz.prog 69 (oD (cI fuel)):=by
  intro args objs kk r h
  unfold oD at h
  split at h
  · skip
    exact fo0 (GE fuel) Tryz.func69 rfl (by kernel_rfl) _ _ kk r ((Ck fuel _ _ kk).trans h)
  · cases h
def iR (i:Nat):Option (List Nat):=Ev.look i [(4,[1,3]),(100000,[]),(400000,[2])]
def ru (a:fu) (f:Nat):Option Ev.Spec:=Ev.look f [(69,oD a)]
def yM (fuel:Nat):Nat→Option Ev.Spec:=ru (cI fuel)
def fO (fuel:Nat) (g:fu) (a e f:Int) (d:LI) (c:(Int×Int×Int×LI)→OA) (B:(Bool→OA)×(Unit→OA)):OA:=match B with | (ret,b)=>bif decide (a < (↑d.length:Int)) then bif decide (0≤a∧a < (↑d.length:Int)) then bif decide (d.getD a.toNat (0:Int) > (1:Int)) then ret false else c (i64.wrap (a+1),e,f,d) else none else b ()
def cz (fuel:Nat) (v:Int×Int×Int×(List Int)) (c:(Int×Int×Int×(List Int))→Option Ans) (B:(Bool→Option Ans)×(Unit→Option Ans)):Option Ans:=match v with | (a,b,d,e)=>fO fuel (cI fuel) a b d e c B
def yj (fuel:Nat) (v:Int×Int×Int×(List Int)) (ret:(Bool→Option Ans)) (b:(Unit→Option Ans)):Option Ans:=iter (cz fuel) fuel v (ret,b)
def oc (v:Int×Int×Int×LI):Ev.St:=match v with | (a,b,d,e)=>⟨[(1,.c (.ptr 0 0)),(3,.c (i6 a))],[(0,.cells 29 [i6 b,i6 d,.sl (.int .u8) e])],1,0⟩
def qF (K:KT):(Bool→OA)×(Unit→OA):=((fun v=>match v with | a=>K .ret ⟨[(2,.c (.bool a))],[],0,0⟩),(fun v=>match v with | ()=>K .normal ⟨[],[],0,0⟩))
theorem E7 (fuel:Nat) (a:fu) (R:Ev.St→OA) (K:KT) (b c d:Int) (e:LI):evalCode tab (ru a) J0 iR fuel (bodyOf 0 Tryz.f23) (oc (b,c,d,e)) (lc iR 4 0 R K)=fO fuel a b c d e (fun v=>R (oc v)) (qF K):=by
  kernel_rfl
def kB (fuel:Nat):Ev.Blk:=fun st K=>match canonO (iR 4) st with | some s=>(match s with | ⟨[(a,.c (.ptr b d)),(e,.c (i6 f))],[(g,.cells h [i6 i,i6 j,.sl (.int .u8) k])],l,m⟩=>bif qb [a,b,d,e,g,h,l,m] [1,0,0,3,0,29,1,0] then iter (cz fuel) fuel (f,i,j,k) (qF K) else none | _=>none) | none=>none
theorem Fi (fuel:Nat) (st:Ev.St) (K:KT) (r:Ans) (h:kB fuel st K=some r):evalCode tab (yM fuel) J0 iR fuel (.block 0 (.loop (bodyOf 0 Tryz.f23))) st K=some r:=by
  unfold kB at h
  split at h
  · rename_i s hs
    split at h
    · skip
      obtain ⟨hb,h⟩:=cond_some' h
      cases qb_eq hb
      exact blk_loop (S:=oc) (ks:=qF) (step:=cz fuel) (v:=(_,_,_,_)) (by kernel_rfl) (by kernel_rfl) (fun R K v=>by obtain ⟨a,b,c,d⟩:=v; exact E7 fuel (cI fuel) R K a b c d) hs h
    · cases h
  · cases h
def IW (fuel:Nat) (i:Nat):Option Ev.Blk:=Ev.look i [(100000,kB fuel)]
def uB (fuel:Nat) (d:fu) (a b:Int) (c:LI) (k0:(Bool)→OA):OA:=(d a b (fun e=>bif !e then k0 false else bif (↑c.length:Int) != i64.wrap (a*b) then k0 false else (yj fuel (0,a,b,c) (fun ret0_0=>k0 ret0_0) (fun ()=>k0 true))))
abbrev ia:Type:=Int→Int→LI→(Bool→Option Ans)→Option Ans
def eP (fuel:Nat):ia:=uB fuel (cI fuel)
theorem Dk (fuel:Nat) (a:fu) (b d:Int) (e:LI) (k:Ev.Cont):evalFn tab (ru a) (IW fuel) iR fuel Tryz.f23 [.agg [i6 b,i6 d,.sl (.int .u8) e]] [] k=uB fuel a b d e (fun r=>match r with | f=>k (.c (.bool f),[])):=by
  kernel_rfl
theorem yB (fuel:Nat):GOK Tryz.prog (yM fuel):=
  gc (Hk fuel) Tryz.func69 (by kernel_rfl) rfl <|
  gok_nil
theorem IG (fuel:Nat):BlkOK Tryz.prog Tryz.f23.ntmps (.block 0 (.loop (bodyOf 0 Tryz.f23))) (kB fuel):=bo0 (yB fuel) (by kernel_rfl) (by kernel_rfl) (Fi fuel)
def tX (F:ia):Ev.Spec:=fun args objs k=>match args,objs with | [.agg [i6 a,i6 b,.sl (.int .u8) d]],[]=>F a b d (fun r=>match r with | e=>k (.c (.bool e),[])) | _,_=>none
theorem J8 (fuel:Nat):FnOK Tryz.prog 23 (tX (eP fuel)):=by
  intro args objs kk r h
  unfold tX at h
  split at h
  · skip
    exact fo1 (yB fuel) Tryz.func23 rfl (IG fuel) (by kernel_rfl) _ _ kk r ((Dk fuel (cI fuel) _ _ _ kk).trans h)
  · cases h
def FS (i:Nat):Option (List Nat):=Ev.look i []
def wv (a:ia) (f:Nat):Option Ev.Spec:=Ev.look f [(23,tX a)]
def G8 (fuel:Nat):Nat→Option Ev.Spec:=wv (eP fuel)
def qc (fuel:Nat) (c:ia) (a b:Int) (d:LI) (k0:(Bool)→OA):OA:=(c a b d (fun e=>bif e then bif decide (a≥1) then bif decide (b≥1) then bif decide (a≤40) then k0 (decide (b≤40)) else k0 false else k0 false else k0 false else k0 false))
abbrev iz:Type:=Int→Int→LI→(Bool→Option Ans)→Option Ans
def fj (fuel:Nat):iz:=qc fuel (eP fuel)
theorem Eh (fuel:Nat) (a:ia) (b d:Int) (e:LI) (k:Ev.Cont):evalFn tab (wv a) J0 FS fuel Tryz.f8 [.agg [i6 b,i6 d,.sl (.int .u8) e]] [] k=qc fuel a b d e (fun r=>match r with | f=>k (.c (.bool f),[])):=by
  kernel_rfl
theorem D8 (fuel:Nat):GOK Tryz.prog (G8 fuel):=
  gc (J8 fuel) Tryz.func23 (by kernel_rfl) rfl <|
  gok_nil
def uy (F:iz):Ev.Spec:=fun args objs k=>match args,objs with | [.agg [i6 a,i6 b,.sl (.int .u8) d]],[]=>F a b d (fun r=>match r with | e=>k (.c (.bool e),[])) | _,_=>none
theorem zr (fuel:Nat):FnOK Tryz.prog 8 (uy (fj fuel)):=by
  intro args objs kk r h
  unfold uy at h
  split at h
  · skip
    exact fo0 (D8 fuel) Tryz.func8 rfl (by kernel_rfl) _ _ kk r ((Eh fuel (eP fuel) _ _ _ kk).trans h)
  · cases h
def ic (i:Nat):Option (List Nat):=Ev.look i [(4,[0,1,5]),(100000,[]),(200006,[0,1]),(400000,[4])]
def qw (a:cU) (f:Nat):Option Ev.Spec:=Ev.look f [(15,lm a)]
def wW (fuel:Nat):Nat→Option Ev.Spec:=qw (bx fuel)
abbrev re:Type:=(List ((Int×(Int×LI))×Int))×(List ((Int×(Int×LI))×Int))×Int
abbrev vu:Type:=(Bool→OA)×(Unit→OA)
def ku (fuel:Nat) (f:cU) (d:(List ((Int×(Int×LI))×Int))) (e:(List ((Int×(Int×LI))×Int))) (a:Int) (c:re→OA) (B:vu):OA:=match B with | (ret,b)=>bif decide (a < (↑d.length:Int)) then bif decide (0≤a∧a < (↑d.length:Int)) then bif decide (0≤a∧a < (↑e.length:Int)) then bif (d.getD a.toNat ((0,0,[]),0)).snd != (e.getD a.toNat ((0,0,[]),0)).snd then ret false else bif decide (0≤a∧a < (↑d.length:Int)) then bif decide (0≤a∧a < (↑e.length:Int)) then (f ((d.getD a.toNat ((0,0,[]),0)).fst.fst) ((d.getD a.toNat ((0,0,[]),0)).fst.snd.fst) ((d.getD a.toNat ((0,0,[]),0)).fst.snd.snd) ((e.getD a.toNat ((0,0,[]),0)).fst.fst) ((e.getD a.toNat ((0,0,[]),0)).fst.snd.fst) ((e.getD a.toNat ((0,0,[]),0)).fst.snd.snd) (fun g=>bif !g then ret false else c (d,e,i64.wrap (a+1)))) else none else none else none else none else b ()
def eX (fuel:Nat) (v:(List ((Int×(Int×(List Int)))×Int))×(List ((Int×(Int×(List Int)))×Int))×Int) (c:((List ((Int×(Int×(List Int)))×Int))×(List ((Int×(Int×(List Int)))×Int))×Int)→Option Ans) (B:(Bool→Option Ans)×(Unit→Option Ans)):Option Ans:=match v with | (a,b,d)=>ku fuel (bx fuel) a b d c B
def xc (fuel:Nat) (v:re) (ret:(Bool→Option Ans)) (b:(Unit→Option Ans)):Option Ans:=iter (eX fuel) fuel v (ret,b)
def nH (v:re):Ev.St:=match v with | (a,b,d)=>⟨[(0,.c (.sl (.pair (.pair (.int .i64) (.pair (.int .i64) (.sl (.int .u8)))) (.int .i64)) a)),(1,.c (.sl (.pair (.pair (.int .i64) (.pair (.int .i64) (.sl (.int .u8)))) (.int .i64)) b)),(5,.c (i6 d))],[],0,0⟩
def nB (K:KT):vu:=((fun v=>match v with | a=>K .ret ⟨[(4,.c (.bool a))],[],0,0⟩),(fun v=>match v with | ()=>K .normal ⟨[],[],0,0⟩))
theorem Ic (fuel:Nat) (a:cU) (R:Ev.St→OA) (K:KT) (b:(List ((Int×(Int×LI))×Int))) (c:(List ((Int×(Int×LI))×Int))) (d:Int):evalCode tab (qw a) J0 ic fuel (bodyOf 0 Tryz.f13) (nH (b,c,d)) (lc ic 4 0 R K)=ku fuel a b c d (fun v=>R (nH v)) (nB K):=by
  kernel_rfl
def jn (fuel:Nat):Ev.Blk:=fun st K=>match canonO (ic 4) st with | some s=>(match s with | ⟨[(a,.c (.sl (.pair (.pair (.int .i64) (.pair (.int .i64) (.sl (.int .u8)))) (.int .i64)) b)),(d,.c (.sl (.pair (.pair (.int .i64) (.pair (.int .i64) (.sl (.int .u8)))) (.int .i64)) e)),(f,.c (i6 g))],[],h,i⟩=>bif qb [a,d,f,h,i] [0,1,5,0,0] then iter (eX fuel) fuel (b,e,g) (nB K) else none | _=>none) | none=>none
theorem zQ (fuel:Nat) (st:Ev.St) (K:KT) (r:Ans) (h:jn fuel st K=some r):evalCode tab (wW fuel) J0 ic fuel (.block 0 (.loop (bodyOf 0 Tryz.f13))) st K=some r:=by
  unfold jn at h
  split at h
  · rename_i s hs
    split at h
    · skip
      obtain ⟨hb,h⟩:=cond_some' h
      cases qb_eq hb
      exact blk_loop (S:=nH) (ks:=nB) (step:=eX fuel) (v:=(_,_,_)) (by kernel_rfl) (by kernel_rfl) (fun R K v=>by obtain ⟨a,b,c⟩:=v; exact Ic fuel (bx fuel) R K a b c) hs h
    · cases h
  · cases h
def Cn (fuel:Nat) (i:Nat):Option Ev.Blk:=Ev.look i [(100000,jn fuel)]
def tz (fuel:Nat) (c:cU) (a:(List ((Int×Int×LI)×Int))) (b:(List ((Int×Int×LI)×Int))) (k0:(Bool)→OA):OA:=bif (↑a.length:Int) != (↑b.length:Int) then k0 false else (xc fuel (a,b,0) (fun ret0_0=>k0 ret0_0) (fun ()=>k0 true))
abbrev gX:Type:=((List ((Int×Int×LI)×Int)))→((List ((Int×Int×LI)×Int)))→(Bool→Option Ans)→Option Ans
def fV (fuel:Nat):gX:=tz fuel (bx fuel)
theorem IC (fuel:Nat) (a:cU) (b:(List ((Int×Int×LI)×Int))) (d:(List ((Int×Int×LI)×Int))) (k:Ev.Cont):evalFn tab (qw a) (Cn fuel) ic fuel Tryz.f13 [.c (.sl (.pair (.pair (.int .i64) (.pair (.int .i64) (.sl (.int .u8)))) (.int .i64)) b),.c (.sl (.pair (.pair (.int .i64) (.pair (.int .i64) (.sl (.int .u8)))) (.int .i64)) d)] [] k=tz fuel a b d (fun r=>match r with | e=>k (.c (.bool e),[])):=by
  kernel_rfl
theorem xb (fuel:Nat):GOK Tryz.prog (wW fuel):=
  gc (wl fuel) Tryz.func15 (by kernel_rfl) rfl <|
  gok_nil
theorem Ea (fuel:Nat):BlkOK Tryz.prog Tryz.f13.ntmps (.block 0 (.loop (bodyOf 0 Tryz.f13))) (jn fuel):=bo0 (xb fuel) (by kernel_rfl) (by kernel_rfl) (zQ fuel)
def rE (F:gX):Ev.Spec:=fun args objs k=>match args,objs with | [.c (.sl (.pair (.pair (.int .i64) (.pair (.int .i64) (.sl (.int .u8)))) (.int .i64)) a),.c (.sl (.pair (.pair (.int .i64) (.pair (.int .i64) (.sl (.int .u8)))) (.int .i64)) b)],[]=>F a b (fun r=>match r with | d=>k (.c (.bool d),[])) | _,_=>none
theorem Ga (fuel:Nat):FnOK Tryz.prog 13 (rE (fV fuel)):=by
  intro args objs kk r h
  unfold rE at h
  split at h
  · skip
    exact fo1 (xb fuel) Tryz.func13 rfl (Ea fuel) (by kernel_rfl) _ _ kk r ((IC fuel (bx fuel) _ _ kk).trans h)
  · cases h
def CZ (i:Nat):Option (List Nat):=Ev.look i []
def Fu (f:Nat):Option Ev.Spec:=Ev.look f []
def vb (fuel:Nat):Nat→Option Ev.Spec:=Fu
def dQ (fuel:Nat) (c a b:Int) (e:Bool) (d:Int) (k0:(Bool)→Option Ans):Option Ans:=bif decide (c < 0) then k0 false else bif decide (c > 3) then k0 false else bif decide (d < 0) then k0 false else bif decide (d > 1) then k0 false else bif decide (a < (-8:Int)) then k0 false else bif decide (a > 8) then k0 false else bif decide (b < (-8:Int)) then k0 false else bif decide (b > 0) then k0 false else bif decide (b < 0) then k0 true else k0 (decide (a < 0))
abbrev ja:Type:=Int→Int→Int→Bool→Int→(Bool→Option Ans)→Option Ans
theorem Jw (fuel:Nat) (a b d:Int) (e:Bool) (f:Int) (k:Ev.Cont):evalFn tab (vb fuel) J0 CZ fuel Tryz.f22 [.agg [i6 a,i6 b,i6 d,.bool e,i6 f]] [] k=dQ fuel a b d e f (fun r=>match r with | g=>k (.c (.bool g),[])):=by
  kernel_rfl
theorem Jd (fuel:Nat):GOK Tryz.prog (vb fuel):=
  gok_nil
def mC (F:ja):Ev.Spec:=fun args objs k=>match args,objs with | [.agg [i6 a,i6 b,i6 d,.bool e,i6 f]],[]=>F a b d e f (fun r=>match r with | g=>k (.c (.bool g),[])) | _,_=>none
theorem JJ (fuel:Nat):FnOK Tryz.prog 22 (mC (dQ fuel)):=by
  intro args objs kk r h
  unfold mC at h
  split at h
  · skip
    exact fo0 (Jd fuel) Tryz.func22 rfl (by kernel_rfl) _ _ kk r ((Jw fuel _ _ _ _ _ kk).trans h)
  · cases h
def FP (i:Nat):Option (List Nat):=Ev.look i []
def xE (a:ja) (f:Nat):Option Ev.Spec:=Ev.look f [(22,mC a)]
def G7 (fuel:Nat):Nat→Option Ev.Spec:=xE (dQ fuel)
def mu (fuel:Nat) (c:ja) (d e f:Int) (a:Bool) (g b:Int) (k0:(Bool)→OA):OA:=(c d e f a g (fun h=>bif h then bif !a then bif b==0 then k0 true else k0 (b==1) else k0 false else k0 false))
abbrev gM:Type:=Int→Int→Int→Bool→Int→Int→(Bool→Option Ans)→Option Ans
def gk (fuel:Nat):gM:=mu fuel (dQ fuel)
theorem Am (fuel:Nat) (a:ja) (b d e:Int) (f:Bool) (g h:Int) (k:Ev.Cont):evalFn tab (xE a) J0 FP fuel Tryz.f7 [.agg [i6 b,i6 d,i6 e,.bool f,i6 g,i6 h]] [] k=mu fuel a b d e f g h (fun r=>match r with | i=>k (.c (.bool i),[])):=by
  kernel_rfl
theorem CQ (fuel:Nat):GOK Tryz.prog (G7 fuel):=
  gc (JJ fuel) Tryz.func22 (by kernel_rfl) rfl <|
  gok_nil
def uh (F:gM):Ev.Spec:=fun args objs k=>match args,objs with | [.agg [i6 a,i6 b,i6 d,.bool e,i6 f,i6 g]],[]=>F a b d e f g (fun r=>match r with | h=>k (.c (.bool h),[])) | _,_=>none
theorem Cw (fuel:Nat):FnOK Tryz.prog 7 (uh (gk fuel)):=by
  intro args objs kk r h
  unfold uh at h
  split at h
  · skip
    exact fo0 (CQ fuel) Tryz.func7 rfl (by kernel_rfl) _ _ kk r ((Am fuel (dQ fuel) _ _ _ _ _ _ kk).trans h)
  · cases h
def iG (i:Nat):Option (List Nat):=Ev.look i [(5,[6,17]),(100000,[6]),(400000,[4,5]),(600000,[])]
def qR (b:bt) (c:bZ) (a:bM) (f:Nat):Option Ev.Spec:=Ev.look f [(71,io b),(76,ji c),(84,kR a)]
def vg (fuel:Nat):Nat→Option Ev.Spec:=qR (aM fuel) (bI fuel) (aT fuel)
abbrev rB:Type:=Int×Int×Int×Int×Int×Int×Int×Bool×Bool×LI×LI
abbrev tJ:Type:=(Int×Int×Int×Int×Int×Int×Bool×Bool×LI×LI→OA)
def lR (fuel:Nat) (y:bt) (z:bZ) (n:bM) (d e:Int) (f g:Int) (h i j:Int) (k l:Bool) (m a:LI) (c:rB→OA) (B:tJ):OA:=match B with | b=>bif decide (d < 4) then (n e f g h i j k l m a (fun (o,p,q,r,s,t,u,v,w,x)=>c (i64.wrap (d+1),o,p,q,r,s,t,u,v,w,x))) else b (e,f,g,h,i,j,k,l,m,a)
def fs (fuel:Nat) (v:Int×Int×Int×Int×Int×Int×Int×Bool×Bool×(List Int)×(List Int)) (c:(Int×Int×Int×Int×Int×Int×Int×Bool×Bool×(List Int)×(List Int))→Option Ans) (B:(Int×Int×Int×Int×Int×Int×Bool×Bool×(List Int)×(List Int)→Option Ans)):Option Ans:=match v with | (b,d,e,f,g,h,i,j,k,l,a)=>lR fuel (aM fuel) (bI fuel) (aT fuel) b d e f g h i j k l a c B
def wq (fuel:Nat) (v:rB) (b:tJ):Option Ans:=iter (fs fuel) fuel v b
def oC (v:rB):Ev.St:=match v with | (b,d,e,f,g,h,i,j,k,l,a)=>⟨[(6,.c (.ptr 0 0)),(17,.c (i6 b))],[(0,.cells 147 (i6 d::.own 1::ctb (.int .u64 e::.int .u64 f::.own 2::i6 g::.int .u64 h::i6 i::.bool j::.bool k::[]))),(1,.vec 3 (.int .i64) l true),(2,.vec 5 (.int .u8) a true)],3,0⟩
def rK (K:KT):tJ:=(fun v=>match v with | (a,b,d,e,f,g,h,i,j,k)=>K .normal ⟨[(6,.c (.ptr 0 0))],[(0,.cells 147 (i6 a::.own 1::ctb (.int .u64 b::.int .u64 d::.own 2::i6 e::.int .u64 f::i6 g::.bool h::.bool i::[]))),(1,.vec 3 (.int .i64) j true),(2,.vec 5 (.int .u8) k true)],3,0⟩)
theorem Ae (fuel:Nat) (b:bt) (c:bZ) (a:bM) (R:Ev.St→OA) (K:KT) (e f:Int) (g h:Int) (i j k:Int) (l m:Bool) (n d:LI):evalCode tab (qR b c a) J0 iG fuel (bodyOf 0 Tryz.f36) (oC (e,f,g,h,i,j,k,l,m,n,d)) (lc iG 5 0 R K)=lR fuel b c a e f g h i j k l m n d (fun v=>R (oC v)) (rK K):=by
  kernel_rfl
def jp (fuel:Nat):Ev.Blk:=fun st K=>match canonO (iG 5) st with | some s=>(match s with | ⟨[(h,.c (.ptr i j)),(k,.c (i6 l))],[(m,.cells n a),(o,.vec p (.int .i64) q true),(r,.vec t (.int .u8) b true)],d,e⟩=>(match splitRun 2 ctn a with | some ([i6 u,.own f],[.int .u64 v,.int .u64 w,.own g,i6 x,.int .u64 y,i6 z,.bool A,.bool B])=>bif qb [h,i,j,k,m,n,o,p,r,t,d,e,f,g] [6,0,0,17,0,147,1,3,2,5,3,0,1,2] then iter (fs fuel) fuel (l,u,v,w,x,y,z,A,B,q,b) (rK K) else none | _=>none) | _=>none) | none=>none
theorem BJ (fuel:Nat) (st:Ev.St) (K:KT) (r:Ans) (h:jp fuel st K=some r):evalCode tab (vg fuel) J0 iG fuel (.block 0 (.loop (bodyOf 0 Tryz.f36))) st K=some r:=by
  unfold jp at h
  split at h
  · rename_i s hs
    split at h
    · skip
      split at h
      rotate_left 1
      · cases h
      rename_i hsp
      have esp:=splitRun_eq hsp
      subst esp
      obtain ⟨hb,h⟩:=cond_some' h
      cases qb_eq hb
      exact blk_loop (S:=oC) (ks:=rK) (step:=fs fuel) (v:=(_,_,_,_,_,_,_,_,_,_,_)) (by kernel_rfl) (by kernel_rfl) (fun R K v=>by obtain ⟨b,c,d,e,f,g,i,j,k,l,a⟩:=v; exact Ae fuel (aM fuel) (bI fuel) (aT fuel) R K b c d e f g i j k l a) hs h
    · cases h
  · cases h
def Ab (fuel:Nat) (i:Nat):Option Ev.Blk:=Ev.look i [(100000,jp fuel)]
def pi (fuel:Nat) (r:bt) (s:bZ) (u:bM) (b:Int) (c a:LI) (k0:(Int)→OA) (k1:(Int×Int×Int×Int×Int×Int×Int×Bool×Bool×LI×LI)→OA):OA:=(r b c (fun t=>bif !t then k0 (10) else (s b c (fun (d,e,f,g)=>bif decide (((0:Nat)+a.length)*(1:Nat)≤(140737488355328:Nat)∧(0:Nat)+a.length≤(140737488355328:Nat)) then (wq fuel ((0:Int),d,e,f,(0:Int),(0:Int),(0:Int),false,true,g,[]++a) (fun (h,i,j,k,l,m,n,o,p,q)=>k1 (0,h,i,j,k,l,m,n,o,p,q))) else none))))
abbrev et:Type:=Int→LI→LI→(Int→Option Ans)→((Int×Int×Int×Int×Int×Int×Int×Bool×Bool×LI×LI)→Option Ans)→Option Ans
def dg (fuel:Nat):et:=pi fuel (aM fuel) (bI fuel) (aT fuel)
theorem Ec (fuel:Nat) (d:bt) (e:bZ) (b:bM) (f:Int) (g h:LI) (k:Ev.Cont):evalFn tab (qR d e b) (Ab fuel) iG fuel Tryz.f36 [.agg [i6 f,.sl (.int .i64) g],.c (.sl (.int .u8) h)] [] k=pi fuel d e b f g h (fun r=>match r with | a=>k (.tup [(false,[.nilptr]),(false,[i6 a])],[])) (fun r=>match r with | (a,j,l,m,n,o,p,q,s,t,i)=>k (.tup [(false,[.ptr 0 0]),(false,[i6 a])],[.cells 147 (i6 j::.own 1::ctb (.int .u64 l::.int .u64 m::.own 2::i6 n::.int .u64 o::i6 p::.bool q::.bool s::[])),.vec 3 (.int .i64) t true,.vec 5 (.int .u8) i true])):=by
  kernel_rfl
theorem wD (fuel:Nat):GOK Tryz.prog (vg fuel):=
  gc (kf fuel) Tryz.func71 (by kernel_rfl) rfl <|
  gc (tN fuel) Tryz.func76 (by kernel_rfl) rfl <|
  gc (nU fuel) Tryz.func84 (by kernel_rfl) rfl <|
  gok_nil
theorem GH (fuel:Nat):BlkOK Tryz.prog Tryz.f36.ntmps (.block 0 (.loop (bodyOf 0 Tryz.f36))) (jp fuel):=bo0 (wD fuel) (by kernel_rfl) (by kernel_rfl) (BJ fuel)
def oi (F:et):Ev.Spec:=fun args objs k=>match args,objs with | [.agg [i6 d,.sl (.int .i64) e],.c (.sl (.int .u8) f)],[]=>F d e f (fun r=>match r with | a=>k (.tup [(false,[.nilptr]),(false,[i6 a])],[])) (fun r=>match r with | (a,g,h,i,j,l,m,n,o,p,b)=>k (.tup [(false,[.ptr 0 0]),(false,[i6 a])],[.cells 147 (i6 g::.own 1::ctb (.int .u64 h::.int .u64 i::.own 2::i6 j::.int .u64 l::i6 m::.bool n::.bool o::[])),.vec 3 (.int .i64) p true,.vec 5 (.int .u8) b true])) | _,_=>none
theorem Av (fuel:Nat):FnOK Tryz.prog 36 (oi (dg fuel)):=by
  intro args objs kk r h
  unfold oi at h
  split at h
  · skip
    exact fo1 (wD fuel) Tryz.func36 rfl (GH fuel) (by kernel_rfl) _ _ kk r ((Ec fuel (aM fuel) (bI fuel) (aT fuel) _ _ _ kk).trans h)
  · cases h
def G4 (i:Nat):Option (List Nat):=Ev.look i []
def JM (f:Nat):Option Ev.Spec:=Ev.look f []
def vc (fuel:Nat):Nat→Option Ev.Spec:=JM
def aA (fuel:Nat) (a:(List (Int×Int×(List Int)))) (k0:((List (Int×(Int×(List Int)))))→Option Ans):Option Ans:=bif decide ((↑a.length:Int)=0) then both (k0 []) (bif decide (((0:Nat)+a.length)*(40:Nat)≤(140737488355328:Nat)∧(0:Nat)+a.length≤(140737488355328:Nat)) then k0 ([]++a) else none) else bif decide (((0:Nat)+a.length)*(40:Nat)≤(140737488355328:Nat)∧(0:Nat)+a.length≤(140737488355328:Nat)) then k0 ([]++a) else none
abbrev aO:Type:=((List (Int×Int×LI)))→(((List (Int×(Int×LI))))→Option Ans)→Option Ans
theorem J6 (fuel:Nat) (a:(List (Int×Int×LI))) (k:Ev.Cont):evalFn tab (vc fuel) J0 G4 fuel Tryz.f30 [.c (.sl (.pair (.int .i64) (.pair (.int .i64) (.sl (.int .u8)))) a)] [] k=aA fuel a (fun r=>match r with | b=>k (.c (.own 0),[.vec 29 (.pair (.int .i64) (.pair (.int .i64) (.sl (.int .u8)))) b true])):=by
  kernel_rfl
theorem BE (fuel:Nat):GOK Tryz.prog (vc fuel):=
  gok_nil
def ir (F:aO):Ev.Spec:=fun args objs k=>match args,objs with | [.c (.sl (.pair (.int .i64) (.pair (.int .i64) (.sl (.int .u8)))) a)],[]=>F a (fun r=>match r with | b=>k (.c (.own 0),[.vec 29 (.pair (.int .i64) (.pair (.int .i64) (.sl (.int .u8)))) b true])) | _,_=>none
theorem rk (fuel:Nat):FnOK Tryz.prog 30 (ir (aA fuel)):=by
  intro args objs kk r h
  unfold ir at h
  split at h
  · skip
    exact fo0 (BE fuel) Tryz.func30 rfl (by kernel_rfl) _ _ kk r ((J6 fuel _ kk).trans h)
  · cases h
def HW (i:Nat):Option (List Nat):=Ev.look i []
def BR (f:Nat):Option Ev.Spec:=Ev.look f []
def ye (fuel:Nat):Nat→Option Ev.Spec:=BR
def bA (fuel:Nat) (a b:Int) (k0:(Bool)→Option Ans):Option Ans:=bif decide (a≥0) then bif decide (b≥0) then bif decide (a≤200) then bif decide (b≤200) then k0 (decide (i64.wrap (a*b)≤8192)) else k0 false else k0 false else k0 false else k0 false
abbrev cK:Type:=Int→Int→(Bool→Option Ans)→Option Ans
theorem DY (fuel:Nat) (a b:Int) (k:Ev.Cont):evalFn tab (ye fuel) J0 HW fuel Tryz.f147 [.c (i6 a),.c (i6 b)] [] k=bA fuel a b (fun r=>match r with | d=>k (.c (.bool d),[])):=by
  kernel_rfl
theorem Dp (fuel:Nat):GOK Tryz.prog (ye fuel):=
  gok_nil
def jD (F:cK):Ev.Spec:=fun args objs k=>match args,objs with | [.c (i6 a),.c (i6 b)],[]=>F a b (fun r=>match r with | d=>k (.c (.bool d),[])) | _,_=>none
theorem xe (fuel:Nat):FnOK Tryz.prog 147 (jD (bA fuel)):=by
  intro args objs kk r h
  unfold jD at h
  split at h
  · skip
    exact fo0 (Dp fuel) Tryz.func147 rfl (by kernel_rfl) _ _ kk r ((DY fuel _ _ kk).trans h)
  · cases h
def gw (i:Nat):Option (List Nat):=Ev.look i [(4,[23,24,25]),(100000,[]),(400000,[2])]
def rg (a:cK) (f:Nat):Option Ev.Spec:=Ev.look f [(147,jD a)]
def vY (fuel:Nat):Nat→Option Ev.Spec:=rg (bA fuel)
def fo (fuel:Nat) (f:cK) (d:LI) (e a:Int) (c:(LI×Int×Int)→OA) (B:(Bool→OA)×(Unit→OA)):OA:=match B with | (ret,b)=>bif decide (a < e) then bif decide (0≤a∧a < (↑d.length:Int)) then bif decide (d.getD a.toNat (0:Int) > (1:Int)) then ret false else c (d,e,i64.wrap (a+1)) else none else b ()
def cG (fuel:Nat) (v:(List Int)×Int×Int) (c:((List Int)×Int×Int)→Option Ans) (B:(Bool→Option Ans)×(Unit→Option Ans)):Option Ans:=match v with | (a,b,d)=>fo fuel (bA fuel) a b d c B
def xp (fuel:Nat) (v:(List Int)×Int×Int) (ret:(Bool→Option Ans)) (b:(Unit→Option Ans)):Option Ans:=iter (cG fuel) fuel v (ret,b)
def tU (v:LI×Int×Int):Ev.St:=match v with | (a,b,d)=>⟨[(23,.c (.sl (.int .u8) a)),(24,.c (i6 b)),(25,.c (i6 d))],[],0,0⟩
def lY (K:KT):(Bool→OA)×(Unit→OA):=((fun v=>match v with | a=>K .ret ⟨[(2,.c (.bool a))],[],0,0⟩),(fun v=>match v with | ()=>K .normal ⟨[],[],0,0⟩))
theorem JK (fuel:Nat) (a:cK) (R:Ev.St→OA) (K:KT) (b:LI) (c d:Int):evalCode tab (rg a) J0 gw fuel (bodyOf 0 Tryz.f90) (tU (b,c,d)) (lc gw 4 0 R K)=fo fuel a b c d (fun v=>R (tU v)) (lY K):=by
  kernel_rfl
def kP (fuel:Nat):Ev.Blk:=fun st K=>match canonO (gw 4) st with | some s=>(match s with | ⟨[(a,.c (.sl (.int .u8) b)),(d,.c (i6 e)),(f,.c (i6 g))],[],h,i⟩=>bif qb [a,d,f,h,i] [23,24,25,0,0] then iter (cG fuel) fuel (b,e,g) (lY K) else none | _=>none) | none=>none
theorem CU (fuel:Nat) (st:Ev.St) (K:KT) (r:Ans) (h:kP fuel st K=some r):evalCode tab (vY fuel) J0 gw fuel (.block 0 (.loop (bodyOf 0 Tryz.f90))) st K=some r:=by
  unfold kP at h
  split at h
  · rename_i s hs
    split at h
    · skip
      obtain ⟨hb,h⟩:=cond_some' h
      cases qb_eq hb
      exact blk_loop (S:=tU) (ks:=lY) (step:=cG fuel) (v:=(_,_,_)) (by kernel_rfl) (by kernel_rfl) (fun R K v=>by obtain ⟨a,b,c⟩:=v; exact JK fuel (bA fuel) R K a b c) hs h
    · cases h
  · cases h
def zP (fuel:Nat) (i:Nat):Option Ev.Blk:=Ev.look i [(100000,kP fuel)]
def mL (fuel:Nat) (d:cK) (b c:Int) (a:LI) (k0:(Bool)→OA):OA:=(d b c (fun e=>bif !e then k0 false else bif (↑a.length:Int) != i64.wrap (b*c) then k0 false else (xp fuel (a,(↑a.length:Int),0) (fun ret0_0=>k0 ret0_0) (fun ()=>k0 true))))
abbrev ao:Type:=Int→Int→LI→(Bool→Option Ans)→Option Ans
def ai (fuel:Nat):ao:=mL fuel (bA fuel)
theorem J5 (fuel:Nat) (a:cK) (b d:Int) (e:LI) (k:Ev.Cont):evalFn tab (rg a) (zP fuel) gw fuel Tryz.f90 [.agg [i6 b,i6 d,.sl (.int .u8) e]] [] k=mL fuel a b d e (fun r=>match r with | f=>k (.c (.bool f),[])):=by
  kernel_rfl
theorem wQ (fuel:Nat):GOK Tryz.prog (vY fuel):=
  gc (xe fuel) Tryz.func147 (by kernel_rfl) rfl <|
  gok_nil
theorem AU (fuel:Nat):BlkOK Tryz.prog Tryz.f90.ntmps (.block 0 (.loop (bodyOf 0 Tryz.f90))) (kP fuel):=bo0 (wQ fuel) (by kernel_rfl) (by kernel_rfl) (CU fuel)
def dH (F:ao):Ev.Spec:=fun args objs k=>match args,objs with | [.agg [i6 a,i6 b,.sl (.int .u8) d]],[]=>F a b d (fun r=>match r with | e=>k (.c (.bool e),[])) | _,_=>none
theorem gG (fuel:Nat):FnOK Tryz.prog 90 (dH (ai fuel)):=by
  intro args objs kk r h
  unfold dH at h
  split at h
  · skip
    exact fo1 (wQ fuel) Tryz.func90 rfl (AU fuel) (by kernel_rfl) _ _ kk r ((J5 fuel (bA fuel) _ _ _ kk).trans h)
  · cases h
def FU (i:Nat):Option (List Nat):=Ev.look i []
def xm (a:ao) (f:Nat):Option Ev.Spec:=Ev.look f [(90,dH a)]
def J4 (fuel:Nat):Nat→Option Ev.Spec:=xm (ai fuel)
def op (fuel:Nat) (c:ao) (a b:Int) (d:LI) (k0:(Bool)→OA):OA:=(c a b d (fun e=>bif e then bif decide (a≥1) then bif decide (a≤40) then bif decide (b≥1) then k0 (decide (b≤40)) else k0 false else k0 false else k0 false else k0 false))
abbrev aY:Type:=Int→Int→LI→(Bool→Option Ans)→Option Ans
def aS (fuel:Nat):aY:=op fuel (ai fuel)
theorem Gy (fuel:Nat) (a:ao) (b d:Int) (e:LI) (k:Ev.Cont):evalFn tab (xm a) J0 FU fuel Tryz.f43 [.agg [i6 b,i6 d,.sl (.int .u8) e]] [] k=op fuel a b d e (fun r=>match r with | f=>k (.c (.bool f),[])):=by
  kernel_rfl
theorem Dz (fuel:Nat):GOK Tryz.prog (J4 fuel):=
  gc (gG fuel) Tryz.func90 (by kernel_rfl) rfl <|
  gok_nil
def iM (F:aY):Ev.Spec:=fun args objs k=>match args,objs with | [.agg [i6 a,i6 b,.sl (.int .u8) d]],[]=>F a b d (fun r=>match r with | e=>k (.c (.bool e),[])) | _,_=>none
theorem rN (fuel:Nat):FnOK Tryz.prog 43 (iM (aS fuel)):=by
  intro args objs kk r h
  unfold iM at h
  split at h
  · skip
    exact fo0 (Dz fuel) Tryz.func43 rfl (by kernel_rfl) _ _ kk r ((Gy fuel (ai fuel) _ _ _ kk).trans h)
  · cases h
def F0 (i:Nat):Option (List Nat):=Ev.look i []
def yr (a:aY) (f:Nat):Option Ev.Spec:=Ev.look f [(43,iM a)]
def AF (fuel:Nat):Nat→Option Ev.Spec:=yr (aS fuel)
def qN (fuel:Nat) (a:aY) (b c:Int) (d:LI) (k0:(Bool)→OA):OA:=(a b c d (fun e=>k0 !e))
abbrev ew:Type:=Int→Int→LI→(Bool→Option Ans)→Option Ans
def dV (fuel:Nat):ew:=qN fuel (aS fuel)
theorem zl (fuel:Nat) (a:aY) (b d:Int) (e:LI) (k:Ev.Cont):evalFn tab (yr a) J0 F0 fuel Tryz.f72 [.agg [i6 b,i6 d,.sl (.int .u8) e]] [] k=qN fuel a b d e (fun r=>match r with | f=>k (.c (.bool f),[])):=by
  kernel_rfl
theorem BI (fuel:Nat):GOK Tryz.prog (AF fuel):=
  gc (rN fuel) Tryz.func43 (by kernel_rfl) rfl <|
  gok_nil
def mi (F:ew):Ev.Spec:=fun args objs k=>match args,objs with | [.agg [i6 a,i6 b,.sl (.int .u8) d]],[]=>F a b d (fun r=>match r with | e=>k (.c (.bool e),[])) | _,_=>none
theorem G6 (fuel:Nat):FnOK Tryz.prog 72 (mi (dV fuel)):=by
  intro args objs kk r h
  unfold mi at h
  split at h
  · skip
    exact fo0 (BI fuel) Tryz.func72 rfl (by kernel_rfl) _ _ kk r ((zl fuel (aS fuel) _ _ _ kk).trans h)
  · cases h
def iI (i:Nat):Option (List Nat):=Ev.look i [(2,[0,1,7,8]),(100000,[]),(400000,[4])]
def ur (a:ew) (f:Nat):Option Ev.Spec:=Ev.look f [(72,mi a)]
def vx (fuel:Nat):Nat→Option Ev.Spec:=ur (dV fuel)
abbrev oS:Type:=(List (Int×(Int×LI)))×Int×Int
abbrev xP:Type:=(Int→OA)×(Unit→OA)
def jk (fuel:Nat) (f:ew) (d:(List (Int×(Int×LI)))) (e a:Int) (c:oS→OA) (B:xP):OA:=match B with | (ret,b)=>bif decide (a < e) then bif decide (0≤a∧a < (↑d.length:Int)) then (f ((d.getD a.toNat (0,0,[])).fst) ((d.getD a.toNat (0,0,[])).snd.fst) ((d.getD a.toNat (0,0,[])).snd.snd) (fun g=>bif g then ret a else c (d,e,i64.wrap (a+1)))) else none else b ()
def de (fuel:Nat) (v:(List (Int×(Int×(List Int))))×Int×Int) (c:((List (Int×(Int×(List Int))))×Int×Int)→Option Ans) (B:(Int→Option Ans)×(Unit→Option Ans)):Option Ans:=match v with | (a,b,d)=>jk fuel (dV fuel) a b d c B
def uM (fuel:Nat) (v:oS) (ret:(Int→Option Ans)) (b:(Unit→Option Ans)):Option Ans:=iter (de fuel) fuel v (ret,b)
def oN (v:oS):Ev.St:=match v with | (a,b,d)=>⟨[(0,.c (.sl (.pair (.int .i64) (.pair (.int .i64) (.sl (.int .u8)))) a)),(1,.c (.clo 72 [])),(7,.c (i6 b)),(8,.c (i6 d))],[],0,0⟩
def th (K:KT):xP:=((fun v=>match v with | a=>K .ret ⟨[(4,.c (i6 a))],[],0,0⟩),(fun v=>match v with | ()=>K .normal ⟨[],[],0,0⟩))
theorem zx (fuel:Nat) (a:ew) (R:Ev.St→OA) (K:KT) (b:(List (Int×(Int×LI)))) (c d:Int):evalCode tab (ur a) J0 iI fuel (bodyOf 0 Tryz.f89) (oN (b,c,d)) (lc iI 2 0 R K)=jk fuel a b c d (fun v=>R (oN v)) (th K):=by
  kernel_rfl
def jI (fuel:Nat):Ev.Blk:=fun st K=>match canonO (iI 2) st with | some s=>(match s with | ⟨[(a,.c (.sl (.pair (.int .i64) (.pair (.int .i64) (.sl (.int .u8)))) b)),(d,.c (.clo e [])),(f,.c (i6 g)),(h,.c (i6 i))],[],j,k⟩=>bif qb [a,d,e,f,h,j,k] [0,1,72,7,8,0,0] then iter (de fuel) fuel (b,g,i) (th K) else none | _=>none) | none=>none
theorem Hv (fuel:Nat) (st:Ev.St) (K:KT) (r:Ans) (h:jI fuel st K=some r):evalCode tab (vx fuel) J0 iI fuel (.block 0 (.loop (bodyOf 0 Tryz.f89))) st K=some r:=by
  unfold jI at h
  split at h
  · rename_i s hs
    split at h
    · skip
      obtain ⟨hb,h⟩:=cond_some' h
      cases qb_eq hb
      exact blk_loop (S:=oN) (ks:=th) (step:=de fuel) (v:=(_,_,_)) (by kernel_rfl) (by kernel_rfl) (fun R K v=>by obtain ⟨a,b,c⟩:=v; exact zx fuel (dV fuel) R K a b c) hs h
    · cases h
  · cases h
def FC (fuel:Nat) (i:Nat):Option Ev.Blk:=Ev.look i [(100000,jI fuel)]
def lX (fuel:Nat) (b:ew) (a:(List (Int×(Int×LI)))) (k0:(Int)→OA):OA:=(uM fuel (a,(↑a.length:Int),0) (fun ret0_0=>k0 ret0_0) (fun ()=>k0 ((-1:Int))))
abbrev il:Type:=((List (Int×(Int×LI))))→(Int→Option Ans)→Option Ans
def gt (fuel:Nat):il:=lX fuel (dV fuel)
theorem EX (fuel:Nat) (a:ew) (b:(List (Int×(Int×LI)))) (k:Ev.Cont):evalFn tab (ur a) (FC fuel) iI fuel Tryz.f89 [.c (.sl (.pair (.int .i64) (.pair (.int .i64) (.sl (.int .u8)))) b),.c (.clo 72 [])] [] k=lX fuel a b (fun r=>match r with | d=>k (.c (i6 d),[])):=by
  kernel_rfl
theorem xf (fuel:Nat):GOK Tryz.prog (vx fuel):=
  gc (G6 fuel) Tryz.func72 (by kernel_rfl) rfl <|
  gok_nil
theorem AR (fuel:Nat):BlkOK Tryz.prog Tryz.f89.ntmps (.block 0 (.loop (bodyOf 0 Tryz.f89))) (jI fuel):=bo0 (xf fuel) (by kernel_rfl) (by kernel_rfl) (Hv fuel)
def uw (F:il):Ev.Spec:=fun args objs k=>match args,objs with | [.c (.sl (.pair (.int .i64) (.pair (.int .i64) (.sl (.int .u8)))) a),.c (.clo b [])],[]=>bif qb [b] [72] then F a (fun r=>match r with | d=>k (.c (i6 d),[])) else none | _,_=>none
theorem HJ (fuel:Nat):FnOK Tryz.prog 89 (uw (gt fuel)):=by
  intro args objs kk r h
  unfold uw at h
  split at h
  · skip
    obtain ⟨hb,h⟩:=cond_some' h
    cases qb_eq hb
    exact fo1 (xf fuel) Tryz.func89 rfl (AR fuel) (by kernel_rfl) _ _ kk r ((EX fuel (dV fuel) _ kk).trans h)
  · cases h
def CT (i:Nat):Option (List Nat):=Ev.look i []
def xt (a:il) (f:Nat):Option Ev.Spec:=Ev.look f [(89,uw a)]
def IH (fuel:Nat):Nat→Option Ev.Spec:=xt (gt fuel)
def nC (fuel:Nat) (a:il) (b:(List (Int×(Int×LI)))) (k0:(Bool)→OA):OA:=(a b (fun c=>k0 (decide (c≥0))))
abbrev hO:Type:=((List (Int×(Int×LI))))→(Bool→Option Ans)→Option Ans
def eq (fuel:Nat):hO:=nC fuel (gt fuel)
theorem AI (fuel:Nat) (a:il) (b:(List (Int×(Int×LI)))) (k:Ev.Cont):evalFn tab (xt a) J0 CT fuel Tryz.f41 [.c (.sl (.pair (.int .i64) (.pair (.int .i64) (.sl (.int .u8)))) b),.c (.clo 72 [])] [] k=nC fuel a b (fun r=>match r with | d=>k (.c (.bool d),[])):=by
  kernel_rfl
theorem zU (fuel:Nat):GOK Tryz.prog (IH fuel):=
  gc (HJ fuel) Tryz.func89 (by kernel_rfl) rfl <|
  gok_nil
def mv (F:hO):Ev.Spec:=fun args objs k=>match args,objs with | [.c (.sl (.pair (.int .i64) (.pair (.int .i64) (.sl (.int .u8)))) a),.c (.clo b [])],[]=>bif qb [b] [72] then F a (fun r=>match r with | d=>k (.c (.bool d),[])) else none | _,_=>none
theorem Iz (fuel:Nat):FnOK Tryz.prog 41 (mv (eq fuel)):=by
  intro args objs kk r h
  unfold mv at h
  split at h
  · skip
    obtain ⟨hb,h⟩:=cond_some' h
    cases qb_eq hb
    exact fo0 (zU fuel) Tryz.func41 rfl (by kernel_rfl) _ _ kk r ((AI fuel (gt fuel) _ kk).trans h)
  · cases h
def C8 (i:Nat):Option (List Nat):=Ev.look i [(200001,[1])]
def C9 (f:Nat):Option Ev.Spec:=Ev.look f []
def wJ (fuel:Nat):Nat→Option Ev.Spec:=C9
def aE (fuel:Nat) (c a b:Int) (e:Bool) (d:Int) (k0:(Bool)→Option Ans):Option Ans:=bif decide (c≥0) then bif decide (c≤3) then bif d==0 then bif decide (a≥(-8:Int)) then bif decide (a≤8) then bif decide (b≥(-8:Int)) then bif decide (b≤0) then bif decide (b < 0) then k0 true else k0 (decide (a < 0)) else k0 false else k0 false else k0 false else k0 false else bif d==1 then bif decide (a≥(-8:Int)) then bif decide (a≤8) then bif decide (b≥(-8:Int)) then bif decide (b≤0) then bif decide (b < 0) then k0 true else k0 (decide (a < 0)) else k0 false else k0 false else k0 false else k0 false else k0 false else k0 false else k0 false
abbrev aU:Type:=Int→Int→Int→Bool→Int→(Bool→Option Ans)→Option Ans
theorem Hx (fuel:Nat) (a b d:Int) (e:Bool) (f:Int) (k:Ev.Cont):evalFn tab (wJ fuel) J0 C8 fuel Tryz.f128 [.agg [i6 a,i6 b,i6 d,.bool e,i6 f]] [] k=aE fuel a b d e f (fun r=>match r with | g=>k (.c (.bool g),[])):=by
  kernel_rfl
theorem Gm (fuel:Nat):GOK Tryz.prog (wJ fuel):=
  gok_nil
def fw (F:aU):Ev.Spec:=fun args objs k=>match args,objs with | [.agg [i6 a,i6 b,i6 d,.bool e,i6 f]],[]=>F a b d e f (fun r=>match r with | g=>k (.c (.bool g),[])) | _,_=>none
theorem lQ (fuel:Nat):FnOK Tryz.prog 128 (fw (aE fuel)):=by
  intro args objs kk r h
  unfold fw at h
  split at h
  · skip
    exact fo0 (Gm fuel) Tryz.func128 rfl (by kernel_rfl) _ _ kk r ((Hx fuel _ _ _ _ _ kk).trans h)
  · cases h
def zj (i:Nat):Option (List Nat):=Ev.look i []
def zg (a:aU) (f:Nat):Option Ev.Spec:=Ev.look f [(128,fw a)]
def DR (fuel:Nat):Nat→Option Ev.Spec:=zg (aE fuel)
def nf (fuel:Nat) (c:aU) (d e f:Int) (a:Bool) (g b:Int) (k0:(Bool)→OA):OA:=(c d e f a g (fun h=>bif h then bif !a then bif b==0 then k0 true else k0 (b==1) else k0 false else k0 false))
abbrev ip:Type:=Int→Int→Int→Bool→Int→Int→(Bool→Option Ans)→Option Ans
def fa (fuel:Nat):ip:=nf fuel (aE fuel)
theorem zy (fuel:Nat) (a:aU) (b d e:Int) (f:Bool) (g h:Int) (k:Ev.Cont):evalFn tab (zg a) J0 zj fuel Tryz.f126 [.agg [i6 b,i6 d,i6 e,.bool f,i6 g,i6 h]] [] k=nf fuel a b d e f g h (fun r=>match r with | i=>k (.c (.bool i),[])):=by
  kernel_rfl
theorem AA (fuel:Nat):GOK Tryz.prog (DR fuel):=
  gc (lQ fuel) Tryz.func128 (by kernel_rfl) rfl <|
  gok_nil
def oB (F:ip):Ev.Spec:=fun args objs k=>match args,objs with | [.agg [i6 a,i6 b,i6 d,.bool e,i6 f,i6 g]],[]=>F a b d e f g (fun r=>match r with | h=>k (.c (.bool h),[])) | _,_=>none
theorem GG (fuel:Nat):FnOK Tryz.prog 126 (oB (fa fuel)):=by
  intro args objs kk r h
  unfold oB at h
  split at h
  · skip
    exact fo0 (AA fuel) Tryz.func126 rfl (by kernel_rfl) _ _ kk r ((zy fuel (aE fuel) _ _ _ _ _ _ kk).trans h)
  · cases h
def Jh (i:Nat):Option (List Nat):=Ev.look i []
def Ih (f:Nat):Option Ev.Spec:=Ev.look f []
def yi (fuel:Nat):Nat→Option Ev.Spec:=Ih
def bV (fuel:Nat) (a:Int) (k0:((List (Int×Int)))→Option Ans):Option Ans:=bif a==0 then k0 ([((-1:Int),(-2:Int)),(0,(-2:Int)),(1,(-2:Int)),((-2:Int),(-1:Int)),((-1:Int),(-1:Int)),(0,(-1:Int)),(1,(-1:Int)),(2,(-1:Int)),((-2:Int),0),((-1:Int),0)]) else bif a==1 then k0 ([((-1:Int),(-2:Int)),(0,(-2:Int)),((-1:Int),(-1:Int)),(0,(-1:Int)),(1,(-1:Int)),((-2:Int),0),((-1:Int),0)]) else bif a==2 then k0 ([((-2:Int),(-1:Int)),((-1:Int),(-1:Int)),(0,(-1:Int)),(1,(-1:Int)),(2,(-1:Int)),((-2:Int),0),((-1:Int),0)]) else k0 ([((-1:Int),(-1:Int)),(0,(-1:Int)),(1,(-1:Int)),((-1:Int),0)])
abbrev ek:Type:=Int→(((List (Int×Int)))→Option Ans)→Option Ans
theorem Fy (fuel:Nat) (a:Int) (k:Ev.Cont):evalFn tab (yi fuel) J0 Jh fuel Tryz.f163 [.c (i6 a)] [] k=bV fuel a (fun r=>match r with | b=>k (.c (.own 0),[.vec 22 (.pair (.int .i64) (.int .i64)) b true])):=by
  kernel_rfl
theorem GT (fuel:Nat):GOK Tryz.prog (yi fuel):=
  gok_nil
def jF (F:ek):Ev.Spec:=fun args objs k=>match args,objs with | [.c (i6 a)],[]=>F a (fun r=>match r with | b=>k (.c (.own 0),[.vec 22 (.pair (.int .i64) (.int .i64)) b true])) | _,_=>none
theorem xo (fuel:Nat):FnOK Tryz.prog 163 (jF (bV fuel)):=by
  intro args objs kk r h
  unfold jF at h
  split at h
  · skip
    exact fo0 (GT fuel) Tryz.func163 rfl (by kernel_rfl) _ _ kk r ((Fy fuel _ kk).trans h)
  · cases h
def Ci (i:Nat):Option (List Nat):=Ev.look i []
def vz (a:ek) (f:Nat):Option Ev.Spec:=Ev.look f [(163,jF a)]
def H0 (fuel:Nat):Nat→Option Ev.Spec:=vz (bV fuel)
def sQ (fuel:Nat) (a:ek) (b d e:Int) (f:Bool) (g:Int) (k0:(Int)→OA):OA:=(a b (fun c=>k0 (Ev.ishl IntKind.i64 2 (↑c.length:Int))))
abbrev aw:Type:=Int→Int→Int→Bool→Int→(Int→Option Ans)→Option Ans
def av (fuel:Nat):aw:=sQ fuel (bV fuel)
theorem IU (fuel:Nat) (a:ek) (b d e:Int) (f:Bool) (g:Int) (k:Ev.Cont):evalFn tab (vz a) J0 Ci fuel Tryz.f129 [.agg [i6 b,i6 d,i6 e,.bool f,i6 g]] [] k=sQ fuel a b d e f g (fun r=>match r with | h=>k (.c (i6 h),[])):=by
  kernel_rfl
theorem JW (fuel:Nat):GOK Tryz.prog (H0 fuel):=
  gc (xo fuel) Tryz.func163 (by kernel_rfl) rfl <|
  gok_nil
def fH (F:aw):Ev.Spec:=fun args objs k=>match args,objs with | [.agg [i6 a,i6 b,i6 d,.bool e,i6 f]],[]=>F a b d e f (fun r=>match r with | g=>k (.c (i6 g),[])) | _,_=>none
theorem kA (fuel:Nat):FnOK Tryz.prog 129 (fH (av fuel)):=by
  intro args objs kk r h
  unfold fH at h
  split at h
  · skip
    exact fo0 (JW fuel) Tryz.func129 rfl (by kernel_rfl) _ _ kk r ((IU fuel (bV fuel) _ _ _ _ _ kk).trans h)
  · cases h
def Ij (i:Nat):Option (List Nat):=Ev.look i []
def xW (a:aU) (b:aw) (f:Nat):Option Ev.Spec:=Ev.look f [(128,fw a),(129,fH b)]
def He (fuel:Nat):Nat→Option Ev.Spec:=xW (aE fuel) (av fuel)
def pd (fuel:Nat) (f:aU) (g:aw) (a b c:Int) (d:Bool) (e:Int) (k0:(Int×Int)→OA):OA:=(f a b c d e (fun h=>bif !h then k0 (0,2) else (g a b c d e (fun i=>k0 (i64.wrap (i+1),0)))))
abbrev hU:Type:=Int→Int→Int→Bool→Int→((Int×Int)→Option Ans)→Option Ans
def dW (fuel:Nat):hU:=pd fuel (aE fuel) (av fuel)
theorem EZ (fuel:Nat) (a:aU) (b:aw) (c d e:Int) (f:Bool) (g:Int) (k:Ev.Cont):evalFn tab (xW a b) J0 Ij fuel Tryz.f74 [.agg [i6 c,i6 d,i6 e,.bool f,i6 g]] [] k=pd fuel a b c d e f g (fun r=>match r with | (h,i)=>k (.tup [(false,[i6 h]),(false,[i6 i])],[])):=by
  kernel_rfl
theorem Cg (fuel:Nat):GOK Tryz.prog (He fuel):=
  gc (lQ fuel) Tryz.func128 (by kernel_rfl) rfl <|
  gc (kA fuel) Tryz.func129 (by kernel_rfl) rfl <|
  gok_nil
def tq (F:hU):Ev.Spec:=fun args objs k=>match args,objs with | [.agg [i6 a,i6 b,i6 c,.bool d,i6 e]],[]=>F a b c d e (fun r=>match r with | (f,g)=>k (.tup [(false,[i6 f]),(false,[i6 g])],[])) | _,_=>none
theorem Fd (fuel:Nat):FnOK Tryz.prog 74 (tq (dW fuel)):=by
  intro args objs kk r h
  unfold tq at h
  split at h
  · skip
    exact fo0 (Cg fuel) Tryz.func74 rfl (by kernel_rfl) _ _ kk r ((EZ fuel (aE fuel) (av fuel) _ _ _ _ _ kk).trans h)
  · cases h
def Ag (i:Nat):Option (List Nat):=Ev.look i []
def Ew (f:Nat):Option Ev.Spec:=Ev.look f []
def xI (fuel:Nat):Nat→Option Ev.Spec:=Ew
def al (fuel:Nat) (a:Int) (k0:((List (Int×Int)))→Option Ans):Option Ans:=bif a==0 then k0 ([((-1:Int),(-1:Int)),(0,(-1:Int)),(1,(-1:Int)),((-1:Int),0)]) else k0 ([(0,(-1:Int)),((-1:Int),0)])
abbrev aH:Type:=Int→(((List (Int×Int)))→Option Ans)→Option Ans
theorem HB (fuel:Nat) (a:Int) (k:Ev.Cont):evalFn tab (xI fuel) J0 Ag fuel Tryz.f164 [.c (i6 a)] [] k=al fuel a (fun r=>match r with | b=>k (.c (.own 0),[.vec 22 (.pair (.int .i64) (.int .i64)) b true])):=by
  kernel_rfl
theorem Jb (fuel:Nat):GOK Tryz.prog (xI fuel):=
  gok_nil
def gN (F:aH):Ev.Spec:=fun args objs k=>match args,objs with | [.c (i6 a)],[]=>F a (fun r=>match r with | b=>k (.c (.own 0),[.vec 22 (.pair (.int .i64) (.int .i64)) b true])) | _,_=>none
theorem oA (fuel:Nat):FnOK Tryz.prog 164 (gN (al fuel)):=by
  intro args objs kk r h
  unfold gN at h
  split at h
  · skip
    exact fo0 (Jb fuel) Tryz.func164 rfl (by kernel_rfl) _ _ kk r ((HB fuel _ kk).trans h)
  · cases h
def AO (i:Nat):Option (List Nat):=Ev.look i []
def uH (a:aH) (f:Nat):Option Ev.Spec:=Ev.look f [(164,gN a)]
def E5 (fuel:Nat):Nat→Option Ev.Spec:=uH (al fuel)
def la (fuel:Nat) (a:aH) (b:Int) (k0:(Int)→OA):OA:=(a b (fun c=>k0 (Ev.ishl IntKind.i64 32 (↑c.length:Int))))
abbrev aC:Type:=Int→(Int→Option Ans)→Option Ans
def au (fuel:Nat):aC:=la fuel (al fuel)
theorem CB (fuel:Nat) (a:aH) (b:Int) (k:Ev.Cont):evalFn tab (uH a) J0 AO fuel Tryz.f130 [.c (i6 b)] [] k=la fuel a b (fun r=>match r with | d=>k (.c (i6 d),[])):=by
  kernel_rfl
theorem CN (fuel:Nat):GOK Tryz.prog (E5 fuel):=
  gc (oA fuel) Tryz.func164 (by kernel_rfl) rfl <|
  gok_nil
def fy (F:aC):Ev.Spec:=fun args objs k=>match args,objs with | [.c (i6 a)],[]=>F a (fun r=>match r with | b=>k (.c (i6 b),[])) | _,_=>none
theorem lq (fuel:Nat):FnOK Tryz.prog 130 (fy (au fuel)):=by
  intro args objs kk r h
  unfold fy at h
  split at h
  · skip
    exact fo0 (CN fuel) Tryz.func130 rfl (by kernel_rfl) _ _ kk r ((CB fuel (al fuel) _ kk).trans h)
  · cases h
def I8 (i:Nat):Option (List Nat):=Ev.look i []
def u6 (a:aC) (f:Nat):Option Ev.Spec:=Ev.look f [(130,fy a)]
def Fl (fuel:Nat):Nat→Option Ev.Spec:=u6 (au fuel)
def xA (fuel:Nat) (b:aC) (a:Int) (k0:(Int×Int)→OA):OA:=bif a != 0 then bif a != 1 then k0 (0,2) else (b a (fun c=>k0 (i64.wrap (c+1),0))) else (b a (fun d=>k0 (i64.wrap (d+1),0)))
abbrev gC:Type:=Int→((Int×Int)→Option Ans)→Option Ans
def ie (fuel:Nat):gC:=xA fuel (au fuel)
theorem IR (fuel:Nat) (a:aC) (b:Int) (k:Ev.Cont):evalFn tab (u6 a) J0 I8 fuel Tryz.f75 [.c (i6 b)] [] k=xA fuel a b (fun r=>match r with | (d,e)=>k (.tup [(false,[i6 d]),(false,[i6 e])],[])):=by
  kernel_rfl
theorem EV (fuel:Nat):GOK Tryz.prog (Fl fuel):=
  gc (lq fuel) Tryz.func130 (by kernel_rfl) rfl <|
  gok_nil
def nT (F:gC):Ev.Spec:=fun args objs k=>match args,objs with | [.c (i6 a)],[]=>F a (fun r=>match r with | (b,d)=>k (.tup [(false,[i6 b]),(false,[i6 d])],[])) | _,_=>none
theorem zG (fuel:Nat):FnOK Tryz.prog 75 (nT (ie fuel)):=by
  intro args objs kk r h
  unfold nT at h
  split at h
  · skip
    exact fo0 (EV fuel) Tryz.func75 rfl (by kernel_rfl) _ _ kk r ((IR fuel (au fuel) _ kk).trans h)
  · cases h
def zO (i:Nat):Option (List Nat):=Ev.look i [(200001,[2]),(900001,[2,4,5])]
def wT (a:ib) (b:hU) (c:gC) (f:Nat):Option Ev.Spec:=Ev.look f [(73,ns a),(74,tq b),(75,nT c)]
def CW (fuel:Nat):Nat→Option Ev.Spec:=wT (fW fuel) (dW fuel) (ie fuel)
def nZ (fuel:Nat) (j:ib) (k:hU) (l:gC) (b c d:Int) (e:Bool) (f g m:Int) (k0:(Int×Int×Int×Bool×Int×Int×Int×Int×Int×Int)→OA):OA:=both ((j m (fun a=>(fun (z0:OA)=>both z0 z0) ((k b c d e f (fun (h,p)=>(l g (fun (n,q)=>bif decide (a < 0) then none else k0 (b,c,d,e,f,g,a,i64.wrap (i64.wrap (241+Ev.ishl IntKind.i64 1 a) - 1),i64.wrap (i64.wrap (i64.wrap (241+Ev.ishl IntKind.i64 1 a) - 1)+h),i64.wrap (i64.wrap (i64.wrap (i64.wrap (241+Ev.ishl IntKind.i64 1 a) - 1)+h)+n)))))))))) ((j m (fun a=>(k b c d e f (fun (i,s)=>(l g (fun (o,r)=>bif decide (a < 0) then none else k0 (b,c,d,e,f,g,a,i64.wrap (i64.wrap (241+Ev.ishl IntKind.i64 1 a) - 1),i64.wrap (i64.wrap (i64.wrap (241+Ev.ishl IntKind.i64 1 a) - 1)+i),i64.wrap (i64.wrap (i64.wrap (i64.wrap (241+Ev.ishl IntKind.i64 1 a) - 1)+i)+o)))))))))
abbrev bk:Type:=Int→Int→Int→Bool→Int→Int→Int→((Int×Int×Int×Bool×Int×Int×Int×Int×Int×Int)→Option Ans)→Option Ans
def bb (fuel:Nat):bk:=nZ fuel (fW fuel) (dW fuel) (ie fuel)
theorem H6 (fuel:Nat) (a:ib) (b:hU) (d:gC) (e f g:Int) (h:Bool) (i j l:Int) (k:Ev.Cont):evalFn tab (wT a b d) J0 zO fuel Tryz.f27 [.agg [i6 e,i6 f,i6 g,.bool h,i6 i,i6 j],.c (i6 l)] [] k=nZ fuel a b d e f g h i j l (fun r=>match r with | (m,n,o,p,q,s,t,u,v,w)=>k (.agg [i6 m,i6 n,i6 o,.bool p,i6 q,i6 s,i6 t,i6 u,i6 v,i6 w],[])):=by
  kernel_rfl
theorem H5 (fuel:Nat):GOK Tryz.prog (CW fuel):=
  gc (yo fuel) Tryz.func73 (by kernel_rfl) rfl <|
  gc (Fd fuel) Tryz.func74 (by kernel_rfl) rfl <|
  gc (zG fuel) Tryz.func75 (by kernel_rfl) rfl <|
  gok_nil
def gE (F:bk):Ev.Spec:=fun args objs k=>match args,objs with | [.agg [i6 a,i6 b,i6 d,.bool e,i6 f,i6 g],.c (i6 h)],[]=>F a b d e f g h (fun r=>match r with | (i,j,l,m,n,o,p,q,s,t)=>k (.agg [i6 i,i6 j,i6 l,.bool m,i6 n,i6 o,i6 p,i6 q,i6 s,i6 t],[])) | _,_=>none
theorem qI (fuel:Nat):FnOK Tryz.prog 27 (gE (bb fuel)):=by
  intro args objs kk r h
  unfold gE at h
  split at h
  · skip
    exact fo0 (H5 fuel) Tryz.func27 rfl (by kernel_rfl) _ _ kk r ((H6 fuel (fW fuel) (dW fuel) (ie fuel) _ _ _ _ _ _ _ kk).trans h)
  · cases h
def IP (i:Nat):Option (List Nat):=Ev.look i []
def wg (b:bk) (a:ip) (f:Nat):Option Ev.Spec:=Ev.look f [(27,gE b),(126,oB a)]
def Jq (fuel:Nat):Nat→Option Ev.Spec:=wg (bb fuel) (fa fuel)
def qX (fuel:Nat) (j:bk) (g:ip) (a b c:Int) (d:Bool) (e f:Int) (k0:(Int×Int)→OA):OA:=(g a b c d e f (fun k=>bif !k then k0 (0,2) else (j a b c d e f (0) (fun (l,m,n,o,p,q,r,h,s,i)=>k0 (i64.wrap (i - h),0)))))
abbrev iF:Type:=Int→Int→Int→Bool→Int→Int→((Int×Int)→Option Ans)→Option Ans
def gf (fuel:Nat):iF:=qX fuel (bb fuel) (fa fuel)
theorem IQ (fuel:Nat) (b:bk) (a:ip) (c d e:Int) (f:Bool) (g h:Int) (k:Ev.Cont):evalFn tab (wg b a) J0 IP fuel Tryz.f70 [.agg [i6 c,i6 d,i6 e,.bool f,i6 g,i6 h]] [] k=qX fuel b a c d e f g h (fun r=>match r with | (i,j)=>k (.tup [(false,[i6 i]),(false,[i6 j])],[])):=by
  kernel_rfl
theorem Er (fuel:Nat):GOK Tryz.prog (Jq fuel):=
  gc (qI fuel) Tryz.func27 (by kernel_rfl) rfl <|
  gc (GG fuel) Tryz.func126 (by kernel_rfl) rfl <|
  gok_nil
def ow (F:iF):Ev.Spec:=fun args objs k=>match args,objs with | [.agg [i6 a,i6 b,i6 c,.bool d,i6 e,i6 f]],[]=>F a b c d e f (fun r=>match r with | (g,h)=>k (.tup [(false,[i6 g]),(false,[i6 h])],[])) | _,_=>none
theorem Bl (fuel:Nat):FnOK Tryz.prog 70 (ow (gf fuel)):=by
  intro args objs kk r h
  unfold ow at h
  split at h
  · skip
    exact fo0 (Er fuel) Tryz.func70 rfl (by kernel_rfl) _ _ kk r ((IQ fuel (bb fuel) (fa fuel) _ _ _ _ _ _ kk).trans h)
  · cases h
def Ju (i:Nat):Option (List Nat):=Ev.look i []
def vv (a:hO) (b:iF) (c:bt) (f:Nat):Option Ev.Spec:=Ev.look f [(41,mv a),(70,ow b),(71,io c)]
def Ei (fuel:Nat):Nat→Option Ev.Spec:=vv (eq fuel) (gf fuel) (aM fuel)
def pl (fuel:Nat) (c:hO) (i:iF) (j:bt) (l m n:Int) (o:Bool) (e p f:Int) (a:LI) (g:(List (Int×Int×LI))) (k0:(Int)→OA):OA:=(i l m n o e p (fun (h,d)=>bif d != 0 then k0 d else bif decide ((↑a.length:Int) > 0) then (j f a (fun b=>bif !b then k0 (10) else bif f != e then k0 (10) else bif (↑a.length:Int) != h then k0 (10) else (c g (fun k=>bif k then k0 (30) else k0 (0))))) else (c g (fun b=>bif b then k0 (30) else k0 (0)))))
abbrev cq:Type:=Int→Int→Int→Bool→Int→Int→Int→LI→((List (Int×Int×LI)))→(Int→Option Ans)→Option Ans
def bE (fuel:Nat):cq:=pl fuel (eq fuel) (gf fuel) (aM fuel)
theorem Ki (fuel:Nat) (a:hO) (b:iF) (d:bt) (e f g:Int) (h:Bool) (i j l:Int) (m:LI) (n:(List (Int×Int×LI))) (k:Ev.Cont):evalFn tab (vv a b d) J0 Ju fuel Tryz.f25 [.agg [i6 e,i6 f,i6 g,.bool h,i6 i,i6 j],.agg [i6 l,.sl (.int .i64) m],.c (.sl (.pair (.int .i64) (.pair (.int .i64) (.sl (.int .u8)))) n)] [] k=pl fuel a b d e f g h i j l m n (fun r=>match r with | o=>k (.c (i6 o),[])):=by
  kernel_rfl
theorem Cr (fuel:Nat):GOK Tryz.prog (Ei fuel):=
  gc (Iz fuel) Tryz.func41 (by kernel_rfl) rfl <|
  gc (Bl fuel) Tryz.func70 (by kernel_rfl) rfl <|
  gc (kf fuel) Tryz.func71 (by kernel_rfl) rfl <|
  gok_nil
def kN (F:cq):Ev.Spec:=fun args objs k=>match args,objs with | [.agg [i6 a,i6 b,i6 d,.bool e,i6 f,i6 g],.agg [i6 h,.sl (.int .i64) i],.c (.sl (.pair (.int .i64) (.pair (.int .i64) (.sl (.int .u8)))) j)],[]=>F a b d e f g h i j (fun r=>match r with | l=>k (.c (i6 l),[])) | _,_=>none
theorem wo (fuel:Nat):FnOK Tryz.prog 25 (kN (bE fuel)):=by
  intro args objs kk r h
  unfold kN at h
  split at h
  · skip
    exact fo0 (Cr fuel) Tryz.func25 rfl (by kernel_rfl) _ _ kk r ((Ki fuel (eq fuel) (gf fuel) (aM fuel) _ _ _ _ _ _ _ _ _ kk).trans h)
  · cases h
def zF (i:Nat):Option (List Nat):=Ev.look i []
def JT (f:Nat):Option Ev.Spec:=Ev.look f []
def vd (fuel:Nat):Nat→Option Ev.Spec:=JT
def ef (fuel:Nat) (a:(List Int)) (k0:((List Int))→Option Ans):Option Ans:=bif decide ((↑a.length:Int)=0) then both (k0 []) (bif decide (((0:Nat)+a.length)*(8:Nat)≤(140737488355328:Nat)∧(0:Nat)+a.length≤(140737488355328:Nat)) then k0 ([]++a) else none) else bif decide (((0:Nat)+a.length)*(8:Nat)≤(140737488355328:Nat)∧(0:Nat)+a.length≤(140737488355328:Nat)) then k0 ([]++a) else none
abbrev jr:Type:=LI→(LI→Option Ans)→Option Ans
theorem Fv (fuel:Nat) (a:LI) (k:Ev.Cont):evalFn tab (vd fuel) J0 zF fuel Tryz.f82 [.c (.sl (.int .i64) a)] [] k=ef fuel a (fun r=>match r with | b=>k (.c (.own 0),[.vec 3 (.int .i64) b true])):=by
  kernel_rfl
theorem Io (fuel:Nat):GOK Tryz.prog (vd fuel):=
  gok_nil
def sX (F:jr):Ev.Spec:=fun args objs k=>match args,objs with | [.c (.sl (.int .i64) a)],[]=>F a (fun r=>match r with | b=>k (.c (.own 0),[.vec 3 (.int .i64) b true])) | _,_=>none
theorem HO (fuel:Nat):FnOK Tryz.prog 82 (sX (ef fuel)):=by
  intro args objs kk r h
  unfold sX at h
  split at h
  · skip
    exact fo0 (Io fuel) Tryz.func82 rfl (by kernel_rfl) _ _ kk r ((Fv fuel _ kk).trans h)
  · cases h
def Ey (i:Nat):Option (List Nat):=Ev.look i [(200001,[2,3])]
def uQ (a:jr) (f:Nat):Option Ev.Spec:=Ev.look f [(82,sX a)]
def Gk (fuel:Nat):Nat→Option Ev.Spec:=uQ (ef fuel)
def oo (fuel:Nat) (c:jr) (f g h:Int) (i:Bool) (j k:Int) (l b:Int) (m n d:Int) (a:LI) (k0:(Int×LI)→OA):OA:=bif decide (0≤Ev.loOf (some b)∧Ev.loOf (some b)≤Ev.hiOf Option.none (↑a.length:Int)∧Ev.hiOf Option.none (↑a.length:Int)≤(↑a.length:Int)) then (c (List.take (Ev.hiOf Option.none (↑a.length:Int) - Ev.loOf (some b)).toNat (List.drop (Ev.loOf (some b)).toNat a)) (fun e=>k0 (d,e))) else none
abbrev cx:Type:=Int→Int→Int→Bool→Int→Int→Int→Int→Int→Int→Int→LI→((Int×LI)→Option Ans)→Option Ans
def bD (fuel:Nat):cx:=oo fuel (ef fuel)
theorem Ir (fuel:Nat) (a:jr) (d e f:Int) (g:Bool) (h i:Int) (j l:Int) (m n b:Int) (c:LI) (k:Ev.Cont):evalFn tab (uQ a) J0 Ey fuel Tryz.f34 [.agg [i6 d,i6 e,i6 f,.bool g,i6 h,i6 i,i6 j,i6 l,i6 m,i6 n],.agg [i6 b,.sl (.int .i64) c]] [] k=oo fuel a d e f g h i j l m n b c (fun r=>match r with | (o,p)=>k (.agg [i6 o,.own 0],[.vec 3 (.int .i64) p true])):=by
  kernel_rfl
theorem Hb (fuel:Nat):GOK Tryz.prog (Gk fuel):=
  gc (HO fuel) Tryz.func82 (by kernel_rfl) rfl <|
  gok_nil
def lu (F:cx):Ev.Spec:=fun args objs k=>match args,objs with | [.agg [i6 c,i6 d,i6 e,.bool f,i6 g,i6 h,i6 i,i6 j,i6 l,i6 m],.agg [i6 a,.sl (.int .i64) b]],[]=>F c d e f g h i j l m a b (fun r=>match r with | (n,o)=>k (.agg [i6 n,.own 0],[.vec 3 (.int .i64) o true])) | _,_=>none
theorem wA (fuel:Nat):FnOK Tryz.prog 34 (lu (bD fuel)):=by
  intro args objs kk r h
  unfold lu at h
  split at h
  · skip
    exact fo0 (Hb fuel) Tryz.func34 rfl (by kernel_rfl) _ _ kk r ((Ir fuel (ef fuel) _ _ _ _ _ _ _ _ _ _ _ _ kk).trans h)
  · cases h
def HE (i:Nat):Option (List Nat):=Ev.look i [(200002,[2,3,5])]
def wN (a:jC) (f:Nat):Option Ev.Spec:=Ev.look f [(77,rI a)]
def Dx (fuel:Nat):Nat→Option Ev.Spec:=wN (ey fuel)
def mR (fuel:Nat) (e:jC) (j k l:Int) (m:Bool) (f n:Int) (o b:Int) (p g i:Int) (c:LI) (k0:(Int×LI)→OA):OA:=(e f g (fun (d,h,a)=>bif decide (0≤Ev.loOf (some b)∧Ev.loOf (some b)≤Ev.hiOf Option.none (↑a.length:Int)∧Ev.hiOf Option.none (↑a.length:Int)≤(↑a.length:Int)) then k0 (d,List.take (Ev.loOf (some b)).toNat a++List.take (Ev.hiOf Option.none (↑a.length:Int) - Ev.loOf (some b)).toNat c++List.drop ((Ev.loOf (some b)).toNat+Min.min (Ev.hiOf Option.none (↑a.length:Int) - Ev.loOf (some b)).toNat c.length) a) else none))
abbrev cp:Type:=Int→Int→Int→Bool→Int→Int→Int→Int→Int→Int→Int→LI→((Int×LI)→Option Ans)→Option Ans
def bH (fuel:Nat):cp:=mR fuel (ey fuel)
theorem zT (fuel:Nat) (a:jC) (d e f:Int) (g:Bool) (h i:Int) (j l:Int) (m n b:Int) (c:LI) (k:Ev.Cont):evalFn tab (wN a) J0 HE fuel Tryz.f29 [.agg [i6 d,i6 e,i6 f,.bool g,i6 h,i6 i,i6 j,i6 l,i6 m,i6 n],.agg [i6 b,.sl (.int .i64) c]] [] k=mR fuel a d e f g h i j l m n b c (fun r=>match r with | (o,p)=>k (.agg [i6 o,.own 0],[.vec 3 (.int .i64) p true])):=by
  kernel_rfl
theorem Ee (fuel:Nat):GOK Tryz.prog (Dx fuel):=
  gc (xH fuel) Tryz.func77 (by kernel_rfl) rfl <|
  gok_nil
def lC (F:cp):Ev.Spec:=fun args objs k=>match args,objs with | [.agg [i6 c,i6 d,i6 e,.bool f,i6 g,i6 h,i6 i,i6 j,i6 l,i6 m],.agg [i6 a,.sl (.int .i64) b]],[]=>F c d e f g h i j l m a b (fun r=>match r with | (n,o)=>k (.agg [i6 n,.own 0],[.vec 3 (.int .i64) o true])) | _,_=>none
theorem vK (fuel:Nat):FnOK Tryz.prog 29 (lC (bH fuel)):=by
  intro args objs kk r h
  unfold lC at h
  split at h
  · skip
    exact fo0 (Ee fuel) Tryz.func29 rfl (by kernel_rfl) _ _ kk r ((zT fuel (ey fuel) _ _ _ _ _ _ _ _ _ _ _ _ kk).trans h)
  · cases h
def EG (i:Nat):Option (List Nat):=Ev.look i []
def GQ (f:Nat):Option Ev.Spec:=Ev.look f []
def vh (fuel:Nat):Nat→Option Ev.Spec:=GQ
def aB (fuel:Nat) (p q:Int) (r s:Int) (t:Bool) (u v:Int) (w x:Int) (y b:Int) (c a:Int) (d e:Int) (f g:Int) (h i:Int) (j k:Bool) (l:(List (Int×(Int×(List Int))))) (m:(List ((Int×(Int×(List Int)))×Int))) (n o:(List Int)) (k0:(Bool×Int×Int×Int×Bool×Int×Int×Int×Int×Int×Int×Int×Int×Int×Int×Int×Int×Int×Int×Bool×Bool×(List (Int×(Int×(List Int))))×(List ((Int×(Int×(List Int)))×Int))×(List Int)×(List Int))→Option Ans):Option Ans:=bif a==0 then k0 (p==0,q,r,s,t,u,v,w,x,y,b,c,p,d,e,f,g,h,i,j,k,l,m,n,o) else k0 (a==0,q,r,s,t,u,v,w,x,y,b,c,a,d,e,f,g,h,i,j,k,l,m,n,o)
abbrev cN:Type:=Int→Int→Int→Int→Bool→Int→Int→Int→Int→Int→Int→Int→Int→Int→Int→Int→Int→Int→Int→Bool→Bool→((List (Int×(Int×LI))))→((List ((Int×(Int×LI))×Int)))→LI→LI→((Bool×Int×Int×Int×Bool×Int×Int×Int×Int×Int×Int×Int×Int×Int×Int×Int×Int×Int×Int×Bool×Bool×(List (Int×(Int×LI)))×(List ((Int×(Int×LI))×Int))×LI×LI)→Option Ans)→Option Ans
theorem zs (fuel:Nat) (s t:Int) (u v:Int) (w:Bool) (x y:Int) (z A:Int) (B a:Int) (b d:Int) (e f:Int) (g h:Int) (i j:Int) (l m:Bool) (n:(List (Int×(Int×LI)))) (o:(List ((Int×(Int×LI))×Int))) (p q:LI) (k:Ev.Cont):evalFn tab (vh fuel) J0 EG fuel Tryz.f142 [.c (.ptr 0 0),.c (i6 s)] [.cells 86 [i6 t,i6 u,i6 v,.bool w,i6 x,i6 y,i6 z,i6 A,i6 B,i6 a,.ptr 1 0,.own 2,.own 3,i6 b,i6 d],.cells 147 (i6 e::.own 4::ctb (.int .u64 f::.int .u64 g::.own 5::i6 h::.int .u64 i::i6 j::.bool l::.bool m::[])),.vec 29 (.pair (.int .i64) (.pair (.int .i64) (.sl (.int .u8)))) n false,.vec 36 (.pair (.pair (.int .i64) (.pair (.int .i64) (.sl (.int .u8)))) (.int .i64)) o false,.vec 3 (.int .i64) p false,.vec 5 (.int .u8) q false] k=aB fuel s t u v w x y z A B a b d e f g h i j l m n o p q (fun r=>match r with | (R,S,T,U,V,W,X,Y,a0,a1,C,D,E,F,G,H,I,J,K,L,M,N,O,P,Q)=>k (.c (.bool R),[.cells 86 [i6 S,i6 T,i6 U,.bool V,i6 W,i6 X,i6 Y,i6 a0,i6 a1,i6 C,.ptr 1 0,.own 2,.own 3,i6 D,i6 E],.cells 147 (i6 F::.own 4::ctb (.int .u64 G::.int .u64 H::.own 5::i6 I::.int .u64 J::i6 K::.bool L::.bool M::[])),.vec 29 (.pair (.int .i64) (.pair (.int .i64) (.sl (.int .u8)))) N false,.vec 36 (.pair (.pair (.int .i64) (.pair (.int .i64) (.sl (.int .u8)))) (.int .i64)) O false,.vec 3 (.int .i64) P false,.vec 5 (.int .u8) Q false])):=by
  kernel_rfl
theorem zB (fuel:Nat):GOK Tryz.prog (vh fuel):=
  gok_nil
def gz (F:cN):Ev.Spec:=fun args objs k=>match args,objs with | [.c (.ptr N O),.c (i6 P)],[.cells Q [i6 R,i6 S,i6 T,.bool U,i6 V,i6 W,i6 X,i6 Y,i6 a0,i6 a,.ptr a1 a2,.own a3,.own a4,i6 b,i6 d],.cells a5 e,.vec a6 (.pair (.int .i64) (.pair (.int .i64) (.sl (.int .u8)))) f false,.vec a7 (.pair (.pair (.int .i64) (.pair (.int .i64) (.sl (.int .u8)))) (.int .i64)) g false,.vec h (.int .i64) i false,.vec j (.int .u8) l false]=>(match splitRun 2 ctn e with | some ([i6 m,.own n],[.int .u64 o,.int .u64 p,.own q,i6 s,.int .u64 t,i6 u,.bool v,.bool w])=>bif qb [N,O,Q,a1,a2,a3,a4,a5,a6,a7,h,j,n,q] [0,0,86,1,0,2,3,147,29,36,3,5,4,5] then F P R S T U V W X Y a0 a b d m o p s t u v w f g i l (fun r=>match r with | (a8,a9,b0,b1,b2,b3,b4,b5,b6,b7,x,y,z,A,B,C,D,E,G,H,I,J,K,L,M)=>k (.c (.bool a8),[.cells 86 [i6 a9,i6 b0,i6 b1,.bool b2,i6 b3,i6 b4,i6 b5,i6 b6,i6 b7,i6 x,.ptr 1 0,.own 2,.own 3,i6 y,i6 z],.cells 147 (i6 A::.own 4::ctb (.int .u64 B::.int .u64 C::.own 5::i6 D::.int .u64 E::i6 G::.bool H::.bool I::[])),.vec 29 (.pair (.int .i64) (.pair (.int .i64) (.sl (.int .u8)))) J false,.vec 36 (.pair (.pair (.int .i64) (.pair (.int .i64) (.sl (.int .u8)))) (.int .i64)) K false,.vec 3 (.int .i64) L false,.vec 5 (.int .u8) M false])) else none | _=>none) | _,_=>none
theorem rD (fuel:Nat):FnOK Tryz.prog 142 (gz (aB fuel)):=by
  intro args objs kk r h
  unfold gz at h
  split at h
  · skip
    split at h
    rotate_left 1
    · cases h
    rename_i hsp
    have esp:=splitRun_eq hsp
    subst esp
    obtain ⟨hb,h⟩:=cond_some' h
    cases qb_eq hb
    exact fo0 (zB fuel) Tryz.func142 rfl (by kernel_rfl) _ _ kk r ((zs fuel _ _ _ _ _ _ _ _ _ _ _ _ _ _ _ _ _ _ _ _ _ _ _ _ _ kk).trans h)
  · cases h
def JY (i:Nat):Option (List Nat):=Ev.look i []
def ww (a:cN) (f:Nat):Option Ev.Spec:=Ev.look f [(142,gz a)]
def Ej (fuel:Nat):Nat→Option Ev.Spec:=ww (aB fuel)
def tE (fuel:Nat) (y:cN) (Y:Bool) (p q r:Int) (s:Bool) (t u:Int) (v w:Int) (x b:Int) (c a:Int) (d e:Int) (f g:Int) (h i:Int) (j k:Bool) (l:(List (Int×(Int×LI)))) (m:(List ((Int×(Int×LI))×Int))) (n o:LI) (k0:(Bool×Int×Int×Int×Bool×Int×Int×Int×Int×Int×Int×Int×Int×Int×Int×Int×Int×Int×Int×Bool×Bool×(List (Int×(Int×LI)))×(List ((Int×(Int×LI))×Int))×LI×LI)→OA):OA:=bif !Y then (y (3) p q r s t u v w x b c a d e f g h i j k l m n o (fun (O,P,Q,R,S,T,U,V,W,X,z,A,B,C,D,E,F,G,H,I,J,K,L,M,N)=>k0 (O,P,Q,R,S,T,U,V,W,X,z,A,B,C,D,E,F,G,H,I,J,K,L,M,N))) else k0 (a==0,p,q,r,s,t,u,v,w,x,b,c,a,d,e,f,g,h,i,j,k,l,m,n,o)
abbrev bB:Type:=Bool→Int→Int→Int→Bool→Int→Int→Int→Int→Int→Int→Int→Int→Int→Int→Int→Int→Int→Int→Bool→Bool→((List (Int×(Int×LI))))→((List ((Int×(Int×LI))×Int)))→LI→LI→((Bool×Int×Int×Int×Bool×Int×Int×Int×Int×Int×Int×Int×Int×Int×Int×Int×Int×Int×Int×Bool×Bool×(List (Int×(Int×LI)))×(List ((Int×(Int×LI))×Int))×LI×LI)→Option Ans)→Option Ans
def aR (fuel:Nat):bB:=tE fuel (aB fuel)
theorem FK (fuel:Nat) (a:cN) (t:Bool) (u v w:Int) (x:Bool) (y z:Int) (A B:Int) (C b:Int) (d e:Int) (f g:Int) (h i:Int) (j l:Int) (m n:Bool) (o:(List (Int×(Int×LI)))) (p:(List ((Int×(Int×LI))×Int))) (q s:LI) (k:Ev.Cont):evalFn tab (ww a) J0 JY fuel Tryz.f86 [.c (.ptr 0 0),.c (.bool t)] [.cells 86 [i6 u,i6 v,i6 w,.bool x,i6 y,i6 z,i6 A,i6 B,i6 C,i6 b,.ptr 1 0,.own 2,.own 3,i6 d,i6 e],.cells 147 (i6 f::.own 4::ctb (.int .u64 g::.int .u64 h::.own 5::i6 i::.int .u64 j::i6 l::.bool m::.bool n::[])),.vec 29 (.pair (.int .i64) (.pair (.int .i64) (.sl (.int .u8)))) o false,.vec 36 (.pair (.pair (.int .i64) (.pair (.int .i64) (.sl (.int .u8)))) (.int .i64)) p false,.vec 3 (.int .i64) q false,.vec 5 (.int .u8) s false] k=tE fuel a t u v w x y z A B C b d e f g h i j l m n o p q s (fun r=>match r with | (S,T,U,V,W,X,Y,a0,a1,a2,D,E,F,G,H,I,J,K,L,M,N,O,P,Q,R)=>k (.c (.bool S),[.cells 86 [i6 T,i6 U,i6 V,.bool W,i6 X,i6 Y,i6 a0,i6 a1,i6 a2,i6 D,.ptr 1 0,.own 2,.own 3,i6 E,i6 F],.cells 147 (i6 G::.own 4::ctb (.int .u64 H::.int .u64 I::.own 5::i6 J::.int .u64 K::i6 L::.bool M::.bool N::[])),.vec 29 (.pair (.int .i64) (.pair (.int .i64) (.sl (.int .u8)))) O false,.vec 36 (.pair (.pair (.int .i64) (.pair (.int .i64) (.sl (.int .u8)))) (.int .i64)) P false,.vec 3 (.int .i64) Q false,.vec 5 (.int .u8) R false])):=by
  kernel_rfl
theorem GY (fuel:Nat):GOK Tryz.prog (Ej fuel):=
  gc (rD fuel) Tryz.func142 (by kernel_rfl) rfl <|
  gok_nil
def gH (F:bB):Ev.Spec:=fun args objs k=>match args,objs with | [.c (.ptr N O),.c (.bool P)],[.cells Q [i6 R,i6 S,i6 T,.bool U,i6 V,i6 W,i6 X,i6 Y,i6 a0,i6 a,.ptr a1 a2,.own a3,.own a4,i6 b,i6 d],.cells a5 e,.vec a6 (.pair (.int .i64) (.pair (.int .i64) (.sl (.int .u8)))) f false,.vec a7 (.pair (.pair (.int .i64) (.pair (.int .i64) (.sl (.int .u8)))) (.int .i64)) g false,.vec h (.int .i64) i false,.vec j (.int .u8) l false]=>(match splitRun 2 ctn e with | some ([i6 m,.own n],[.int .u64 o,.int .u64 p,.own q,i6 s,.int .u64 t,i6 u,.bool v,.bool w])=>bif qb [N,O,Q,a1,a2,a3,a4,a5,a6,a7,h,j,n,q] [0,0,86,1,0,2,3,147,29,36,3,5,4,5] then F P R S T U V W X Y a0 a b d m o p s t u v w f g i l (fun r=>match r with | (a8,a9,b0,b1,b2,b3,b4,b5,b6,b7,x,y,z,A,B,C,D,E,G,H,I,J,K,L,M)=>k (.c (.bool a8),[.cells 86 [i6 a9,i6 b0,i6 b1,.bool b2,i6 b3,i6 b4,i6 b5,i6 b6,i6 b7,i6 x,.ptr 1 0,.own 2,.own 3,i6 y,i6 z],.cells 147 (i6 A::.own 4::ctb (.int .u64 B::.int .u64 C::.own 5::i6 D::.int .u64 E::i6 G::.bool H::.bool I::[])),.vec 29 (.pair (.int .i64) (.pair (.int .i64) (.sl (.int .u8)))) J false,.vec 36 (.pair (.pair (.int .i64) (.pair (.int .i64) (.sl (.int .u8)))) (.int .i64)) K false,.vec 3 (.int .i64) L false,.vec 5 (.int .u8) M false])) else none | _=>none) | _,_=>none
theorem ra (fuel:Nat):FnOK Tryz.prog 86 (gH (aR fuel)):=by
  intro args objs kk r h
  unfold gH at h
  split at h
  · skip
    split at h
    rotate_left 1
    · cases h
    rename_i hsp
    have esp:=splitRun_eq hsp
    subst esp
    obtain ⟨hb,h⟩:=cond_some' h
    cases qb_eq hb
    exact fo0 (GY fuel) Tryz.func86 rfl (by kernel_rfl) _ _ kk r ((FK fuel (aB fuel) _ _ _ _ _ _ _ _ _ _ _ _ _ _ _ _ _ _ _ _ _ _ _ _ _ kk).trans h)
  · cases h
def JO (i:Nat):Option (List Nat):=Ev.look i []
def yf (a:iu) (b:cN) (f:Nat):Option Ev.Spec:=Ev.look f [(141,ou a),(142,gz b)]
def Gg (fuel:Nat):Nat→Option Ev.Spec:=yf (eW fuel) (aB fuel)
def iX (fuel:Nat) (y:iu) (z:cN) (b2 p:Int) (q r:Int) (s:Bool) (t u:Int) (v w:Int) (x b:Int) (c a:Int) (d e:Int) (f g:Int) (h i:Int) (j k:Bool) (l:(List (Int×(Int×LI)))) (m:(List ((Int×(Int×LI))×Int))) (n o:LI) (k0:(Bool×Int×Int×Int×Int×Bool×Int×Int×Int×Int×Int×Int×Int×Int×Int×Int×Int×Int×Int×Int×Bool×Bool×(List (Int×(Int×LI)))×(List ((Int×(Int×LI))×Int))×LI×LI)→OA):OA:=bif a != 0 then k0 (false,0,p,q,r,s,t,u,v,w,x,b,c,a,d,e,f,g,h,i,j,k,l,m,n,o) else (y b2 d e f g h i j k n o (fun (S,T,U,V,W,X,Y,a0,a1,a2,A,B,C)=>(z U p q r s t u v w x b c a V W X Y a0 a1 a2 A l m B C (fun (b3,a3,a4,a5,a6,a7,a8,a9,b0,b1,D,E,F,G,H,I,J,K,L,M,N,O,P,Q,R)=>k0 (S,T,a3,a4,a5,a6,a7,a8,a9,b0,b1,D,E,F,G,H,I,J,K,L,M,N,O,P,Q,R)))))
abbrev ce:Type:=Int→Int→Int→Int→Bool→Int→Int→Int→Int→Int→Int→Int→Int→Int→Int→Int→Int→Int→Int→Bool→Bool→((List (Int×(Int×LI))))→((List ((Int×(Int×LI))×Int)))→LI→LI→((Bool×Int×Int×Int×Int×Bool×Int×Int×Int×Int×Int×Int×Int×Int×Int×Int×Int×Int×Int×Int×Bool×Bool×(List (Int×(Int×LI)))×(List ((Int×(Int×LI))×Int))×LI×LI)→Option Ans)→Option Ans
def bm (fuel:Nat):ce:=iX fuel (eW fuel) (aB fuel)
theorem Jl (fuel:Nat) (a:iu) (b:cN) (u v:Int) (w x:Int) (y:Bool) (z A:Int) (B C:Int) (D d:Int) (e f:Int) (g h:Int) (i j:Int) (l m:Int) (n o:Bool) (p:(List (Int×(Int×LI)))) (q:(List ((Int×(Int×LI))×Int))) (s t:LI) (k:Ev.Cont):evalFn tab (yf a b) J0 JO fuel Tryz.f85 [.c (.ptr 0 0),.c (i6 u)] [.cells 86 [i6 v,i6 w,i6 x,.bool y,i6 z,i6 A,i6 B,i6 C,i6 D,i6 d,.ptr 1 0,.own 2,.own 3,i6 e,i6 f],.cells 147 (i6 g::.own 4::ctb (.int .u64 h::.int .u64 i::.own 5::i6 j::.int .u64 l::i6 m::.bool n::.bool o::[])),.vec 29 (.pair (.int .i64) (.pair (.int .i64) (.sl (.int .u8)))) p false,.vec 36 (.pair (.pair (.int .i64) (.pair (.int .i64) (.sl (.int .u8)))) (.int .i64)) q false,.vec 3 (.int .i64) s false,.vec 5 (.int .u8) t false] k=iX fuel a b u v w x y z A B C D d e f g h i j l m n o p q s t (fun r=>match r with | (U,V,W,X,Y,a0,a1,a2,a3,a4,E,F,G,H,I,J,K,L,M,N,O,P,Q,R,S,T)=>k (.agg [.bool U,i6 V],[.cells 86 [i6 W,i6 X,i6 Y,.bool a0,i6 a1,i6 a2,i6 a3,i6 a4,i6 E,i6 F,.ptr 1 0,.own 2,.own 3,i6 G,i6 H],.cells 147 (i6 I::.own 4::ctb (.int .u64 J::.int .u64 K::.own 5::i6 L::.int .u64 M::i6 N::.bool O::.bool P::[])),.vec 29 (.pair (.int .i64) (.pair (.int .i64) (.sl (.int .u8)))) Q false,.vec 36 (.pair (.pair (.int .i64) (.pair (.int .i64) (.sl (.int .u8)))) (.int .i64)) R false,.vec 3 (.int .i64) S false,.vec 5 (.int .u8) T false])):=by
  kernel_rfl
theorem zJ (fuel:Nat):GOK Tryz.prog (Gg fuel):=
  gc (uN fuel) Tryz.func141 (by kernel_rfl) rfl <|
  gc (rD fuel) Tryz.func142 (by kernel_rfl) rfl <|
  gok_nil
def kX (F:ce):Ev.Spec:=fun args objs k=>match args,objs with | [.c (.ptr O P),.c (i6 Q)],[.cells R [i6 S,i6 T,i6 U,.bool V,i6 W,i6 X,i6 Y,i6 a0,i6 a1,i6 a,.ptr a2 a3,.own a4,.own a5,i6 b,i6 d],.cells a6 e,.vec a7 (.pair (.int .i64) (.pair (.int .i64) (.sl (.int .u8)))) f false,.vec a8 (.pair (.pair (.int .i64) (.pair (.int .i64) (.sl (.int .u8)))) (.int .i64)) g false,.vec h (.int .i64) i false,.vec j (.int .u8) l false]=>(match splitRun 2 ctn e with | some ([i6 m,.own n],[.int .u64 o,.int .u64 p,.own q,i6 s,.int .u64 t,i6 u,.bool v,.bool w])=>bif qb [O,P,R,a2,a3,a4,a5,a6,a7,a8,h,j,n,q] [0,0,86,1,0,2,3,147,29,36,3,5,4,5] then F Q S T U V W X Y a0 a1 a b d m o p s t u v w f g i l (fun r=>match r with | (a9,b0,b1,b2,b3,b4,b5,b6,b7,b8,x,y,z,A,B,C,D,E,G,H,I,J,K,L,M,N)=>k (.agg [.bool a9,i6 b0],[.cells 86 [i6 b1,i6 b2,i6 b3,.bool b4,i6 b5,i6 b6,i6 b7,i6 b8,i6 x,i6 y,.ptr 1 0,.own 2,.own 3,i6 z,i6 A],.cells 147 (i6 B::.own 4::ctb (.int .u64 C::.int .u64 D::.own 5::i6 E::.int .u64 G::i6 H::.bool I::.bool J::[])),.vec 29 (.pair (.int .i64) (.pair (.int .i64) (.sl (.int .u8)))) K false,.vec 36 (.pair (.pair (.int .i64) (.pair (.int .i64) (.sl (.int .u8)))) (.int .i64)) L false,.vec 3 (.int .i64) M false,.vec 5 (.int .u8) N false])) else none | _=>none) | _,_=>none
theorem xs (fuel:Nat):FnOK Tryz.prog 85 (kX (bm fuel)):=by
  intro args objs kk r h
  unfold kX at h
  split at h
  · skip
    split at h
    rotate_left 1
    · cases h
    rename_i hsp
    have esp:=splitRun_eq hsp
    subst esp
    obtain ⟨hb,h⟩:=cond_some' h
    cases qb_eq hb
    exact fo0 (zJ fuel) Tryz.func85 rfl (by kernel_rfl) _ _ kk r ((Jl fuel (eW fuel) (aB fuel) _ _ _ _ _ _ _ _ _ _ _ _ _ _ _ _ _ _ _ _ _ _ _ _ _ kk).trans h)
  · cases h
def DJ (i:Nat):Option (List Nat):=Ev.look i []
def uY (a:cK) (f:Nat):Option Ev.Spec:=Ev.look f [(147,jD a)]
def HD (fuel:Nat):Nat→Option Ev.Spec:=uY (bA fuel)
def iD (fuel:Nat) (c:cK) (a b:Int) (k0:(Int×Int×Int×LI)→OA):OA:=(c a b (fun d=>bif !d then k0 (0,0,4,[]) else bif decide (0≤i64.wrap (a*b)∧i64.wrap (a*b)=i64.wrap (a*b)∧(↑(1:Nat):Int)*i64.wrap (a*b)≤281474976710656∧i64.wrap (a*b)≤281474976710656) then k0 (a,b,0,List.replicate (i64.wrap (a*b)).toNat (0:Int)) else none))
abbrev ez:Type:=Int→Int→((Int×Int×Int×LI)→Option Ans)→Option Ans
def cL (fuel:Nat):ez:=iD fuel (bA fuel)
theorem Gf (fuel:Nat) (a:cK) (b d:Int) (k:Ev.Cont):evalFn tab (uY a) J0 DJ fuel Tryz.f200 [.c (i6 b),.c (i6 d)] [] k=iD fuel a b d (fun r=>match r with | (e,f,g,h)=>k (.tup [(true,[i6 e,i6 f,.own 0]),(false,[i6 g])],[.vec 5 (.int .u8) h true])):=by
  kernel_rfl
theorem Fe (fuel:Nat):GOK Tryz.prog (HD fuel):=
  gc (xe fuel) Tryz.func147 (by kernel_rfl) rfl <|
  gok_nil
def md (F:ez):Ev.Spec:=fun args objs k=>match args,objs with | [.c (i6 a),.c (i6 b)],[]=>F a b (fun r=>match r with | (d,e,f,g)=>k (.tup [(true,[i6 d,i6 e,.own 0]),(false,[i6 f])],[.vec 5 (.int .u8) g true])) | _,_=>none
theorem zL (fuel:Nat):FnOK Tryz.prog 200 (md (cL fuel)):=by
  intro args objs kk r h
  unfold md at h
  split at h
  · skip
    exact fo0 (Fe fuel) Tryz.func200 rfl (by kernel_rfl) _ _ kk r ((Gf fuel (bA fuel) _ _ kk).trans h)
  · cases h
end
end Go.Proofs.YtohnjbmiaegofaaGreat

