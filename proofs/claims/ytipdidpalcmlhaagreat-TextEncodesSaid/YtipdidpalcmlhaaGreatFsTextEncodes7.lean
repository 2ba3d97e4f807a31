/- What the functions that TextEncodes reaches do: their typed texts, each with the proof that the machine does it. No condition. -/
import Derived.Test.YtipdidpalcmlhaaGreatEvX
import Derived.Test.YtipdidpalcmlhaaGreatFsTextEncodes6
import Derived.Test.YtipdidpalcmlhaaGreatFsTextEncodes1
import Derived.Test.YtipdidpalcmlhaaGreatFsTextEncodes2
import Derived.Test.YtipdidpalcmlhaaGreatFsTextEncodes3
import Derived.Test.YtipdidpalcmlhaaGreatFsTextEncodes5
set_option linter.unusedVariables false
set_option linter.unusedSimpArgs false
set_option linter.unusedSectionVars false
set_option linter.unusedVariables false
set_option linter.unusedSimpArgs false
set_option maxRecDepth 100000
set_option maxHeartbeats 2000000
namespace Go.Proofs.YtipdidpalcmlhaaGreat
open Go Ev
open Go.IntKind (i64 u64 u8 i32 u32 u16)
noncomputable section
def kp167_d0e (i:Nat):Option (List Nat):=Ev.look i [(11,[0,1,7,8,11,52,53,1000002]),(20,[0,1,7,8,11,12,13,52,53,75,76,1000002]),(100001,[]),(100003,[0,1,7,8,11,52,53]),(200007,[7]),(400001,[10]),(400003,[10]),(600000,[])]
def Gg167_d0e (a:YF121_cf0) (g:YF122) (b:YF126_a20) (h:YF228) (i:YF229) (j:YF230) (k:YF231) (c:YF232_1c7) (d:YF233_0d1) (e:YF234_0d1) (l:YF235) (f:Nat):Option Ev.Spec:=Ev.look f [(121,spg121_cf0 a),(122,spg122 g),(126,spg126_a20 b),(228,spg228 h),(229,spg229 i),(230,spg230 j),(1000231,spg231 k),(232,spg232_1c7 c),(233,spg233_0d1 d),(234,spg234_0d1 e),(235,spg235 l)]
def G167_d0e (fuel:Nat):Nat→Option Ev.Spec:=Gg167_d0e (F_coder_Encoder_Put_cf0 fuel) (F_bitmap_Valid fuel) (F_coder_Encoder_Model_a20 fuel) (F_refine_contexts fuel) (F_refine_Valid fuel) (F_refine_fits fuel) (F_refine_newRegion fuel) (F_refine_region_typical_1c7 fuel) (F_refine_region_flat_0d1 fuel) (F_refine_region_context_0d1 fuel) (F_refine_grid_at fuel)
abbrev V_refine_Put_d0e_3:Type:=Int×Int×Bool×Int×Int×Int×Int×Int×Int×Int×Bool×LI×LI×Int×Int×Int×Bool×Int×Int×Int×LI×Int×Int×Int×Bool×Int×Int×Int×LI×Int×Int×LI
abbrev W_refine_Put_d0e_3:Type:=(Int×Int×Int×Int×Int×Int×Bool×LI×LI×Int×Int×Int×Bool×Int×Int×Int×LI×Int×Int×Int×Bool×Int×Int×Int×LI×Int×Int×LI→OA)
def Sg_refine_Put_d0e_3 (fuel:Nat) (b7:YF121_cf0) (e1:YF122) (d9:YF126_a20) (e2:YF228) (e3:YF229) (e4:YF230) (e5:YF231) (e0:YF232_1c7) (d7:YF233_0d1) (b8:YF234_0d1) (b9:YF235) (e d:Int) (n:Bool) (o p:Int) (q a:Int) (Q R S:Int) (N:Bool) (O P:LI) (f g h:Int) (i:Bool) (j k l:Int) (m:LI) (c6 c7 c8:Int) (c9:Bool) (d0 d1 d2:Int) (d3:LI) (d4 d5:Int) (d6:LI) (c:V_refine_Put_d0e_3→OA) (B:W_refine_Put_d0e_3):OA:=match B with | b=>bif decide (a < q) then (d7 a d c6 c7 c8 c9 d0 d1 d2 d3 d4 d5 d6 (fun (e6,d8,b2,b3,b4,b5,b6,E,F,G,X,Y,Z)=>bif !n then both ((b8 a d b2 b3 b4 b5 b6 E F G X Y Z (fun (c0,a0,a1,a2,a3,a4,H,I,J,a5,T,U)=>(b9 H I J a d (fun c4=>(b7 (i64.wrap (e+c0)) (i64.wrap c4) Q R S N O P (fun (c1,r,s,t,u,v,w)=>c (e,d,n,o,p,q,i64.wrap (a+1),r,s,t,u,v,w,f,g,h,i,j,k,l,m,a0,a1,a2,a3,a4,H,I,J,a5,T,U)) (fun (c1,r,s,t,u,v,w)=>c (e,d,n,o,p,q,i64.wrap (a+1),r,s,t,u,v,w,f,g,h,i,j,k,l,m,a0,a1,a2,a3,a4,H,I,J,a5,T,U)))))))) ((b8 a d b2 b3 b4 b5 b6 E F G X Y Z (fun (c0,a0,a1,a2,a3,a4,H,I,J,a5,T,U)=>(b9 E F G a d (fun c4=>(b7 (i64.wrap (e+c0)) (i64.wrap c4) Q R S N O P (fun (c1,r,s,t,u,v,w)=>c (e,d,n,o,p,q,i64.wrap (a+1),r,s,t,u,v,w,f,g,h,i,j,k,l,m,a0,a1,a2,a3,a4,H,I,J,a5,T,U)) (fun (c1,r,s,t,u,v,w)=>c (e,d,n,o,p,q,i64.wrap (a+1),r,s,t,u,v,w,f,g,h,i,j,k,l,m,a0,a1,a2,a3,a4,H,I,J,a5,T,U)))))))) else bif !d8 then both ((b8 a d b2 b3 b4 b5 b6 E F G X Y Z (fun (c2,a6,a7,a8,a9,b0,K,L,M,b1,V,W)=>(b9 K L M a d (fun c5=>(b7 (i64.wrap (e+c2)) (i64.wrap c5) Q R S N O P (fun (c3,x,y,z,A,C,D)=>c (e,d,n,o,p,q,i64.wrap (a+1),x,y,z,A,C,D,f,g,h,i,j,k,l,m,a6,a7,a8,a9,b0,K,L,M,b1,V,W)) (fun (c3,x,y,z,A,C,D)=>c (e,d,n,o,p,q,i64.wrap (a+1),x,y,z,A,C,D,f,g,h,i,j,k,l,m,a6,a7,a8,a9,b0,K,L,M,b1,V,W)))))))) ((b8 a d b2 b3 b4 b5 b6 E F G X Y Z (fun (c2,a6,a7,a8,a9,b0,K,L,M,b1,V,W)=>(b9 E F G a d (fun c5=>(b7 (i64.wrap (e+c2)) (i64.wrap c5) Q R S N O P (fun (c3,x,y,z,A,C,D)=>c (e,d,n,o,p,q,i64.wrap (a+1),x,y,z,A,C,D,f,g,h,i,j,k,l,m,a6,a7,a8,a9,b0,K,L,M,b1,V,W)) (fun (c3,x,y,z,A,C,D)=>c (e,d,n,o,p,q,i64.wrap (a+1),x,y,z,A,C,D,f,g,h,i,j,k,l,m,a6,a7,a8,a9,b0,K,L,M,b1,V,W)))))))) else c (e,d,n,o,p,q,i64.wrap (a+1),Q,R,S,N,O,P,f,g,h,i,j,k,l,m,b2,b3,b4,b5,b6,E,F,G,X,Y,Z))) else b (e,o,p,Q,R,S,N,O,P,f,g,h,i,j,k,l,m,c6,c7,c8,c9,d0,d1,d2,d3,d4,d5,d6)
def S_refine_Put_d0e_3 (fuel:Nat) (v:Int×Int×Bool×Int×Int×Int×Int×Int×Int×Int×Bool×(List Int)×(List Int)×Int×Int×Int×Bool×Int×Int×Int×(List Int)×Int×Int×Int×Bool×Int×Int×Int×(List Int)×Int×Int×(List Int)) (c:(Int×Int×Bool×Int×Int×Int×Int×Int×Int×Int×Bool×(List Int)×(List Int)×Int×Int×Int×Bool×Int×Int×Int×(List Int)×Int×Int×Int×Bool×Int×Int×Int×(List Int)×Int×Int×(List Int))→Option Ans) (B:(Int×Int×Int×Int×Int×Int×Bool×(List Int)×(List Int)×Int×Int×Int×Bool×Int×Int×Int×(List Int)×Int×Int×Int×Bool×Int×Int×Int×(List Int)×Int×Int×(List Int)→Option Ans)):Option Ans:=match v with | (y,z,A,C,D,E,F,G,H,I,a,b,d,e,f,g,h,i,j,k,l,m,n,o,p,q,r,s,t,u,w,x)=>Sg_refine_Put_d0e_3 fuel (F_coder_Encoder_Put_cf0 fuel) (F_bitmap_Valid fuel) (F_coder_Encoder_Model_a20 fuel) (F_refine_contexts fuel) (F_refine_Valid fuel) (F_refine_fits fuel) (F_refine_newRegion fuel) (F_refine_region_typical_1c7 fuel) (F_refine_region_flat_0d1 fuel) (F_refine_region_context_0d1 fuel) (F_refine_grid_at fuel) y z A C D E F G H I a b d e f g h i j k l m n o p q r s t u w x c B
def L_refine_Put_d0e_3 (fuel:Nat) (v:V_refine_Put_d0e_3) (b:W_refine_Put_d0e_3):Option Ans:=iter (S_refine_Put_d0e_3 fuel) fuel v b
def T167_d0e_3 (v:V_refine_Put_d0e_3):Ev.St:=match v with | (y,z,A,B,C,D,E,F,G,H,a,b,d,e,f,g,h,i,j,k,l,m,n,o,p,q,r,s,t,u,w,x)=>⟨[(0,.c (.ptr 0 0)),(1,.c (i6 y)),(7,.c (.ptr 3 0)),(8,.c (.ptr 4 0)),(11,.c (.ptr 5 0)),(12,.c (i6 z)),(13,.c (.bool A)),(52,.c (i6 B)),(53,.c (i6 C)),(75,.c (i6 D)),(76,.c (i6 E))],[(0,.cells 173 (i6 F::.own 1::ctb (.int .u64 G::.int .u64 H::.own 2::.bool a::[]))),(1,.vec 3 (.int .i64) b false),(2,.vec 5 (.int .u8) d true),(3,.cells 135 [i6 e,i6 f,i6 g,.bool h,i6 i]),(4,.cells 51 [i6 j,i6 k,.sl (.int .u8) l]),(5,.cells 266 [i6 m,i6 n,i6 o,.bool p,i6 q,i6 r,i6 s,.sl (.int .u8) t,i6 u,i6 w,.sl (.int .u8) x])],6,3⟩
def E167_d0e_3 (K:KT):W_refine_Put_d0e_3:=(fun v=>match v with | (t,u,w,x,y,z,A,B,C,D,a,b,d,e,f,g,h,i,j,k,l,m,n,o,p,q,r,s)=>K .normal ⟨[(0,.c (.ptr 0 0)),(1,.c (i6 t)),(7,.c (.ptr 3 0)),(8,.c (.ptr 4 0)),(11,.c (.ptr 5 0)),(52,.c (i6 u)),(53,.c (i6 w))],[(0,.cells 173 (i6 x::.own 1::ctb (.int .u64 y::.int .u64 z::.own 2::.bool A::[]))),(1,.vec 3 (.int .i64) B false),(2,.vec 5 (.int .u8) C true),(3,.cells 135 [i6 D,i6 a,i6 b,.bool d,i6 e]),(4,.cells 51 [i6 f,i6 g,.sl (.int .u8) h]),(5,.cells 266 [i6 i,i6 j,i6 k,.bool l,i6 m,i6 n,i6 o,.sl (.int .u8) p,i6 q,i6 r,.sl (.int .u8) s])],6,3⟩)
theorem S167_d0e_3_okg (fuel:Nat) (a:YF121_cf0) (f:YF122) (b:YF126_a20) (g:YF228) (h:YF229) (i:YF230) (j:YF231) (c:YF232_1c7) (d:YF233_0d1) (e:YF234_0d1) (k:YF235) (R:Ev.St→OA) (K:KT) (I J:Int) (L:Bool) (M N:Int) (O P:Int) (Q S T:Int) (l:Bool) (m n:LI) (o p q:Int) (r:Bool) (s t u:Int) (w:LI) (x y z:Int) (A:Bool) (B C D:Int) (E:LI) (F G:Int) (H:LI):evalCode tab (Gg167_d0e a f b g h i j c d e k) J0 kp167_d0e fuel (bodyOf 3 Tryz.f167) (T167_d0e_3 (I,J,L,M,N,O,P,Q,S,T,l,m,n,o,p,q,r,s,t,u,w,x,y,z,A,B,C,D,E,F,G,H)) (lc kp167_d0e 20 3 R K)=Sg_refine_Put_d0e_3 fuel a f b g h i j c d e k I J L M N O P Q S T l m n o p q r s t u w x y z A B C D E F G H (fun v=>R (T167_d0e_3 v)) (E167_d0e_3 K):=by
  kernel_rfl
def B167_d0e_3 (fuel:Nat):Ev.Blk:=fun st K=>match canonO (kp167_d0e 20) st with | some s=>(match s with | ⟨[(Z,.c (.ptr a0 a1)),(a2,.c (i6 a3)),(a4,.c (.ptr a5 a6)),(a7,.c (.ptr a8 a9)),(a,.c (.ptr b d)),(e,.c (i6 b0)),(f,.c (.bool b1)),(g,.c (i6 b2)),(h,.c (i6 b3)),(i,.c (i6 b4)),(j,.c (i6 b5))],[(k,.cells l m),(n,.vec o (.int .i64) p false),(q,.vec r (.int .u8) t true),(u,.cells v [i6 w,i6 x,i6 y,.bool z,i6 A]),(B,.cells C [i6 D,i6 E,.sl (.int .u8) F]),(G,.cells H [i6 I,i6 J,i6 L,.bool M,i6 N,i6 O,i6 P,.sl (.int .u8) Q,i6 R,i6 S,.sl (.int .u8) T])],U,V⟩=>(match splitRun 2 ctn m with | some ([i6 b6,.own W],[.int .u64 b7,.int .u64 b8,.own X,.bool Y])=>bif qb [Z,a0,a1,a2,a4,a5,a6,a7,a8,a9,a,b,d,e,f,g,h,i,j,k,l,n,o,q,r,u,v,B,C,G,H,U,V,W,X] [0,0,0,1,7,3,0,8,4,0,11,5,0,12,13,52,53,75,76,0,173,1,3,2,5,3,135,4,51,5,266,6,3,1,2] then iter (S_refine_Put_d0e_3 fuel) fuel (a3,b0,b1,b2,b3,b4,b5,b6,b7,b8,Y,p,t,w,x,y,z,A,D,E,F,I,J,L,M,N,O,P,Q,R,S,T) (E167_d0e_3 K) else none | _=>none) | _=>none) | none=>none
theorem B167_d0e_3_ok (fuel:Nat) (st:Ev.St) (K:KT) (r:Ans) (h:B167_d0e_3 fuel st K=some r):evalCode tab (G167_d0e fuel) J0 kp167_d0e fuel (.block 3 (.loop (bodyOf 3 Tryz.f167))) st K=some r:=by
  unfold B167_d0e_3 at h
  split at h
  · rename_i s hs
    split at h
    · skip
      split at h
      rotate_left 1
      · cases h
      rename_i hsp
      have esp:=splitRun_eq hsp
      subst esp
      obtain ⟨hb,h⟩:=cond_some' h
      cases qb_eq hb
      exact blk_loop (S:=T167_d0e_3) (ks:=E167_d0e_3) (step:=S_refine_Put_d0e_3 fuel) (v:=(_,_,_,_,_,_,_,_,_,_,_,_,_,_,_,_,_,_,_,_,_,_,_,_,_,_,_,_,_,_,_,_)) (by kernel_rfl) (by kernel_rfl) (fun R K v=>by obtain ⟨A,B,C,D,E,F,G,H,I,J,a,b,c,d,e,f,g,i,j,k,l,m,n,o,p,q,t,u,w,x,y,z⟩:=v; exact S167_d0e_3_okg fuel (F_coder_Encoder_Put_cf0 fuel) (F_bitmap_Valid fuel) (F_coder_Encoder_Model_a20 fuel) (F_refine_contexts fuel) (F_refine_Valid fuel) (F_refine_fits fuel) (F_refine_newRegion fuel) (F_refine_region_typical_1c7 fuel) (F_refine_region_flat_0d1 fuel) (F_refine_region_context_0d1 fuel) (F_refine_grid_at fuel) R K A B C D E F G H I J a b c d e f g i j k l m n o p q t u w x y z) hs h
    · cases h
  · cases h
abbrev V_refine_Put_d0e_1:Type:=Int×Int×Int×Int×Int×Int×Bool×LI×LI×Int×Int×Int×Bool×Int×Int×Int×LI×Int×Int×Int×Bool×Int×Int×Int×LI×Int×Int×LI
abbrev W_refine_Put_d0e_1:Type:=(Int×Int×Int×Bool×LI×LI→OA)
def Sg_refine_Put_d0e_1 (fuel:Nat) (c5:YF121_cf0) (e1:YF122) (d8:YF126_a20) (c7:YF228) (e2:YF229) (e3:YF230) (e4:YF231) (d5:YF232_1c7) (d9:YF233_0d1) (e0:YF234_0d1) (e5:YF235) (I K:Int) (a X:Int) (Y Z:Int) (a0:Bool) (a1 a2:LI) (J L M:Int) (H:Bool) (N d O:Int) (P:LI) (b4 b5 b6:Int) (b7:Bool) (b8 b9 c0:Int) (c1:LI) (c2 c3:Int) (c4:LI) (c:V_refine_Put_d0e_1→OA) (B:W_refine_Put_d0e_1):OA:=match B with | b=>bif decide (a < K) then bif H then (d5 a b4 b5 b6 b7 b8 b9 c0 c1 c2 c3 c4 (fun (W,a5,a6,a7,a8,a9,b0,b1,b2,b3,a3,a4)=>bif H then bif W then (c7 J (fun d4=>(c5 (i64.wrap (I+d4)) (1) X Y Z a0 a1 a2 (fun (c6,Q,R,S,T,U,V)=>(L_refine_Put_d0e_3 fuel (I,a,W,K,a,d,0,Q,R,S,T,U,V,J,L,M,H,N,d,O,P,a5,a6,a7,a8,a9,b0,b1,b2,b3,a3,a4) (fun (w,x,y,z,A,C,D,E,F,G,e,f,g,h,i,j,k,l,m,n,o,p,q,r,s,t,u,v)=>c (w,x,i64.wrap (y+1),z,A,C,D,E,F,G,e,f,g,h,i,j,k,l,m,n,o,p,q,r,s,t,u,v)))) (fun (c6,Q,R,S,T,U,V)=>(L_refine_Put_d0e_3 fuel (I,a,W,K,a,d,0,Q,R,S,T,U,V,J,L,M,H,N,d,O,P,a5,a6,a7,a8,a9,b0,b1,b2,b3,a3,a4) (fun (w,x,y,z,A,C,D,E,F,G,e,f,g,h,i,j,k,l,m,n,o,p,q,r,s,t,u,v)=>c (w,x,i64.wrap (y+1),z,A,C,D,E,F,G,e,f,g,h,i,j,k,l,m,n,o,p,q,r,s,t,u,v))))))) else (c7 J (fun d4=>(c5 (i64.wrap (I+d4)) (0) X Y Z a0 a1 a2 (fun (c6,Q,R,S,T,U,V)=>(L_refine_Put_d0e_3 fuel (I,a,W,K,a,d,0,Q,R,S,T,U,V,J,L,M,H,N,d,O,P,a5,a6,a7,a8,a9,b0,b1,b2,b3,a3,a4) (fun (w,x,y,z,A,C,D,E,F,G,e,f,g,h,i,j,k,l,m,n,o,p,q,r,s,t,u,v)=>c (w,x,i64.wrap (y+1),z,A,C,D,E,F,G,e,f,g,h,i,j,k,l,m,n,o,p,q,r,s,t,u,v)))) (fun (c6,Q,R,S,T,U,V)=>(L_refine_Put_d0e_3 fuel (I,a,W,K,a,d,0,Q,R,S,T,U,V,J,L,M,H,N,d,O,P,a5,a6,a7,a8,a9,b0,b1,b2,b3,a3,a4) (fun (w,x,y,z,A,C,D,E,F,G,e,f,g,h,i,j,k,l,m,n,o,p,q,r,s,t,u,v)=>c (w,x,i64.wrap (y+1),z,A,C,D,E,F,G,e,f,g,h,i,j,k,l,m,n,o,p,q,r,s,t,u,v))))))) else (L_refine_Put_d0e_3 fuel (I,a,W,K,a,d,0,X,Y,Z,a0,a1,a2,J,L,M,H,N,d,O,P,a5,a6,a7,a8,a9,b0,b1,b2,b3,a3,a4) (fun (w,x,y,z,A,C,D,E,F,G,e,f,g,h,i,j,k,l,m,n,o,p,q,r,s,t,u,v)=>c (w,x,i64.wrap (y+1),z,A,C,D,E,F,G,e,f,g,h,i,j,k,l,m,n,o,p,q,r,s,t,u,v))))) else bif H then (c7 J (fun d7=>(c5 (i64.wrap (I+d7)) (0) X Y Z a0 a1 a2 (fun (d6,c8,c9,d0,d1,d2,d3)=>(L_refine_Put_d0e_3 fuel (I,a,false,K,a,d,0,c8,c9,d0,d1,d2,d3,J,L,M,H,N,d,O,P,b4,b5,b6,b7,b8,b9,c0,c1,c2,c3,c4) (fun (w,x,y,z,A,C,D,E,F,G,e,f,g,h,i,j,k,l,m,n,o,p,q,r,s,t,u,v)=>c (w,x,i64.wrap (y+1),z,A,C,D,E,F,G,e,f,g,h,i,j,k,l,m,n,o,p,q,r,s,t,u,v)))) (fun (d6,c8,c9,d0,d1,d2,d3)=>(L_refine_Put_d0e_3 fuel (I,a,false,K,a,d,0,c8,c9,d0,d1,d2,d3,J,L,M,H,N,d,O,P,b4,b5,b6,b7,b8,b9,c0,c1,c2,c3,c4) (fun (w,x,y,z,A,C,D,E,F,G,e,f,g,h,i,j,k,l,m,n,o,p,q,r,s,t,u,v)=>c (w,x,i64.wrap (y+1),z,A,C,D,E,F,G,e,f,g,h,i,j,k,l,m,n,o,p,q,r,s,t,u,v))))))) else (L_refine_Put_d0e_3 fuel (I,a,false,K,a,d,0,X,Y,Z,a0,a1,a2,J,L,M,H,N,d,O,P,b4,b5,b6,b7,b8,b9,c0,c1,c2,c3,c4) (fun (w,x,y,z,A,C,D,E,F,G,e,f,g,h,i,j,k,l,m,n,o,p,q,r,s,t,u,v)=>c (w,x,i64.wrap (y+1),z,A,C,D,E,F,G,e,f,g,h,i,j,k,l,m,n,o,p,q,r,s,t,u,v))) else b (X,Y,Z,a0,a1,a2)
def S_refine_Put_d0e_1 (fuel:Nat) (v:Int×Int×Int×Int×Int×Int×Bool×(List Int)×(List Int)×Int×Int×Int×Bool×Int×Int×Int×(List Int)×Int×Int×Int×Bool×Int×Int×Int×(List Int)×Int×Int×(List Int)) (c:(Int×Int×Int×Int×Int×Int×Bool×(List Int)×(List Int)×Int×Int×Int×Bool×Int×Int×Int×(List Int)×Int×Int×Int×Bool×Int×Int×Int×(List Int)×Int×Int×(List Int))→Option Ans) (B:(Int×Int×Int×Bool×(List Int)×(List Int)→Option Ans)):Option Ans:=match v with | (t,u,w,x,y,z,A,C,D,E,a,b,d,e,f,g,h,i,j,k,l,m,n,o,p,q,r,s)=>Sg_refine_Put_d0e_1 fuel (F_coder_Encoder_Put_cf0 fuel) (F_bitmap_Valid fuel) (F_coder_Encoder_Model_a20 fuel) (F_refine_contexts fuel) (F_refine_Valid fuel) (F_refine_fits fuel) (F_refine_newRegion fuel) (F_refine_region_typical_1c7 fuel) (F_refine_region_flat_0d1 fuel) (F_refine_region_context_0d1 fuel) (F_refine_grid_at fuel) t u w x y z A C D E a b d e f g h i j k l m n o p q r s c B
def L_refine_Put_d0e_1 (fuel:Nat) (v:V_refine_Put_d0e_1) (b:W_refine_Put_d0e_1):Option Ans:=iter (S_refine_Put_d0e_1 fuel) fuel v b
def J167_d0e_1 (fuel:Nat) (i:Nat):Option Ev.Blk:=Ev.look i [(100003,B167_d0e_3 fuel)]
def T167_d0e_1 (v:V_refine_Put_d0e_1):Ev.St:=match v with | (t,u,w,x,y,z,A,B,C,D,a,b,d,e,f,g,h,i,j,k,l,m,n,o,p,q,r,s)=>⟨[(0,.c (.ptr 0 0)),(1,.c (i6 t)),(7,.c (.ptr 3 0)),(8,.c (.ptr 4 0)),(11,.c (.ptr 5 0)),(52,.c (i6 u)),(53,.c (i6 w))],[(0,.cells 173 (i6 x::.own 1::ctb (.int .u64 y::.int .u64 z::.own 2::.bool A::[]))),(1,.vec 3 (.int .i64) B false),(2,.vec 5 (.int .u8) C true),(3,.cells 135 [i6 D,i6 a,i6 b,.bool d,i6 e]),(4,.cells 51 [i6 f,i6 g,.sl (.int .u8) h]),(5,.cells 266 [i6 i,i6 j,i6 k,.bool l,i6 m,i6 n,i6 o,.sl (.int .u8) p,i6 q,i6 r,.sl (.int .u8) s])],6,3⟩
def E167_d0e_1 (K:KT):W_refine_Put_d0e_1:=(fun v=>match v with | (a,b,c,d,e,f)=>K .normal ⟨[],[(0,.cells 173 (i6 a::.own 1::ctb (.int .u64 b::.int .u64 c::.own 2::.bool d::[]))),(1,.vec 3 (.int .i64) e false),(2,.vec 5 (.int .u8) f true)],3,3⟩)
theorem S167_d0e_1_okg (fuel:Nat) (a:YF121_cf0) (f:YF122) (b:YF126_a20) (g:YF228) (h:YF229) (i:YF230) (j:YF231) (c:YF232_1c7) (d:YF233_0d1) (e:YF234_0d1) (k:YF235) (R:Ev.St→OA) (K:KT) (E F:Int) (G H:Int) (I J:Int) (L:Bool) (M N:LI) (O l m:Int) (n:Bool) (o p q:Int) (r:LI) (s t u:Int) (w:Bool) (x y z:Int) (A:LI) (B C:Int) (D:LI):evalCode tab (Gg167_d0e a f b g h i j c d e k) (J167_d0e_1 fuel) kp167_d0e fuel (bodyOf 1 Tryz.f167) (T167_d0e_1 (E,F,G,H,I,J,L,M,N,O,l,m,n,o,p,q,r,s,t,u,w,x,y,z,A,B,C,D)) (lc kp167_d0e 11 1 R K)=Sg_refine_Put_d0e_1 fuel a f b g h i j c d e k E F G H I J L M N O l m n o p q r s t u w x y z A B C D (fun v=>R (T167_d0e_1 v)) (E167_d0e_1 K):=by
  kernel_rfl
def B167_d0e_1 (fuel:Nat):Ev.Blk:=fun st K=>match canonO (kp167_d0e 11) st with | some s=>(match s with | ⟨[(R,.c (.ptr S T)),(U,.c (i6 V)),(W,.c (.ptr X Y)),(Z,.c (.ptr a0 a1)),(a,.c (.ptr b d)),(e,.c (i6 a2)),(f,.c (i6 a3))],[(g,.cells h i),(j,.vec k (.int .i64) a4 false),(l,.vec m (.int .u8) a5 true),(n,.cells o [i6 a6,i6 p,i6 q,.bool r,i6 t]),(u,.cells v [i6 w,i6 x,.sl (.int .u8) y]),(z,.cells A [i6 B,i6 C,i6 D,.bool E,i6 F,i6 G,i6 H,.sl (.int .u8) I,i6 J,i6 L,.sl (.int .u8) M])],N,O⟩=>(match splitRun 2 ctn i with | some ([i6 a7,.own P],[.int .u64 a8,.int .u64 a9,.own Q,.bool b0])=>bif qb [R,S,T,U,W,X,Y,Z,a0,a1,a,b,d,e,f,g,h,j,k,l,m,n,o,u,v,z,A,N,O,P,Q] [0,0,0,1,7,3,0,8,4,0,11,5,0,52,53,0,173,1,3,2,5,3,135,4,51,5,266,6,3,1,2] then iter (S_refine_Put_d0e_1 fuel) fuel (V,a2,a3,a7,a8,a9,b0,a4,a5,a6,p,q,r,t,w,x,y,B,C,D,E,F,G,H,I,J,L,M) (E167_d0e_1 K) else none | _=>none) | _=>none) | none=>none
theorem B167_d0e_1_ok (fuel:Nat) (st:Ev.St) (K:KT) (r:Ans) (h:B167_d0e_1 fuel st K=some r):evalCode tab (G167_d0e fuel) (J167_d0e_1 fuel) kp167_d0e fuel (.block 1 (.loop (bodyOf 1 Tryz.f167))) st K=some r:=by
  unfold B167_d0e_1 at h
  split at h
  · rename_i s hs
    split at h
    · skip
      split at h
      rotate_left 1
      · cases h
      rename_i hsp
      have esp:=splitRun_eq hsp
      subst esp
      obtain ⟨hb,h⟩:=cond_some' h
      cases qb_eq hb
      exact blk_loop (S:=T167_d0e_1) (ks:=E167_d0e_1) (step:=S_refine_Put_d0e_1 fuel) (v:=(_,_,_,_,_,_,_,_,_,_,_,_,_,_,_,_,_,_,_,_,_,_,_,_,_,_,_,_)) (by kernel_rfl) (by kernel_rfl) (fun R K v=>by obtain ⟨w,x,y,z,A,B,C,D,E,F,a,b,c,d,e,f,g,i,j,k,l,m,n,o,p,q,t,u⟩:=v; exact S167_d0e_1_okg fuel (F_coder_Encoder_Put_cf0 fuel) (F_bitmap_Valid fuel) (F_coder_Encoder_Model_a20 fuel) (F_refine_contexts fuel) (F_refine_Valid fuel) (F_refine_fits fuel) (F_refine_newRegion fuel) (F_refine_region_typical_1c7 fuel) (F_refine_region_flat_0d1 fuel) (F_refine_region_context_0d1 fuel) (F_refine_grid_at fuel) R K w x y z A B C D E F a b c d e f g i j k l m n o p q t u) hs h
    · cases h
  · cases h
def J167_d0e (fuel:Nat) (i:Nat):Option Ev.Blk:=Ev.look i [(100003,B167_d0e_3 fuel),(100001,B167_d0e_1 fuel)]
def F_refine_Put_d0e (fuel:Nat) (w g:Int) (h i:Int) (j:Bool) (k m l:Int) (n:(List Int)) (x u:Int) (v:(List Int)) (W X Y:Int) (Z:Bool) (a0 a1:(List Int)) (k0:(Int×Int×Int×Int×Bool×(List Int)×(List Int))→Option Ans):Option Ans:=(F_coder_Encoder_Put_cf0 fuel ((-1:Int)) (0) W X Y Z a0 a1 (fun (L,a,b,c,d,e,f)=>bif L==7 then k0 (7,a,b,c,d,e,f) else (F_refine_Valid fuel g h i j k (fun V=>bif !V then k0 (2,a,b,c,d,e,f) else (F_bitmap_Valid fuel m l n (fun S=>bif !S then k0 (30,a,b,c,d,e,f) else (F_bitmap_Valid fuel x u v (fun T=>bif !T then k0 (30,a,b,c,d,e,f) else (F_coder_Encoder_Model_a20 fuel a b c d e f (fun (z,o,p,q,r,s,t,A)=>(F_refine_fits fuel z A w g h i j k (fun U=>bif !U then k0 (2,o,p,q,r,s,t) else (F_refine_newRegion fuel g h i j k m l n x u v (fun (B,C,D,E,F,G,H,I,J,K,y)=>(L_refine_Put_d0e_1 fuel (w,l,0,o,p,q,r,s,t,g,h,i,j,k,m,l,n,B,C,D,E,F,G,H,I,J,K,y) (fun (M,N,O,P,Q,R)=>k0 (0,M,N,O,P,Q,R)))))))))))))))) (fun (L,a,b,c,d,e,f)=>bif L==7 then k0 (7,a,b,c,d,e,f) else (F_refine_Valid fuel g h i j k (fun V=>bif !V then k0 (2,a,b,c,d,e,f) else (F_bitmap_Valid fuel m l n (fun S=>bif !S then k0 (30,a,b,c,d,e,f) else (F_bitmap_Valid fuel x u v (fun T=>bif !T then k0 (30,a,b,c,d,e,f) else (F_coder_Encoder_Model_a20 fuel a b c d e f (fun (z,o,p,q,r,s,t,A)=>(F_refine_fits fuel z A w g h i j k (fun U=>bif !U then k0 (2,o,p,q,r,s,t) else (F_refine_newRegion fuel g h i j k m l n x u v (fun (B,C,D,E,F,G,H,I,J,K,y)=>(L_refine_Put_d0e_1 fuel (w,l,0,o,p,q,r,s,t,g,h,i,j,k,m,l,n,B,C,D,E,F,G,H,I,J,K,y) (fun (M,N,O,P,Q,R)=>k0 (0,M,N,O,P,Q,R)))))))))))))))))
abbrev YF167_d0e:Type:=Int→Int→Int→Int→Bool→Int→Int→Int→LI→Int→Int→LI→Int→Int→Int→Bool→LI→LI→((Int×Int×Int×Int×Bool×LI×LI)→Option Ans)→Option Ans
theorem F167_d0e_eqg (fuel:Nat) (a4:YF121_cf0) (x:YF122) (C:YF126_a20) (b4:YF228) (Q:YF229) (R:YF230) (S:YF231) (b1:YF232_1c7) (b2:YF233_0d1) (b3:YF234_0d1) (b5:YF235) (A h:Int) (i j:Int) (l:Bool) (m o n:Int) (p:LI) (B y:Int) (z:LI) (a5 a6 a7:Int) (a8:Bool) (a9 b0:LI) (k:Ev.Cont):evalFn tab (Gg167_d0e a4 x C b4 Q R S b1 b2 b3 b5) (J167_d0e fuel) kp167_d0e fuel Tryz.f167 [.c (.ptr 0 0),.c (i6 A),.agg [i6 h,i6 i,i6 j,.bool l,i6 m],.agg [i6 o,i6 n,.sl (.int .u8) p],.agg [i6 B,i6 y,.sl (.int .u8) z]] [.cells 173 (i6 a5::.own 1::ctb (.int .u64 a6::.int .u64 a7::.own 2::.bool a8::[])),.vec 3 (.int .i64) a9 false,.vec 5 (.int .u8) b0 false] (wkC [1000002] k)=(fun  (k0:(Int×Int×Int×Int×Bool×LI×LI)→OA)=>
  (a4 ((-1:Int)) ((0:Int)) a5 a6 a7 a8 a9 b0
  (fun (T,a,b,d,e,f,g)=>
  bif T==(7:Int) then
  k0 ((7:Int),a,b,d,e,f,g)
  else
  (Q h i j l m
  (fun a3=>
  bif !a3 then
  k0 ((2:Int),a,b,d,e,f,g)
  else
  (x o n p
  (fun a0=>
  bif !a0 then
  k0 ((30:Int),a,b,d,e,f,g)
  else
  (x B y z
  (fun a1=>
  bif !a1 then
  k0 ((30:Int),a,b,d,e,f,g)
  else
  (C a b d e f g
  (fun (E,q,s,t,u,v,w,F)=>
  (R E F A h i j l m
  (fun a2=>
  bif !a2 then
  k0 ((2:Int),q,s,t,u,v,w)
  else
  (S h i j l m o n p B y z
  (fun (G,H,I,J,K,L,M,N,O,P,D)=>
  (L_refine_Put_d0e_1 fuel (A,n,(0:Int),q,s,t,u,v,w,h,i,j,l,m,o,n,p,G,H,I,J,K,L,M,N,O,P,D)
  (fun (U,V,W,X,Y,Z)=>
  k0 ((0:Int),U,V,W,X,Y,Z))))))))))))))))
  (fun (T,a,b,d,e,f,g)=>
  bif T==(7:Int) then
  k0 ((7:Int),a,b,d,e,f,g)
  else
  (Q h i j l m
  (fun a3=>
  bif !a3 then
  k0 ((2:Int),a,b,d,e,f,g)
  else
  (x o n p
  (fun a0=>
  bif !a0 then
  k0 ((30:Int),a,b,d,e,f,g)
  else
  (x B y z
  (fun a1=>
  bif !a1 then
  k0 ((30:Int),a,b,d,e,f,g)
  else
  (C a b d e f g
  (fun (E,q,s,t,u,v,w,F)=>
  (R E F A h i j l m
  (fun a2=>
  bif !a2 then
  k0 ((2:Int),q,s,t,u,v,w)
  else
  (S h i j l m o n p B y z
  (fun (G,H,I,J,K,L,M,N,O,P,D)=>
  (L_refine_Put_d0e_1 fuel (A,n,(0:Int),q,s,t,u,v,w,h,i,j,l,m,o,n,p,G,H,I,J,K,L,M,N,O,P,D)
  (fun (U,V,W,X,Y,Z)=>
  k0 ((0:Int),U,V,W,X,Y,Z)))))))))))))))))) (fun r=>match r with | (b6,b7,b8,b9,c0,c1,c2)=>k (.c (i6 b6),[.cells 173 (i6 b7::.own 1::ctb (.int .u64 b8::.int .u64 b9::.own 2::.bool c0::[])),.vec 3 (.int .i64) c1 false,.vec 5 (.int .u8) c2 true])):=by
  kernel_rfl
theorem hG167_d0e (fuel:Nat):GOK Tryz.prog (G167_d0e fuel):=
  gc (ok121_cf0 fuel) Tryz.func121 (by kernel_rfl) rfl <|
  gc (ok122 fuel) Tryz.func122 (by kernel_rfl) rfl <|
  gc (ok126_a20 fuel) Tryz.func126 (by kernel_rfl) rfl <|
  gc (ok228 fuel) Tryz.func228 (by kernel_rfl) rfl <|
  gc (ok229 fuel) Tryz.func229 (by kernel_rfl) rfl <|
  gc (ok230 fuel) Tryz.func230 (by kernel_rfl) rfl <|
  gc (ok231 fuel) Tryz.func231 (by kernel_rfl) rfl <|
  gc (ok232_1c7 fuel) Tryz.func232 (by kernel_rfl) rfl <|
  gc (ok233_0d1 fuel) Tryz.func233 (by kernel_rfl) rfl <|
  gc (ok234_0d1 fuel) Tryz.func234 (by kernel_rfl) rfl <|
  gc (ok235 fuel) Tryz.func235 (by kernel_rfl) rfl <|
  gok_nil
theorem B167_d0e_3_blk (fuel:Nat):BlkOK Tryz.prog Tryz.f167.ntmps (.block 3 (.loop (bodyOf 3 Tryz.f167))) (B167_d0e_3 fuel):=bo0 (hG167_d0e fuel) (by kernel_rfl) (by kernel_rfl) (B167_d0e_3_ok fuel)
theorem B167_d0e_1_blk (fuel:Nat):BlkOK Tryz.prog Tryz.f167.ntmps (.block 1 (.loop (bodyOf 1 Tryz.f167))) (B167_d0e_1 fuel):=
  blk_of (blk_of_code tab_ok (hG167_d0e fuel) mixed (J:=J167_d0e_1 fuel) (kp:=kp167_d0e) (fuel:=fuel) (by kernel_rfl) (fun q hq=>by
    rw [(by kernel_rfl:obl (J167_d0e_1 fuel) (.block 1 (.loop (bodyOf 1 Tryz.f167)))= [(.block 3 (.loop (bodyOf 3 Tryz.f167)),B167_d0e_3 fuel)])] at hq
    simp only [List.mem_cons,List.not_mem_nil,or_false] at hq
    subst hq
    · exact B167_d0e_3_blk fuel)) (B167_d0e_1_ok fuel)
theorem fok167_d0e (fuel:Nat):FnOK Tryz.prog 167 (evalFn tab (G167_d0e fuel) (J167_d0e fuel) kp167_d0e fuel Tryz.f167):=
  fn_ok tab_ok (hG167_d0e fuel) mixed Tryz.func167 (c:=(Tryz.f167.body).getD .skip) rfl (fun q hq=>by
    rw [(by kernel_rfl:obl (J167_d0e fuel) ((Tryz.f167.body).getD .skip)= [(.block 1 (.loop (bodyOf 1 Tryz.f167)),B167_d0e_1 fuel)])] at hq
    simp only [List.mem_cons,List.not_mem_nil,or_false] at hq
    subst hq
    · exact B167_d0e_1_blk fuel)
def spg167_d0e (F:YF167_d0e):Ev.Spec:=fun args objs k=>match args,objs with | [.c (.ptr l m),.c (i6 n),.agg [i6 o,i6 p,i6 q,.bool s,i6 t],.agg [i6 u,i6 v,.sl (.int .u8) w],.agg [i6 x,i6 a,.sl (.int .u8) b]],[.cells y d,.vec z (.int .i64) e false,.vec A (.int .u8) f false]=>(match splitRun 2 ctn d with | some ([i6 g,.own B],[.int .u64 h,.int .u64 i,.own C,.bool j])=>bif qb [l,m,y,z,A,B,C] [0,0,173,3,5,1,2] then F n o p q s t u v w x a b g h i j e f (fun r=>match r with | (D,E,G,H,I,J,K)=>k (.c (i6 D),[.cells 173 (i6 E::.own 1::ctb (.int .u64 G::.int .u64 H::.own 2::.bool I::[])),.vec 3 (.int .i64) J false,.vec 5 (.int .u8) K true])) else none | _=>none) | _,_=>none
theorem ok167_d0e (fuel:Nat):FnOK Tryz.prog 167 (spg167_d0e (F_refine_Put_d0e fuel)):=by
  intro args objs kk r h
  unfold spg167_d0e at h
  split at h
  · skip
    split at h
    rotate_left 1
    · cases h
    rename_i hsp
    have esp:=splitRun_eq hsp
    subst esp
    obtain ⟨hb,h⟩:=cond_some' h
    cases qb_eq hb
    exact (fok167_d0e fuel).wk [1000002] _ _ kk r ((F167_d0e_eqg fuel (F_coder_Encoder_Put_cf0 fuel) (F_bitmap_Valid fuel) (F_coder_Encoder_Model_a20 fuel) (F_refine_contexts fuel) (F_refine_Valid fuel) (F_refine_fits fuel) (F_refine_newRegion fuel) (F_refine_region_typical_1c7 fuel) (F_refine_region_flat_0d1 fuel) (F_refine_region_context_0d1 fuel) (F_refine_grid_at fuel) _ _ _ _ _ _ _ _ _ _ _ _ _ _ _ _ _ _ kk).trans h)
  · cases h
def kp168 (i:Nat):Option (List Nat):=Ev.look i []
def Gg168 (f:Nat):Option Ev.Spec:=Ev.look f []
def G168 (fuel:Nat):Nat→Option Ev.Spec:=Gg168
def F_text_layout_options (fuel:Nat) (f g:Int) (h:Bool) (i j c:Int) (k:Bool) (d l:Int) (m e:Int) (a b:Int) (k0:(Int×Int×Int×Bool×Int)→Option Ans):Option Ans:=k0 (d,a,b,false,c)
abbrev YF168:Type:=Int→Int→Bool→Int→Int→Int→Bool→Int→Int→Int→Int→Int→Int→((Int×Int×Int×Bool×Int)→Option Ans)→Option Ans
theorem F168_eq (fuel:Nat) (e f:Int) (g:Bool) (h i j:Int) (l:Bool) (m n:Int) (o a:Int) (b d:Int) (k:Ev.Cont):evalFn tab (G168 fuel) J0 kp168 fuel Tryz.f168 [.agg [i6 e,i6 f,.bool g,i6 h,i6 i,i6 j,.bool l,i6 m,i6 n,i6 o,i6 a],.c (i6 b),.c (i6 d)] [] k=F_text_layout_options fuel e f g h i j l m n o a b d (fun r=>match r with | (p,q,s,t,u)=>k (.agg [i6 p,i6 q,i6 s,.bool t,i6 u],[])):=by
  kernel_rfl
theorem hG168 (fuel:Nat):GOK Tryz.prog (G168 fuel):=
  gok_nil
def spg168 (F:YF168):Ev.Spec:=fun args objs k=>match args,objs with | [.agg [i6 e,i6 f,.bool g,i6 h,i6 i,i6 j,.bool l,i6 m,i6 n,i6 o,i6 a],.c (i6 b),.c (i6 d)],[]=>F e f g h i j l m n o a b d (fun r=>match r with | (p,q,s,t,u)=>k (.agg [i6 p,i6 q,i6 s,.bool t,i6 u],[])) | _,_=>none
theorem ok168 (fuel:Nat):FnOK Tryz.prog 168 (spg168 (F_text_layout_options fuel)):=by
  intro args objs kk r h
  unfold spg168 at h
  split at h
  · skip
    exact fo0 (hG168 fuel) Tryz.func168 rfl (by kernel_rfl) _ _ kk r ((F168_eq fuel _ _ _ _ _ _ _ _ _ _ _ _ _ kk).trans h)
  · cases h
def kp79_9ea (i:Nat):Option (List Nat):=Ev.look i [(600000,[])]
def Gg79_9ea (a:YF81_856) (f:Nat):Option Ev.Spec:=Ev.look f [(81,spg81_856 a)]
def G79_9ea (fuel:Nat):Nat→Option Ev.Spec:=Gg79_9ea (F_number_Put_856 fuel)
def Fg_text_writer_put_9ea (fuel:Nat) (a:YF81_856) (r s:Int) (t u:Int) (v:Bool) (w x y:Int) (z:Bool) (A h:Int) (i j:Int) (k:(List (Int×(Int×LI)))) (l m n:Int) (o:Bool) (p q:LI) (k0:(Int×Int×Bool×Int×Int×Int×Bool×Int×Int×Int×Int×(List (Int×(Int×LI)))×Int×Int×Int×Bool×LI×LI)→OA):OA:=(a r (false) s l m n o p q (fun (B,b,c,d,e,f,g)=>k0 (t,u,v,w,x,y,z,A,h,i,j,k,b,c,d,e,f,g)))
abbrev YF79_9ea:Type:=Int→Int→Int→Int→Bool→Int→Int→Int→Bool→Int→Int→Int→Int→((List (Int×(Int×LI))))→Int→Int→Int→Bool→LI→LI→((Int×Int×Bool×Int×Int×Int×Bool×Int×Int×Int×Int×(List (Int×(Int×LI)))×Int×Int×Int×Bool×LI×LI)→Option Ans)→Option Ans
def F_text_writer_put_9ea (fuel:Nat):YF79_9ea:=Fg_text_writer_put_9ea fuel (F_number_Put_856 fuel)
theorem F79_9ea_eqg (fuel:Nat) (a:YF81_856) (n o:Int) (p q:Int) (s:Bool) (t u v:Int) (w:Bool) (x b:Int) (d e:Int) (f:(List (Int×(Int×LI)))) (g h i:Int) (j:Bool) (l m:LI) (k:Ev.Cont):evalFn tab (Gg79_9ea a) J0 kp79_9ea fuel Tryz.f79 [.c (.ptr 0 0),.c (i6 n),.c (i6 o)] [.cells 119 [i6 p,i6 q,.bool s,i6 t,i6 u,i6 v,.bool w,i6 x,i6 b,i6 d,i6 e,.ptr 1 0,.sl (.pair (.int .i64) (.pair (.int .i64) (.sl (.int .u8)))) f],.cells 173 (i6 g::.own 2::ctb (.int .u64 h::.int .u64 i::.own 3::.bool j::[])),.vec 3 (.int .i64) l false,.vec 5 (.int .u8) m false] k=Fg_text_writer_put_9ea fuel a n o p q s t u v w x b d e f g h i j l m (fun r=>match r with | (G,H,I,J,K,L,M,N,O,P,y,z,A,B,C,D,E,F)=>k (.tup [],[.cells 119 [i6 G,i6 H,.bool I,i6 J,i6 K,i6 L,.bool M,i6 N,i6 O,i6 P,i6 y,.ptr 1 0,.sl (.pair (.int .i64) (.pair (.int .i64) (.sl (.int .u8)))) z],.cells 173 (i6 A::.own 2::ctb (.int .u64 B::.int .u64 C::.own 3::.bool D::[])),.vec 3 (.int .i64) E false,.vec 5 (.int .u8) F true])):=by
  kernel_rfl
theorem hG79_9ea (fuel:Nat):GOK Tryz.prog (G79_9ea fuel):=
  gc (ok81_856 fuel) Tryz.func81 (by kernel_rfl) rfl <|
  gok_nil
def spg79_9ea (F:YF79_9ea):Ev.Spec:=fun args objs k=>match args,objs with | [.c (.ptr w x),.c (i6 y),.c (i6 z)],[.cells A [i6 B,i6 C,.bool D,i6 E,i6 G,i6 H,.bool I,i6 J,i6 a,i6 b,i6 d,.ptr K L,.sl (.pair (.int .i64) (.pair (.int .i64) (.sl (.int .u8)))) e],.cells M f,.vec N (.int .i64) g false,.vec O (.int .u8) h false]=>(match splitRun 2 ctn f with | some ([i6 i,.own P],[.int .u64 j,.int .u64 l,.own Q,.bool m])=>bif qb [w,x,A,K,L,M,N,O,P,Q] [0,0,119,1,0,173,3,5,2,3] then F y z B C D E G H I J a b d e i j l m g h (fun r=>match r with | (R,S,T,U,V,W,X,Y,Z,a0,n,o,p,q,s,t,u,v)=>k (.tup [],[.cells 119 [i6 R,i6 S,.bool T,i6 U,i6 V,i6 W,.bool X,i6 Y,i6 Z,i6 a0,i6 n,.ptr 1 0,.sl (.pair (.int .i64) (.pair (.int .i64) (.sl (.int .u8)))) o],.cells 173 (i6 p::.own 2::ctb (.int .u64 q::.int .u64 s::.own 3::.bool t::[])),.vec 3 (.int .i64) u false,.vec 5 (.int .u8) v true])) else none | _=>none) | _,_=>none
theorem ok79_9ea (fuel:Nat):FnOK Tryz.prog 79 (spg79_9ea (F_text_writer_put_9ea fuel)):=by
  intro args objs kk r h
  unfold spg79_9ea at h
  split at h
  · skip
    split at h
    rotate_left 1
    · cases h
    rename_i hsp
    have esp:=splitRun_eq hsp
    subst esp
    obtain ⟨hb,h⟩:=cond_some' h
    cases qb_eq hb
    exact fo0 (hG79_9ea fuel) Tryz.func79 rfl (by kernel_rfl) _ _ kk r ((F79_9ea_eqg fuel (F_number_Put_856 fuel) _ _ _ _ _ _ _ _ _ _ _ _ _ _ _ _ _ _ _ _ kk).trans h)
  · cases h
def kp80_1a8 (i:Nat):Option (List Nat):=Ev.look i [(200002,[3]),(200003,[0,3]),(200008,[0,3]),(200013,[0,3,4])]
def Gg80_1a8 (g:YF76) (d:YF79_9ea) (a:YF121_cf0) (b:YF166_b82) (c:YF167_d0e) (e:YF168) (f:Nat):Option Ev.Spec:=Ev.look f [(76,spg76 g),(79,spg79_9ea d),(121,spg121_cf0 a),(166,spg166_b82 b),(167,spg167_d0e c),(168,spg168 e)]
def G80_1a8 (fuel:Nat):Nat→Option Ev.Spec:=Gg80_1a8 (F_text_strip fuel) (F_text_writer_put_9ea fuel) (F_coder_Encoder_Put_cf0 fuel) (F_number_PutId_b82 fuel) (F_refine_Put_d0e fuel) (F_text_layout_options fuel)
def Fg_text_writer_item_1a8 (fuel:Nat) (D3:YF76) (b:YF79_9ea) (d2:YF121_cf0) (n0:YF166_b82) (d3:YF167_d0e) (d4:YF168) (a D4 l6:Int) (l4:Bool) (e f:Int) (g h:Int) (c8:LI) (r c2:Int) (c3:Bool) (c4 c5 c6:Int) (K:Bool) (c7 d1:Int) (d5 d6:Int) (d:(List (Int×(Int×LI)))) (n1 n2 n3:Int) (n4:Bool) (n5 n6:LI) (k0:(Int×Int×Bool×Int×Int×Int×Bool×Int×Int×Int×Int×(List (Int×(Int×LI)))×Int×Int×Int×Bool×LI×LI)→OA):OA:=bif decide (r > 1) then both (both ((D3 r c2 c3 c4 c5 c6 K c7 a D4 l6 l4 e f g h c8 (fun D5=>(b (144) (i64.wrap (l6 - i64.wrap (D5*r))) r c2 c3 c4 c5 c6 K c7 d1 d5 d6 d n1 n2 n3 n4 n5 n6 (fun (U,V,W,X,Y,Z,u,a0,v,a1,L,c,n7,n8,n9,o0,o1,o2)=>(n0 (385) v a n7 n8 n9 o0 o1 o2 (fun (D6,h0,h1,h2,h3,h4,h5)=>bif !u then k0 (U,V,W,X,Y,Z,u,a0,v,a1,L,c,h0,h1,h2,h3,h4,h5) else bif !l4 then (d2 (384) (0) h0 h1 h2 h3 h4 h5 (fun (h6,j,k,l,m,n,o)=>k0 (U,V,W,X,Y,Z,u,a0,v,a1,L,c,j,k,l,m,n,o)) (fun (h6,j,k,l,m,n,o)=>k0 (U,V,W,X,Y,Z,u,a0,v,a1,L,c,j,k,l,m,n,o))) else (d2 (384) (1) h0 h1 h2 h3 h4 h5 (fun (h6,j,k,l,m,n,o)=>bif decide (0≤a∧a < (↑c.length:Int)) then (b (192) (i64.wrap (g - (c.getD a.toNat (0,0,[])).fst)) U V W X Y Z u a0 v a1 L c j k l m n o (fun (w,x,y,z,A,B,C,D,E,p,t,M,N,O,P,Q,R,S)=>(b (240) (i64.wrap (h - (c.getD a.toNat (0,0,[])).snd.fst)) w x y z A B C D E p t M N O P Q R S (fun (a2,a3,a4,a5,a6,h7,h8,h9,j0,j1,d7,d8,d9,e0,e1,e2,e3,e4)=>(b (288) e a2 a3 a4 a5 a6 h7 h8 h9 j0 j1 d7 d8 d9 e0 e1 e2 e3 e4 (fun (c9,a7,a8,a9,b0,b1,b2,j2,j3,j4,e5,e6,e7,e8,e9,g0,g1,g2)=>(b (336) f c9 a7 a8 a9 b0 b1 b2 j2 j3 j4 e5 e6 e7 e8 e9 g0 g1 g2 (fun (b3,b4,b5,b6,b7,b8,b9,c0,c1,q,T,g3,g4,g5,g6,g7,g8,g9)=>(d4 b3 b4 b5 b6 b7 b8 b9 c0 c1 q T e f (fun (j5,j6,j7,j8,j9)=>(d3 q j5 j6 j7 j8 j9 g h c8 ((c.getD a.toNat (0,0,[])).fst) ((c.getD a.toNat (0,0,[])).snd.fst) ((c.getD a.toNat (0,0,[])).snd.snd) g4 g5 g6 g7 g8 g9 (fun (t8,k1,k2,k3,k4,k5,k6)=>k0 (b3,b4,b5,b6,b7,b8,b9,c0,c1,q,T,g3,k1,k2,k3,k4,k5,k6))))))))))))) else none) (fun (h6,j,k,l,m,n,o)=>bif decide (0≤a∧a < (↑c.length:Int)) then (b (192) (i64.wrap (g - (c.getD a.toNat (0,0,[])).fst)) U V W X Y Z u a0 v a1 L c j k l m n o (fun (w,x,y,z,A,B,C,D,E,p,t,M,N,O,P,Q,R,S)=>(b (240) (i64.wrap (h - (c.getD a.toNat (0,0,[])).snd.fst)) w x y z A B C D E p t M N O P Q R S (fun (a2,a3,a4,a5,a6,h7,h8,h9,j0,j1,d7,d8,d9,e0,e1,e2,e3,e4)=>(b (288) e a2 a3 a4 a5 a6 h7 h8 h9 j0 j1 d7 d8 d9 e0 e1 e2 e3 e4 (fun (c9,a7,a8,a9,b0,b1,b2,j2,j3,j4,e5,e6,e7,e8,e9,g0,g1,g2)=>(b (336) f c9 a7 a8 a9 b0 b1 b2 j2 j3 j4 e5 e6 e7 e8 e9 g0 g1 g2 (fun (b3,b4,b5,b6,b7,b8,b9,c0,c1,q,T,g3,g4,g5,g6,g7,g8,g9)=>(d4 b3 b4 b5 b6 b7 b8 b9 c0 c1 q T e f (fun (j5,j6,j7,j8,j9)=>(d3 q j5 j6 j7 j8 j9 g h c8 ((c.getD a.toNat (0,0,[])).fst) ((c.getD a.toNat (0,0,[])).snd.fst) ((c.getD a.toNat (0,0,[])).snd.snd) g4 g5 g6 g7 g8 g9 (fun (t8,k1,k2,k3,k4,k5,k6)=>k0 (b3,b4,b5,b6,b7,b8,b9,c0,c1,q,T,g3,k1,k2,k3,k4,k5,k6))))))))))))) else none))))))))) ((D3 r c2 c3 c4 c5 c6 K c7 a D4 l6 l4 e f g h c8 (fun D5=>(b (144) (i64.wrap (l6 - i64.wrap (D5*r))) r c2 c3 c4 c5 c6 K c7 d1 d5 d6 d n1 n2 n3 n4 n5 n6 (fun (U,V,W,X,Y,Z,u,a0,v,a1,L,c,n7,n8,n9,o0,o1,o2)=>(n0 (385) v a n7 n8 n9 o0 o1 o2 (fun (D6,h0,h1,h2,h3,h4,h5)=>bif !u then k0 (U,V,W,X,Y,Z,u,a0,v,a1,L,c,h0,h1,h2,h3,h4,h5) else bif !l4 then (d2 (384) (0) h0 h1 h2 h3 h4 h5 (fun (h6,j,k,l,m,n,o)=>k0 (U,V,W,X,Y,Z,u,a0,v,a1,L,c,j,k,l,m,n,o)) (fun (h6,j,k,l,m,n,o)=>k0 (U,V,W,X,Y,Z,u,a0,v,a1,L,c,j,k,l,m,n,o))) else (d2 (384) (1) h0 h1 h2 h3 h4 h5 (fun (h6,j,k,l,m,n,o)=>bif decide (0≤a∧a < (↑c.length:Int)) then (b (192) (i64.wrap (g - (c.getD a.toNat (0,0,[])).fst)) U V W X Y Z u a0 v a1 L c j k l m n o (fun (w,x,y,z,A,B,C,D,E,p,t,M,N,O,P,Q,R,S)=>(b (240) (i64.wrap (h - (c.getD a.toNat (0,0,[])).snd.fst)) w x y z A B C D E p t M N O P Q R S (fun (a2,a3,a4,a5,a6,h7,h8,h9,j0,j1,d7,d8,d9,e0,e1,e2,e3,e4)=>(b (288) e a2 a3 a4 a5 a6 h7 h8 h9 j0 j1 d7 d8 d9 e0 e1 e2 e3 e4 (fun (c9,a7,a8,a9,b0,b1,b2,j2,j3,j4,e5,e6,e7,e8,e9,g0,g1,g2)=>(b (336) f c9 a7 a8 a9 b0 b1 b2 j2 j3 j4 e5 e6 e7 e8 e9 g0 g1 g2 (fun (b3,b4,b5,b6,b7,b8,b9,c0,c1,q,T,g3,g4,g5,g6,g7,g8,g9)=>(d4 b3 b4 b5 b6 b7 b8 b9 c0 c1 q T e f (fun (j5,j6,j7,j8,j9)=>(d3 q j5 j6 j7 j8 j9 g h c8 ((c.getD a.toNat (0,0,[])).fst) ((c.getD a.toNat (0,0,[])).snd.fst) ((c.getD a.toNat (0,0,[])).snd.snd) g4 g5 g6 g7 g8 g9 (fun (t8,k1,k2,k3,k4,k5,k6)=>k0 (b3,b4,b5,b6,b7,b8,b9,c0,c1,q,T,g3,k1,k2,k3,k4,k5,k6))))))))))))) else none) (fun (h6,j,k,l,m,n,o)=>bif decide (0≤a∧a < (↑c.length:Int)) then (b (192) (i64.wrap (g - (c.getD a.toNat (0,0,[])).fst)) U V W X Y Z u a0 v a1 L c j k l m n o (fun (w,x,y,z,A,B,C,D,E,p,t,M,N,O,P,Q,R,S)=>(b (240) (i64.wrap (h - (c.getD a.toNat (0,0,[])).snd.fst)) w x y z A B C D E p t M N O P Q R S (fun (a2,a3,a4,a5,a6,h7,h8,h9,j0,j1,d7,d8,d9,e0,e1,e2,e3,e4)=>(b (288) e a2 a3 a4 a5 a6 h7 h8 h9 j0 j1 d7 d8 d9 e0 e1 e2 e3 e4 (fun (c9,a7,a8,a9,b0,b1,b2,j2,j3,j4,e5,e6,e7,e8,e9,g0,g1,g2)=>(b (336) f c9 a7 a8 a9 b0 b1 b2 j2 j3 j4 e5 e6 e7 e8 e9 g0 g1 g2 (fun (b3,b4,b5,b6,b7,b8,b9,c0,c1,q,T,g3,g4,g5,g6,g7,g8,g9)=>(d4 b3 b4 b5 b6 b7 b8 b9 c0 c1 q T e f (fun (j5,j6,j7,j8,j9)=>(d3 q j5 j6 j7 j8 j9 g h c8 ((c.getD a.toNat (0,0,[])).fst) ((c.getD a.toNat (0,0,[])).snd.fst) ((c.getD a.toNat (0,0,[])).snd.snd) g4 g5 g6 g7 g8 g9 (fun (t8,k1,k2,k3,k4,k5,k6)=>k0 (b3,b4,b5,b6,b7,b8,b9,c0,c1,q,T,g3,k1,k2,k3,k4,k5,k6))))))))))))) else none)))))))))) ((D3 r c2 c3 c4 c5 c6 K c7 a D4 l6 l4 e f g h c8 (fun E4=>(b (144) (i64.wrap (l6 - i64.wrap (E4*r))) r c2 c3 c4 c5 c6 K c7 d1 d5 d6 d n1 n2 n3 n4 n5 n6 (fun (d0,F,G,H,I,J,s,m8,l5,m9,l8,i,D7,D8,D9,E0,E1,E2)=>(n0 (385) l5 a D7 D8 D9 E0 E1 E2 (fun (E5,t9,v0,v1,v2,v3,v4)=>bif !s then k0 (d0,F,G,H,I,J,s,m8,l5,m9,l8,i,t9,v0,v1,v2,v3,v4) else bif !l4 then (d2 (384) (0) t9 v0 v1 v2 v3 v4 (fun (v5,k7,k8,k9,l0,l1,l2)=>k0 (d0,F,G,H,I,J,s,m8,l5,m9,l8,i,k7,k8,k9,l0,l1,l2)) (fun (v5,k7,k8,k9,l0,l1,l2)=>k0 (d0,F,G,H,I,J,s,m8,l5,m9,l8,i,k7,k8,k9,l0,l1,l2))) else (d2 (384) (1) t9 v0 v1 v2 v3 v4 (fun (v5,k7,k8,k9,l0,l1,l2)=>bif decide (0≤a∧a < (↑i.length:Int)) then (b (192) (i64.wrap (g - (i.getD a.toNat (0,0,[])).fst)) d0 F G H I J s m8 l5 m9 l8 i k7 k8 k9 l0 l1 l2 (fun (v6,v7,v8,v9,w0,w1,w2,w3,w4,w5,o3,o4,o5,o6,o7,o8,o9,p0)=>(b (240) (i64.wrap (h - (i.getD a.toNat (0,0,[])).snd.fst)) v6 v7 v8 v9 w0 w1 w2 w3 w4 w5 o3 o4 o5 o6 o7 o8 o9 p0 (fun (w6,w7,w8,w9,x0,x1,x2,x3,x4,x5,p1,p2,p3,p4,p5,p6,p7,p8)=>(b (288) e w6 w7 w8 w9 x0 x1 x2 x3 x4 x5 p1 p2 p3 p4 p5 p6 p7 p8 (fun (x6,x7,x8,x9,y0,y1,y2,y3,y4,y5,p9,q0,q1,q2,q3,q4,q5,q6)=>(b (336) f x6 x7 x8 x9 y0 y1 y2 y3 y4 y5 p9 q0 q1 q2 q3 q4 q5 q6 (fun (l9,m0,m1,m2,m3,m4,m5,m6,m7,l3,l7,q7,q8,q9,r0,r1,r2,r3)=>(d4 l9 m0 m1 m2 m3 m4 m5 m6 m7 l3 l7 e f (fun (y6,y7,y8,y9,z0)=>(d3 l3 y6 y7 y8 y9 z0 g h c8 ((i.getD a.toNat (0,0,[])).fst) ((i.getD a.toNat (0,0,[])).snd.fst) ((i.getD a.toNat (0,0,[])).snd.snd) q8 q9 r0 r1 r2 r3 (fun (E3,z1,z2,z3,z4,z5,z6)=>k0 (l9,m0,m1,m2,m3,m4,m5,m6,m7,l3,l7,q7,z1,z2,z3,z4,z5,z6))))))))))))) else none) (fun (v5,k7,k8,k9,l0,l1,l2)=>bif decide (0≤a∧a < (↑i.length:Int)) then (b (192) (i64.wrap (g - (i.getD a.toNat (0,0,[])).fst)) d0 F G H I J s m8 l5 m9 l8 i k7 k8 k9 l0 l1 l2 (fun (v6,v7,v8,v9,w0,w1,w2,w3,w4,w5,o3,o4,o5,o6,o7,o8,o9,p0)=>(b (240) (i64.wrap (h - (i.getD a.toNat (0,0,[])).snd.fst)) v6 v7 v8 v9 w0 w1 w2 w3 w4 w5 o3 o4 o5 o6 o7 o8 o9 p0 (fun (w6,w7,w8,w9,x0,x1,x2,x3,x4,x5,p1,p2,p3,p4,p5,p6,p7,p8)=>(b (288) e w6 w7 w8 w9 x0 x1 x2 x3 x4 x5 p1 p2 p3 p4 p5 p6 p7 p8 (fun (x6,x7,x8,x9,y0,y1,y2,y3,y4,y5,p9,q0,q1,q2,q3,q4,q5,q6)=>(b (336) f x6 x7 x8 x9 y0 y1 y2 y3 y4 y5 p9 q0 q1 q2 q3 q4 q5 q6 (fun (l9,m0,m1,m2,m3,m4,m5,m6,m7,l3,l7,q7,q8,q9,r0,r1,r2,r3)=>(d4 l9 m0 m1 m2 m3 m4 m5 m6 m7 l3 l7 e f (fun (y6,y7,y8,y9,z0)=>(d3 l3 y6 y7 y8 y9 z0 g h c8 ((i.getD a.toNat (0,0,[])).fst) ((i.getD a.toNat (0,0,[])).snd.fst) ((i.getD a.toNat (0,0,[])).snd.snd) q8 q9 r0 r1 r2 r3 (fun (E3,z1,z2,z3,z4,z5,z6)=>k0 (l9,m0,m1,m2,m3,m4,m5,m6,m7,l3,l7,q7,z1,z2,z3,z4,z5,z6))))))))))))) else none))))))))) else (n0 (385) d1 a n1 n2 n3 n4 n5 n6 (fun (E6,C7,C8,C9,D0,D1,D2)=>bif !K then k0 (r,c2,c3,c4,c5,c6,K,c7,d1,d5,d6,d,C7,C8,C9,D0,D1,D2) else bif !l4 then (d2 (384) (0) C7 C8 C9 D0 D1 D2 (fun (d0,F,G,H,I,J,s)=>k0 (r,c2,c3,c4,c5,c6,K,c7,d1,d5,d6,d,F,G,H,I,J,s)) (fun (d0,F,G,H,I,J,s)=>k0 (r,c2,c3,c4,c5,c6,K,c7,d1,d5,d6,d,F,G,H,I,J,s))) else (d2 (384) (1) C7 C8 C9 D0 D1 D2 (fun (d0,F,G,H,I,J,s)=>bif decide (0≤a∧a < (↑d.length:Int)) then (b (192) (i64.wrap (g - (d.getD a.toNat (0,0,[])).fst)) r c2 c3 c4 c5 c6 K c7 d1 d5 d6 d F G H I J s (fun (z7,z8,z9,A0,A1,A2,A3,A4,A5,A6,r4,r5,r6,r7,r8,r9,s0,s1)=>(b (240) (i64.wrap (h - (d.getD a.toNat (0,0,[])).snd.fst)) z7 z8 z9 A0 A1 A2 A3 A4 A5 A6 r4 r5 r6 r7 r8 r9 s0 s1 (fun (A7,A8,A9,B0,B1,B2,B3,B4,B5,B6,s2,s3,s4,s5,s6,s7,s8,s9)=>(b (288) e A7 A8 A9 B0 B1 B2 B3 B4 B5 B6 s2 s3 s4 s5 s6 s7 s8 s9 (fun (B7,B8,B9,C0,C1,C2,C3,C4,C5,C6,t0,t1,t2,t3,t4,t5,t6,t7)=>(b (336) f B7 B8 B9 C0 C1 C2 C3 C4 C5 C6 t0 t1 t2 t3 t4 t5 t6 t7 (fun (w,x,y,z,A,B,C,D,E,p,t,M,N,O,P,Q,R,S)=>(d4 w x y z A B C D E p t e f (fun (a2,a3,a4,a5,a6)=>(d3 p a2 a3 a4 a5 a6 g h c8 ((d.getD a.toNat (0,0,[])).fst) ((d.getD a.toNat (0,0,[])).snd.fst) ((d.getD a.toNat (0,0,[])).snd.snd) N O P Q R S (fun (c9,a7,a8,a9,b0,b1,b2)=>k0 (w,x,y,z,A,B,C,D,E,p,t,M,a7,a8,a9,b0,b1,b2))))))))))))) else none) (fun (d0,F,G,H,I,J,s)=>bif decide (0≤a∧a < (↑d.length:Int)) then (b (192) (i64.wrap (g - (d.getD a.toNat (0,0,[])).fst)) r c2 c3 c4 c5 c6 K c7 d1 d5 d6 d F G H I J s (fun (z7,z8,z9,A0,A1,A2,A3,A4,A5,A6,r4,r5,r6,r7,r8,r9,s0,s1)=>(b (240) (i64.wrap (h - (d.getD a.toNat (0,0,[])).snd.fst)) z7 z8 z9 A0 A1 A2 A3 A4 A5 A6 r4 r5 r6 r7 r8 r9 s0 s1 (fun (A7,A8,A9,B0,B1,B2,B3,B4,B5,B6,s2,s3,s4,s5,s6,s7,s8,s9)=>(b (288) e A7 A8 A9 B0 B1 B2 B3 B4 B5 B6 s2 s3 s4 s5 s6 s7 s8 s9 (fun (B7,B8,B9,C0,C1,C2,C3,C4,C5,C6,t0,t1,t2,t3,t4,t5,t6,t7)=>(b (336) f B7 B8 B9 C0 C1 C2 C3 C4 C5 C6 t0 t1 t2 t3 t4 t5 t6 t7 (fun (w,x,y,z,A,B,C,D,E,p,t,M,N,O,P,Q,R,S)=>(d4 w x y z A B C D E p t e f (fun (a2,a3,a4,a5,a6)=>(d3 p a2 a3 a4 a5 a6 g h c8 ((d.getD a.toNat (0,0,[])).fst) ((d.getD a.toNat (0,0,[])).snd.fst) ((d.getD a.toNat (0,0,[])).snd.snd) N O P Q R S (fun (c9,a7,a8,a9,b0,b1,b2)=>k0 (w,x,y,z,A,B,C,D,E,p,t,M,a7,a8,a9,b0,b1,b2))))))))))))) else none))))
abbrev YF80_1a8:Type:=Int→Int→Int→Bool→Int→Int→Int→Int→LI→Int→Int→Bool→Int→Int→Int→Bool→Int→Int→Int→Int→((List (Int×(Int×LI))))→Int→Int→Int→Bool→LI→LI→((Int×Int×Bool×Int×Int×Int×Bool×Int×Int×Int×Int×(List (Int×(Int×LI)))×Int×Int×Int×Bool×LI×LI)→Option Ans)→Option Ans
def F_text_writer_item_1a8 (fuel:Nat):YF80_1a8:=Fg_text_writer_item_1a8 fuel (F_text_strip fuel) (F_text_writer_put_9ea fuel) (F_coder_Encoder_Put_cf0 fuel) (F_number_PutId_b82 fuel) (F_refine_Put_d0e fuel) (F_text_layout_options fuel)
theorem F80_1a8_eqg (fuel:Nat) (g:YF76) (e:YF79_9ea) (a:YF121_cf0) (b:YF166_b82) (d:YF167_d0e) (f:YF168) (A B C:Int) (D:Bool) (E F:Int) (G H:Int) (I:LI) (J h:Int) (i:Bool) (j l m:Int) (n:Bool) (o p:Int) (q s:Int) (t:(List (Int×(Int×LI)))) (u v w:Int) (x:Bool) (y z:LI) (k:Ev.Cont):evalFn tab (Gg80_1a8 g e a b d f) J0 kp80_1a8 fuel Tryz.f80 [.c (.ptr 0 0),.agg [i6 A,i6 B,i6 C,.bool D,i6 E,i6 F,i6 G,i6 H,.sl (.int .u8) I]] [.cells 119 [i6 J,i6 h,.bool i,i6 j,i6 l,i6 m,.bool n,i6 o,i6 p,i6 q,i6 s,.ptr 1 0,.sl (.pair (.int .i64) (.pair (.int .i64) (.sl (.int .u8)))) t],.cells 173 (i6 u::.own 2::ctb (.int .u64 v::.int .u64 w::.own 3::.bool x::[])),.vec 3 (.int .i64) y false,.vec 5 (.int .u8) z false] k=Fg_text_writer_item_1a8 fuel g e a b d f A B C D E F G H I J h i j l m n o p q s t u v w x y z (fun r=>match r with | (S,T,U,V,W,X,Y,Z,a0,a1,K,L,M,N,O,P,Q,R)=>k (.tup [],[.cells 119 [i6 S,i6 T,.bool U,i6 V,i6 W,i6 X,.bool Y,i6 Z,i6 a0,i6 a1,i6 K,.ptr 1 0,.sl (.pair (.int .i64) (.pair (.int .i64) (.sl (.int .u8)))) L],.cells 173 (i6 M::.own 2::ctb (.int .u64 N::.int .u64 O::.own 3::.bool P::[])),.vec 3 (.int .i64) Q false,.vec 5 (.int .u8) R true])):=by
  kernel_rfl
theorem hG80_1a8 (fuel:Nat):GOK Tryz.prog (G80_1a8 fuel):=
  gc (ok76 fuel) Tryz.func76 (by kernel_rfl) rfl <|
  gc (ok79_9ea fuel) Tryz.func79 (by kernel_rfl) rfl <|
  gc (ok121_cf0 fuel) Tryz.func121 (by kernel_rfl) rfl <|
  gc (ok166_b82 fuel) Tryz.func166 (by kernel_rfl) rfl <|
  gc (ok167_d0e fuel) Tryz.func167 (by kernel_rfl) rfl <|
  gc (ok168 fuel) Tryz.func168 (by kernel_rfl) rfl <|
  gok_nil
def spg80_1a8 (F:YF80_1a8):Ev.Spec:=fun args objs k=>match args,objs with | [.c (.ptr D E),.agg [i6 G,i6 H,i6 I,.bool J,i6 K,i6 L,i6 M,i6 N,.sl (.int .u8) O]],[.cells P [i6 Q,i6 a,.bool b,i6 d,i6 e,i6 f,.bool g,i6 h,i6 i,i6 j,i6 l,.ptr R S,.sl (.pair (.int .i64) (.pair (.int .i64) (.sl (.int .u8)))) m],.cells T n,.vec U (.int .i64) o false,.vec V (.int .u8) p false]=>(match splitRun 2 ctn n with | some ([i6 q,.own W],[.int .u64 s,.int .u64 t,.own X,.bool u])=>bif qb [D,E,P,R,S,T,U,V,W,X] [0,0,119,1,0,173,3,5,2,3] then F G H I J K L M N O Q a b d e f g h i j l m q s t u o p (fun r=>match r with | (Y,Z,a0,a1,a2,a3,a4,a5,a6,a7,v,w,x,y,z,A,B,C)=>k (.tup [],[.cells 119 [i6 Y,i6 Z,.bool a0,i6 a1,i6 a2,i6 a3,.bool a4,i6 a5,i6 a6,i6 a7,i6 v,.ptr 1 0,.sl (.pair (.int .i64) (.pair (.int .i64) (.sl (.int .u8)))) w],.cells 173 (i6 x::.own 2::ctb (.int .u64 y::.int .u64 z::.own 3::.bool A::[])),.vec 3 (.int .i64) B false,.vec 5 (.int .u8) C true])) else none | _=>none) | _,_=>none
theorem ok80_1a8 (fuel:Nat):FnOK Tryz.prog 80 (spg80_1a8 (F_text_writer_item_1a8 fuel)):=by
  intro args objs kk r h
  unfold spg80_1a8 at h
  split at h
  · skip
    split at h
    rotate_left 1
    · cases h
    rename_i hsp
    have esp:=splitRun_eq hsp
    subst esp
    obtain ⟨hb,h⟩:=cond_some' h
    cases qb_eq hb
    exact fo0 (hG80_1a8 fuel) Tryz.func80 rfl (by kernel_rfl) _ _ kk r ((F80_1a8_eqg fuel (F_text_strip fuel) (F_text_writer_put_9ea fuel) (F_coder_Encoder_Put_cf0 fuel) (F_number_PutId_b82 fuel) (F_refine_Put_d0e fuel) (F_text_layout_options fuel) _ _ _ _ _ _ _ _ _ _ _ _ _ _ _ _ _ _ _ _ _ _ _ _ _ _ _ kk).trans h)
  · cases h
def kp23 (i:Nat):Option (List Nat):=Ev.look i [(12,[2,3,13,15,16,17]),(19,[2,3,13,15,16,17,18,19,20]),(100000,[13]),(100002,[2,3,13,15,16,17]),(200013,[2,3]),(200016,[2]),(200019,[3]),(200022,[2,3]),(400000,[6,7]),(400002,[6,7])]
def Gg23 (g:YF48) (h:YF49) (a:YF52_a20) (i:YF73) (b:YF74_040) (j:YF76) (k:YF77) (l:YF78) (c:YF79_9ea) (d:YF80_1a8) (e:YF81_856) (f:Nat):Option Ev.Spec:=Ev.look f [(48,spg48 g),(49,spg49 h),(52,spg52_a20 a),(73,spg73 i),(74,spg74_040 b),(76,spg76 j),(77,spg77 k),(78,spg78 l),(79,spg79_9ea c),(80,spg80_1a8 d),(81,spg81_856 e)]
def G23 (fuel:Nat):Nat→Option Ev.Spec:=Gg23 (F_coder_New fuel) (F_coder_NewEncoder fuel) (F_coder_Encoder_End_a20 fuel) (F_text_begun fuel) (F_slices_IsSortedFunc_api_Item_api_Item_040 fuel) (F_text_strip fuel) (F_text_right fuel) (F_text_lay fuel) (F_text_writer_put_9ea fuel) (F_text_writer_item_1a8 fuel) (F_number_Put_856 fuel)
abbrev V_text_Encode_2:Type:=(List (Int×(Int×(Int×(Bool×(Int×(Int×(Int×(Int×LI)))))))))×Int×Int×Int×Int×Int×Int×Int×Bool×Int×Int×Int×Bool×Int×Int×Int×Int×Bool×Int×Int×Bool×Int×Int×Int×Bool×Int×Int×Int×Int×(List (Int×(Int×LI)))×LI×LI
abbrev W_text_Encode_2:Type:=((List (Int×(Int×(Int×(Bool×(Int×(Int×(Int×(Int×LI)))))))))×Int×Int×Int×Int×Bool×Int×Int×Int×Bool×Int×Int×Int×Int×Bool×Int×Int×Bool×Int×Int×Int×Bool×Int×Int×Int×Int×(List (Int×(Int×LI)))×LI×LI→OA)
def Sg_text_Encode_2 (fuel:Nat) (e4:YF48) (e5:YF49) (e1:YF52_a20) (e6:YF73) (e2:YF74_040) (d8:YF76) (e7:YF77) (e8:YF78) (J:YF79_9ea) (I:YF80_1a8) (e3:YF81_856) (a:(List (Int×(Int×(Int×(Bool×(Int×(Int×(Int×(Int×LI)))))))))) (E F:Int) (G d9:Int) (H i j:Int) (k:Bool) (d e f:Int) (g:Bool) (h l:Int) (m n:Int) (o:Bool) (p q:Int) (r:Bool) (s t u:Int) (v:Bool) (w x:Int) (y z:Int) (A:(List (Int×(Int×LI)))) (C D:LI) (c:V_text_Encode_2→OA) (B:W_text_Encode_2):OA:=match B with | b=>bif decide ((↑a.length:Int) > 0) then bif decide ((0:Int)≤(0:Int)∧(0:Int) < (↑a.length:Int)) then (d8 i j k d e f g h ((a.getD (Int.toNat 0) (0,0,0,false,0,0,0,0,[])).fst) ((a.getD (Int.toNat 0) (0,0,0,false,0,0,0,0,[])).snd.fst) ((a.getD (Int.toNat 0) (0,0,0,false,0,0,0,0,[])).snd.snd.fst) ((a.getD (Int.toNat 0) (0,0,0,false,0,0,0,0,[])).snd.snd.snd.fst) ((a.getD (Int.toNat 0) (0,0,0,false,0,0,0,0,[])).snd.snd.snd.snd.fst) ((a.getD (Int.toNat 0) (0,0,0,false,0,0,0,0,[])).snd.snd.snd.snd.snd.fst) ((a.getD (Int.toNat 0) (0,0,0,false,0,0,0,0,[])).snd.snd.snd.snd.snd.snd.fst) ((a.getD (Int.toNat 0) (0,0,0,false,0,0,0,0,[])).snd.snd.snd.snd.snd.snd.snd.fst) ((a.getD (Int.toNat 0) (0,0,0,false,0,0,0,0,[])).snd.snd.snd.snd.snd.snd.snd.snd) (fun e0=>bif e0==G then bif decide (H > 0) then bif decide ((0:Int)≤(0:Int)∧(0:Int) < (↑a.length:Int)) then (J (96) (i64.wrap (i64.wrap ((a.getD (Int.toNat 0) (0,0,0,false,0,0,0,0,[])).snd.fst - d9) - d)) p q r s t u v w x y z A l m n o C D (fun (a8,a9,b0,b1,b2,b3,b4,b5,b6,b7,K,L,M,N,O,P,Q,R)=>bif decide ((0:Int)≤(0:Int)∧(0:Int) < (↑a.length:Int)) then bif decide ((0:Int)≤(0:Int)∧(0:Int) < (↑a.length:Int)) then (I ((a.getD (Int.toNat 0) (0,0,0,false,0,0,0,0,[])).fst) ((a.getD (Int.toNat 0) (0,0,0,false,0,0,0,0,[])).snd.fst) ((a.getD (Int.toNat 0) (0,0,0,false,0,0,0,0,[])).snd.snd.fst) ((a.getD (Int.toNat 0) (0,0,0,false,0,0,0,0,[])).snd.snd.snd.fst) ((a.getD (Int.toNat 0) (0,0,0,false,0,0,0,0,[])).snd.snd.snd.snd.fst) ((a.getD (Int.toNat 0) (0,0,0,false,0,0,0,0,[])).snd.snd.snd.snd.snd.fst) ((a.getD (Int.toNat 0) (0,0,0,false,0,0,0,0,[])).snd.snd.snd.snd.snd.snd.fst) ((a.getD (Int.toNat 0) (0,0,0,false,0,0,0,0,[])).snd.snd.snd.snd.snd.snd.snd.fst) ((a.getD (Int.toNat 0) (0,0,0,false,0,0,0,0,[])).snd.snd.snd.snd.snd.snd.snd.snd) a8 a9 b0 b1 b2 b3 b4 b5 b6 b7 K L M N O P Q R (fun (b8,b9,c0,c1,c2,c3,c4,c5,c6,c7,S,T,U,V,W,X,Y,Z)=>bif decide (0≤Ev.loOf (some 1)∧Ev.loOf (some 1)≤Ev.hiOf Option.none (↑a.length:Int)∧Ev.hiOf Option.none (↑a.length:Int)≤(↑a.length:Int)) then c (List.take (Ev.hiOf Option.none (↑a.length:Int) - Ev.loOf (some 1)).toNat (List.drop (Ev.loOf (some 1)).toNat a),E,F,G,(a.getD (Int.toNat 0) (0,0,0,false,0,0,0,0,[])).snd.fst,i64.wrap (H+1),i,j,k,d,e,f,g,h,U,V,W,X,b8,b9,c0,c1,c2,c3,c4,c5,c6,c7,S,T,Y,Z) else none)) else none else none)) else none else bif decide ((0:Int)≤(0:Int)∧(0:Int) < (↑a.length:Int)) then bif decide ((0:Int)≤(0:Int)∧(0:Int) < (↑a.length:Int)) then (I ((a.getD (Int.toNat 0) (0,0,0,false,0,0,0,0,[])).fst) ((a.getD (Int.toNat 0) (0,0,0,false,0,0,0,0,[])).snd.fst) ((a.getD (Int.toNat 0) (0,0,0,false,0,0,0,0,[])).snd.snd.fst) ((a.getD (Int.toNat 0) (0,0,0,false,0,0,0,0,[])).snd.snd.snd.fst) ((a.getD (Int.toNat 0) (0,0,0,false,0,0,0,0,[])).snd.snd.snd.snd.fst) ((a.getD (Int.toNat 0) (0,0,0,false,0,0,0,0,[])).snd.snd.snd.snd.snd.fst) ((a.getD (Int.toNat 0) (0,0,0,false,0,0,0,0,[])).snd.snd.snd.snd.snd.snd.fst) ((a.getD (Int.toNat 0) (0,0,0,false,0,0,0,0,[])).snd.snd.snd.snd.snd.snd.snd.fst) ((a.getD (Int.toNat 0) (0,0,0,false,0,0,0,0,[])).snd.snd.snd.snd.snd.snd.snd.snd) p q r s t u v w x y z A l m n o C D (fun (c8,c9,d0,d1,d2,d3,d4,d5,d6,d7,a0,a1,a2,a3,a4,a5,a6,a7)=>bif decide (0≤Ev.loOf (some 1)∧Ev.loOf (some 1)≤Ev.hiOf Option.none (↑a.length:Int)∧Ev.hiOf Option.none (↑a.length:Int)≤(↑a.length:Int)) then c (List.take (Ev.hiOf Option.none (↑a.length:Int) - Ev.loOf (some 1)).toNat (List.drop (Ev.loOf (some 1)).toNat a),E,F,G,(a.getD (Int.toNat 0) (0,0,0,false,0,0,0,0,[])).snd.fst,i64.wrap (H+1),i,j,k,d,e,f,g,h,a2,a3,a4,a5,c8,c9,d0,d1,d2,d3,d4,d5,d6,d7,a0,a1,a6,a7) else none)) else none else none else b (a,E,F,i,j,k,d,e,f,g,h,l,m,n,o,p,q,r,s,t,u,v,w,x,y,z,A,C,D))) else none else b (a,E,F,i,j,k,d,e,f,g,h,l,m,n,o,p,q,r,s,t,u,v,w,x,y,z,A,C,D)
def S_text_Encode_2 (fuel:Nat) (v:(List (Int×(Int×(Int×(Bool×(Int×(Int×(Int×(Int×(List Int))))))))))×Int×Int×Int×Int×Int×Int×Int×Bool×Int×Int×Int×Bool×Int×Int×Int×Int×Bool×Int×Int×Bool×Int×Int×Int×Bool×Int×Int×Int×Int×(List (Int×(Int×(List Int))))×(List Int)×(List Int)) (c:((List (Int×(Int×(Int×(Bool×(Int×(Int×(Int×(Int×(List Int))))))))))×Int×Int×Int×Int×Int×Int×Int×Bool×Int×Int×Int×Bool×Int×Int×Int×Int×Bool×Int×Int×Bool×Int×Int×Int×Bool×Int×Int×Int×Int×(List (Int×(Int×(List Int))))×(List Int)×(List Int))→Option Ans) (B:((List (Int×(Int×(Int×(Bool×(Int×(Int×(Int×(Int×(List Int))))))))))×Int×Int×Int×Int×Bool×Int×Int×Int×Bool×Int×Int×Int×Int×Bool×Int×Int×Bool×Int×Int×Int×Bool×Int×Int×Int×Int×(List (Int×(Int×(List Int))))×(List Int)×(List Int)→Option Ans)):Option Ans:=match v with | (y,z,A,C,D,E,F,G,H,I,a,b,d,e,f,g,h,i,j,k,l,m,n,o,p,q,r,s,t,u,w,x)=>Sg_text_Encode_2 fuel (F_coder_New fuel) (F_coder_NewEncoder fuel) (F_coder_Encoder_End_a20 fuel) (F_text_begun fuel) (F_slices_IsSortedFunc_api_Item_api_Item_040 fuel) (F_text_strip fuel) (F_text_right fuel) (F_text_lay fuel) (F_text_writer_put_9ea fuel) (F_text_writer_item_1a8 fuel) (F_number_Put_856 fuel) y z A C D E F G H I a b d e f g h i j k l m n o p q r s t u w x c B
def L_text_Encode_2 (fuel:Nat) (v:V_text_Encode_2) (b:W_text_Encode_2):Option Ans:=iter (S_text_Encode_2 fuel) fuel v b
def T23_2 (v:V_text_Encode_2):Ev.St:=match v with | (y,z,A,B,C,D,E,F,G,H,a,b,d,e,f,g,h,i,j,k,l,m,n,o,p,q,r,s,t,u,w,x)=>⟨[(2,.c (.sl (.pair (.int .i64) (.pair (.int .i64) (.pair (.int .i64) (.pair .bool (.pair (.int .i64) (.pair (.int .i64) (.pair (.int .i64) (.pair (.int .i64) (.sl (.int .u8)))))))))) y)),(3,.c (.ptr 0 0)),(13,.c (.ptr 1 0)),(15,.c (.ptr 2 0)),(16,.c (i6 z)),(17,.c (i6 A)),(18,.c (i6 B)),(19,.c (i6 C)),(20,.c (i6 D))],[(0,.cells 40 [i6 E,i6 F,.bool G,i6 H,i6 a,i6 b,.bool d,i6 e]),(1,.cells 173 (i6 f::.own 3::ctb (.int .u64 g::.int .u64 h::.own 4::.bool i::[]))),(2,.cells 119 [i6 j,i6 k,.bool l,i6 m,i6 n,i6 o,.bool p,i6 q,i6 r,i6 s,i6 t,.ptr 1 0,.sl (.pair (.int .i64) (.pair (.int .i64) (.sl (.int .u8)))) u]),(3,.vec 3 (.int .i64) w true),(4,.vec 5 (.int .u8) x true)],5,0⟩
def E23_2 (K:KT):W_text_Encode_2:=(fun v=>match v with | (u,w,x,y,z,A,B,C,D,E,a,b,d,e,f,g,h,i,j,k,l,m,n,o,p,q,r,s,t)=>K .normal ⟨[(2,.c (.sl (.pair (.int .i64) (.pair (.int .i64) (.pair (.int .i64) (.pair .bool (.pair (.int .i64) (.pair (.int .i64) (.pair (.int .i64) (.pair (.int .i64) (.sl (.int .u8)))))))))) u)),(3,.c (.ptr 0 0)),(13,.c (.ptr 1 0)),(15,.c (.ptr 2 0)),(16,.c (i6 w)),(17,.c (i6 x))],[(0,.cells 40 [i6 y,i6 z,.bool A,i6 B,i6 C,i6 D,.bool E,i6 a]),(1,.cells 173 (i6 b::.own 3::ctb (.int .u64 d::.int .u64 e::.own 4::.bool f::[]))),(2,.cells 119 [i6 g,i6 h,.bool i,i6 j,i6 k,i6 l,.bool m,i6 n,i6 o,i6 p,i6 q,.ptr 1 0,.sl (.pair (.int .i64) (.pair (.int .i64) (.sl (.int .u8)))) r]),(3,.vec 3 (.int .i64) s true),(4,.vec 5 (.int .u8) t true)],5,0⟩)
theorem S23_2_okg (fuel:Nat) (f:YF48) (g:YF49) (a:YF52_a20) (h:YF73) (b:YF74_040) (i:YF76) (j:YF77) (k:YF78) (c:YF79_9ea) (d:YF80_1a8) (e:YF81_856) (R:Ev.St→OA) (K:KT) (I:(List (Int×(Int×(Int×(Bool×(Int×(Int×(Int×(Int×LI)))))))))) (J L:Int) (M N:Int) (O P Q:Int) (S:Bool) (T l m:Int) (n:Bool) (o p:Int) (q r:Int) (s:Bool) (t u:Int) (w:Bool) (x y z:Int) (A:Bool) (B C:Int) (D E:Int) (F:(List (Int×(Int×LI)))) (G H:LI):evalCode tab (Gg23 f g a h b i j k c d e) J0 kp23 fuel (bodyOf 2 Tryz.f23) (T23_2 (I,J,L,M,N,O,P,Q,S,T,l,m,n,o,p,q,r,s,t,u,w,x,y,z,A,B,C,D,E,F,G,H)) (lc kp23 19 2 R K)=Sg_text_Encode_2 fuel f g a h b i j k c d e I J L M N O P Q S T l m n o p q r s t u w x y z A B C D E F G H (fun v=>R (T23_2 v)) (E23_2 K):=by
  kernel_rfl
def B23_2 (fuel:Nat):Ev.Blk:=fun st K=>match canonO (kp23 19) st with | some s=>(match s with | ⟨[(V,.c (.sl (.pair (.int .i64) (.pair (.int .i64) (.pair (.int .i64) (.pair .bool (.pair (.int .i64) (.pair (.int .i64) (.pair (.int .i64) (.pair (.int .i64) (.sl (.int .u8)))))))))) W)),(X,.c (.ptr Y Z)),(a0,.c (.ptr a1 a2)),(a3,.c (.ptr a4 a5)),(a,.c (i6 a6)),(b,.c (i6 a7)),(d,.c (i6 a8)),(e,.c (i6 a9)),(f,.c (i6 b0))],[(g,.cells h [i6 b1,i6 b2,.bool b3,i6 b4,i6 i,i6 j,.bool k,i6 l]),(m,.cells n o),(p,.cells q [i6 r,i6 t,.bool u,i6 v,i6 w,i6 x,.bool y,i6 z,i6 A,i6 B,i6 C,.ptr D E,.sl (.pair (.int .i64) (.pair (.int .i64) (.sl (.int .u8)))) F]),(G,.vec H (.int .i64) I true),(J,.vec L (.int .u8) M true)],N,O⟩=>(match splitRun 2 ctn o with | some ([i6 P,.own Q],[.int .u64 R,.int .u64 S,.own T,.bool U])=>bif qb [V,X,Y,Z,a0,a1,a2,a3,a4,a5,a,b,d,e,f,g,h,m,n,p,q,D,E,G,H,J,L,N,O,Q,T] [2,3,0,0,13,1,0,15,2,0,16,17,18,19,20,0,40,1,173,2,119,1,0,3,3,4,5,5,0,3,4] then iter (S_text_Encode_2 fuel) fuel (W,a6,a7,a8,a9,b0,b1,b2,b3,b4,i,j,k,l,P,R,S,U,r,t,u,v,w,x,y,z,A,B,C,F,I,M) (E23_2 K) else none | _=>none) | _=>none) | none=>none
theorem B23_2_ok (fuel:Nat) (st:Ev.St) (K:KT) (r:Ans) (h:B23_2 fuel st K=some r):evalCode tab (G23 fuel) J0 kp23 fuel (.block 2 (.loop (bodyOf 2 Tryz.f23))) st K=some r:=by
  unfold B23_2 at h
  split at h
  · rename_i s hs
    split at h
    · skip
      split at h
      rotate_left 1
      · cases h
      rename_i hsp
      have esp:=splitRun_eq hsp
      subst esp
      obtain ⟨hb,h⟩:=cond_some' h
      cases qb_eq hb
      exact blk_loop (S:=T23_2) (ks:=E23_2) (step:=S_text_Encode_2 fuel) (v:=(_,_,_,_,_,_,_,_,_,_,_,_,_,_,_,_,_,_,_,_,_,_,_,_,_,_,_,_,_,_,_,_)) (by kernel_rfl) (by kernel_rfl) (fun R K v=>by obtain ⟨A,B,C,D,E,F,G,H,I,J,a,b,c,d,e,f,g,i,j,k,l,m,n,o,p,q,t,u,w,x,y,z⟩:=v; exact S23_2_okg fuel (F_coder_New fuel) (F_coder_NewEncoder fuel) (F_coder_Encoder_End_a20 fuel) (F_text_begun fuel) (F_slices_IsSortedFunc_api_Item_api_Item_040 fuel) (F_text_strip fuel) (F_text_right fuel) (F_text_lay fuel) (F_text_writer_put_9ea fuel) (F_text_writer_item_1a8 fuel) (F_number_Put_856 fuel) R K A B C D E F G H I J a b c d e f g i j k l m n o p q t u w x y z) hs h
    · cases h
  · cases h
abbrev V_text_Encode_0:Type:=(List (Int×(Int×(Int×(Bool×(Int×(Int×(Int×(Int×LI)))))))))×Int×Int×Int×Int×Bool×Int×Int×Int×Bool×Int×Int×Int×Int×Bool×Int×Int×Bool×Int×Int×Int×Bool×Int×Int×Int×Int×(List (Int×(Int×LI)))×LI×LI
abbrev W_text_Encode_0:Type:=(Int×Int×Int×Bool×LI×LI→OA)
def Sg_text_Encode_0 (fuel:Nat) (g9:YF48) (h0:YF49) (g5:YF52_a20) (h1:YF73) (g6:YF74_040) (e0:YF76) (h2:YF77) (h3:YF78) (e:YF79_9ea) (g7:YF80_1a8) (t:YF81_856) (a:(List (Int×(Int×(Int×(Bool×(Int×(Int×(Int×(Int×LI)))))))))) (g3 g4:Int) (m n:Int) (o:Bool) (p q r:Int) (s:Bool) (f g:Int) (h i:Int) (j:Bool) (e1 e2:Int) (e3:Bool) (e4 e5 e6:Int) (e7:Bool) (e8 e9:Int) (g0 g1:Int) (g2:(List (Int×(Int×LI)))) (k l:LI) (c:V_text_Encode_0→OA) (B:W_text_Encode_0):OA:=match B with | b=>bif decide ((↑a.length:Int) > 0) then bif decide ((0:Int)≤(0:Int)∧(0:Int) < (↑a.length:Int)) then (e0 m n o p q r s f ((a.getD (Int.toNat 0) (0,0,0,false,0,0,0,0,[])).fst) ((a.getD (Int.toNat 0) (0,0,0,false,0,0,0,0,[])).snd.fst) ((a.getD (Int.toNat 0) (0,0,0,false,0,0,0,0,[])).snd.snd.fst) ((a.getD (Int.toNat 0) (0,0,0,false,0,0,0,0,[])).snd.snd.snd.fst) ((a.getD (Int.toNat 0) (0,0,0,false,0,0,0,0,[])).snd.snd.snd.snd.fst) ((a.getD (Int.toNat 0) (0,0,0,false,0,0,0,0,[])).snd.snd.snd.snd.snd.fst) ((a.getD (Int.toNat 0) (0,0,0,false,0,0,0,0,[])).snd.snd.snd.snd.snd.snd.fst) ((a.getD (Int.toNat 0) (0,0,0,false,0,0,0,0,[])).snd.snd.snd.snd.snd.snd.snd.fst) ((a.getD (Int.toNat 0) (0,0,0,false,0,0,0,0,[])).snd.snd.snd.snd.snd.snd.snd.snd) (fun d=>(e (0) (i64.wrap (d - g3)) e1 e2 e3 e4 e5 e6 e7 e8 e9 g0 g1 g2 g h i j k l (fun (c0,c1,c2,c3,c4,c5,c6,c7,c8,c9,D,E,F,G,H,I,J,K)=>bif decide ((0:Int)≤(0:Int)∧(0:Int) < (↑a.length:Int)) then (e (48) (i64.wrap ((a.getD (Int.toNat 0) (0,0,0,false,0,0,0,0,[])).snd.fst - g4)) c0 c1 c2 c3 c4 c5 c6 c7 c8 c9 D E F G H I J K (fun (L,M,N,O,P,Q,R,S,T,U,u,v,w,x,y,z,A,C)=>bif decide ((0:Int)≤(0:Int)∧(0:Int) < (↑a.length:Int)) then (L_text_Encode_2 fuel (a,d,(a.getD (Int.toNat 0) (0,0,0,false,0,0,0,0,[])).snd.fst,d,(a.getD (Int.toNat 0) (0,0,0,false,0,0,0,0,[])).snd.fst,0,m,n,o,p,q,r,s,f,w,x,y,z,L,M,N,O,P,Q,R,S,T,U,u,v,A,C) (fun (d0,d1,d2,d3,d4,d5,d6,d7,d8,d9,V,W,X,Y,Z,a0,a1,a2,a3,a4,a5,a6,a7,a8,a9,b0,b1,b2,b3)=>(t (96) (true) (0) W X Y Z b2 b3 (fun (g8,b4,b5,b6,b7,b8,b9)=>c (d0,d1,d2,d3,d4,d5,d6,d7,d8,d9,V,b4,b5,b6,b7,a0,a1,a2,a3,a4,a5,a6,a7,a8,a9,b0,b1,b8,b9))))) else none)) else none)))) else none else b (g,h,i,j,k,l)
def S_text_Encode_0 (fuel:Nat) (v:(List (Int×(Int×(Int×(Bool×(Int×(Int×(Int×(Int×(List Int))))))))))×Int×Int×Int×Int×Bool×Int×Int×Int×Bool×Int×Int×Int×Int×Bool×Int×Int×Bool×Int×Int×Int×Bool×Int×Int×Int×Int×(List (Int×(Int×(List Int))))×(List Int)×(List Int)) (c:((List (Int×(Int×(Int×(Bool×(Int×(Int×(Int×(Int×(List Int))))))))))×Int×Int×Int×Int×Bool×Int×Int×Int×Bool×Int×Int×Int×Int×Bool×Int×Int×Bool×Int×Int×Int×Bool×Int×Int×Int×Int×(List (Int×(Int×(List Int))))×(List Int)×(List Int))→Option Ans) (B:(Int×Int×Int×Bool×(List Int)×(List Int)→Option Ans)):Option Ans:=match v with | (u,w,x,y,z,A,C,D,E,F,a,b,d,e,f,g,h,i,j,k,l,m,n,o,p,q,r,s,t)=>Sg_text_Encode_0 fuel (F_coder_New fuel) (F_coder_NewEncoder fuel) (F_coder_Encoder_End_a20 fuel) (F_text_begun fuel) (F_slices_IsSortedFunc_api_Item_api_Item_040 fuel) (F_text_strip fuel) (F_text_right fuel) (F_text_lay fuel) (F_text_writer_put_9ea fuel) (F_text_writer_item_1a8 fuel) (F_number_Put_856 fuel) u w x y z A C D E F a b d e f g h i j k l m n o p q r s t c B
def L_text_Encode_0 (fuel:Nat) (v:V_text_Encode_0) (b:W_text_Encode_0):Option Ans:=iter (S_text_Encode_0 fuel) fuel v b
def J23_0 (fuel:Nat) (i:Nat):Option Ev.Blk:=Ev.look i [(100002,B23_2 fuel)]
def T23_0 (v:V_text_Encode_0):Ev.St:=match v with | (u,w,x,y,z,A,B,C,D,E,a,b,d,e,f,g,h,i,j,k,l,m,n,o,p,q,r,s,t)=>⟨[(2,.c (.sl (.pair (.int .i64) (.pair (.int .i64) (.pair (.int .i64) (.pair .bool (.pair (.int .i64) (.pair (.int .i64) (.pair (.int .i64) (.pair (.int .i64) (.sl (.int .u8)))))))))) u)),(3,.c (.ptr 0 0)),(13,.c (.ptr 1 0)),(15,.c (.ptr 2 0)),(16,.c (i6 w)),(17,.c (i6 x))],[(0,.cells 40 [i6 y,i6 z,.bool A,i6 B,i6 C,i6 D,.bool E,i6 a]),(1,.cells 173 (i6 b::.own 3::ctb (.int .u64 d::.int .u64 e::.own 4::.bool f::[]))),(2,.cells 119 [i6 g,i6 h,.bool i,i6 j,i6 k,i6 l,.bool m,i6 n,i6 o,i6 p,i6 q,.ptr 1 0,.sl (.pair (.int .i64) (.pair (.int .i64) (.sl (.int .u8)))) r]),(3,.vec 3 (.int .i64) s true),(4,.vec 5 (.int .u8) t true)],5,0⟩
def E23_0 (K:KT):W_text_Encode_0:=(fun v=>match v with | (a,b,d,e,f,g)=>K .normal ⟨[(13,.c (.ptr 0 0))],[(0,.cells 173 (i6 a::.own 1::ctb (.int .u64 b::.int .u64 d::.own 2::.bool e::[]))),(1,.vec 3 (.int .i64) f true),(2,.vec 5 (.int .u8) g true)],3,0⟩)
theorem S23_0_okg (fuel:Nat) (f:YF48) (g:YF49) (a:YF52_a20) (h:YF73) (b:YF74_040) (i:YF76) (j:YF77) (k:YF78) (c:YF79_9ea) (d:YF80_1a8) (e:YF81_856) (R:Ev.St→OA) (K:KT) (F:(List (Int×(Int×(Int×(Bool×(Int×(Int×(Int×(Int×LI)))))))))) (G H:Int) (I J:Int) (L:Bool) (M N O:Int) (P:Bool) (l m:Int) (n o:Int) (p:Bool) (q r:Int) (s:Bool) (t u w:Int) (x:Bool) (y z:Int) (A B:Int) (C:(List (Int×(Int×LI)))) (D E:LI):evalCode tab (Gg23 f g a h b i j k c d e) (J23_0 fuel) kp23 fuel (bodyOf 0 Tryz.f23) (T23_0 (F,G,H,I,J,L,M,N,O,P,l,m,n,o,p,q,r,s,t,u,w,x,y,z,A,B,C,D,E)) (lc kp23 12 0 R K)=Sg_text_Encode_0 fuel f g a h b i j k c d e F G H I J L M N O P l m n o p q r s t u w x y z A B C D E (fun v=>R (T23_0 v)) (E23_0 K):=by
  kernel_rfl
def B23_0 (fuel:Nat):Ev.Blk:=fun st K=>match canonO (kp23 12) st with | some s=>(match s with | ⟨[(P,.c (.sl (.pair (.int .i64) (.pair (.int .i64) (.pair (.int .i64) (.pair .bool (.pair (.int .i64) (.pair (.int .i64) (.pair (.int .i64) (.pair (.int .i64) (.sl (.int .u8)))))))))) Q)),(R,.c (.ptr S T)),(U,.c (.ptr V W)),(X,.c (.ptr Y Z)),(a,.c (i6 a0)),(b,.c (i6 a1))],[(d,.cells e [i6 a2,i6 a3,.bool a4,i6 a5,i6 a6,i6 a7,.bool a8,i6 f]),(g,.cells h i),(j,.cells k [i6 l,i6 m,.bool n,i6 o,i6 p,i6 q,.bool r,i6 t,i6 u,i6 v,i6 w,.ptr x y,.sl (.pair (.int .i64) (.pair (.int .i64) (.sl (.int .u8)))) z]),(A,.vec B (.int .i64) C true),(D,.vec E (.int .u8) F true)],G,H⟩=>(match splitRun 2 ctn i with | some ([i6 I,.own J],[.int .u64 L,.int .u64 M,.own N,.bool O])=>bif qb [P,R,S,T,U,V,W,X,Y,Z,a,b,d,e,g,h,j,k,x,y,A,B,D,E,G,H,J,N] [2,3,0,0,13,1,0,15,2,0,16,17,0,40,1,173,2,119,1,0,3,3,4,5,5,0,3,4] then iter (S_text_Encode_0 fuel) fuel (Q,a0,a1,a2,a3,a4,a5,a6,a7,a8,f,I,L,M,O,l,m,n,o,p,q,r,t,u,v,w,z,C,F) (E23_0 K) else none | _=>none) | _=>none) | none=>none
theorem B23_0_ok (fuel:Nat) (st:Ev.St) (K:KT) (r:Ans) (h:B23_0 fuel st K=some r):evalCode tab (G23 fuel) (J23_0 fuel) kp23 fuel (.block 0 (.loop (bodyOf 0 Tryz.f23))) st K=some r:=by
  unfold B23_0 at h
  split at h
  · rename_i s hs
    split at h
    · skip
      split at h
      rotate_left 1
      · cases h
      rename_i hsp
      have esp:=splitRun_eq hsp
      subst esp
      obtain ⟨hb,h⟩:=cond_some' h
      cases qb_eq hb
      exact blk_loop (S:=T23_0) (ks:=E23_0) (step:=S_text_Encode_0 fuel) (v:=(_,_,_,_,_,_,_,_,_,_,_,_,_,_,_,_,_,_,_,_,_,_,_,_,_,_,_,_,_)) (by kernel_rfl) (by kernel_rfl) (fun R K v=>by obtain ⟨x,y,z,A,B,C,D,E,F,G,a,b,c,d,e,f,g,i,j,k,l,m,n,o,p,q,t,u,w⟩:=v; exact S23_0_okg fuel (F_coder_New fuel) (F_coder_NewEncoder fuel) (F_coder_Encoder_End_a20 fuel) (F_text_begun fuel) (F_slices_IsSortedFunc_api_Item_api_Item_040 fuel) (F_text_strip fuel) (F_text_right fuel) (F_text_lay fuel) (F_text_writer_put_9ea fuel) (F_text_writer_item_1a8 fuel) (F_number_Put_856 fuel) R K x y z A B C D E F G a b c d e f g i j k l m n o p q t u w) hs h
    · cases h
  · cases h
def J23 (fuel:Nat) (i:Nat):Option Ev.Blk:=Ev.look i [(100002,B23_2 fuel),(100000,B23_0 fuel)]
def Fg_text_Encode (fuel:Nat) (W:YF48) (X:YF49) (u:YF52_a20) (Y:YF73) (v:YF74_040) (b3:YF76) (Z:YF77) (a0:YF78) (a2:YF79_9ea) (a3:YF80_1a8) (a4:YF81_856) (l m:Int) (n:Bool) (o p q:Int) (r:Bool) (s:Int) (b:(List (Int×Int×LI))) (c:(List (Int×Int×Int×Bool×Int×Int×(Int×Int×LI)))) (k0:(Int×LI)→OA):OA:=(Y l m n o p q r s b c (fun t=>bif t != 0 then k0 (t,[]) else (v c l m n o p q r s (fun (P,d,e,f,g,h,a,i,j)=>(Z d e f g h a i j ((↑b.length:Int)) c (fun a1=>bif !a1 then k0 (2,[]) else bif !P then k0 (2,[]) else (a0 d e f g h a i j ((↑b.length:Int)) (fun (w,x,y,z,A,B,C,D,E,F,k)=>(W a k (fun (G,a5,H)=>(X G H (fun b4=>none) (fun (a6,I,J,K,L,M,N)=>(L_text_Encode_0 fuel (c,0,0,d,e,f,g,h,a,i,j,I,J,K,L,w,x,y,z,A,B,C,D,E,F,k,b,M,N) (fun (Q,R,S,T,U,V)=>(u Q R S T U V (fun (a7,a8,a9,b0,b1,b2,O)=>k0 (0,O)))))))))))))))))
abbrev YF23:Type:=Int→Int→Bool→Int→Int→Int→Bool→Int→((List (Int×Int×LI)))→((List (Int×Int×Int×Bool×Int×Int×(Int×Int×LI))))→((Int×LI)→Option Ans)→Option Ans
def F_text_Encode (fuel:Nat):YF23:=Fg_text_Encode fuel (F_coder_New fuel) (F_coder_NewEncoder fuel) (F_coder_Encoder_End_a20 fuel) (F_text_begun fuel) (F_slices_IsSortedFunc_api_Item_api_Item_040 fuel) (F_text_strip fuel) (F_text_right fuel) (F_text_lay fuel) (F_text_writer_put_9ea fuel) (F_text_writer_item_1a8 fuel) (F_number_Put_856 fuel)
theorem F23_eqg (fuel:Nat) (g:YF48) (h:YF49) (a:YF52_a20) (i:YF73) (b:YF74_040) (j:YF76) (l:YF77) (m:YF78) (d:YF79_9ea) (e:YF80_1a8) (f:YF81_856) (n o:Int) (p:Bool) (q s t:Int) (u:Bool) (v:Int) (w:(List (Int×Int×LI))) (x:(List (Int×Int×Int×Bool×Int×Int×(Int×Int×LI)))) (k:Ev.Cont):evalFn tab (Gg23 g h a i b j l m d e f) (J23 fuel) kp23 fuel Tryz.f23 [.agg [i6 n,i6 o,.bool p,i6 q,i6 s,i6 t,.bool u,i6 v],.c (.sl (.pair (.int .i64) (.pair (.int .i64) (.sl (.int .u8)))) w),.c (.sl (.pair (.int .i64) (.pair (.int .i64) (.pair (.int .i64) (.pair .bool (.pair (.int .i64) (.pair (.int .i64) (.pair (.int .i64) (.pair (.int .i64) (.sl (.int .u8)))))))))) x)] [] k=Fg_text_Encode fuel g h a i b j l m d e f n o p q s t u v w x (fun r=>match r with | (y,z)=>k (.tup [(false,[.own 0]),(false,[i6 y])],[.vec 5 (.int .u8) z true])):=by
  kernel_rfl
theorem hG23 (fuel:Nat):GOK Tryz.prog (G23 fuel):=
  gc (ok48 fuel) Tryz.func48 (by kernel_rfl) rfl <|
  gc (ok49 fuel) Tryz.func49 (by kernel_rfl) rfl <|
  gc (ok52_a20 fuel) Tryz.func52 (by kernel_rfl) rfl <|
  gc (ok73 fuel) Tryz.func73 (by kernel_rfl) rfl <|
  gc (ok74_040 fuel) Tryz.func74 (by kernel_rfl) rfl <|
  gc (ok76 fuel) Tryz.func76 (by kernel_rfl) rfl <|
  gc (ok77 fuel) Tryz.func77 (by kernel_rfl) rfl <|
  gc (ok78 fuel) Tryz.func78 (by kernel_rfl) rfl <|
  gc (ok79_9ea fuel) Tryz.func79 (by kernel_rfl) rfl <|
  gc (ok80_1a8 fuel) Tryz.func80 (by kernel_rfl) rfl <|
  gc (ok81_856 fuel) Tryz.func81 (by kernel_rfl) rfl <|
  gok_nil
theorem B23_2_blk (fuel:Nat):BlkOK Tryz.prog Tryz.f23.ntmps (.block 2 (.loop (bodyOf 2 Tryz.f23))) (B23_2 fuel):=bo0 (hG23 fuel) (by kernel_rfl) (by kernel_rfl) (B23_2_ok fuel)
theorem B23_0_blk (fuel:Nat):BlkOK Tryz.prog Tryz.f23.ntmps (.block 0 (.loop (bodyOf 0 Tryz.f23))) (B23_0 fuel):=
  blk_of (blk_of_code tab_ok (hG23 fuel) mixed (J:=J23_0 fuel) (kp:=kp23) (fuel:=fuel) (by kernel_rfl) (fun q hq=>by
    rw [(by kernel_rfl:obl (J23_0 fuel) (.block 0 (.loop (bodyOf 0 Tryz.f23)))= [(.block 2 (.loop (bodyOf 2 Tryz.f23)),B23_2 fuel)])] at hq
    simp only [List.mem_cons,List.not_mem_nil,or_false] at hq
    subst hq
    · exact B23_2_blk fuel)) (B23_0_ok fuel)
def spg23 (F:YF23):Ev.Spec:=fun args objs k=>match args,objs with | [.agg [i6 a,i6 b,.bool d,i6 e,i6 f,i6 g,.bool h,i6 i],.c (.sl (.pair (.int .i64) (.pair (.int .i64) (.sl (.int .u8)))) j),.c (.sl (.pair (.int .i64) (.pair (.int .i64) (.pair (.int .i64) (.pair .bool (.pair (.int .i64) (.pair (.int .i64) (.pair (.int .i64) (.pair (.int .i64) (.sl (.int .u8)))))))))) l)],[]=>F a b d e f g h i j l (fun r=>match r with | (m,n)=>k (.tup [(false,[.own 0]),(false,[i6 m])],[.vec 5 (.int .u8) n true])) | _,_=>none
theorem ok23 (fuel:Nat):FnOK Tryz.prog 23 (spg23 (F_text_Encode fuel)):=by
  intro args objs kk r h
  unfold spg23 at h
  split at h
  · skip
    exact fo1 (hG23 fuel) Tryz.func23 rfl (B23_0_blk fuel) (by kernel_rfl) _ _ kk r ((F23_eqg fuel (F_coder_New fuel) (F_coder_NewEncoder fuel) (F_coder_Encoder_End_a20 fuel) (F_text_begun fuel) (F_slices_IsSortedFunc_api_Item_api_Item_040 fuel) (F_text_strip fuel) (F_text_right fuel) (F_text_lay fuel) (F_text_writer_put_9ea fuel) (F_text_writer_item_1a8 fuel) (F_number_Put_856 fuel) _ _ _ _ _ _ _ _ _ _ kk).trans h)
  · cases h
def kp5 (i:Nat):Option (List Nat):=Ev.look i []
def Gg5 (a:YF21) (b:YF22) (c:YF23) (d:YF24) (e:YF25) (f:Nat):Option Ev.Spec:=Ev.look f [(21,spg21 a),(22,spg22 b),(23,spg23 c),(24,spg24 d),(25,spg25 e)]
def G5 (fuel:Nat):Nat→Option Ev.Spec:=Gg5 (F_law10_long fuel) (F_law10_Awake fuel) (F_text_Encode fuel) (F_ref10_Encode fuel) (F_ref02_SameBytes fuel)
def Fg_law10_TextEncodes (fuel:Nat) (p:YF21) (c:YF22) (q:YF23) (r:YF24) (s:YF25) (d e:Int) (f:Bool) (g h i:Int) (j:Bool) (k:Int) (a:(List (Int×Int×LI))) (b:(List (Int×Int×Int×Bool×Int×Int×(Int×Int×LI)))) (k0:(Bool)→OA):OA:=(p a b (fun v=>bif v then (c (fun w=>k0 w)) else (q d e f g h i j k a b (fun (n,o)=>(r d e f g h i j k a b (fun (l,m)=>bif n==l then (s o m (fun t=>bif t then (c (fun u=>k0 u)) else k0 false)) else k0 false))))))
abbrev YF5:Type:=Int→Int→Bool→Int→Int→Int→Bool→Int→((List (Int×Int×LI)))→((List (Int×Int×Int×Bool×Int×Int×(Int×Int×LI))))→(Bool→Option Ans)→Option Ans
def F_law10_TextEncodes (fuel:Nat):YF5:=Fg_law10_TextEncodes fuel (F_law10_long fuel) (F_law10_Awake fuel) (F_text_Encode fuel) (F_ref10_Encode fuel) (F_ref02_SameBytes fuel)
theorem F5_eqg (fuel:Nat) (a:YF21) (b:YF22) (d:YF23) (e:YF24) (f:YF25) (g h:Int) (i:Bool) (j l m:Int) (n:Bool) (o:Int) (p:(List (Int×Int×LI))) (q:(List (Int×Int×Int×Bool×Int×Int×(Int×Int×LI)))) (k:Ev.Cont):evalFn tab (Gg5 a b d e f) J0 kp5 fuel Tryz.f5 [.agg [i6 g,i6 h,.bool i,i6 j,i6 l,i6 m,.bool n,i6 o],.c (.sl (.pair (.int .i64) (.pair (.int .i64) (.sl (.int .u8)))) p),.c (.sl (.pair (.int .i64) (.pair (.int .i64) (.pair (.int .i64) (.pair .bool (.pair (.int .i64) (.pair (.int .i64) (.pair (.int .i64) (.pair (.int .i64) (.sl (.int .u8)))))))))) q)] [] k=Fg_law10_TextEncodes fuel a b d e f g h i j l m n o p q (fun r=>match r with | s=>k (.c (.bool s),[])):=by
  kernel_rfl
theorem hG5 (fuel:Nat):GOK Tryz.prog (G5 fuel):=
  gc (ok21 fuel) Tryz.func21 (by kernel_rfl) rfl <|
  gc (ok22 fuel) Tryz.func22 (by kernel_rfl) rfl <|
  gc (ok23 fuel) Tryz.func23 (by kernel_rfl) rfl <|
  gc (ok24 fuel) Tryz.func24 (by kernel_rfl) rfl <|
  gc (ok25 fuel) Tryz.func25 (by kernel_rfl) rfl <|
  gok_nil
def spg5 (F:YF5):Ev.Spec:=fun args objs k=>match args,objs with | [.agg [i6 a,i6 b,.bool d,i6 e,i6 f,i6 g,.bool h,i6 i],.c (.sl (.pair (.int .i64) (.pair (.int .i64) (.sl (.int .u8)))) j),.c (.sl (.pair (.int .i64) (.pair (.int .i64) (.pair (.int .i64) (.pair .bool (.pair (.int .i64) (.pair (.int .i64) (.pair (.int .i64) (.pair (.int .i64) (.sl (.int .u8)))))))))) l)],[]=>F a b d e f g h i j l (fun r=>match r with | m=>k (.c (.bool m),[])) | _,_=>none
def spec5 (fuel:Nat):Ev.Spec:=spg5 (F_law10_TextEncodes fuel)
theorem ok5 (fuel:Nat):FnOK Tryz.prog 5 (spec5 fuel):=by
  intro args objs kk r h
  unfold spec5 spg5 at h
  split at h
  · skip
    exact fo0 (hG5 fuel) Tryz.func5 rfl (by kernel_rfl) _ _ kk r ((F5_eqg fuel (F_law10_long fuel) (F_law10_Awake fuel) (F_text_Encode fuel) (F_ref10_Encode fuel) (F_ref02_SameBytes fuel) _ _ _ _ _ _ _ _ _ _ kk).trans h)
  · cases h
end
end Go.Proofs.YtipdidpalcmlhaaGreat

