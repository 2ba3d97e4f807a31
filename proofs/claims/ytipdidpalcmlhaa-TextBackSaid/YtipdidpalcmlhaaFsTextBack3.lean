/- What the functions that TextBack reaches do: their typed texts, each with the proof that the machine does it. No condition. -/
import Derived.Test.YtipdidpalcmlhaaEvX
import Derived.Test.YtipdidpalcmlhaaFsTextBack2
import Derived.Test.YtipdidpalcmlhaaFsTextBack1
import Derived.Test.YtipdidpalcmlhaaEvY
import Derived.Test.YtipdidpalcmlhaaEvU
set_option linter.unusedVariables false
set_option linter.unusedSimpArgs false
set_option linter.unusedSectionVars false
set_option linter.unusedVariables false
set_option linter.unusedSimpArgs false
set_option maxRecDepth 100000
set_option maxHeartbeats 2000000
namespace Go.Proofs.Ytipdidpalcmlhaa
open Go Ev
open Go.IntKind (i64 u64 u8 i32 u32 u16)
noncomputable section
def kp162_aa3 (i:Nat):Option (List Nat):=Ev.look i [(5,[0,1,4,8]),(14,[0,1,4,8,9,10,49,50]),(100000,[0,1,4,8]),(100002,[0,1,4,9]),(400000,[4,5]),(400002,[4,5])]
def Gg162_aa3 (a:YF136_aa3) (b:YF161) (f:Nat):Option Ev.Spec:=Ev.look f [(136,spg136_aa3 a),(161,spg161 b)]
def G162_aa3 (fuel:Nat):Nat→Option Ev.Spec:=Gg162_aa3 (F_coder_Decoder_Get_aa3 fuel) (F_number_tail_take fuel)
abbrev V_number_get_aa3_0:Type:=Int×Int×Int×Int×Int×Int×Int×Int×Bool×Bool×LI×LI×Bool×Int
abbrev W_number_get_aa3_0:Type:=(Int×Int×Int×Int×Int×Int×Int×Bool×Bool×LI×LI×Bool×Int→OA)×(Int×Int×Int×Int×Int×Int×Int×Int×Bool×Bool×LI×LI×Bool×Int→OA)
def Sg_number_get_aa3_0 (fuel:Nat) (C:YF136_aa3) (E:YF161) (d a:Int) (t u:Int) (v w:Int) (x y:Int) (z A:Bool) (r s:LI) (o:Bool) (p:Int) (c:V_number_get_aa3_0→OA) (B:W_number_get_aa3_0):OA:=match B with | (ret,b)=>bif decide (a < 20) then (C (i64.wrap (i64.wrap (d+1)+a)) t u v w x y z A r s (fun (D,q,g,h,i,j,k,l,m,n,e,f)=>bif q != 0 then ret (q,g,h,i,j,k,l,m,n,e,f,false,0) else bif D==0 then b (d,a,g,h,i,j,k,l,m,n,e,f,o,p) else c (d,i64.wrap (a+1),g,h,i,j,k,l,m,n,e,f,o,p))) else b (d,a,t,u,v,w,x,y,z,A,r,s,o,p)
def S_number_get_aa3_0 (fuel:Nat) (v:Int×Int×Int×Int×Int×Int×Int×Int×Bool×Bool×(List Int)×(List Int)×Bool×Int) (c:(Int×Int×Int×Int×Int×Int×Int×Int×Bool×Bool×(List Int)×(List Int)×Bool×Int)→Option Ans) (B:(Int×Int×Int×Int×Int×Int×Int×Bool×Bool×(List Int)×(List Int)×Bool×Int→Option Ans)×(Int×Int×Int×Int×Int×Int×Int×Int×Bool×Bool×(List Int)×(List Int)×Bool×Int→Option Ans)):Option Ans:=match v with | (f,g,h,i,j,k,l,m,n,o,a,b,d,e)=>Sg_number_get_aa3_0 fuel (F_coder_Decoder_Get_aa3 fuel) (F_number_tail_take fuel) f g h i j k l m n o a b d e c B
def L_number_get_aa3_0 (fuel:Nat) (v:V_number_get_aa3_0) (ret:(Int×Int×Int×Int×Int×Int×Int×Bool×Bool×(List Int)×(List Int)×Bool×Int→Option Ans)) (b:(Int×Int×Int×Int×Int×Int×Int×Int×Bool×Bool×(List Int)×(List Int)×Bool×Int→Option Ans)):Option Ans:=iter (S_number_get_aa3_0 fuel) fuel v (ret,b)
def T162_aa3_0 (v:V_number_get_aa3_0):Ev.St:=match v with | (f,g,h,i,j,k,l,m,n,o,a,b,d,e)=>⟨[(0,.c (.ptr 0 0)),(1,.c (i6 f)),(4,.c (.ptr 3 0)),(8,.c (i6 g))],[(0,.cells 163 (i6 h::.own 1::ctb (.int .u64 i::.int .u64 j::.own 2::i6 k::.int .u64 l::i6 m::.bool n::.bool o::[]))),(1,.vec 3 (.int .i64) a false),(2,.vec 5 (.int .u8) b false),(3,.cells 97 [.bool d,i6 e])],4,3⟩
def E162_aa3_0 (K:KT):W_number_get_aa3_0:=((fun v=>match v with | (e,f,g,h,i,j,k,l,m,n,a,b,d)=>K .ret ⟨[(4,.c (.ptr 3 0)),(5,.c (i6 e))],[(0,.cells 163 (i6 f::.own 1::ctb (.int .u64 g::.int .u64 h::.own 2::i6 i::.int .u64 j::i6 k::.bool l::.bool m::[]))),(1,.vec 3 (.int .i64) n false),(2,.vec 5 (.int .u8) a false),(3,.cells 97 [.bool b,i6 d])],4,3⟩),(fun v=>match v with | (e,f,g,h,i,j,k,l,m,n,a,b,d,o)=>K .normal ⟨[(0,.c (.ptr 0 0)),(1,.c (i6 e)),(4,.c (.ptr 3 0)),(8,.c (i6 f))],[(0,.cells 163 (i6 g::.own 1::ctb (.int .u64 h::.int .u64 i::.own 2::i6 j::.int .u64 k::i6 l::.bool m::.bool n::[]))),(1,.vec 3 (.int .i64) a false),(2,.vec 5 (.int .u8) b false),(3,.cells 97 [.bool d,i6 o])],4,3⟩))
theorem S162_aa3_0_okg (fuel:Nat) (a:YF136_aa3) (b:YF161) (R:Ev.St→OA) (K:KT) (g h:Int) (i j:Int) (k l:Int) (m n:Int) (o p:Bool) (c d:LI) (e:Bool) (f:Int):evalCode tab (Gg162_aa3 a b) J0 kp162_aa3 fuel (bodyOf 0 Try.f162) (T162_aa3_0 (g,h,i,j,k,l,m,n,o,p,c,d,e,f)) (lc kp162_aa3 5 0 R K)=Sg_number_get_aa3_0 fuel a b g h i j k l m n o p c d e f (fun v=>R (T162_aa3_0 v)) (E162_aa3_0 K):=by
  kernel_rfl
def B162_aa3_0 (fuel:Nat):Ev.Blk:=fun st K=>match canonO (kp162_aa3 5) st with | some s=>(match s with | ⟨[(q,.c (.ptr r t)),(u,.c (i6 v)),(w,.c (.ptr x y)),(z,.c (i6 A))],[(B,.cells C a),(b,.vec d (.int .i64) e false),(f,.vec g (.int .u8) h false),(i,.cells j [.bool k,i6 l])],m,n⟩=>(match splitRun 2 ctn a with | some ([i6 D,.own o],[.int .u64 E,.int .u64 F,.own p,i6 G,.int .u64 H,i6 I,.bool J,.bool L])=>bif qb [q,r,t,u,w,x,y,z,B,C,b,d,f,g,i,j,m,n,o,p] [0,0,0,1,4,3,0,8,0,163,1,3,2,5,3,97,4,3,1,2] then iter (S_number_get_aa3_0 fuel) fuel (v,A,D,E,F,G,H,I,J,L,e,h,k,l) (E162_aa3_0 K) else none | _=>none) | _=>none) | none=>none
theorem B162_aa3_0_ok (fuel:Nat) (st:Ev.St) (K:KT) (r:Ans) (h:B162_aa3_0 fuel st K=some r):evalCode tab (G162_aa3 fuel) J0 kp162_aa3 fuel (.block 0 (.loop (bodyOf 0 Try.f162))) st K=some r:=by
  unfold B162_aa3_0 at h
  split at h
  · rename_i s hs
    split at h
    · skip
      split at h
      rotate_left 1
      · cases h
      rename_i hsp
      have esp:=splitRun_eq hsp
      subst esp
      obtain ⟨hb,h⟩:=cond_some' h
      cases qb_eq hb
      exact blk_loop (S:=T162_aa3_0) (ks:=E162_aa3_0) (step:=S_number_get_aa3_0 fuel) (v:=(_,_,_,_,_,_,_,_,_,_,_,_,_,_)) (by kernel_rfl) (by kernel_rfl) (fun R K v=>by obtain ⟨e,f,g,i,j,k,l,m,n,o,a,b,c,d⟩:=v; exact S162_aa3_0_okg fuel (F_coder_Decoder_Get_aa3 fuel) (F_number_tail_take fuel) R K e f g i j k l m n o a b c d) hs h
    · cases h
  · cases h
abbrev V_number_get_aa3_2:Type:=Int×Int×Int×Int×Int×Int×Int×Int×Int×Int×Int×Bool×Bool×LI×LI×Bool×Int×Int
abbrev W_number_get_aa3_2:Type:=(Int×Int×Int×Int×Int×Int×Int×Bool×Bool×LI×LI×Bool×Int→OA)×(Int×Int×Int×Int×Int×Int×Int×Int×Bool×Bool×LI×LI×Bool×Int→OA)
def Sg_number_get_aa3_2 (fuel:Nat) (v:YF136_aa3) (T:YF161) (a n:Int) (o p:Int) (e q:Int) (r s:Int) (t u g:Int) (h i:Bool) (j k:LI) (l:Bool) (m S:Int) (c:V_number_get_aa3_2→OA) (B:W_number_get_aa3_2):OA:=match B with | (ret,b)=>bif decide (e < p) then bif decide (e > 0) then (T S (fun (f,d)=>(v (i64.wrap (a+f)) q r s t u g h i j k (fun (U,A,C,D,E,F,G,H,I,J,w,x)=>bif A != 0 then ret (A,C,D,E,F,G,H,I,J,w,x,false,0) else c (a,n,i64.wrap (i64.wrap (2*o)+U),p,i64.wrap (e+1),C,D,E,F,G,H,I,J,w,x,l,m,d))))) else (v (i64.wrap (a+i64.wrap (23+n))) q r s t u g h i j k (fun (f,d,K,L,M,N,O,P,Q,R,y,z)=>bif d != 0 then ret (d,K,L,M,N,O,P,Q,R,y,z,false,0) else c (a,n,i64.wrap (i64.wrap (2*o)+f),p,i64.wrap (e+1),K,L,M,N,O,P,Q,R,y,z,l,m,S))) else b (a,o,q,r,s,t,u,g,h,i,j,k,l,m)
def S_number_get_aa3_2 (fuel:Nat) (v:Int×Int×Int×Int×Int×Int×Int×Int×Int×Int×Int×Bool×Bool×(List Int)×(List Int)×Bool×Int×Int) (c:(Int×Int×Int×Int×Int×Int×Int×Int×Int×Int×Int×Bool×Bool×(List Int)×(List Int)×Bool×Int×Int)→Option Ans) (B:(Int×Int×Int×Int×Int×Int×Int×Bool×Bool×(List Int)×(List Int)×Bool×Int→Option Ans)×(Int×Int×Int×Int×Int×Int×Int×Int×Bool×Bool×(List Int)×(List Int)×Bool×Int→Option Ans)):Option Ans:=match v with | (j,k,l,m,n,o,p,q,r,s,a,b,d,e,f,g,h,i)=>Sg_number_get_aa3_2 fuel (F_coder_Decoder_Get_aa3 fuel) (F_number_tail_take fuel) j k l m n o p q r s a b d e f g h i c B
def L_number_get_aa3_2 (fuel:Nat) (v:V_number_get_aa3_2) (ret:(Int×Int×Int×Int×Int×Int×Int×Bool×Bool×(List Int)×(List Int)×Bool×Int→Option Ans)) (b:(Int×Int×Int×Int×Int×Int×Int×Int×Bool×Bool×(List Int)×(List Int)×Bool×Int→Option Ans)):Option Ans:=iter (S_number_get_aa3_2 fuel) fuel v (ret,b)
def J162_aa3_2 (fuel:Nat) (i:Nat):Option Ev.Blk:=Ev.look i [(100000,B162_aa3_0 fuel)]
def T162_aa3_2 (v:V_number_get_aa3_2):Ev.St:=match v with | (j,k,l,m,n,o,p,q,r,s,a,b,d,e,f,g,h,i)=>⟨[(0,.c (.ptr 0 0)),(1,.c (i6 j)),(4,.c (.ptr 3 0)),(8,.c (i6 k)),(9,.c (i6 l)),(10,.c (.ptr 4 0)),(49,.c (i6 m)),(50,.c (i6 n))],[(0,.cells 163 (i6 o::.own 1::ctb (.int .u64 p::.int .u64 q::.own 2::i6 r::.int .u64 s::i6 a::.bool b::.bool d::[]))),(1,.vec 3 (.int .i64) e false),(2,.vec 5 (.int .u8) f false),(3,.cells 97 [.bool g,i6 h]),(4,.cells 215 [i6 i])],5,3⟩
def E162_aa3_2 (K:KT):W_number_get_aa3_2:=((fun v=>match v with | (e,f,g,h,i,j,k,l,m,n,a,b,d)=>K .ret ⟨[(4,.c (.ptr 3 0)),(5,.c (i6 e))],[(0,.cells 163 (i6 f::.own 1::ctb (.int .u64 g::.int .u64 h::.own 2::i6 i::.int .u64 j::i6 k::.bool l::.bool m::[]))),(1,.vec 3 (.int .i64) n false),(2,.vec 5 (.int .u8) a false),(3,.cells 97 [.bool b,i6 d])],4,3⟩),(fun v=>match v with | (e,f,g,h,i,j,k,l,m,n,a,b,d,o)=>K .normal ⟨[(0,.c (.ptr 0 0)),(1,.c (i6 e)),(4,.c (.ptr 3 0)),(9,.c (i6 f))],[(0,.cells 163 (i6 g::.own 1::ctb (.int .u64 h::.int .u64 i::.own 2::i6 j::.int .u64 k::i6 l::.bool m::.bool n::[]))),(1,.vec 3 (.int .i64) a false),(2,.vec 5 (.int .u8) b false),(3,.cells 97 [.bool d,i6 o])],4,3⟩))
theorem S162_aa3_2_okg (fuel:Nat) (a:YF136_aa3) (b:YF161) (R:Ev.St→OA) (K:KT) (k l:Int) (m n:Int) (o p:Int) (q r:Int) (s t c:Int) (d e:Bool) (f g:LI) (h:Bool) (i j:Int):evalCode tab (Gg162_aa3 a b) (J162_aa3_2 fuel) kp162_aa3 fuel (bodyOf 2 Try.f162) (T162_aa3_2 (k,l,m,n,o,p,q,r,s,t,c,d,e,f,g,h,i,j)) (lc kp162_aa3 14 2 R K)=Sg_number_get_aa3_2 fuel a b k l m n o p q r s t c d e f g h i j (fun v=>R (T162_aa3_2 v)) (E162_aa3_2 K):=by
  kernel_rfl
def B162_aa3_2 (fuel:Nat):Ev.Blk:=fun st K=>match canonO (kp162_aa3 14) st with | some s=>(match s with | ⟨[(D,.c (.ptr E F)),(G,.c (i6 H)),(I,.c (.ptr J L)),(M,.c (i6 N)),(O,.c (i6 P)),(Q,.c (.ptr a b)),(d,.c (i6 R)),(e,.c (i6 S))],[(f,.cells g h),(i,.vec j (.int .i64) k false),(l,.vec m (.int .u8) n false),(o,.cells p [.bool q,i6 r]),(t,.cells u [i6 v])],w,x⟩=>(match splitRun 2 ctn h with | some ([i6 T,.own y],[.int .u64 U,.int .u64 V,.own z,i6 W,.int .u64 X,i6 A,.bool B,.bool C])=>bif qb [D,E,F,G,I,J,L,M,O,Q,a,b,d,e,f,g,i,j,l,m,o,p,t,u,w,x,y,z] [0,0,0,1,4,3,0,8,9,10,4,0,49,50,0,163,1,3,2,5,3,97,4,215,5,3,1,2] then iter (S_number_get_aa3_2 fuel) fuel (H,N,P,R,S,T,U,V,W,X,A,B,C,k,n,q,r,v) (E162_aa3_2 K) else none | _=>none) | _=>none) | none=>none
theorem B162_aa3_2_ok (fuel:Nat) (st:Ev.St) (K:KT) (r:Ans) (h:B162_aa3_2 fuel st K=some r):evalCode tab (G162_aa3 fuel) (J162_aa3_2 fuel) kp162_aa3 fuel (.block 2 (.loop (bodyOf 2 Try.f162))) st K=some r:=by
  unfold B162_aa3_2 at h
  split at h
  · rename_i s hs
    split at h
    · skip
      split at h
      rotate_left 1
      · cases h
      rename_i hsp
      have esp:=splitRun_eq hsp
      subst esp
      obtain ⟨hb,h⟩:=cond_some' h
      cases qb_eq hb
      exact blk_loop (S:=T162_aa3_2) (ks:=E162_aa3_2) (step:=S_number_get_aa3_2 fuel) (v:=(_,_,_,_,_,_,_,_,_,_,_,_,_,_,_,_,_,_)) (by kernel_rfl) (by kernel_rfl) (fun R K v=>by obtain ⟨j,k,l,m,n,o,p,q,t,u,a,b,c,d,e,f,g,i⟩:=v; exact S162_aa3_2_okg fuel (F_coder_Decoder_Get_aa3 fuel) (F_number_tail_take fuel) R K j k l m n o p q t u a b c d e f g i) hs h
    · cases h
  · cases h
def J162_aa3 (fuel:Nat) (i:Nat):Option Ev.Blk:=Ev.look i [(100000,B162_aa3_0 fuel),(100002,B162_aa3_2 fuel)]
def Fg_number_get_aa3 (fuel:Nat) (w:YF136_aa3) (b2:YF161) (J a1:Int) (a2 a3:Int) (a4 a5 a6:Int) (a7 a8:Bool) (a9 a0:LI) (k0:(Bool×Int×Int×Int×Int×Int×Int×Int×Int×Bool×Bool×LI×LI)→OA):OA:=(w J a1 a2 a3 a4 a5 a6 a7 a8 a9 a0 (fun (P,a,f,g,h,i,j,k,l,m,b,c)=>bif a != 0 then k0 (a==0,0,a,f,g,h,i,j,k,l,m,b,c) else bif P==1 then k0 (a==0,0,a,f,g,h,i,j,k,l,m,b,c) else (L_number_get_aa3_0 fuel (J,0,f,g,h,i,j,k,l,m,b,c,false,0) (fun (ret0_0,ret0_1,ret0_2,ret0_3,ret0_4,ret0_5,ret0_6,ret0_7,ret0_8,ret0_9,ret0_10,ret0_11,ret0_12)=>k0 (ret0_11,ret0_12,ret0_0,ret0_1,ret0_2,ret0_3,ret0_4,ret0_5,ret0_6,ret0_7,ret0_8,ret0_9,ret0_10)) (fun (Q,I,R,S,T,U,V,W,X,Y,K,L,M,N)=>(L_number_get_aa3_2 fuel (Q,I,1,I,0,R,S,T,U,V,W,X,Y,K,L,M,N,44) (fun (ret2_0,ret2_1,ret2_2,ret2_3,ret2_4,ret2_5,ret2_6,ret2_7,ret2_8,ret2_9,ret2_10,ret2_11,ret2_12)=>k0 (ret2_11,ret2_12,ret2_0,ret2_1,ret2_2,ret2_3,ret2_4,ret2_5,ret2_6,ret2_7,ret2_8,ret2_9,ret2_10)) (fun (Z,n,o,p,q,r,s,t,u,v,d,e,b0,b1)=>bif decide (n > 1048577) then k0 (false,0,3,o,p,q,r,s,t,u,v,d,e) else bif n==1 then k0 (false,0,0,o,p,q,r,s,t,u,v,d,e) else (w (i64.wrap (Z+22)) o p q r s t u v d e (fun (O,z,A,B,C,D,E,F,G,H,x,y)=>bif z != 0 then k0 (false,0,z,A,B,C,D,E,F,G,H,x,y) else k0 (false,i64.wrap (i64.wrap (n - 1)*i64.wrap (1 - i64.wrap (2*O))),0,A,B,C,D,E,F,G,H,x,y)))))))))
abbrev YF162_aa3:Type:=Int→Int→Int→Int→Int→Int→Int→Bool→Bool→LI→LI→((Bool×Int×Int×Int×Int×Int×Int×Int×Int×Bool×Bool×LI×LI)→Option Ans)→Option Ans
def F_number_get_aa3 (fuel:Nat):YF162_aa3:=Fg_number_get_aa3 fuel (F_coder_Decoder_Get_aa3 fuel) (F_number_tail_take fuel)
theorem F162_aa3_eqg (fuel:Nat) (a:YF136_aa3) (b:YF161) (e f:Int) (g h:Int) (i j l:Int) (m n:Bool) (o d:LI) (k:Ev.Cont):evalFn tab (Gg162_aa3 a b) (J162_aa3 fuel) kp162_aa3 fuel Try.f162 [.c (.ptr 0 0),.c (i6 e)] [.cells 163 (i6 f::.own 1::ctb (.int .u64 g::.int .u64 h::.own 2::i6 i::.int .u64 j::i6 l::.bool m::.bool n::[])),.vec 3 (.int .i64) o false,.vec 5 (.int .u8) d false] k=Fg_number_get_aa3 fuel a b e f g h i j l m n o d (fun r=>match r with | (t,u,v,w,x,y,z,A,B,C,p,q,s)=>k (.tup [(true,[.bool t,i6 u]),(false,[i6 v])],[.cells 163 (i6 w::.own 1::ctb (.int .u64 x::.int .u64 y::.own 2::i6 z::.int .u64 A::i6 B::.bool C::.bool p::[])),.vec 3 (.int .i64) q false,.vec 5 (.int .u8) s false])):=by
  kernel_rfl
theorem hG162_aa3 (fuel:Nat):GOK Try.prog (G162_aa3 fuel):=
  gc (ok136_aa3 fuel) Try.func136 (by kernel_rfl) rfl <|
  gc (ok161 fuel) Try.func161 (by kernel_rfl) rfl <|
  gok_nil
theorem B162_aa3_0_blk (fuel:Nat):BlkOK Try.prog Try.f162.ntmps (.block 0 (.loop (bodyOf 0 Try.f162))) (B162_aa3_0 fuel):=bo0 (hG162_aa3 fuel) (by kernel_rfl) (by kernel_rfl) (B162_aa3_0_ok fuel)
theorem B162_aa3_2_blk (fuel:Nat):BlkOK Try.prog Try.f162.ntmps (.block 2 (.loop (bodyOf 2 Try.f162))) (B162_aa3_2 fuel):=bo0 (hG162_aa3 fuel) (by kernel_rfl) (by kernel_rfl) (B162_aa3_2_ok fuel)
theorem fok162_aa3 (fuel:Nat):FnOK Try.prog 162 (evalFn tab (G162_aa3 fuel) (J162_aa3 fuel) kp162_aa3 fuel Try.f162):=
  fn_ok tab_ok (hG162_aa3 fuel) mixed Try.func162 (c:=(Try.f162.body).getD .skip) rfl (fun q hq=>by
    rw [(by kernel_rfl:obl (J162_aa3 fuel) ((Try.f162.body).getD .skip)= [(.block 0 (.loop (bodyOf 0 Try.f162)),B162_aa3_0 fuel),(.block 2 (.loop (bodyOf 2 Try.f162)),B162_aa3_2 fuel)])] at hq
    simp only [List.mem_cons,List.not_mem_nil,or_false] at hq
    rcases hq with rfl | rfl
    · exact B162_aa3_0_blk fuel
    · exact B162_aa3_2_blk fuel)
def spg162_aa3 (F:YF162_aa3):Ev.Spec:=fun args objs k=>match args,objs with | [.c (.ptr g h),.c (i6 i)],[.cells j a,.vec l (.int .i64) m false,.vec n (.int .u8) b false]=>(match splitRun 2 ctn a with | some ([i6 o,.own p],[.int .u64 q,.int .u64 s,.own t,i6 u,.int .u64 v,i6 w,.bool x,.bool y])=>bif qb [g,h,j,l,n,p,t] [0,0,163,3,5,1,2] then F i o q s u v w x y m b (fun r=>match r with | (z,A,B,C,D,E,G,H,I,J,d,e,f)=>k (.tup [(true,[.bool z,i6 A]),(false,[i6 B])],[.cells 163 (i6 C::.own 1::ctb (.int .u64 D::.int .u64 E::.own 2::i6 G::.int .u64 H::i6 I::.bool J::.bool d::[])),.vec 3 (.int .i64) e false,.vec 5 (.int .u8) f false])) else none | _=>none) | _,_=>none
theorem ok162_aa3 (fuel:Nat):FnOK Try.prog 162 (spg162_aa3 (F_number_get_aa3 fuel)):=by
  intro args objs kk r h
  unfold spg162_aa3 at h
  split at h
  · skip
    split at h
    rotate_left 1
    · cases h
    rename_i hsp
    have esp:=splitRun_eq hsp
    subst esp
    obtain ⟨hb,h⟩:=cond_some' h
    cases qb_eq hb
    exact fok162_aa3 fuel _ _ kk r ((F162_aa3_eqg fuel (F_coder_Decoder_Get_aa3 fuel) (F_number_tail_take fuel) _ _ _ _ _ _ _ _ _ _ _ kk).trans h)
  · cases h
def kp113_aa3 (i:Nat):Option (List Nat):=Ev.look i []
def Gg113_aa3 (d:YF107) (a:YF136_aa3) (b:YF139_40a) (c:YF162_aa3) (f:Nat):Option Ev.Spec:=Ev.look f [(107,spg107 d),(136,spg136_aa3 a),(139,spg139_40a b),(162,spg162_aa3 c)]
def G113_aa3 (fuel:Nat):Nat→Option Ev.Spec:=Gg113_aa3 (F_number_fits fuel) (F_coder_Decoder_Get_aa3 fuel) (F_coder_Decoder_Model_40a fuel) (F_number_get_aa3 fuel)
def Fg_number_Get_aa3 (fuel:Nat) (O:YF107) (x:YF136_aa3) (y:YF139_40a) (z:YF162_aa3) (w R:Int) (S T:Int) (U V W:Int) (X Y:Bool) (Z Q:LI) (k0:(Bool×Int×Int×Int×Int×Int×Int×Int×Int×Bool×Bool×LI×LI)→OA):OA:=(x ((-1:Int)) R S T U V W X Y Z Q (fun (a0,d,e,f,g,h,i,j,k,l,a,b)=>bif d==7 then k0 (false,0,d,e,f,g,h,i,j,k,l,a,b) else (y e f g h i j k l a b (fun (P,m,n,o,p,q,r,s,t,u,c,D)=>(O P D w (48) (fun v=>bif v != 0 then k0 (false,0,v,m,n,o,p,q,r,s,t,u,c) else (z w m n o p q r s t u c (fun (E,F,G,H,I,J,K,L,M,N,A,B,C)=>k0 (E,F,G,H,I,J,K,L,M,N,A,B,C)))))))))
abbrev YF113_aa3:Type:=Int→Int→Int→Int→Int→Int→Int→Bool→Bool→LI→LI→((Bool×Int×Int×Int×Int×Int×Int×Int×Int×Bool×Bool×LI×LI)→Option Ans)→Option Ans
def F_number_Get_aa3 (fuel:Nat):YF113_aa3:=Fg_number_Get_aa3 fuel (F_number_fits fuel) (F_coder_Decoder_Get_aa3 fuel) (F_coder_Decoder_Model_40a fuel) (F_number_get_aa3 fuel)
theorem F113_aa3_eqg (fuel:Nat) (e:YF107) (a:YF136_aa3) (b:YF139_40a) (d:YF162_aa3) (g h:Int) (i j:Int) (l m n:Int) (o p:Bool) (q f:LI) (k:Ev.Cont):evalFn tab (Gg113_aa3 e a b d) J0 kp113_aa3 fuel Try.f113 [.c (.ptr 0 0),.c (i6 g)] [.cells 163 (i6 h::.own 1::ctb (.int .u64 i::.int .u64 j::.own 2::i6 l::.int .u64 m::i6 n::.bool o::.bool p::[])),.vec 3 (.int .i64) q false,.vec 5 (.int .u8) f false] k=Fg_number_Get_aa3 fuel e a b d g h i j l m n o p q f (fun r=>match r with | (v,w,x,y,z,A,B,C,D,E,s,t,u)=>k (.tup [(true,[.bool v,i6 w]),(false,[i6 x])],[.cells 163 (i6 y::.own 1::ctb (.int .u64 z::.int .u64 A::.own 2::i6 B::.int .u64 C::i6 D::.bool E::.bool s::[])),.vec 3 (.int .i64) t false,.vec 5 (.int .u8) u false])):=by
  kernel_rfl
theorem hG113_aa3 (fuel:Nat):GOK Try.prog (G113_aa3 fuel):=
  gc (ok107 fuel) Try.func107 (by kernel_rfl) rfl <|
  gc (ok136_aa3 fuel) Try.func136 (by kernel_rfl) rfl <|
  gc (ok139_40a fuel) Try.func139 (by kernel_rfl) rfl <|
  gc (ok162_aa3 fuel) Try.func162 (by kernel_rfl) rfl <|
  gok_nil
def spg113_aa3 (F:YF113_aa3):Ev.Spec:=fun args objs k=>match args,objs with | [.c (.ptr g h),.c (i6 i)],[.cells j a,.vec l (.int .i64) m false,.vec n (.int .u8) b false]=>(match splitRun 2 ctn a with | some ([i6 o,.own p],[.int .u64 q,.int .u64 s,.own t,i6 u,.int .u64 v,i6 w,.bool x,.bool y])=>bif qb [g,h,j,l,n,p,t] [0,0,163,3,5,1,2] then F i o q s u v w x y m b (fun r=>match r with | (z,A,B,C,D,E,G,H,I,J,d,e,f)=>k (.tup [(true,[.bool z,i6 A]),(false,[i6 B])],[.cells 163 (i6 C::.own 1::ctb (.int .u64 D::.int .u64 E::.own 2::i6 G::.int .u64 H::i6 I::.bool J::.bool d::[])),.vec 3 (.int .i64) e false,.vec 5 (.int .u8) f false])) else none | _=>none) | _,_=>none
def spec113_aa3 (fuel:Nat):Ev.Spec:=spg113_aa3 (F_number_Get_aa3 fuel)
theorem ok113_aa3 (fuel:Nat):FnOK Try.prog 113 (spec113_aa3 fuel):=by
  intro args objs kk r h
  unfold spec113_aa3 spg113_aa3 at h
  split at h
  · skip
    split at h
    rotate_left 1
    · cases h
    rename_i hsp
    have esp:=splitRun_eq hsp
    subst esp
    obtain ⟨hb,h⟩:=cond_some' h
    cases qb_eq hb
    exact fo0 (hG113_aa3 fuel) Try.func113 rfl (by kernel_rfl) _ _ kk r ((F113_aa3_eqg fuel (F_number_fits fuel) (F_coder_Decoder_Get_aa3 fuel) (F_coder_Decoder_Model_40a fuel) (F_number_get_aa3 fuel) _ _ _ _ _ _ _ _ _ _ _ kk).trans h)
  · cases h
def kp163_452 (i:Nat):Option (List Nat):=Ev.look i [(11,[0,1,2,11,38,39]),(100000,[2,11]),(400000,[6,7])]
def Gg163_452 (c:YF107) (a:YF136_aa3) (b:YF139_40a) (f:Nat):Option Ev.Spec:=Ev.look f [(107,spg107 c),(136,spg136_aa3 a),(139,spg139_40a b)]
def G163_452 (fuel:Nat):Nat→Option Ev.Spec:=Gg163_452 (F_number_fits fuel) (F_coder_Decoder_Get_aa3 fuel) (F_coder_Decoder_Model_40a fuel)
abbrev V_number_GetId_452_0:Type:=Int×Int×Int×Int×Int×Int×Int×Int×Int×Int×Int×Bool×Bool×LI×LI
abbrev W_number_GetId_452_0:Type:=(Int×Int×Int×Int×Int×Int×Int×Int×Bool×Bool×LI×LI→OA)×(Int×Int×Int×Int×Int×Int×Int×Int×Bool×Bool×LI×LI→OA)
def Sg_number_GetId_452_0 (fuel:Nat) (G:YF107) (D:YF136_aa3) (F:YF139_40a) (t u:Int) (a v:Int) (w x:Int) (y z:Int) (A C o:Int) (p q:Bool) (r s:LI) (c:V_number_GetId_452_0→OA) (B:W_number_GetId_452_0):OA:=match B with | (ret,b)=>bif decide (w < v) then (D (i64.wrap (i64.wrap (t+a) - 1)) x y z A C o p q r s (fun (E,f,g,h,i,j,k,l,m,n,d,e)=>bif f != 0 then ret (0,f,g,h,i,j,k,l,m,n,d,e) else c (t,u,i64.wrap (i64.wrap (2*a)+E),v,i64.wrap (w+1),g,h,i,j,k,l,m,n,d,e))) else b (u,a,x,y,z,A,C,o,p,q,r,s)
def S_number_GetId_452_0 (fuel:Nat) (v:Int×Int×Int×Int×Int×Int×Int×Int×Int×Int×Int×Bool×Bool×(List Int)×(List Int)) (c:(Int×Int×Int×Int×Int×Int×Int×Int×Int×Int×Int×Bool×Bool×(List Int)×(List Int))→Option Ans) (B:(Int×Int×Int×Int×Int×Int×Int×Int×Bool×Bool×(List Int)×(List Int)→Option Ans)×(Int×Int×Int×Int×Int×Int×Int×Int×Bool×Bool×(List Int)×(List Int)→Option Ans)):Option Ans:=match v with | (g,h,i,j,k,l,m,n,o,p,a,b,d,e,f)=>Sg_number_GetId_452_0 fuel (F_number_fits fuel) (F_coder_Decoder_Get_aa3 fuel) (F_coder_Decoder_Model_40a fuel) g h i j k l m n o p a b d e f c B
def L_number_GetId_452_0 (fuel:Nat) (v:V_number_GetId_452_0) (ret:(Int×Int×Int×Int×Int×Int×Int×Int×Bool×Bool×(List Int)×(List Int)→Option Ans)) (b:(Int×Int×Int×Int×Int×Int×Int×Int×Bool×Bool×(List Int)×(List Int)→Option Ans)):Option Ans:=iter (S_number_GetId_452_0 fuel) fuel v (ret,b)
def T163_452_0 (v:V_number_GetId_452_0):Ev.St:=match v with | (g,h,i,j,k,l,m,n,o,p,a,b,d,e,f)=>⟨[(0,.c (.ptr 0 0)),(1,.c (i6 g)),(2,.c (i6 h)),(11,.c (i6 i)),(38,.c (i6 j)),(39,.c (i6 k))],[(0,.cells 163 (i6 l::.own 1::ctb (.int .u64 m::.int .u64 n::.own 2::i6 o::.int .u64 p::i6 a::.bool b::.bool d::[]))),(1,.vec 3 (.int .i64) e false),(2,.vec 5 (.int .u8) f false)],3,3⟩
def E163_452_0 (K:KT):W_number_GetId_452_0:=((fun v=>match v with | (d,e,f,g,h,i,j,k,l,m,a,b)=>K .ret ⟨[(6,.c (i6 d)),(7,.c (i6 e))],[(0,.cells 163 (i6 f::.own 1::ctb (.int .u64 g::.int .u64 h::.own 2::i6 i::.int .u64 j::i6 k::.bool l::.bool m::[]))),(1,.vec 3 (.int .i64) a false),(2,.vec 5 (.int .u8) b false)],3,3⟩),(fun v=>match v with | (d,e,f,g,h,i,j,k,l,m,a,b)=>K .normal ⟨[(2,.c (i6 d)),(11,.c (i6 e))],[(0,.cells 163 (i6 f::.own 1::ctb (.int .u64 g::.int .u64 h::.own 2::i6 i::.int .u64 j::i6 k::.bool l::.bool m::[]))),(1,.vec 3 (.int .i64) a false),(2,.vec 5 (.int .u8) b false)],3,3⟩))
theorem S163_452_0_okg (fuel:Nat) (c:YF107) (a:YF136_aa3) (b:YF139_40a) (R:Ev.St→OA) (K:KT) (i j:Int) (k l:Int) (m n:Int) (o p:Int) (q r d:Int) (e f:Bool) (g h:LI):evalCode tab (Gg163_452 c a b) J0 kp163_452 fuel (bodyOf 0 Try.f163) (T163_452_0 (i,j,k,l,m,n,o,p,q,r,d,e,f,g,h)) (lc kp163_452 11 0 R K)=Sg_number_GetId_452_0 fuel c a b i j k l m n o p q r d e f g h (fun v=>R (T163_452_0 v)) (E163_452_0 K):=by
  kernel_rfl
def B163_452_0 (fuel:Nat):Ev.Blk:=fun st K=>match canonO (kp163_452 11) st with | some s=>(match s with | ⟨[(p,.c (.ptr q r)),(t,.c (i6 u)),(v,.c (i6 w)),(x,.c (i6 y)),(z,.c (i6 A)),(B,.c (i6 C))],[(D,.cells E a),(b,.vec d (.int .i64) e false),(f,.vec g (.int .u8) h false)],i,j⟩=>(match splitRun 2 ctn a with | some ([i6 F,.own k],[.int .u64 G,.int .u64 H,.own l,i6 I,.int .u64 J,i6 m,.bool n,.bool o])=>bif qb [p,q,r,t,v,x,z,B,D,E,b,d,f,g,i,j,k,l] [0,0,0,1,2,11,38,39,0,163,1,3,2,5,3,3,1,2] then iter (S_number_GetId_452_0 fuel) fuel (u,w,y,A,C,F,G,H,I,J,m,n,o,e,h) (E163_452_0 K) else none | _=>none) | _=>none) | none=>none
theorem B163_452_0_ok (fuel:Nat) (st:Ev.St) (K:KT) (r:Ans) (h:B163_452_0 fuel st K=some r):evalCode tab (G163_452 fuel) J0 kp163_452 fuel (.block 0 (.loop (bodyOf 0 Try.f163))) st K=some r:=by
  unfold B163_452_0 at h
  split at h
  · rename_i s hs
    split at h
    · skip
      split at h
      rotate_left 1
      · cases h
      rename_i hsp
      have esp:=splitRun_eq hsp
      subst esp
      obtain ⟨hb,h⟩:=cond_some' h
      cases qb_eq hb
      exact blk_loop (S:=T163_452_0) (ks:=E163_452_0) (step:=S_number_GetId_452_0 fuel) (v:=(_,_,_,_,_,_,_,_,_,_,_,_,_,_,_)) (by kernel_rfl) (by kernel_rfl) (fun R K v=>by obtain ⟨f,g,i,j,k,l,m,n,o,p,a,b,c,d,e⟩:=v; exact S163_452_0_okg fuel (F_number_fits fuel) (F_coder_Decoder_Get_aa3 fuel) (F_coder_Decoder_Model_40a fuel) R K f g i j k l m n o p a b c d e) hs h
    · cases h
  · cases h
def J163_452 (fuel:Nat) (i:Nat):Option Ev.Blk:=Ev.look i [(100000,B163_452_0 fuel)]
def Fg_number_GetId_452 (fuel:Nat) (F:YF107) (z:YF136_aa3) (A:YF139_40a) (y a:Int) (R S:Int) (T U:Int) (V W:Int) (X Y:Bool) (P Q:LI) (k0:(Int×Int×Int×Int×Int×Int×Int×Int×Bool×Bool×LI×LI)→OA):OA:=(z ((-1:Int)) R S T U V W X Y P Q (fun (Z,v,d,e,f,g,h,i,j,k,b,c)=>bif v==7 then k0 (0,v,d,e,f,g,h,i,j,k,b,c) else bif decide (a < 0) then k0 (0,2,d,e,f,g,h,i,j,k,b,c) else bif decide (a > 10) then k0 (0,2,d,e,f,g,h,i,j,k,b,c) else bif decide (a < 0) then none else (A d e f g h i j k b c (fun (C,m,n,o,p,q,r,s,t,u,l,B)=>(F C B y (i64.wrap (Ev.ishl IntKind.i64 1 a - 1)) (fun x=>bif x != 0 then k0 (0,x,m,n,o,p,q,r,s,t,u,l) else (L_number_GetId_452_0 fuel (y,a,1,a,0,m,n,o,p,q,r,s,t,u,l) (fun (ret0_0,ret0_1,ret0_2,ret0_3,ret0_4,ret0_5,ret0_6,ret0_7,ret0_8,ret0_9,ret0_10,ret0_11)=>k0 (ret0_0,ret0_1,ret0_2,ret0_3,ret0_4,ret0_5,ret0_6,ret0_7,ret0_8,ret0_9,ret0_10,ret0_11)) (fun (w,G,H,I,J,K,L,M,N,O,D,E)=>bif decide (w < 0) then none else k0 (i64.wrap (G - Ev.ishl IntKind.i64 1 w),0,H,I,J,K,L,M,N,O,D,E)))))))))
abbrev YF163_452:Type:=Int→Int→Int→Int→Int→Int→Int→Int→Bool→Bool→LI→LI→((Int×Int×Int×Int×Int×Int×Int×Int×Bool×Bool×LI×LI)→Option Ans)→Option Ans
def F_number_GetId_452 (fuel:Nat):YF163_452:=Fg_number_GetId_452 fuel (F_number_fits fuel) (F_coder_Decoder_Get_aa3 fuel) (F_coder_Decoder_Model_40a fuel)
theorem F163_452_eqg (fuel:Nat) (d:YF107) (a:YF136_aa3) (b:YF139_40a) (g h:Int) (i j:Int) (l m:Int) (n o:Int) (p q:Bool) (e f:LI) (k:Ev.Cont):evalFn tab (Gg163_452 d a b) (J163_452 fuel) kp163_452 fuel Try.f163 [.c (.ptr 0 0),.c (i6 g),.c (i6 h)] [.cells 163 (i6 i::.own 1::ctb (.int .u64 j::.int .u64 l::.own 2::i6 m::.int .u64 n::i6 o::.bool p::.bool q::[])),.vec 3 (.int .i64) e false,.vec 5 (.int .u8) f false] k=Fg_number_GetId_452 fuel d a b g h i j l m n o p q e f (fun r=>match r with | (u,v,w,x,y,z,A,B,C,D,s,t)=>k (.tup [(false,[i6 u]),(false,[i6 v])],[.cells 163 (i6 w::.own 1::ctb (.int .u64 x::.int .u64 y::.own 2::i6 z::.int .u64 A::i6 B::.bool C::.bool D::[])),.vec 3 (.int .i64) s false,.vec 5 (.int .u8) t false])):=by
  kernel_rfl
theorem hG163_452 (fuel:Nat):GOK Try.prog (G163_452 fuel):=
  gc (ok107 fuel) Try.func107 (by kernel_rfl) rfl <|
  gc (ok136_aa3 fuel) Try.func136 (by kernel_rfl) rfl <|
  gc (ok139_40a fuel) Try.func139 (by kernel_rfl) rfl <|
  gok_nil
theorem B163_452_0_blk (fuel:Nat):BlkOK Try.prog Try.f163.ntmps (.block 0 (.loop (bodyOf 0 Try.f163))) (B163_452_0 fuel):=bo0 (hG163_452 fuel) (by kernel_rfl) (by kernel_rfl) (B163_452_0_ok fuel)
def spg163_452 (F:YF163_452):Ev.Spec:=fun args objs k=>match args,objs with | [.c (.ptr g h),.c (i6 i),.c (i6 j)],[.cells l a,.vec m (.int .i64) b false,.vec n (.int .u8) d false]=>(match splitRun 2 ctn a with | some ([i6 o,.own p],[.int .u64 q,.int .u64 s,.own t,i6 u,.int .u64 v,i6 w,.bool x,.bool y])=>bif qb [g,h,l,m,n,p,t] [0,0,163,3,5,1,2] then F i j o q s u v w x y b d (fun r=>match r with | (z,A,B,C,D,E,G,H,I,J,e,f)=>k (.tup [(false,[i6 z]),(false,[i6 A])],[.cells 163 (i6 B::.own 1::ctb (.int .u64 C::.int .u64 D::.own 2::i6 E::.int .u64 G::i6 H::.bool I::.bool J::[])),.vec 3 (.int .i64) e false,.vec 5 (.int .u8) f false])) else none | _=>none) | _,_=>none
def spec163_452 (fuel:Nat):Ev.Spec:=spg163_452 (F_number_GetId_452 fuel)
theorem ok163_452 (fuel:Nat):FnOK Try.prog 163 (spec163_452 fuel):=by
  intro args objs kk r h
  unfold spec163_452 spg163_452 at h
  split at h
  · skip
    split at h
    rotate_left 1
    · cases h
    rename_i hsp
    have esp:=splitRun_eq hsp
    subst esp
    obtain ⟨hb,h⟩:=cond_some' h
    cases qb_eq hb
    exact fo1 (hG163_452 fuel) Try.func163 rfl (B163_452_0_blk fuel) (by kernel_rfl) _ _ kk r ((F163_452_eqg fuel (F_number_fits fuel) (F_coder_Decoder_Get_aa3 fuel) (F_coder_Decoder_Model_40a fuel) _ _ _ _ _ _ _ _ _ _ _ _ kk).trans h)
  · cases h
def fns18:List (Nat×Func):=[(18,Try.f18),(19,Try.f19),(20,Try.f20),(21,Try.f21),(25,Try.f25),(42,Try.f42),(43,Try.f43),(44,Try.f44),(45,Try.f45),(46,Try.f46),(47,Try.f47),(51,Try.f51),(52,Try.f52),(56,Try.f56),(57,Try.f57),(58,Try.f58),(59,Try.f59),(60,Try.f60),(61,Try.f61),(65,Try.f65),(66,Try.f66),(89,Try.f89),(90,Try.f90),(91,Try.f91),(92,Try.f92),(93,Try.f93),(94,Try.f94),(95,Try.f95),(96,Try.f96),(97,Try.f97),(104,Try.f104),(105,Try.f105),(114,Try.f114),(115,Try.f115),(116,Try.f116),(118,Try.f118),(143,Try.f143),(144,Try.f144),(145,Try.f145),(147,Try.f147),(154,Try.f154),(155,Try.f155),(156,Try.f156),(157,Try.f157),(158,Try.f158),(159,Try.f159),(160,Try.f160),(164,Try.f164),(175,Try.f175),(178,Try.f178),(181,Try.f181),(182,Try.f182),(186,Try.f186),(1000156,Try.f156)]
def kpt18:List (Nat×List (Nat×List Nat)):=[(18,[(200003,[1]),(200004,[1])]),(19,[(12,[2,3,13,15,16,17]),(19,[2,3,13,15,16,17,18,19,20]),(100000,[13]),(100002,[2,3,13,15,16,17]),(200013,[2,3]),(200016,[2]),(200019,[3]),(200022,[2,3]),(400000,[6,7]),(400002,[6,7])]),(20,[(11,[2,4,16,17,18]),(100000,[16]),(200019,[16]),(400000,[8,9])]),(21,[(4,[0,1,12,13]),(100000,[]),(200006,[0,1]),(400000,[4])]),(25,[(5,[2,6,8,9,34,35]),(100000,[6,8,9]),(400000,[6,7])]),(44,[(2,[0,1,5]),(100000,[]),(200004,[0]),(400000,[4])]),(45,[(200001,[2,3,4])]),(52,[(200002,[3]),(200003,[0,3]),(200008,[0,3]),(200013,[0,3,4])]),(60,[(2,[0,1,6,1000002]),(100000,[]),(200005,[0,7]),(400000,[])]),(65,[(4,[23,24,25]),(100000,[]),(400000,[2])]),(104,[(11,[0,1,7,8,11,52,53,1000002]),(20,[0,1,7,8,11,12,13,52,53,75,76,1000002]),(100001,[]),(100003,[0,1,7,8,11,52,53]),(200007,[7]),(400001,[10]),(400003,[10])]),(115,[(200004,[0]),(200013,[])]),(116,[(4,[2,3,29,30]),(100000,[]),(200006,[2,3]),(400000,[4])]),(144,[(2,[0,1,7,8]),(100000,[]),(400000,[4])]),(145,[(2,[0,1,7,8]),(100000,[]),(400000,[4])]),(155,[(200001,[3,5])]),(157,[(2,[0,1,12,13]),(100000,[]),(400000,[4])]),(158,[(3,[0,1,2,8,29]),(100000,[8]),(200001,[0]),(200005,[0]),(400000,[6,7])]),(159,[(3,[0,1,2,7,17,18,19]),(8,[0,1,2,7,41,42,43]),(100000,[0,1,2,7]),(100002,[7]),(200005,[0,9]),(200010,[0,11]),(400000,[6]),(400002,[6])]),(164,[(200000,[0,1]),(200007,[0,1,4])]),(175,[(2,[0,1,7,8]),(100000,[]),(400000,[4])]),(182,[(13,[0,1,3,4,12,18,64,65]),(100000,[3,4,12,18]),(200009,[8]),(200011,[8,11]),(400000,[12,13])]),(186,[(8,[0,1,2,3,9,44,45]),(100000,[]),(400000,[8])])]
def kpa18 (f i:Nat):Option (List Nat):=match Ev.look f kpt18 with | some l=>Ev.look i l | none=>none
def ext18 (f:Nat):Option Ev.Spec:=Ev.look f [(48,spec48 100000),(49,spec49 100000),(50,spec50 100000),(53,spec53_856 100000),(54,spec54_a20 100000),(55,spec55 100000),(102,spec102_b82 100000),(103,spec103_cf0 100000),(108,spec108_a20 100000),(113,spec113_aa3 100000),(136,spec136_aa3 100000),(139,spec139_40a 100000),(163,spec163_452 100000)]
theorem ext18_ok:GOK Try.prog ext18:=
  gok_cons ⟨ok48 100000,enters_of Try.func48 (by kernel_rfl) rfl⟩ <|
  gok_cons ⟨ok49 100000,enters_of Try.func49 (by kernel_rfl) rfl⟩ <|
  gok_cons ⟨ok50 100000,enters_of Try.func50 (by kernel_rfl) rfl⟩ <|
  gok_cons ⟨ok53_856 100000,enters_of Try.func53 (by kernel_rfl) rfl⟩ <|
  gok_cons ⟨ok54_a20 100000,enters_of Try.func54 (by kernel_rfl) rfl⟩ <|
  gok_cons ⟨ok55 100000,enters_of Try.func55 (by kernel_rfl) rfl⟩ <|
  gok_cons ⟨ok102_b82 100000,enters_of Try.func102 (by kernel_rfl) rfl⟩ <|
  gok_cons ⟨ok103_cf0 100000,enters_of Try.func103 (by kernel_rfl) rfl⟩ <|
  gok_cons ⟨ok108_a20 100000,enters_of Try.func108 (by kernel_rfl) rfl⟩ <|
  gok_cons ⟨ok113_aa3 100000,enters_of Try.func113 (by kernel_rfl) rfl⟩ <|
  gok_cons ⟨ok136_aa3 100000,enters_of Try.func136 (by kernel_rfl) rfl⟩ <|
  gok_cons ⟨ok139_40a 100000,enters_of Try.func139 (by kernel_rfl) rfl⟩ <|
  gok_cons ⟨ok163_452 100000,enters_of Try.func163 (by kernel_rfl) rfl⟩ <|
  gok_nil
theorem fns18_ok:Fns Try.prog fns18:=
  fns_cons Try.func18 <|
  fns_cons Try.func19 <|
  fns_cons Try.func20 <|
  fns_cons Try.func21 <|
  fns_cons Try.func25 <|
  fns_cons Try.func42 <|
  fns_cons Try.func43 <|
  fns_cons Try.func44 <|
  fns_cons Try.func45 <|
  fns_cons Try.func46 <|
  fns_cons Try.func47 <|
  fns_cons Try.func51 <|
  fns_cons Try.func52 <|
  fns_cons Try.func56 <|
  fns_cons Try.func57 <|
  fns_cons Try.func58 <|
  fns_cons Try.func59 <|
  fns_cons Try.func60 <|
  fns_cons Try.func61 <|
  fns_cons Try.func65 <|
  fns_cons Try.func66 <|
  fns_cons Try.func89 <|
  fns_cons Try.func90 <|
  fns_cons Try.func91 <|
  fns_cons Try.func92 <|
  fns_cons Try.func93 <|
  fns_cons Try.func94 <|
  fns_cons Try.func95 <|
  fns_cons Try.func96 <|
  fns_cons Try.func97 <|
  fns_cons Try.func104 <|
  fns_cons Try.func105 <|
  fns_cons Try.func114 <|
  fns_cons Try.func115 <|
  fns_cons Try.func116 <|
  fns_cons Try.func118 <|
  fns_cons Try.func143 <|
  fns_cons Try.func144 <|
  fns_cons Try.func145 <|
  fns_cons Try.func147 <|
  fns_cons Try.func154 <|
  fns_cons Try.func155 <|
  fns_cons Try.func156 <|
  fns_cons Try.func157 <|
  fns_cons Try.func158 <|
  fns_cons Try.func159 <|
  fns_cons Try.func160 <|
  fns_cons Try.func164 <|
  fns_cons Try.func175 <|
  fns_cons Try.func178 <|
  fns_cons Try.func181 <|
  fns_cons Try.func182 <|
  fns_cons Try.func186 <|
  fns_cons Try.func156 <|
  fns_nil
def evs18:Nat→Option Ev.Spec:=evs tab fns18 kpa18 100000 ext18 60
theorem evs18_ok:GOK Try.prog evs18:=evs_ok tab_ok mixed fns18_ok (by kernel_rfl) ext18_ok 60
theorem aw18_eq:evalFn tab evs18 (fun _=>none) (kpa18 18) 100000 Try.f18 [] [] trueR=some ():=by
  kernel_rfl
def F_law10_Awake (fuel:Nat) (k0:(Bool)→Option Ans):Option Ans:=k0 true
abbrev YF18:Type:=(Bool→Option Ans)→Option Ans
def spg18 (F:YF18):Ev.Spec:=fun args objs k=>match args,objs with | [],[]=>F (fun r=>k (.c (.bool r),[])) | _,_=>none
def spec18 (fuel:Nat):Ev.Spec:=spg18 (F_law10_Awake fuel)
theorem ok18 (fuel:Nat):FnOK Try.prog 18 (spec18 fuel):=by
  intro args objs kk r h
  unfold spec18 spg18 at h
  split at h
  · exact true_ok (fn_ok (fuel:=100000) tab_ok evs18_ok mixed Try.func18 (kp:=kpa18 18) (J:=fun _=>none) (c:=(Try.f18.body).getD .skip) rfl (fun q hq=>by rw [obl_none] at hq; cases hq)) aw18_eq h
  · cases h
def kp17 (i:Nat):Option (List Nat):=Ev.look i []
def Gg17 (f:Nat):Option Ev.Spec:=Ev.look f []
def G17 (fuel:Nat):Nat→Option Ev.Spec:=Gg17
def F_law10_long (fuel:Nat) (a:(List (Int×Int×(List Int)))) (b:(List (Int×Int×Int×Bool×Int×Int×(Int×Int×(List Int))))) (k0:(Bool)→Option Ans):Option Ans:=bif decide ((↑a.length:Int) > 120) then k0 true else k0 (decide ((↑b.length:Int) > 600))
abbrev YF17:Type:=((List (Int×Int×LI)))→((List (Int×Int×Int×Bool×Int×Int×(Int×Int×LI))))→(Bool→Option Ans)→Option Ans
theorem F17_eq (fuel:Nat) (a:(List (Int×Int×LI))) (b:(List (Int×Int×Int×Bool×Int×Int×(Int×Int×LI)))) (k:Ev.Cont):evalFn tab (G17 fuel) J0 kp17 fuel Try.f17 [.c (.sl (.pair (.int .i64) (.pair (.int .i64) (.sl (.int .u8)))) a),.c (.sl (.pair (.int .i64) (.pair (.int .i64) (.pair (.int .i64) (.pair .bool (.pair (.int .i64) (.pair (.int .i64) (.pair (.int .i64) (.pair (.int .i64) (.sl (.int .u8)))))))))) b)] [] k=F_law10_long fuel a b (fun r=>match r with | d=>k (.c (.bool d),[])):=by
  kernel_rfl
theorem hG17 (fuel:Nat):GOK Try.prog (G17 fuel):=
  gok_nil
def spg17 (F:YF17):Ev.Spec:=fun args objs k=>match args,objs with | [.c (.sl (.pair (.int .i64) (.pair (.int .i64) (.sl (.int .u8)))) a),.c (.sl (.pair (.int .i64) (.pair (.int .i64) (.pair (.int .i64) (.pair .bool (.pair (.int .i64) (.pair (.int .i64) (.pair (.int .i64) (.pair (.int .i64) (.sl (.int .u8)))))))))) b)],[]=>F a b (fun r=>match r with | d=>k (.c (.bool d),[])) | _,_=>none
theorem ok17 (fuel:Nat):FnOK Try.prog 17 (spg17 (F_law10_long fuel)):=by
  intro args objs kk r h
  unfold spg17 at h
  split at h
  · skip
    exact fo0 (hG17 fuel) Try.func17 rfl (by kernel_rfl) _ _ kk r ((F17_eq fuel _ _ kk).trans h)
  · cases h
def kp116 (i:Nat):Option (List Nat):=Ev.look i [(4,[2,3,29,30]),(100000,[]),(200006,[2,3]),(400000,[4])]
def Gg116 (f:Nat):Option Ev.Spec:=Ev.look f []
def G116 (fuel:Nat):Nat→Option Ev.Spec:=Gg116
abbrev V_ref06_SameBitmap_0:Type:=Int×Int×Int×Int×LI×Int×Int×LI
abbrev W_ref06_SameBitmap_0:Type:=(Bool→OA)×(Unit→OA)
def S_ref06_SameBitmap_0 (fuel:Nat) (v:Int×Int×Int×Int×(List Int)×Int×Int×(List Int)) (c:(Int×Int×Int×Int×(List Int)×Int×Int×(List Int))→Option Ans) (B:(Bool→Option Ans)×(Unit→Option Ans)):Option Ans:=match v,B with | (f,a,g,h,d,i,j,e),(ret,b)=>bif decide (a < f) then bif decide ((0:Int)≤a∧a < (↑d.length:Int)) then bif decide ((0:Int)≤a∧a < (↑e.length:Int)) then bif d.getD a.toNat (0:Int) != e.getD a.toNat (0:Int) then ret false else c (f,i64.wrap (a+(1:Int)),g,h,d,i,j,e) else none else none else b ()
def L_ref06_SameBitmap_0 (fuel:Nat) (v:V_ref06_SameBitmap_0) (ret:(Bool→Option Ans)) (b:(Unit→Option Ans)):Option Ans:=iter (S_ref06_SameBitmap_0 fuel) fuel v (ret,b)
def T116_0 (v:V_ref06_SameBitmap_0):Ev.St:=match v with | (a,b,d,e,f,g,h,i)=>⟨[(2,.c (.ptr 0 0)),(3,.c (.ptr 1 0)),(29,.c (i6 a)),(30,.c (i6 b))],[(0,.cells 35 [i6 d,i6 e,.sl (.int .u8) f]),(1,.cells 35 [i6 g,i6 h,.sl (.int .u8) i])],2,0⟩
def E116_0 (K:KT):W_ref06_SameBitmap_0:=((fun v=>match v with | a=>K .ret ⟨[(4,.c (.bool a))],[],0,0⟩),(fun v=>match v with | ()=>K .normal ⟨[],[],0,0⟩))
theorem S116_0_ok (fuel:Nat) (R:Ev.St→OA) (K:KT) (a b:Int) (c d:Int) (e:LI) (f g:Int) (h:LI):evalCode tab (G116 fuel) J0 kp116 fuel (bodyOf 0 Try.f116) (T116_0 (a,b,c,d,e,f,g,h)) (lc kp116 4 0 R K)=S_ref06_SameBitmap_0 fuel (a,b,c,d,e,f,g,h) (fun v=>R (T116_0 v)) (E116_0 K):=by
  kernel_rfl
def B116_0 (fuel:Nat):Ev.Blk:=fun st K=>match canonO (kp116 4) st with | some s=>(match s with | ⟨[(f,.c (.ptr g h)),(i,.c (.ptr j k)),(l,.c (i6 m)),(n,.c (i6 o))],[(p,.cells q [i6 r,i6 t,.sl (.int .u8) u]),(a,.cells b [i6 v,i6 w,.sl (.int .u8) x])],d,e⟩=>bif qb [f,g,h,i,j,k,l,n,p,q,a,b,d,e] [2,0,0,3,1,0,29,30,0,35,1,35,2,0] then iter (S_ref06_SameBitmap_0 fuel) fuel (m,o,r,t,u,v,w,x) (E116_0 K) else none | _=>none) | none=>none
theorem B116_0_ok (fuel:Nat) (st:Ev.St) (K:KT) (r:Ans) (h:B116_0 fuel st K=some r):evalCode tab (G116 fuel) J0 kp116 fuel (.block 0 (.loop (bodyOf 0 Try.f116))) st K=some r:=by
  unfold B116_0 at h
  split at h
  · rename_i s hs
    split at h
    · skip
      obtain ⟨hb,h⟩:=cond_some' h
      cases qb_eq hb
      exact blk_loop (S:=T116_0) (ks:=E116_0) (step:=S_ref06_SameBitmap_0 fuel) (v:=(_,_,_,_,_,_,_,_)) (by kernel_rfl) (by kernel_rfl) (fun R K v=>by obtain ⟨a,b,c,d,e,f,g,i⟩:=v; exact S116_0_ok fuel R K a b c d e f g i) hs h
    · cases h
  · cases h
def J116 (fuel:Nat) (i:Nat):Option Ev.Blk:=Ev.look i [(100000,B116_0 fuel)]
def F_ref06_SameBitmap (fuel:Nat) (b c:Int) (a:(List Int)) (d e:Int) (f:(List Int)) (k0:(Bool)→Option Ans):Option Ans:=bif b != d then k0 false else bif c != e then k0 false else bif (↑a.length:Int) != (↑f.length:Int) then k0 false else (L_ref06_SameBitmap_0 fuel ((↑a.length:Int),0,b,c,a,d,e,f) (fun ret0_0=>k0 ret0_0) (fun ()=>k0 true))
abbrev YF116:Type:=Int→Int→LI→Int→Int→LI→(Bool→Option Ans)→Option Ans
theorem F116_eq (fuel:Nat) (a b:Int) (d:LI) (e f:Int) (g:LI) (k:Ev.Cont):evalFn tab (G116 fuel) (J116 fuel) kp116 fuel Try.f116 [.agg [i6 a,i6 b,.sl (.int .u8) d],.agg [i6 e,i6 f,.sl (.int .u8) g]] [] k=F_ref06_SameBitmap fuel a b d e f g (fun r=>match r with | h=>k (.c (.bool h),[])):=by
  kernel_rfl
theorem hG116 (fuel:Nat):GOK Try.prog (G116 fuel):=
  gok_nil
theorem B116_0_blk (fuel:Nat):BlkOK Try.prog Try.f116.ntmps (.block 0 (.loop (bodyOf 0 Try.f116))) (B116_0 fuel):=bo0 (hG116 fuel) (by kernel_rfl) (by kernel_rfl) (B116_0_ok fuel)
def spg116 (F:YF116):Ev.Spec:=fun args objs k=>match args,objs with | [.agg [i6 a,i6 b,.sl (.int .u8) d],.agg [i6 e,i6 f,.sl (.int .u8) g]],[]=>F a b d e f g (fun r=>match r with | h=>k (.c (.bool h),[])) | _,_=>none
theorem ok116 (fuel:Nat):FnOK Try.prog 116 (spg116 (F_ref06_SameBitmap fuel)):=by
  intro args objs kk r h
  unfold spg116 at h
  split at h
  · skip
    exact fo1 (hG116 fuel) Try.func116 rfl (B116_0_blk fuel) (by kernel_rfl) _ _ kk r ((F116_eq fuel _ _ _ _ _ _ kk).trans h)
  · cases h
def kp61 (i:Nat):Option (List Nat):=Ev.look i []
def Gg61 (a:YF116) (f:Nat):Option Ev.Spec:=Ev.look f [(116,spg116 a)]
def G61 (fuel:Nat):Nat→Option Ev.Spec:=Gg61 (F_ref06_SameBitmap fuel)
def Fg_ref10_SameItem (fuel:Nat) (a:YF116) (j k l:Int) (m:Bool) (n o:Int) (p q:Int) (r:LI) (s b c:Int) (d:Bool) (e f:Int) (g h:Int) (i:LI) (k0:(Bool)→OA):OA:=bif j==s then bif k==b then bif l==c then bif m==d then bif n==e then bif o==f then (a p q r g h i (fun t=>k0 t)) else k0 false else k0 false else k0 false else k0 false else k0 false else k0 false
abbrev YF61:Type:=Int→Int→Int→Bool→Int→Int→Int→Int→LI→Int→Int→Int→Bool→Int→Int→Int→Int→LI→(Bool→Option Ans)→Option Ans
def F_ref10_SameItem (fuel:Nat):YF61:=Fg_ref10_SameItem fuel (F_ref06_SameBitmap fuel)
theorem F61_eqg (fuel:Nat) (a:YF116) (l m n:Int) (o:Bool) (p q:Int) (s t:Int) (u:LI) (v b d:Int) (e:Bool) (f g:Int) (h i:Int) (j:LI) (k:Ev.Cont):evalFn tab (Gg61 a) J0 kp61 fuel Try.f61 [.agg [i6 l,i6 m,i6 n,.bool o,i6 p,i6 q,i6 s,i6 t,.sl (.int .u8) u],.agg [i6 v,i6 b,i6 d,.bool e,i6 f,i6 g,i6 h,i6 i,.sl (.int .u8) j]] [] k=Fg_ref10_SameItem fuel a l m n o p q s t u v b d e f g h i j (fun r=>match r with | w=>k (.c (.bool w),[])):=by
  kernel_rfl
theorem hG61 (fuel:Nat):GOK Try.prog (G61 fuel):=
  gc (ok116 fuel) Try.func116 (by kernel_rfl) rfl <|
  gok_nil
def spg61 (F:YF61):Ev.Spec:=fun args objs k=>match args,objs with | [.agg [i6 j,i6 l,i6 m,.bool n,i6 o,i6 p,i6 q,i6 s,.sl (.int .u8) t],.agg [i6 u,i6 a,i6 b,.bool d,i6 e,i6 f,i6 g,i6 h,.sl (.int .u8) i]],[]=>F j l m n o p q s t u a b d e f g h i (fun r=>match r with | v=>k (.c (.bool v),[])) | _,_=>none
theorem ok61 (fuel:Nat):FnOK Try.prog 61 (spg61 (F_ref10_SameItem fuel)):=by
  intro args objs kk r h
  unfold spg61 at h
  split at h
  · skip
    exact fo0 (hG61 fuel) Try.func61 rfl (by kernel_rfl) _ _ kk r ((F61_eqg fuel (F_ref06_SameBitmap fuel) _ _ _ _ _ _ _ _ _ _ _ _ _ _ _ _ _ _ kk).trans h)
  · cases h
def kp21 (i:Nat):Option (List Nat):=Ev.look i [(4,[0,1,12,13]),(100000,[]),(200006,[0,1]),(400000,[4])]
def Gg21 (a:YF61) (f:Nat):Option Ev.Spec:=Ev.look f [(61,spg61 a)]
def G21 (fuel:Nat):Nat→Option Ev.Spec:=Gg21 (F_ref10_SameItem fuel)
abbrev V_ref10_SameItems_0:Type:=(List (Int×(Int×(Int×(Bool×(Int×(Int×(Int×(Int×LI)))))))))×(List (Int×(Int×(Int×(Bool×(Int×(Int×(Int×(Int×LI)))))))))×Int×Int
abbrev W_ref10_SameItems_0:Type:=(Bool→OA)×(Unit→OA)
def Sg_ref10_SameItems_0 (fuel:Nat) (g:YF61) (d:(List (Int×(Int×(Int×(Bool×(Int×(Int×(Int×(Int×LI)))))))))) (e:(List (Int×(Int×(Int×(Bool×(Int×(Int×(Int×(Int×LI)))))))))) (f a:Int) (c:V_ref10_SameItems_0→OA) (B:W_ref10_SameItems_0):OA:=match B with | (ret,b)=>bif decide (a < f) then bif decide (0≤a∧a < (↑d.length:Int)) then bif decide (0≤a∧a < (↑e.length:Int)) then (g ((d.getD a.toNat (0,0,0,false,0,0,0,0,[])).fst) ((d.getD a.toNat (0,0,0,false,0,0,0,0,[])).snd.fst) ((d.getD a.toNat (0,0,0,false,0,0,0,0,[])).snd.snd.fst) ((d.getD a.toNat (0,0,0,false,0,0,0,0,[])).snd.snd.snd.fst) ((d.getD a.toNat (0,0,0,false,0,0,0,0,[])).snd.snd.snd.snd.fst) ((d.getD a.toNat (0,0,0,false,0,0,0,0,[])).snd.snd.snd.snd.snd.fst) ((d.getD a.toNat (0,0,0,false,0,0,0,0,[])).snd.snd.snd.snd.snd.snd.fst) ((d.getD a.toNat (0,0,0,false,0,0,0,0,[])).snd.snd.snd.snd.snd.snd.snd.fst) ((d.getD a.toNat (0,0,0,false,0,0,0,0,[])).snd.snd.snd.snd.snd.snd.snd.snd) ((e.getD a.toNat (0,0,0,false,0,0,0,0,[])).fst) ((e.getD a.toNat (0,0,0,false,0,0,0,0,[])).snd.fst) ((e.getD a.toNat (0,0,0,false,0,0,0,0,[])).snd.snd.fst) ((e.getD a.toNat (0,0,0,false,0,0,0,0,[])).snd.snd.snd.fst) ((e.getD a.toNat (0,0,0,false,0,0,0,0,[])).snd.snd.snd.snd.fst) ((e.getD a.toNat (0,0,0,false,0,0,0,0,[])).snd.snd.snd.snd.snd.fst) ((e.getD a.toNat (0,0,0,false,0,0,0,0,[])).snd.snd.snd.snd.snd.snd.fst) ((e.getD a.toNat (0,0,0,false,0,0,0,0,[])).snd.snd.snd.snd.snd.snd.snd.fst) ((e.getD a.toNat (0,0,0,false,0,0,0,0,[])).snd.snd.snd.snd.snd.snd.snd.snd) (fun h=>bif !h then ret false else c (d,e,f,i64.wrap (a+1)))) else none else none else b ()
def S_ref10_SameItems_0 (fuel:Nat) (v:(List (Int×(Int×(Int×(Bool×(Int×(Int×(Int×(Int×(List Int))))))))))×(List (Int×(Int×(Int×(Bool×(Int×(Int×(Int×(Int×(List Int))))))))))×Int×Int) (c:((List (Int×(Int×(Int×(Bool×(Int×(Int×(Int×(Int×(List Int))))))))))×(List (Int×(Int×(Int×(Bool×(Int×(Int×(Int×(Int×(List Int))))))))))×Int×Int)→Option Ans) (B:(Bool→Option Ans)×(Unit→Option Ans)):Option Ans:=match v with | (a,b,d,e)=>Sg_ref10_SameItems_0 fuel (F_ref10_SameItem fuel) a b d e c B
def L_ref10_SameItems_0 (fuel:Nat) (v:V_ref10_SameItems_0) (ret:(Bool→Option Ans)) (b:(Unit→Option Ans)):Option Ans:=iter (S_ref10_SameItems_0 fuel) fuel v (ret,b)
def T21_0 (v:V_ref10_SameItems_0):Ev.St:=match v with | (a,b,d,e)=>⟨[(0,.c (.sl (.pair (.int .i64) (.pair (.int .i64) (.pair (.int .i64) (.pair .bool (.pair (.int .i64) (.pair (.int .i64) (.pair (.int .i64) (.pair (.int .i64) (.sl (.int .u8)))))))))) a)),(1,.c (.sl (.pair (.int .i64) (.pair (.int .i64) (.pair (.int .i64) (.pair .bool (.pair (.int .i64) (.pair (.int .i64) (.pair (.int .i64) (.pair (.int .i64) (.sl (.int .u8)))))))))) b)),(12,.c (i6 d)),(13,.c (i6 e))],[],0,0⟩
def E21_0 (K:KT):W_ref10_SameItems_0:=((fun v=>match v with | a=>K .ret ⟨[(4,.c (.bool a))],[],0,0⟩),(fun v=>match v with | ()=>K .normal ⟨[],[],0,0⟩))
theorem S21_0_okg (fuel:Nat) (a:YF61) (R:Ev.St→OA) (K:KT) (b:(List (Int×(Int×(Int×(Bool×(Int×(Int×(Int×(Int×LI)))))))))) (c:(List (Int×(Int×(Int×(Bool×(Int×(Int×(Int×(Int×LI)))))))))) (d e:Int):evalCode tab (Gg21 a) J0 kp21 fuel (bodyOf 0 Try.f21) (T21_0 (b,c,d,e)) (lc kp21 4 0 R K)=Sg_ref10_SameItems_0 fuel a b c d e (fun v=>R (T21_0 v)) (E21_0 K):=by
  kernel_rfl
def B21_0 (fuel:Nat):Ev.Blk:=fun st K=>match canonO (kp21 4) st with | some s=>(match s with | ⟨[(a,.c (.sl (.pair (.int .i64) (.pair (.int .i64) (.pair (.int .i64) (.pair .bool (.pair (.int .i64) (.pair (.int .i64) (.pair (.int .i64) (.pair (.int .i64) (.sl (.int .u8)))))))))) b)),(d,.c (.sl (.pair (.int .i64) (.pair (.int .i64) (.pair (.int .i64) (.pair .bool (.pair (.int .i64) (.pair (.int .i64) (.pair (.int .i64) (.pair (.int .i64) (.sl (.int .u8)))))))))) e)),(f,.c (i6 g)),(h,.c (i6 i))],[],j,k⟩=>bif qb [a,d,f,h,j,k] [0,1,12,13,0,0] then iter (S_ref10_SameItems_0 fuel) fuel (b,e,g,i) (E21_0 K) else none | _=>none) | none=>none
theorem B21_0_ok (fuel:Nat) (st:Ev.St) (K:KT) (r:Ans) (h:B21_0 fuel st K=some r):evalCode tab (G21 fuel) J0 kp21 fuel (.block 0 (.loop (bodyOf 0 Try.f21))) st K=some r:=by
  unfold B21_0 at h
  split at h
  · rename_i s hs
    split at h
    · skip
      obtain ⟨hb,h⟩:=cond_some' h
      cases qb_eq hb
      exact blk_loop (S:=T21_0) (ks:=E21_0) (step:=S_ref10_SameItems_0 fuel) (v:=(_,_,_,_)) (by kernel_rfl) (by kernel_rfl) (fun R K v=>by obtain ⟨a,b,c,d⟩:=v; exact S21_0_okg fuel (F_ref10_SameItem fuel) R K a b c d) hs h
    · cases h
  · cases h
def J21 (fuel:Nat) (i:Nat):Option Ev.Blk:=Ev.look i [(100000,B21_0 fuel)]
def Fg_ref10_SameItems (fuel:Nat) (c:YF61) (a:(List (Int×Int×Int×Bool×Int×Int×(Int×Int×LI)))) (b:(List (Int×Int×Int×Bool×Int×Int×(Int×Int×LI)))) (k0:(Bool)→OA):OA:=bif (↑a.length:Int) != (↑b.length:Int) then k0 false else (L_ref10_SameItems_0 fuel (a,b,(↑a.length:Int),0) (fun ret0_0=>k0 ret0_0) (fun ()=>k0 true))
abbrev YF21:Type:=((List (Int×Int×Int×Bool×Int×Int×(Int×Int×LI))))→((List (Int×Int×Int×Bool×Int×Int×(Int×Int×LI))))→(Bool→Option Ans)→Option Ans
def F_ref10_SameItems (fuel:Nat):YF21:=Fg_ref10_SameItems fuel (F_ref10_SameItem fuel)
theorem F21_eqg (fuel:Nat) (a:YF61) (b:(List (Int×Int×Int×Bool×Int×Int×(Int×Int×LI)))) (d:(List (Int×Int×Int×Bool×Int×Int×(Int×Int×LI)))) (k:Ev.Cont):evalFn tab (Gg21 a) (J21 fuel) kp21 fuel Try.f21 [.c (.sl (.pair (.int .i64) (.pair (.int .i64) (.pair (.int .i64) (.pair .bool (.pair (.int .i64) (.pair (.int .i64) (.pair (.int .i64) (.pair (.int .i64) (.sl (.int .u8)))))))))) b),.c (.sl (.pair (.int .i64) (.pair (.int .i64) (.pair (.int .i64) (.pair .bool (.pair (.int .i64) (.pair (.int .i64) (.pair (.int .i64) (.pair (.int .i64) (.sl (.int .u8)))))))))) d)] [] k=Fg_ref10_SameItems fuel a b d (fun r=>match r with | e=>k (.c (.bool e),[])):=by
  kernel_rfl
theorem hG21 (fuel:Nat):GOK Try.prog (G21 fuel):=
  gc (ok61 fuel) Try.func61 (by kernel_rfl) rfl <|
  gok_nil
theorem B21_0_blk (fuel:Nat):BlkOK Try.prog Try.f21.ntmps (.block 0 (.loop (bodyOf 0 Try.f21))) (B21_0 fuel):=bo0 (hG21 fuel) (by kernel_rfl) (by kernel_rfl) (B21_0_ok fuel)
def spg21 (F:YF21):Ev.Spec:=fun args objs k=>match args,objs with | [.c (.sl (.pair (.int .i64) (.pair (.int .i64) (.pair (.int .i64) (.pair .bool (.pair (.int .i64) (.pair (.int .i64) (.pair (.int .i64) (.pair (.int .i64) (.sl (.int .u8)))))))))) a),.c (.sl (.pair (.int .i64) (.pair (.int .i64) (.pair (.int .i64) (.pair .bool (.pair (.int .i64) (.pair (.int .i64) (.pair (.int .i64) (.pair (.int .i64) (.sl (.int .u8)))))))))) b)],[]=>F a b (fun r=>match r with | d=>k (.c (.bool d),[])) | _,_=>none
theorem ok21 (fuel:Nat):FnOK Try.prog 21 (spg21 (F_ref10_SameItems fuel)):=by
  intro args objs kk r h
  unfold spg21 at h
  split at h
  · skip
    exact fo1 (hG21 fuel) Try.func21 rfl (B21_0_blk fuel) (by kernel_rfl) _ _ kk r ((F21_eqg fuel (F_ref10_SameItem fuel) _ _ kk).trans h)
  · cases h
def kp118 (i:Nat):Option (List Nat):=Ev.look i []
def Gg118 (f:Nat):Option Ev.Spec:=Ev.look f []
def G118 (fuel:Nat):Nat→Option Ev.Spec:=Gg118
def F_bitmap_fits (fuel:Nat) (a b:Int) (k0:(Bool)→Option Ans):Option Ans:=bif decide (a≥0) then bif decide (b≥0) then bif decide (a≤200) then bif decide (b≤200) then k0 (decide (i64.wrap (a*b)≤8192)) else k0 false else k0 false else k0 false else k0 false
abbrev YF118:Type:=Int→Int→(Bool→Option Ans)→Option Ans
theorem F118_eq (fuel:Nat) (a b:Int) (k:Ev.Cont):evalFn tab (G118 fuel) J0 kp118 fuel Try.f118 [.c (i6 a),.c (i6 b)] [] k=F_bitmap_fits fuel a b (fun r=>match r with | d=>k (.c (.bool d),[])):=by
  kernel_rfl
theorem hG118 (fuel:Nat):GOK Try.prog (G118 fuel):=
  gok_nil
def spg118 (F:YF118):Ev.Spec:=fun args objs k=>match args,objs with | [.c (i6 a),.c (i6 b)],[]=>F a b (fun r=>match r with | d=>k (.c (.bool d),[])) | _,_=>none
theorem ok118 (fuel:Nat):FnOK Try.prog 118 (spg118 (F_bitmap_fits fuel)):=by
  intro args objs kk r h
  unfold spg118 at h
  split at h
  · skip
    exact fo0 (hG118 fuel) Try.func118 rfl (by kernel_rfl) _ _ kk r ((F118_eq fuel _ _ kk).trans h)
  · cases h
def kp65 (i:Nat):Option (List Nat):=Ev.look i [(4,[23,24,25]),(100000,[]),(400000,[2])]
def Gg65 (a:YF118) (f:Nat):Option Ev.Spec:=Ev.look f [(118,spg118 a)]
def G65 (fuel:Nat):Nat→Option Ev.Spec:=Gg65 (F_bitmap_fits fuel)
def Sg_bitmap_Valid_0 (fuel:Nat) (f:YF118) (d:LI) (e a:Int) (c:(LI×Int×Int)→OA) (B:(Bool→OA)×(Unit→OA)):OA:=match B with | (ret,b)=>bif decide (a < e) then bif decide (0≤a∧a < (↑d.length:Int)) then bif decide (d.getD a.toNat (0:Int) > (1:Int)) then ret false else c (d,e,i64.wrap (a+1)) else none else b ()
def S_bitmap_Valid_0 (fuel:Nat) (v:(List Int)×Int×Int) (c:((List Int)×Int×Int)→Option Ans) (B:(Bool→Option Ans)×(Unit→Option Ans)):Option Ans:=match v with | (a,b,d)=>Sg_bitmap_Valid_0 fuel (F_bitmap_fits fuel) a b d c B
def L_bitmap_Valid_0 (fuel:Nat) (v:(List Int)×Int×Int) (ret:(Bool→Option Ans)) (b:(Unit→Option Ans)):Option Ans:=iter (S_bitmap_Valid_0 fuel) fuel v (ret,b)
def T65_0 (v:LI×Int×Int):Ev.St:=match v with | (a,b,d)=>⟨[(23,.c (.sl (.int .u8) a)),(24,.c (i6 b)),(25,.c (i6 d))],[],0,0⟩
def E65_0 (K:KT):(Bool→OA)×(Unit→OA):=((fun v=>match v with | a=>K .ret ⟨[(2,.c (.bool a))],[],0,0⟩),(fun v=>match v with | ()=>K .normal ⟨[],[],0,0⟩))
theorem S65_0_okg (fuel:Nat) (a:YF118) (R:Ev.St→OA) (K:KT) (b:LI) (c d:Int):evalCode tab (Gg65 a) J0 kp65 fuel (bodyOf 0 Try.f65) (T65_0 (b,c,d)) (lc kp65 4 0 R K)=Sg_bitmap_Valid_0 fuel a b c d (fun v=>R (T65_0 v)) (E65_0 K):=by
  kernel_rfl
def B65_0 (fuel:Nat):Ev.Blk:=fun st K=>match canonO (kp65 4) st with | some s=>(match s with | ⟨[(a,.c (.sl (.int .u8) b)),(d,.c (i6 e)),(f,.c (i6 g))],[],h,i⟩=>bif qb [a,d,f,h,i] [23,24,25,0,0] then iter (S_bitmap_Valid_0 fuel) fuel (b,e,g) (E65_0 K) else none | _=>none) | none=>none
theorem B65_0_ok (fuel:Nat) (st:Ev.St) (K:KT) (r:Ans) (h:B65_0 fuel st K=some r):evalCode tab (G65 fuel) J0 kp65 fuel (.block 0 (.loop (bodyOf 0 Try.f65))) st K=some r:=by
  unfold B65_0 at h
  split at h
  · rename_i s hs
    split at h
    · skip
      obtain ⟨hb,h⟩:=cond_some' h
      cases qb_eq hb
      exact blk_loop (S:=T65_0) (ks:=E65_0) (step:=S_bitmap_Valid_0 fuel) (v:=(_,_,_)) (by kernel_rfl) (by kernel_rfl) (fun R K v=>by obtain ⟨a,b,c⟩:=v; exact S65_0_okg fuel (F_bitmap_fits fuel) R K a b c) hs h
    · cases h
  · cases h
def J65 (fuel:Nat) (i:Nat):Option Ev.Blk:=Ev.look i [(100000,B65_0 fuel)]
def Fg_bitmap_Valid (fuel:Nat) (d:YF118) (b c:Int) (a:LI) (k0:(Bool)→OA):OA:=(d b c (fun e=>bif !e then k0 false else bif (↑a.length:Int) != i64.wrap (b*c) then k0 false else (L_bitmap_Valid_0 fuel (a,(↑a.length:Int),0) (fun ret0_0=>k0 ret0_0) (fun ()=>k0 true))))
abbrev YF65:Type:=Int→Int→LI→(Bool→Option Ans)→Option Ans
def F_bitmap_Valid (fuel:Nat):YF65:=Fg_bitmap_Valid fuel (F_bitmap_fits fuel)
theorem F65_eqg (fuel:Nat) (a:YF118) (b d:Int) (e:LI) (k:Ev.Cont):evalFn tab (Gg65 a) (J65 fuel) kp65 fuel Try.f65 [.agg [i6 b,i6 d,.sl (.int .u8) e]] [] k=Fg_bitmap_Valid fuel a b d e (fun r=>match r with | f=>k (.c (.bool f),[])):=by
  kernel_rfl
theorem hG65 (fuel:Nat):GOK Try.prog (G65 fuel):=
  gc (ok118 fuel) Try.func118 (by kernel_rfl) rfl <|
  gok_nil
theorem B65_0_blk (fuel:Nat):BlkOK Try.prog Try.f65.ntmps (.block 0 (.loop (bodyOf 0 Try.f65))) (B65_0 fuel):=bo0 (hG65 fuel) (by kernel_rfl) (by kernel_rfl) (B65_0_ok fuel)
def spg65 (F:YF65):Ev.Spec:=fun args objs k=>match args,objs with | [.agg [i6 a,i6 b,.sl (.int .u8) d]],[]=>F a b d (fun r=>match r with | e=>k (.c (.bool e),[])) | _,_=>none
theorem ok65 (fuel:Nat):FnOK Try.prog 65 (spg65 (F_bitmap_Valid fuel)):=by
  intro args objs kk r h
  unfold spg65 at h
  split at h
  · skip
    exact fo1 (hG65 fuel) Try.func65 rfl (B65_0_blk fuel) (by kernel_rfl) _ _ kk r ((F65_eqg fuel (F_bitmap_fits fuel) _ _ _ kk).trans h)
  · cases h
def kp92 (i:Nat):Option (List Nat):=Ev.look i []
def Gg92 (a:YF65) (f:Nat):Option Ev.Spec:=Ev.look f [(65,spg65 a)]
def G92 (fuel:Nat):Nat→Option Ev.Spec:=Gg92 (F_bitmap_Valid fuel)
def Fg_text_isShape (fuel:Nat) (c:YF65) (a b:Int) (d:LI) (k0:(Bool)→OA):OA:=(c a b d (fun e=>bif e then bif decide (a≥1) then bif decide (a≤40) then bif decide (b≥1) then k0 (decide (b≤40)) else k0 false else k0 false else k0 false else k0 false))
abbrev YF92:Type:=Int→Int→LI→(Bool→Option Ans)→Option Ans
def F_text_isShape (fuel:Nat):YF92:=Fg_text_isShape fuel (F_bitmap_Valid fuel)
theorem F92_eqg (fuel:Nat) (a:YF65) (b d:Int) (e:LI) (k:Ev.Cont):evalFn tab (Gg92 a) J0 kp92 fuel Try.f92 [.agg [i6 b,i6 d,.sl (.int .u8) e]] [] k=Fg_text_isShape fuel a b d e (fun r=>match r with | f=>k (.c (.bool f),[])):=by
  kernel_rfl
theorem hG92 (fuel:Nat):GOK Try.prog (G92 fuel):=
  gc (ok65 fuel) Try.func65 (by kernel_rfl) rfl <|
  gok_nil
def spg92 (F:YF92):Ev.Spec:=fun args objs k=>match args,objs with | [.agg [i6 a,i6 b,.sl (.int .u8) d]],[]=>F a b d (fun r=>match r with | e=>k (.c (.bool e),[])) | _,_=>none
theorem ok92 (fuel:Nat):FnOK Try.prog 92 (spg92 (F_text_isShape fuel)):=by
  intro args objs kk r h
  unfold spg92 at h
  split at h
  · skip
    exact fo0 (hG92 fuel) Try.func92 rfl (by kernel_rfl) _ _ kk r ((F92_eqg fuel (F_bitmap_Valid fuel) _ _ _ kk).trans h)
  · cases h
def kp91 (i:Nat):Option (List Nat):=Ev.look i []
def Gg91 (a:YF92) (f:Nat):Option Ev.Spec:=Ev.look f [(92,spg92 a)]
def G91 (fuel:Nat):Nat→Option Ev.Spec:=Gg91 (F_text_isShape fuel)
def Fg_text_begun_1 (fuel:Nat) (a:YF92) (b c:Int) (d:LI) (k0:(Bool)→OA):OA:=(a b c d (fun e=>k0 !e))
abbrev YF91:Type:=Int→Int→LI→(Bool→Option Ans)→Option Ans
def F_text_begun_1 (fuel:Nat):YF91:=Fg_text_begun_1 fuel (F_text_isShape fuel)
theorem F91_eqg (fuel:Nat) (a:YF92) (b d:Int) (e:LI) (k:Ev.Cont):evalFn tab (Gg91 a) J0 kp91 fuel Try.f91 [.agg [i6 b,i6 d,.sl (.int .u8) e]] [] k=Fg_text_begun_1 fuel a b d e (fun r=>match r with | f=>k (.c (.bool f),[])):=by
  kernel_rfl
theorem hG91 (fuel:Nat):GOK Try.prog (G91 fuel):=
  gc (ok92 fuel) Try.func92 (by kernel_rfl) rfl <|
  gok_nil
def spg91 (F:YF91):Ev.Spec:=fun args objs k=>match args,objs with | [.agg [i6 a,i6 b,.sl (.int .u8) d]],[]=>F a b d (fun r=>match r with | e=>k (.c (.bool e),[])) | _,_=>none
theorem ok91 (fuel:Nat):FnOK Try.prog 91 (spg91 (F_text_begun_1 fuel)):=by
  intro args objs kk r h
  unfold spg91 at h
  split at h
  · skip
    exact fo0 (hG91 fuel) Try.func91 rfl (by kernel_rfl) _ _ kk r ((F91_eqg fuel (F_text_isShape fuel) _ _ _ kk).trans h)
  · cases h
def kp144_261 (i:Nat):Option (List Nat):=Ev.look i [(2,[0,1,7,8]),(100000,[]),(400000,[4])]
def Gg144_261 (a:YF91) (f:Nat):Option Ev.Spec:=Ev.look f [(91,spg91 a)]
def G144_261 (fuel:Nat):Nat→Option Ev.Spec:=Gg144_261 (F_text_begun_1 fuel)
abbrev V_slices_IndexFunc_api_Bitmap_api_Bitmap_261_0:Type:=(List (Int×(Int×LI)))×Int×Int
abbrev W_slices_IndexFunc_api_Bitmap_api_Bitmap_261_0:Type:=(Int→OA)×(Unit→OA)
def Sg_slices_IndexFunc_api_Bitmap_api_Bitmap_261_0 (fuel:Nat) (f:YF91) (d:(List (Int×(Int×LI)))) (e a:Int) (c:V_slices_IndexFunc_api_Bitmap_api_Bitmap_261_0→OA) (B:W_slices_IndexFunc_api_Bitmap_api_Bitmap_261_0):OA:=match B with | (ret,b)=>bif decide (a < e) then bif decide (0≤a∧a < (↑d.length:Int)) then (f ((d.getD a.toNat (0,0,[])).fst) ((d.getD a.toNat (0,0,[])).snd.fst) ((d.getD a.toNat (0,0,[])).snd.snd) (fun g=>bif g then ret a else c (d,e,i64.wrap (a+1)))) else none else b ()
def S_slices_IndexFunc_api_Bitmap_api_Bitmap_261_0 (fuel:Nat) (v:(List (Int×(Int×(List Int))))×Int×Int) (c:((List (Int×(Int×(List Int))))×Int×Int)→Option Ans) (B:(Int→Option Ans)×(Unit→Option Ans)):Option Ans:=match v with | (a,b,d)=>Sg_slices_IndexFunc_api_Bitmap_api_Bitmap_261_0 fuel (F_text_begun_1 fuel) a b d c B
def L_slices_IndexFunc_api_Bitmap_api_Bitmap_261_0 (fuel:Nat) (v:V_slices_IndexFunc_api_Bitmap_api_Bitmap_261_0) (ret:(Int→Option Ans)) (b:(Unit→Option Ans)):Option Ans:=iter (S_slices_IndexFunc_api_Bitmap_api_Bitmap_261_0 fuel) fuel v (ret,b)
def T144_261_0 (v:V_slices_IndexFunc_api_Bitmap_api_Bitmap_261_0):Ev.St:=match v with | (a,b,d)=>⟨[(0,.c (.sl (.pair (.int .i64) (.pair (.int .i64) (.sl (.int .u8)))) a)),(1,.c (.clo 91 [])),(7,.c (i6 b)),(8,.c (i6 d))],[],0,0⟩
def E144_261_0 (K:KT):W_slices_IndexFunc_api_Bitmap_api_Bitmap_261_0:=((fun v=>match v with | a=>K .ret ⟨[(4,.c (i6 a))],[],0,0⟩),(fun v=>match v with | ()=>K .normal ⟨[],[],0,0⟩))
theorem S144_261_0_okg (fuel:Nat) (a:YF91) (R:Ev.St→OA) (K:KT) (b:(List (Int×(Int×LI)))) (c d:Int):evalCode tab (Gg144_261 a) J0 kp144_261 fuel (bodyOf 0 Try.f144) (T144_261_0 (b,c,d)) (lc kp144_261 2 0 R K)=Sg_slices_IndexFunc_api_Bitmap_api_Bitmap_261_0 fuel a b c d (fun v=>R (T144_261_0 v)) (E144_261_0 K):=by
  kernel_rfl
def B144_261_0 (fuel:Nat):Ev.Blk:=fun st K=>match canonO (kp144_261 2) st with | some s=>(match s with | ⟨[(a,.c (.sl (.pair (.int .i64) (.pair (.int .i64) (.sl (.int .u8)))) b)),(d,.c (.clo e [])),(f,.c (i6 g)),(h,.c (i6 i))],[],j,k⟩=>bif qb [a,d,e,f,h,j,k] [0,1,91,7,8,0,0] then iter (S_slices_IndexFunc_api_Bitmap_api_Bitmap_261_0 fuel) fuel (b,g,i) (E144_261_0 K) else none | _=>none) | none=>none
theorem B144_261_0_ok (fuel:Nat) (st:Ev.St) (K:KT) (r:Ans) (h:B144_261_0 fuel st K=some r):evalCode tab (G144_261 fuel) J0 kp144_261 fuel (.block 0 (.loop (bodyOf 0 Try.f144))) st K=some r:=by
  unfold B144_261_0 at h
  split at h
  · rename_i s hs
    split at h
    · skip
      obtain ⟨hb,h⟩:=cond_some' h
      cases qb_eq hb
      exact blk_loop (S:=T144_261_0) (ks:=E144_261_0) (step:=S_slices_IndexFunc_api_Bitmap_api_Bitmap_261_0 fuel) (v:=(_,_,_)) (by kernel_rfl) (by kernel_rfl) (fun R K v=>by obtain ⟨a,b,c⟩:=v; exact S144_261_0_okg fuel (F_text_begun_1 fuel) R K a b c) hs h
    · cases h
  · cases h
def J144_261 (fuel:Nat) (i:Nat):Option Ev.Blk:=Ev.look i [(100000,B144_261_0 fuel)]
def Fg_slices_IndexFunc_api_Bitmap_api_Bitmap_261 (fuel:Nat) (b:YF91) (a:(List (Int×(Int×LI)))) (k0:(Int)→OA):OA:=(L_slices_IndexFunc_api_Bitmap_api_Bitmap_261_0 fuel (a,(↑a.length:Int),0) (fun ret0_0=>k0 ret0_0) (fun ()=>k0 ((-1:Int))))
abbrev YF144_261:Type:=((List (Int×(Int×LI))))→(Int→Option Ans)→Option Ans
def F_slices_IndexFunc_api_Bitmap_api_Bitmap_261 (fuel:Nat):YF144_261:=Fg_slices_IndexFunc_api_Bitmap_api_Bitmap_261 fuel (F_text_begun_1 fuel)
theorem F144_261_eqg (fuel:Nat) (a:YF91) (b:(List (Int×(Int×LI)))) (k:Ev.Cont):evalFn tab (Gg144_261 a) (J144_261 fuel) kp144_261 fuel Try.f144 [.c (.sl (.pair (.int .i64) (.pair (.int .i64) (.sl (.int .u8)))) b),.c (.clo 91 [])] [] k=Fg_slices_IndexFunc_api_Bitmap_api_Bitmap_261 fuel a b (fun r=>match r with | d=>k (.c (i6 d),[])):=by
  kernel_rfl
theorem hG144_261 (fuel:Nat):GOK Try.prog (G144_261 fuel):=
  gc (ok91 fuel) Try.func91 (by kernel_rfl) rfl <|
  gok_nil
theorem B144_261_0_blk (fuel:Nat):BlkOK Try.prog Try.f144.ntmps (.block 0 (.loop (bodyOf 0 Try.f144))) (B144_261_0 fuel):=bo0 (hG144_261 fuel) (by kernel_rfl) (by kernel_rfl) (B144_261_0_ok fuel)
def spg144_261 (F:YF144_261):Ev.Spec:=fun args objs k=>match args,objs with | [.c (.sl (.pair (.int .i64) (.pair (.int .i64) (.sl (.int .u8)))) a),.c (.clo b [])],[]=>bif qb [b] [91] then F a (fun r=>match r with | d=>k (.c (i6 d),[])) else none | _,_=>none
theorem ok144_261 (fuel:Nat):FnOK Try.prog 144 (spg144_261 (F_slices_IndexFunc_api_Bitmap_api_Bitmap_261 fuel)):=by
  intro args objs kk r h
  unfold spg144_261 at h
  split at h
  · skip
    obtain ⟨hb,h⟩:=cond_some' h
    cases qb_eq hb
    exact fo1 (hG144_261 fuel) Try.func144 rfl (B144_261_0_blk fuel) (by kernel_rfl) _ _ kk r ((F144_261_eqg fuel (F_text_begun_1 fuel) _ kk).trans h)
  · cases h
def kp90_261 (i:Nat):Option (List Nat):=Ev.look i []
def Gg90_261 (a:YF144_261) (f:Nat):Option Ev.Spec:=Ev.look f [(144,spg144_261 a)]
def G90_261 (fuel:Nat):Nat→Option Ev.Spec:=Gg90_261 (F_slices_IndexFunc_api_Bitmap_api_Bitmap_261 fuel)
def Fg_slices_ContainsFunc_api_Bitmap_api_Bitmap_261 (fuel:Nat) (a:YF144_261) (b:(List (Int×(Int×LI)))) (k0:(Bool)→OA):OA:=(a b (fun c=>k0 (decide (c≥0))))
abbrev YF90_261:Type:=((List (Int×(Int×LI))))→(Bool→Option Ans)→Option Ans
def F_slices_ContainsFunc_api_Bitmap_api_Bitmap_261 (fuel:Nat):YF90_261:=Fg_slices_ContainsFunc_api_Bitmap_api_Bitmap_261 fuel (F_slices_IndexFunc_api_Bitmap_api_Bitmap_261 fuel)
theorem F90_261_eqg (fuel:Nat) (a:YF144_261) (b:(List (Int×(Int×LI)))) (k:Ev.Cont):evalFn tab (Gg90_261 a) J0 kp90_261 fuel Try.f90 [.c (.sl (.pair (.int .i64) (.pair (.int .i64) (.sl (.int .u8)))) b),.c (.clo 91 [])] [] k=Fg_slices_ContainsFunc_api_Bitmap_api_Bitmap_261 fuel a b (fun r=>match r with | d=>k (.c (.bool d),[])):=by
  kernel_rfl
theorem hG90_261 (fuel:Nat):GOK Try.prog (G90_261 fuel):=
  gc (ok144_261 fuel) Try.func144 (by kernel_rfl) rfl <|
  gok_nil
def spg90_261 (F:YF90_261):Ev.Spec:=fun args objs k=>match args,objs with | [.c (.sl (.pair (.int .i64) (.pair (.int .i64) (.sl (.int .u8)))) a),.c (.clo b [])],[]=>bif qb [b] [91] then F a (fun r=>match r with | d=>k (.c (.bool d),[])) else none | _,_=>none
theorem ok90_261 (fuel:Nat):FnOK Try.prog 90 (spg90_261 (F_slices_ContainsFunc_api_Bitmap_api_Bitmap_261 fuel)):=by
  intro args objs kk r h
  unfold spg90_261 at h
  split at h
  · skip
    obtain ⟨hb,h⟩:=cond_some' h
    cases qb_eq hb
    exact fo0 (hG90_261 fuel) Try.func90 rfl (by kernel_rfl) _ _ kk r ((F90_261_eqg fuel (F_slices_IndexFunc_api_Bitmap_api_Bitmap_261 fuel) _ kk).trans h)
  · cases h
def kp94 (i:Nat):Option (List Nat):=Ev.look i []
def Gg94 (a:YF92) (f:Nat):Option Ev.Spec:=Ev.look f [(92,spg92 a)]
def G94 (fuel:Nat):Nat→Option Ev.Spec:=Gg94 (F_text_isShape fuel)
def Fg_text_begun_2 (fuel:Nat) (a:YF92) (g h i:Int) (b:Bool) (j k:Int) (c d:Int) (e:LI) (k0:(Bool)→OA):OA:=bif b then (a c d e (fun f=>k0 !f)) else k0 false
abbrev YF94:Type:=Int→Int→Int→Bool→Int→Int→Int→Int→LI→(Bool→Option Ans)→Option Ans
def F_text_begun_2 (fuel:Nat):YF94:=Fg_text_begun_2 fuel (F_text_isShape fuel)
theorem F94_eqg (fuel:Nat) (a:YF92) (b d e:Int) (f:Bool) (g h:Int) (i j:Int) (l:LI) (k:Ev.Cont):evalFn tab (Gg94 a) J0 kp94 fuel Try.f94 [.agg [i6 b,i6 d,i6 e,.bool f,i6 g,i6 h,i6 i,i6 j,.sl (.int .u8) l]] [] k=Fg_text_begun_2 fuel a b d e f g h i j l (fun r=>match r with | m=>k (.c (.bool m),[])):=by
  kernel_rfl
theorem hG94 (fuel:Nat):GOK Try.prog (G94 fuel):=
  gc (ok92 fuel) Try.func92 (by kernel_rfl) rfl <|
  gok_nil
def spg94 (F:YF94):Ev.Spec:=fun args objs k=>match args,objs with | [.agg [i6 a,i6 b,i6 d,.bool e,i6 f,i6 g,i6 h,i6 i,.sl (.int .u8) j]],[]=>F a b d e f g h i j (fun r=>match r with | l=>k (.c (.bool l),[])) | _,_=>none
theorem ok94 (fuel:Nat):FnOK Try.prog 94 (spg94 (F_text_begun_2 fuel)):=by
  intro args objs kk r h
  unfold spg94 at h
  split at h
  · skip
    exact fo0 (hG94 fuel) Try.func94 rfl (by kernel_rfl) _ _ kk r ((F94_eqg fuel (F_text_isShape fuel) _ _ _ _ _ _ _ _ _ kk).trans h)
  · cases h
def kp145_177 (i:Nat):Option (List Nat):=Ev.look i [(2,[0,1,7,8]),(100000,[]),(400000,[4])]
def Gg145_177 (a:YF94) (f:Nat):Option Ev.Spec:=Ev.look f [(94,spg94 a)]
def G145_177 (fuel:Nat):Nat→Option Ev.Spec:=Gg145_177 (F_text_begun_2 fuel)
abbrev V_slices_IndexFunc_api_Item_api_Item_177_0:Type:=(List (Int×(Int×(Int×(Bool×(Int×(Int×(Int×(Int×LI)))))))))×Int×Int
abbrev W_slices_IndexFunc_api_Item_api_Item_177_0:Type:=(Int→OA)×(Unit→OA)
def Sg_slices_IndexFunc_api_Item_api_Item_177_0 (fuel:Nat) (f:YF94) (d:(List (Int×(Int×(Int×(Bool×(Int×(Int×(Int×(Int×LI)))))))))) (e a:Int) (c:V_slices_IndexFunc_api_Item_api_Item_177_0→OA) (B:W_slices_IndexFunc_api_Item_api_Item_177_0):OA:=match B with | (ret,b)=>bif decide (a < e) then bif decide (0≤a∧a < (↑d.length:Int)) then (f ((d.getD a.toNat (0,0,0,false,0,0,0,0,[])).fst) ((d.getD a.toNat (0,0,0,false,0,0,0,0,[])).snd.fst) ((d.getD a.toNat (0,0,0,false,0,0,0,0,[])).snd.snd.fst) ((d.getD a.toNat (0,0,0,false,0,0,0,0,[])).snd.snd.snd.fst) ((d.getD a.toNat (0,0,0,false,0,0,0,0,[])).snd.snd.snd.snd.fst) ((d.getD a.toNat (0,0,0,false,0,0,0,0,[])).snd.snd.snd.snd.snd.fst) ((d.getD a.toNat (0,0,0,false,0,0,0,0,[])).snd.snd.snd.snd.snd.snd.fst) ((d.getD a.toNat (0,0,0,false,0,0,0,0,[])).snd.snd.snd.snd.snd.snd.snd.fst) ((d.getD a.toNat (0,0,0,false,0,0,0,0,[])).snd.snd.snd.snd.snd.snd.snd.snd) (fun g=>bif g then ret a else c (d,e,i64.wrap (a+1)))) else none else b ()
def S_slices_IndexFunc_api_Item_api_Item_177_0 (fuel:Nat) (v:(List (Int×(Int×(Int×(Bool×(Int×(Int×(Int×(Int×(List Int))))))))))×Int×Int) (c:((List (Int×(Int×(Int×(Bool×(Int×(Int×(Int×(Int×(List Int))))))))))×Int×Int)→Option Ans) (B:(Int→Option Ans)×(Unit→Option Ans)):Option Ans:=match v with | (a,b,d)=>Sg_slices_IndexFunc_api_Item_api_Item_177_0 fuel (F_text_begun_2 fuel) a b d c B
def L_slices_IndexFunc_api_Item_api_Item_177_0 (fuel:Nat) (v:V_slices_IndexFunc_api_Item_api_Item_177_0) (ret:(Int→Option Ans)) (b:(Unit→Option Ans)):Option Ans:=iter (S_slices_IndexFunc_api_Item_api_Item_177_0 fuel) fuel v (ret,b)
def T145_177_0 (v:V_slices_IndexFunc_api_Item_api_Item_177_0):Ev.St:=match v with | (a,b,d)=>⟨[(0,.c (.sl (.pair (.int .i64) (.pair (.int .i64) (.pair (.int .i64) (.pair .bool (.pair (.int .i64) (.pair (.int .i64) (.pair (.int .i64) (.pair (.int .i64) (.sl (.int .u8)))))))))) a)),(1,.c (.clo 94 [])),(7,.c (i6 b)),(8,.c (i6 d))],[],0,0⟩
def E145_177_0 (K:KT):W_slices_IndexFunc_api_Item_api_Item_177_0:=((fun v=>match v with | a=>K .ret ⟨[(4,.c (i6 a))],[],0,0⟩),(fun v=>match v with | ()=>K .normal ⟨[],[],0,0⟩))
theorem S145_177_0_okg (fuel:Nat) (a:YF94) (R:Ev.St→OA) (K:KT) (b:(List (Int×(Int×(Int×(Bool×(Int×(Int×(Int×(Int×LI)))))))))) (c d:Int):evalCode tab (Gg145_177 a) J0 kp145_177 fuel (bodyOf 0 Try.f145) (T145_177_0 (b,c,d)) (lc kp145_177 2 0 R K)=Sg_slices_IndexFunc_api_Item_api_Item_177_0 fuel a b c d (fun v=>R (T145_177_0 v)) (E145_177_0 K):=by
  kernel_rfl
def B145_177_0 (fuel:Nat):Ev.Blk:=fun st K=>match canonO (kp145_177 2) st with | some s=>(match s with | ⟨[(a,.c (.sl (.pair (.int .i64) (.pair (.int .i64) (.pair (.int .i64) (.pair .bool (.pair (.int .i64) (.pair (.int .i64) (.pair (.int .i64) (.pair (.int .i64) (.sl (.int .u8)))))))))) b)),(d,.c (.clo e [])),(f,.c (i6 g)),(h,.c (i6 i))],[],j,k⟩=>bif qb [a,d,e,f,h,j,k] [0,1,94,7,8,0,0] then iter (S_slices_IndexFunc_api_Item_api_Item_177_0 fuel) fuel (b,g,i) (E145_177_0 K) else none | _=>none) | none=>none
theorem B145_177_0_ok (fuel:Nat) (st:Ev.St) (K:KT) (r:Ans) (h:B145_177_0 fuel st K=some r):evalCode tab (G145_177 fuel) J0 kp145_177 fuel (.block 0 (.loop (bodyOf 0 Try.f145))) st K=some r:=by
  unfold B145_177_0 at h
  split at h
  · rename_i s hs
    split at h
    · skip
      obtain ⟨hb,h⟩:=cond_some' h
      cases qb_eq hb
      exact blk_loop (S:=T145_177_0) (ks:=E145_177_0) (step:=S_slices_IndexFunc_api_Item_api_Item_177_0 fuel) (v:=(_,_,_)) (by kernel_rfl) (by kernel_rfl) (fun R K v=>by obtain ⟨a,b,c⟩:=v; exact S145_177_0_okg fuel (F_text_begun_2 fuel) R K a b c) hs h
    · cases h
  · cases h
def J145_177 (fuel:Nat) (i:Nat):Option Ev.Blk:=Ev.look i [(100000,B145_177_0 fuel)]
def Fg_slices_IndexFunc_api_Item_api_Item_177 (fuel:Nat) (b:YF94) (a:(List (Int×(Int×(Int×(Bool×(Int×(Int×(Int×(Int×LI)))))))))) (k0:(Int)→OA):OA:=(L_slices_IndexFunc_api_Item_api_Item_177_0 fuel (a,(↑a.length:Int),0) (fun ret0_0=>k0 ret0_0) (fun ()=>k0 ((-1:Int))))
abbrev YF145_177:Type:=((List (Int×(Int×(Int×(Bool×(Int×(Int×(Int×(Int×LI))))))))))→(Int→Option Ans)→Option Ans
def F_slices_IndexFunc_api_Item_api_Item_177 (fuel:Nat):YF145_177:=Fg_slices_IndexFunc_api_Item_api_Item_177 fuel (F_text_begun_2 fuel)
theorem F145_177_eqg (fuel:Nat) (a:YF94) (b:(List (Int×(Int×(Int×(Bool×(Int×(Int×(Int×(Int×LI)))))))))) (k:Ev.Cont):evalFn tab (Gg145_177 a) (J145_177 fuel) kp145_177 fuel Try.f145 [.c (.sl (.pair (.int .i64) (.pair (.int .i64) (.pair (.int .i64) (.pair .bool (.pair (.int .i64) (.pair (.int .i64) (.pair (.int .i64) (.pair (.int .i64) (.sl (.int .u8)))))))))) b),.c (.clo 94 [])] [] k=Fg_slices_IndexFunc_api_Item_api_Item_177 fuel a b (fun r=>match r with | d=>k (.c (i6 d),[])):=by
  kernel_rfl
theorem hG145_177 (fuel:Nat):GOK Try.prog (G145_177 fuel):=
  gc (ok94 fuel) Try.func94 (by kernel_rfl) rfl <|
  gok_nil
theorem B145_177_0_blk (fuel:Nat):BlkOK Try.prog Try.f145.ntmps (.block 0 (.loop (bodyOf 0 Try.f145))) (B145_177_0 fuel):=bo0 (hG145_177 fuel) (by kernel_rfl) (by kernel_rfl) (B145_177_0_ok fuel)
def spg145_177 (F:YF145_177):Ev.Spec:=fun args objs k=>match args,objs with | [.c (.sl (.pair (.int .i64) (.pair (.int .i64) (.pair (.int .i64) (.pair .bool (.pair (.int .i64) (.pair (.int .i64) (.pair (.int .i64) (.pair (.int .i64) (.sl (.int .u8)))))))))) a),.c (.clo b [])],[]=>bif qb [b] [94] then F a (fun r=>match r with | d=>k (.c (i6 d),[])) else none | _,_=>none
theorem ok145_177 (fuel:Nat):FnOK Try.prog 145 (spg145_177 (F_slices_IndexFunc_api_Item_api_Item_177 fuel)):=by
  intro args objs kk r h
  unfold spg145_177 at h
  split at h
  · skip
    obtain ⟨hb,h⟩:=cond_some' h
    cases qb_eq hb
    exact fo1 (hG145_177 fuel) Try.func145 rfl (B145_177_0_blk fuel) (by kernel_rfl) _ _ kk r ((F145_177_eqg fuel (F_text_begun_2 fuel) _ kk).trans h)
  · cases h
def kp93_177 (i:Nat):Option (List Nat):=Ev.look i []
def Gg93_177 (a:YF145_177) (f:Nat):Option Ev.Spec:=Ev.look f [(145,spg145_177 a)]
def G93_177 (fuel:Nat):Nat→Option Ev.Spec:=Gg93_177 (F_slices_IndexFunc_api_Item_api_Item_177 fuel)
def Fg_slices_ContainsFunc_api_Item_api_Item_177 (fuel:Nat) (a:YF145_177) (b:(List (Int×(Int×(Int×(Bool×(Int×(Int×(Int×(Int×LI)))))))))) (k0:(Bool)→OA):OA:=(a b (fun c=>k0 (decide (c≥0))))
abbrev YF93_177:Type:=((List (Int×(Int×(Int×(Bool×(Int×(Int×(Int×(Int×LI))))))))))→(Bool→Option Ans)→Option Ans
def F_slices_ContainsFunc_api_Item_api_Item_177 (fuel:Nat):YF93_177:=Fg_slices_ContainsFunc_api_Item_api_Item_177 fuel (F_slices_IndexFunc_api_Item_api_Item_177 fuel)
theorem F93_177_eqg (fuel:Nat) (a:YF145_177) (b:(List (Int×(Int×(Int×(Bool×(Int×(Int×(Int×(Int×LI)))))))))) (k:Ev.Cont):evalFn tab (Gg93_177 a) J0 kp93_177 fuel Try.f93 [.c (.sl (.pair (.int .i64) (.pair (.int .i64) (.pair (.int .i64) (.pair .bool (.pair (.int .i64) (.pair (.int .i64) (.pair (.int .i64) (.pair (.int .i64) (.sl (.int .u8)))))))))) b),.c (.clo 94 [])] [] k=Fg_slices_ContainsFunc_api_Item_api_Item_177 fuel a b (fun r=>match r with | d=>k (.c (.bool d),[])):=by
  kernel_rfl
theorem hG93_177 (fuel:Nat):GOK Try.prog (G93_177 fuel):=
  gc (ok145_177 fuel) Try.func145 (by kernel_rfl) rfl <|
  gok_nil
def spg93_177 (F:YF93_177):Ev.Spec:=fun args objs k=>match args,objs with | [.c (.sl (.pair (.int .i64) (.pair (.int .i64) (.pair (.int .i64) (.pair .bool (.pair (.int .i64) (.pair (.int .i64) (.pair (.int .i64) (.pair (.int .i64) (.sl (.int .u8)))))))))) a),.c (.clo b [])],[]=>bif qb [b] [94] then F a (fun r=>match r with | d=>k (.c (.bool d),[])) else none | _,_=>none
theorem ok93_177 (fuel:Nat):FnOK Try.prog 93 (spg93_177 (F_slices_ContainsFunc_api_Item_api_Item_177 fuel)):=by
  intro args objs kk r h
  unfold spg93_177 at h
  split at h
  · skip
    obtain ⟨hb,h⟩:=cond_some' h
    cases qb_eq hb
    exact fo0 (hG93_177 fuel) Try.func93 rfl (by kernel_rfl) _ _ kk r ((F93_177_eqg fuel (F_slices_IndexFunc_api_Item_api_Item_177 fuel) _ kk).trans h)
  · cases h
def kp175 (i:Nat):Option (List Nat):=Ev.look i [(2,[0,1,7,8]),(100000,[]),(400000,[4])]
def Gg175 (f:Nat):Option Ev.Spec:=Ev.look f []
def G175 (fuel:Nat):Nat→Option Ev.Spec:=Gg175
def S_slices_Index_int_int_0 (fuel:Nat) (v:(List Int)×Int×Int×Int) (c:((List Int)×Int×Int×Int)→Option Ans) (B:(Int→Option Ans)×(Unit→Option Ans)):Option Ans:=match v,B with | (d,e,f,a),(ret,b)=>bif decide (a < f) then bif decide ((0:Int)≤a∧a < (↑d.length:Int)) then bif e==d.getD a.toNat (0:Int) then ret a else c (d,e,f,i64.wrap (a+(1:Int))) else none else b ()
def L_slices_Index_int_int_0 (fuel:Nat) (v:(List Int)×Int×Int×Int) (ret:(Int→Option Ans)) (b:(Unit→Option Ans)):Option Ans:=iter (S_slices_Index_int_int_0 fuel) fuel v (ret,b)
def T175_0 (v:LI×Int×Int×Int):Ev.St:=match v with | (a,b,d,e)=>⟨[(0,.c (.sl (.int .i64) a)),(1,.c (i6 b)),(7,.c (i6 d)),(8,.c (i6 e))],[],0,0⟩
def E175_0 (K:KT):(Int→OA)×(Unit→OA):=((fun v=>match v with | a=>K .ret ⟨[(4,.c (i6 a))],[],0,0⟩),(fun v=>match v with | ()=>K .normal ⟨[],[],0,0⟩))
theorem S175_0_ok (fuel:Nat) (R:Ev.St→OA) (K:KT) (a:LI) (b c d:Int):evalCode tab (G175 fuel) J0 kp175 fuel (bodyOf 0 Try.f175) (T175_0 (a,b,c,d)) (lc kp175 2 0 R K)=S_slices_Index_int_int_0 fuel (a,b,c,d) (fun v=>R (T175_0 v)) (E175_0 K):=by
  kernel_rfl
def B175_0 (fuel:Nat):Ev.Blk:=fun st K=>match canonO (kp175 2) st with | some s=>(match s with | ⟨[(a,.c (.sl (.int .i64) b)),(d,.c (i6 e)),(f,.c (i6 g)),(h,.c (i6 i))],[],j,k⟩=>bif qb [a,d,f,h,j,k] [0,1,7,8,0,0] then iter (S_slices_Index_int_int_0 fuel) fuel (b,e,g,i) (E175_0 K) else none | _=>none) | none=>none
theorem B175_0_ok (fuel:Nat) (st:Ev.St) (K:KT) (r:Ans) (h:B175_0 fuel st K=some r):evalCode tab (G175 fuel) J0 kp175 fuel (.block 0 (.loop (bodyOf 0 Try.f175))) st K=some r:=by
  unfold B175_0 at h
  split at h
  · rename_i s hs
    split at h
    · skip
      obtain ⟨hb,h⟩:=cond_some' h
      cases qb_eq hb
      exact blk_loop (S:=T175_0) (ks:=E175_0) (step:=S_slices_Index_int_int_0 fuel) (v:=(_,_,_,_)) (by kernel_rfl) (by kernel_rfl) (fun R K v=>by obtain ⟨a,b,c,d⟩:=v; exact S175_0_ok fuel R K a b c d) hs h
    · cases h
  · cases h
def J175 (fuel:Nat) (i:Nat):Option Ev.Blk:=Ev.look i [(100000,B175_0 fuel)]
def F_slices_Index_int_int (fuel:Nat) (a:(List Int)) (b:Int) (k0:(Int)→Option Ans):Option Ans:=(L_slices_Index_int_int_0 fuel (a,b,(↑a.length:Int),0) (fun ret0_0=>k0 ret0_0) (fun ()=>k0 ((-1:Int))))
abbrev YF175:Type:=LI→Int→(Int→Option Ans)→Option Ans
theorem F175_eq (fuel:Nat) (a:LI) (b:Int) (k:Ev.Cont):evalFn tab (G175 fuel) (J175 fuel) kp175 fuel Try.f175 [.c (.sl (.int .i64) a),.c (i6 b)] [] k=F_slices_Index_int_int fuel a b (fun r=>match r with | d=>k (.c (i6 d),[])):=by
  kernel_rfl
theorem hG175 (fuel:Nat):GOK Try.prog (G175 fuel):=
  gok_nil
theorem B175_0_blk (fuel:Nat):BlkOK Try.prog Try.f175.ntmps (.block 0 (.loop (bodyOf 0 Try.f175))) (B175_0 fuel):=bo0 (hG175 fuel) (by kernel_rfl) (by kernel_rfl) (B175_0_ok fuel)
def spg175 (F:YF175):Ev.Spec:=fun args objs k=>match args,objs with | [.c (.sl (.int .i64) a),.c (i6 b)],[]=>F a b (fun r=>match r with | d=>k (.c (i6 d),[])) | _,_=>none
theorem ok175 (fuel:Nat):FnOK Try.prog 175 (spg175 (F_slices_Index_int_int fuel)):=by
  intro args objs kk r h
  unfold spg175 at h
  split at h
  · skip
    exact fo1 (hG175 fuel) Try.func175 rfl (B175_0_blk fuel) (by kernel_rfl) _ _ kk r ((F175_eq fuel _ _ kk).trans h)
  · cases h
def kp143 (i:Nat):Option (List Nat):=Ev.look i []
def Gg143 (a:YF175) (f:Nat):Option Ev.Spec:=Ev.look f [(175,spg175 a)]
def G143 (fuel:Nat):Nat→Option Ev.Spec:=Gg143 (F_slices_Index_int_int fuel)
def Fg_slices_Contains_int_int (fuel:Nat) (a:YF175) (b:LI) (c:Int) (k0:(Bool)→OA):OA:=(a b c (fun d=>k0 (decide (d≥0))))
abbrev YF143:Type:=LI→Int→(Bool→Option Ans)→Option Ans
def F_slices_Contains_int_int (fuel:Nat):YF143:=Fg_slices_Contains_int_int fuel (F_slices_Index_int_int fuel)
theorem F143_eqg (fuel:Nat) (a:YF175) (b:LI) (d:Int) (k:Ev.Cont):evalFn tab (Gg143 a) J0 kp143 fuel Try.f143 [.c (.sl (.int .i64) b),.c (i6 d)] [] k=Fg_slices_Contains_int_int fuel a b d (fun r=>match r with | e=>k (.c (.bool e),[])):=by
  kernel_rfl
theorem hG143 (fuel:Nat):GOK Try.prog (G143 fuel):=
  gc (ok175 fuel) Try.func175 (by kernel_rfl) rfl <|
  gok_nil
def spg143 (F:YF143):Ev.Spec:=fun args objs k=>match args,objs with | [.c (.sl (.int .i64) a),.c (i6 b)],[]=>F a b (fun r=>match r with | d=>k (.c (.bool d),[])) | _,_=>none
theorem ok143 (fuel:Nat):FnOK Try.prog 143 (spg143 (F_slices_Contains_int_int fuel)):=by
  intro args objs kk r h
  unfold spg143 at h
  split at h
  · skip
    exact fo0 (hG143 fuel) Try.func143 rfl (by kernel_rfl) _ _ kk r ((F143_eqg fuel (F_slices_Index_int_int fuel) _ _ kk).trans h)
  · cases h
def kp89 (i:Nat):Option (List Nat):=Ev.look i []
def Gg89 (a:YF143) (f:Nat):Option Ev.Spec:=Ev.look f [(143,spg143 a)]
def G89 (fuel:Nat):Nat→Option Ev.Spec:=Gg89 (F_slices_Contains_int_int fuel)
def Fg_text_Valid (fuel:Nat) (f:YF143) (g b:Int) (i:Bool) (c d e:Int) (j:Bool) (a:Int) (k0:(Bool)→OA):OA:=(f ([1,2,4,8]) g (fun h=>bif h then bif decide (b≥0) then bif decide (b≤3) then bif decide (c≥(-16:Int)) then bif decide (c≤16) then bif decide (d≥0) then bif decide (d≤4) then bif e==0 then bif a==0 then k0 true else k0 (a==1) else bif e==1 then bif a==0 then k0 true else k0 (a==1) else k0 false else k0 false else k0 false else k0 false else k0 false else k0 false else k0 false else k0 false))
abbrev YF89:Type:=Int→Int→Bool→Int→Int→Int→Bool→Int→(Bool→Option Ans)→Option Ans
def F_text_Valid (fuel:Nat):YF89:=Fg_text_Valid fuel (F_slices_Contains_int_int fuel)
theorem F89_eqg (fuel:Nat) (a:YF143) (b d:Int) (e:Bool) (f g h:Int) (i:Bool) (j:Int) (k:Ev.Cont):evalFn tab (Gg89 a) J0 kp89 fuel Try.f89 [.agg [i6 b,i6 d,.bool e,i6 f,i6 g,i6 h,.bool i,i6 j]] [] k=Fg_text_Valid fuel a b d e f g h i j (fun r=>match r with | l=>k (.c (.bool l),[])):=by
  kernel_rfl
theorem hG89 (fuel:Nat):GOK Try.prog (G89 fuel):=
  gc (ok143 fuel) Try.func143 (by kernel_rfl) rfl <|
  gok_nil
def spg89 (F:YF89):Ev.Spec:=fun args objs k=>match args,objs with | [.agg [i6 a,i6 b,.bool d,i6 e,i6 f,i6 g,.bool h,i6 i]],[]=>F a b d e f g h i (fun r=>match r with | j=>k (.c (.bool j),[])) | _,_=>none
theorem ok89 (fuel:Nat):FnOK Try.prog 89 (spg89 (F_text_Valid fuel)):=by
  intro args objs kk r h
  unfold spg89 at h
  split at h
  · skip
    exact fo0 (hG89 fuel) Try.func89 rfl (by kernel_rfl) _ _ kk r ((F89_eqg fuel (F_slices_Contains_int_int fuel) _ _ _ _ _ _ _ _ kk).trans h)
  · cases h
def kp43 (i:Nat):Option (List Nat):=Ev.look i []
def Gg43 (c:YF89) (a:YF90_261) (b:YF93_177) (f:Nat):Option Ev.Spec:=Ev.look f [(89,spg89 c),(90,spg90_261 a),(93,spg93_177 b)]
def G43 (fuel:Nat):Nat→Option Ev.Spec:=Gg43 (F_text_Valid fuel) (F_slices_ContainsFunc_api_Bitmap_api_Bitmap_261 fuel) (F_slices_ContainsFunc_api_Item_api_Item_177 fuel)
def Fg_text_begun (fuel:Nat) (c:YF89) (a:YF90_261) (b:YF93_177) (e f:Int) (g:Bool) (h i j:Int) (k:Bool) (l:Int) (m:(List (Int×Int×LI))) (n:(List (Int×Int×Int×Bool×Int×Int×(Int×Int×LI)))) (k0:(Int)→OA):OA:=(c e f g h i j k l (fun o=>bif !o then k0 (2) else (a m (fun p=>bif p then k0 (30) else (b n (fun d=>bif d then k0 (30) else k0 (0)))))))
abbrev YF43:Type:=Int→Int→Bool→Int→Int→Int→Bool→Int→((List (Int×Int×LI)))→((List (Int×Int×Int×Bool×Int×Int×(Int×Int×LI))))→(Int→Option Ans)→Option Ans
def F_text_begun (fuel:Nat):YF43:=Fg_text_begun fuel (F_text_Valid fuel) (F_slices_ContainsFunc_api_Bitmap_api_Bitmap_261 fuel) (F_slices_ContainsFunc_api_Item_api_Item_177 fuel)
theorem F43_eqg (fuel:Nat) (d:YF89) (a:YF90_261) (b:YF93_177) (e f:Int) (g:Bool) (h i j:Int) (l:Bool) (m:Int) (n:(List (Int×Int×LI))) (o:(List (Int×Int×Int×Bool×Int×Int×(Int×Int×LI)))) (k:Ev.Cont):evalFn tab (Gg43 d a b) J0 kp43 fuel Try.f43 [.agg [i6 e,i6 f,.bool g,i6 h,i6 i,i6 j,.bool l,i6 m],.c (.sl (.pair (.int .i64) (.pair (.int .i64) (.sl (.int .u8)))) n),.c (.sl (.pair (.int .i64) (.pair (.int .i64) (.pair (.int .i64) (.pair .bool (.pair (.int .i64) (.pair (.int .i64) (.pair (.int .i64) (.pair (.int .i64) (.sl (.int .u8)))))))))) o)] [] k=Fg_text_begun fuel d a b e f g h i j l m n o (fun r=>match r with | p=>k (.c (i6 p),[])):=by
  kernel_rfl
theorem hG43 (fuel:Nat):GOK Try.prog (G43 fuel):=
  gc (ok89 fuel) Try.func89 (by kernel_rfl) rfl <|
  gc (ok90_261 fuel) Try.func90 (by kernel_rfl) rfl <|
  gc (ok93_177 fuel) Try.func93 (by kernel_rfl) rfl <|
  gok_nil
def spg43 (F:YF43):Ev.Spec:=fun args objs k=>match args,objs with | [.agg [i6 a,i6 b,.bool d,i6 e,i6 f,i6 g,.bool h,i6 i],.c (.sl (.pair (.int .i64) (.pair (.int .i64) (.sl (.int .u8)))) j),.c (.sl (.pair (.int .i64) (.pair (.int .i64) (.pair (.int .i64) (.pair .bool (.pair (.int .i64) (.pair (.int .i64) (.pair (.int .i64) (.pair (.int .i64) (.sl (.int .u8)))))))))) l)],[]=>F a b d e f g h i j l (fun r=>match r with | m=>k (.c (i6 m),[])) | _,_=>none
theorem ok43 (fuel:Nat):FnOK Try.prog 43 (spg43 (F_text_begun fuel)):=by
  intro args objs kk r h
  unfold spg43 at h
  split at h
  · skip
    exact fo0 (hG43 fuel) Try.func43 rfl (by kernel_rfl) _ _ kk r ((F43_eqg fuel (F_text_Valid fuel) (F_slices_ContainsFunc_api_Bitmap_api_Bitmap_261 fuel) (F_slices_ContainsFunc_api_Item_api_Item_177 fuel) _ _ _ _ _ _ _ _ _ _ kk).trans h)
  · cases h
def kp58 (i:Nat):Option (List Nat):=Ev.look i []
def Gg58 (f:Nat):Option Ev.Spec:=Ev.look f []
def G58 (fuel:Nat):Nat→Option Ev.Spec:=Gg58
def F_text_near (fuel:Nat) (a b:Int) (k0:(Bool)→Option Ans):Option Ans:=bif decide (a≥i64.wrap (0 - b)) then k0 (decide (a≤b)) else k0 false
abbrev YF58:Type:=Int→Int→(Bool→Option Ans)→Option Ans
theorem F58_eq (fuel:Nat) (a b:Int) (k:Ev.Cont):evalFn tab (G58 fuel) J0 kp58 fuel Try.f58 [.c (i6 a),.c (i6 b)] [] k=F_text_near fuel a b (fun r=>match r with | d=>k (.c (.bool d),[])):=by
  kernel_rfl
theorem hG58 (fuel:Nat):GOK Try.prog (G58 fuel):=
  gok_nil
def spg58 (F:YF58):Ev.Spec:=fun args objs k=>match args,objs with | [.c (i6 a),.c (i6 b)],[]=>F a b (fun r=>match r with | d=>k (.c (.bool d),[])) | _,_=>none
theorem ok58 (fuel:Nat):FnOK Try.prog 58 (spg58 (F_text_near fuel)):=by
  intro args objs kk r h
  unfold spg58 at h
  split at h
  · skip
    exact fo0 (hG58 fuel) Try.func58 rfl (by kernel_rfl) _ _ kk r ((F58_eq fuel _ _ kk).trans h)
  · cases h
def kp114_e4a (i:Nat):Option (List Nat):=Ev.look i []
def Gg114_e4a (f:Nat):Option Ev.Spec:=Ev.look f []
def G114_e4a (fuel:Nat):Nat→Option Ev.Spec:=Gg114_e4a
def F_text_reader_fine_e4a (fuel:Nat) (q r s:Int) (t:Bool) (u v w:Int) (x:Bool) (y z:Int) (b c:Int) (d:(List (Int×(Int×(List Int))))) (e a:Int) (f g:Int) (h i:Int) (j k:Int) (l m:Bool) (n:(List (Int×(Int×(Int×(Bool×(Int×(Int×(Int×(Int×(List Int))))))))))) (o p:(List Int)) (k0:(Bool×Int×Int×Bool×Int×Int×Int×Bool×Int×Int×Int×Int×(List (Int×(Int×(List Int))))×Int×Int×Int×Int×Int×Int×Int×Int×Bool×Bool×(List (Int×(Int×(Int×(Bool×(Int×(Int×(Int×(Int×(List Int))))))))))×(List Int)×(List Int))→Option Ans):Option Ans:=bif a==0 then k0 (q==0,r,s,t,u,v,w,x,y,z,b,c,d,e,q,f,g,h,i,j,k,l,m,n,o,p) else k0 (a==0,r,s,t,u,v,w,x,y,z,b,c,d,e,a,f,g,h,i,j,k,l,m,n,o,p)
abbrev YF114_e4a:Type:=Int→Int→Int→Bool→Int→Int→Int→Bool→Int→Int→Int→Int→((List (Int×(Int×LI))))→Int→Int→Int→Int→Int→Int→Int→Int→Bool→Bool→((List (Int×(Int×(Int×(Bool×(Int×(Int×(Int×(Int×LI))))))))))→LI→LI→((Bool×Int×Int×Bool×Int×Int×Int×Bool×Int×Int×Int×Int×(List (Int×(Int×LI)))×Int×Int×Int×Int×Int×Int×Int×Int×Bool×Bool×(List (Int×(Int×(Int×(Bool×(Int×(Int×(Int×(Int×LI)))))))))×LI×LI)→Option Ans)→Option Ans
theorem F114_e4a_eq (fuel:Nat) (t u v:Int) (w:Bool) (x y z:Int) (A:Bool) (B C:Int) (a b:Int) (d:(List (Int×(Int×LI)))) (e f:Int) (g h:Int) (i j:Int) (l m:Int) (n o:Bool) (p:(List (Int×(Int×(Int×(Bool×(Int×(Int×(Int×(Int×LI)))))))))) (q s:LI) (k:Ev.Cont):evalFn tab (G114_e4a fuel) J0 kp114_e4a fuel Try.f114 [.c (.ptr 0 0),.c (i6 t)] [.cells 104 [i6 u,i6 v,.bool w,i6 x,i6 y,i6 z,.bool A,i6 B,i6 C,i6 a,i6 b,.ptr 1 0,.sl (.pair (.int .i64) (.pair (.int .i64) (.sl (.int .u8)))) d,.own 2,i6 e,i6 f],.cells 163 (i6 g::.own 3::ctb (.int .u64 h::.int .u64 i::.own 4::i6 j::.int .u64 l::i6 m::.bool n::.bool o::[])),.vec 73 (.pair (.int .i64) (.pair (.int .i64) (.pair (.int .i64) (.pair .bool (.pair (.int .i64) (.pair (.int .i64) (.pair (.int .i64) (.pair (.int .i64) (.sl (.int .u8)))))))))) p false,.vec 3 (.int .i64) q false,.vec 5 (.int .u8) s false] k=F_text_reader_fine_e4a fuel t u v w x y z A B C a b d e f g h i j l m n o p q s (fun r=>match r with | (T,U,V,W,X,Y,Z,a0,a1,a2,D,E,F,G,H,I,J,K,L,M,N,O,P,Q,R,S)=>k (.c (.bool T),[.cells 104 [i6 U,i6 V,.bool W,i6 X,i6 Y,i6 Z,.bool a0,i6 a1,i6 a2,i6 D,i6 E,.ptr 1 0,.sl (.pair (.int .i64) (.pair (.int .i64) (.sl (.int .u8)))) F,.own 2,i6 G,i6 H],.cells 163 (i6 I::.own 3::ctb (.int .u64 J::.int .u64 K::.own 4::i6 L::.int .u64 M::i6 N::.bool O::.bool P::[])),.vec 73 (.pair (.int .i64) (.pair (.int .i64) (.pair (.int .i64) (.pair .bool (.pair (.int .i64) (.pair (.int .i64) (.pair (.int .i64) (.pair (.int .i64) (.sl (.int .u8)))))))))) Q false,.vec 3 (.int .i64) R false,.vec 5 (.int .u8) S false])):=by
  kernel_rfl
theorem hG114_e4a (fuel:Nat):GOK Try.prog (G114_e4a fuel):=
  gok_nil
def spg114_e4a (F:YF114_e4a):Ev.Spec:=fun args objs k=>match args,objs with | [.c (.ptr N O),.c (i6 P)],[.cells Q [i6 R,i6 S,.bool T,i6 U,i6 V,i6 W,.bool X,i6 Y,i6 Z,i6 a,i6 b,.ptr a0 a1,.sl (.pair (.int .i64) (.pair (.int .i64) (.sl (.int .u8)))) d,.own a2,i6 e,i6 f],.cells a3 g,.vec a4 (.pair (.int .i64) (.pair (.int .i64) (.pair (.int .i64) (.pair .bool (.pair (.int .i64) (.pair (.int .i64) (.pair (.int .i64) (.pair (.int .i64) (.sl (.int .u8)))))))))) h false,.vec a5 (.int .i64) i false,.vec a6 (.int .u8) j false]=>(match splitRun 2 ctn g with | some ([i6 l,.own m],[.int .u64 n,.int .u64 o,.own p,i6 q,.int .u64 s,i6 t,.bool u,.bool v])=>bif qb [N,O,Q,a0,a1,a2,a3,a4,a5,a6,m,p] [0,0,104,1,0,2,163,73,3,5,3,4] then F P R S T U V W X Y Z a b d e f l n o q s t u v h i j (fun r=>match r with | (a7,a8,a9,b0,b1,b2,b3,b4,b5,b6,w,x,y,z,A,B,C,D,E,G,H,I,J,K,L,M)=>k (.c (.bool a7),[.cells 104 [i6 a8,i6 a9,.bool b0,i6 b1,i6 b2,i6 b3,.bool b4,i6 b5,i6 b6,i6 w,i6 x,.ptr 1 0,.sl (.pair (.int .i64) (.pair (.int .i64) (.sl (.int .u8)))) y,.own 2,i6 z,i6 A],.cells 163 (i6 B::.own 3::ctb (.int .u64 C::.int .u64 D::.own 4::i6 E::.int .u64 G::i6 H::.bool I::.bool J::[])),.vec 73 (.pair (.int .i64) (.pair (.int .i64) (.pair (.int .i64) (.pair .bool (.pair (.int .i64) (.pair (.int .i64) (.pair (.int .i64) (.pair (.int .i64) (.sl (.int .u8)))))))))) K false,.vec 3 (.int .i64) L false,.vec 5 (.int .u8) M false])) else none | _=>none) | _,_=>none
theorem ok114_e4a (fuel:Nat):FnOK Try.prog 114 (spg114_e4a (F_text_reader_fine_e4a fuel)):=by
  intro args objs kk r h
  unfold spg114_e4a at h
  split at h
  · skip
    split at h
    rotate_left 1
    · cases h
    rename_i hsp
    have esp:=splitRun_eq hsp
    subst esp
    obtain ⟨hb,h⟩:=cond_some' h
    cases qb_eq hb
    exact fo0 (hG114_e4a fuel) Try.func114 rfl (by kernel_rfl) _ _ kk r ((F114_e4a_eq fuel _ _ _ _ _ _ _ _ _ _ _ _ _ _ _ _ _ _ _ _ _ _ _ _ _ _ kk).trans h)
  · cases h
def kp57_91e (i:Nat):Option (List Nat):=Ev.look i []
def Gg57_91e (a:YF114_e4a) (f:Nat):Option Ev.Spec:=Ev.look f [(114,spg114_e4a a)]
def G57_91e (fuel:Nat):Nat→Option Ev.Spec:=Gg57_91e (F_text_reader_fine_e4a fuel)
def Fg_text_reader_check_91e (fuel:Nat) (z:YF114_e4a) (a0:Bool) (q r:Int) (s:Bool) (t u v:Int) (w:Bool) (x y:Int) (b c:Int) (d:(List (Int×(Int×LI)))) (e a:Int) (f g:Int) (h i:Int) (j k:Int) (l m:Bool) (n:(List (Int×(Int×(Int×(Bool×(Int×(Int×(Int×(Int×LI)))))))))) (o p:LI) (k0:(Bool×Int×Int×Bool×Int×Int×Int×Bool×Int×Int×Int×Int×(List (Int×(Int×LI)))×Int×Int×Int×Int×Int×Int×Int×Int×Bool×Bool×(List (Int×(Int×(Int×(Bool×(Int×(Int×(Int×(Int×LI)))))))))×LI×LI)→OA):OA:=bif !a0 then (z (3) q r s t u v w x y b c d e a f g h i j k l m n o p (fun (Q,R,S,T,U,V,W,X,Y,Z,A,B,C,D,E,F,G,H,I,J,K,L,M,N,O,P)=>k0 (Q,R,S,T,U,V,W,X,Y,Z,A,B,C,D,E,F,G,H,I,J,K,L,M,N,O,P))) else k0 (a==0,q,r,s,t,u,v,w,x,y,b,c,d,e,a,f,g,h,i,j,k,l,m,n,o,p)
abbrev YF57_91e:Type:=Bool→Int→Int→Bool→Int→Int→Int→Bool→Int→Int→Int→Int→((List (Int×(Int×LI))))→Int→Int→Int→Int→Int→Int→Int→Int→Bool→Bool→((List (Int×(Int×(Int×(Bool×(Int×(Int×(Int×(Int×LI))))))))))→LI→LI→((Bool×Int×Int×Bool×Int×Int×Int×Bool×Int×Int×Int×Int×(List (Int×(Int×LI)))×Int×Int×Int×Int×Int×Int×Int×Int×Bool×Bool×(List (Int×(Int×(Int×(Bool×(Int×(Int×(Int×(Int×LI)))))))))×LI×LI)→Option Ans)→Option Ans
def F_text_reader_check_91e (fuel:Nat):YF57_91e:=Fg_text_reader_check_91e fuel (F_text_reader_fine_e4a fuel)
theorem F57_91e_eqg (fuel:Nat) (a:YF114_e4a) (u:Bool) (v w:Int) (x:Bool) (y z A:Int) (B:Bool) (C D:Int) (b d:Int) (e:(List (Int×(Int×LI)))) (f g:Int) (h i:Int) (j l:Int) (m n:Int) (o p:Bool) (q:(List (Int×(Int×(Int×(Bool×(Int×(Int×(Int×(Int×LI)))))))))) (s t:LI) (k:Ev.Cont):evalFn tab (Gg57_91e a) J0 kp57_91e fuel Try.f57 [.c (.ptr 0 0),.c (.bool u)] [.cells 104 [i6 v,i6 w,.bool x,i6 y,i6 z,i6 A,.bool B,i6 C,i6 D,i6 b,i6 d,.ptr 1 0,.sl (.pair (.int .i64) (.pair (.int .i64) (.sl (.int .u8)))) e,.own 2,i6 f,i6 g],.cells 163 (i6 h::.own 3::ctb (.int .u64 i::.int .u64 j::.own 4::i6 l::.int .u64 m::i6 n::.bool o::.bool p::[])),.vec 73 (.pair (.int .i64) (.pair (.int .i64) (.pair (.int .i64) (.pair .bool (.pair (.int .i64) (.pair (.int .i64) (.pair (.int .i64) (.pair (.int .i64) (.sl (.int .u8)))))))))) q false,.vec 3 (.int .i64) s false,.vec 5 (.int .u8) t false] k=Fg_text_reader_check_91e fuel a u v w x y z A B C D b d e f g h i j l m n o p q s t (fun r=>match r with | (U,V,W,X,Y,Z,a0,a1,a2,a3,E,F,G,H,I,J,K,L,M,N,O,P,Q,R,S,T)=>k (.c (.bool U),[.cells 104 [i6 V,i6 W,.bool X,i6 Y,i6 Z,i6 a0,.bool a1,i6 a2,i6 a3,i6 E,i6 F,.ptr 1 0,.sl (.pair (.int .i64) (.pair (.int .i64) (.sl (.int .u8)))) G,.own 2,i6 H,i6 I],.cells 163 (i6 J::.own 3::ctb (.int .u64 K::.int .u64 L::.own 4::i6 M::.int .u64 N::i6 O::.bool P::.bool Q::[])),.vec 73 (.pair (.int .i64) (.pair (.int .i64) (.pair (.int .i64) (.pair .bool (.pair (.int .i64) (.pair (.int .i64) (.pair (.int .i64) (.pair (.int .i64) (.sl (.int .u8)))))))))) R false,.vec 3 (.int .i64) S false,.vec 5 (.int .u8) T false])):=by
  kernel_rfl
theorem hG57_91e (fuel:Nat):GOK Try.prog (G57_91e fuel):=
  gc (ok114_e4a fuel) Try.func114 (by kernel_rfl) rfl <|
  gok_nil
def spg57_91e (F:YF57_91e):Ev.Spec:=fun args objs k=>match args,objs with | [.c (.ptr N O),.c (.bool P)],[.cells Q [i6 R,i6 S,.bool T,i6 U,i6 V,i6 W,.bool X,i6 Y,i6 Z,i6 a,i6 b,.ptr a0 a1,.sl (.pair (.int .i64) (.pair (.int .i64) (.sl (.int .u8)))) d,.own a2,i6 e,i6 f],.cells a3 g,.vec a4 (.pair (.int .i64) (.pair (.int .i64) (.pair (.int .i64) (.pair .bool (.pair (.int .i64) (.pair (.int .i64) (.pair (.int .i64) (.pair (.int .i64) (.sl (.int .u8)))))))))) h false,.vec a5 (.int .i64) i false,.vec a6 (.int .u8) j false]=>(match splitRun 2 ctn g with | some ([i6 l,.own m],[.int .u64 n,.int .u64 o,.own p,i6 q,.int .u64 s,i6 t,.bool u,.bool v])=>bif qb [N,O,Q,a0,a1,a2,a3,a4,a5,a6,m,p] [0,0,104,1,0,2,163,73,3,5,3,4] then F P R S T U V W X Y Z a b d e f l n o q s t u v h i j (fun r=>match r with | (a7,a8,a9,b0,b1,b2,b3,b4,b5,b6,w,x,y,z,A,B,C,D,E,G,H,I,J,K,L,M)=>k (.c (.bool a7),[.cells 104 [i6 a8,i6 a9,.bool b0,i6 b1,i6 b2,i6 b3,.bool b4,i6 b5,i6 b6,i6 w,i6 x,.ptr 1 0,.sl (.pair (.int .i64) (.pair (.int .i64) (.sl (.int .u8)))) y,.own 2,i6 z,i6 A],.cells 163 (i6 B::.own 3::ctb (.int .u64 C::.int .u64 D::.own 4::i6 E::.int .u64 G::i6 H::.bool I::.bool J::[])),.vec 73 (.pair (.int .i64) (.pair (.int .i64) (.pair (.int .i64) (.pair .bool (.pair (.int .i64) (.pair (.int .i64) (.pair (.int .i64) (.pair (.int .i64) (.sl (.int .u8)))))))))) K false,.vec 3 (.int .i64) L false,.vec 5 (.int .u8) M false])) else none | _=>none) | _,_=>none
theorem ok57_91e (fuel:Nat):FnOK Try.prog 57 (spg57_91e (F_text_reader_check_91e fuel)):=by
  intro args objs kk r h
  unfold spg57_91e at h
  split at h
  · skip
    split at h
    rotate_left 1
    · cases h
    rename_i hsp
    have esp:=splitRun_eq hsp
    subst esp
    obtain ⟨hb,h⟩:=cond_some' h
    cases qb_eq hb
    exact fo0 (hG57_91e fuel) Try.func57 rfl (by kernel_rfl) _ _ kk r ((F57_91e_eqg fuel (F_text_reader_fine_e4a fuel) _ _ _ _ _ _ _ _ _ _ _ _ _ _ _ _ _ _ _ _ _ _ _ _ _ _ kk).trans h)
  · cases h
def kp56_e4a (i:Nat):Option (List Nat):=Ev.look i []
def Gg56_e4a (a:YF113_aa3) (b:YF114_e4a) (f:Nat):Option Ev.Spec:=Ev.look f [(113,spg113_aa3 a),(114,spg114_e4a b)]
def G56_e4a (fuel:Nat):Nat→Option Ev.Spec:=Gg56_e4a (F_number_Get_aa3 fuel) (F_text_reader_fine_e4a fuel)
def Fg_text_reader_num_e4a (fuel:Nat) (z:YF113_aa3) (A:YF114_e4a) (b3 q r:Int) (s:Bool) (t u v:Int) (w:Bool) (x y:Int) (b c:Int) (d:(List (Int×(Int×LI)))) (e a:Int) (f g:Int) (h i:Int) (j k:Int) (l m:Bool) (n:(List (Int×(Int×(Int×(Bool×(Int×(Int×(Int×(Int×LI)))))))))) (o p:LI) (k0:(Bool×Int×Int×Int×Bool×Int×Int×Int×Bool×Int×Int×Int×Int×(List (Int×(Int×LI)))×Int×Int×Int×Int×Int×Int×Int×Int×Bool×Bool×(List (Int×(Int×(Int×(Bool×(Int×(Int×(Int×(Int×LI)))))))))×LI×LI)→OA):OA:=bif a != 0 then k0 (false,0,q,r,s,t,u,v,w,x,y,b,c,d,e,a,f,g,h,i,j,k,l,m,n,o,p) else (z b3 f g h i j k l m o p (fun (U,V,W,X,Y,Z,a0,a1,a2,a3,B,C,D)=>(A W q r s t u v w x y b c d e a X Y Z a0 a1 a2 a3 B n C D (fun (b4,a4,a5,a6,a7,a8,a9,b0,b1,b2,E,F,G,H,I,J,K,L,M,N,O,P,Q,R,S,T)=>k0 (U,V,a4,a5,a6,a7,a8,a9,b0,b1,b2,E,F,G,H,I,J,K,L,M,N,O,P,Q,R,S,T)))))
abbrev YF56_e4a:Type:=Int→Int→Int→Bool→Int→Int→Int→Bool→Int→Int→Int→Int→((List (Int×(Int×LI))))→Int→Int→Int→Int→Int→Int→Int→Int→Bool→Bool→((List (Int×(Int×(Int×(Bool×(Int×(Int×(Int×(Int×LI))))))))))→LI→LI→((Bool×Int×Int×Int×Bool×Int×Int×Int×Bool×Int×Int×Int×Int×(List (Int×(Int×LI)))×Int×Int×Int×Int×Int×Int×Int×Int×Bool×Bool×(List (Int×(Int×(Int×(Bool×(Int×(Int×(Int×(Int×LI)))))))))×LI×LI)→Option Ans)→Option Ans
def F_text_reader_num_e4a (fuel:Nat):YF56_e4a:=Fg_text_reader_num_e4a fuel (F_number_Get_aa3 fuel) (F_text_reader_fine_e4a fuel)
theorem F56_e4a_eqg (fuel:Nat) (a:YF113_aa3) (b:YF114_e4a) (v w x:Int) (y:Bool) (z A B:Int) (C:Bool) (D E:Int) (d e:Int) (f:(List (Int×(Int×LI)))) (g h:Int) (i j:Int) (l m:Int) (n o:Int) (p q:Bool) (s:(List (Int×(Int×(Int×(Bool×(Int×(Int×(Int×(Int×LI)))))))))) (t u:LI) (k:Ev.Cont):evalFn tab (Gg56_e4a a b) J0 kp56_e4a fuel Try.f56 [.c (.ptr 0 0),.c (i6 v)] [.cells 104 [i6 w,i6 x,.bool y,i6 z,i6 A,i6 B,.bool C,i6 D,i6 E,i6 d,i6 e,.ptr 1 0,.sl (.pair (.int .i64) (.pair (.int .i64) (.sl (.int .u8)))) f,.own 2,i6 g,i6 h],.cells 163 (i6 i::.own 3::ctb (.int .u64 j::.int .u64 l::.own 4::i6 m::.int .u64 n::i6 o::.bool p::.bool q::[])),.vec 73 (.pair (.int .i64) (.pair (.int .i64) (.pair (.int .i64) (.pair .bool (.pair (.int .i64) (.pair (.int .i64) (.pair (.int .i64) (.pair (.int .i64) (.sl (.int .u8)))))))))) s false,.vec 3 (.int .i64) t false,.vec 5 (.int .u8) u false] k=Fg_text_reader_num_e4a fuel a b v w x y z A B C D E d e f g h i j l m n o p q s t u (fun r=>match r with | (W,X,Y,Z,a0,a1,a2,a3,a4,a5,F,G,H,I,J,K,L,M,N,O,P,Q,R,S,T,U,V)=>k (.agg [.bool W,i6 X],[.cells 104 [i6 Y,i6 Z,.bool a0,i6 a1,i6 a2,i6 a3,.bool a4,i6 a5,i6 F,i6 G,i6 H,.ptr 1 0,.sl (.pair (.int .i64) (.pair (.int .i64) (.sl (.int .u8)))) I,.own 2,i6 J,i6 K],.cells 163 (i6 L::.own 3::ctb (.int .u64 M::.int .u64 N::.own 4::i6 O::.int .u64 P::i6 Q::.bool R::.bool S::[])),.vec 73 (.pair (.int .i64) (.pair (.int .i64) (.pair (.int .i64) (.pair .bool (.pair (.int .i64) (.pair (.int .i64) (.pair (.int .i64) (.pair (.int .i64) (.sl (.int .u8)))))))))) T false,.vec 3 (.int .i64) U false,.vec 5 (.int .u8) V false])):=by
  kernel_rfl
theorem hG56_e4a (fuel:Nat):GOK Try.prog (G56_e4a fuel):=
  gc (ok113_aa3 fuel) Try.func113 (by kernel_rfl) rfl <|
  gc (ok114_e4a fuel) Try.func114 (by kernel_rfl) rfl <|
  gok_nil
def spg56_e4a (F:YF56_e4a):Ev.Spec:=fun args objs k=>match args,objs with | [.c (.ptr O P),.c (i6 Q)],[.cells R [i6 S,i6 T,.bool U,i6 V,i6 W,i6 X,.bool Y,i6 Z,i6 a0,i6 a,i6 b,.ptr a1 a2,.sl (.pair (.int .i64) (.pair (.int .i64) (.sl (.int .u8)))) d,.own a3,i6 e,i6 f],.cells a4 g,.vec a5 (.pair (.int .i64) (.pair (.int .i64) (.pair (.int .i64) (.pair .bool (.pair (.int .i64) (.pair (.int .i64) (.pair (.int .i64) (.pair (.int .i64) (.sl (.int .u8)))))))))) h false,.vec a6 (.int .i64) i false,.vec a7 (.int .u8) j false]=>(match splitRun 2 ctn g with | some ([i6 l,.own m],[.int .u64 n,.int .u64 o,.own p,i6 q,.int .u64 s,i6 t,.bool u,.bool v])=>bif qb [O,P,R,a1,a2,a3,a4,a5,a6,a7,m,p] [0,0,104,1,0,2,163,73,3,5,3,4] then F Q S T U V W X Y Z a0 a b d e f l n o q s t u v h i j (fun r=>match r with | (a8,a9,b0,b1,b2,b3,b4,b5,b6,b7,w,x,y,z,A,B,C,D,E,G,H,I,J,K,L,M,N)=>k (.agg [.bool a8,i6 a9],[.cells 104 [i6 b0,i6 b1,.bool b2,i6 b3,i6 b4,i6 b5,.bool b6,i6 b7,i6 w,i6 x,i6 y,.ptr 1 0,.sl (.pair (.int .i64) (.pair (.int .i64) (.sl (.int .u8)))) z,.own 2,i6 A,i6 B],.cells 163 (i6 C::.own 3::ctb (.int .u64 D::.int .u64 E::.own 4::i6 G::.int .u64 H::i6 I::.bool J::.bool K::[])),.vec 73 (.pair (.int .i64) (.pair (.int .i64) (.pair (.int .i64) (.pair .bool (.pair (.int .i64) (.pair (.int .i64) (.pair (.int .i64) (.pair (.int .i64) (.sl (.int .u8)))))))))) L false,.vec 3 (.int .i64) M false,.vec 5 (.int .u8) N false])) else none | _=>none) | _,_=>none
theorem ok56_e4a (fuel:Nat):FnOK Try.prog 56 (spg56_e4a (F_text_reader_num_e4a fuel)):=by
  intro args objs kk r h
  unfold spg56_e4a at h
  split at h
  · skip
    split at h
    rotate_left 1
    · cases h
    rename_i hsp
    have esp:=splitRun_eq hsp
    subst esp
    obtain ⟨hb,h⟩:=cond_some' h
    cases qb_eq hb
    exact fo0 (hG56_e4a fuel) Try.func56 rfl (by kernel_rfl) _ _ kk r ((F56_e4a_eqg fuel (F_number_Get_aa3 fuel) (F_text_reader_fine_e4a fuel) _ _ _ _ _ _ _ _ _ _ _ _ _ _ _ _ _ _ _ _ _ _ _ _ _ _ kk).trans h)
  · cases h
end
end Go.Proofs.Ytipdidpalcmlhaa

