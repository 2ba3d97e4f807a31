/- What the functions that TextTurned reaches do: their typed texts, each with the proof that the machine does it. No condition. -/
import Derived.Test.YtipdidpalcmlhaaGreatEvX
import Derived.Test.YtipdidpalcmlhaaGreatFsTextTurned2
import Derived.Test.YtipdidpalcmlhaaGreatEvY
import Derived.Test.YtipdidpalcmlhaaGreatEvU
import Derived.Test.YtipdidpalcmlhaaGreatFsTextTurned1
set_option linter.unusedVariables false
set_option linter.unusedSimpArgs false
set_option linter.unusedSectionVars false
set_option linter.unusedVariables false
set_option linter.unusedSimpArgs false
set_option maxRecDepth 100000
set_option maxHeartbeats 2000000
namespace Go.Proofs.YtipdidpalcmlhaaGreat
open Go Ev
open Go.IntKind (i64 u64 u8 i32 u32 u16)
noncomputable section
def kp240_aa3 (i:Nat):Option (List Nat):=Ev.look i [(5,[0,1,4,8]),(14,[0,1,4,8,9,10,49,50]),(100000,[0,1,4,8]),(100002,[0,1,4,9]),(400000,[4,5]),(400002,[4,5])]
def Gg240_aa3 (a:YF146_aa3) (b:YF236) (f:Nat):Option Ev.Spec:=Ev.look f [(146,spg146_aa3 a),(236,spg236 b)]
def G240_aa3 (fuel:Nat):Nat→Option Ev.Spec:=Gg240_aa3 (F_coder_Decoder_Get_aa3 fuel) (F_number_tail_take fuel)
abbrev V_number_get_aa3_0:Type:=Int×Int×Int×Int×Int×Int×Int×Int×Bool×Bool×LI×LI×Bool×Int
abbrev W_number_get_aa3_0:Type:=(Int×Int×Int×Int×Int×Int×Int×Bool×Bool×LI×LI×Bool×Int→OA)×(Int×Int×Int×Int×Int×Int×Int×Int×Bool×Bool×LI×LI×Bool×Int→OA)
def Sg_number_get_aa3_0 (fuel:Nat) (C:YF146_aa3) (E:YF236) (d a:Int) (t u:Int) (v w:Int) (x y:Int) (z A:Bool) (r s:LI) (o:Bool) (p:Int) (c:V_number_get_aa3_0→OA) (B:W_number_get_aa3_0):OA:=match B with | (ret,b)=>bif decide (a < 20) then (C (i64.wrap (i64.wrap (d+1)+a)) t u v w x y z A r s (fun (D,q,g,h,i,j,k,l,m,n,e,f)=>bif q != 0 then ret (q,g,h,i,j,k,l,m,n,e,f,false,0) else bif D==0 then b (d,a,g,h,i,j,k,l,m,n,e,f,o,p) else c (d,i64.wrap (a+1),g,h,i,j,k,l,m,n,e,f,o,p))) else b (d,a,t,u,v,w,x,y,z,A,r,s,o,p)
def S_number_get_aa3_0 (fuel:Nat) (v:Int×Int×Int×Int×Int×Int×Int×Int×Bool×Bool×(List Int)×(List Int)×Bool×Int) (c:(Int×Int×Int×Int×Int×Int×Int×Int×Bool×Bool×(List Int)×(List Int)×Bool×Int)→Option Ans) (B:(Int×Int×Int×Int×Int×Int×Int×Bool×Bool×(List Int)×(List Int)×Bool×Int→Option Ans)×(Int×Int×Int×Int×Int×Int×Int×Int×Bool×Bool×(List Int)×(List Int)×Bool×Int→Option Ans)):Option Ans:=match v with | (f,g,h,i,j,k,l,m,n,o,a,b,d,e)=>Sg_number_get_aa3_0 fuel (F_coder_Decoder_Get_aa3 fuel) (F_number_tail_take fuel) f g h i j k l m n o a b d e c B
def L_number_get_aa3_0 (fuel:Nat) (v:V_number_get_aa3_0) (ret:(Int×Int×Int×Int×Int×Int×Int×Bool×Bool×(List Int)×(List Int)×Bool×Int→Option Ans)) (b:(Int×Int×Int×Int×Int×Int×Int×Int×Bool×Bool×(List Int)×(List Int)×Bool×Int→Option Ans)):Option Ans:=iter (S_number_get_aa3_0 fuel) fuel v (ret,b)
def T240_aa3_0 (v:V_number_get_aa3_0):Ev.St:=match v with | (f,g,h,i,j,k,l,m,n,o,a,b,d,e)=>⟨[(0,.c (.ptr 0 0)),(1,.c (i6 f)),(4,.c (.ptr 3 0)),(8,.c (i6 g))],[(0,.cells 194 (i6 h::.own 1::ctb (.int .u64 i::.int .u64 j::.own 2::i6 k::.int .u64 l::i6 m::.bool n::.bool o::[]))),(1,.vec 3 (.int .i64) a false),(2,.vec 5 (.int .u8) b false),(3,.cells 124 [.bool d,i6 e])],4,3⟩
def E240_aa3_0 (K:KT):W_number_get_aa3_0:=((fun v=>match v with | (e,f,g,h,i,j,k,l,m,n,a,b,d)=>K .ret ⟨[(4,.c (.ptr 3 0)),(5,.c (i6 e))],[(0,.cells 194 (i6 f::.own 1::ctb (.int .u64 g::.int .u64 h::.own 2::i6 i::.int .u64 j::i6 k::.bool l::.bool m::[]))),(1,.vec 3 (.int .i64) n false),(2,.vec 5 (.int .u8) a false),(3,.cells 124 [.bool b,i6 d])],4,3⟩),(fun v=>match v with | (e,f,g,h,i,j,k,l,m,n,a,b,d,o)=>K .normal ⟨[(0,.c (.ptr 0 0)),(1,.c (i6 e)),(4,.c (.ptr 3 0)),(8,.c (i6 f))],[(0,.cells 194 (i6 g::.own 1::ctb (.int .u64 h::.int .u64 i::.own 2::i6 j::.int .u64 k::i6 l::.bool m::.bool n::[]))),(1,.vec 3 (.int .i64) a false),(2,.vec 5 (.int .u8) b false),(3,.cells 124 [.bool d,i6 o])],4,3⟩))
theorem S240_aa3_0_okg (fuel:Nat) (a:YF146_aa3) (b:YF236) (R:Ev.St→OA) (K:KT) (g h:Int) (i j:Int) (k l:Int) (m n:Int) (o p:Bool) (c d:LI) (e:Bool) (f:Int):evalCode tab (Gg240_aa3 a b) J0 kp240_aa3 fuel (bodyOf 0 Tryz.f240) (T240_aa3_0 (g,h,i,j,k,l,m,n,o,p,c,d,e,f)) (lc kp240_aa3 5 0 R K)=Sg_number_get_aa3_0 fuel a b g h i j k l m n o p c d e f (fun v=>R (T240_aa3_0 v)) (E240_aa3_0 K):=by
  kernel_rfl
def B240_aa3_0 (fuel:Nat):Ev.Blk:=fun st K=>match canonO (kp240_aa3 5) st with | some s=>(match s with | ⟨[(q,.c (.ptr r t)),(u,.c (i6 v)),(w,.c (.ptr x y)),(z,.c (i6 A))],[(B,.cells C a),(b,.vec d (.int .i64) e false),(f,.vec g (.int .u8) h false),(i,.cells j [.bool k,i6 l])],m,n⟩=>(match splitRun 2 ctn a with | some ([i6 D,.own o],[.int .u64 E,.int .u64 F,.own p,i6 G,.int .u64 H,i6 I,.bool J,.bool L])=>bif qb [q,r,t,u,w,x,y,z,B,C,b,d,f,g,i,j,m,n,o,p] [0,0,0,1,4,3,0,8,0,194,1,3,2,5,3,124,4,3,1,2] then iter (S_number_get_aa3_0 fuel) fuel (v,A,D,E,F,G,H,I,J,L,e,h,k,l) (E240_aa3_0 K) else none | _=>none) | _=>none) | none=>none
theorem B240_aa3_0_ok (fuel:Nat) (st:Ev.St) (K:KT) (r:Ans) (h:B240_aa3_0 fuel st K=some r):evalCode tab (G240_aa3 fuel) J0 kp240_aa3 fuel (.block 0 (.loop (bodyOf 0 Tryz.f240))) st K=some r:=by
  unfold B240_aa3_0 at h
  split at h
  · rename_i s hs
    split at h
    · skip
      split at h
      rotate_left 1
      · cases h
      rename_i hsp
      have esp:=splitRun_eq hsp
      subst esp
      obtain ⟨hb,h⟩:=cond_some' h
      cases qb_eq hb
      exact blk_loop (S:=T240_aa3_0) (ks:=E240_aa3_0) (step:=S_number_get_aa3_0 fuel) (v:=(_,_,_,_,_,_,_,_,_,_,_,_,_,_)) (by kernel_rfl) (by kernel_rfl) (fun R K v=>by obtain ⟨e,f,g,i,j,k,l,m,n,o,a,b,c,d⟩:=v; exact S240_aa3_0_okg fuel (F_coder_Decoder_Get_aa3 fuel) (F_number_tail_take fuel) R K e f g i j k l m n o a b c d) hs h
    · cases h
  · cases h
abbrev V_number_get_aa3_2:Type:=Int×Int×Int×Int×Int×Int×Int×Int×Int×Int×Int×Bool×Bool×LI×LI×Bool×Int×Int
abbrev W_number_get_aa3_2:Type:=(Int×Int×Int×Int×Int×Int×Int×Bool×Bool×LI×LI×Bool×Int→OA)×(Int×Int×Int×Int×Int×Int×Int×Int×Bool×Bool×LI×LI×Bool×Int→OA)
def Sg_number_get_aa3_2 (fuel:Nat) (v:YF146_aa3) (T:YF236) (a n:Int) (o p:Int) (e q:Int) (r s:Int) (t u g:Int) (h i:Bool) (j k:LI) (l:Bool) (m S:Int) (c:V_number_get_aa3_2→OA) (B:W_number_get_aa3_2):OA:=match B with | (ret,b)=>bif decide (e < p) then bif decide (e > 0) then (T S (fun (f,d)=>(v (i64.wrap (a+f)) q r s t u g h i j k (fun (U,A,C,D,E,F,G,H,I,J,w,x)=>bif A != 0 then ret (A,C,D,E,F,G,H,I,J,w,x,false,0) else c (a,n,i64.wrap (i64.wrap (2*o)+U),p,i64.wrap (e+1),C,D,E,F,G,H,I,J,w,x,l,m,d))))) else (v (i64.wrap (a+i64.wrap (23+n))) q r s t u g h i j k (fun (f,d,K,L,M,N,O,P,Q,R,y,z)=>bif d != 0 then ret (d,K,L,M,N,O,P,Q,R,y,z,false,0) else c (a,n,i64.wrap (i64.wrap (2*o)+f),p,i64.wrap (e+1),K,L,M,N,O,P,Q,R,y,z,l,m,S))) else b (a,o,q,r,s,t,u,g,h,i,j,k,l,m)
def S_number_get_aa3_2 (fuel:Nat) (v:Int×Int×Int×Int×Int×Int×Int×Int×Int×Int×Int×Bool×Bool×(List Int)×(List Int)×Bool×Int×Int) (c:(Int×Int×Int×Int×Int×Int×Int×Int×Int×Int×Int×Bool×Bool×(List Int)×(List Int)×Bool×Int×Int)→Option Ans) (B:(Int×Int×Int×Int×Int×Int×Int×Bool×Bool×(List Int)×(List Int)×Bool×Int→Option Ans)×(Int×Int×Int×Int×Int×Int×Int×Int×Bool×Bool×(List Int)×(List Int)×Bool×Int→Option Ans)):Option Ans:=match v with | (j,k,l,m,n,o,p,q,r,s,a,b,d,e,f,g,h,i)=>Sg_number_get_aa3_2 fuel (F_coder_Decoder_Get_aa3 fuel) (F_number_tail_take fuel) j k l m n o p q r s a b d e f g h i c B
def L_number_get_aa3_2 (fuel:Nat) (v:V_number_get_aa3_2) (ret:(Int×Int×Int×Int×Int×Int×Int×Bool×Bool×(List Int)×(List Int)×Bool×Int→Option Ans)) (b:(Int×Int×Int×Int×Int×Int×Int×Int×Bool×Bool×(List Int)×(List Int)×Bool×Int→Option Ans)):Option Ans:=iter (S_number_get_aa3_2 fuel) fuel v (ret,b)
def J240_aa3_2 (fuel:Nat) (i:Nat):Option Ev.Blk:=Ev.look i [(100000,B240_aa3_0 fuel)]
def T240_aa3_2 (v:V_number_get_aa3_2):Ev.St:=match v with | (j,k,l,m,n,o,p,q,r,s,a,b,d,e,f,g,h,i)=>⟨[(0,.c (.ptr 0 0)),(1,.c (i6 j)),(4,.c (.ptr 3 0)),(8,.c (i6 k)),(9,.c (i6 l)),(10,.c (.ptr 4 0)),(49,.c (i6 m)),(50,.c (i6 n))],[(0,.cells 194 (i6 o::.own 1::ctb (.int .u64 p::.int .u64 q::.own 2::i6 r::.int .u64 s::i6 a::.bool b::.bool d::[]))),(1,.vec 3 (.int .i64) e false),(2,.vec 5 (.int .u8) f false),(3,.cells 124 [.bool g,i6 h]),(4,.cells 269 [i6 i])],5,3⟩
def E240_aa3_2 (K:KT):W_number_get_aa3_2:=((fun v=>match v with | (e,f,g,h,i,j,k,l,m,n,a,b,d)=>K .ret ⟨[(4,.c (.ptr 3 0)),(5,.c (i6 e))],[(0,.cells 194 (i6 f::.own 1::ctb (.int .u64 g::.int .u64 h::.own 2::i6 i::.int .u64 j::i6 k::.bool l::.bool m::[]))),(1,.vec 3 (.int .i64) n false),(2,.vec 5 (.int .u8) a false),(3,.cells 124 [.bool b,i6 d])],4,3⟩),(fun v=>match v with | (e,f,g,h,i,j,k,l,m,n,a,b,d,o)=>K .normal ⟨[(0,.c (.ptr 0 0)),(1,.c (i6 e)),(4,.c (.ptr 3 0)),(9,.c (i6 f))],[(0,.cells 194 (i6 g::.own 1::ctb (.int .u64 h::.int .u64 i::.own 2::i6 j::.int .u64 k::i6 l::.bool m::.bool n::[]))),(1,.vec 3 (.int .i64) a false),(2,.vec 5 (.int .u8) b false),(3,.cells 124 [.bool d,i6 o])],4,3⟩))
theorem S240_aa3_2_okg (fuel:Nat) (a:YF146_aa3) (b:YF236) (R:Ev.St→OA) (K:KT) (k l:Int) (m n:Int) (o p:Int) (q r:Int) (s t c:Int) (d e:Bool) (f g:LI) (h:Bool) (i j:Int):evalCode tab (Gg240_aa3 a b) (J240_aa3_2 fuel) kp240_aa3 fuel (bodyOf 2 Tryz.f240) (T240_aa3_2 (k,l,m,n,o,p,q,r,s,t,c,d,e,f,g,h,i,j)) (lc kp240_aa3 14 2 R K)=Sg_number_get_aa3_2 fuel a b k l m n o p q r s t c d e f g h i j (fun v=>R (T240_aa3_2 v)) (E240_aa3_2 K):=by
  kernel_rfl
def B240_aa3_2 (fuel:Nat):Ev.Blk:=fun st K=>match canonO (kp240_aa3 14) st with | some s=>(match s with | ⟨[(D,.c (.ptr E F)),(G,.c (i6 H)),(I,.c (.ptr J L)),(M,.c (i6 N)),(O,.c (i6 P)),(Q,.c (.ptr a b)),(d,.c (i6 R)),(e,.c (i6 S))],[(f,.cells g h),(i,.vec j (.int .i64) k false),(l,.vec m (.int .u8) n false),(o,.cells p [.bool q,i6 r]),(t,.cells u [i6 v])],w,x⟩=>(match splitRun 2 ctn h with | some ([i6 T,.own y],[.int .u64 U,.int .u64 V,.own z,i6 W,.int .u64 X,i6 A,.bool B,.bool C])=>bif qb [D,E,F,G,I,J,L,M,O,Q,a,b,d,e,f,g,i,j,l,m,o,p,t,u,w,x,y,z] [0,0,0,1,4,3,0,8,9,10,4,0,49,50,0,194,1,3,2,5,3,124,4,269,5,3,1,2] then iter (S_number_get_aa3_2 fuel) fuel (H,N,P,R,S,T,U,V,W,X,A,B,C,k,n,q,r,v) (E240_aa3_2 K) else none | _=>none) | _=>none) | none=>none
theorem B240_aa3_2_ok (fuel:Nat) (st:Ev.St) (K:KT) (r:Ans) (h:B240_aa3_2 fuel st K=some r):evalCode tab (G240_aa3 fuel) (J240_aa3_2 fuel) kp240_aa3 fuel (.block 2 (.loop (bodyOf 2 Tryz.f240))) st K=some r:=by
  unfold B240_aa3_2 at h
  split at h
  · rename_i s hs
    split at h
    · skip
      split at h
      rotate_left 1
      · cases h
      rename_i hsp
      have esp:=splitRun_eq hsp
      subst esp
      obtain ⟨hb,h⟩:=cond_some' h
      cases qb_eq hb
      exact blk_loop (S:=T240_aa3_2) (ks:=E240_aa3_2) (step:=S_number_get_aa3_2 fuel) (v:=(_,_,_,_,_,_,_,_,_,_,_,_,_,_,_,_,_,_)) (by kernel_rfl) (by kernel_rfl) (fun R K v=>by obtain ⟨j,k,l,m,n,o,p,q,t,u,a,b,c,d,e,f,g,i⟩:=v; exact S240_aa3_2_okg fuel (F_coder_Decoder_Get_aa3 fuel) (F_number_tail_take fuel) R K j k l m n o p q t u a b c d e f g i) hs h
    · cases h
  · cases h
def J240_aa3 (fuel:Nat) (i:Nat):Option Ev.Blk:=Ev.look i [(100000,B240_aa3_0 fuel),(100002,B240_aa3_2 fuel)]
def Fg_number_get_aa3 (fuel:Nat) (w:YF146_aa3) (b2:YF236) (J a1:Int) (a2 a3:Int) (a4 a5 a6:Int) (a7 a8:Bool) (a9 a0:LI) (k0:(Bool×Int×Int×Int×Int×Int×Int×Int×Int×Bool×Bool×LI×LI)→OA):OA:=(w J a1 a2 a3 a4 a5 a6 a7 a8 a9 a0 (fun (P,a,f,g,h,i,j,k,l,m,b,c)=>bif a != 0 then k0 (a==0,0,a,f,g,h,i,j,k,l,m,b,c) else bif P==1 then k0 (a==0,0,a,f,g,h,i,j,k,l,m,b,c) else (L_number_get_aa3_0 fuel (J,0,f,g,h,i,j,k,l,m,b,c,false,0) (fun (ret0_0,ret0_1,ret0_2,ret0_3,ret0_4,ret0_5,ret0_6,ret0_7,ret0_8,ret0_9,ret0_10,ret0_11,ret0_12)=>k0 (ret0_11,ret0_12,ret0_0,ret0_1,ret0_2,ret0_3,ret0_4,ret0_5,ret0_6,ret0_7,ret0_8,ret0_9,ret0_10)) (fun (Q,I,R,S,T,U,V,W,X,Y,K,L,M,N)=>(L_number_get_aa3_2 fuel (Q,I,1,I,0,R,S,T,U,V,W,X,Y,K,L,M,N,44) (fun (ret2_0,ret2_1,ret2_2,ret2_3,ret2_4,ret2_5,ret2_6,ret2_7,ret2_8,ret2_9,ret2_10,ret2_11,ret2_12)=>k0 (ret2_11,ret2_12,ret2_0,ret2_1,ret2_2,ret2_3,ret2_4,ret2_5,ret2_6,ret2_7,ret2_8,ret2_9,ret2_10)) (fun (Z,n,o,p,q,r,s,t,u,v,d,e,b0,b1)=>bif decide (n > 1048577) then k0 (false,0,3,o,p,q,r,s,t,u,v,d,e) else bif n==1 then k0 (false,0,0,o,p,q,r,s,t,u,v,d,e) else (w (i64.wrap (Z+22)) o p q r s t u v d e (fun (O,z,A,B,C,D,E,F,G,H,x,y)=>bif z != 0 then k0 (false,0,z,A,B,C,D,E,F,G,H,x,y) else k0 (false,i64.wrap (i64.wrap (n - 1)*i64.wrap (1 - i64.wrap (2*O))),0,A,B,C,D,E,F,G,H,x,y)))))))))
abbrev YF240_aa3:Type:=Int→Int→Int→Int→Int→Int→Int→Bool→Bool→LI→LI→((Bool×Int×Int×Int×Int×Int×Int×Int×Int×Bool×Bool×LI×LI)→Option Ans)→Option Ans
def F_number_get_aa3 (fuel:Nat):YF240_aa3:=Fg_number_get_aa3 fuel (F_coder_Decoder_Get_aa3 fuel) (F_number_tail_take fuel)
theorem F240_aa3_eqg (fuel:Nat) (a:YF146_aa3) (b:YF236) (e f:Int) (g h:Int) (i j l:Int) (m n:Bool) (o d:LI) (k:Ev.Cont):evalFn tab (Gg240_aa3 a b) (J240_aa3 fuel) kp240_aa3 fuel Tryz.f240 [.c (.ptr 0 0),.c (i6 e)] [.cells 194 (i6 f::.own 1::ctb (.int .u64 g::.int .u64 h::.own 2::i6 i::.int .u64 j::i6 l::.bool m::.bool n::[])),.vec 3 (.int .i64) o false,.vec 5 (.int .u8) d false] k=Fg_number_get_aa3 fuel a b e f g h i j l m n o d (fun r=>match r with | (t,u,v,w,x,y,z,A,B,C,p,q,s)=>k (.tup [(true,[.bool t,i6 u]),(false,[i6 v])],[.cells 194 (i6 w::.own 1::ctb (.int .u64 x::.int .u64 y::.own 2::i6 z::.int .u64 A::i6 B::.bool C::.bool p::[])),.vec 3 (.int .i64) q false,.vec 5 (.int .u8) s false])):=by
  kernel_rfl
theorem hG240_aa3 (fuel:Nat):GOK Tryz.prog (G240_aa3 fuel):=
  gc (ok146_aa3 fuel) Tryz.func146 (by kernel_rfl) rfl <|
  gc (ok236 fuel) Tryz.func236 (by kernel_rfl) rfl <|
  gok_nil
theorem B240_aa3_0_blk (fuel:Nat):BlkOK Tryz.prog Tryz.f240.ntmps (.block 0 (.loop (bodyOf 0 Tryz.f240))) (B240_aa3_0 fuel):=bo0 (hG240_aa3 fuel) (by kernel_rfl) (by kernel_rfl) (B240_aa3_0_ok fuel)
theorem B240_aa3_2_blk (fuel:Nat):BlkOK Tryz.prog Tryz.f240.ntmps (.block 2 (.loop (bodyOf 2 Tryz.f240))) (B240_aa3_2 fuel):=bo0 (hG240_aa3 fuel) (by kernel_rfl) (by kernel_rfl) (B240_aa3_2_ok fuel)
theorem fok240_aa3 (fuel:Nat):FnOK Tryz.prog 240 (evalFn tab (G240_aa3 fuel) (J240_aa3 fuel) kp240_aa3 fuel Tryz.f240):=
  fn_ok tab_ok (hG240_aa3 fuel) mixed Tryz.func240 (c:=(Tryz.f240.body).getD .skip) rfl (fun q hq=>by
    rw [(by kernel_rfl:obl (J240_aa3 fuel) ((Tryz.f240.body).getD .skip)= [(.block 0 (.loop (bodyOf 0 Tryz.f240)),B240_aa3_0 fuel),(.block 2 (.loop (bodyOf 2 Tryz.f240)),B240_aa3_2 fuel)])] at hq
    simp only [List.mem_cons,List.not_mem_nil,or_false] at hq
    rcases hq with rfl | rfl
    · exact B240_aa3_0_blk fuel
    · exact B240_aa3_2_blk fuel)
def spg240_aa3 (F:YF240_aa3):Ev.Spec:=fun args objs k=>match args,objs with | [.c (.ptr g h),.c (i6 i)],[.cells j a,.vec l (.int .i64) m false,.vec n (.int .u8) b false]=>(match splitRun 2 ctn a with | some ([i6 o,.own p],[.int .u64 q,.int .u64 s,.own t,i6 u,.int .u64 v,i6 w,.bool x,.bool y])=>bif qb [g,h,j,l,n,p,t] [0,0,194,3,5,1,2] then F i o q s u v w x y m b (fun r=>match r with | (z,A,B,C,D,E,G,H,I,J,d,e,f)=>k (.tup [(true,[.bool z,i6 A]),(false,[i6 B])],[.cells 194 (i6 C::.own 1::ctb (.int .u64 D::.int .u64 E::.own 2::i6 G::.int .u64 H::i6 I::.bool J::.bool d::[])),.vec 3 (.int .i64) e false,.vec 5 (.int .u8) f false])) else none | _=>none) | _,_=>none
theorem ok240_aa3 (fuel:Nat):FnOK Tryz.prog 240 (spg240_aa3 (F_number_get_aa3 fuel)):=by
  intro args objs kk r h
  unfold spg240_aa3 at h
  split at h
  · skip
    split at h
    rotate_left 1
    · cases h
    rename_i hsp
    have esp:=splitRun_eq hsp
    subst esp
    obtain ⟨hb,h⟩:=cond_some' h
    cases qb_eq hb
    exact fok240_aa3 fuel _ _ kk r ((F240_aa3_eqg fuel (F_coder_Decoder_Get_aa3 fuel) (F_number_tail_take fuel) _ _ _ _ _ _ _ _ _ _ _ kk).trans h)
  · cases h
def kp189_aa3 (i:Nat):Option (List Nat):=Ev.look i []
def Gg189_aa3 (a:YF146_aa3) (b:YF147_40a) (d:YF170) (c:YF240_aa3) (f:Nat):Option Ev.Spec:=Ev.look f [(146,spg146_aa3 a),(147,spg147_40a b),(170,spg170 d),(240,spg240_aa3 c)]
def G189_aa3 (fuel:Nat):Nat→Option Ev.Spec:=Gg189_aa3 (F_coder_Decoder_Get_aa3 fuel) (F_coder_Decoder_Model_40a fuel) (F_number_fits fuel) (F_number_get_aa3 fuel)
def Fg_number_Get_aa3 (fuel:Nat) (x:YF146_aa3) (y:YF147_40a) (O:YF170) (z:YF240_aa3) (w R:Int) (S T:Int) (U V W:Int) (X Y:Bool) (Z Q:LI) (k0:(Bool×Int×Int×Int×Int×Int×Int×Int×Int×Bool×Bool×LI×LI)→OA):OA:=(x ((-1:Int)) R S T U V W X Y Z Q (fun (a0,d,e,f,g,h,i,j,k,l,a,b)=>bif d==7 then k0 (false,0,d,e,f,g,h,i,j,k,l,a,b) else (y e f g h i j k l a b (fun (P,m,n,o,p,q,r,s,t,u,c,D)=>(O P D w (48) (fun v=>bif v != 0 then k0 (false,0,v,m,n,o,p,q,r,s,t,u,c) else (z w m n o p q r s t u c (fun (E,F,G,H,I,J,K,L,M,N,A,B,C)=>k0 (E,F,G,H,I,J,K,L,M,N,A,B,C)))))))))
abbrev YF189_aa3:Type:=Int→Int→Int→Int→Int→Int→Int→Bool→Bool→LI→LI→((Bool×Int×Int×Int×Int×Int×Int×Int×Int×Bool×Bool×LI×LI)→Option Ans)→Option Ans
def F_number_Get_aa3 (fuel:Nat):YF189_aa3:=Fg_number_Get_aa3 fuel (F_coder_Decoder_Get_aa3 fuel) (F_coder_Decoder_Model_40a fuel) (F_number_fits fuel) (F_number_get_aa3 fuel)
theorem F189_aa3_eqg (fuel:Nat) (a:YF146_aa3) (b:YF147_40a) (e:YF170) (d:YF240_aa3) (g h:Int) (i j:Int) (l m n:Int) (o p:Bool) (q f:LI) (k:Ev.Cont):evalFn tab (Gg189_aa3 a b e d) J0 kp189_aa3 fuel Tryz.f189 [.c (.ptr 0 0),.c (i6 g)] [.cells 194 (i6 h::.own 1::ctb (.int .u64 i::.int .u64 j::.own 2::i6 l::.int .u64 m::i6 n::.bool o::.bool p::[])),.vec 3 (.int .i64) q false,.vec 5 (.int .u8) f false] k=Fg_number_Get_aa3 fuel a b e d g h i j l m n o p q f (fun r=>match r with | (v,w,x,y,z,A,B,C,D,E,s,t,u)=>k (.tup [(true,[.bool v,i6 w]),(false,[i6 x])],[.cells 194 (i6 y::.own 1::ctb (.int .u64 z::.int .u64 A::.own 2::i6 B::.int .u64 C::i6 D::.bool E::.bool s::[])),.vec 3 (.int .i64) t false,.vec 5 (.int .u8) u false])):=by
  kernel_rfl
theorem hG189_aa3 (fuel:Nat):GOK Tryz.prog (G189_aa3 fuel):=
  gc (ok146_aa3 fuel) Tryz.func146 (by kernel_rfl) rfl <|
  gc (ok147_40a fuel) Tryz.func147 (by kernel_rfl) rfl <|
  gc (ok170 fuel) Tryz.func170 (by kernel_rfl) rfl <|
  gc (ok240_aa3 fuel) Tryz.func240 (by kernel_rfl) rfl <|
  gok_nil
def spg189_aa3 (F:YF189_aa3):Ev.Spec:=fun args objs k=>match args,objs with | [.c (.ptr g h),.c (i6 i)],[.cells j a,.vec l (.int .i64) m false,.vec n (.int .u8) b false]=>(match splitRun 2 ctn a with | some ([i6 o,.own p],[.int .u64 q,.int .u64 s,.own t,i6 u,.int .u64 v,i6 w,.bool x,.bool y])=>bif qb [g,h,j,l,n,p,t] [0,0,194,3,5,1,2] then F i o q s u v w x y m b (fun r=>match r with | (z,A,B,C,D,E,G,H,I,J,d,e,f)=>k (.tup [(true,[.bool z,i6 A]),(false,[i6 B])],[.cells 194 (i6 C::.own 1::ctb (.int .u64 D::.int .u64 E::.own 2::i6 G::.int .u64 H::i6 I::.bool J::.bool d::[])),.vec 3 (.int .i64) e false,.vec 5 (.int .u8) f false])) else none | _=>none) | _,_=>none
def spec189_aa3 (fuel:Nat):Ev.Spec:=spg189_aa3 (F_number_Get_aa3 fuel)
theorem ok189_aa3 (fuel:Nat):FnOK Tryz.prog 189 (spec189_aa3 fuel):=by
  intro args objs kk r h
  unfold spec189_aa3 spg189_aa3 at h
  split at h
  · skip
    split at h
    rotate_left 1
    · cases h
    rename_i hsp
    have esp:=splitRun_eq hsp
    subst esp
    obtain ⟨hb,h⟩:=cond_some' h
    cases qb_eq hb
    exact fo0 (hG189_aa3 fuel) Tryz.func189 rfl (by kernel_rfl) _ _ kk r ((F189_aa3_eqg fuel (F_coder_Decoder_Get_aa3 fuel) (F_coder_Decoder_Model_40a fuel) (F_number_fits fuel) (F_number_get_aa3 fuel) _ _ _ _ _ _ _ _ _ _ _ kk).trans h)
  · cases h
def kp241_452 (i:Nat):Option (List Nat):=Ev.look i [(11,[0,1,2,11,38,39]),(100000,[2,11]),(400000,[6,7])]
def Gg241_452 (a:YF146_aa3) (b:YF147_40a) (c:YF170) (f:Nat):Option Ev.Spec:=Ev.look f [(146,spg146_aa3 a),(147,spg147_40a b),(170,spg170 c)]
def G241_452 (fuel:Nat):Nat→Option Ev.Spec:=Gg241_452 (F_coder_Decoder_Get_aa3 fuel) (F_coder_Decoder_Model_40a fuel) (F_number_fits fuel)
abbrev V_number_GetId_452_0:Type:=Int×Int×Int×Int×Int×Int×Int×Int×Int×Int×Int×Bool×Bool×LI×LI
abbrev W_number_GetId_452_0:Type:=(Int×Int×Int×Int×Int×Int×Int×Int×Bool×Bool×LI×LI→OA)×(Int×Int×Int×Int×Int×Int×Int×Int×Bool×Bool×LI×LI→OA)
def Sg_number_GetId_452_0 (fuel:Nat) (D:YF146_aa3) (F:YF147_40a) (G:YF170) (t u:Int) (a v:Int) (w x:Int) (y z:Int) (A C o:Int) (p q:Bool) (r s:LI) (c:V_number_GetId_452_0→OA) (B:W_number_GetId_452_0):OA:=match B with | (ret,b)=>bif decide (w < v) then (D (i64.wrap (i64.wrap (t+a) - 1)) x y z A C o p q r s (fun (E,f,g,h,i,j,k,l,m,n,d,e)=>bif f != 0 then ret (0,f,g,h,i,j,k,l,m,n,d,e) else c (t,u,i64.wrap (i64.wrap (2*a)+E),v,i64.wrap (w+1),g,h,i,j,k,l,m,n,d,e))) else b (u,a,x,y,z,A,C,o,p,q,r,s)
def S_number_GetId_452_0 (fuel:Nat) (v:Int×Int×Int×Int×Int×Int×Int×Int×Int×Int×Int×Bool×Bool×(List Int)×(List Int)) (c:(Int×Int×Int×Int×Int×Int×Int×Int×Int×Int×Int×Bool×Bool×(List Int)×(List Int))→Option Ans) (B:(Int×Int×Int×Int×Int×Int×Int×Int×Bool×Bool×(List Int)×(List Int)→Option Ans)×(Int×Int×Int×Int×Int×Int×Int×Int×Bool×Bool×(List Int)×(List Int)→Option Ans)):Option Ans:=match v with | (g,h,i,j,k,l,m,n,o,p,a,b,d,e,f)=>Sg_number_GetId_452_0 fuel (F_coder_Decoder_Get_aa3 fuel) (F_coder_Decoder_Model_40a fuel) (F_number_fits fuel) g h i j k l m n o p a b d e f c B
def L_number_GetId_452_0 (fuel:Nat) (v:V_number_GetId_452_0) (ret:(Int×Int×Int×Int×Int×Int×Int×Int×Bool×Bool×(List Int)×(List Int)→Option Ans)) (b:(Int×Int×Int×Int×Int×Int×Int×Int×Bool×Bool×(List Int)×(List Int)→Option Ans)):Option Ans:=iter (S_number_GetId_452_0 fuel) fuel v (ret,b)
def T241_452_0 (v:V_number_GetId_452_0):Ev.St:=match v with | (g,h,i,j,k,l,m,n,o,p,a,b,d,e,f)=>⟨[(0,.c (.ptr 0 0)),(1,.c (i6 g)),(2,.c (i6 h)),(11,.c (i6 i)),(38,.c (i6 j)),(39,.c (i6 k))],[(0,.cells 194 (i6 l::.own 1::ctb (.int .u64 m::.int .u64 n::.own 2::i6 o::.int .u64 p::i6 a::.bool b::.bool d::[]))),(1,.vec 3 (.int .i64) e false),(2,.vec 5 (.int .u8) f false)],3,3⟩
def E241_452_0 (K:KT):W_number_GetId_452_0:=((fun v=>match v with | (d,e,f,g,h,i,j,k,l,m,a,b)=>K .ret ⟨[(6,.c (i6 d)),(7,.c (i6 e))],[(0,.cells 194 (i6 f::.own 1::ctb (.int .u64 g::.int .u64 h::.own 2::i6 i::.int .u64 j::i6 k::.bool l::.bool m::[]))),(1,.vec 3 (.int .i64) a false),(2,.vec 5 (.int .u8) b false)],3,3⟩),(fun v=>match v with | (d,e,f,g,h,i,j,k,l,m,a,b)=>K .normal ⟨[(2,.c (i6 d)),(11,.c (i6 e))],[(0,.cells 194 (i6 f::.own 1::ctb (.int .u64 g::.int .u64 h::.own 2::i6 i::.int .u64 j::i6 k::.bool l::.bool m::[]))),(1,.vec 3 (.int .i64) a false),(2,.vec 5 (.int .u8) b false)],3,3⟩))
theorem S241_452_0_okg (fuel:Nat) (a:YF146_aa3) (b:YF147_40a) (c:YF170) (R:Ev.St→OA) (K:KT) (i j:Int) (k l:Int) (m n:Int) (o p:Int) (q r d:Int) (e f:Bool) (g h:LI):evalCode tab (Gg241_452 a b c) J0 kp241_452 fuel (bodyOf 0 Tryz.f241) (T241_452_0 (i,j,k,l,m,n,o,p,q,r,d,e,f,g,h)) (lc kp241_452 11 0 R K)=Sg_number_GetId_452_0 fuel a b c i j k l m n o p q r d e f g h (fun v=>R (T241_452_0 v)) (E241_452_0 K):=by
  kernel_rfl
def B241_452_0 (fuel:Nat):Ev.Blk:=fun st K=>match canonO (kp241_452 11) st with | some s=>(match s with | ⟨[(p,.c (.ptr q r)),(t,.c (i6 u)),(v,.c (i6 w)),(x,.c (i6 y)),(z,.c (i6 A)),(B,.c (i6 C))],[(D,.cells E a),(b,.vec d (.int .i64) e false),(f,.vec g (.int .u8) h false)],i,j⟩=>(match splitRun 2 ctn a with | some ([i6 F,.own k],[.int .u64 G,.int .u64 H,.own l,i6 I,.int .u64 J,i6 m,.bool n,.bool o])=>bif qb [p,q,r,t,v,x,z,B,D,E,b,d,f,g,i,j,k,l] [0,0,0,1,2,11,38,39,0,194,1,3,2,5,3,3,1,2] then iter (S_number_GetId_452_0 fuel) fuel (u,w,y,A,C,F,G,H,I,J,m,n,o,e,h) (E241_452_0 K) else none | _=>none) | _=>none) | none=>none
theorem B241_452_0_ok (fuel:Nat) (st:Ev.St) (K:KT) (r:Ans) (h:B241_452_0 fuel st K=some r):evalCode tab (G241_452 fuel) J0 kp241_452 fuel (.block 0 (.loop (bodyOf 0 Tryz.f241))) st K=some r:=by
  unfold B241_452_0 at h
  split at h
  · rename_i s hs
    split at h
    · skip
      split at h
      rotate_left 1
      · cases h
      rename_i hsp
      have esp:=splitRun_eq hsp
      subst esp
      obtain ⟨hb,h⟩:=cond_some' h
      cases qb_eq hb
      exact blk_loop (S:=T241_452_0) (ks:=E241_452_0) (step:=S_number_GetId_452_0 fuel) (v:=(_,_,_,_,_,_,_,_,_,_,_,_,_,_,_)) (by kernel_rfl) (by kernel_rfl) (fun R K v=>by obtain ⟨f,g,i,j,k,l,m,n,o,p,a,b,c,d,e⟩:=v; exact S241_452_0_okg fuel (F_coder_Decoder_Get_aa3 fuel) (F_coder_Decoder_Model_40a fuel) (F_number_fits fuel) R K f g i j k l m n o p a b c d e) hs h
    · cases h
  · cases h
def J241_452 (fuel:Nat) (i:Nat):Option Ev.Blk:=Ev.look i [(100000,B241_452_0 fuel)]
def Fg_number_GetId_452 (fuel:Nat) (z:YF146_aa3) (A:YF147_40a) (F:YF170) (y a:Int) (R S:Int) (T U:Int) (V W:Int) (X Y:Bool) (P Q:LI) (k0:(Int×Int×Int×Int×Int×Int×Int×Int×Bool×Bool×LI×LI)→OA):OA:=(z ((-1:Int)) R S T U V W X Y P Q (fun (Z,v,d,e,f,g,h,i,j,k,b,c)=>bif v==7 then k0 (0,v,d,e,f,g,h,i,j,k,b,c) else bif decide (a < 0) then k0 (0,2,d,e,f,g,h,i,j,k,b,c) else bif decide (a > 10) then k0 (0,2,d,e,f,g,h,i,j,k,b,c) else bif decide (a < 0) then none else (A d e f g h i j k b c (fun (C,m,n,o,p,q,r,s,t,u,l,B)=>(F C B y (i64.wrap (Ev.ishl IntKind.i64 1 a - 1)) (fun x=>bif x != 0 then k0 (0,x,m,n,o,p,q,r,s,t,u,l) else (L_number_GetId_452_0 fuel (y,a,1,a,0,m,n,o,p,q,r,s,t,u,l) (fun (ret0_0,ret0_1,ret0_2,ret0_3,ret0_4,ret0_5,ret0_6,ret0_7,ret0_8,ret0_9,ret0_10,ret0_11)=>k0 (ret0_0,ret0_1,ret0_2,ret0_3,ret0_4,ret0_5,ret0_6,ret0_7,ret0_8,ret0_9,ret0_10,ret0_11)) (fun (w,G,H,I,J,K,L,M,N,O,D,E)=>bif decide (w < 0) then none else k0 (i64.wrap (G - Ev.ishl IntKind.i64 1 w),0,H,I,J,K,L,M,N,O,D,E)))))))))
abbrev YF241_452:Type:=Int→Int→Int→Int→Int→Int→Int→Int→Bool→Bool→LI→LI→((Int×Int×Int×Int×Int×Int×Int×Int×Bool×Bool×LI×LI)→Option Ans)→Option Ans
def F_number_GetId_452 (fuel:Nat):YF241_452:=Fg_number_GetId_452 fuel (F_coder_Decoder_Get_aa3 fuel) (F_coder_Decoder_Model_40a fuel) (F_number_fits fuel)
theorem F241_452_eqg (fuel:Nat) (a:YF146_aa3) (b:YF147_40a) (d:YF170) (g h:Int) (i j:Int) (l m:Int) (n o:Int) (p q:Bool) (e f:LI) (k:Ev.Cont):evalFn tab (Gg241_452 a b d) (J241_452 fuel) kp241_452 fuel Tryz.f241 [.c (.ptr 0 0),.c (i6 g),.c (i6 h)] [.cells 194 (i6 i::.own 1::ctb (.int .u64 j::.int .u64 l::.own 2::i6 m::.int .u64 n::i6 o::.bool p::.bool q::[])),.vec 3 (.int .i64) e false,.vec 5 (.int .u8) f false] k=Fg_number_GetId_452 fuel a b d g h i j l m n o p q e f (fun r=>match r with | (u,v,w,x,y,z,A,B,C,D,s,t)=>k (.tup [(false,[i6 u]),(false,[i6 v])],[.cells 194 (i6 w::.own 1::ctb (.int .u64 x::.int .u64 y::.own 2::i6 z::.int .u64 A::i6 B::.bool C::.bool D::[])),.vec 3 (.int .i64) s false,.vec 5 (.int .u8) t false])):=by
  kernel_rfl
theorem hG241_452 (fuel:Nat):GOK Tryz.prog (G241_452 fuel):=
  gc (ok146_aa3 fuel) Tryz.func146 (by kernel_rfl) rfl <|
  gc (ok147_40a fuel) Tryz.func147 (by kernel_rfl) rfl <|
  gc (ok170 fuel) Tryz.func170 (by kernel_rfl) rfl <|
  gok_nil
theorem B241_452_0_blk (fuel:Nat):BlkOK Tryz.prog Tryz.f241.ntmps (.block 0 (.loop (bodyOf 0 Tryz.f241))) (B241_452_0 fuel):=bo0 (hG241_452 fuel) (by kernel_rfl) (by kernel_rfl) (B241_452_0_ok fuel)
def spg241_452 (F:YF241_452):Ev.Spec:=fun args objs k=>match args,objs with | [.c (.ptr g h),.c (i6 i),.c (i6 j)],[.cells l a,.vec m (.int .i64) b false,.vec n (.int .u8) d false]=>(match splitRun 2 ctn a with | some ([i6 o,.own p],[.int .u64 q,.int .u64 s,.own t,i6 u,.int .u64 v,i6 w,.bool x,.bool y])=>bif qb [g,h,l,m,n,p,t] [0,0,194,3,5,1,2] then F i j o q s u v w x y b d (fun r=>match r with | (z,A,B,C,D,E,G,H,I,J,e,f)=>k (.tup [(false,[i6 z]),(false,[i6 A])],[.cells 194 (i6 B::.own 1::ctb (.int .u64 C::.int .u64 D::.own 2::i6 E::.int .u64 G::i6 H::.bool I::.bool J::[])),.vec 3 (.int .i64) e false,.vec 5 (.int .u8) f false])) else none | _=>none) | _,_=>none
def spec241_452 (fuel:Nat):Ev.Spec:=spg241_452 (F_number_GetId_452 fuel)
theorem ok241_452 (fuel:Nat):FnOK Tryz.prog 241 (spec241_452 fuel):=by
  intro args objs kk r h
  unfold spec241_452 spg241_452 at h
  split at h
  · skip
    split at h
    rotate_left 1
    · cases h
    rename_i hsp
    have esp:=splitRun_eq hsp
    subst esp
    obtain ⟨hb,h⟩:=cond_some' h
    cases qb_eq hb
    exact fo1 (hG241_452 fuel) Tryz.func241 rfl (B241_452_0_blk fuel) (by kernel_rfl) _ _ kk r ((F241_452_eqg fuel (F_coder_Decoder_Get_aa3 fuel) (F_coder_Decoder_Model_40a fuel) (F_number_fits fuel) _ _ _ _ _ _ _ _ _ _ _ _ kk).trans h)
  · cases h
def fns22:List (Nat×Func):=[(22,Tryz.f22),(23,Tryz.f23),(26,Tryz.f26),(28,Tryz.f28),(31,Tryz.f31),(35,Tryz.f35),(38,Tryz.f38),(72,Tryz.f72),(73,Tryz.f73),(74,Tryz.f74),(75,Tryz.f75),(76,Tryz.f76),(77,Tryz.f77),(79,Tryz.f79),(80,Tryz.f80),(91,Tryz.f91),(92,Tryz.f92),(93,Tryz.f93),(94,Tryz.f94),(95,Tryz.f95),(102,Tryz.f102),(104,Tryz.f104),(105,Tryz.f105),(122,Tryz.f122),(158,Tryz.f158),(159,Tryz.f159),(160,Tryz.f160),(161,Tryz.f161),(162,Tryz.f162),(163,Tryz.f163),(164,Tryz.f164),(167,Tryz.f167),(168,Tryz.f168),(190,Tryz.f190),(191,Tryz.f191),(194,Tryz.f194),(195,Tryz.f195),(212,Tryz.f212),(226,Tryz.f226),(227,Tryz.f227),(228,Tryz.f228),(229,Tryz.f229),(230,Tryz.f230),(231,Tryz.f231),(232,Tryz.f232),(233,Tryz.f233),(234,Tryz.f234),(235,Tryz.f235),(242,Tryz.f242),(249,Tryz.f249),(250,Tryz.f250),(251,Tryz.f251),(255,Tryz.f255),(1000231,Tryz.f231)]
def kpt22:List (Nat×List (Nat×List Nat)):=[(22,[(200003,[1]),(200004,[1])]),(23,[(12,[2,3,13,15,16,17]),(19,[2,3,13,15,16,17,18,19,20]),(100000,[13]),(100002,[2,3,13,15,16,17]),(200013,[2,3]),(200016,[2]),(200019,[3]),(200022,[2,3]),(400000,[6,7]),(400002,[6,7])]),(26,[(11,[2,4,16,17,18]),(100000,[16]),(200019,[16]),(400000,[8,9])]),(28,[(4,[0,1,12,13]),(100000,[]),(200006,[0,1]),(400000,[4])]),(38,[(4,[2,3,29,30]),(100000,[]),(200006,[2,3]),(400000,[4])]),(74,[(2,[0,1,5]),(100000,[]),(200004,[0]),(400000,[4])]),(75,[(200001,[2,3,4])]),(80,[(200002,[3]),(200003,[0,3]),(200008,[0,3]),(200013,[0,3,4])]),(95,[(2,[0,1,6,1000002]),(100000,[]),(200005,[0,7]),(400000,[])]),(105,[(5,[2,6,8,9,34,35]),(100000,[6,8,9]),(400000,[6,7])]),(122,[(4,[23,24,25]),(100000,[]),(400000,[2])]),(167,[(11,[0,1,7,8,11,52,53,1000002]),(20,[0,1,7,8,11,12,13,52,53,75,76,1000002]),(100001,[]),(100003,[0,1,7,8,11,52,53]),(200007,[7]),(400001,[10]),(400003,[10])]),(191,[(200004,[0]),(200013,[])]),(194,[(2,[0,1,7,8]),(100000,[]),(400000,[4])]),(226,[(2,[0,1,7,8]),(100000,[]),(400000,[4])]),(227,[(2,[0,1,7,8]),(100000,[]),(400000,[4])]),(230,[(200001,[3,5])]),(232,[(2,[0,1,12,13]),(100000,[]),(400000,[4])]),(233,[(3,[0,1,2,8,29]),(100000,[8]),(200001,[0]),(200005,[0]),(400000,[6,7])]),(234,[(3,[0,1,2,7,17,18,19]),(8,[0,1,2,7,41,42,43]),(100000,[0,1,2,7]),(100002,[7]),(200005,[0,9]),(200010,[0,11]),(400000,[6]),(400002,[6])]),(242,[(200000,[0,1]),(200007,[0,1,4])]),(251,[(13,[0,1,3,4,12,18,64,65]),(100000,[3,4,12,18]),(200009,[8]),(200011,[8,11]),(400000,[12,13])]),(255,[(8,[0,1,2,3,9,44,45]),(100000,[]),(400000,[8])])]
def kpa22 (f i:Nat):Option (List Nat):=match Ev.look f kpt22 with | some l=>Ev.look i l | none=>none
def ext22 (f:Nat):Option Ev.Spec:=Ev.look f [(48,spec48 100000),(49,spec49 100000),(52,spec52_a20 100000),(65,spec65 100000),(78,spec78 100000),(81,spec81_856 100000),(121,spec121_cf0 100000),(126,spec126_a20 100000),(146,spec146_aa3 100000),(147,spec147_40a 100000),(166,spec166_b82 100000),(189,spec189_aa3 100000),(241,spec241_452 100000)]
theorem ext22_ok:GOK Tryz.prog ext22:=
  gok_cons ⟨ok48 100000,enters_of Tryz.func48 (by kernel_rfl) rfl⟩ <|
  gok_cons ⟨ok49 100000,enters_of Tryz.func49 (by kernel_rfl) rfl⟩ <|
  gok_cons ⟨ok52_a20 100000,enters_of Tryz.func52 (by kernel_rfl) rfl⟩ <|
  gok_cons ⟨ok65 100000,enters_of Tryz.func65 (by kernel_rfl) rfl⟩ <|
  gok_cons ⟨ok78 100000,enters_of Tryz.func78 (by kernel_rfl) rfl⟩ <|
  gok_cons ⟨ok81_856 100000,enters_of Tryz.func81 (by kernel_rfl) rfl⟩ <|
  gok_cons ⟨ok121_cf0 100000,enters_of Tryz.func121 (by kernel_rfl) rfl⟩ <|
  gok_cons ⟨ok126_a20 100000,enters_of Tryz.func126 (by kernel_rfl) rfl⟩ <|
  gok_cons ⟨ok146_aa3 100000,enters_of Tryz.func146 (by kernel_rfl) rfl⟩ <|
  gok_cons ⟨ok147_40a 100000,enters_of Tryz.func147 (by kernel_rfl) rfl⟩ <|
  gok_cons ⟨ok166_b82 100000,enters_of Tryz.func166 (by kernel_rfl) rfl⟩ <|
  gok_cons ⟨ok189_aa3 100000,enters_of Tryz.func189 (by kernel_rfl) rfl⟩ <|
  gok_cons ⟨ok241_452 100000,enters_of Tryz.func241 (by kernel_rfl) rfl⟩ <|
  gok_nil
theorem fns22_ok:Fns Tryz.prog fns22:=
  fns_cons Tryz.func22 <|
  fns_cons Tryz.func23 <|
  fns_cons Tryz.func26 <|
  fns_cons Tryz.func28 <|
  fns_cons Tryz.func31 <|
  fns_cons Tryz.func35 <|
  fns_cons Tryz.func38 <|
  fns_cons Tryz.func72 <|
  fns_cons Tryz.func73 <|
  fns_cons Tryz.func74 <|
  fns_cons Tryz.func75 <|
  fns_cons Tryz.func76 <|
  fns_cons Tryz.func77 <|
  fns_cons Tryz.func79 <|
  fns_cons Tryz.func80 <|
  fns_cons Tryz.func91 <|
  fns_cons Tryz.func92 <|
  fns_cons Tryz.func93 <|
  fns_cons Tryz.func94 <|
  fns_cons Tryz.func95 <|
  fns_cons Tryz.func102 <|
  fns_cons Tryz.func104 <|
  fns_cons Tryz.func105 <|
  fns_cons Tryz.func122 <|
  fns_cons Tryz.func158 <|
  fns_cons Tryz.func159 <|
  fns_cons Tryz.func160 <|
  fns_cons Tryz.func161 <|
  fns_cons Tryz.func162 <|
  fns_cons Tryz.func163 <|
  fns_cons Tryz.func164 <|
  fns_cons Tryz.func167 <|
  fns_cons Tryz.func168 <|
  fns_cons Tryz.func190 <|
  fns_cons Tryz.func191 <|
  fns_cons Tryz.func194 <|
  fns_cons Tryz.func195 <|
  fns_cons Tryz.func212 <|
  fns_cons Tryz.func226 <|
  fns_cons Tryz.func227 <|
  fns_cons Tryz.func228 <|
  fns_cons Tryz.func229 <|
  fns_cons Tryz.func230 <|
  fns_cons Tryz.func231 <|
  fns_cons Tryz.func232 <|
  fns_cons Tryz.func233 <|
  fns_cons Tryz.func234 <|
  fns_cons Tryz.func235 <|
  fns_cons Tryz.func242 <|
  fns_cons Tryz.func249 <|
  fns_cons Tryz.func250 <|
  fns_cons Tryz.func251 <|
  fns_cons Tryz.func255 <|
  fns_cons Tryz.func231 <|
  fns_nil
def evs22:Nat→Option Ev.Spec:=evs tab fns22 kpa22 100000 ext22 60
theorem evs22_ok:GOK Tryz.prog evs22:=evs_ok tab_ok mixed fns22_ok (by kernel_rfl) ext22_ok 60
theorem aw22_eq:evalFn tab evs22 (fun _=>none) (kpa22 22) 100000 Tryz.f22 [] [] trueR=some ():=by
  kernel_rfl
def F_law10_Awake (fuel:Nat) (k0:(Bool)→Option Ans):Option Ans:=k0 true
abbrev YF22:Type:=(Bool→Option Ans)→Option Ans
def spg22 (F:YF22):Ev.Spec:=fun args objs k=>match args,objs with | [],[]=>F (fun r=>k (.c (.bool r),[])) | _,_=>none
def spec22 (fuel:Nat):Ev.Spec:=spg22 (F_law10_Awake fuel)
theorem ok22 (fuel:Nat):FnOK Tryz.prog 22 (spec22 fuel):=by
  intro args objs kk r h
  unfold spec22 spg22 at h
  split at h
  · exact true_ok (fn_ok (fuel:=100000) tab_ok evs22_ok mixed Tryz.func22 (kp:=kpa22 22) (J:=fun _=>none) (c:=(Tryz.f22.body).getD .skip) rfl (fun q hq=>by rw [obl_none] at hq; cases hq)) aw22_eq h
  · cases h
def kp21 (i:Nat):Option (List Nat):=Ev.look i []
def Gg21 (f:Nat):Option Ev.Spec:=Ev.look f []
def G21 (fuel:Nat):Nat→Option Ev.Spec:=Gg21
def F_law10_long (fuel:Nat) (a:(List (Int×Int×(List Int)))) (b:(List (Int×Int×Int×Bool×Int×Int×(Int×Int×(List Int))))) (k0:(Bool)→Option Ans):Option Ans:=bif decide ((↑a.length:Int) > 120) then k0 true else k0 (decide ((↑b.length:Int) > 600))
abbrev YF21:Type:=((List (Int×Int×LI)))→((List (Int×Int×Int×Bool×Int×Int×(Int×Int×LI))))→(Bool→Option Ans)→Option Ans
theorem F21_eq (fuel:Nat) (a:(List (Int×Int×LI))) (b:(List (Int×Int×Int×Bool×Int×Int×(Int×Int×LI)))) (k:Ev.Cont):evalFn tab (G21 fuel) J0 kp21 fuel Tryz.f21 [.c (.sl (.pair (.int .i64) (.pair (.int .i64) (.sl (.int .u8)))) a),.c (.sl (.pair (.int .i64) (.pair (.int .i64) (.pair (.int .i64) (.pair .bool (.pair (.int .i64) (.pair (.int .i64) (.pair (.int .i64) (.pair (.int .i64) (.sl (.int .u8)))))))))) b)] [] k=F_law10_long fuel a b (fun r=>match r with | d=>k (.c (.bool d),[])):=by
  kernel_rfl
theorem hG21 (fuel:Nat):GOK Tryz.prog (G21 fuel):=
  gok_nil
def spg21 (F:YF21):Ev.Spec:=fun args objs k=>match args,objs with | [.c (.sl (.pair (.int .i64) (.pair (.int .i64) (.sl (.int .u8)))) a),.c (.sl (.pair (.int .i64) (.pair (.int .i64) (.pair (.int .i64) (.pair .bool (.pair (.int .i64) (.pair (.int .i64) (.pair (.int .i64) (.pair (.int .i64) (.sl (.int .u8)))))))))) b)],[]=>F a b (fun r=>match r with | d=>k (.c (.bool d),[])) | _,_=>none
theorem ok21 (fuel:Nat):FnOK Tryz.prog 21 (spg21 (F_law10_long fuel)):=by
  intro args objs kk r h
  unfold spg21 at h
  split at h
  · skip
    exact fo0 (hG21 fuel) Tryz.func21 rfl (by kernel_rfl) _ _ kk r ((F21_eq fuel _ _ kk).trans h)
  · cases h
def kp25 (i:Nat):Option (List Nat):=Ev.look i [(4,[0,1,12,13]),(100000,[]),(200006,[0,1]),(400000,[4])]
def Gg25 (f:Nat):Option Ev.Spec:=Ev.look f []
def G25 (fuel:Nat):Nat→Option Ev.Spec:=Gg25
def S_ref02_SameBytes_0 (fuel:Nat) (v:(List Int)×(List Int)×Int×Int) (c:((List Int)×(List Int)×Int×Int)→Option Ans) (B:(Bool→Option Ans)×(Unit→Option Ans)):Option Ans:=match v,B with | (d,e,f,a),(ret,b)=>bif decide (a < f) then bif decide ((0:Int)≤a∧a < (↑d.length:Int)) then bif decide ((0:Int)≤a∧a < (↑e.length:Int)) then bif d.getD a.toNat (0:Int) != e.getD a.toNat (0:Int) then ret false else c (d,e,f,i64.wrap (a+(1:Int))) else none else none else b ()
def L_ref02_SameBytes_0 (fuel:Nat) (v:(List Int)×(List Int)×Int×Int) (ret:(Bool→Option Ans)) (b:(Unit→Option Ans)):Option Ans:=iter (S_ref02_SameBytes_0 fuel) fuel v (ret,b)
def T25_0 (v:LI×LI×Int×Int):Ev.St:=match v with | (a,b,d,e)=>⟨[(0,.c (.sl (.int .u8) a)),(1,.c (.sl (.int .u8) b)),(12,.c (i6 d)),(13,.c (i6 e))],[],0,0⟩
def E25_0 (K:KT):(Bool→OA)×(Unit→OA):=((fun v=>match v with | a=>K .ret ⟨[(4,.c (.bool a))],[],0,0⟩),(fun v=>match v with | ()=>K .normal ⟨[],[],0,0⟩))
theorem S25_0_ok (fuel:Nat) (R:Ev.St→OA) (K:KT) (a b:LI) (c d:Int):evalCode tab (G25 fuel) J0 kp25 fuel (bodyOf 0 Tryz.f25) (T25_0 (a,b,c,d)) (lc kp25 4 0 R K)=S_ref02_SameBytes_0 fuel (a,b,c,d) (fun v=>R (T25_0 v)) (E25_0 K):=by
  kernel_rfl
def B25_0 (fuel:Nat):Ev.Blk:=fun st K=>match canonO (kp25 4) st with | some s=>(match s with | ⟨[(a,.c (.sl (.int .u8) b)),(d,.c (.sl (.int .u8) e)),(f,.c (i6 g)),(h,.c (i6 i))],[],j,k⟩=>bif qb [a,d,f,h,j,k] [0,1,12,13,0,0] then iter (S_ref02_SameBytes_0 fuel) fuel (b,e,g,i) (E25_0 K) else none | _=>none) | none=>none
theorem B25_0_ok (fuel:Nat) (st:Ev.St) (K:KT) (r:Ans) (h:B25_0 fuel st K=some r):evalCode tab (G25 fuel) J0 kp25 fuel (.block 0 (.loop (bodyOf 0 Tryz.f25))) st K=some r:=by
  unfold B25_0 at h
  split at h
  · rename_i s hs
    split at h
    · skip
      obtain ⟨hb,h⟩:=cond_some' h
      cases qb_eq hb
      exact blk_loop (S:=T25_0) (ks:=E25_0) (step:=S_ref02_SameBytes_0 fuel) (v:=(_,_,_,_)) (by kernel_rfl) (by kernel_rfl) (fun R K v=>by obtain ⟨a,b,c,d⟩:=v; exact S25_0_ok fuel R K a b c d) hs h
    · cases h
  · cases h
def J25 (fuel:Nat) (i:Nat):Option Ev.Blk:=Ev.look i [(100000,B25_0 fuel)]
def F_ref02_SameBytes (fuel:Nat) (a b:(List Int)) (k0:(Bool)→Option Ans):Option Ans:=bif (↑a.length:Int) != (↑b.length:Int) then k0 false else (L_ref02_SameBytes_0 fuel (a,b,(↑a.length:Int),0) (fun ret0_0=>k0 ret0_0) (fun ()=>k0 true))
abbrev YF25:Type:=LI→LI→(Bool→Option Ans)→Option Ans
theorem F25_eq (fuel:Nat) (a b:LI) (k:Ev.Cont):evalFn tab (G25 fuel) (J25 fuel) kp25 fuel Tryz.f25 [.c (.sl (.int .u8) a),.c (.sl (.int .u8) b)] [] k=F_ref02_SameBytes fuel a b (fun r=>match r with | d=>k (.c (.bool d),[])):=by
  kernel_rfl
theorem hG25 (fuel:Nat):GOK Tryz.prog (G25 fuel):=
  gok_nil
theorem B25_0_blk (fuel:Nat):BlkOK Tryz.prog Tryz.f25.ntmps (.block 0 (.loop (bodyOf 0 Tryz.f25))) (B25_0 fuel):=bo0 (hG25 fuel) (by kernel_rfl) (by kernel_rfl) (B25_0_ok fuel)
def spg25 (F:YF25):Ev.Spec:=fun args objs k=>match args,objs with | [.c (.sl (.int .u8) a),.c (.sl (.int .u8) b)],[]=>F a b (fun r=>match r with | d=>k (.c (.bool d),[])) | _,_=>none
theorem ok25 (fuel:Nat):FnOK Tryz.prog 25 (spg25 (F_ref02_SameBytes fuel)):=by
  intro args objs kk r h
  unfold spg25 at h
  split at h
  · skip
    exact fo1 (hG25 fuel) Tryz.func25 rfl (B25_0_blk fuel) (by kernel_rfl) _ _ kk r ((F25_eq fuel _ _ kk).trans h)
  · cases h
def kp38 (i:Nat):Option (List Nat):=Ev.look i [(4,[2,3,29,30]),(100000,[]),(200006,[2,3]),(400000,[4])]
def Gg38 (f:Nat):Option Ev.Spec:=Ev.look f []
def G38 (fuel:Nat):Nat→Option Ev.Spec:=Gg38
abbrev V_ref06_SameBitmap_0:Type:=Int×Int×Int×Int×LI×Int×Int×LI
abbrev W_ref06_SameBitmap_0:Type:=(Bool→OA)×(Unit→OA)
def S_ref06_SameBitmap_0 (fuel:Nat) (v:Int×Int×Int×Int×(List Int)×Int×Int×(List Int)) (c:(Int×Int×Int×Int×(List Int)×Int×Int×(List Int))→Option Ans) (B:(Bool→Option Ans)×(Unit→Option Ans)):Option Ans:=match v,B with | (f,a,g,h,d,i,j,e),(ret,b)=>bif decide (a < f) then bif decide ((0:Int)≤a∧a < (↑d.length:Int)) then bif decide ((0:Int)≤a∧a < (↑e.length:Int)) then bif d.getD a.toNat (0:Int) != e.getD a.toNat (0:Int) then ret false else c (f,i64.wrap (a+(1:Int)),g,h,d,i,j,e) else none else none else b ()
def L_ref06_SameBitmap_0 (fuel:Nat) (v:V_ref06_SameBitmap_0) (ret:(Bool→Option Ans)) (b:(Unit→Option Ans)):Option Ans:=iter (S_ref06_SameBitmap_0 fuel) fuel v (ret,b)
def T38_0 (v:V_ref06_SameBitmap_0):Ev.St:=match v with | (a,b,d,e,f,g,h,i)=>⟨[(2,.c (.ptr 0 0)),(3,.c (.ptr 1 0)),(29,.c (i6 a)),(30,.c (i6 b))],[(0,.cells 51 [i6 d,i6 e,.sl (.int .u8) f]),(1,.cells 51 [i6 g,i6 h,.sl (.int .u8) i])],2,0⟩
def E38_0 (K:KT):W_ref06_SameBitmap_0:=((fun v=>match v with | a=>K .ret ⟨[(4,.c (.bool a))],[],0,0⟩),(fun v=>match v with | ()=>K .normal ⟨[],[],0,0⟩))
theorem S38_0_ok (fuel:Nat) (R:Ev.St→OA) (K:KT) (a b:Int) (c d:Int) (e:LI) (f g:Int) (h:LI):evalCode tab (G38 fuel) J0 kp38 fuel (bodyOf 0 Tryz.f38) (T38_0 (a,b,c,d,e,f,g,h)) (lc kp38 4 0 R K)=S_ref06_SameBitmap_0 fuel (a,b,c,d,e,f,g,h) (fun v=>R (T38_0 v)) (E38_0 K):=by
  kernel_rfl
def B38_0 (fuel:Nat):Ev.Blk:=fun st K=>match canonO (kp38 4) st with | some s=>(match s with | ⟨[(f,.c (.ptr g h)),(i,.c (.ptr j k)),(l,.c (i6 m)),(n,.c (i6 o))],[(p,.cells q [i6 r,i6 t,.sl (.int .u8) u]),(a,.cells b [i6 v,i6 w,.sl (.int .u8) x])],d,e⟩=>bif qb [f,g,h,i,j,k,l,n,p,q,a,b,d,e] [2,0,0,3,1,0,29,30,0,51,1,51,2,0] then iter (S_ref06_SameBitmap_0 fuel) fuel (m,o,r,t,u,v,w,x) (E38_0 K) else none | _=>none) | none=>none
theorem B38_0_ok (fuel:Nat) (st:Ev.St) (K:KT) (r:Ans) (h:B38_0 fuel st K=some r):evalCode tab (G38 fuel) J0 kp38 fuel (.block 0 (.loop (bodyOf 0 Tryz.f38))) st K=some r:=by
  unfold B38_0 at h
  split at h
  · rename_i s hs
    split at h
    · skip
      obtain ⟨hb,h⟩:=cond_some' h
      cases qb_eq hb
      exact blk_loop (S:=T38_0) (ks:=E38_0) (step:=S_ref06_SameBitmap_0 fuel) (v:=(_,_,_,_,_,_,_,_)) (by kernel_rfl) (by kernel_rfl) (fun R K v=>by obtain ⟨a,b,c,d,e,f,g,i⟩:=v; exact S38_0_ok fuel R K a b c d e f g i) hs h
    · cases h
  · cases h
def J38 (fuel:Nat) (i:Nat):Option Ev.Blk:=Ev.look i [(100000,B38_0 fuel)]
def F_ref06_SameBitmap (fuel:Nat) (b c:Int) (a:(List Int)) (d e:Int) (f:(List Int)) (k0:(Bool)→Option Ans):Option Ans:=bif b != d then k0 false else bif c != e then k0 false else bif (↑a.length:Int) != (↑f.length:Int) then k0 false else (L_ref06_SameBitmap_0 fuel ((↑a.length:Int),0,b,c,a,d,e,f) (fun ret0_0=>k0 ret0_0) (fun ()=>k0 true))
abbrev YF38:Type:=Int→Int→LI→Int→Int→LI→(Bool→Option Ans)→Option Ans
theorem F38_eq (fuel:Nat) (a b:Int) (d:LI) (e f:Int) (g:LI) (k:Ev.Cont):evalFn tab (G38 fuel) (J38 fuel) kp38 fuel Tryz.f38 [.agg [i6 a,i6 b,.sl (.int .u8) d],.agg [i6 e,i6 f,.sl (.int .u8) g]] [] k=F_ref06_SameBitmap fuel a b d e f g (fun r=>match r with | h=>k (.c (.bool h),[])):=by
  kernel_rfl
theorem hG38 (fuel:Nat):GOK Tryz.prog (G38 fuel):=
  gok_nil
theorem B38_0_blk (fuel:Nat):BlkOK Tryz.prog Tryz.f38.ntmps (.block 0 (.loop (bodyOf 0 Tryz.f38))) (B38_0 fuel):=bo0 (hG38 fuel) (by kernel_rfl) (by kernel_rfl) (B38_0_ok fuel)
def spg38 (F:YF38):Ev.Spec:=fun args objs k=>match args,objs with | [.agg [i6 a,i6 b,.sl (.int .u8) d],.agg [i6 e,i6 f,.sl (.int .u8) g]],[]=>F a b d e f g (fun r=>match r with | h=>k (.c (.bool h),[])) | _,_=>none
theorem ok38 (fuel:Nat):FnOK Tryz.prog 38 (spg38 (F_ref06_SameBitmap fuel)):=by
  intro args objs kk r h
  unfold spg38 at h
  split at h
  · skip
    exact fo1 (hG38 fuel) Tryz.func38 rfl (B38_0_blk fuel) (by kernel_rfl) _ _ kk r ((F38_eq fuel _ _ _ _ _ _ kk).trans h)
  · cases h
def kp163 (i:Nat):Option (List Nat):=Ev.look i []
def Gg163 (f:Nat):Option Ev.Spec:=Ev.look f []
def G163 (fuel:Nat):Nat→Option Ev.Spec:=Gg163
def F_text_floor (fuel:Nat) (b a:Int) (k0:(Int)→Option Ans):Option Ans:=bif decide (a=0) then none else bif decide (a=0) then none else bif b.tmod a != 0 then bif decide (b < 0) then k0 (i64.wrap (i64.wrap (b.tdiv a) - 1)) else k0 (i64.wrap (b.tdiv a)) else k0 (i64.wrap (b.tdiv a))
abbrev YF163:Type:=Int→Int→(Int→Option Ans)→Option Ans
theorem F163_eq (fuel:Nat) (a b:Int) (k:Ev.Cont):evalFn tab (G163 fuel) J0 kp163 fuel Tryz.f163 [.c (i6 a),.c (i6 b)] [] k=F_text_floor fuel a b (fun r=>match r with | d=>k (.c (i6 d),[])):=by
  kernel_rfl
theorem hG163 (fuel:Nat):GOK Tryz.prog (G163 fuel):=
  gok_nil
def spg163 (F:YF163):Ev.Spec:=fun args objs k=>match args,objs with | [.c (i6 a),.c (i6 b)],[]=>F a b (fun r=>match r with | d=>k (.c (i6 d),[])) | _,_=>none
theorem ok163 (fuel:Nat):FnOK Tryz.prog 163 (spg163 (F_text_floor fuel)):=by
  intro args objs kk r h
  unfold spg163 at h
  split at h
  · skip
    exact fo0 (hG163 fuel) Tryz.func163 rfl (by kernel_rfl) _ _ kk r ((F163_eq fuel _ _ kk).trans h)
  · cases h
def kp76 (i:Nat):Option (List Nat):=Ev.look i []
def Gg76 (a:YF163) (f:Nat):Option Ev.Spec:=Ev.look f [(163,spg163 a)]
def G76 (fuel:Nat):Nat→Option Ev.Spec:=Gg76 (F_text_floor fuel)
def Fg_text_strip (fuel:Nat) (a:YF163) (c k:Int) (l:Bool) (m n o:Int) (p:Bool) (q r:Int) (s b:Int) (e:Bool) (f g:Int) (h i:Int) (j:LI) (k0:(Int)→OA):OA:=(a b c (fun d=>k0 d))
abbrev YF76:Type:=Int→Int→Bool→Int→Int→Int→Bool→Int→Int→Int→Int→Bool→Int→Int→Int→Int→LI→(Int→Option Ans)→Option Ans
def F_text_strip (fuel:Nat):YF76:=Fg_text_strip fuel (F_text_floor fuel)
theorem F76_eqg (fuel:Nat) (a:YF163) (j l:Int) (m:Bool) (n o p:Int) (q:Bool) (s t:Int) (u b:Int) (d:Bool) (e f:Int) (g h:Int) (i:LI) (k:Ev.Cont):evalFn tab (Gg76 a) J0 kp76 fuel Tryz.f76 [.agg [i6 j,i6 l,.bool m,i6 n,i6 o,i6 p,.bool q,i6 s],.agg [i6 t,i6 u,i6 b,.bool d,i6 e,i6 f,i6 g,i6 h,.sl (.int .u8) i]] [] k=Fg_text_strip fuel a j l m n o p q s t u b d e f g h i (fun r=>match r with | v=>k (.c (i6 v),[])):=by
  kernel_rfl
theorem hG76 (fuel:Nat):GOK Tryz.prog (G76 fuel):=
  gc (ok163 fuel) Tryz.func163 (by kernel_rfl) rfl <|
  gok_nil
def spg76 (F:YF76):Ev.Spec:=fun args objs k=>match args,objs with | [.agg [i6 i,i6 j,.bool l,i6 m,i6 n,i6 o,.bool p,i6 q],.agg [i6 s,i6 t,i6 a,.bool b,i6 d,i6 e,i6 f,i6 g,.sl (.int .u8) h]],[]=>F i j l m n o p q s t a b d e f g h (fun r=>match r with | u=>k (.c (i6 u),[])) | _,_=>none
theorem ok76 (fuel:Nat):FnOK Tryz.prog 76 (spg76 (F_text_strip fuel)):=by
  intro args objs kk r h
  unfold spg76 at h
  split at h
  · skip
    exact fo0 (hG76 fuel) Tryz.func76 rfl (by kernel_rfl) _ _ kk r ((F76_eqg fuel (F_text_floor fuel) _ _ _ _ _ _ _ _ _ _ _ _ _ _ _ _ _ kk).trans h)
  · cases h
def kp75_805 (i:Nat):Option (List Nat):=Ev.look i [(200001,[2,3,4])]
def Gg75_805 (a:YF76) (f:Nat):Option Ev.Spec:=Ev.look f [(76,spg76 a)]
def G75_805 (fuel:Nat):Nat→Option Ev.Spec:=Gg75_805 (F_text_strip fuel)
def Fg_text_Encode_1_805 (fuel:Nat) (i:YF76) (r s t:Int) (u:Bool) (v w:Int) (x y:Int) (z:LI) (A j k:Int) (l:Bool) (m n:Int) (o p:Int) (q:LI) (a b:Int) (c:Bool) (d e f:Int) (g:Bool) (h:Int) (k0:(Int×Int×Int×Bool×Int×Int×Int×Bool×Int)→OA):OA:=(i a b c d e f g h r s t u v w x y z (fun B=>(i a b c d e f g h A j k l m n o p q (fun C=>k0 (i64.wrap (B - C),a,b,c,d,e,f,g,h)))))
abbrev YF75_805:Type:=Int→Int→Int→Bool→Int→Int→Int→Int→LI→Int→Int→Int→Bool→Int→Int→Int→Int→LI→Int→Int→Bool→Int→Int→Int→Bool→Int→((Int×Int×Int×Bool×Int×Int×Int×Bool×Int)→Option Ans)→Option Ans
def F_text_Encode_1_805 (fuel:Nat):YF75_805:=Fg_text_Encode_1_805 fuel (F_text_strip fuel)
theorem F75_805_eqg (fuel:Nat) (a:YF76) (u v w:Int) (x:Bool) (y z:Int) (A B:Int) (C:LI) (D b d:Int) (e:Bool) (f g:Int) (h i:Int) (j:LI) (l m:Int) (n:Bool) (o p q:Int) (s:Bool) (t:Int) (k:Ev.Cont):evalFn tab (Gg75_805 a) J0 kp75_805 fuel Tryz.f75 [.agg [i6 u,i6 v,i6 w,.bool x,i6 y,i6 z,i6 A,i6 B,.sl (.int .u8) C],.agg [i6 D,i6 b,i6 d,.bool e,i6 f,i6 g,i6 h,i6 i,.sl (.int .u8) j],.c (.ptr 0 0)] [.cells 40 [i6 l,i6 m,.bool n,i6 o,i6 p,i6 q,.bool s,i6 t]] k=Fg_text_Encode_1_805 fuel a u v w x y z A B C D b d e f g h i j l m n o p q s t (fun r=>match r with | (E,F,G,H,I,J,K,L,M)=>k (.c (i6 E),[.cells 40 [i6 F,i6 G,.bool H,i6 I,i6 J,i6 K,.bool L,i6 M]])):=by
  kernel_rfl
theorem hG75_805 (fuel:Nat):GOK Tryz.prog (G75_805 fuel):=
  gc (ok76 fuel) Tryz.func76 (by kernel_rfl) rfl <|
  gok_nil
def spg75_805 (F:YF75_805):Ev.Spec:=fun args objs k=>match args,objs with | [.agg [i6 t,i6 u,i6 v,.bool w,i6 x,i6 y,i6 z,i6 A,.sl (.int .u8) B],.agg [i6 C,i6 a,i6 b,.bool d,i6 e,i6 f,i6 g,i6 h,.sl (.int .u8) i],.c (.ptr D E)],[.cells G [i6 j,i6 l,.bool m,i6 n,i6 o,i6 p,.bool q,i6 s]]=>bif qb [D,E,G] [0,0,40] then F t u v w x y z A B C a b d e f g h i j l m n o p q s (fun r=>match r with | (H,I,J,K,L,M,N,O,P)=>k (.c (i6 H),[.cells 40 [i6 I,i6 J,.bool K,i6 L,i6 M,i6 N,.bool O,i6 P]])) else none | _,_=>none
theorem ok75_805 (fuel:Nat):FnOK Tryz.prog 75 (spg75_805 (F_text_Encode_1_805 fuel)):=by
  intro args objs kk r h
  unfold spg75_805 at h
  split at h
  · skip
    obtain ⟨hb,h⟩:=cond_some' h
    cases qb_eq hb
    exact fo0 (hG75_805 fuel) Tryz.func75 rfl (by kernel_rfl) _ _ kk r ((F75_805_eqg fuel (F_text_strip fuel) _ _ _ _ _ _ _ _ _ _ _ _ _ _ _ _ _ _ _ _ _ _ _ _ _ _ kk).trans h)
  · cases h
def kp74_040 (i:Nat):Option (List Nat):=Ev.look i [(2,[0,1,5]),(100000,[]),(200004,[0]),(400000,[4])]
def Gg74_040 (a:YF75_805) (f:Nat):Option Ev.Spec:=Ev.look f [(75,spg75_805 a)]
def G74_040 (fuel:Nat):Nat→Option Ev.Spec:=Gg74_040 (F_text_Encode_1_805 fuel)
abbrev V_slices_IsSortedFunc_api_Item_api_Item_040_0:Type:=(List (Int×(Int×(Int×(Bool×(Int×(Int×(Int×(Int×LI)))))))))×Int×Int×Int×Bool×Int×Int×Int×Bool×Int
abbrev W_slices_IsSortedFunc_api_Item_api_Item_040_0:Type:=(Bool×Int×Int×Bool×Int×Int×Int×Bool×Int→OA)×(Int×Int×Bool×Int×Int×Int×Bool×Int→OA)
def Sg_slices_IsSortedFunc_api_Item_api_Item_040_0 (fuel:Nat) (u:YF75_805) (d:(List (Int×(Int×(Int×(Bool×(Int×(Int×(Int×(Int×LI)))))))))) (a m n:Int) (o:Bool) (p q r:Int) (s:Bool) (t:Int) (c:V_slices_IsSortedFunc_api_Item_api_Item_040_0→OA) (B:W_slices_IsSortedFunc_api_Item_api_Item_040_0):OA:=match B with | (ret,b)=>bif decide (a > 0) then bif decide (0≤a∧a < (↑d.length:Int)) then bif decide (0≤i64.wrap (a - 1)∧i64.wrap (a - 1) < (↑d.length:Int)) then (u ((d.getD a.toNat (0,0,0,false,0,0,0,0,[])).fst) ((d.getD a.toNat (0,0,0,false,0,0,0,0,[])).snd.fst) ((d.getD a.toNat (0,0,0,false,0,0,0,0,[])).snd.snd.fst) ((d.getD a.toNat (0,0,0,false,0,0,0,0,[])).snd.snd.snd.fst) ((d.getD a.toNat (0,0,0,false,0,0,0,0,[])).snd.snd.snd.snd.fst) ((d.getD a.toNat (0,0,0,false,0,0,0,0,[])).snd.snd.snd.snd.snd.fst) ((d.getD a.toNat (0,0,0,false,0,0,0,0,[])).snd.snd.snd.snd.snd.snd.fst) ((d.getD a.toNat (0,0,0,false,0,0,0,0,[])).snd.snd.snd.snd.snd.snd.snd.fst) ((d.getD a.toNat (0,0,0,false,0,0,0,0,[])).snd.snd.snd.snd.snd.snd.snd.snd) ((d.getD (i64.wrap (a - 1)).toNat (0,0,0,false,0,0,0,0,[])).fst) ((d.getD (i64.wrap (a - 1)).toNat (0,0,0,false,0,0,0,0,[])).snd.fst) ((d.getD (i64.wrap (a - 1)).toNat (0,0,0,false,0,0,0,0,[])).snd.snd.fst) ((d.getD (i64.wrap (a - 1)).toNat (0,0,0,false,0,0,0,0,[])).snd.snd.snd.fst) ((d.getD (i64.wrap (a - 1)).toNat (0,0,0,false,0,0,0,0,[])).snd.snd.snd.snd.fst) ((d.getD (i64.wrap (a - 1)).toNat (0,0,0,false,0,0,0,0,[])).snd.snd.snd.snd.snd.fst) ((d.getD (i64.wrap (a - 1)).toNat (0,0,0,false,0,0,0,0,[])).snd.snd.snd.snd.snd.snd.fst) ((d.getD (i64.wrap (a - 1)).toNat (0,0,0,false,0,0,0,0,[])).snd.snd.snd.snd.snd.snd.snd.fst) ((d.getD (i64.wrap (a - 1)).toNat (0,0,0,false,0,0,0,0,[])).snd.snd.snd.snd.snd.snd.snd.snd) m n o p q r s t (fun (v,e,f,g,h,i,j,k,l)=>bif decide (v < 0) then ret (false,e,f,g,h,i,j,k,l) else c (d,i64.wrap (a - 1),e,f,g,h,i,j,k,l))) else none else none else b (m,n,o,p,q,r,s,t)
def S_slices_IsSortedFunc_api_Item_api_Item_040_0 (fuel:Nat) (v:(List (Int×(Int×(Int×(Bool×(Int×(Int×(Int×(Int×(List Int))))))))))×Int×Int×Int×Bool×Int×Int×Int×Bool×Int) (c:((List (Int×(Int×(Int×(Bool×(Int×(Int×(Int×(Int×(List Int))))))))))×Int×Int×Int×Bool×Int×Int×Int×Bool×Int)→Option Ans) (B:(Bool×Int×Int×Bool×Int×Int×Int×Bool×Int→Option Ans)×(Int×Int×Bool×Int×Int×Int×Bool×Int→Option Ans)):Option Ans:=match v with | (a,b,d,e,f,g,h,i,j,k)=>Sg_slices_IsSortedFunc_api_Item_api_Item_040_0 fuel (F_text_Encode_1_805 fuel) a b d e f g h i j k c B
def L_slices_IsSortedFunc_api_Item_api_Item_040_0 (fuel:Nat) (v:V_slices_IsSortedFunc_api_Item_api_Item_040_0) (ret:(Bool×Int×Int×Bool×Int×Int×Int×Bool×Int→Option Ans)) (b:(Int×Int×Bool×Int×Int×Int×Bool×Int→Option Ans)):Option Ans:=iter (S_slices_IsSortedFunc_api_Item_api_Item_040_0 fuel) fuel v (ret,b)
def T74_040_0 (v:V_slices_IsSortedFunc_api_Item_api_Item_040_0):Ev.St:=match v with | (a,b,d,e,f,g,h,i,j,k)=>⟨[(0,.c (.sl (.pair (.int .i64) (.pair (.int .i64) (.pair (.int .i64) (.pair .bool (.pair (.int .i64) (.pair (.int .i64) (.pair (.int .i64) (.pair (.int .i64) (.sl (.int .u8)))))))))) a)),(1,.c (.clo 75 [0])),(5,.c (i6 b))],[(0,.cells 40 [i6 d,i6 e,.bool f,i6 g,i6 h,i6 i,.bool j,i6 k])],1,1⟩
def E74_040_0 (K:KT):W_slices_IsSortedFunc_api_Item_api_Item_040_0:=((fun v=>match v with | (a,b,d,e,f,g,h,i,j)=>K .ret ⟨[(4,.c (.bool a))],[(0,.cells 40 [i6 b,i6 d,.bool e,i6 f,i6 g,i6 h,.bool i,i6 j])],1,1⟩),(fun v=>match v with | (a,b,d,e,f,g,h,i)=>K .normal ⟨[],[(0,.cells 40 [i6 a,i6 b,.bool d,i6 e,i6 f,i6 g,.bool h,i6 i])],1,1⟩))
theorem S74_040_0_okg (fuel:Nat) (a:YF75_805) (R:Ev.St→OA) (K:KT) (b:(List (Int×(Int×(Int×(Bool×(Int×(Int×(Int×(Int×LI)))))))))) (c d e:Int) (f:Bool) (g h i:Int) (j:Bool) (k:Int):evalCode tab (Gg74_040 a) J0 kp74_040 fuel (bodyOf 0 Tryz.f74) (T74_040_0 (b,c,d,e,f,g,h,i,j,k)) (lc kp74_040 2 0 R K)=Sg_slices_IsSortedFunc_api_Item_api_Item_040_0 fuel a b c d e f g h i j k (fun v=>R (T74_040_0 v)) (E74_040_0 K):=by
  kernel_rfl
def B74_040_0 (fuel:Nat):Ev.Blk:=fun st K=>match canonO (kp74_040 2) st with | some s=>(match s with | ⟨[(a,.c (.sl (.pair (.int .i64) (.pair (.int .i64) (.pair (.int .i64) (.pair .bool (.pair (.int .i64) (.pair (.int .i64) (.pair (.int .i64) (.pair (.int .i64) (.sl (.int .u8)))))))))) b)),(d,.c (.clo e [f])),(g,.c (i6 h))],[(i,.cells j [i6 k,i6 l,.bool m,i6 n,i6 o,i6 p,.bool q,i6 r])],t,u⟩=>bif qb [a,d,e,f,g,i,j,t,u] [0,1,75,0,5,0,40,1,1] then iter (S_slices_IsSortedFunc_api_Item_api_Item_040_0 fuel) fuel (b,h,k,l,m,n,o,p,q,r) (E74_040_0 K) else none | _=>none) | none=>none
theorem B74_040_0_ok (fuel:Nat) (st:Ev.St) (K:KT) (r:Ans) (h:B74_040_0 fuel st K=some r):evalCode tab (G74_040 fuel) J0 kp74_040 fuel (.block 0 (.loop (bodyOf 0 Tryz.f74))) st K=some r:=by
  unfold B74_040_0 at h
  split at h
  · rename_i s hs
    split at h
    · skip
      obtain ⟨hb,h⟩:=cond_some' h
      cases qb_eq hb
      exact blk_loop (S:=T74_040_0) (ks:=E74_040_0) (step:=S_slices_IsSortedFunc_api_Item_api_Item_040_0 fuel) (v:=(_,_,_,_,_,_,_,_,_,_)) (by kernel_rfl) (by kernel_rfl) (fun R K v=>by obtain ⟨a,b,c,d,e,f,g,i,j,k⟩:=v; exact S74_040_0_okg fuel (F_text_Encode_1_805 fuel) R K a b c d e f g i j k) hs h
    · cases h
  · cases h
def J74_040 (fuel:Nat) (i:Nat):Option Ev.Blk:=Ev.look i [(100000,B74_040_0 fuel)]
def Fg_slices_IsSortedFunc_api_Item_api_Item_040 (fuel:Nat) (r:YF75_805) (a:(List (Int×(Int×(Int×(Bool×(Int×(Int×(Int×(Int×LI)))))))))) (j k:Int) (l:Bool) (m n o:Int) (p:Bool) (q:Int) (k0:(Bool×Int×Int×Bool×Int×Int×Int×Bool×Int)→OA):OA:=(L_slices_IsSortedFunc_api_Item_api_Item_040_0 fuel (a,i64.wrap ((↑a.length:Int) - 1),j,k,l,m,n,o,p,q) (fun (ret0_0,ret0_1,ret0_2,ret0_3,ret0_4,ret0_5,ret0_6,ret0_7,ret0_8)=>k0 (ret0_0,ret0_1,ret0_2,ret0_3,ret0_4,ret0_5,ret0_6,ret0_7,ret0_8)) (fun (b,c,d,e,f,g,h,i)=>k0 (true,b,c,d,e,f,g,h,i)))
abbrev YF74_040:Type:=((List (Int×(Int×(Int×(Bool×(Int×(Int×(Int×(Int×LI))))))))))→Int→Int→Bool→Int→Int→Int→Bool→Int→((Bool×Int×Int×Bool×Int×Int×Int×Bool×Int)→Option Ans)→Option Ans
def F_slices_IsSortedFunc_api_Item_api_Item_040 (fuel:Nat):YF74_040:=Fg_slices_IsSortedFunc_api_Item_api_Item_040 fuel (F_text_Encode_1_805 fuel)
theorem F74_040_eqg (fuel:Nat) (a:YF75_805) (b:(List (Int×(Int×(Int×(Bool×(Int×(Int×(Int×(Int×LI)))))))))) (d e:Int) (f:Bool) (g h i:Int) (j:Bool) (l:Int) (k:Ev.Cont):evalFn tab (Gg74_040 a) (J74_040 fuel) kp74_040 fuel Tryz.f74 [.c (.sl (.pair (.int .i64) (.pair (.int .i64) (.pair (.int .i64) (.pair .bool (.pair (.int .i64) (.pair (.int .i64) (.pair (.int .i64) (.pair (.int .i64) (.sl (.int .u8)))))))))) b),.c (.clo 75 [0])] [.cells 40 [i6 d,i6 e,.bool f,i6 g,i6 h,i6 i,.bool j,i6 l]] k=Fg_slices_IsSortedFunc_api_Item_api_Item_040 fuel a b d e f g h i j l (fun r=>match r with | (m,n,o,p,q,s,t,u,v)=>k (.c (.bool m),[.cells 40 [i6 n,i6 o,.bool p,i6 q,i6 s,i6 t,.bool u,i6 v]])):=by
  kernel_rfl
theorem hG74_040 (fuel:Nat):GOK Tryz.prog (G74_040 fuel):=
  gc (ok75_805 fuel) Tryz.func75 (by kernel_rfl) rfl <|
  gok_nil
theorem B74_040_0_blk (fuel:Nat):BlkOK Tryz.prog Tryz.f74.ntmps (.block 0 (.loop (bodyOf 0 Tryz.f74))) (B74_040_0 fuel):=bo0 (hG74_040 fuel) (by kernel_rfl) (by kernel_rfl) (B74_040_0_ok fuel)
def spg74_040 (F:YF74_040):Ev.Spec:=fun args objs k=>match args,objs with | [.c (.sl (.pair (.int .i64) (.pair (.int .i64) (.pair (.int .i64) (.pair .bool (.pair (.int .i64) (.pair (.int .i64) (.pair (.int .i64) (.pair (.int .i64) (.sl (.int .u8)))))))))) a),.c (.clo b [d])],[.cells e [i6 f,i6 g,.bool h,i6 i,i6 j,i6 l,.bool m,i6 n]]=>bif qb [b,d,e] [75,0,40] then F a f g h i j l m n (fun r=>match r with | (o,p,q,s,t,u,v,w,x)=>k (.c (.bool o),[.cells 40 [i6 p,i6 q,.bool s,i6 t,i6 u,i6 v,.bool w,i6 x]])) else none | _,_=>none
theorem ok74_040 (fuel:Nat):FnOK Tryz.prog 74 (spg74_040 (F_slices_IsSortedFunc_api_Item_api_Item_040 fuel)):=by
  intro args objs kk r h
  unfold spg74_040 at h
  split at h
  · skip
    obtain ⟨hb,h⟩:=cond_some' h
    cases qb_eq hb
    exact fo1 (hG74_040 fuel) Tryz.func74 rfl (B74_040_0_blk fuel) (by kernel_rfl) _ _ kk r ((F74_040_eqg fuel (F_text_Encode_1_805 fuel) _ _ _ _ _ _ _ _ _ kk).trans h)
  · cases h
def kp212 (i:Nat):Option (List Nat):=Ev.look i []
def Gg212 (f:Nat):Option Ev.Spec:=Ev.look f []
def G212 (fuel:Nat):Nat→Option Ev.Spec:=Gg212
def F_bitmap_fits (fuel:Nat) (a b:Int) (k0:(Bool)→Option Ans):Option Ans:=bif decide (a≥0) then bif decide (b≥0) then bif decide (a≤200) then bif decide (b≤200) then k0 (decide (i64.wrap (a*b)≤8192)) else k0 false else k0 false else k0 false else k0 false
abbrev YF212:Type:=Int→Int→(Bool→Option Ans)→Option Ans
theorem F212_eq (fuel:Nat) (a b:Int) (k:Ev.Cont):evalFn tab (G212 fuel) J0 kp212 fuel Tryz.f212 [.c (i6 a),.c (i6 b)] [] k=F_bitmap_fits fuel a b (fun r=>match r with | d=>k (.c (.bool d),[])):=by
  kernel_rfl
theorem hG212 (fuel:Nat):GOK Tryz.prog (G212 fuel):=
  gok_nil
def spg212 (F:YF212):Ev.Spec:=fun args objs k=>match args,objs with | [.c (i6 a),.c (i6 b)],[]=>F a b (fun r=>match r with | d=>k (.c (.bool d),[])) | _,_=>none
theorem ok212 (fuel:Nat):FnOK Tryz.prog 212 (spg212 (F_bitmap_fits fuel)):=by
  intro args objs kk r h
  unfold spg212 at h
  split at h
  · skip
    exact fo0 (hG212 fuel) Tryz.func212 rfl (by kernel_rfl) _ _ kk r ((F212_eq fuel _ _ kk).trans h)
  · cases h
def kp122 (i:Nat):Option (List Nat):=Ev.look i [(4,[23,24,25]),(100000,[]),(400000,[2])]
def Gg122 (a:YF212) (f:Nat):Option Ev.Spec:=Ev.look f [(212,spg212 a)]
def G122 (fuel:Nat):Nat→Option Ev.Spec:=Gg122 (F_bitmap_fits fuel)
def Sg_bitmap_Valid_0 (fuel:Nat) (f:YF212) (d:LI) (e a:Int) (c:(LI×Int×Int)→OA) (B:(Bool→OA)×(Unit→OA)):OA:=match B with | (ret,b)=>bif decide (a < e) then bif decide (0≤a∧a < (↑d.length:Int)) then bif decide (d.getD a.toNat (0:Int) > (1:Int)) then ret false else c (d,e,i64.wrap (a+1)) else none else b ()
def S_bitmap_Valid_0 (fuel:Nat) (v:(List Int)×Int×Int) (c:((List Int)×Int×Int)→Option Ans) (B:(Bool→Option Ans)×(Unit→Option Ans)):Option Ans:=match v with | (a,b,d)=>Sg_bitmap_Valid_0 fuel (F_bitmap_fits fuel) a b d c B
def L_bitmap_Valid_0 (fuel:Nat) (v:(List Int)×Int×Int) (ret:(Bool→Option Ans)) (b:(Unit→Option Ans)):Option Ans:=iter (S_bitmap_Valid_0 fuel) fuel v (ret,b)
def T122_0 (v:LI×Int×Int):Ev.St:=match v with | (a,b,d)=>⟨[(23,.c (.sl (.int .u8) a)),(24,.c (i6 b)),(25,.c (i6 d))],[],0,0⟩
def E122_0 (K:KT):(Bool→OA)×(Unit→OA):=((fun v=>match v with | a=>K .ret ⟨[(2,.c (.bool a))],[],0,0⟩),(fun v=>match v with | ()=>K .normal ⟨[],[],0,0⟩))
theorem S122_0_okg (fuel:Nat) (a:YF212) (R:Ev.St→OA) (K:KT) (b:LI) (c d:Int):evalCode tab (Gg122 a) J0 kp122 fuel (bodyOf 0 Tryz.f122) (T122_0 (b,c,d)) (lc kp122 4 0 R K)=Sg_bitmap_Valid_0 fuel a b c d (fun v=>R (T122_0 v)) (E122_0 K):=by
  kernel_rfl
def B122_0 (fuel:Nat):Ev.Blk:=fun st K=>match canonO (kp122 4) st with | some s=>(match s with | ⟨[(a,.c (.sl (.int .u8) b)),(d,.c (i6 e)),(f,.c (i6 g))],[],h,i⟩=>bif qb [a,d,f,h,i] [23,24,25,0,0] then iter (S_bitmap_Valid_0 fuel) fuel (b,e,g) (E122_0 K) else none | _=>none) | none=>none
theorem B122_0_ok (fuel:Nat) (st:Ev.St) (K:KT) (r:Ans) (h:B122_0 fuel st K=some r):evalCode tab (G122 fuel) J0 kp122 fuel (.block 0 (.loop (bodyOf 0 Tryz.f122))) st K=some r:=by
  unfold B122_0 at h
  split at h
  · rename_i s hs
    split at h
    · skip
      obtain ⟨hb,h⟩:=cond_some' h
      cases qb_eq hb
      exact blk_loop (S:=T122_0) (ks:=E122_0) (step:=S_bitmap_Valid_0 fuel) (v:=(_,_,_)) (by kernel_rfl) (by kernel_rfl) (fun R K v=>by obtain ⟨a,b,c⟩:=v; exact S122_0_okg fuel (F_bitmap_fits fuel) R K a b c) hs h
    · cases h
  · cases h
def J122 (fuel:Nat) (i:Nat):Option Ev.Blk:=Ev.look i [(100000,B122_0 fuel)]
def Fg_bitmap_Valid (fuel:Nat) (d:YF212) (b c:Int) (a:LI) (k0:(Bool)→OA):OA:=(d b c (fun e=>bif !e then k0 false else bif (↑a.length:Int) != i64.wrap (b*c) then k0 false else (L_bitmap_Valid_0 fuel (a,(↑a.length:Int),0) (fun ret0_0=>k0 ret0_0) (fun ()=>k0 true))))
abbrev YF122:Type:=Int→Int→LI→(Bool→Option Ans)→Option Ans
def F_bitmap_Valid (fuel:Nat):YF122:=Fg_bitmap_Valid fuel (F_bitmap_fits fuel)
theorem F122_eqg (fuel:Nat) (a:YF212) (b d:Int) (e:LI) (k:Ev.Cont):evalFn tab (Gg122 a) (J122 fuel) kp122 fuel Tryz.f122 [.agg [i6 b,i6 d,.sl (.int .u8) e]] [] k=Fg_bitmap_Valid fuel a b d e (fun r=>match r with | f=>k (.c (.bool f),[])):=by
  kernel_rfl
theorem hG122 (fuel:Nat):GOK Tryz.prog (G122 fuel):=
  gc (ok212 fuel) Tryz.func212 (by kernel_rfl) rfl <|
  gok_nil
theorem B122_0_blk (fuel:Nat):BlkOK Tryz.prog Tryz.f122.ntmps (.block 0 (.loop (bodyOf 0 Tryz.f122))) (B122_0 fuel):=bo0 (hG122 fuel) (by kernel_rfl) (by kernel_rfl) (B122_0_ok fuel)
def spg122 (F:YF122):Ev.Spec:=fun args objs k=>match args,objs with | [.agg [i6 a,i6 b,.sl (.int .u8) d]],[]=>F a b d (fun r=>match r with | e=>k (.c (.bool e),[])) | _,_=>none
theorem ok122 (fuel:Nat):FnOK Tryz.prog 122 (spg122 (F_bitmap_Valid fuel)):=by
  intro args objs kk r h
  unfold spg122 at h
  split at h
  · skip
    exact fo1 (hG122 fuel) Tryz.func122 rfl (B122_0_blk fuel) (by kernel_rfl) _ _ kk r ((F122_eqg fuel (F_bitmap_fits fuel) _ _ _ kk).trans h)
  · cases h
def kp160 (i:Nat):Option (List Nat):=Ev.look i []
def Gg160 (a:YF122) (f:Nat):Option Ev.Spec:=Ev.look f [(122,spg122 a)]
def G160 (fuel:Nat):Nat→Option Ev.Spec:=Gg160 (F_bitmap_Valid fuel)
def Fg_text_isShape (fuel:Nat) (c:YF122) (a b:Int) (d:LI) (k0:(Bool)→OA):OA:=(c a b d (fun e=>bif e then bif decide (a≥1) then bif decide (a≤40) then bif decide (b≥1) then k0 (decide (b≤40)) else k0 false else k0 false else k0 false else k0 false))
abbrev YF160:Type:=Int→Int→LI→(Bool→Option Ans)→Option Ans
def F_text_isShape (fuel:Nat):YF160:=Fg_text_isShape fuel (F_bitmap_Valid fuel)
theorem F160_eqg (fuel:Nat) (a:YF122) (b d:Int) (e:LI) (k:Ev.Cont):evalFn tab (Gg160 a) J0 kp160 fuel Tryz.f160 [.agg [i6 b,i6 d,.sl (.int .u8) e]] [] k=Fg_text_isShape fuel a b d e (fun r=>match r with | f=>k (.c (.bool f),[])):=by
  kernel_rfl
theorem hG160 (fuel:Nat):GOK Tryz.prog (G160 fuel):=
  gc (ok122 fuel) Tryz.func122 (by kernel_rfl) rfl <|
  gok_nil
def spg160 (F:YF160):Ev.Spec:=fun args objs k=>match args,objs with | [.agg [i6 a,i6 b,.sl (.int .u8) d]],[]=>F a b d (fun r=>match r with | e=>k (.c (.bool e),[])) | _,_=>none
theorem ok160 (fuel:Nat):FnOK Tryz.prog 160 (spg160 (F_text_isShape fuel)):=by
  intro args objs kk r h
  unfold spg160 at h
  split at h
  · skip
    exact fo0 (hG160 fuel) Tryz.func160 rfl (by kernel_rfl) _ _ kk r ((F160_eqg fuel (F_bitmap_Valid fuel) _ _ _ kk).trans h)
  · cases h
def kp159 (i:Nat):Option (List Nat):=Ev.look i []
def Gg159 (a:YF160) (f:Nat):Option Ev.Spec:=Ev.look f [(160,spg160 a)]
def G159 (fuel:Nat):Nat→Option Ev.Spec:=Gg159 (F_text_isShape fuel)
def Fg_text_begun_1 (fuel:Nat) (a:YF160) (b c:Int) (d:LI) (k0:(Bool)→OA):OA:=(a b c d (fun e=>k0 !e))
abbrev YF159:Type:=Int→Int→LI→(Bool→Option Ans)→Option Ans
def F_text_begun_1 (fuel:Nat):YF159:=Fg_text_begun_1 fuel (F_text_isShape fuel)
theorem F159_eqg (fuel:Nat) (a:YF160) (b d:Int) (e:LI) (k:Ev.Cont):evalFn tab (Gg159 a) J0 kp159 fuel Tryz.f159 [.agg [i6 b,i6 d,.sl (.int .u8) e]] [] k=Fg_text_begun_1 fuel a b d e (fun r=>match r with | f=>k (.c (.bool f),[])):=by
  kernel_rfl
theorem hG159 (fuel:Nat):GOK Tryz.prog (G159 fuel):=
  gc (ok160 fuel) Tryz.func160 (by kernel_rfl) rfl <|
  gok_nil
def spg159 (F:YF159):Ev.Spec:=fun args objs k=>match args,objs with | [.agg [i6 a,i6 b,.sl (.int .u8) d]],[]=>F a b d (fun r=>match r with | e=>k (.c (.bool e),[])) | _,_=>none
theorem ok159 (fuel:Nat):FnOK Tryz.prog 159 (spg159 (F_text_begun_1 fuel)):=by
  intro args objs kk r h
  unfold spg159 at h
  split at h
  · skip
    exact fo0 (hG159 fuel) Tryz.func159 rfl (by kernel_rfl) _ _ kk r ((F159_eqg fuel (F_text_isShape fuel) _ _ _ kk).trans h)
  · cases h
def kp226_261 (i:Nat):Option (List Nat):=Ev.look i [(2,[0,1,7,8]),(100000,[]),(400000,[4])]
def Gg226_261 (a:YF159) (f:Nat):Option Ev.Spec:=Ev.look f [(159,spg159 a)]
def G226_261 (fuel:Nat):Nat→Option Ev.Spec:=Gg226_261 (F_text_begun_1 fuel)
abbrev V_slices_IndexFunc_api_Bitmap_api_Bitmap_261_0:Type:=(List (Int×(Int×LI)))×Int×Int
abbrev W_slices_IndexFunc_api_Bitmap_api_Bitmap_261_0:Type:=(Int→OA)×(Unit→OA)
def Sg_slices_IndexFunc_api_Bitmap_api_Bitmap_261_0 (fuel:Nat) (f:YF159) (d:(List (Int×(Int×LI)))) (e a:Int) (c:V_slices_IndexFunc_api_Bitmap_api_Bitmap_261_0→OA) (B:W_slices_IndexFunc_api_Bitmap_api_Bitmap_261_0):OA:=match B with | (ret,b)=>bif decide (a < e) then bif decide (0≤a∧a < (↑d.length:Int)) then (f ((d.getD a.toNat (0,0,[])).fst) ((d.getD a.toNat (0,0,[])).snd.fst) ((d.getD a.toNat (0,0,[])).snd.snd) (fun g=>bif g then ret a else c (d,e,i64.wrap (a+1)))) else none else b ()
def S_slices_IndexFunc_api_Bitmap_api_Bitmap_261_0 (fuel:Nat) (v:(List (Int×(Int×(List Int))))×Int×Int) (c:((List (Int×(Int×(List Int))))×Int×Int)→Option Ans) (B:(Int→Option Ans)×(Unit→Option Ans)):Option Ans:=match v with | (a,b,d)=>Sg_slices_IndexFunc_api_Bitmap_api_Bitmap_261_0 fuel (F_text_begun_1 fuel) a b d c B
def L_slices_IndexFunc_api_Bitmap_api_Bitmap_261_0 (fuel:Nat) (v:V_slices_IndexFunc_api_Bitmap_api_Bitmap_261_0) (ret:(Int→Option Ans)) (b:(Unit→Option Ans)):Option Ans:=iter (S_slices_IndexFunc_api_Bitmap_api_Bitmap_261_0 fuel) fuel v (ret,b)
def T226_261_0 (v:V_slices_IndexFunc_api_Bitmap_api_Bitmap_261_0):Ev.St:=match v with | (a,b,d)=>⟨[(0,.c (.sl (.pair (.int .i64) (.pair (.int .i64) (.sl (.int .u8)))) a)),(1,.c (.clo 159 [])),(7,.c (i6 b)),(8,.c (i6 d))],[],0,0⟩
def E226_261_0 (K:KT):W_slices_IndexFunc_api_Bitmap_api_Bitmap_261_0:=((fun v=>match v with | a=>K .ret ⟨[(4,.c (i6 a))],[],0,0⟩),(fun v=>match v with | ()=>K .normal ⟨[],[],0,0⟩))
theorem S226_261_0_okg (fuel:Nat) (a:YF159) (R:Ev.St→OA) (K:KT) (b:(List (Int×(Int×LI)))) (c d:Int):evalCode tab (Gg226_261 a) J0 kp226_261 fuel (bodyOf 0 Tryz.f226) (T226_261_0 (b,c,d)) (lc kp226_261 2 0 R K)=Sg_slices_IndexFunc_api_Bitmap_api_Bitmap_261_0 fuel a b c d (fun v=>R (T226_261_0 v)) (E226_261_0 K):=by
  kernel_rfl
def B226_261_0 (fuel:Nat):Ev.Blk:=fun st K=>match canonO (kp226_261 2) st with | some s=>(match s with | ⟨[(a,.c (.sl (.pair (.int .i64) (.pair (.int .i64) (.sl (.int .u8)))) b)),(d,.c (.clo e [])),(f,.c (i6 g)),(h,.c (i6 i))],[],j,k⟩=>bif qb [a,d,e,f,h,j,k] [0,1,159,7,8,0,0] then iter (S_slices_IndexFunc_api_Bitmap_api_Bitmap_261_0 fuel) fuel (b,g,i) (E226_261_0 K) else none | _=>none) | none=>none
theorem B226_261_0_ok (fuel:Nat) (st:Ev.St) (K:KT) (r:Ans) (h:B226_261_0 fuel st K=some r):evalCode tab (G226_261 fuel) J0 kp226_261 fuel (.block 0 (.loop (bodyOf 0 Tryz.f226))) st K=some r:=by
  unfold B226_261_0 at h
  split at h
  · rename_i s hs
    split at h
    · skip
      obtain ⟨hb,h⟩:=cond_some' h
      cases qb_eq hb
      exact blk_loop (S:=T226_261_0) (ks:=E226_261_0) (step:=S_slices_IndexFunc_api_Bitmap_api_Bitmap_261_0 fuel) (v:=(_,_,_)) (by kernel_rfl) (by kernel_rfl) (fun R K v=>by obtain ⟨a,b,c⟩:=v; exact S226_261_0_okg fuel (F_text_begun_1 fuel) R K a b c) hs h
    · cases h
  · cases h
def J226_261 (fuel:Nat) (i:Nat):Option Ev.Blk:=Ev.look i [(100000,B226_261_0 fuel)]
def Fg_slices_IndexFunc_api_Bitmap_api_Bitmap_261 (fuel:Nat) (b:YF159) (a:(List (Int×(Int×LI)))) (k0:(Int)→OA):OA:=(L_slices_IndexFunc_api_Bitmap_api_Bitmap_261_0 fuel (a,(↑a.length:Int),0) (fun ret0_0=>k0 ret0_0) (fun ()=>k0 ((-1:Int))))
abbrev YF226_261:Type:=((List (Int×(Int×LI))))→(Int→Option Ans)→Option Ans
def F_slices_IndexFunc_api_Bitmap_api_Bitmap_261 (fuel:Nat):YF226_261:=Fg_slices_IndexFunc_api_Bitmap_api_Bitmap_261 fuel (F_text_begun_1 fuel)
theorem F226_261_eqg (fuel:Nat) (a:YF159) (b:(List (Int×(Int×LI)))) (k:Ev.Cont):evalFn tab (Gg226_261 a) (J226_261 fuel) kp226_261 fuel Tryz.f226 [.c (.sl (.pair (.int .i64) (.pair (.int .i64) (.sl (.int .u8)))) b),.c (.clo 159 [])] [] k=Fg_slices_IndexFunc_api_Bitmap_api_Bitmap_261 fuel a b (fun r=>match r with | d=>k (.c (i6 d),[])):=by
  kernel_rfl
theorem hG226_261 (fuel:Nat):GOK Tryz.prog (G226_261 fuel):=
  gc (ok159 fuel) Tryz.func159 (by kernel_rfl) rfl <|
  gok_nil
theorem B226_261_0_blk (fuel:Nat):BlkOK Tryz.prog Tryz.f226.ntmps (.block 0 (.loop (bodyOf 0 Tryz.f226))) (B226_261_0 fuel):=bo0 (hG226_261 fuel) (by kernel_rfl) (by kernel_rfl) (B226_261_0_ok fuel)
def spg226_261 (F:YF226_261):Ev.Spec:=fun args objs k=>match args,objs with | [.c (.sl (.pair (.int .i64) (.pair (.int .i64) (.sl (.int .u8)))) a),.c (.clo b [])],[]=>bif qb [b] [159] then F a (fun r=>match r with | d=>k (.c (i6 d),[])) else none | _,_=>none
theorem ok226_261 (fuel:Nat):FnOK Tryz.prog 226 (spg226_261 (F_slices_IndexFunc_api_Bitmap_api_Bitmap_261 fuel)):=by
  intro args objs kk r h
  unfold spg226_261 at h
  split at h
  · skip
    obtain ⟨hb,h⟩:=cond_some' h
    cases qb_eq hb
    exact fo1 (hG226_261 fuel) Tryz.func226 rfl (B226_261_0_blk fuel) (by kernel_rfl) _ _ kk r ((F226_261_eqg fuel (F_text_begun_1 fuel) _ kk).trans h)
  · cases h
def kp158_261 (i:Nat):Option (List Nat):=Ev.look i []
def Gg158_261 (a:YF226_261) (f:Nat):Option Ev.Spec:=Ev.look f [(226,spg226_261 a)]
def G158_261 (fuel:Nat):Nat→Option Ev.Spec:=Gg158_261 (F_slices_IndexFunc_api_Bitmap_api_Bitmap_261 fuel)
def Fg_slices_ContainsFunc_api_Bitmap_api_Bitmap_261 (fuel:Nat) (a:YF226_261) (b:(List (Int×(Int×LI)))) (k0:(Bool)→OA):OA:=(a b (fun c=>k0 (decide (c≥0))))
abbrev YF158_261:Type:=((List (Int×(Int×LI))))→(Bool→Option Ans)→Option Ans
def F_slices_ContainsFunc_api_Bitmap_api_Bitmap_261 (fuel:Nat):YF158_261:=Fg_slices_ContainsFunc_api_Bitmap_api_Bitmap_261 fuel (F_slices_IndexFunc_api_Bitmap_api_Bitmap_261 fuel)
theorem F158_261_eqg (fuel:Nat) (a:YF226_261) (b:(List (Int×(Int×LI)))) (k:Ev.Cont):evalFn tab (Gg158_261 a) J0 kp158_261 fuel Tryz.f158 [.c (.sl (.pair (.int .i64) (.pair (.int .i64) (.sl (.int .u8)))) b),.c (.clo 159 [])] [] k=Fg_slices_ContainsFunc_api_Bitmap_api_Bitmap_261 fuel a b (fun r=>match r with | d=>k (.c (.bool d),[])):=by
  kernel_rfl
theorem hG158_261 (fuel:Nat):GOK Tryz.prog (G158_261 fuel):=
  gc (ok226_261 fuel) Tryz.func226 (by kernel_rfl) rfl <|
  gok_nil
def spg158_261 (F:YF158_261):Ev.Spec:=fun args objs k=>match args,objs with | [.c (.sl (.pair (.int .i64) (.pair (.int .i64) (.sl (.int .u8)))) a),.c (.clo b [])],[]=>bif qb [b] [159] then F a (fun r=>match r with | d=>k (.c (.bool d),[])) else none | _,_=>none
theorem ok158_261 (fuel:Nat):FnOK Tryz.prog 158 (spg158_261 (F_slices_ContainsFunc_api_Bitmap_api_Bitmap_261 fuel)):=by
  intro args objs kk r h
  unfold spg158_261 at h
  split at h
  · skip
    obtain ⟨hb,h⟩:=cond_some' h
    cases qb_eq hb
    exact fo0 (hG158_261 fuel) Tryz.func158 rfl (by kernel_rfl) _ _ kk r ((F158_261_eqg fuel (F_slices_IndexFunc_api_Bitmap_api_Bitmap_261 fuel) _ kk).trans h)
  · cases h
def kp162 (i:Nat):Option (List Nat):=Ev.look i []
def Gg162 (a:YF160) (f:Nat):Option Ev.Spec:=Ev.look f [(160,spg160 a)]
def G162 (fuel:Nat):Nat→Option Ev.Spec:=Gg162 (F_text_isShape fuel)
def Fg_text_begun_2 (fuel:Nat) (a:YF160) (g h i:Int) (b:Bool) (j k:Int) (c d:Int) (e:LI) (k0:(Bool)→OA):OA:=bif b then (a c d e (fun f=>k0 !f)) else k0 false
abbrev YF162:Type:=Int→Int→Int→Bool→Int→Int→Int→Int→LI→(Bool→Option Ans)→Option Ans
def F_text_begun_2 (fuel:Nat):YF162:=Fg_text_begun_2 fuel (F_text_isShape fuel)
theorem F162_eqg (fuel:Nat) (a:YF160) (b d e:Int) (f:Bool) (g h:Int) (i j:Int) (l:LI) (k:Ev.Cont):evalFn tab (Gg162 a) J0 kp162 fuel Tryz.f162 [.agg [i6 b,i6 d,i6 e,.bool f,i6 g,i6 h,i6 i,i6 j,.sl (.int .u8) l]] [] k=Fg_text_begun_2 fuel a b d e f g h i j l (fun r=>match r with | m=>k (.c (.bool m),[])):=by
  kernel_rfl
theorem hG162 (fuel:Nat):GOK Tryz.prog (G162 fuel):=
  gc (ok160 fuel) Tryz.func160 (by kernel_rfl) rfl <|
  gok_nil
def spg162 (F:YF162):Ev.Spec:=fun args objs k=>match args,objs with | [.agg [i6 a,i6 b,i6 d,.bool e,i6 f,i6 g,i6 h,i6 i,.sl (.int .u8) j]],[]=>F a b d e f g h i j (fun r=>match r with | l=>k (.c (.bool l),[])) | _,_=>none
theorem ok162 (fuel:Nat):FnOK Tryz.prog 162 (spg162 (F_text_begun_2 fuel)):=by
  intro args objs kk r h
  unfold spg162 at h
  split at h
  · skip
    exact fo0 (hG162 fuel) Tryz.func162 rfl (by kernel_rfl) _ _ kk r ((F162_eqg fuel (F_text_isShape fuel) _ _ _ _ _ _ _ _ _ kk).trans h)
  · cases h
def kp227_177 (i:Nat):Option (List Nat):=Ev.look i [(2,[0,1,7,8]),(100000,[]),(400000,[4])]
def Gg227_177 (a:YF162) (f:Nat):Option Ev.Spec:=Ev.look f [(162,spg162 a)]
def G227_177 (fuel:Nat):Nat→Option Ev.Spec:=Gg227_177 (F_text_begun_2 fuel)
abbrev V_slices_IndexFunc_api_Item_api_Item_177_0:Type:=(List (Int×(Int×(Int×(Bool×(Int×(Int×(Int×(Int×LI)))))))))×Int×Int
abbrev W_slices_IndexFunc_api_Item_api_Item_177_0:Type:=(Int→OA)×(Unit→OA)
def Sg_slices_IndexFunc_api_Item_api_Item_177_0 (fuel:Nat) (f:YF162) (d:(List (Int×(Int×(Int×(Bool×(Int×(Int×(Int×(Int×LI)))))))))) (e a:Int) (c:V_slices_IndexFunc_api_Item_api_Item_177_0→OA) (B:W_slices_IndexFunc_api_Item_api_Item_177_0):OA:=match B with | (ret,b)=>bif decide (a < e) then bif decide (0≤a∧a < (↑d.length:Int)) then (f ((d.getD a.toNat (0,0,0,false,0,0,0,0,[])).fst) ((d.getD a.toNat (0,0,0,false,0,0,0,0,[])).snd.fst) ((d.getD a.toNat (0,0,0,false,0,0,0,0,[])).snd.snd.fst) ((d.getD a.toNat (0,0,0,false,0,0,0,0,[])).snd.snd.snd.fst) ((d.getD a.toNat (0,0,0,false,0,0,0,0,[])).snd.snd.snd.snd.fst) ((d.getD a.toNat (0,0,0,false,0,0,0,0,[])).snd.snd.snd.snd.snd.fst) ((d.getD a.toNat (0,0,0,false,0,0,0,0,[])).snd.snd.snd.snd.snd.snd.fst) ((d.getD a.toNat (0,0,0,false,0,0,0,0,[])).snd.snd.snd.snd.snd.snd.snd.fst) ((d.getD a.toNat (0,0,0,false,0,0,0,0,[])).snd.snd.snd.snd.snd.snd.snd.snd) (fun g=>bif g then ret a else c (d,e,i64.wrap (a+1)))) else none else b ()
def S_slices_IndexFunc_api_Item_api_Item_177_0 (fuel:Nat) (v:(List (Int×(Int×(Int×(Bool×(Int×(Int×(Int×(Int×(List Int))))))))))×Int×Int) (c:((List (Int×(Int×(Int×(Bool×(Int×(Int×(Int×(Int×(List Int))))))))))×Int×Int)→Option Ans) (B:(Int→Option Ans)×(Unit→Option Ans)):Option Ans:=match v with | (a,b,d)=>Sg_slices_IndexFunc_api_Item_api_Item_177_0 fuel (F_text_begun_2 fuel) a b d c B
def L_slices_IndexFunc_api_Item_api_Item_177_0 (fuel:Nat) (v:V_slices_IndexFunc_api_Item_api_Item_177_0) (ret:(Int→Option Ans)) (b:(Unit→Option Ans)):Option Ans:=iter (S_slices_IndexFunc_api_Item_api_Item_177_0 fuel) fuel v (ret,b)
def T227_177_0 (v:V_slices_IndexFunc_api_Item_api_Item_177_0):Ev.St:=match v with | (a,b,d)=>⟨[(0,.c (.sl (.pair (.int .i64) (.pair (.int .i64) (.pair (.int .i64) (.pair .bool (.pair (.int .i64) (.pair (.int .i64) (.pair (.int .i64) (.pair (.int .i64) (.sl (.int .u8)))))))))) a)),(1,.c (.clo 162 [])),(7,.c (i6 b)),(8,.c (i6 d))],[],0,0⟩
def E227_177_0 (K:KT):W_slices_IndexFunc_api_Item_api_Item_177_0:=((fun v=>match v with | a=>K .ret ⟨[(4,.c (i6 a))],[],0,0⟩),(fun v=>match v with | ()=>K .normal ⟨[],[],0,0⟩))
theorem S227_177_0_okg (fuel:Nat) (a:YF162) (R:Ev.St→OA) (K:KT) (b:(List (Int×(Int×(Int×(Bool×(Int×(Int×(Int×(Int×LI)))))))))) (c d:Int):evalCode tab (Gg227_177 a) J0 kp227_177 fuel (bodyOf 0 Tryz.f227) (T227_177_0 (b,c,d)) (lc kp227_177 2 0 R K)=Sg_slices_IndexFunc_api_Item_api_Item_177_0 fuel a b c d (fun v=>R (T227_177_0 v)) (E227_177_0 K):=by
  kernel_rfl
def B227_177_0 (fuel:Nat):Ev.Blk:=fun st K=>match canonO (kp227_177 2) st with | some s=>(match s with | ⟨[(a,.c (.sl (.pair (.int .i64) (.pair (.int .i64) (.pair (.int .i64) (.pair .bool (.pair (.int .i64) (.pair (.int .i64) (.pair (.int .i64) (.pair (.int .i64) (.sl (.int .u8)))))))))) b)),(d,.c (.clo e [])),(f,.c (i6 g)),(h,.c (i6 i))],[],j,k⟩=>bif qb [a,d,e,f,h,j,k] [0,1,162,7,8,0,0] then iter (S_slices_IndexFunc_api_Item_api_Item_177_0 fuel) fuel (b,g,i) (E227_177_0 K) else none | _=>none) | none=>none
theorem B227_177_0_ok (fuel:Nat) (st:Ev.St) (K:KT) (r:Ans) (h:B227_177_0 fuel st K=some r):evalCode tab (G227_177 fuel) J0 kp227_177 fuel (.block 0 (.loop (bodyOf 0 Tryz.f227))) st K=some r:=by
  unfold B227_177_0 at h
  split at h
  · rename_i s hs
    split at h
    · skip
      obtain ⟨hb,h⟩:=cond_some' h
      cases qb_eq hb
      exact blk_loop (S:=T227_177_0) (ks:=E227_177_0) (step:=S_slices_IndexFunc_api_Item_api_Item_177_0 fuel) (v:=(_,_,_)) (by kernel_rfl) (by kernel_rfl) (fun R K v=>by obtain ⟨a,b,c⟩:=v; exact S227_177_0_okg fuel (F_text_begun_2 fuel) R K a b c) hs h
    · cases h
  · cases h
def J227_177 (fuel:Nat) (i:Nat):Option Ev.Blk:=Ev.look i [(100000,B227_177_0 fuel)]
def Fg_slices_IndexFunc_api_Item_api_Item_177 (fuel:Nat) (b:YF162) (a:(List (Int×(Int×(Int×(Bool×(Int×(Int×(Int×(Int×LI)))))))))) (k0:(Int)→OA):OA:=(L_slices_IndexFunc_api_Item_api_Item_177_0 fuel (a,(↑a.length:Int),0) (fun ret0_0=>k0 ret0_0) (fun ()=>k0 ((-1:Int))))
abbrev YF227_177:Type:=((List (Int×(Int×(Int×(Bool×(Int×(Int×(Int×(Int×LI))))))))))→(Int→Option Ans)→Option Ans
def F_slices_IndexFunc_api_Item_api_Item_177 (fuel:Nat):YF227_177:=Fg_slices_IndexFunc_api_Item_api_Item_177 fuel (F_text_begun_2 fuel)
theorem F227_177_eqg (fuel:Nat) (a:YF162) (b:(List (Int×(Int×(Int×(Bool×(Int×(Int×(Int×(Int×LI)))))))))) (k:Ev.Cont):evalFn tab (Gg227_177 a) (J227_177 fuel) kp227_177 fuel Tryz.f227 [.c (.sl (.pair (.int .i64) (.pair (.int .i64) (.pair (.int .i64) (.pair .bool (.pair (.int .i64) (.pair (.int .i64) (.pair (.int .i64) (.pair (.int .i64) (.sl (.int .u8)))))))))) b),.c (.clo 162 [])] [] k=Fg_slices_IndexFunc_api_Item_api_Item_177 fuel a b (fun r=>match r with | d=>k (.c (i6 d),[])):=by
  kernel_rfl
theorem hG227_177 (fuel:Nat):GOK Tryz.prog (G227_177 fuel):=
  gc (ok162 fuel) Tryz.func162 (by kernel_rfl) rfl <|
  gok_nil
theorem B227_177_0_blk (fuel:Nat):BlkOK Tryz.prog Tryz.f227.ntmps (.block 0 (.loop (bodyOf 0 Tryz.f227))) (B227_177_0 fuel):=bo0 (hG227_177 fuel) (by kernel_rfl) (by kernel_rfl) (B227_177_0_ok fuel)
def spg227_177 (F:YF227_177):Ev.Spec:=fun args objs k=>match args,objs with | [.c (.sl (.pair (.int .i64) (.pair (.int .i64) (.pair (.int .i64) (.pair .bool (.pair (.int .i64) (.pair (.int .i64) (.pair (.int .i64) (.pair (.int .i64) (.sl (.int .u8)))))))))) a),.c (.clo b [])],[]=>bif qb [b] [162] then F a (fun r=>match r with | d=>k (.c (i6 d),[])) else none | _,_=>none
theorem ok227_177 (fuel:Nat):FnOK Tryz.prog 227 (spg227_177 (F_slices_IndexFunc_api_Item_api_Item_177 fuel)):=by
  intro args objs kk r h
  unfold spg227_177 at h
  split at h
  · skip
    obtain ⟨hb,h⟩:=cond_some' h
    cases qb_eq hb
    exact fo1 (hG227_177 fuel) Tryz.func227 rfl (B227_177_0_blk fuel) (by kernel_rfl) _ _ kk r ((F227_177_eqg fuel (F_text_begun_2 fuel) _ kk).trans h)
  · cases h
def kp161_177 (i:Nat):Option (List Nat):=Ev.look i []
def Gg161_177 (a:YF227_177) (f:Nat):Option Ev.Spec:=Ev.look f [(227,spg227_177 a)]
def G161_177 (fuel:Nat):Nat→Option Ev.Spec:=Gg161_177 (F_slices_IndexFunc_api_Item_api_Item_177 fuel)
def Fg_slices_ContainsFunc_api_Item_api_Item_177 (fuel:Nat) (a:YF227_177) (b:(List (Int×(Int×(Int×(Bool×(Int×(Int×(Int×(Int×LI)))))))))) (k0:(Bool)→OA):OA:=(a b (fun c=>k0 (decide (c≥0))))
abbrev YF161_177:Type:=((List (Int×(Int×(Int×(Bool×(Int×(Int×(Int×(Int×LI))))))))))→(Bool→Option Ans)→Option Ans
def F_slices_ContainsFunc_api_Item_api_Item_177 (fuel:Nat):YF161_177:=Fg_slices_ContainsFunc_api_Item_api_Item_177 fuel (F_slices_IndexFunc_api_Item_api_Item_177 fuel)
theorem F161_177_eqg (fuel:Nat) (a:YF227_177) (b:(List (Int×(Int×(Int×(Bool×(Int×(Int×(Int×(Int×LI)))))))))) (k:Ev.Cont):evalFn tab (Gg161_177 a) J0 kp161_177 fuel Tryz.f161 [.c (.sl (.pair (.int .i64) (.pair (.int .i64) (.pair (.int .i64) (.pair .bool (.pair (.int .i64) (.pair (.int .i64) (.pair (.int .i64) (.pair (.int .i64) (.sl (.int .u8)))))))))) b),.c (.clo 162 [])] [] k=Fg_slices_ContainsFunc_api_Item_api_Item_177 fuel a b (fun r=>match r with | d=>k (.c (.bool d),[])):=by
  kernel_rfl
theorem hG161_177 (fuel:Nat):GOK Tryz.prog (G161_177 fuel):=
  gc (ok227_177 fuel) Tryz.func227 (by kernel_rfl) rfl <|
  gok_nil
def spg161_177 (F:YF161_177):Ev.Spec:=fun args objs k=>match args,objs with | [.c (.sl (.pair (.int .i64) (.pair (.int .i64) (.pair (.int .i64) (.pair .bool (.pair (.int .i64) (.pair (.int .i64) (.pair (.int .i64) (.pair (.int .i64) (.sl (.int .u8)))))))))) a),.c (.clo b [])],[]=>bif qb [b] [162] then F a (fun r=>match r with | d=>k (.c (.bool d),[])) else none | _,_=>none
theorem ok161_177 (fuel:Nat):FnOK Tryz.prog 161 (spg161_177 (F_slices_ContainsFunc_api_Item_api_Item_177 fuel)):=by
  intro args objs kk r h
  unfold spg161_177 at h
  split at h
  · skip
    obtain ⟨hb,h⟩:=cond_some' h
    cases qb_eq hb
    exact fo0 (hG161_177 fuel) Tryz.func161 rfl (by kernel_rfl) _ _ kk r ((F161_177_eqg fuel (F_slices_IndexFunc_api_Item_api_Item_177 fuel) _ kk).trans h)
  · cases h
def kp194 (i:Nat):Option (List Nat):=Ev.look i [(2,[0,1,7,8]),(100000,[]),(400000,[4])]
def Gg194 (f:Nat):Option Ev.Spec:=Ev.look f []
def G194 (fuel:Nat):Nat→Option Ev.Spec:=Gg194
def S_slices_Index_int_int_0 (fuel:Nat) (v:(List Int)×Int×Int×Int) (c:((List Int)×Int×Int×Int)→Option Ans) (B:(Int→Option Ans)×(Unit→Option Ans)):Option Ans:=match v,B with | (d,e,f,a),(ret,b)=>bif decide (a < f) then bif decide ((0:Int)≤a∧a < (↑d.length:Int)) then bif e==d.getD a.toNat (0:Int) then ret a else c (d,e,f,i64.wrap (a+(1:Int))) else none else b ()
def L_slices_Index_int_int_0 (fuel:Nat) (v:(List Int)×Int×Int×Int) (ret:(Int→Option Ans)) (b:(Unit→Option Ans)):Option Ans:=iter (S_slices_Index_int_int_0 fuel) fuel v (ret,b)
def T194_0 (v:LI×Int×Int×Int):Ev.St:=match v with | (a,b,d,e)=>⟨[(0,.c (.sl (.int .i64) a)),(1,.c (i6 b)),(7,.c (i6 d)),(8,.c (i6 e))],[],0,0⟩
def E194_0 (K:KT):(Int→OA)×(Unit→OA):=((fun v=>match v with | a=>K .ret ⟨[(4,.c (i6 a))],[],0,0⟩),(fun v=>match v with | ()=>K .normal ⟨[],[],0,0⟩))
theorem S194_0_ok (fuel:Nat) (R:Ev.St→OA) (K:KT) (a:LI) (b c d:Int):evalCode tab (G194 fuel) J0 kp194 fuel (bodyOf 0 Tryz.f194) (T194_0 (a,b,c,d)) (lc kp194 2 0 R K)=S_slices_Index_int_int_0 fuel (a,b,c,d) (fun v=>R (T194_0 v)) (E194_0 K):=by
  kernel_rfl
def B194_0 (fuel:Nat):Ev.Blk:=fun st K=>match canonO (kp194 2) st with | some s=>(match s with | ⟨[(a,.c (.sl (.int .i64) b)),(d,.c (i6 e)),(f,.c (i6 g)),(h,.c (i6 i))],[],j,k⟩=>bif qb [a,d,f,h,j,k] [0,1,7,8,0,0] then iter (S_slices_Index_int_int_0 fuel) fuel (b,e,g,i) (E194_0 K) else none | _=>none) | none=>none
theorem B194_0_ok (fuel:Nat) (st:Ev.St) (K:KT) (r:Ans) (h:B194_0 fuel st K=some r):evalCode tab (G194 fuel) J0 kp194 fuel (.block 0 (.loop (bodyOf 0 Tryz.f194))) st K=some r:=by
  unfold B194_0 at h
  split at h
  · rename_i s hs
    split at h
    · skip
      obtain ⟨hb,h⟩:=cond_some' h
      cases qb_eq hb
      exact blk_loop (S:=T194_0) (ks:=E194_0) (step:=S_slices_Index_int_int_0 fuel) (v:=(_,_,_,_)) (by kernel_rfl) (by kernel_rfl) (fun R K v=>by obtain ⟨a,b,c,d⟩:=v; exact S194_0_ok fuel R K a b c d) hs h
    · cases h
  · cases h
def J194 (fuel:Nat) (i:Nat):Option Ev.Blk:=Ev.look i [(100000,B194_0 fuel)]
def F_slices_Index_int_int (fuel:Nat) (a:(List Int)) (b:Int) (k0:(Int)→Option Ans):Option Ans:=(L_slices_Index_int_int_0 fuel (a,b,(↑a.length:Int),0) (fun ret0_0=>k0 ret0_0) (fun ()=>k0 ((-1:Int))))
abbrev YF194:Type:=LI→Int→(Int→Option Ans)→Option Ans
theorem F194_eq (fuel:Nat) (a:LI) (b:Int) (k:Ev.Cont):evalFn tab (G194 fuel) (J194 fuel) kp194 fuel Tryz.f194 [.c (.sl (.int .i64) a),.c (i6 b)] [] k=F_slices_Index_int_int fuel a b (fun r=>match r with | d=>k (.c (i6 d),[])):=by
  kernel_rfl
theorem hG194 (fuel:Nat):GOK Tryz.prog (G194 fuel):=
  gok_nil
theorem B194_0_blk (fuel:Nat):BlkOK Tryz.prog Tryz.f194.ntmps (.block 0 (.loop (bodyOf 0 Tryz.f194))) (B194_0 fuel):=bo0 (hG194 fuel) (by kernel_rfl) (by kernel_rfl) (B194_0_ok fuel)
def spg194 (F:YF194):Ev.Spec:=fun args objs k=>match args,objs with | [.c (.sl (.int .i64) a),.c (i6 b)],[]=>F a b (fun r=>match r with | d=>k (.c (i6 d),[])) | _,_=>none
theorem ok194 (fuel:Nat):FnOK Tryz.prog 194 (spg194 (F_slices_Index_int_int fuel)):=by
  intro args objs kk r h
  unfold spg194 at h
  split at h
  · skip
    exact fo1 (hG194 fuel) Tryz.func194 rfl (B194_0_blk fuel) (by kernel_rfl) _ _ kk r ((F194_eq fuel _ _ kk).trans h)
  · cases h
def kp102 (i:Nat):Option (List Nat):=Ev.look i []
def Gg102 (a:YF194) (f:Nat):Option Ev.Spec:=Ev.look f [(194,spg194 a)]
def G102 (fuel:Nat):Nat→Option Ev.Spec:=Gg102 (F_slices_Index_int_int fuel)
def Fg_slices_Contains_int_int (fuel:Nat) (a:YF194) (b:LI) (c:Int) (k0:(Bool)→OA):OA:=(a b c (fun d=>k0 (decide (d≥0))))
abbrev YF102:Type:=LI→Int→(Bool→Option Ans)→Option Ans
def F_slices_Contains_int_int (fuel:Nat):YF102:=Fg_slices_Contains_int_int fuel (F_slices_Index_int_int fuel)
theorem F102_eqg (fuel:Nat) (a:YF194) (b:LI) (d:Int) (k:Ev.Cont):evalFn tab (Gg102 a) J0 kp102 fuel Tryz.f102 [.c (.sl (.int .i64) b),.c (i6 d)] [] k=Fg_slices_Contains_int_int fuel a b d (fun r=>match r with | e=>k (.c (.bool e),[])):=by
  kernel_rfl
theorem hG102 (fuel:Nat):GOK Tryz.prog (G102 fuel):=
  gc (ok194 fuel) Tryz.func194 (by kernel_rfl) rfl <|
  gok_nil
def spg102 (F:YF102):Ev.Spec:=fun args objs k=>match args,objs with | [.c (.sl (.int .i64) a),.c (i6 b)],[]=>F a b (fun r=>match r with | d=>k (.c (.bool d),[])) | _,_=>none
theorem ok102 (fuel:Nat):FnOK Tryz.prog 102 (spg102 (F_slices_Contains_int_int fuel)):=by
  intro args objs kk r h
  unfold spg102 at h
  split at h
  · skip
    exact fo0 (hG102 fuel) Tryz.func102 rfl (by kernel_rfl) _ _ kk r ((F102_eqg fuel (F_slices_Index_int_int fuel) _ _ kk).trans h)
  · cases h
def kp31 (i:Nat):Option (List Nat):=Ev.look i []
def Gg31 (a:YF102) (f:Nat):Option Ev.Spec:=Ev.look f [(102,spg102 a)]
def G31 (fuel:Nat):Nat→Option Ev.Spec:=Gg31 (F_slices_Contains_int_int fuel)
def Fg_text_Valid (fuel:Nat) (f:YF102) (g b:Int) (i:Bool) (c d e:Int) (j:Bool) (a:Int) (k0:(Bool)→OA):OA:=(f ([1,2,4,8]) g (fun h=>bif h then bif decide (b≥0) then bif decide (b≤3) then bif decide (c≥(-16:Int)) then bif decide (c≤16) then bif decide (d≥0) then bif decide (d≤4) then bif e==0 then bif a==0 then k0 true else k0 (a==1) else bif e==1 then bif a==0 then k0 true else k0 (a==1) else k0 false else k0 false else k0 false else k0 false else k0 false else k0 false else k0 false else k0 false))
abbrev YF31:Type:=Int→Int→Bool→Int→Int→Int→Bool→Int→(Bool→Option Ans)→Option Ans
def F_text_Valid (fuel:Nat):YF31:=Fg_text_Valid fuel (F_slices_Contains_int_int fuel)
theorem F31_eqg (fuel:Nat) (a:YF102) (b d:Int) (e:Bool) (f g h:Int) (i:Bool) (j:Int) (k:Ev.Cont):evalFn tab (Gg31 a) J0 kp31 fuel Tryz.f31 [.agg [i6 b,i6 d,.bool e,i6 f,i6 g,i6 h,.bool i,i6 j]] [] k=Fg_text_Valid fuel a b d e f g h i j (fun r=>match r with | l=>k (.c (.bool l),[])):=by
  kernel_rfl
theorem hG31 (fuel:Nat):GOK Tryz.prog (G31 fuel):=
  gc (ok102 fuel) Tryz.func102 (by kernel_rfl) rfl <|
  gok_nil
def spg31 (F:YF31):Ev.Spec:=fun args objs k=>match args,objs with | [.agg [i6 a,i6 b,.bool d,i6 e,i6 f,i6 g,.bool h,i6 i]],[]=>F a b d e f g h i (fun r=>match r with | j=>k (.c (.bool j),[])) | _,_=>none
theorem ok31 (fuel:Nat):FnOK Tryz.prog 31 (spg31 (F_text_Valid fuel)):=by
  intro args objs kk r h
  unfold spg31 at h
  split at h
  · skip
    exact fo0 (hG31 fuel) Tryz.func31 rfl (by kernel_rfl) _ _ kk r ((F31_eqg fuel (F_slices_Contains_int_int fuel) _ _ _ _ _ _ _ _ kk).trans h)
  · cases h
def kp73 (i:Nat):Option (List Nat):=Ev.look i []
def Gg73 (c:YF31) (a:YF158_261) (b:YF161_177) (f:Nat):Option Ev.Spec:=Ev.look f [(31,spg31 c),(158,spg158_261 a),(161,spg161_177 b)]
def G73 (fuel:Nat):Nat→Option Ev.Spec:=Gg73 (F_text_Valid fuel) (F_slices_ContainsFunc_api_Bitmap_api_Bitmap_261 fuel) (F_slices_ContainsFunc_api_Item_api_Item_177 fuel)
def Fg_text_begun (fuel:Nat) (c:YF31) (a:YF158_261) (b:YF161_177) (e f:Int) (g:Bool) (h i j:Int) (k:Bool) (l:Int) (m:(List (Int×Int×LI))) (n:(List (Int×Int×Int×Bool×Int×Int×(Int×Int×LI)))) (k0:(Int)→OA):OA:=(c e f g h i j k l (fun o=>bif !o then k0 (2) else (a m (fun p=>bif p then k0 (30) else (b n (fun d=>bif d then k0 (30) else k0 (0)))))))
abbrev YF73:Type:=Int→Int→Bool→Int→Int→Int→Bool→Int→((List (Int×Int×LI)))→((List (Int×Int×Int×Bool×Int×Int×(Int×Int×LI))))→(Int→Option Ans)→Option Ans
def F_text_begun (fuel:Nat):YF73:=Fg_text_begun fuel (F_text_Valid fuel) (F_slices_ContainsFunc_api_Bitmap_api_Bitmap_261 fuel) (F_slices_ContainsFunc_api_Item_api_Item_177 fuel)
theorem F73_eqg (fuel:Nat) (d:YF31) (a:YF158_261) (b:YF161_177) (e f:Int) (g:Bool) (h i j:Int) (l:Bool) (m:Int) (n:(List (Int×Int×LI))) (o:(List (Int×Int×Int×Bool×Int×Int×(Int×Int×LI)))) (k:Ev.Cont):evalFn tab (Gg73 d a b) J0 kp73 fuel Tryz.f73 [.agg [i6 e,i6 f,.bool g,i6 h,i6 i,i6 j,.bool l,i6 m],.c (.sl (.pair (.int .i64) (.pair (.int .i64) (.sl (.int .u8)))) n),.c (.sl (.pair (.int .i64) (.pair (.int .i64) (.pair (.int .i64) (.pair .bool (.pair (.int .i64) (.pair (.int .i64) (.pair (.int .i64) (.pair (.int .i64) (.sl (.int .u8)))))))))) o)] [] k=Fg_text_begun fuel d a b e f g h i j l m n o (fun r=>match r with | p=>k (.c (i6 p),[])):=by
  kernel_rfl
theorem hG73 (fuel:Nat):GOK Tryz.prog (G73 fuel):=
  gc (ok31 fuel) Tryz.func31 (by kernel_rfl) rfl <|
  gc (ok158_261 fuel) Tryz.func158 (by kernel_rfl) rfl <|
  gc (ok161_177 fuel) Tryz.func161 (by kernel_rfl) rfl <|
  gok_nil
def spg73 (F:YF73):Ev.Spec:=fun args objs k=>match args,objs with | [.agg [i6 a,i6 b,.bool d,i6 e,i6 f,i6 g,.bool h,i6 i],.c (.sl (.pair (.int .i64) (.pair (.int .i64) (.sl (.int .u8)))) j),.c (.sl (.pair (.int .i64) (.pair (.int .i64) (.pair (.int .i64) (.pair .bool (.pair (.int .i64) (.pair (.int .i64) (.pair (.int .i64) (.pair (.int .i64) (.sl (.int .u8)))))))))) l)],[]=>F a b d e f g h i j l (fun r=>match r with | m=>k (.c (i6 m),[])) | _,_=>none
theorem ok73 (fuel:Nat):FnOK Tryz.prog 73 (spg73 (F_text_begun fuel)):=by
  intro args objs kk r h
  unfold spg73 at h
  split at h
  · skip
    exact fo0 (hG73 fuel) Tryz.func73 rfl (by kernel_rfl) _ _ kk r ((F73_eqg fuel (F_text_Valid fuel) (F_slices_ContainsFunc_api_Bitmap_api_Bitmap_261 fuel) (F_slices_ContainsFunc_api_Item_api_Item_177 fuel) _ _ _ _ _ _ _ _ _ _ kk).trans h)
  · cases h
def kp93 (i:Nat):Option (List Nat):=Ev.look i []
def Gg93 (f:Nat):Option Ev.Spec:=Ev.look f []
def G93 (fuel:Nat):Nat→Option Ev.Spec:=Gg93
def F_text_near (fuel:Nat) (a b:Int) (k0:(Bool)→Option Ans):Option Ans:=bif decide (a≥i64.wrap (0 - b)) then k0 (decide (a≤b)) else k0 false
abbrev YF93:Type:=Int→Int→(Bool→Option Ans)→Option Ans
theorem F93_eq (fuel:Nat) (a b:Int) (k:Ev.Cont):evalFn tab (G93 fuel) J0 kp93 fuel Tryz.f93 [.c (i6 a),.c (i6 b)] [] k=F_text_near fuel a b (fun r=>match r with | d=>k (.c (.bool d),[])):=by
  kernel_rfl
theorem hG93 (fuel:Nat):GOK Tryz.prog (G93 fuel):=
  gok_nil
def spg93 (F:YF93):Ev.Spec:=fun args objs k=>match args,objs with | [.c (i6 a),.c (i6 b)],[]=>F a b (fun r=>match r with | d=>k (.c (.bool d),[])) | _,_=>none
theorem ok93 (fuel:Nat):FnOK Tryz.prog 93 (spg93 (F_text_near fuel)):=by
  intro args objs kk r h
  unfold spg93 at h
  split at h
  · skip
    exact fo0 (hG93 fuel) Tryz.func93 rfl (by kernel_rfl) _ _ kk r ((F93_eq fuel _ _ kk).trans h)
  · cases h
def kp104 (i:Nat):Option (List Nat):=Ev.look i []
def Gg104 (a:YF93) (f:Nat):Option Ev.Spec:=Ev.look f [(93,spg93 a)]
def G104 (fuel:Nat):Nat→Option Ev.Spec:=Gg104 (F_text_near fuel)
def Fg_text_rightItem (fuel:Nat) (a:YF93) (q r:Int) (s:Bool) (t u v:Int) (m:Bool) (w n:Int) (d e f:Int) (g:Bool) (b c:Int) (h i:Int) (j:LI) (k0:(Bool)→OA):OA:=bif decide (d < 0) then k0 false else bif decide (d≥n) then k0 false else (a e (100000) (fun o=>bif !o then k0 false else (a f (100000) (fun p=>bif !p then k0 false else bif !g then bif b==0 then bif c==0 then bif h==0 then bif i==0 then k0 ((↑j.length:Int)==0) else k0 false else k0 false else k0 false else k0 false else bif m then (a b (200) (fun k=>bif k then (a c (200) (fun l=>k0 l)) else k0 false)) else k0 false))))
abbrev YF104:Type:=Int→Int→Bool→Int→Int→Int→Bool→Int→Int→Int→Int→Int→Bool→Int→Int→Int→Int→LI→(Bool→Option Ans)→Option Ans
def F_text_rightItem (fuel:Nat):YF104:=Fg_text_rightItem fuel (F_text_near fuel)
theorem F104_eqg (fuel:Nat) (a:YF93) (l m:Int) (n:Bool) (o p q:Int) (s:Bool) (t u:Int) (v b d:Int) (e:Bool) (f g:Int) (h i:Int) (j:LI) (k:Ev.Cont):evalFn tab (Gg104 a) J0 kp104 fuel Tryz.f104 [.agg [i6 l,i6 m,.bool n,i6 o,i6 p,i6 q,.bool s,i6 t],.c (i6 u),.agg [i6 v,i6 b,i6 d,.bool e,i6 f,i6 g,i6 h,i6 i,.sl (.int .u8) j]] [] k=Fg_text_rightItem fuel a l m n o p q s t u v b d e f g h i j (fun r=>match r with | w=>k (.c (.bool w),[])):=by
  kernel_rfl
theorem hG104 (fuel:Nat):GOK Tryz.prog (G104 fuel):=
  gc (ok93 fuel) Tryz.func93 (by kernel_rfl) rfl <|
  gok_nil
def spg104 (F:YF104):Ev.Spec:=fun args objs k=>match args,objs with | [.agg [i6 j,i6 l,.bool m,i6 n,i6 o,i6 p,.bool q,i6 s],.c (i6 t),.agg [i6 u,i6 a,i6 b,.bool d,i6 e,i6 f,i6 g,i6 h,.sl (.int .u8) i]],[]=>F j l m n o p q s t u a b d e f g h i (fun r=>match r with | v=>k (.c (.bool v),[])) | _,_=>none
theorem ok104 (fuel:Nat):FnOK Tryz.prog 104 (spg104 (F_text_rightItem fuel)):=by
  intro args objs kk r h
  unfold spg104 at h
  split at h
  · skip
    exact fo0 (hG104 fuel) Tryz.func104 rfl (by kernel_rfl) _ _ kk r ((F104_eqg fuel (F_text_near fuel) _ _ _ _ _ _ _ _ _ _ _ _ _ _ _ _ _ _ kk).trans h)
  · cases h
def kp164_e36 (i:Nat):Option (List Nat):=Ev.look i []
def Gg164_e36 (a:YF104) (f:Nat):Option Ev.Spec:=Ev.look f [(104,spg104 a)]
def G164_e36 (fuel:Nat):Nat→Option Ev.Spec:=Gg164_e36 (F_text_rightItem fuel)
def Fg_text_right_1_e36 (fuel:Nat) (j:YF104) (k l m:Int) (n:Bool) (o p:Int) (q r:Int) (s:LI) (i a:Int) (b:Bool) (c d e:Int) (f:Bool) (g h:Int) (k0:(Bool×Int×Int×Bool×Int×Int×Int×Bool×Int×Int)→OA):OA:=(j i a b c d e f g h k l m n o p q r s (fun t=>k0 (!t,i,a,b,c,d,e,f,g,h)))
abbrev YF164_e36:Type:=Int→Int→Int→Bool→Int→Int→Int→Int→LI→Int→Int→Bool→Int→Int→Int→Bool→Int→Int→((Bool×Int×Int×Bool×Int×Int×Int×Bool×Int×Int)→Option Ans)→Option Ans
def F_text_right_1_e36 (fuel:Nat):YF164_e36:=Fg_text_right_1_e36 fuel (F_text_rightItem fuel)
theorem F164_e36_eqg (fuel:Nat) (a:YF104) (l m n:Int) (o:Bool) (p q:Int) (s t:Int) (u:LI) (v b:Int) (d:Bool) (e f g:Int) (h:Bool) (i j:Int) (k:Ev.Cont):evalFn tab (Gg164_e36 a) J0 kp164_e36 fuel Tryz.f164 [.agg [i6 l,i6 m,i6 n,.bool o,i6 p,i6 q,i6 s,i6 t,.sl (.int .u8) u],.c (.ptr 0 0),.c (.ptr 1 0)] [.cells 40 [i6 v,i6 b,.bool d,i6 e,i6 f,i6 g,.bool h,i6 i],.cells 3 [i6 j]] k=Fg_text_right_1_e36 fuel a l m n o p q s t u v b d e f g h i j (fun r=>match r with | (w,x,y,z,A,B,C,D,E,F)=>k (.c (.bool w),[.cells 40 [i6 x,i6 y,.bool z,i6 A,i6 B,i6 C,.bool D,i6 E],.cells 3 [i6 F]])):=by
  kernel_rfl
theorem hG164_e36 (fuel:Nat):GOK Tryz.prog (G164_e36 fuel):=
  gc (ok104 fuel) Tryz.func104 (by kernel_rfl) rfl <|
  gok_nil
def spg164_e36 (F:YF164_e36):Ev.Spec:=fun args objs k=>match args,objs with | [.agg [i6 j,i6 l,i6 m,.bool n,i6 o,i6 p,i6 q,i6 s,.sl (.int .u8) t],.c (.ptr u v),.c (.ptr w x)],[.cells y [i6 z,i6 a,.bool b,i6 d,i6 e,i6 f,.bool g,i6 h],.cells A [i6 i]]=>bif qb [u,v,w,x,y,A] [0,0,1,0,40,3] then F j l m n o p q s t z a b d e f g h i (fun r=>match r with | (B,C,D,E,G,H,I,J,K,L)=>k (.c (.bool B),[.cells 40 [i6 C,i6 D,.bool E,i6 G,i6 H,i6 I,.bool J,i6 K],.cells 3 [i6 L]])) else none | _,_=>none
theorem ok164_e36 (fuel:Nat):FnOK Tryz.prog 164 (spg164_e36 (F_text_right_1_e36 fuel)):=by
  intro args objs kk r h
  unfold spg164_e36 at h
  split at h
  · skip
    obtain ⟨hb,h⟩:=cond_some' h
    cases qb_eq hb
    exact fo0 (hG164_e36 fuel) Tryz.func164 rfl (by kernel_rfl) _ _ kk r ((F164_e36_eqg fuel (F_text_rightItem fuel) _ _ _ _ _ _ _ _ _ _ _ _ _ _ _ _ _ _ kk).trans h)
  · cases h
end
end Go.Proofs.YtipdidpalcmlhaaGreat

