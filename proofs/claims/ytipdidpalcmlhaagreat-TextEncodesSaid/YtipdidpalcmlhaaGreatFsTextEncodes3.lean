/- What the functions that TextEncodes reaches do: their typed texts, each with the proof that the machine does it. No condition. -/
import Derived.Test.YtipdidpalcmlhaaGreatEvX
import Derived.Test.YtipdidpalcmlhaaGreatFsTextEncodes2
import Derived.Test.YtipdidpalcmlhaaGreatEvY
import Derived.Test.YtipdidpalcmlhaaGreatEvU
import Derived.Test.YtipdidpalcmlhaaGreatFsTextEncodes1
set_option linter.unusedVariables false
set_option linter.unusedSimpArgs false
set_option linter.unusedSectionVars false
set_option linter.unusedVariables false
set_option linter.unusedSimpArgs false
set_option maxRecDepth 100000
set_option maxHeartbeats 2000000
namespace Go.Proofs.YtipdidpalcmlhaaGreat
open Go Ev
open Go.IntKind (i64 u64 u8 i32 u32 u16)
noncomputable section
def kp240_aa3 (i:Nat):Option (List Nat):=Ev.look i [(5,[0,1,4,8]),(14,[0,1,4,8,9,10,49,50]),(100000,[0,1,4,8]),(100002,[0,1,4,9]),(400000,[4,5]),(400002,[4,5])]
def Gg240_aa3 (a:YF146_aa3) (b:YF236) (f:Nat):Option Ev.Spec:=Ev.look f [(146,spg146_aa3 a),(236,spg236 b)]
def G240_aa3 (fuel:Nat):Nat→Option Ev.Spec:=Gg240_aa3 (F_coder_Decoder_Get_aa3 fuel) (F_number_tail_take fuel)
abbrev V_number_get_aa3_0:Type:=Int×Int×Int×Int×Int×Int×Int×Int×Bool×Bool×LI×LI×Bool×Int
abbrev W_number_get_aa3_0:Type:=(Int×Int×Int×Int×Int×Int×Int×Bool×Bool×LI×LI×Bool×Int→OA)×(Int×Int×Int×Int×Int×Int×Int×Int×Bool×Bool×LI×LI×Bool×Int→OA)
def Sg_number_get_aa3_0 (fuel:Nat) (C:YF146_aa3) (E:YF236) (d a:Int) (t u:Int) (v w:Int) (x y:Int) (z A:Bool) (r s:LI) (o:Bool) (p:Int) (c:V_number_get_aa3_0→OA) (B:W_number_get_aa3_0):OA:=match B with | (ret,b)=>bif decide (a < 20) then (C (i64.wrap (i64.wrap (d+1)+a)) t u v w x y z A r s (fun (D,q,g,h,i,j,k,l,m,n,e,f)=>bif q != 0 then ret (q,g,h,i,j,k,l,m,n,e,f,false,0) else bif D==0 then b (d,a,g,h,i,j,k,l,m,n,e,f,o,p) else c (d,i64.wrap (a+1),g,h,i,j,k,l,m,n,e,f,o,p))) else b (d,a,t,u,v,w,x,y,z,A,r,s,o,p)
def S_number_get_aa3_0 (fuel:Nat) (v:Int×Int×Int×Int×Int×Int×Int×Int×Bool×Bool×(List Int)×(List Int)×Bool×Int) (c:(Int×Int×Int×Int×Int×Int×Int×Int×Bool×Bool×(List Int)×(List Int)×Bool×Int)→Option Ans) (B:(Int×Int×Int×Int×Int×Int×Int×Bool×Bool×(List Int)×(List Int)×Bool×Int→Option Ans)×(Int×Int×Int×Int×Int×Int×Int×Int×Bool×Bool×(List Int)×(List Int)×Bool×Int→Option Ans)):Option Ans:=match v with | (f,g,h,i,j,k,l,m,n,o,a,b,d,e)=>Sg_number_get_aa3_0 fuel (F_coder_Decoder_Get_aa3 fuel) (F_number_tail_take fuel) f g h i j k l m n o a b d e c B
def L_number_get_aa3_0 (fuel:Nat) (v:V_number_get_aa3_0) (ret:(Int×Int×Int×Int×Int×Int×Int×Bool×Bool×(List Int)×(List Int)×Bool×Int→Option Ans)) (b:(Int×Int×Int×Int×Int×Int×Int×Int×Bool×Bool×(List Int)×(List Int)×Bool×Int→Option Ans)):Option Ans:=iter (S_number_get_aa3_0 fuel) fuel v (ret,b)
def T240_aa3_0 (v:V_number_get_aa3_0):Ev.St:=match v with | (f,g,h,i,j,k,l,m,n,o,a,b,d,e)=>⟨[(0,.c (.ptr 0 0)),(1,.c (i6 f)),(4,.c (.ptr 3 0)),(8,.c (i6 g))],[(0,.cells 194 (i6 h::.own 1::ctb (.int .u64 i::.int .u64 j::.own 2::i6 k::.int .u64 l::i6 m::.bool n::.bool o::[]))),(1,.vec 3 (.int .i64) a false),(2,.vec 5 (.int .u8) b false),(3,.cells 124 [.bool d,i6 e])],4,3⟩
def E240_aa3_0 (K:KT):W_number_get_aa3_0:=((fun v=>match v with | (e,f,g,h,i,j,k,l,m,n,a,b,d)=>K .ret ⟨[(4,.c (.ptr 3 0)),(5,.c (i6 e))],[(0,.cells 194 (i6 f::.own 1::ctb (.int .u64 g::.int .u64 h::.own 2::i6 i::.int .u64 j::i6 k::.bool l::.bool m::[]))),(1,.vec 3 (.int .i64) n false),(2,.vec 5 (.int .u8) a false),(3,.cells 124 [.bool b,i6 d])],4,3⟩),(fun v=>match v with | (e,f,g,h,i,j,k,l,m,n,a,b,d,o)=>K .normal ⟨[(0,.c (.ptr 0 0)),(1,.c (i6 e)),(4,.c (.ptr 3 0)),(8,.c (i6 f))],[(0,.cells 194 (i6 g::.own 1::ctb (.int .u64 h::.int .u64 i::.own 2::i6 j::.int .u64 k::i6 l::.bool m::.bool n::[]))),(1,.vec 3 (.int .i64) a false),(2,.vec 5 (.int .u8) b false),(3,.cells 124 [.bool d,i6 o])],4,3⟩))
theorem S240_aa3_0_okg (fuel:Nat) (a:YF146_aa3) (b:YF236) (R:Ev.St→OA) (K:KT) (g h:Int) (i j:Int) (k l:Int) (m n:Int) (o p:Bool) (c d:LI) (e:Bool) (f:Int):evalCode tab (Gg240_aa3 a b) J0 kp240_aa3 fuel (bodyOf 0 Tryz.f240) (T240_aa3_0 (g,h,i,j,k,l,m,n,o,p,c,d,e,f)) (lc kp240_aa3 5 0 R K)=Sg_number_get_aa3_0 fuel a b g h i j k l m n o p c d e f (fun v=>R (T240_aa3_0 v)) (E240_aa3_0 K):=by
  kernel_rfl
def B240_aa3_0 (fuel:Nat):Ev.Blk:=fun st K=>match canonO (kp240_aa3 5) st with | some s=>(match s with | ⟨[(q,.c (.ptr r t)),(u,.c (i6 v)),(w,.c (.ptr x y)),(z,.c (i6 A))],[(B,.cells C a),(b,.vec d (.int .i64) e false),(f,.vec g (.int .u8) h false),(i,.cells j [.bool k,i6 l])],m,n⟩=>(match splitRun 2 ctn a with | some ([i6 D,.own o],[.int .u64 E,.int .u64 F,.own p,i6 G,.int .u64 H,i6 I,.bool J,.bool L])=>bif qb [q,r,t,u,w,x,y,z,B,C,b,d,f,g,i,j,m,n,o,p] [0,0,0,1,4,3,0,8,0,194,1,3,2,5,3,124,4,3,1,2] then iter (S_number_get_aa3_0 fuel) fuel (v,A,D,E,F,G,H,I,J,L,e,h,k,l) (E240_aa3_0 K) else none | _=>none) | _=>none) | none=>none
theorem B240_aa3_0_ok (fuel:Nat) (st:Ev.St) (K:KT) (r:Ans) (h:B240_aa3_0 fuel st K=some r):evalCode tab (G240_aa3 fuel) J0 kp240_aa3 fuel (.block 0 (.loop (bodyOf 0 Tryz.f240))) st K=some r:=by
  unfold B240_aa3_0 at h
  split at h
  · rename_i s hs
    split at h
    · skip
      split at h
      rotate_left 1
      · cases h
      rename_i hsp
      have esp:=splitRun_eq hsp
      subst esp
      obtain ⟨hb,h⟩:=cond_some' h
      cases qb_eq hb
      exact blk_loop (S:=T240_aa3_0) (ks:=E240_aa3_0) (step:=S_number_get_aa3_0 fuel) (v:=(_,_,_,_,_,_,_,_,_,_,_,_,_,_)) (by kernel_rfl) (by kernel_rfl) (fun R K v=>by obtain ⟨e,f,g,i,j,k,l,m,n,o,a,b,c,d⟩:=v; exact S240_aa3_0_okg fuel (F_coder_Decoder_Get_aa3 fuel) (F_number_tail_take fuel) R K e f g i j k l m n o a b c d) hs h
    · cases h
  · cases h
abbrev V_number_get_aa3_2:Type:=Int×Int×Int×Int×Int×Int×Int×Int×Int×Int×Int×Bool×Bool×LI×LI×Bool×Int×Int
abbrev W_number_get_aa3_2:Type:=(Int×Int×Int×Int×Int×Int×Int×Bool×Bool×LI×LI×Bool×Int→OA)×(Int×Int×Int×Int×Int×Int×Int×Int×Bool×Bool×LI×LI×Bool×Int→OA)
def Sg_number_get_aa3_2 (fuel:Nat) (v:YF146_aa3) (T:YF236) (a n:Int) (o p:Int) (e q:Int) (r s:Int) (t u g:Int) (h i:Bool) (j k:LI) (l:Bool) (m S:Int) (c:V_number_get_aa3_2→OA) (B:W_number_get_aa3_2):OA:=match B with | (ret,b)=>bif decide (e < p) then bif decide (e > 0) then (T S (fun (f,d)=>(v (i64.wrap (a+f)) q r s t u g h i j k (fun (U,A,C,D,E,F,G,H,I,J,w,x)=>bif A != 0 then ret (A,C,D,E,F,G,H,I,J,w,x,false,0) else c (a,n,i64.wrap (i64.wrap (2*o)+U),p,i64.wrap (e+1),C,D,E,F,G,H,I,J,w,x,l,m,d))))) else (v (i64.wrap (a+i64.wrap (23+n))) q r s t u g h i j k (fun (f,d,K,L,M,N,O,P,Q,R,y,z)=>bif d != 0 then ret (d,K,L,M,N,O,P,Q,R,y,z,false,0) else c (a,n,i64.wrap (i64.wrap (2*o)+f),p,i64.wrap (e+1),K,L,M,N,O,P,Q,R,y,z,l,m,S))) else b (a,o,q,r,s,t,u,g,h,i,j,k,l,m)
def S_number_get_aa3_2 (fuel:Nat) (v:Int×Int×Int×Int×Int×Int×Int×Int×Int×Int×Int×Bool×Bool×(List Int)×(List Int)×Bool×Int×Int) (c:(Int×Int×Int×Int×Int×Int×Int×Int×Int×Int×Int×Bool×Bool×(List Int)×(List Int)×Bool×Int×Int)→Option Ans) (B:(Int×Int×Int×Int×Int×Int×Int×Bool×Bool×(List Int)×(List Int)×Bool×Int→Option Ans)×(Int×Int×Int×Int×Int×Int×Int×Int×Bool×Bool×(List Int)×(List Int)×Bool×Int→Option Ans)):Option Ans:=match v with | (j,k,l,m,n,o,p,q,r,s,a,b,d,e,f,g,h,i)=>Sg_number_get_aa3_2 fuel (F_coder_Decoder_Get_aa3 fuel) (F_number_tail_take fuel) j k l m n o p q r s a b d e f g h i c B
def L_number_get_aa3_2 (fuel:Nat) (v:V_number_get_aa3_2) (ret:(Int×Int×Int×Int×Int×Int×Int×Bool×Bool×(List Int)×(List Int)×Bool×Int→Option Ans)) (b:(Int×Int×Int×Int×Int×Int×Int×Int×Bool×Bool×(List Int)×(List Int)×Bool×Int→Option Ans)):Option Ans:=iter (S_number_get_aa3_2 fuel) fuel v (ret,b)
def J240_aa3_2 (fuel:Nat) (i:Nat):Option Ev.Blk:=Ev.look i [(100000,B240_aa3_0 fuel)]
def T240_aa3_2 (v:V_number_get_aa3_2):Ev.St:=match v with | (j,k,l,m,n,o,p,q,r,s,a,b,d,e,f,g,h,i)=>⟨[(0,.c (.ptr 0 0)),(1,.c (i6 j)),(4,.c (.ptr 3 0)),(8,.c (i6 k)),(9,.c (i6 l)),(10,.c (.ptr 4 0)),(49,.c (i6 m)),(50,.c (i6 n))],[(0,.cells 194 (i6 o::.own 1::ctb (.int .u64 p::.int .u64 q::.own 2::i6 r::.int .u64 s::i6 a::.bool b::.bool d::[]))),(1,.vec 3 (.int .i64) e false),(2,.vec 5 (.int .u8) f false),(3,.cells 124 [.bool g,i6 h]),(4,.cells 269 [i6 i])],5,3⟩
def E240_aa3_2 (K:KT):W_number_get_aa3_2:=((fun v=>match v with | (e,f,g,h,i,j,k,l,m,n,a,b,d)=>K .ret ⟨[(4,.c (.ptr 3 0)),(5,.c (i6 e))],[(0,.cells 194 (i6 f::.own 1::ctb (.int .u64 g::.int .u64 h::.own 2::i6 i::.int .u64 j::i6 k::.bool l::.bool m::[]))),(1,.vec 3 (.int .i64) n false),(2,.vec 5 (.int .u8) a false),(3,.cells 124 [.bool b,i6 d])],4,3⟩),(fun v=>match v with | (e,f,g,h,i,j,k,l,m,n,a,b,d,o)=>K .normal ⟨[(0,.c (.ptr 0 0)),(1,.c (i6 e)),(4,.c (.ptr 3 0)),(9,.c (i6 f))],[(0,.cells 194 (i6 g::.own 1::ctb (.int .u64 h::.int .u64 i::.own 2::i6 j::.int .u64 k::i6 l::.bool m::.bool n::[]))),(1,.vec 3 (.int .i64) a false),(2,.vec 5 (.int .u8) b false),(3,.cells 124 [.bool d,i6 o])],4,3⟩))
theorem S240_aa3_2_okg (fuel:Nat) (a:YF146_aa3) (b:YF236) (R:Ev.St→OA) (K:KT) (k l:Int) (m n:Int) (o p:Int) (q r:Int) (s t c:Int) (d e:Bool) (f g:LI) (h:Bool) (i j:Int):evalCode tab (Gg240_aa3 a b) (J240_aa3_2 fuel) kp240_aa3 fuel (bodyOf 2 Tryz.f240) (T240_aa3_2 (k,l,m,n,o,p,q,r,s,t,c,d,e,f,g,h,i,j)) (lc kp240_aa3 14 2 R K)=Sg_number_get_aa3_2 fuel a b k l m n o p q r s t c d e f g h i j (fun v=>R (T240_aa3_2 v)) (E240_aa3_2 K):=by
  kernel_rfl
def B240_aa3_2 (fuel:Nat):Ev.Blk:=fun st K=>match canonO (kp240_aa3 14) st with | some s=>(match s with | ⟨[(D,.c (.ptr E F)),(G,.c (i6 H)),(I,.c (.ptr J L)),(M,.c (i6 N)),(O,.c (i6 P)),(Q,.c (.ptr a b)),(d,.c (i6 R)),(e,.c (i6 S))],[(f,.cells g h),(i,.vec j (.int .i64) k false),(l,.vec m (.int .u8) n false),(o,.cells p [.bool q,i6 r]),(t,.cells u [i6 v])],w,x⟩=>(match splitRun 2 ctn h with | some ([i6 T,.own y],[.int .u64 U,.int .u64 V,.own z,i6 W,.int .u64 X,i6 A,.bool B,.bool C])=>bif qb [D,E,F,G,I,J,L,M,O,Q,a,b,d,e,f,g,i,j,l,m,o,p,t,u,w,x,y,z] [0,0,0,1,4,3,0,8,9,10,4,0,49,50,0,194,1,3,2,5,3,124,4,269,5,3,1,2] then iter (S_number_get_aa3_2 fuel) fuel (H,N,P,R,S,T,U,V,W,X,A,B,C,k,n,q,r,v) (E240_aa3_2 K) else none | _=>none) | _=>none) | none=>none
theorem B240_aa3_2_ok (fuel:Nat) (st:Ev.St) (K:KT) (r:Ans) (h:B240_aa3_2 fuel st K=some r):evalCode tab (G240_aa3 fuel) (J240_aa3_2 fuel) kp240_aa3 fuel (.block 2 (.loop (bodyOf 2 Tryz.f240))) st K=some r:=by
  unfold B240_aa3_2 at h
  split at h
  · rename_i s hs
    split at h
    · skip
      split at h
      rotate_left 1
      · cases h
      rename_i hsp
      have esp:=splitRun_eq hsp
      subst esp
      obtain ⟨hb,h⟩:=cond_some' h
      cases qb_eq hb
      exact blk_loop (S:=T240_aa3_2) (ks:=E240_aa3_2) (step:=S_number_get_aa3_2 fuel) (v:=(_,_,_,_,_,_,_,_,_,_,_,_,_,_,_,_,_,_)) (by kernel_rfl) (by kernel_rfl) (fun R K v=>by obtain ⟨j,k,l,m,n,o,p,q,t,u,a,b,c,d,e,f,g,i⟩:=v; exact S240_aa3_2_okg fuel (F_coder_Decoder_Get_aa3 fuel) (F_number_tail_take fuel) R K j k l m n o p q t u a b c d e f g i) hs h
    · cases h
  · cases h
def J240_aa3 (fuel:Nat) (i:Nat):Option Ev.Blk:=Ev.look i [(100000,B240_aa3_0 fuel),(100002,B240_aa3_2 fuel)]
def Fg_number_get_aa3 (fuel:Nat) (w:YF146_aa3) (b2:YF236) (J a1:Int) (a2 a3:Int) (a4 a5 a6:Int) (a7 a8:Bool) (a9 a0:LI) (k0:(Bool×Int×Int×Int×Int×Int×Int×Int×Int×Bool×Bool×LI×LI)→OA):OA:=(w J a1 a2 a3 a4 a5 a6 a7 a8 a9 a0 (fun (P,a,f,g,h,i,j,k,l,m,b,c)=>bif a != 0 then k0 (a==0,0,a,f,g,h,i,j,k,l,m,b,c) else bif P==1 then k0 (a==0,0,a,f,g,h,i,j,k,l,m,b,c) else (L_number_get_aa3_0 fuel (J,0,f,g,h,i,j,k,l,m,b,c,false,0) (fun (ret0_0,ret0_1,ret0_2,ret0_3,ret0_4,ret0_5,ret0_6,ret0_7,ret0_8,ret0_9,ret0_10,ret0_11,ret0_12)=>k0 (ret0_11,ret0_12,ret0_0,ret0_1,ret0_2,ret0_3,ret0_4,ret0_5,ret0_6,ret0_7,ret0_8,ret0_9,ret0_10)) (fun (Q,I,R,S,T,U,V,W,X,Y,K,L,M,N)=>(L_number_get_aa3_2 fuel (Q,I,1,I,0,R,S,T,U,V,W,X,Y,K,L,M,N,44) (fun (ret2_0,ret2_1,ret2_2,ret2_3,ret2_4,ret2_5,ret2_6,ret2_7,ret2_8,ret2_9,ret2_10,ret2_11,ret2_12)=>k0 (ret2_11,ret2_12,ret2_0,ret2_1,ret2_2,ret2_3,ret2_4,ret2_5,ret2_6,ret2_7,ret2_8,ret2_9,ret2_10)) (fun (Z,n,o,p,q,r,s,t,u,v,d,e,b0,b1)=>bif decide (n > 1048577) then k0 (false,0,3,o,p,q,r,s,t,u,v,d,e) else bif n==1 then k0 (false,0,0,o,p,q,r,s,t,u,v,d,e) else (w (i64.wrap (Z+22)) o p q r s t u v d e (fun (O,z,A,B,C,D,E,F,G,H,x,y)=>bif z != 0 then k0 (false,0,z,A,B,C,D,E,F,G,H,x,y) else k0 (false,i64.wrap (i64.wrap (n - 1)*i64.wrap (1 - i64.wrap (2*O))),0,A,B,C,D,E,F,G,H,x,y)))))))))
abbrev YF240_aa3:Type:=Int→Int→Int→Int→Int→Int→Int→Bool→Bool→LI→LI→((Bool×Int×Int×Int×Int×Int×Int×Int×Int×Bool×Bool×LI×LI)→Option Ans)→Option Ans
def F_number_get_aa3 (fuel:Nat):YF240_aa3:=Fg_number_get_aa3 fuel (F_coder_Decoder_Get_aa3 fuel) (F_number_tail_take fuel)
theorem F240_aa3_eqg (fuel:Nat) (a:YF146_aa3) (b:YF236) (e f:Int) (g h:Int) (i j l:Int) (m n:Bool) (o d:LI) (k:Ev.Cont):evalFn tab (Gg240_aa3 a b) (J240_aa3 fuel) kp240_aa3 fuel Tryz.f240 [.c (.ptr 0 0),.c (i6 e)] [.cells 194 (i6 f::.own 1::ctb (.int .u64 g::.int .u64 h::.own 2::i6 i::.int .u64 j::i6 l::.bool m::.bool n::[])),.vec 3 (.int .i64) o false,.vec 5 (.int .u8) d false] k=Fg_number_get_aa3 fuel a b e f g h i j l m n o d (fun r=>match r with | (t,u,v,w,x,y,z,A,B,C,p,q,s)=>k (.tup [(true,[.bool t,i6 u]),(false,[i6 v])],[.cells 194 (i6 w::.own 1::ctb (.int .u64 x::.int .u64 y::.own 2::i6 z::.int .u64 A::i6 B::.bool C::.bool p::[])),.vec 3 (.int .i64) q false,.vec 5 (.int .u8) s false])):=by
  kernel_rfl
theorem hG240_aa3 (fuel:Nat):GOK Tryz.prog (G240_aa3 fuel):=
  gc (ok146_aa3 fuel) Tryz.func146 (by kernel_rfl) rfl <|
  gc (ok236 fuel) Tryz.func236 (by kernel_rfl) rfl <|
  gok_nil
theorem B240_aa3_0_blk (fuel:Nat):BlkOK Tryz.prog Tryz.f240.ntmps (.block 0 (.loop (bodyOf 0 Tryz.f240))) (B240_aa3_0 fuel):=bo0 (hG240_aa3 fuel) (by kernel_rfl) (by kernel_rfl) (B240_aa3_0_ok fuel)
theorem B240_aa3_2_blk (fuel:Nat):BlkOK Tryz.prog Tryz.f240.ntmps (.block 2 (.loop (bodyOf 2 Tryz.f240))) (B240_aa3_2 fuel):=bo0 (hG240_aa3 fuel) (by kernel_rfl) (by kernel_rfl) (B240_aa3_2_ok fuel)
theorem fok240_aa3 (fuel:Nat):FnOK Tryz.prog 240 (evalFn tab (G240_aa3 fuel) (J240_aa3 fuel) kp240_aa3 fuel Tryz.f240):=
  fn_ok tab_ok (hG240_aa3 fuel) mixed Tryz.func240 (c:=(Tryz.f240.body).getD .skip) rfl (fun q hq=>by
    rw [(by kernel_rfl:obl (J240_aa3 fuel) ((Tryz.f240.body).getD .skip)= [(.block 0 (.loop (bodyOf 0 Tryz.f240)),B240_aa3_0 fuel),(.block 2 (.loop (bodyOf 2 Tryz.f240)),B240_aa3_2 fuel)])] at hq
    simp only [List.mem_cons,List.not_mem_nil,or_false] at hq
    rcases hq with rfl | rfl
    · exact B240_aa3_0_blk fuel
    · exact B240_aa3_2_blk fuel)
def spg240_aa3 (F:YF240_aa3):Ev.Spec:=fun args objs k=>match args,objs with | [.c (.ptr g h),.c (i6 i)],[.cells j a,.vec l (.int .i64) m false,.vec n (.int .u8) b false]=>(match splitRun 2 ctn a with | some ([i6 o,.own p],[.int .u64 q,.int .u64 s,.own t,i6 u,.int .u64 v,i6 w,.bool x,.bool y])=>bif qb [g,h,j,l,n,p,t] [0,0,194,3,5,1,2] then F i o q s u v w x y m b (fun r=>match r with | (z,A,B,C,D,E,G,H,I,J,d,e,f)=>k (.tup [(true,[.bool z,i6 A]),(false,[i6 B])],[.cells 194 (i6 C::.own 1::ctb (.int .u64 D::.int .u64 E::.own 2::i6 G::.int .u64 H::i6 I::.bool J::.bool d::[])),.vec 3 (.int .i64) e false,.vec 5 (.int .u8) f false])) else none | _=>none) | _,_=>none
theorem ok240_aa3 (fuel:Nat):FnOK Tryz.prog 240 (spg240_aa3 (F_number_get_aa3 fuel)):=by
  intro args objs kk r h
  unfold spg240_aa3 at h
  split at h
  · skip
    split at h
    rotate_left 1
    · cases h
    rename_i hsp
    have esp:=splitRun_eq hsp
    subst esp
    obtain ⟨hb,h⟩:=cond_some' h
    cases qb_eq hb
    exact fok240_aa3 fuel _ _ kk r ((F240_aa3_eqg fuel (F_coder_Decoder_Get_aa3 fuel) (F_number_tail_take fuel) _ _ _ _ _ _ _ _ _ _ _ kk).trans h)
  · cases h
def kp189_aa3 (i:Nat):Option (List Nat):=Ev.look i []
def Gg189_aa3 (a:YF146_aa3) (b:YF147_40a) (d:YF170) (c:YF240_aa3) (f:Nat):Option Ev.Spec:=Ev.look f [(146,spg146_aa3 a),(147,spg147_40a b),(170,spg170 d),(240,spg240_aa3 c)]
def G189_aa3 (fuel:Nat):Nat→Option Ev.Spec:=Gg189_aa3 (F_coder_Decoder_Get_aa3 fuel) (F_coder_Decoder_Model_40a fuel) (F_number_fits fuel) (F_number_get_aa3 fuel)
def Fg_number_Get_aa3 (fuel:Nat) (x:YF146_aa3) (y:YF147_40a) (O:YF170) (z:YF240_aa3) (w R:Int) (S T:Int) (U V W:Int) (X Y:Bool) (Z Q:LI) (k0:(Bool×Int×Int×Int×Int×Int×Int×Int×Int×Bool×Bool×LI×LI)→OA):OA:=(x ((-1:Int)) R S T U V W X Y Z Q (fun (a0,d,e,f,g,h,i,j,k,l,a,b)=>bif d==7 then k0 (false,0,d,e,f,g,h,i,j,k,l,a,b) else (y e f g h i j k l a b (fun (P,m,n,o,p,q,r,s,t,u,c,D)=>(O P D w (48) (fun v=>bif v != 0 then k0 (false,0,v,m,n,o,p,q,r,s,t,u,c) else (z w m n o p q r s t u c (fun (E,F,G,H,I,J,K,L,M,N,A,B,C)=>k0 (E,F,G,H,I,J,K,L,M,N,A,B,C)))))))))
abbrev YF189_aa3:Type:=Int→Int→Int→Int→Int→Int→Int→Bool→Bool→LI→LI→((Bool×Int×Int×Int×Int×Int×Int×Int×Int×Bool×Bool×LI×LI)→Option Ans)→Option Ans
def F_number_Get_aa3 (fuel:Nat):YF189_aa3:=Fg_number_Get_aa3 fuel (F_coder_Decoder_Get_aa3 fuel) (F_coder_Decoder_Model_40a fuel) (F_number_fits fuel) (F_number_get_aa3 fuel)
theorem F189_aa3_eqg (fuel:Nat) (a:YF146_aa3) (b:YF147_40a) (e:YF170) (d:YF240_aa3) (g h:Int) (i j:Int) (l m n:Int) (o p:Bool) (q f:LI) (k:Ev.Cont):evalFn tab (Gg189_aa3 a b e d) J0 kp189_aa3 fuel Tryz.f189 [.c (.ptr 0 0),.c (i6 g)] [.cells 194 (i6 h::.own 1::ctb (.int .u64 i::.int .u64 j::.own 2::i6 l::.int .u64 m::i6 n::.bool o::.bool p::[])),.vec 3 (.int .i64) q false,.vec 5 (.int .u8) f false] k=Fg_number_Get_aa3 fuel a b e d g h i j l m n o p q f (fun r=>match r with | (v,w,x,y,z,A,B,C,D,E,s,t,u)=>k (.tup [(true,[.bool v,i6 w]),(false,[i6 x])],[.cells 194 (i6 y::.own 1::ctb (.int .u64 z::.int .u64 A::.own 2::i6 B::.int .u64 C::i6 D::.bool E::.bool s::[])),.vec 3 (.int .i64) t false,.vec 5 (.int .u8) u false])):=by
  kernel_rfl
theorem hG189_aa3 (fuel:Nat):GOK Tryz.prog (G189_aa3 fuel):=
  gc (ok146_aa3 fuel) Tryz.func146 (by kernel_rfl) rfl <|
  gc (ok147_40a fuel) Tryz.func147 (by kernel_rfl) rfl <|
  gc (ok170 fuel) Tryz.func170 (by kernel_rfl) rfl <|
  gc (ok240_aa3 fuel) Tryz.func240 (by kernel_rfl) rfl <|
  gok_nil
def spg189_aa3 (F:YF189_aa3):Ev.Spec:=fun args objs k=>match args,objs with | [.c (.ptr g h),.c (i6 i)],[.cells j a,.vec l (.int .i64) m false,.vec n (.int .u8) b false]=>(match splitRun 2 ctn a with | some ([i6 o,.own p],[.int .u64 q,.int .u64 s,.own t,i6 u,.int .u64 v,i6 w,.bool x,.bool y])=>bif qb [g,h,j,l,n,p,t] [0,0,194,3,5,1,2] then F i o q s u v w x y m b (fun r=>match r with | (z,A,B,C,D,E,G,H,I,J,d,e,f)=>k (.tup [(true,[.bool z,i6 A]),(false,[i6 B])],[.cells 194 (i6 C::.own 1::ctb (.int .u64 D::.int .u64 E::.own 2::i6 G::.int .u64 H::i6 I::.bool J::.bool d::[])),.vec 3 (.int .i64) e false,.vec 5 (.int .u8) f false])) else none | _=>none) | _,_=>none
def spec189_aa3 (fuel:Nat):Ev.Spec:=spg189_aa3 (F_number_Get_aa3 fuel)
theorem ok189_aa3 (fuel:Nat):FnOK Tryz.prog 189 (spec189_aa3 fuel):=by
  intro args objs kk r h
  unfold spec189_aa3 spg189_aa3 at h
  split at h
  · skip
    split at h
    rotate_left 1
    · cases h
    rename_i hsp
    have esp:=splitRun_eq hsp
    subst esp
    obtain ⟨hb,h⟩:=cond_some' h
    cases qb_eq hb
    exact fo0 (hG189_aa3 fuel) Tryz.func189 rfl (by kernel_rfl) _ _ kk r ((F189_aa3_eqg fuel (F_coder_Decoder_Get_aa3 fuel) (F_coder_Decoder_Model_40a fuel) (F_number_fits fuel) (F_number_get_aa3 fuel) _ _ _ _ _ _ _ _ _ _ _ kk).trans h)
  · cases h
def kp241_452 (i:Nat):Option (List Nat):=Ev.look i [(11,[0,1,2,11,38,39]),(100000,[2,11]),(400000,[6,7])]
def Gg241_452 (a:YF146_aa3) (b:YF147_40a) (c:YF170) (f:Nat):Option Ev.Spec:=Ev.look f [(146,spg146_aa3 a),(147,spg147_40a b),(170,spg170 c)]
def G241_452 (fuel:Nat):Nat→Option Ev.Spec:=Gg241_452 (F_coder_Decoder_Get_aa3 fuel) (F_coder_Decoder_Model_40a fuel) (F_number_fits fuel)
abbrev V_number_GetId_452_0:Type:=Int×Int×Int×Int×Int×Int×Int×Int×Int×Int×Int×Bool×Bool×LI×LI
abbrev W_number_GetId_452_0:Type:=(Int×Int×Int×Int×Int×Int×Int×Int×Bool×Bool×LI×LI→OA)×(Int×Int×Int×Int×Int×Int×Int×Int×Bool×Bool×LI×LI→OA)
def Sg_number_GetId_452_0 (fuel:Nat) (D:YF146_aa3) (F:YF147_40a) (G:YF170) (t u:Int) (a v:Int) (w x:Int) (y z:Int) (A C o:Int) (p q:Bool) (r s:LI) (c:V_number_GetId_452_0→OA) (B:W_number_GetId_452_0):OA:=match B with | (ret,b)=>bif decide (w < v) then (D (i64.wrap (i64.wrap (t+a) - 1)) x y z A C o p q r s (fun (E,f,g,h,i,j,k,l,m,n,d,e)=>bif f != 0 then ret (0,f,g,h,i,j,k,l,m,n,d,e) else c (t,u,i64.wrap (i64.wrap (2*a)+E),v,i64.wrap (w+1),g,h,i,j,k,l,m,n,d,e))) else b (u,a,x,y,z,A,C,o,p,q,r,s)
def S_number_GetId_452_0 (fuel:Nat) (v:Int×Int×Int×Int×Int×Int×Int×Int×Int×Int×Int×Bool×Bool×(List Int)×(List Int)) (c:(Int×Int×Int×Int×Int×Int×Int×Int×Int×Int×Int×Bool×Bool×(List Int)×(List Int))→Option Ans) (B:(Int×Int×Int×Int×Int×Int×Int×Int×Bool×Bool×(List Int)×(List Int)→Option Ans)×(Int×Int×Int×Int×Int×Int×Int×Int×Bool×Bool×(List Int)×(List Int)→Option Ans)):Option Ans:=match v with | (g,h,i,j,k,l,m,n,o,p,a,b,d,e,f)=>Sg_number_GetId_452_0 fuel (F_coder_Decoder_Get_aa3 fuel) (F_coder_Decoder_Model_40a fuel) (F_number_fits fuel) g h i j k l m n o p a b d e f c B
def L_number_GetId_452_0 (fuel:Nat) (v:V_number_GetId_452_0) (ret:(Int×Int×Int×Int×Int×Int×Int×Int×Bool×Bool×(List Int)×(List Int)→Option Ans)) (b:(Int×Int×Int×Int×Int×Int×Int×Int×Bool×Bool×(List Int)×(List Int)→Option Ans)):Option Ans:=iter (S_number_GetId_452_0 fuel) fuel v (ret,b)
def T241_452_0 (v:V_number_GetId_452_0):Ev.St:=match v with | (g,h,i,j,k,l,m,n,o,p,a,b,d,e,f)=>⟨[(0,.c (.ptr 0 0)),(1,.c (i6 g)),(2,.c (i6 h)),(11,.c (i6 i)),(38,.c (i6 j)),(39,.c (i6 k))],[(0,.cells 194 (i6 l::.own 1::ctb (.int .u64 m::.int .u64 n::.own 2::i6 o::.int .u64 p::i6 a::.bool b::.bool d::[]))),(1,.vec 3 (.int .i64) e false),(2,.vec 5 (.int .u8) f false)],3,3⟩
def E241_452_0 (K:KT):W_number_GetId_452_0:=((fun v=>match v with | (d,e,f,g,h,i,j,k,l,m,a,b)=>K .ret ⟨[(6,.c (i6 d)),(7,.c (i6 e))],[(0,.cells 194 (i6 f::.own 1::ctb (.int .u64 g::.int .u64 h::.own 2::i6 i::.int .u64 j::i6 k::.bool l::.bool m::[]))),(1,.vec 3 (.int .i64) a false),(2,.vec 5 (.int .u8) b false)],3,3⟩),(fun v=>match v with | (d,e,f,g,h,i,j,k,l,m,a,b)=>K .normal ⟨[(2,.c (i6 d)),(11,.c (i6 e))],[(0,.cells 194 (i6 f::.own 1::ctb (.int .u64 g::.int .u64 h::.own 2::i6 i::.int .u64 j::i6 k::.bool l::.bool m::[]))),(1,.vec 3 (.int .i64) a false),(2,.vec 5 (.int .u8) b false)],3,3⟩))
theorem S241_452_0_okg (fuel:Nat) (a:YF146_aa3) (b:YF147_40a) (c:YF170) (R:Ev.St→OA) (K:KT) (i j:Int) (k l:Int) (m n:Int) (o p:Int) (q r d:Int) (e f:Bool) (g h:LI):evalCode tab (Gg241_452 a b c) J0 kp241_452 fuel (bodyOf 0 Tryz.f241) (T241_452_0 (i,j,k,l,m,n,o,p,q,r,d,e,f,g,h)) (lc kp241_452 11 0 R K)=Sg_number_GetId_452_0 fuel a b c i j k l m n o p q r d e f g h (fun v=>R (T241_452_0 v)) (E241_452_0 K):=by
  kernel_rfl
def B241_452_0 (fuel:Nat):Ev.Blk:=fun st K=>match canonO (kp241_452 11) st with | some s=>(match s with | ⟨[(p,.c (.ptr q r)),(t,.c (i6 u)),(v,.c (i6 w)),(x,.c (i6 y)),(z,.c (i6 A)),(B,.c (i6 C))],[(D,.cells E a),(b,.vec d (.int .i64) e false),(f,.vec g (.int .u8) h false)],i,j⟩=>(match splitRun 2 ctn a with | some ([i6 F,.own k],[.int .u64 G,.int .u64 H,.own l,i6 I,.int .u64 J,i6 m,.bool n,.bool o])=>bif qb [p,q,r,t,v,x,z,B,D,E,b,d,f,g,i,j,k,l] [0,0,0,1,2,11,38,39,0,194,1,3,2,5,3,3,1,2] then iter (S_number_GetId_452_0 fuel) fuel (u,w,y,A,C,F,G,H,I,J,m,n,o,e,h) (E241_452_0 K) else none | _=>none) | _=>none) | none=>none
theorem B241_452_0_ok (fuel:Nat) (st:Ev.St) (K:KT) (r:Ans) (h:B241_452_0 fuel st K=some r):evalCode tab (G241_452 fuel) J0 kp241_452 fuel (.block 0 (.loop (bodyOf 0 Tryz.f241))) st K=some r:=by
  unfold B241_452_0 at h
  split at h
  · rename_i s hs
    split at h
    · skip
      split at h
      rotate_left 1
      · cases h
      rename_i hsp
      have esp:=splitRun_eq hsp
      subst esp
      obtain ⟨hb,h⟩:=cond_some' h
      cases qb_eq hb
      exact blk_loop (S:=T241_452_0) (ks:=E241_452_0) (step:=S_number_GetId_452_0 fuel) (v:=(_,_,_,_,_,_,_,_,_,_,_,_,_,_,_)) (by kernel_rfl) (by kernel_rfl) (fun R K v=>by obtain ⟨f,g,i,j,k,l,m,n,o,p,a,b,c,d,e⟩:=v; exact S241_452_0_okg fuel (F_coder_Decoder_Get_aa3 fuel) (F_coder_Decoder_Model_40a fuel) (F_number_fits fuel) R K f g i j k l m n o p a b c d e) hs h
    · cases h
  · cases h
def J241_452 (fuel:Nat) (i:Nat):Option Ev.Blk:=Ev.look i [(100000,B241_452_0 fuel)]
def Fg_number_GetId_452 (fuel:Nat) (z:YF146_aa3) (A:YF147_40a) (F:YF170) (y a:Int) (R S:Int) (T U:Int) (V W:Int) (X Y:Bool) (P Q:LI) (k0:(Int×Int×Int×Int×Int×Int×Int×Int×Bool×Bool×LI×LI)→OA):OA:=(z ((-1:Int)) R S T U V W X Y P Q (fun (Z,v,d,e,f,g,h,i,j,k,b,c)=>bif v==7 then k0 (0,v,d,e,f,g,h,i,j,k,b,c) else bif decide (a < 0) then k0 (0,2,d,e,f,g,h,i,j,k,b,c) else bif decide (a > 10) then k0 (0,2,d,e,f,g,h,i,j,k,b,c) else bif decide (a < 0) then none else (A d e f g h i j k b c (fun (C,m,n,o,p,q,r,s,t,u,l,B)=>(F C B y (i64.wrap (Ev.ishl IntKind.i64 1 a - 1)) (fun x=>bif x != 0 then k0 (0,x,m,n,o,p,q,r,s,t,u,l) else (L_number_GetId_452_0 fuel (y,a,1,a,0,m,n,o,p,q,r,s,t,u,l) (fun (ret0_0,ret0_1,ret0_2,ret0_3,ret0_4,ret0_5,ret0_6,ret0_7,ret0_8,ret0_9,ret0_10,ret0_11)=>k0 (ret0_0,ret0_1,ret0_2,ret0_3,ret0_4,ret0_5,ret0_6,ret0_7,ret0_8,ret0_9,ret0_10,ret0_11)) (fun (w,G,H,I,J,K,L,M,N,O,D,E)=>bif decide (w < 0) then none else k0 (i64.wrap (G - Ev.ishl IntKind.i64 1 w),0,H,I,J,K,L,M,N,O,D,E)))))))))
abbrev YF241_452:Type:=Int→Int→Int→Int→Int→Int→Int→Int→Bool→Bool→LI→LI→((Int×Int×Int×Int×Int×Int×Int×Int×Bool×Bool×LI×LI)→Option Ans)→Option Ans
def F_number_GetId_452 (fuel:Nat):YF241_452:=Fg_number_GetId_452 fuel (F_coder_Decoder_Get_aa3 fuel) (F_coder_Decoder_Model_40a fuel) (F_number_fits fuel)
theorem F241_452_eqg (fuel:Nat) (a:YF146_aa3) (b:YF147_40a) (d:YF170) (g h:Int) (i j:Int) (l m:Int) (n o:Int) (p q:Bool) (e f:LI) (k:Ev.Cont):evalFn tab (Gg241_452 a b d) (J241_452 fuel) kp241_452 fuel Tryz.f241 [.c (.ptr 0 0),.c (i6 g),.c (i6 h)] [.cells 194 (i6 i::.own 1::ctb (.int .u64 j::.int .u64 l::.own 2::i6 m::.int .u64 n::i6 o::.bool p::.bool q::[])),.vec 3 (.int .i64) e false,.vec 5 (.int .u8) f false] k=Fg_number_GetId_452 fuel a b d g h i j l m n o p q e f (fun r=>match r with | (u,v,w,x,y,z,A,B,C,D,s,t)=>k (.tup [(false,[i6 u]),(false,[i6 v])],[.cells 194 (i6 w::.own 1::ctb (.int .u64 x::.int .u64 y::.own 2::i6 z::.int .u64 A::i6 B::.bool C::.bool D::[])),.vec 3 (.int .i64) s false,.vec 5 (.int .u8) t false])):=by
  kernel_rfl
theorem hG241_452 (fuel:Nat):GOK Tryz.prog (G241_452 fuel):=
  gc (ok146_aa3 fuel) Tryz.func146 (by kernel_rfl) rfl <|
  gc (ok147_40a fuel) Tryz.func147 (by kernel_rfl) rfl <|
  gc (ok170 fuel) Tryz.func170 (by kernel_rfl) rfl <|
  gok_nil
theorem B241_452_0_blk (fuel:Nat):BlkOK Tryz.prog Tryz.f241.ntmps (.block 0 (.loop (bodyOf 0 Tryz.f241))) (B241_452_0 fuel):=bo0 (hG241_452 fuel) (by kernel_rfl) (by kernel_rfl) (B241_452_0_ok fuel)
def spg241_452 (F:YF241_452):Ev.Spec:=fun args objs k=>match args,objs with | [.c (.ptr g h),.c (i6 i),.c (i6 j)],[.cells l a,.vec m (.int .i64) b false,.vec n (.int .u8) d false]=>(match splitRun 2 ctn a with | some ([i6 o,.own p],[.int .u64 q,.int .u64 s,.own t,i6 u,.int .u64 v,i6 w,.bool x,.bool y])=>bif qb [g,h,l,m,n,p,t] [0,0,194,3,5,1,2] then F i j o q s u v w x y b d (fun r=>match r with | (z,A,B,C,D,E,G,H,I,J,e,f)=>k (.tup [(false,[i6 z]),(false,[i6 A])],[.cells 194 (i6 B::.own 1::ctb (.int .u64 C::.int .u64 D::.own 2::i6 E::.int .u64 G::i6 H::.bool I::.bool J::[])),.vec 3 (.int .i64) e false,.vec 5 (.int .u8) f false])) else none | _=>none) | _,_=>none
def spec241_452 (fuel:Nat):Ev.Spec:=spg241_452 (F_number_GetId_452 fuel)
theorem ok241_452 (fuel:Nat):FnOK Tryz.prog 241 (spec241_452 fuel):=by
  intro args objs kk r h
  unfold spec241_452 spg241_452 at h
  split at h
  · skip
    split at h
    rotate_left 1
    · cases h
    rename_i hsp
    have esp:=splitRun_eq hsp
    subst esp
    obtain ⟨hb,h⟩:=cond_some' h
    cases qb_eq hb
    exact fo1 (hG241_452 fuel) Tryz.func241 rfl (B241_452_0_blk fuel) (by kernel_rfl) _ _ kk r ((F241_452_eqg fuel (F_coder_Decoder_Get_aa3 fuel) (F_coder_Decoder_Model_40a fuel) (F_number_fits fuel) _ _ _ _ _ _ _ _ _ _ _ _ kk).trans h)
  · cases h
def fns22:List (Nat×Func):=[(22,Tryz.f22),(23,Tryz.f23),(26,Tryz.f26),(28,Tryz.f28),(31,Tryz.f31),(35,Tryz.f35),(38,Tryz.f38),(72,Tryz.f72),(73,Tryz.f73),(74,Tryz.f74),(75,Tryz.f75),(76,Tryz.f76),(77,Tryz.f77),(79,Tryz.f79),(80,Tryz.f80),(91,Tryz.f91),(92,Tryz.f92),(93,Tryz.f93),(94,Tryz.f94),(95,Tryz.f95),(102,Tryz.f102),(104,Tryz.f104),(105,Tryz.f105),(122,Tryz.f122),(158,Tryz.f158),(159,Tryz.f159),(160,Tryz.f160),(161,Tryz.f161),(162,Tryz.f162),(163,Tryz.f163),(164,Tryz.f164),(167,Tryz.f167),(168,Tryz.f168),(190,Tryz.f190),(191,Tryz.f191),(194,Tryz.f194),(195,Tryz.f195),(212,Tryz.f212),(226,Tryz.f226),(227,Tryz.f227),(228,Tryz.f228),(229,Tryz.f229),(230,Tryz.f230),(231,Tryz.f231),(232,Tryz.f232),(233,Tryz.f233),(234,Tryz.f234),(235,Tryz.f235),(242,Tryz.f242),(249,Tryz.f249),(250,Tryz.f250),(251,Tryz.f251),(255,Tryz.f255),(1000231,Tryz.f231)]
def kpt22:List (Nat×List (Nat×List Nat)):=[(22,[(200003,[1]),(200004,[1])]),(23,[(12,[2,3,13,15,16,17]),(19,[2,3,13,15,16,17,18,19,20]),(100000,[13]),(100002,[2,3,13,15,16,17]),(200013,[2,3]),(200016,[2]),(200019,[3]),(200022,[2,3]),(400000,[6,7]),(400002,[6,7])]),(26,[(11,[2,4,16,17,18]),(100000,[16]),(200019,[16]),(400000,[8,9])]),(28,[(4,[0,1,12,13]),(100000,[]),(200006,[0,1]),(400000,[4])]),(38,[(4,[2,3,29,30]),(100000,[]),(200006,[2,3]),(400000,[4])]),(74,[(2,[0,1,5]),(100000,[]),(200004,[0]),(400000,[4])]),(75,[(200001,[2,3,4])]),(80,[(200002,[3]),(200003,[0,3]),(200008,[0,3]),(200013,[0,3,4])]),(95,[(2,[0,1,6,1000002]),(100000,[]),(200005,[0,7]),(400000,[])]),(105,[(5,[2,6,8,9,34,35]),(100000,[6,8,9]),(400000,[6,7])]),(122,[(4,[23,24,25]),(100000,[]),(400000,[2])]),(167,[(11,[0,1,7,8,11,52,53,1000002]),(20,[0,1,7,8,11,12,13,52,53,75,76,1000002]),(100001,[]),(100003,[0,1,7,8,11,52,53]),(200007,[7]),(400001,[10]),(400003,[10])]),(191,[(200004,[0]),(200013,[])]),(194,[(2,[0,1,7,8]),(100000,[]),(400000,[4])]),(226,[(2,[0,1,7,8]),(100000,[]),(400000,[4])]),(227,[(2,[0,1,7,8]),(100000,[]),(400000,[4])]),(230,[(200001,[3,5])]),(232,[(2,[0,1,12,13]),(100000,[]),(400000,[4])]),(233,[(3,[0,1,2,8,29]),(100000,[8]),(200001,[0]),(200005,[0]),(400000,[6,7])]),(234,[(3,[0,1,2,7,17,18,19]),(8,[0,1,2,7,41,42,43]),(100000,[0,1,2,7]),(100002,[7]),(200005,[0,9]),(200010,[0,11]),(400000,[6]),(400002,[6])]),(242,[(200000,[0,1]),(200007,[0,1,4])]),(251,[(13,[0,1,3,4,12,18,64,65]),(100000,[3,4,12,18]),(200009,[8]),(200011,[8,11]),(400000,[12,13])]),(255,[(8,[0,1,2,3,9,44,45]),(100000,[]),(400000,[8])])]
def kpa22 (f i:Nat):Option (List Nat):=match Ev.look f kpt22 with | some l=>Ev.look i l | none=>none
def ext22 (f:Nat):Option Ev.Spec:=Ev.look f [(48,spec48 100000),(49,spec49 100000),(52,spec52_a20 100000),(65,spec65 100000),(78,spec78 100000),(81,spec81_856 100000),(121,spec121_cf0 100000),(126,spec126_a20 100000),(146,spec146_aa3 100000),(147,spec147_40a 100000),(166,spec166_b82 100000),(189,spec189_aa3 100000),(241,spec241_452 100000)]
theorem ext22_ok:GOK Tryz.prog ext22:=
  gok_cons ⟨ok48 100000,enters_of Tryz.func48 (by kernel_rfl) rfl⟩ <|
  gok_cons ⟨ok49 100000,enters_of Tryz.func49 (by kernel_rfl) rfl⟩ <|
  gok_cons ⟨ok52_a20 100000,enters_of Tryz.func52 (by kernel_rfl) rfl⟩ <|
  gok_cons ⟨ok65 100000,enters_of Tryz.func65 (by kernel_rfl) rfl⟩ <|
  gok_cons ⟨ok78 100000,enters_of Tryz.func78 (by kernel_rfl) rfl⟩ <|
  gok_cons ⟨ok81_856 100000,enters_of Tryz.func81 (by kernel_rfl) rfl⟩ <|
  gok_cons ⟨ok121_cf0 100000,enters_of Tryz.func121 (by kernel_rfl) rfl⟩ <|
  gok_cons ⟨ok126_a20 100000,enters_of Tryz.func126 (by kernel_rfl) rfl⟩ <|
  gok_cons ⟨ok146_aa3 100000,enters_of Tryz.func146 (by kernel_rfl) rfl⟩ <|
  gok_cons ⟨ok147_40a 100000,enters_of Tryz.func147 (by kernel_rfl) rfl⟩ <|
  gok_cons ⟨ok166_b82 100000,enters_of Tryz.func166 (by kernel_rfl) rfl⟩ <|
  gok_cons ⟨ok189_aa3 100000,enters_of Tryz.func189 (by kernel_rfl) rfl⟩ <|
  gok_cons ⟨ok241_452 100000,enters_of Tryz.func241 (by kernel_rfl) rfl⟩ <|
  gok_nil
theorem fns22_ok:Fns Tryz.prog fns22:=
  fns_cons Tryz.func22 <|
  fns_cons Tryz.func23 <|
  fns_cons Tryz.func26 <|
  fns_cons Tryz.func28 <|
  fns_cons Tryz.func31 <|
  fns_cons Tryz.func35 <|
  fns_cons Tryz.func38 <|
  fns_cons Tryz.func72 <|
  fns_cons Tryz.func73 <|
  fns_cons Tryz.func74 <|
  fns_cons Tryz.func75 <|
  fns_cons Tryz.func76 <|
  fns_cons Tryz.func77 <|
  fns_cons Tryz.func79 <|
  fns_cons Tryz.func80 <|
  fns_cons Tryz.func91 <|
  fns_cons Tryz.func92 <|
  fns_cons Tryz.func93 <|
  fns_cons Tryz.func94 <|
  fns_cons Tryz.func95 <|
  fns_cons Tryz.func102 <|
  fns_cons Tryz.func104 <|
  fns_cons Tryz.func105 <|
  fns_cons Tryz.func122 <|
  fns_cons Tryz.func158 <|
  fns_cons Tryz.func159 <|
  fns_cons Tryz.func160 <|
  fns_cons Tryz.func161 <|
  fns_cons Tryz.func162 <|
  fns_cons Tryz.func163 <|
  fns_cons Tryz.func164 <|
  fns_cons Tryz.func167 <|
  fns_cons Tryz.func168 <|
  fns_cons Tryz.func190 <|
  fns_cons Tryz.func191 <|
  fns_cons Tryz.func194 <|
  fns_cons Tryz.func195 <|
  fns_cons Tryz.func212 <|
  fns_cons Tryz.func226 <|
  fns_cons Tryz.func227 <|
  fns_cons Tryz.func228 <|
  fns_cons Tryz.func229 <|
  fns_cons Tryz.func230 <|
  fns_cons Tryz.func231 <|
  fns_cons Tryz.func232 <|
  fns_cons Tryz.func233 <|
  fns_cons Tryz.func234 <|
  fns_cons Tryz.func235 <|
  fns_cons Tryz.func242 <|
  fns_cons Tryz.func249 <|
  fns_cons Tryz.func250 <|
  fns_cons Tryz.func251 <|
  fns_cons Tryz.func255 <|
  fns_cons Tryz.func231 <|
  fns_nil
def evs22:Nat→Option Ev.Spec:=evs tab fns22 kpa22 100000 ext22 60
theorem evs22_ok:GOK Tryz.prog evs22:=evs_ok tab_ok mixed fns22_ok (by kernel_rfl) ext22_ok 60
theorem aw22_eq:evalFn tab evs22 (fun _=>none) (kpa22 22) 100000 Tryz.f22 [] [] trueR=some ():=by
  kernel_rfl
def F_law10_Awake (fuel:Nat) (k0:(Bool)→Option Ans):Option Ans:=k0 true
abbrev YF22:Type:=(Bool→Option Ans)→Option Ans
def spg22 (F:YF22):Ev.Spec:=fun args objs k=>match args,objs with | [],[]=>F (fun r=>k (.c (.bool r),[])) | _,_=>none
def spec22 (fuel:Nat):Ev.Spec:=spg22 (F_law10_Awake fuel)
theorem ok22 (fuel:Nat):FnOK Tryz.prog 22 (spec22 fuel):=by
  intro args objs kk r h
  unfold spec22 spg22 at h
  split at h
  · exact true_ok (fn_ok (fuel:=100000) tab_ok evs22_ok mixed Tryz.func22 (kp:=kpa22 22) (J:=fun _=>none) (c:=(Tryz.f22.body).getD .skip) rfl (fun q hq=>by rw [obl_none] at hq; cases hq)) aw22_eq h
  · cases h
def kp21 (i:Nat):Option (List Nat):=Ev.look i []
def Gg21 (f:Nat):Option Ev.Spec:=Ev.look f []
def G21 (fuel:Nat):Nat→Option Ev.Spec:=Gg21
def F_law10_long (fuel:Nat) (a:(List (Int×Int×(List Int)))) (b:(List (Int×Int×Int×Bool×Int×Int×(Int×Int×(List Int))))) (k0:(Bool)→Option Ans):Option Ans:=bif decide ((↑a.length:Int) > 120) then k0 true else k0 (decide ((↑b.length:Int) > 600))
abbrev YF21:Type:=((List (Int×Int×LI)))→((List (Int×Int×Int×Bool×Int×Int×(Int×Int×LI))))→(Bool→Option Ans)→Option Ans
theorem F21_eq (fuel:Nat) (a:(List (Int×Int×LI))) (b:(List (Int×Int×Int×Bool×Int×Int×(Int×Int×LI)))) (k:Ev.Cont):evalFn tab (G21 fuel) J0 kp21 fuel Tryz.f21 [.c (.sl (.pair (.int .i64) (.pair (.int .i64) (.sl (.int .u8)))) a),.c (.sl (.pair (.int .i64) (.pair (.int .i64) (.pair (.int .i64) (.pair .bool (.pair (.int .i64) (.pair (.int .i64) (.pair (.int .i64) (.pair (.int .i64) (.sl (.int .u8)))))))))) b)] [] k=F_law10_long fuel a b (fun r=>match r with | d=>k (.c (.bool d),[])):=by
  kernel_rfl
theorem hG21 (fuel:Nat):GOK Tryz.prog (G21 fuel):=
  gok_nil
def spg21 (F:YF21):Ev.Spec:=fun args objs k=>match args,objs with | [.c (.sl (.pair (.int .i64) (.pair (.int .i64) (.sl (.int .u8)))) a),.c (.sl (.pair (.int .i64) (.pair (.int .i64) (.pair (.int .i64) (.pair .bool (.pair (.int .i64) (.pair (.int .i64) (.pair (.int .i64) (.pair (.int .i64) (.sl (.int .u8)))))))))) b)],[]=>F a b (fun r=>match r with | d=>k (.c (.bool d),[])) | _,_=>none
theorem ok21 (fuel:Nat):FnOK Tryz.prog 21 (spg21 (F_law10_long fuel)):=by
  intro args objs kk r h
  unfold spg21 at h
  split at h
  · skip
    exact fo0 (hG21 fuel) Tryz.func21 rfl (by kernel_rfl) _ _ kk r ((F21_eq fuel _ _ kk).trans h)
  · cases h
def kp25 (i:Nat):Option (List Nat):=Ev.look i [(4,[0,1,12,13]),(100000,[]),(200006,[0,1]),(400000,[4])]
def Gg25 (f:Nat):Option Ev.Spec:=Ev.look f []
def G25 (fuel:Nat):Nat→Option Ev.Spec:=Gg25
def S_ref02_SameBytes_0 (fuel:Nat) (v:(List Int)×(List Int)×Int×Int) (c:((List Int)×(List Int)×Int×Int)→Option Ans) (B:(Bool→Option Ans)×(Unit→Option Ans)):Option Ans:=match v,B with | (d,e,f,a),(ret,b)=>bif decide (a < f) then bif decide ((0:Int)≤a∧a < (↑d.length:Int)) then bif decide ((0:Int)≤a∧a < (↑e.length:Int)) then bif d.getD a.toNat (0:Int) != e.getD a.toNat (0:Int) then ret false else c (d,e,f,i64.wrap (a+(1:Int))) else none else none else b ()
def L_ref02_SameBytes_0 (fuel:Nat) (v:(List Int)×(List Int)×Int×Int) (ret:(Bool→Option Ans)) (b:(Unit→Option Ans)):Option Ans:=iter (S_ref02_SameBytes_0 fuel) fuel v (ret,b)
def T25_0 (v:LI×LI×Int×Int):Ev.St:=match v with | (a,b,d,e)=>⟨[(0,.c (.sl (.int .u8) a)),(1,.c (.sl (.int .u8) b)),(12,.c (i6 d)),(13,.c (i6 e))],[],0,0⟩
def E25_0 (K:KT):(Bool→OA)×(Unit→OA):=((fun v=>match v with | a=>K .ret ⟨[(4,.c (.bool a))],[],0,0⟩),(fun v=>match v with | ()=>K .normal ⟨[],[],0,0⟩))
theorem S25_0_ok (fuel:Nat) (R:Ev.St→OA) (K:KT) (a b:LI) (c d:Int):evalCode tab (G25 fuel) J0 kp25 fuel (bodyOf 0 Tryz.f25) (T25_0 (a,b,c,d)) (lc kp25 4 0 R K)=S_ref02_SameBytes_0 fuel (a,b,c,d) (fun v=>R (T25_0 v)) (E25_0 K):=by
  kernel_rfl
def B25_0 (fuel:Nat):Ev.Blk:=fun st K=>match canonO (kp25 4) st with | some s=>(match s with | ⟨[(a,.c (.sl (.int .u8) b)),(d,.c (.sl (.int .u8) e)),(f,.c (i6 g)),(h,.c (i6 i))],[],j,k⟩=>bif qb [a,d,f,h,j,k] [0,1,12,13,0,0] then iter (S_ref02_SameBytes_0 fuel) fuel (b,e,g,i) (E25_0 K) else none | _=>none) | none=>none
theorem B25_0_ok (fuel:Nat) (st:Ev.St) (K:KT) (r:Ans) (h:B25_0 fuel st K=some r):evalCode tab (G25 fuel) J0 kp25 fuel (.block 0 (.loop (bodyOf 0 Tryz.f25))) st K=some r:=by
  unfold B25_0 at h
  split at h
  · rename_i s hs
    split at h
    · skip
      obtain ⟨hb,h⟩:=cond_some' h
      cases qb_eq hb
      exact blk_loop (S:=T25_0) (ks:=E25_0) (step:=S_ref02_SameBytes_0 fuel) (v:=(_,_,_,_)) (by kernel_rfl) (by kernel_rfl) (fun R K v=>by obtain ⟨a,b,c,d⟩:=v; exact S25_0_ok fuel R K a b c d) hs h
    · cases h
  · cases h
def J25 (fuel:Nat) (i:Nat):Option Ev.Blk:=Ev.look i [(100000,B25_0 fuel)]
def F_ref02_SameBytes (fuel:Nat) (a b:(List Int)) (k0:(Bool)→Option Ans):Option Ans:=bif (↑a.length:Int) != (↑b.length:Int) then k0 false else (L_ref02_SameBytes_0 fuel (a,b,(↑a.length:Int),0) (fun ret0_0=>k0 ret0_0) (fun ()=>k0 true))
abbrev YF25:Type:=LI→LI→(Bool→Option Ans)→Option Ans
theorem F25_eq (fuel:Nat) (a b:LI) (k:Ev.Cont):evalFn tab (G25 fuel) (J25 fuel) kp25 fuel Tryz.f25 [.c (.sl (.int .u8) a),.c (.sl (.int .u8) b)] [] k=F_ref02_SameBytes fuel a b (fun r=>match r with | d=>k (.c (.bool d),[])):=by
  kernel_rfl
theorem hG25 (fuel:Nat):GOK Tryz.prog (G25 fuel):=
  gok_nil
theorem B25_0_blk (fuel:Nat):BlkOK Tryz.prog Tryz.f25.ntmps (.block 0 (.loop (bodyOf 0 Tryz.f25))) (B25_0 fuel):=bo0 (hG25 fuel) (by kernel_rfl) (by kernel_rfl) (B25_0_ok fuel)
def spg25 (F:YF25):Ev.Spec:=fun args objs k=>match args,objs with | [.c (.sl (.int .u8) a),.c (.sl (.int .u8) b)],[]=>F a b (fun r=>match r with | d=>k (.c (.bool d),[])) | _,_=>none
theorem ok25 (fuel:Nat):FnOK Tryz.prog 25 (spg25 (F_ref02_SameBytes fuel)):=by
  intro args objs kk r h
  unfold spg25 at h
  split at h
  · skip
    exact fo1 (hG25 fuel) Tryz.func25 rfl (B25_0_blk fuel) (by kernel_rfl) _ _ kk r ((F25_eq fuel _ _ kk).trans h)
  · cases h
def kp144 (i:Nat):Option (List Nat):=Ev.look i [(3,[1,3,4]),(100000,[3]),(400000,[2])]
def Gg144 (f:Nat):Option Ev.Spec:=Ev.look f []
def G144 (fuel:Nat):Nat→Option Ev.Spec:=Gg144
def S_ref02_Interval_End_0 (fuel:Nat) (v:Int×Int×Int×(List Int)) (c:(Int×Int×Int×(List Int))→Option Ans) (B:((List Int)→Option Ans)):Option Ans:=match v,B with | (e,f,d,a),b=>bif decide (e < f) then bif decide (i64.wrap ((24:Int) - i64.wrap ((8:Int)*(↑a.length:Int))) < (0:Int)) then none else bif decide ((a.length+ [u8.wrap (Ev.ishr IntKind.u64 d (i64.wrap ((24:Int) - i64.wrap ((8:Int)*(↑a.length:Int)))))].length)*(1:Nat)≤(140737488355328:Nat)∧a.length+ [u8.wrap (Ev.ishr IntKind.u64 d (i64.wrap ((24:Int) - i64.wrap ((8:Int)*(↑a.length:Int)))))].length≤(140737488355328:Nat)) then bif decide (i64.wrap ((24:Int) - i64.wrap ((8:Int)*(↑a.length:Int))) < (0:Int)) then none else bif decide (i64.wrap ((24:Int) - i64.wrap ((8:Int)*(↑a.length:Int))) < (0:Int)) then none else c (u64.wrap (e+Ev.ishl IntKind.u64 ((Ev.ishr IntKind.u64 d (i64.wrap ((24:Int) - i64.wrap ((8:Int)*(↑a.length:Int))))).tmod (256:Int)) (i64.wrap ((24:Int) - i64.wrap ((8:Int)*(↑a.length:Int))))),f,d,a++ [u8.wrap (Ev.ishr IntKind.u64 d (i64.wrap ((24:Int) - i64.wrap ((8:Int)*(↑a.length:Int)))))]) else none else b a
def L_ref02_Interval_End_0 (fuel:Nat) (v:Int×Int×Int×(List Int)) (b:((List Int)→Option Ans)):Option Ans:=iter (S_ref02_Interval_End_0 fuel) fuel v b
def T144_0 (v:Int×Int×Int×LI):Ev.St:=match v with | (a,b,d,e)=>⟨[(1,.c (.ptr 0 0)),(3,.c (.own 1)),(4,.c (.int .u64 a))],[(0,.cells 184 [.int .u64 b,.int .u64 d]),(1,.vec 5 (.int .u8) e true)],2,0⟩
def E144_0 (K:KT):(LI→OA):=(fun v=>match v with | a=>K .normal ⟨[(3,.c (.own 0))],[(0,.vec 5 (.int .u8) a true)],1,0⟩)
theorem S144_0_ok (fuel:Nat) (R:Ev.St→OA) (K:KT) (a b c:Int) (d:LI):evalCode tab (G144 fuel) J0 kp144 fuel (bodyOf 0 Tryz.f144) (T144_0 (a,b,c,d)) (lc kp144 3 0 R K)=S_ref02_Interval_End_0 fuel (a,b,c,d) (fun v=>R (T144_0 v)) (E144_0 K):=by
  kernel_rfl
def B144_0 (fuel:Nat):Ev.Blk:=fun st K=>match canonO (kp144 3) st with | some s=>(match s with | ⟨[(d,.c (.ptr e f)),(g,.c (.own h)),(i,.c (.int .u64 j))],[(k,.cells l [.int .u64 m,.int .u64 n]),(o,.vec p (.int .u8) q true)],a,b⟩=>bif qb [d,e,f,g,h,i,k,l,o,p,a,b] [1,0,0,3,1,4,0,184,1,5,2,0] then iter (S_ref02_Interval_End_0 fuel) fuel (j,m,n,q) (E144_0 K) else none | _=>none) | none=>none
theorem B144_0_ok (fuel:Nat) (st:Ev.St) (K:KT) (r:Ans) (h:B144_0 fuel st K=some r):evalCode tab (G144 fuel) J0 kp144 fuel (.block 0 (.loop (bodyOf 0 Tryz.f144))) st K=some r:=by
  unfold B144_0 at h
  split at h
  · rename_i s hs
    split at h
    · skip
      obtain ⟨hb,h⟩:=cond_some' h
      cases qb_eq hb
      exact blk_loop (S:=T144_0) (ks:=E144_0) (step:=S_ref02_Interval_End_0 fuel) (v:=(_,_,_,_)) (by kernel_rfl) (by kernel_rfl) (fun R K v=>by obtain ⟨a,b,c,d⟩:=v; exact S144_0_ok fuel R K a b c d) hs h
    · cases h
  · cases h
def J144 (fuel:Nat) (i:Nat):Option Ev.Blk:=Ev.look i [(100000,B144_0 fuel)]
def F_ref02_Interval_End (fuel:Nat) (b c:Int) (k0:((List Int))→Option Ans):Option Ans:=(L_ref02_Interval_End_0 fuel (0,b,c,[]) (fun a=>k0 a))
abbrev YF144:Type:=Int→Int→(LI→Option Ans)→Option Ans
theorem F144_eq (fuel:Nat) (a b:Int) (k:Ev.Cont):evalFn tab (G144 fuel) (J144 fuel) kp144 fuel Tryz.f144 [.agg [.int .u64 a,.int .u64 b]] [] k=F_ref02_Interval_End fuel a b (fun r=>match r with | d=>k (.c (.own 0),[.vec 5 (.int .u8) d true])):=by
  kernel_rfl
theorem hG144 (fuel:Nat):GOK Tryz.prog (G144 fuel):=
  gok_nil
theorem B144_0_blk (fuel:Nat):BlkOK Tryz.prog Tryz.f144.ntmps (.block 0 (.loop (bodyOf 0 Tryz.f144))) (B144_0 fuel):=bo0 (hG144 fuel) (by kernel_rfl) (by kernel_rfl) (B144_0_ok fuel)
def spg144 (F:YF144):Ev.Spec:=fun args objs k=>match args,objs with | [.agg [.int .u64 a,.int .u64 b]],[]=>F a b (fun r=>match r with | d=>k (.c (.own 0),[.vec 5 (.int .u8) d true])) | _,_=>none
theorem ok144 (fuel:Nat):FnOK Tryz.prog 144 (spg144 (F_ref02_Interval_End fuel)):=by
  intro args objs kk r h
  unfold spg144 at h
  split at h
  · skip
    exact fo1 (hG144 fuel) Tryz.func144 rfl (B144_0_blk fuel) (by kernel_rfl) _ _ kk r ((F144_eq fuel _ _ kk).trans h)
  · cases h
def kp62_2fe (i:Nat):Option (List Nat):=Ev.look i [(200003,[0])]
def Gg62_2fe (a:YF144) (f:Nat):Option Ev.Spec:=Ev.look f [(144,spg144 a)]
def G62_2fe (fuel:Nat):Nat→Option Ev.Spec:=Gg62_2fe (F_ref02_Interval_End fuel)
def Fg_ref02_Encoder_End_2fe (fuel:Nat) (e:YF144) (f c d:Int) (g a:LI) (k0:(Int×Int×Int×LI×LI×LI)→OA):OA:=bif decide (((0:Nat)+a.length)*(1:Nat)≤(140737488355328:Nat)∧(0:Nat)+a.length≤(140737488355328:Nat)) then (e c d (fun b=>bif decide ((([]++a).length+b.length)*(1:Nat)≤(140737488355328:Nat)∧([]++a).length+b.length≤(140737488355328:Nat)) then k0 (f,c,d,g,a,[]++a++b) else none)) else none
abbrev YF62_2fe:Type:=Int→Int→Int→LI→LI→((Int×Int×Int×LI×LI×LI)→Option Ans)→Option Ans
def F_ref02_Encoder_End_2fe (fuel:Nat):YF62_2fe:=Fg_ref02_Encoder_End_2fe fuel (F_ref02_Interval_End fuel)
theorem F62_2fe_eqg (fuel:Nat) (a:YF144) (b d e:Int) (f g:LI) (k:Ev.Cont):evalFn tab (Gg62_2fe a) J0 kp62_2fe fuel Tryz.f62 [.c (.ptr 0 0)] [.cells 187 [i6 b,.own 1,.int .u64 d,.int .u64 e,.own 2],.vec 3 (.int .i64) f false,.vec 5 (.int .u8) g false] k=Fg_ref02_Encoder_End_2fe fuel a b d e f g (fun r=>match r with | (h,i,j,l,m,n)=>k (.c (.own 3),[.cells 187 [i6 h,.own 1,.int .u64 i,.int .u64 j,.own 2],.vec 3 (.int .i64) l false,.vec 5 (.int .u8) m false,.vec 5 (.int .u8) n true])):=by
  kernel_rfl
theorem hG62_2fe (fuel:Nat):GOK Tryz.prog (G62_2fe fuel):=
  gc (ok144 fuel) Tryz.func144 (by kernel_rfl) rfl <|
  gok_nil
def spg62_2fe (F:YF62_2fe):Ev.Spec:=fun args objs k=>match args,objs with | [.c (.ptr a b)],[.cells d [i6 e,.own f,.int .u64 g,.int .u64 h,.own i],.vec j (.int .i64) l false,.vec m (.int .u8) n false]=>bif qb [a,b,d,f,i,j,m] [0,0,187,1,2,3,5] then F e g h l n (fun r=>match r with | (o,p,q,s,t,u)=>k (.c (.own 3),[.cells 187 [i6 o,.own 1,.int .u64 p,.int .u64 q,.own 2],.vec 3 (.int .i64) s false,.vec 5 (.int .u8) t false,.vec 5 (.int .u8) u true])) else none | _,_=>none
theorem ok62_2fe (fuel:Nat):FnOK Tryz.prog 62 (spg62_2fe (F_ref02_Encoder_End_2fe fuel)):=by
  intro args objs kk r h
  unfold spg62_2fe at h
  split at h
  · skip
    obtain ⟨hb,h⟩:=cond_some' h
    cases qb_eq hb
    exact fo0 (hG62_2fe fuel) Tryz.func62 rfl (by kernel_rfl) _ _ kk r ((F62_2fe_eqg fuel (F_ref02_Interval_End fuel) _ _ _ _ _ kk).trans h)
  · cases h
def kp181 (i:Nat):Option (List Nat):=Ev.look i []
def Gg181 (f:Nat):Option Ev.Spec:=Ev.look f []
def G181 (fuel:Nat):Nat→Option Ev.Spec:=Gg181
def F_ref02_After (fuel:Nat) (c b a:Int) (k0:(Int)→Option Ans):Option Ans:=bif c==0 then bif a==i64.wrap (b.tdiv 32) then k0 (i64.wrap (i64.wrap ((32:Int)*i64.wrap (b.tdiv (32:Int)))+bif decide ((31:Int) < i64.wrap (b.tmod (32:Int)+(1:Int))) then (31:Int) else i64.wrap (b.tmod (32:Int)+(1:Int)))) else bif b.tmod (32:Int)==(0:Int) then k0 (i64.wrap (32*a)) else k0 (i64.wrap (i64.wrap (i64.wrap (i64.wrap (32*i64.wrap (b.tdiv 32))+b.tmod 32) - 1) - i64.wrap ((b.tmod 32).tdiv 4))) else bif decide (0≤a∧a < (↑(2:Nat):Int)) then bif decide (a=(↑(0:Nat):Int)) then bif i64.wrap (b.tdiv 256)==255 then bif decide (0≤a∧a < (↑(2:Nat):Int)) then bif decide (a=(↑(0:Nat):Int)) then bif decide (0≤a∧a < (↑(2:Nat):Int)) then bif decide (a=(↑(0:Nat):Int)) then k0 (i64.wrap (i64.wrap (256*i64.wrap (i64.wrap ((i64.wrap (b.tdiv 256)).tdiv 2)+1))+i64.wrap ((b.tmod 256).tdiv 2))) else bif decide (a=(↑(1:Nat):Int)) then k0 (i64.wrap (i64.wrap (256*i64.wrap ((i64.wrap (b.tdiv 256)).tdiv 2))+i64.wrap (i64.wrap ((i64.wrap (b.tdiv 256)).tdiv 2)+1))) else none else none else bif decide (a=(↑(1:Nat):Int)) then bif decide (0≤a∧a < (↑(2:Nat):Int)) then bif decide (a=(↑(0:Nat):Int)) then k0 (i64.wrap (i64.wrap (256*i64.wrap (i64.wrap ((b.tmod 256).tdiv 2)+1))+i64.wrap ((b.tmod 256).tdiv 2))) else bif decide (a=(↑(1:Nat):Int)) then k0 (i64.wrap (i64.wrap (256*i64.wrap ((i64.wrap (b.tdiv 256)).tdiv 2))+i64.wrap (i64.wrap ((b.tmod 256).tdiv 2)+1))) else none else none else none else none else bif decide (0≤a∧a < (↑(2:Nat):Int)) then bif decide (a=(↑(0:Nat):Int)) then bif decide (0≤a∧a < (↑(2:Nat):Int)) then bif decide (a=(↑(0:Nat):Int)) then k0 (i64.wrap (i64.wrap (256*i64.wrap (i64.wrap (b.tdiv 256)+1))+b.tmod 256)) else bif decide (a=(↑(1:Nat):Int)) then k0 (i64.wrap (i64.wrap (256*i64.wrap (b.tdiv 256))+i64.wrap (i64.wrap (b.tdiv 256)+1))) else none else none else bif decide (a=(↑(1:Nat):Int)) then bif decide (0≤a∧a < (↑(2:Nat):Int)) then bif decide (a=(↑(0:Nat):Int)) then k0 (i64.wrap (i64.wrap ((256:Int)*i64.wrap (b.tmod (256:Int)+(1:Int)))+b.tmod (256:Int))) else bif decide (a=(↑(1:Nat):Int)) then k0 (i64.wrap (i64.wrap ((256:Int)*i64.wrap (b.tdiv (256:Int)))+i64.wrap (b.tmod (256:Int)+(1:Int)))) else none else none else none else none else bif decide (a=(↑(1:Nat):Int)) then bif b.tmod (256:Int)==(255:Int) then bif decide (0≤a∧a < (↑(2:Nat):Int)) then bif decide (a=(↑(0:Nat):Int)) then bif decide (0≤a∧a < (↑(2:Nat):Int)) then bif decide (a=(↑(0:Nat):Int)) then k0 (i64.wrap (i64.wrap (256*i64.wrap (i64.wrap ((i64.wrap (b.tdiv 256)).tdiv 2)+1))+i64.wrap ((b.tmod 256).tdiv 2))) else bif decide (a=(↑(1:Nat):Int)) then k0 (i64.wrap (i64.wrap (256*i64.wrap ((i64.wrap (b.tdiv 256)).tdiv 2))+i64.wrap (i64.wrap ((i64.wrap (b.tdiv 256)).tdiv 2)+1))) else none else none else bif decide (a=(↑(1:Nat):Int)) then bif decide (0≤a∧a < (↑(2:Nat):Int)) then bif decide (a=(↑(0:Nat):Int)) then k0 (i64.wrap (i64.wrap (256*i64.wrap (i64.wrap ((b.tmod 256).tdiv 2)+1))+i64.wrap ((b.tmod 256).tdiv 2))) else bif decide (a=(↑(1:Nat):Int)) then k0 (i64.wrap (i64.wrap (256*i64.wrap ((i64.wrap (b.tdiv 256)).tdiv 2))+i64.wrap (i64.wrap ((b.tmod 256).tdiv 2)+1))) else none else none else none else none else bif decide (0≤a∧a < (↑(2:Nat):Int)) then bif decide (a=(↑(0:Nat):Int)) then bif decide (0≤a∧a < (↑(2:Nat):Int)) then bif decide (a=(↑(0:Nat):Int)) then k0 (i64.wrap (i64.wrap (256*i64.wrap (i64.wrap (b.tdiv 256)+1))+b.tmod 256)) else bif decide (a=(↑(1:Nat):Int)) then k0 (i64.wrap (i64.wrap (256*i64.wrap (b.tdiv 256))+i64.wrap (i64.wrap (b.tdiv 256)+1))) else none else none else bif decide (a=(↑(1:Nat):Int)) then bif decide (0≤a∧a < (↑(2:Nat):Int)) then bif decide (a=(↑(0:Nat):Int)) then k0 (i64.wrap (i64.wrap ((256:Int)*i64.wrap (b.tmod (256:Int)+(1:Int)))+b.tmod (256:Int))) else bif decide (a=(↑(1:Nat):Int)) then k0 (i64.wrap (i64.wrap ((256:Int)*i64.wrap (b.tdiv (256:Int)))+i64.wrap (b.tmod (256:Int)+(1:Int)))) else none else none else none else none else none else none
abbrev YF181:Type:=Int→Int→Int→(Int→Option Ans)→Option Ans
theorem F181_eq (fuel:Nat) (a b d:Int) (k:Ev.Cont):evalFn tab (G181 fuel) J0 kp181 fuel Tryz.f181 [.c (i6 a),.c (i6 b),.c (i6 d)] [] k=F_ref02_After fuel a b d (fun r=>match r with | e=>k (.c (i6 e),[])):=by
  kernel_rfl
theorem hG181 (fuel:Nat):GOK Tryz.prog (G181 fuel):=
  gok_nil
def spg181 (F:YF181):Ev.Spec:=fun args objs k=>match args,objs with | [.c (i6 a),.c (i6 b),.c (i6 d)],[]=>F a b d (fun r=>match r with | e=>k (.c (i6 e),[])) | _,_=>none
theorem ok181 (fuel:Nat):FnOK Tryz.prog 181 (spg181 (F_ref02_After fuel)):=by
  intro args objs kk r h
  unfold spg181 at h
  split at h
  · skip
    exact fo0 (hG181 fuel) Tryz.func181 rfl (by kernel_rfl) _ _ kk r ((F181_eq fuel _ _ _ kk).trans h)
  · cases h
def kp182 (i:Nat):Option (List Nat):=Ev.look i []
def Gg182 (f:Nat):Option Ev.Spec:=Ev.look f []
def G182 (fuel:Nat):Nat→Option Ev.Spec:=Gg182
def F_ref02_Interval_Fixed (fuel:Nat) (a b:Int) (k0:(Bool)→Option Ans):Option Ans:=k0 (Ev.ishr IntKind.u64 a 24==Ev.ishr IntKind.u64 b 24)
abbrev YF182:Type:=Int→Int→(Bool→Option Ans)→Option Ans
theorem F182_eq (fuel:Nat) (a b:Int) (k:Ev.Cont):evalFn tab (G182 fuel) J0 kp182 fuel Tryz.f182 [.agg [.int .u64 a,.int .u64 b]] [] k=F_ref02_Interval_Fixed fuel a b (fun r=>match r with | d=>k (.c (.bool d),[])):=by
  kernel_rfl
theorem hG182 (fuel:Nat):GOK Tryz.prog (G182 fuel):=
  gok_nil
def spg182 (F:YF182):Ev.Spec:=fun args objs k=>match args,objs with | [.agg [.int .u64 a,.int .u64 b]],[]=>F a b (fun r=>match r with | d=>k (.c (.bool d),[])) | _,_=>none
theorem ok182 (fuel:Nat):FnOK Tryz.prog 182 (spg182 (F_ref02_Interval_Fixed fuel)):=by
  intro args objs kk r h
  unfold spg182 at h
  split at h
  · skip
    exact fo0 (hG182 fuel) Tryz.func182 rfl (by kernel_rfl) _ _ kk r ((F182_eq fuel _ _ kk).trans h)
  · cases h
def kp225 (i:Nat):Option (List Nat):=Ev.look i []
def Gg225 (f:Nat):Option Ev.Spec:=Ev.look f []
def G225 (fuel:Nat):Nat→Option Ev.Spec:=Gg225
def F_ref02_Interval_Mid (fuel:Nat) (a b c:Int) (k0:(Int)→Option Ans):Option Ans:=k0 (u64.wrap (u64.wrap (a+u64.wrap (u64.wrap ((u64.wrap (b - a)).tdiv 4096)*u64.wrap c))+u64.wrap ((u64.wrap ((u64.wrap (b - a)).tmod 4096*u64.wrap c)).tdiv 4096)))
abbrev YF225:Type:=Int→Int→Int→(Int→Option Ans)→Option Ans
theorem F225_eq (fuel:Nat) (a b d:Int) (k:Ev.Cont):evalFn tab (G225 fuel) J0 kp225 fuel Tryz.f225 [.agg [.int .u64 a,.int .u64 b],.c (i6 d)] [] k=F_ref02_Interval_Mid fuel a b d (fun r=>match r with | e=>k (.c (.int .u64 e),[])):=by
  kernel_rfl
theorem hG225 (fuel:Nat):GOK Tryz.prog (G225 fuel):=
  gok_nil
def spg225 (F:YF225):Ev.Spec:=fun args objs k=>match args,objs with | [.agg [.int .u64 a,.int .u64 b],.c (i6 d)],[]=>F a b d (fun r=>match r with | e=>k (.c (.int .u64 e),[])) | _,_=>none
theorem ok225 (fuel:Nat):FnOK Tryz.prog 225 (spg225 (F_ref02_Interval_Mid fuel)):=by
  intro args objs kk r h
  unfold spg225 at h
  split at h
  · skip
    exact fo0 (hG225 fuel) Tryz.func225 rfl (by kernel_rfl) _ _ kk r ((F225_eq fuel _ _ _ kk).trans h)
  · cases h
def kp180 (i:Nat):Option (List Nat):=Ev.look i [(200002,[3]),(200003,[3])]
def Gg180 (a:YF225) (f:Nat):Option Ev.Spec:=Ev.look f [(225,spg225 a)]
def G180 (fuel:Nat):Nat→Option Ev.Spec:=Gg180 (F_ref02_Interval_Mid fuel)
def Fg_ref02_Interval_Part (fuel:Nat) (d:YF225) (a b:Int) (e f:Int) (k0:(Int×Int)→OA):OA:=bif f==1 then (d a b e (fun c=>k0 (a,c))) else (d a b e (fun c=>k0 (u64.wrap (c+1),b)))
abbrev YF180:Type:=Int→Int→Int→Int→((Int×Int)→Option Ans)→Option Ans
def F_ref02_Interval_Part (fuel:Nat):YF180:=Fg_ref02_Interval_Part fuel (F_ref02_Interval_Mid fuel)
theorem F180_eqg (fuel:Nat) (a:YF225) (b d:Int) (e f:Int) (k:Ev.Cont):evalFn tab (Gg180 a) J0 kp180 fuel Tryz.f180 [.agg [.int .u64 b,.int .u64 d],.c (i6 e),.c (i6 f)] [] k=Fg_ref02_Interval_Part fuel a b d e f (fun r=>match r with | (g,h)=>k (.agg [.int .u64 g,.int .u64 h],[])):=by
  kernel_rfl
theorem hG180 (fuel:Nat):GOK Tryz.prog (G180 fuel):=
  gc (ok225 fuel) Tryz.func225 (by kernel_rfl) rfl <|
  gok_nil
def spg180 (F:YF180):Ev.Spec:=fun args objs k=>match args,objs with | [.agg [.int .u64 a,.int .u64 b],.c (i6 d),.c (i6 e)],[]=>F a b d e (fun r=>match r with | (f,g)=>k (.agg [.int .u64 f,.int .u64 g],[])) | _,_=>none
theorem ok180 (fuel:Nat):FnOK Tryz.prog 180 (spg180 (F_ref02_Interval_Part fuel)):=by
  intro args objs kk r h
  unfold spg180 at h
  split at h
  · skip
    exact fo0 (hG180 fuel) Tryz.func180 rfl (by kernel_rfl) _ _ kk r ((F180_eqg fuel (F_ref02_Interval_Mid fuel) _ _ _ _ kk).trans h)
  · cases h
def kp183 (i:Nat):Option (List Nat):=Ev.look i []
def Gg183 (f:Nat):Option Ev.Spec:=Ev.look f []
def G183 (fuel:Nat):Nat→Option Ev.Spec:=Gg183
def F_ref02_Interval_Shifted (fuel:Nat) (a b:Int) (k0:(Int×Int)→Option Ans):Option Ans:=k0 (u64.wrap (a.tmod (16777216:Int)*(256:Int)),u64.wrap (u64.wrap (b.tmod (16777216:Int)*(256:Int))+(255:Int)))
abbrev YF183:Type:=Int→Int→((Int×Int)→Option Ans)→Option Ans
theorem F183_eq (fuel:Nat) (a b:Int) (k:Ev.Cont):evalFn tab (G183 fuel) J0 kp183 fuel Tryz.f183 [.agg [.int .u64 a,.int .u64 b]] [] k=F_ref02_Interval_Shifted fuel a b (fun r=>match r with | (c,d)=>k (.agg [.int .u64 c,.int .u64 d],[])):=by
  kernel_rfl
theorem hG183 (fuel:Nat):GOK Tryz.prog (G183 fuel):=
  gok_nil
def spg183 (F:YF183):Ev.Spec:=fun args objs k=>match args,objs with | [.agg [.int .u64 a,.int .u64 b]],[]=>F a b (fun r=>match r with | (c,d)=>k (.agg [.int .u64 c,.int .u64 d],[])) | _,_=>none
theorem ok183 (fuel:Nat):FnOK Tryz.prog 183 (spg183 (F_ref02_Interval_Shifted fuel)):=by
  intro args objs kk r h
  unfold spg183 at h
  split at h
  · skip
    exact fo0 (hG183 fuel) Tryz.func183 rfl (by kernel_rfl) _ _ kk r ((F183_eq fuel _ _ kk).trans h)
  · cases h
def kp238 (i:Nat):Option (List Nat):=Ev.look i [(3,[0,3,4]),(100000,[3]),(400000,[2])]
def Gg238 (f:Nat):Option Ev.Spec:=Ev.look f []
def G238 (fuel:Nat):Nat→Option Ev.Spec:=Gg238
def S_ref02_unlikely_0 (fuel:Nat) (v:Int×Int×Int) (c:(Int×Int×Int)→Option Ans) (B:(Int→Option Ans)):Option Ans:=match v,B with | (d,a,e),b=>bif decide (e < d) then c (d,i64.wrap (a - i64.wrap (a.tdiv (8:Int))),i64.wrap (e+(1:Int))) else b a
def L_ref02_unlikely_0 (fuel:Nat) (v:Int×Int×Int) (b:(Int→Option Ans)):Option Ans:=iter (S_ref02_unlikely_0 fuel) fuel v b
def T238_0 (v:Int×Int×Int):Ev.St:=match v with | (a,b,d)=>⟨[(0,.c (i6 a)),(3,.c (i6 b)),(4,.c (i6 d))],[],0,0⟩
def E238_0 (K:KT):(Int→OA):=(fun v=>match v with | a=>K .normal ⟨[(3,.c (i6 a))],[],0,0⟩)
theorem S238_0_ok (fuel:Nat) (R:Ev.St→OA) (K:KT) (a b c:Int):evalCode tab (G238 fuel) J0 kp238 fuel (bodyOf 0 Tryz.f238) (T238_0 (a,b,c)) (lc kp238 3 0 R K)=S_ref02_unlikely_0 fuel (a,b,c) (fun v=>R (T238_0 v)) (E238_0 K):=by
  kernel_rfl
def B238_0 (fuel:Nat):Ev.Blk:=fun st K=>match canonO (kp238 3) st with | some s=>(match s with | ⟨[(a,.c (i6 b)),(d,.c (i6 e)),(f,.c (i6 g))],[],h,i⟩=>bif qb [a,d,f,h,i] [0,3,4,0,0] then iter (S_ref02_unlikely_0 fuel) fuel (b,e,g) (E238_0 K) else none | _=>none) | none=>none
theorem B238_0_ok (fuel:Nat) (st:Ev.St) (K:KT) (r:Ans) (h:B238_0 fuel st K=some r):evalCode tab (G238 fuel) J0 kp238 fuel (.block 0 (.loop (bodyOf 0 Tryz.f238))) st K=some r:=by
  unfold B238_0 at h
  split at h
  · rename_i s hs
    split at h
    · skip
      obtain ⟨hb,h⟩:=cond_some' h
      cases qb_eq hb
      exact blk_loop (S:=T238_0) (ks:=E238_0) (step:=S_ref02_unlikely_0 fuel) (v:=(_,_,_)) (by kernel_rfl) (by kernel_rfl) (fun R K v=>by obtain ⟨a,b,c⟩:=v; exact S238_0_ok fuel R K a b c) hs h
    · cases h
  · cases h
def J238 (fuel:Nat) (i:Nat):Option Ev.Blk:=Ev.look i [(100000,B238_0 fuel)]
def F_ref02_unlikely (fuel:Nat) (b:Int) (k0:(Int)→Option Ans):Option Ans:=(L_ref02_unlikely_0 fuel (b,2048,0) (fun a=>k0 a))
abbrev YF238:Type:=Int→(Int→Option Ans)→Option Ans
theorem F238_eq (fuel:Nat) (a:Int) (k:Ev.Cont):evalFn tab (G238 fuel) (J238 fuel) kp238 fuel Tryz.f238 [.c (i6 a)] [] k=F_ref02_unlikely fuel a (fun r=>match r with | b=>k (.c (i6 b),[])):=by
  kernel_rfl
theorem hG238 (fuel:Nat):GOK Tryz.prog (G238 fuel):=
  gok_nil
theorem B238_0_blk (fuel:Nat):BlkOK Tryz.prog Tryz.f238.ntmps (.block 0 (.loop (bodyOf 0 Tryz.f238))) (B238_0 fuel):=bo0 (hG238 fuel) (by kernel_rfl) (by kernel_rfl) (B238_0_ok fuel)
def spg238 (F:YF238):Ev.Spec:=fun args objs k=>match args,objs with | [.c (i6 a)],[]=>F a (fun r=>match r with | b=>k (.c (i6 b),[])) | _,_=>none
theorem ok238 (fuel:Nat):FnOK Tryz.prog 238 (spg238 (F_ref02_unlikely fuel)):=by
  intro args objs kk r h
  unfold spg238 at h
  split at h
  · skip
    exact fo1 (hG238 fuel) Tryz.func238 rfl (B238_0_blk fuel) (by kernel_rfl) _ _ kk r ((F238_eq fuel _ kk).trans h)
  · cases h
def kp179 (i:Nat):Option (List Nat):=Ev.look i []
def Gg179 (a:YF238) (f:Nat):Option Ev.Spec:=Ev.look f [(238,spg238 a)]
def G179 (fuel:Nat):Nat→Option Ev.Spec:=Gg179 (F_ref02_unlikely fuel)
def Fg_ref02_Likely (fuel:Nat) (b:YF238) (c a:Int) (k0:(Int)→OA):OA:=bif c==0 then (b (a.tmod 32) (fun d=>bif decide (a < 32) then k0 d else (b (a.tmod 32) (fun e=>k0 (i64.wrap (4096 - e)))))) else bif decide (i64.wrap (i64.wrap (i64.wrap (2*i64.wrap (a.tdiv 256))+i64.wrap (2*a.tmod 256))+2)=0) then none else k0 (bif decide (4095 < bif decide (1 > i64.wrap ((i64.wrap (i64.wrap (i64.wrap (2*a.tmod 256)+1)*4096)).tdiv (i64.wrap (i64.wrap (i64.wrap (2*i64.wrap (a.tdiv 256))+i64.wrap (2*a.tmod 256))+2)))) then 1 else i64.wrap ((i64.wrap (i64.wrap (i64.wrap (2*a.tmod 256)+1)*4096)).tdiv (i64.wrap (i64.wrap (i64.wrap (2*i64.wrap (a.tdiv 256))+i64.wrap (2*a.tmod 256))+2)))) then 4095 else bif decide (1 > i64.wrap ((i64.wrap (i64.wrap (i64.wrap (2*a.tmod 256)+1)*4096)).tdiv (i64.wrap (i64.wrap (i64.wrap (2*i64.wrap (a.tdiv 256))+i64.wrap (2*a.tmod 256))+2)))) then 1 else i64.wrap ((i64.wrap (i64.wrap (i64.wrap (2*a.tmod 256)+1)*4096)).tdiv (i64.wrap (i64.wrap (i64.wrap (2*i64.wrap (a.tdiv 256))+i64.wrap (2*a.tmod 256))+2))))
abbrev YF179:Type:=Int→Int→(Int→Option Ans)→Option Ans
def F_ref02_Likely (fuel:Nat):YF179:=Fg_ref02_Likely fuel (F_ref02_unlikely fuel)
theorem F179_eqg (fuel:Nat) (a:YF238) (b d:Int) (k:Ev.Cont):evalFn tab (Gg179 a) J0 kp179 fuel Tryz.f179 [.c (i6 b),.c (i6 d)] [] k=Fg_ref02_Likely fuel a b d (fun r=>match r with | e=>k (.c (i6 e),[])):=by
  kernel_rfl
theorem hG179 (fuel:Nat):GOK Tryz.prog (G179 fuel):=
  gc (ok238 fuel) Tryz.func238 (by kernel_rfl) rfl <|
  gok_nil
def spg179 (F:YF179):Ev.Spec:=fun args objs k=>match args,objs with | [.c (i6 a),.c (i6 b)],[]=>F a b (fun r=>match r with | d=>k (.c (i6 d),[])) | _,_=>none
theorem ok179 (fuel:Nat):FnOK Tryz.prog 179 (spg179 (F_ref02_Likely fuel)):=by
  intro args objs kk r h
  unfold spg179 at h
  split at h
  · skip
    exact fo0 (hG179 fuel) Tryz.func179 rfl (by kernel_rfl) _ _ kk r ((F179_eqg fuel (F_ref02_unlikely fuel) _ _ kk).trans h)
  · cases h
def kp88_e89 (i:Nat):Option (List Nat):=Ev.look i [(8,[0,1000002]),(100000,[]),(200005,[0]),(200007,[0]),(400000,[6]),(600000,[])]
def Gg88_e89 (a:YF179) (b:YF180) (c:YF181) (d:YF182) (e:YF183) (f:Nat):Option Ev.Spec:=Ev.look f [(179,spg179 a),(180,spg180 b),(181,spg181 c),(182,spg182 d),(183,spg183 e)]
def G88_e89 (fuel:Nat):Nat→Option Ev.Spec:=Gg88_e89 (F_ref02_Likely fuel) (F_ref02_Interval_Part fuel) (F_ref02_After fuel) (F_ref02_Interval_Fixed fuel) (F_ref02_Interval_Shifted fuel)
abbrev V_ref02_Encoder_Put_e89_0:Type:=Int×Int×Int×LI×LI
abbrev W_ref02_Encoder_Put_e89_0:Type:=(Int×Int×Int×LI×LI→OA)
def Sg_ref02_Encoder_Put_e89_0 (fuel:Nat) (o:YF179) (p:YF180) (q:YF181) (m:YF182) (j:YF183) (f e a:Int) (g d:LI) (c:V_ref02_Encoder_Put_e89_0→OA) (B:W_ref02_Encoder_Put_e89_0):OA:=match B with | b=>(m e a (fun n=>bif n then both (bif decide ((d.length+ [u8.wrap (Ev.ishr IntKind.u64 a (24:Int))].length)*(1:Nat)≤(140737488355328:Nat)∧d.length+ [u8.wrap (Ev.ishr IntKind.u64 a (24:Int))].length≤(140737488355328:Nat)) then (j e a (fun (k,l)=>c (f,k,l,g,d++ [u8.wrap (Ev.ishr IntKind.u64 a (24:Int))]))) else none) (both (bif decide ((d.length+ [u8.wrap (Ev.ishr IntKind.u64 a (24:Int))].length)*(1:Nat)≤(140737488355328:Nat)∧d.length+ [u8.wrap (Ev.ishr IntKind.u64 a (24:Int))].length≤(140737488355328:Nat)) then (j e a (fun (h,i)=>c (f,h,i,g,d++ [u8.wrap (Ev.ishr IntKind.u64 a (24:Int))]))) else none) (bif decide ((d.length+ [u8.wrap (Ev.ishr IntKind.u64 a (24:Int))].length)*(1:Nat)≤(140737488355328:Nat)∧d.length+ [u8.wrap (Ev.ishr IntKind.u64 a (24:Int))].length≤(140737488355328:Nat)) then (j e a (fun (h,i)=>c (f,h,i,g,d++ [u8.wrap (Ev.ishr IntKind.u64 a (24:Int))]))) else none)) else b (f,e,a,g,d)))
def S_ref02_Encoder_Put_e89_0 (fuel:Nat) (v:Int×Int×Int×(List Int)×(List Int)) (c:(Int×Int×Int×(List Int)×(List Int))→Option Ans) (B:(Int×Int×Int×(List Int)×(List Int)→Option Ans)):Option Ans:=match v with | (a,b,d,e,f)=>Sg_ref02_Encoder_Put_e89_0 fuel (F_ref02_Likely fuel) (F_ref02_Interval_Part fuel) (F_ref02_After fuel) (F_ref02_Interval_Fixed fuel) (F_ref02_Interval_Shifted fuel) a b d e f c B
def L_ref02_Encoder_Put_e89_0 (fuel:Nat) (v:V_ref02_Encoder_Put_e89_0) (b:W_ref02_Encoder_Put_e89_0):Option Ans:=iter (S_ref02_Encoder_Put_e89_0 fuel) fuel v b
def T88_e89_0 (v:V_ref02_Encoder_Put_e89_0):Ev.St:=match v with | (a,b,d,e,f)=>⟨[(0,.c (.ptr 0 0))],[(0,.cells 187 [i6 a,.own 1,.int .u64 b,.int .u64 d,.own 2]),(1,.vec 3 (.int .i64) e false),(2,.vec 5 (.int .u8) f true)],3,3⟩
def E88_e89_0 (K:KT):W_ref02_Encoder_Put_e89_0:=(fun v=>match v with | (a,b,c,d,e)=>K .normal ⟨[],[(0,.cells 187 [i6 a,.own 1,.int .u64 b,.int .u64 c,.own 2]),(1,.vec 3 (.int .i64) d false),(2,.vec 5 (.int .u8) e true)],3,3⟩)
theorem S88_e89_0_okg (fuel:Nat) (a:YF179) (b:YF180) (c:YF181) (d:YF182) (e:YF183) (R:Ev.St→OA) (K:KT) (f g h:Int) (i j:LI):evalCode tab (Gg88_e89 a b c d e) J0 kp88_e89 fuel (bodyOf 0 Tryz.f88) (T88_e89_0 (f,g,h,i,j)) (lc kp88_e89 8 0 R K)=Sg_ref02_Encoder_Put_e89_0 fuel a b c d e f g h i j (fun v=>R (T88_e89_0 v)) (E88_e89_0 K):=by
  kernel_rfl
def B88_e89_0 (fuel:Nat):Ev.Blk:=fun st K=>match canonO (kp88_e89 8) st with | some s=>(match s with | ⟨[(e,.c (.ptr f g))],[(h,.cells i [i6 j,.own k,.int .u64 l,.int .u64 m,.own n]),(o,.vec p (.int .i64) q false),(r,.vec a (.int .u8) t true)],b,d⟩=>bif qb [e,f,g,h,i,k,n,o,p,r,a,b,d] [0,0,0,0,187,1,2,1,3,2,5,3,3] then iter (S_ref02_Encoder_Put_e89_0 fuel) fuel (j,l,m,q,t) (E88_e89_0 K) else none | _=>none) | none=>none
theorem B88_e89_0_ok (fuel:Nat) (st:Ev.St) (K:KT) (r:Ans) (h:B88_e89_0 fuel st K=some r):evalCode tab (G88_e89 fuel) J0 kp88_e89 fuel (.block 0 (.loop (bodyOf 0 Tryz.f88))) st K=some r:=by
  unfold B88_e89_0 at h
  split at h
  · rename_i s hs
    split at h
    · skip
      obtain ⟨hb,h⟩:=cond_some' h
      cases qb_eq hb
      exact blk_loop (S:=T88_e89_0) (ks:=E88_e89_0) (step:=S_ref02_Encoder_Put_e89_0 fuel) (v:=(_,_,_,_,_)) (by kernel_rfl) (by kernel_rfl) (fun R K v=>by obtain ⟨a,b,c,d,e⟩:=v; exact S88_e89_0_okg fuel (F_ref02_Likely fuel) (F_ref02_Interval_Part fuel) (F_ref02_After fuel) (F_ref02_Interval_Fixed fuel) (F_ref02_Interval_Shifted fuel) R K a b c d e) hs h
    · cases h
  · cases h
def J88_e89 (fuel:Nat) (i:Nat):Option Ev.Blk:=Ev.look i [(100000,B88_e89_0 fuel)]
def Fg_ref02_Encoder_Put_e89 (fuel:Nat) (m:YF179) (n:YF180) (o:YF181) (x:YF182) (y:YF183) (a d:Int) (c e f:Int) (b g:LI) (k0:(Int×Int×Int×Int×LI×LI)→OA) (k1:(Int×Int×Int×Int×LI×LI)→OA):OA:=bif decide (a < 0) then k0 (2,c,e,f,b,g) else bif decide (a≥(↑b.length:Int)) then k0 (2,c,e,f,b,g) else bif d != 0 then bif d != 1 then k0 (2,c,e,f,b,g) else bif decide (0≤a∧a < (↑b.length:Int)) then (m c (b.getD a.toNat 0) (fun v=>(n e f v d (fun (p,q)=>bif decide (0≤a∧a < (↑b.length:Int)) then (o c (b.getD a.toNat 0) d (fun t=>bif decide (0≤a∧a < (↑b.length:Int)) then (L_ref02_Encoder_Put_e89_0 fuel (c,p,q,b.set a.toNat t,g) (fun (h,i,j,k,l)=>k1 (0,h,i,j,k,l))) else none)) else none)))) else none else bif decide (0≤a∧a < (↑b.length:Int)) then (m c (b.getD a.toNat 0) (fun w=>(n e f w d (fun (r,s)=>bif decide (0≤a∧a < (↑b.length:Int)) then (o c (b.getD a.toNat 0) d (fun u=>bif decide (0≤a∧a < (↑b.length:Int)) then (L_ref02_Encoder_Put_e89_0 fuel (c,r,s,b.set a.toNat u,g) (fun (h,i,j,k,l)=>k1 (0,h,i,j,k,l))) else none)) else none)))) else none
abbrev YF88_e89:Type:=Int→Int→Int→Int→Int→LI→LI→((Int×Int×Int×Int×LI×LI)→Option Ans)→((Int×Int×Int×Int×LI×LI)→Option Ans)→Option Ans
def F_ref02_Encoder_Put_e89 (fuel:Nat):YF88_e89:=Fg_ref02_Encoder_Put_e89 fuel (F_ref02_Likely fuel) (F_ref02_Interval_Part fuel) (F_ref02_After fuel) (F_ref02_Interval_Fixed fuel) (F_ref02_Interval_Shifted fuel)
theorem F88_e89_eqg (fuel:Nat) (h:YF179) (i:YF180) (j:YF181) (l:YF182) (m:YF183) (n o:Int) (p q s:Int) (t u:LI) (k:Ev.Cont):evalFn tab (Gg88_e89 h i j l m) (J88_e89 fuel) kp88_e89 fuel Tryz.f88 [.c (.ptr 0 0),.c (i6 n),.c (i6 o)] [.cells 187 [i6 p,.own 1,.int .u64 q,.int .u64 s,.own 2],.vec 3 (.int .i64) t false,.vec 5 (.int .u8) u false] k=Fg_ref02_Encoder_Put_e89 fuel h i j l m n o p q s t u (fun r=>match r with | (a,b,d,e,f,g)=>k (.c (i6 a),[.cells 187 [i6 b,.own 1,.int .u64 d,.int .u64 e,.own 2],.vec 3 (.int .i64) f false,.vec 5 (.int .u8) g false])) (fun r=>match r with | (a,b,d,e,f,g)=>k (.c (i6 a),[.cells 187 [i6 b,.own 1,.int .u64 d,.int .u64 e,.own 2],.vec 3 (.int .i64) f false,.vec 5 (.int .u8) g true])):=by
  kernel_rfl
theorem hG88_e89 (fuel:Nat):GOK Tryz.prog (G88_e89 fuel):=
  gc (ok179 fuel) Tryz.func179 (by kernel_rfl) rfl <|
  gc (ok180 fuel) Tryz.func180 (by kernel_rfl) rfl <|
  gc (ok181 fuel) Tryz.func181 (by kernel_rfl) rfl <|
  gc (ok182 fuel) Tryz.func182 (by kernel_rfl) rfl <|
  gc (ok183 fuel) Tryz.func183 (by kernel_rfl) rfl <|
  gok_nil
theorem B88_e89_0_blk (fuel:Nat):BlkOK Tryz.prog Tryz.f88.ntmps (.block 0 (.loop (bodyOf 0 Tryz.f88))) (B88_e89_0 fuel):=bo0 (hG88_e89 fuel) (by kernel_rfl) (by kernel_rfl) (B88_e89_0_ok fuel)
def spg88_e89 (F:YF88_e89):Ev.Spec:=fun args objs k=>match args,objs with | [.c (.ptr h i),.c (i6 j),.c (i6 l)],[.cells m [i6 n,.own o,.int .u64 p,.int .u64 q,.own s],.vec t (.int .i64) u false,.vec v (.int .u8) w false]=>bif qb [h,i,m,o,s,t,v] [0,0,187,1,2,3,5] then F j l n p q u w (fun r=>match r with | (a,b,d,e,f,g)=>k (.c (i6 a),[.cells 187 [i6 b,.own 1,.int .u64 d,.int .u64 e,.own 2],.vec 3 (.int .i64) f false,.vec 5 (.int .u8) g false])) (fun r=>match r with | (a,b,d,e,f,g)=>k (.c (i6 a),[.cells 187 [i6 b,.own 1,.int .u64 d,.int .u64 e,.own 2],.vec 3 (.int .i64) f false,.vec 5 (.int .u8) g true])) else none | _,_=>none
theorem ok88_e89 (fuel:Nat):FnOK Tryz.prog 88 (spg88_e89 (F_ref02_Encoder_Put_e89 fuel)):=by
  intro args objs kk r h
  unfold spg88_e89 at h
  split at h
  · skip
    obtain ⟨hb,h⟩:=cond_some' h
    cases qb_eq hb
    exact fo1 (hG88_e89 fuel) Tryz.func88 rfl (B88_e89_0_blk fuel) (by kernel_rfl) _ _ kk r ((F88_e89_eqg fuel (F_ref02_Likely fuel) (F_ref02_Interval_Part fuel) (F_ref02_After fuel) (F_ref02_Interval_Fixed fuel) (F_ref02_Interval_Shifted fuel) _ _ _ _ _ _ _ kk).trans h)
  · cases h
def kp133 (i:Nat):Option (List Nat):=Ev.look i [(200001,[1])]
def Gg133 (f:Nat):Option Ev.Spec:=Ev.look f []
def G133 (fuel:Nat):Nat→Option Ev.Spec:=Gg133
def F_ref02_Copy (fuel:Nat) (b:Int) (a:(List Int)) (k0:(Int×(List Int))→Option Ans):Option Ans:=bif decide (((0:Nat)+a.length)*(8:Nat)≤(140737488355328:Nat)∧(0:Nat)+a.length≤(140737488355328:Nat)) then k0 (b,[]++a) else none
abbrev YF133:Type:=Int→LI→((Int×LI)→Option Ans)→Option Ans
theorem F133_eq (fuel:Nat) (a:Int) (b:LI) (k:Ev.Cont):evalFn tab (G133 fuel) J0 kp133 fuel Tryz.f133 [.agg [i6 a,.sl (.int .i64) b]] [] k=F_ref02_Copy fuel a b (fun r=>match r with | (c,d)=>k (.agg [i6 c,.own 0],[.vec 3 (.int .i64) d true])):=by
  kernel_rfl
theorem hG133 (fuel:Nat):GOK Tryz.prog (G133 fuel):=
  gok_nil
def spg133 (F:YF133):Ev.Spec:=fun args objs k=>match args,objs with | [.agg [i6 a,.sl (.int .i64) b]],[]=>F a b (fun r=>match r with | (c,d)=>k (.agg [i6 c,.own 0],[.vec 3 (.int .i64) d true])) | _,_=>none
theorem ok133 (fuel:Nat):FnOK Tryz.prog 133 (spg133 (F_ref02_Copy fuel)):=by
  intro args objs kk r h
  unfold spg133 at h
  split at h
  · skip
    exact fo0 (hG133 fuel) Tryz.func133 rfl (by kernel_rfl) _ _ kk r ((F133_eq fuel _ _ kk).trans h)
  · cases h
def kp132 (i:Nat):Option (List Nat):=Ev.look i [(7,[3,24,25,26]),(100000,[]),(400000,[2])]
def Gg132 (f:Nat):Option Ev.Spec:=Ev.look f []
def G132 (fuel:Nat):Nat→Option Ev.Spec:=Gg132
def S_ref02_Valid_0 (fuel:Nat) (v:Int×(List Int)×Int×Int) (c:(Int×(List Int)×Int×Int)→Option Ans) (B:(Bool→Option Ans)×(Unit→Option Ans)):Option Ans:=match v,B with | (e,d,f,a),(ret,b)=>bif decide (a < f) then bif decide ((0:Int)≤a∧a < (↑d.length:Int)) then bif decide (d.getD a.toNat (0:Int) < (0:Int)) then ret false else bif decide (d.getD a.toNat (0:Int) > e) then ret false else c (e,d,f,i64.wrap (a+(1:Int))) else none else b ()
def L_ref02_Valid_0 (fuel:Nat) (v:Int×(List Int)×Int×Int) (ret:(Bool→Option Ans)) (b:(Unit→Option Ans)):Option Ans:=iter (S_ref02_Valid_0 fuel) fuel v (ret,b)
def T132_0 (v:Int×LI×Int×Int):Ev.St:=match v with | (a,b,d,e)=>⟨[(3,.c (i6 a)),(24,.c (.sl (.int .i64) b)),(25,.c (i6 d)),(26,.c (i6 e))],[],0,0⟩
def E132_0 (K:KT):(Bool→OA)×(Unit→OA):=((fun v=>match v with | a=>K .ret ⟨[(2,.c (.bool a))],[],0,0⟩),(fun v=>match v with | ()=>K .normal ⟨[],[],0,0⟩))
theorem S132_0_ok (fuel:Nat) (R:Ev.St→OA) (K:KT) (a:Int) (b:LI) (c d:Int):evalCode tab (G132 fuel) J0 kp132 fuel (bodyOf 0 Tryz.f132) (T132_0 (a,b,c,d)) (lc kp132 7 0 R K)=S_ref02_Valid_0 fuel (a,b,c,d) (fun v=>R (T132_0 v)) (E132_0 K):=by
  kernel_rfl
def B132_0 (fuel:Nat):Ev.Blk:=fun st K=>match canonO (kp132 7) st with | some s=>(match s with | ⟨[(a,.c (i6 b)),(d,.c (.sl (.int .i64) e)),(f,.c (i6 g)),(h,.c (i6 i))],[],j,k⟩=>bif qb [a,d,f,h,j,k] [3,24,25,26,0,0] then iter (S_ref02_Valid_0 fuel) fuel (b,e,g,i) (E132_0 K) else none | _=>none) | none=>none
theorem B132_0_ok (fuel:Nat) (st:Ev.St) (K:KT) (r:Ans) (h:B132_0 fuel st K=some r):evalCode tab (G132 fuel) J0 kp132 fuel (.block 0 (.loop (bodyOf 0 Tryz.f132))) st K=some r:=by
  unfold B132_0 at h
  split at h
  · rename_i s hs
    split at h
    · skip
      obtain ⟨hb,h⟩:=cond_some' h
      cases qb_eq hb
      exact blk_loop (S:=T132_0) (ks:=E132_0) (step:=S_ref02_Valid_0 fuel) (v:=(_,_,_,_)) (by kernel_rfl) (by kernel_rfl) (fun R K v=>by obtain ⟨a,b,c,d⟩:=v; exact S132_0_ok fuel R K a b c d) hs h
    · cases h
  · cases h
def J132 (fuel:Nat) (i:Nat):Option Ev.Blk:=Ev.look i [(100000,B132_0 fuel)]
def F_ref02_Valid (fuel:Nat) (b:Int) (a:(List Int)) (k0:(Bool)→Option Ans):Option Ans:=bif b==1 then bif b != 0 then bif b != 1 then k0 false else bif decide ((↑a.length:Int) > 8192) then k0 false else (L_ref02_Valid_0 fuel (65535,a,(↑a.length:Int),0) (fun ret0_0=>k0 ret0_0) (fun ()=>k0 true)) else bif decide ((↑a.length:Int) > 8192) then k0 false else (L_ref02_Valid_0 fuel (65535,a,(↑a.length:Int),0) (fun ret0_0=>k0 ret0_0) (fun ()=>k0 true)) else bif b != 0 then bif b != 1 then k0 false else bif decide ((↑a.length:Int) > 8192) then k0 false else (L_ref02_Valid_0 fuel (63,a,(↑a.length:Int),0) (fun ret0_0=>k0 ret0_0) (fun ()=>k0 true)) else bif decide ((↑a.length:Int) > 8192) then k0 false else (L_ref02_Valid_0 fuel (63,a,(↑a.length:Int),0) (fun ret0_0=>k0 ret0_0) (fun ()=>k0 true))
abbrev YF132:Type:=Int→LI→(Bool→Option Ans)→Option Ans
theorem F132_eq (fuel:Nat) (a:Int) (b:LI) (k:Ev.Cont):evalFn tab (G132 fuel) (J132 fuel) kp132 fuel Tryz.f132 [.agg [i6 a,.sl (.int .i64) b]] [] k=F_ref02_Valid fuel a b (fun r=>match r with | d=>k (.c (.bool d),[])):=by
  kernel_rfl
theorem hG132 (fuel:Nat):GOK Tryz.prog (G132 fuel):=
  gok_nil
theorem B132_0_blk (fuel:Nat):BlkOK Tryz.prog Tryz.f132.ntmps (.block 0 (.loop (bodyOf 0 Tryz.f132))) (B132_0 fuel):=bo0 (hG132 fuel) (by kernel_rfl) (by kernel_rfl) (B132_0_ok fuel)
def spg132 (F:YF132):Ev.Spec:=fun args objs k=>match args,objs with | [.agg [i6 a,.sl (.int .i64) b]],[]=>F a b (fun r=>match r with | d=>k (.c (.bool d),[])) | _,_=>none
theorem ok132 (fuel:Nat):FnOK Tryz.prog 132 (spg132 (F_ref02_Valid fuel)):=by
  intro args objs kk r h
  unfold spg132 at h
  split at h
  · skip
    exact fo1 (hG132 fuel) Tryz.func132 rfl (B132_0_blk fuel) (by kernel_rfl) _ _ kk r ((F132_eq fuel _ _ kk).trans h)
  · cases h
def kp134 (i:Nat):Option (List Nat):=Ev.look i []
def Gg134 (f:Nat):Option Ev.Spec:=Ev.look f []
def G134 (fuel:Nat):Nat→Option Ev.Spec:=Gg134
def F_ref02_Whole (fuel:Nat)  (k0:(Int×Int)→Option Ans):Option Ans:=k0 (0,4294967295)
abbrev YF134:Type:=((Int×Int)→Option Ans)→Option Ans
theorem F134_eq (fuel:Nat)  (k:Ev.Cont):evalFn tab (G134 fuel) J0 kp134 fuel Tryz.f134 [] [] k=F_ref02_Whole fuel  (fun r=>match r with | (a,b)=>k (.agg [.int .u64 a,.int .u64 b],[])):=by
  kernel_rfl
theorem hG134 (fuel:Nat):GOK Tryz.prog (G134 fuel):=
  gok_nil
def spg134 (F:YF134):Ev.Spec:=fun args objs k=>match args,objs with | [],[]=>F  (fun r=>match r with | (a,b)=>k (.agg [.int .u64 a,.int .u64 b],[])) | _,_=>none
theorem ok134 (fuel:Nat):FnOK Tryz.prog 134 (spg134 (F_ref02_Whole fuel)):=by
  intro args objs kk r h
  unfold spg134 at h
  split at h
  · skip
    exact fo0 (hG134 fuel) Tryz.func134 rfl (by kernel_rfl) _ _ kk r ((F134_eq fuel kk).trans h)
  · cases h
def kp57 (i:Nat):Option (List Nat):=Ev.look i [(600000,[])]
def Gg57 (a:YF132) (b:YF133) (c:YF134) (f:Nat):Option Ev.Spec:=Ev.look f [(132,spg132 a),(133,spg133 b),(134,spg134 c)]
def G57 (fuel:Nat):Nat→Option Ev.Spec:=Gg57 (F_ref02_Valid fuel) (F_ref02_Copy fuel) (F_ref02_Whole fuel)
def Fg_ref02_NewEncoder (fuel:Nat) (e:YF132) (f:YF133) (g:YF134) (a:Int) (b:LI) (k0:(Int)→OA) (k1:(Int×Int×Int×Int×LI×LI)→OA):OA:=(e a b (fun j=>bif !j then k0 (10) else (f a b (fun (h,i)=>(g (fun (c,d)=>k1 (0,h,c,d,i,[])))))))
abbrev YF57:Type:=Int→LI→(Int→Option Ans)→((Int×Int×Int×Int×LI×LI)→Option Ans)→Option Ans
def F_ref02_NewEncoder (fuel:Nat):YF57:=Fg_ref02_NewEncoder fuel (F_ref02_Valid fuel) (F_ref02_Copy fuel) (F_ref02_Whole fuel)
theorem F57_eqg (fuel:Nat) (b:YF132) (c:YF133) (d:YF134) (e:Int) (f:LI) (k:Ev.Cont):evalFn tab (Gg57 b c d) J0 kp57 fuel Tryz.f57 [.agg [i6 e,.sl (.int .i64) f]] [] k=Fg_ref02_NewEncoder fuel b c d e f (fun r=>match r with | a=>k (.tup [(false,[.nilptr]),(false,[i6 a])],[])) (fun r=>match r with | (a,g,h,i,j,l)=>k (.tup [(false,[.ptr 0 0]),(false,[i6 a])],[.cells 187 [i6 g,.own 1,.int .u64 h,.int .u64 i,.own 2],.vec 3 (.int .i64) j true,.vec 5 (.int .u8) l true])):=by
  kernel_rfl
theorem hG57 (fuel:Nat):GOK Tryz.prog (G57 fuel):=
  gc (ok132 fuel) Tryz.func132 (by kernel_rfl) rfl <|
  gc (ok133 fuel) Tryz.func133 (by kernel_rfl) rfl <|
  gc (ok134 fuel) Tryz.func134 (by kernel_rfl) rfl <|
  gok_nil
def spg57 (F:YF57):Ev.Spec:=fun args objs k=>match args,objs with | [.agg [i6 b,.sl (.int .i64) c]],[]=>F b c (fun r=>match r with | a=>k (.tup [(false,[.nilptr]),(false,[i6 a])],[])) (fun r=>match r with | (a,d,e,f,g,h)=>k (.tup [(false,[.ptr 0 0]),(false,[i6 a])],[.cells 187 [i6 d,.own 1,.int .u64 e,.int .u64 f,.own 2],.vec 3 (.int .i64) g true,.vec 5 (.int .u8) h true])) | _,_=>none
theorem ok57 (fuel:Nat):FnOK Tryz.prog 57 (spg57 (F_ref02_NewEncoder fuel)):=by
  intro args objs kk r h
  unfold spg57 at h
  split at h
  · skip
    exact fo0 (hG57 fuel) Tryz.func57 rfl (by kernel_rfl) _ _ kk r ((F57_eqg fuel (F_ref02_Valid fuel) (F_ref02_Copy fuel) (F_ref02_Whole fuel) _ _ kk).trans h)
  · cases h
def kp138_2fe (i:Nat):Option (List Nat):=Ev.look i []
def Gg138_2fe (a:YF133) (f:Nat):Option Ev.Spec:=Ev.look f [(133,spg133 a)]
def G138_2fe (fuel:Nat):Nat→Option Ev.Spec:=Gg138_2fe (F_ref02_Copy fuel)
def Fg_ref02_Encoder_Model_2fe (fuel:Nat) (c:YF133) (a f g:Int) (b h:LI) (k0:(Int×Int×Int×Int×LI×LI×LI)→OA):OA:=(c a b (fun (d,e)=>k0 (d,a,f,g,b,h,e)))
abbrev YF138_2fe:Type:=Int→Int→Int→LI→LI→((Int×Int×Int×Int×LI×LI×LI)→Option Ans)→Option Ans
def F_ref02_Encoder_Model_2fe (fuel:Nat):YF138_2fe:=Fg_ref02_Encoder_Model_2fe fuel (F_ref02_Copy fuel)
theorem F138_2fe_eqg (fuel:Nat) (a:YF133) (b d e:Int) (f g:LI) (k:Ev.Cont):evalFn tab (Gg138_2fe a) J0 kp138_2fe fuel Tryz.f138 [.c (.ptr 0 0)] [.cells 187 [i6 b,.own 1,.int .u64 d,.int .u64 e,.own 2],.vec 3 (.int .i64) f false,.vec 5 (.int .u8) g false] k=Fg_ref02_Encoder_Model_2fe fuel a b d e f g (fun r=>match r with | (h,i,j,l,m,n,o)=>k (.agg [i6 h,.own 3],[.cells 187 [i6 i,.own 1,.int .u64 j,.int .u64 l,.own 2],.vec 3 (.int .i64) m false,.vec 5 (.int .u8) n false,.vec 3 (.int .i64) o true])):=by
  kernel_rfl
theorem hG138_2fe (fuel:Nat):GOK Tryz.prog (G138_2fe fuel):=
  gc (ok133 fuel) Tryz.func133 (by kernel_rfl) rfl <|
  gok_nil
def spg138_2fe (F:YF138_2fe):Ev.Spec:=fun args objs k=>match args,objs with | [.c (.ptr a b)],[.cells d [i6 e,.own f,.int .u64 g,.int .u64 h,.own i],.vec j (.int .i64) l false,.vec m (.int .u8) n false]=>bif qb [a,b,d,f,i,j,m] [0,0,187,1,2,3,5] then F e g h l n (fun r=>match r with | (o,p,q,s,t,u,v)=>k (.agg [i6 o,.own 3],[.cells 187 [i6 p,.own 1,.int .u64 q,.int .u64 s,.own 2],.vec 3 (.int .i64) t false,.vec 5 (.int .u8) u false,.vec 3 (.int .i64) v true])) else none | _,_=>none
theorem ok138_2fe (fuel:Nat):FnOK Tryz.prog 138 (spg138_2fe (F_ref02_Encoder_Model_2fe fuel)):=by
  intro args objs kk r h
  unfold spg138_2fe at h
  split at h
  · skip
    obtain ⟨hb,h⟩:=cond_some' h
    cases qb_eq hb
    exact fo0 (hG138_2fe fuel) Tryz.func138 rfl (by kernel_rfl) _ _ kk r ((F138_2fe_eqg fuel (F_ref02_Copy fuel) _ _ _ _ _ kk).trans h)
  · cases h
def kp175 (i:Nat):Option (List Nat):=Ev.look i []
def Gg175 (f:Nat):Option Ev.Spec:=Ev.look f []
def G175 (fuel:Nat):Nat→Option Ev.Spec:=Gg175
def F_ref03_Valid (fuel:Nat) (b:Bool) (a:Int) (k0:(Bool)→Option Ans):Option Ans:=bif b then k0 (a==0) else bif decide (a≥(-1048576:Int)) then k0 (decide (a≤1048576)) else k0 false
abbrev YF175:Type:=Bool→Int→(Bool→Option Ans)→Option Ans
theorem F175_eq (fuel:Nat) (a:Bool) (b:Int) (k:Ev.Cont):evalFn tab (G175 fuel) J0 kp175 fuel Tryz.f175 [.agg [.bool a,i6 b]] [] k=F_ref03_Valid fuel a b (fun r=>match r with | d=>k (.c (.bool d),[])):=by
  kernel_rfl
theorem hG175 (fuel:Nat):GOK Tryz.prog (G175 fuel):=
  gok_nil
def spg175 (F:YF175):Ev.Spec:=fun args objs k=>match args,objs with | [.agg [.bool a,i6 b]],[]=>F a b (fun r=>match r with | d=>k (.c (.bool d),[])) | _,_=>none
theorem ok175 (fuel:Nat):FnOK Tryz.prog 175 (spg175 (F_ref03_Valid fuel)):=by
  intro args objs kk r h
  unfold spg175 at h
  split at h
  · skip
    exact fo0 (hG175 fuel) Tryz.func175 rfl (by kernel_rfl) _ _ kk r ((F175_eq fuel _ _ kk).trans h)
  · cases h
def kp177 (i:Nat):Option (List Nat):=Ev.look i [(9,[3,4,5,6,7]),(14,[3,4,5,6,8,9]),(20,[3,4,5,6,8,10]),(100000,[3,4,5,6]),(100002,[3,4,5,6,8]),(100004,[3,4,5]),(400000,[2]),(400002,[2]),(400004,[2])]
def Gg177 (f:Nat):Option Ev.Spec:=Ev.look f []
def G177 (fuel:Nat):Nat→Option Ev.Spec:=Gg177
abbrev V_ref03_events_0:Type:=Int×Int×Int×(List (Int×Int))×LI
abbrev W_ref03_events_0:Type:=(Int×Int×(List (Int×Int))×LI→OA)
def S_ref03_events_0 (fuel:Nat) (v:Int×Int×Int×(List (Int×Int))×(List Int)) (c:(Int×Int×Int×(List (Int×Int))×(List Int))→Option Ans) (B:(Int×Int×(List (Int×Int))×(List Int)→Option Ans)):Option Ans:=match v,B with | (e,f,a,g,d),b=>bif decide (a > (0:Int)) then bif decide ((d.length+ [a.tmod (2:Int)].length)*(8:Nat)≤(140737488355328:Nat)∧d.length+ [a.tmod (2:Int)].length≤(140737488355328:Nat)) then c (e,f,i64.wrap (a.tdiv (2:Int)),g,d++ [a.tmod (2:Int)]) else none else b (e,f,g,d)
def L_ref03_events_0 (fuel:Nat) (v:V_ref03_events_0) (b:W_ref03_events_0):Option Ans:=iter (S_ref03_events_0 fuel) fuel v b
def T177_0 (v:V_ref03_events_0):Ev.St:=match v with | (a,b,d,e,f)=>⟨[(3,.c (.own 0)),(4,.c (i6 a)),(5,.c (i6 b)),(6,.c (.own 1)),(7,.c (i6 d))],[(0,.vec 221 (.pair (.int .i64) (.int .i64)) e true),(1,.vec 3 (.int .i64) f true)],2,0⟩
def E177_0 (K:KT):W_ref03_events_0:=(fun v=>match v with | (a,b,d,e)=>K .normal ⟨[(3,.c (.own 0)),(4,.c (i6 a)),(5,.c (i6 b)),(6,.c (.own 1))],[(0,.vec 221 (.pair (.int .i64) (.int .i64)) d true),(1,.vec 3 (.int .i64) e true)],2,0⟩)
theorem S177_0_ok (fuel:Nat) (R:Ev.St→OA) (K:KT) (a b c:Int) (d:(List (Int×Int))) (e:LI):evalCode tab (G177 fuel) J0 kp177 fuel (bodyOf 0 Tryz.f177) (T177_0 (a,b,c,d,e)) (lc kp177 9 0 R K)=S_ref03_events_0 fuel (a,b,c,d,e) (fun v=>R (T177_0 v)) (E177_0 K):=by
  kernel_rfl
def B177_0 (fuel:Nat):Ev.Blk:=fun st K=>match canonO (kp177 9) st with | some s=>(match s with | ⟨[(e,.c (.own f)),(g,.c (i6 h)),(i,.c (i6 j)),(k,.c (.own l)),(m,.c (i6 n))],[(o,.vec p (.pair (.int .i64) (.int .i64)) q true),(r,.vec a (.int .i64) t true)],b,d⟩=>bif qb [e,f,g,i,k,l,m,o,p,r,a,b,d] [3,0,4,5,6,1,7,0,221,1,3,2,0] then iter (S_ref03_events_0 fuel) fuel (h,j,n,q,t) (E177_0 K) else none | _=>none) | none=>none
theorem B177_0_ok (fuel:Nat) (st:Ev.St) (K:KT) (r:Ans) (h:B177_0 fuel st K=some r):evalCode tab (G177 fuel) J0 kp177 fuel (.block 0 (.loop (bodyOf 0 Tryz.f177))) st K=some r:=by
  unfold B177_0 at h
  split at h
  · rename_i s hs
    split at h
    · skip
      obtain ⟨hb,h⟩:=cond_some' h
      cases qb_eq hb
      exact blk_loop (S:=T177_0) (ks:=E177_0) (step:=S_ref03_events_0 fuel) (v:=(_,_,_,_,_)) (by kernel_rfl) (by kernel_rfl) (fun R K v=>by obtain ⟨a,b,c,d,e⟩:=v; exact S177_0_ok fuel R K a b c d e) hs h
    · cases h
  · cases h
abbrev V_ref03_events_2:Type:=Int×Int×Int×Int×(List (Int×Int))×LI
abbrev W_ref03_events_2:Type:=(Int×Int×Int×(List (Int×Int))×LI→OA)
def S_ref03_events_2 (fuel:Nat) (v:Int×Int×Int×Int×(List (Int×Int))×(List Int)) (c:(Int×Int×Int×Int×(List (Int×Int))×(List Int))→Option Ans) (B:(Int×Int×Int×(List (Int×Int))×(List Int)→Option Ans)):Option Ans:=match v,B with | (f,g,e,a,d,h),b=>bif decide (a < e) then bif decide ((d.length+ [(i64.wrap ((1:Int)+a),(1:Int))].length)*(16:Nat)≤(140737488355328:Nat)∧d.length+ [(i64.wrap ((1:Int)+a),(1:Int))].length≤(140737488355328:Nat)) then c (f,g,e,i64.wrap (a+(1:Int)),d++ [(i64.wrap ((1:Int)+a),(1:Int))],h) else none else b (f,g,e,d,h)
def L_ref03_events_2 (fuel:Nat) (v:V_ref03_events_2) (b:W_ref03_events_2):Option Ans:=iter (S_ref03_events_2 fuel) fuel v b
def J177_2 (fuel:Nat) (i:Nat):Option Ev.Blk:=Ev.look i [(100000,B177_0 fuel)]
def T177_2 (v:V_ref03_events_2):Ev.St:=match v with | (a,b,d,e,f,g)=>⟨[(3,.c (.own 0)),(4,.c (i6 a)),(5,.c (i6 b)),(6,.c (.own 1)),(8,.c (i6 d)),(9,.c (i6 e))],[(0,.vec 221 (.pair (.int .i64) (.int .i64)) f true),(1,.vec 3 (.int .i64) g true)],2,0⟩
def E177_2 (K:KT):W_ref03_events_2:=(fun v=>match v with | (a,b,d,e,f)=>K .normal ⟨[(3,.c (.own 0)),(4,.c (i6 a)),(5,.c (i6 b)),(6,.c (.own 1)),(8,.c (i6 d))],[(0,.vec 221 (.pair (.int .i64) (.int .i64)) e true),(1,.vec 3 (.int .i64) f true)],2,0⟩)
theorem S177_2_ok (fuel:Nat) (R:Ev.St→OA) (K:KT) (a b:Int) (c d:Int) (e:(List (Int×Int))) (f:LI):evalCode tab (G177 fuel) (J177_2 fuel) kp177 fuel (bodyOf 2 Tryz.f177) (T177_2 (a,b,c,d,e,f)) (lc kp177 14 2 R K)=S_ref03_events_2 fuel (a,b,c,d,e,f) (fun v=>R (T177_2 v)) (E177_2 K):=by
  kernel_rfl
def B177_2 (fuel:Nat):Ev.Blk:=fun st K=>match canonO (kp177 14) st with | some s=>(match s with | ⟨[(f,.c (.own g)),(h,.c (i6 i)),(j,.c (i6 k)),(l,.c (.own m)),(n,.c (i6 o)),(p,.c (i6 q))],[(r,.vec t (.pair (.int .i64) (.int .i64)) u true),(a,.vec b (.int .i64) v true)],d,e⟩=>bif qb [f,g,h,j,l,m,n,p,r,t,a,b,d,e] [3,0,4,5,6,1,8,9,0,221,1,3,2,0] then iter (S_ref03_events_2 fuel) fuel (i,k,o,q,u,v) (E177_2 K) else none | _=>none) | none=>none
theorem B177_2_ok (fuel:Nat) (st:Ev.St) (K:KT) (r:Ans) (h:B177_2 fuel st K=some r):evalCode tab (G177 fuel) (J177_2 fuel) kp177 fuel (.block 2 (.loop (bodyOf 2 Tryz.f177))) st K=some r:=by
  unfold B177_2 at h
  split at h
  · rename_i s hs
    split at h
    · skip
      obtain ⟨hb,h⟩:=cond_some' h
      cases qb_eq hb
      exact blk_loop (S:=T177_2) (ks:=E177_2) (step:=S_ref03_events_2 fuel) (v:=(_,_,_,_,_,_)) (by kernel_rfl) (by kernel_rfl) (fun R K v=>by obtain ⟨a,b,c,d,e,f⟩:=v; exact S177_2_ok fuel R K a b c d e f) hs h
    · cases h
  · cases h
abbrev V_ref03_events_4:Type:=Int×Int×Int×Int×(List (Int×Int))×LI
abbrev W_ref03_events_4:Type:=(Int×Int×(List (Int×Int))→OA)
def S_ref03_events_4 (fuel:Nat) (v:Int×Int×Int×Int×(List (Int×Int))×(List Int)) (c:(Int×Int×Int×Int×(List (Int×Int))×(List Int))→Option Ans) (B:(Int×Int×(List (Int×Int))→Option Ans)):Option Ans:=match v,B with | (g,h,d,a,f,e),b=>bif decide (a < d) then bif a==(0:Int) then bif decide ((0:Int)≤i64.wrap (i64.wrap (d - (1:Int)) - a)∧i64.wrap (i64.wrap (d - (1:Int)) - a) < (↑e.length:Int)) then bif decide ((f.length+ [(i64.wrap ((23:Int)+d),e.getD (i64.wrap (i64.wrap (d - (1:Int)) - a)).toNat (0:Int))].length)*(16:Nat)≤(140737488355328:Nat)∧f.length+ [(i64.wrap ((23:Int)+d),e.getD (i64.wrap (i64.wrap (d - (1:Int)) - a)).toNat (0:Int))].length≤(140737488355328:Nat)) then c (g,h,d,i64.wrap (a+(1:Int)),f++ [(i64.wrap ((23:Int)+d),e.getD (i64.wrap (i64.wrap (d - (1:Int)) - a)).toNat (0:Int))],e) else none else none else bif decide ((0:Int)≤i64.wrap (i64.wrap (d - (1:Int)) - a)∧i64.wrap (i64.wrap (d - (1:Int)) - a) < (↑e.length:Int)) then bif decide ((f.length+ [(bif decide ((47:Int) < i64.wrap ((43:Int)+a)) then (47:Int) else i64.wrap ((43:Int)+a),e.getD (i64.wrap (i64.wrap (d - (1:Int)) - a)).toNat (0:Int))].length)*(16:Nat)≤(140737488355328:Nat)∧f.length+ [(bif decide ((47:Int) < i64.wrap ((43:Int)+a)) then (47:Int) else i64.wrap ((43:Int)+a),e.getD (i64.wrap (i64.wrap (d - (1:Int)) - a)).toNat (0:Int))].length≤(140737488355328:Nat)) then c (g,h,d,i64.wrap (a+(1:Int)),f++ [(bif decide ((47:Int) < i64.wrap ((43:Int)+a)) then (47:Int) else i64.wrap ((43:Int)+a),e.getD (i64.wrap (i64.wrap (d - (1:Int)) - a)).toNat (0:Int))],e) else none else none else b (g,h,f)
def L_ref03_events_4 (fuel:Nat) (v:V_ref03_events_4) (b:W_ref03_events_4):Option Ans:=iter (S_ref03_events_4 fuel) fuel v b
def J177_4 (fuel:Nat) (i:Nat):Option Ev.Blk:=Ev.look i [(100000,B177_0 fuel),(100002,B177_2 fuel)]
def T177_4 (v:V_ref03_events_4):Ev.St:=match v with | (a,b,d,e,f,g)=>⟨[(3,.c (.own 0)),(4,.c (i6 a)),(5,.c (i6 b)),(6,.c (.own 1)),(8,.c (i6 d)),(10,.c (i6 e))],[(0,.vec 221 (.pair (.int .i64) (.int .i64)) f true),(1,.vec 3 (.int .i64) g true)],2,0⟩
def E177_4 (K:KT):W_ref03_events_4:=(fun v=>match v with | (a,b,d)=>K .normal ⟨[(3,.c (.own 0)),(4,.c (i6 a)),(5,.c (i6 b))],[(0,.vec 221 (.pair (.int .i64) (.int .i64)) d true)],1,0⟩)
theorem S177_4_ok (fuel:Nat) (R:Ev.St→OA) (K:KT) (a b:Int) (c d:Int) (e:(List (Int×Int))) (f:LI):evalCode tab (G177 fuel) (J177_4 fuel) kp177 fuel (bodyOf 4 Tryz.f177) (T177_4 (a,b,c,d,e,f)) (lc kp177 20 4 R K)=S_ref03_events_4 fuel (a,b,c,d,e,f) (fun v=>R (T177_4 v)) (E177_4 K):=by
  kernel_rfl
def B177_4 (fuel:Nat):Ev.Blk:=fun st K=>match canonO (kp177 20) st with | some s=>(match s with | ⟨[(f,.c (.own g)),(h,.c (i6 i)),(j,.c (i6 k)),(l,.c (.own m)),(n,.c (i6 o)),(p,.c (i6 q))],[(r,.vec t (.pair (.int .i64) (.int .i64)) u true),(a,.vec b (.int .i64) v true)],d,e⟩=>bif qb [f,g,h,j,l,m,n,p,r,t,a,b,d,e] [3,0,4,5,6,1,8,10,0,221,1,3,2,0] then iter (S_ref03_events_4 fuel) fuel (i,k,o,q,u,v) (E177_4 K) else none | _=>none) | none=>none
theorem B177_4_ok (fuel:Nat) (st:Ev.St) (K:KT) (r:Ans) (h:B177_4 fuel st K=some r):evalCode tab (G177 fuel) (J177_4 fuel) kp177 fuel (.block 4 (.loop (bodyOf 4 Tryz.f177))) st K=some r:=by
  unfold B177_4 at h
  split at h
  · rename_i s hs
    split at h
    · skip
      obtain ⟨hb,h⟩:=cond_some' h
      cases qb_eq hb
      exact blk_loop (S:=T177_4) (ks:=E177_4) (step:=S_ref03_events_4 fuel) (v:=(_,_,_,_,_,_)) (by kernel_rfl) (by kernel_rfl) (fun R K v=>by obtain ⟨a,b,c,d,e,f⟩:=v; exact S177_4_ok fuel R K a b c d e f) hs h
    · cases h
  · cases h
def J177 (fuel:Nat) (i:Nat):Option Ev.Blk:=Ev.look i [(100000,B177_0 fuel),(100002,B177_2 fuel),(100004,B177_4 fuel)]
def F_ref03_events (fuel:Nat) (n:Bool) (j:Int) (k0:((List (Int×Int)))→Option Ans):Option Ans:=bif n then k0 ([(0,1)]) else bif decide (j < 0) then (L_ref03_events_0 fuel (i64.wrap (0 - j),1,i64.wrap (i64.wrap (0 - j)+1),[(0,0)],[]) (fun (k,l,m,f)=>(L_ref03_events_2 fuel (k,l,i64.wrap ((↑f.length:Int) - 1),0,m,f) (fun (g,h,c,d,i)=>bif decide (c < 20) then bif decide ((d.length+ [(i64.wrap ((1:Int)+c),(0:Int))].length)*(16:Nat)≤(140737488355328:Nat)∧d.length+ [(i64.wrap ((1:Int)+c),(0:Int))].length≤(140737488355328:Nat)) then (L_ref03_events_4 fuel (g,h,c,(0:Int),d++ [(i64.wrap ((1:Int)+c),(0:Int))],i) (fun (e,b,a)=>bif e != 0 then bif decide ((a.length+ [((22:Int),b)].length)*(16:Nat)≤(140737488355328:Nat)∧a.length+ [((22:Int),b)].length≤(140737488355328:Nat)) then k0 (a++ [((22:Int),b)]) else none else k0 a)) else none else (L_ref03_events_4 fuel (g,h,c,0,d,i) (fun (e,b,a)=>bif e != 0 then bif decide ((a.length+ [((22:Int),b)].length)*(16:Nat)≤(140737488355328:Nat)∧a.length+ [((22:Int),b)].length≤(140737488355328:Nat)) then k0 (a++ [((22:Int),b)]) else none else k0 a)))))) else (L_ref03_events_0 fuel (j,0,i64.wrap (j+1),[(0,0)],[]) (fun (k,l,m,f)=>(L_ref03_events_2 fuel (k,l,i64.wrap ((↑f.length:Int) - 1),0,m,f) (fun (g,h,c,d,i)=>bif decide (c < 20) then bif decide ((d.length+ [(i64.wrap ((1:Int)+c),(0:Int))].length)*(16:Nat)≤(140737488355328:Nat)∧d.length+ [(i64.wrap ((1:Int)+c),(0:Int))].length≤(140737488355328:Nat)) then (L_ref03_events_4 fuel (g,h,c,(0:Int),d++ [(i64.wrap ((1:Int)+c),(0:Int))],i) (fun (e,b,a)=>bif e != 0 then bif decide ((a.length+ [((22:Int),b)].length)*(16:Nat)≤(140737488355328:Nat)∧a.length+ [((22:Int),b)].length≤(140737488355328:Nat)) then k0 (a++ [((22:Int),b)]) else none else k0 a)) else none else (L_ref03_events_4 fuel (g,h,c,0,d,i) (fun (e,b,a)=>bif e != 0 then bif decide ((a.length+ [((22:Int),b)].length)*(16:Nat)≤(140737488355328:Nat)∧a.length+ [((22:Int),b)].length≤(140737488355328:Nat)) then k0 (a++ [((22:Int),b)]) else none else k0 a))))))
abbrev YF177:Type:=Bool→Int→(((List (Int×Int)))→Option Ans)→Option Ans
theorem F177_eq (fuel:Nat) (a:Bool) (b:Int) (k:Ev.Cont):evalFn tab (G177 fuel) (J177 fuel) kp177 fuel Tryz.f177 [.agg [.bool a,i6 b]] [] k=F_ref03_events fuel a b (fun r=>match r with | d=>k (.c (.own 0),[.vec 221 (.pair (.int .i64) (.int .i64)) d true])):=by
  kernel_rfl
theorem hG177 (fuel:Nat):GOK Tryz.prog (G177 fuel):=
  gok_nil
theorem B177_0_blk (fuel:Nat):BlkOK Tryz.prog Tryz.f177.ntmps (.block 0 (.loop (bodyOf 0 Tryz.f177))) (B177_0 fuel):=bo0 (hG177 fuel) (by kernel_rfl) (by kernel_rfl) (B177_0_ok fuel)
theorem B177_2_blk (fuel:Nat):BlkOK Tryz.prog Tryz.f177.ntmps (.block 2 (.loop (bodyOf 2 Tryz.f177))) (B177_2 fuel):=bo0 (hG177 fuel) (by kernel_rfl) (by kernel_rfl) (B177_2_ok fuel)
theorem B177_4_blk (fuel:Nat):BlkOK Tryz.prog Tryz.f177.ntmps (.block 4 (.loop (bodyOf 4 Tryz.f177))) (B177_4 fuel):=bo0 (hG177 fuel) (by kernel_rfl) (by kernel_rfl) (B177_4_ok fuel)
theorem fok177 (fuel:Nat):FnOK Tryz.prog 177 (evalFn tab (G177 fuel) (J177 fuel) kp177 fuel Tryz.f177):=
  fn_ok tab_ok (hG177 fuel) mixed Tryz.func177 (c:=(Tryz.f177.body).getD .skip) rfl (fun q hq=>by
    rw [(by kernel_rfl:obl (J177 fuel) ((Tryz.f177.body).getD .skip)= [(.block 0 (.loop (bodyOf 0 Tryz.f177)),B177_0 fuel),(.block 2 (.loop (bodyOf 2 Tryz.f177)),B177_2 fuel),(.block 4 (.loop (bodyOf 4 Tryz.f177)),B177_4 fuel)])] at hq
    simp only [List.mem_cons,List.not_mem_nil,or_false] at hq
    rcases hq with rfl | rfl | rfl
    · exact B177_0_blk fuel
    · exact B177_2_blk fuel
    · exact B177_4_blk fuel)
def spg177 (F:YF177):Ev.Spec:=fun args objs k=>match args,objs with | [.agg [.bool a,i6 b]],[]=>F a b (fun r=>match r with | d=>k (.c (.own 0),[.vec 221 (.pair (.int .i64) (.int .i64)) d true])) | _,_=>none
theorem ok177 (fuel:Nat):FnOK Tryz.prog 177 (spg177 (F_ref03_events fuel)):=by
  intro args objs kk r h
  unfold spg177 at h
  split at h
  · skip
    exact fok177 fuel _ _ kk r ((F177_eq fuel _ _ kk).trans h)
  · cases h
def kp176 (i:Nat):Option (List Nat):=Ev.look i []
def Gg176 (f:Nat):Option Ev.Spec:=Ev.look f []
def G176 (fuel:Nat):Nat→Option Ev.Spec:=Gg176
def F_ref03_room (fuel:Nat) (b a c:Int) (k0:(Bool)→Option Ans):Option Ans:=bif decide (a≥0) then bif decide (a≤b) then k0 (decide (c≤i64.wrap (b - a))) else k0 false else k0 false
abbrev YF176:Type:=Int→Int→Int→(Bool→Option Ans)→Option Ans
theorem F176_eq (fuel:Nat) (a b d:Int) (k:Ev.Cont):evalFn tab (G176 fuel) J0 kp176 fuel Tryz.f176 [.c (i6 a),.c (i6 b),.c (i6 d)] [] k=F_ref03_room fuel a b d (fun r=>match r with | e=>k (.c (.bool e),[])):=by
  kernel_rfl
theorem hG176 (fuel:Nat):GOK Tryz.prog (G176 fuel):=
  gok_nil
def spg176 (F:YF176):Ev.Spec:=fun args objs k=>match args,objs with | [.c (i6 a),.c (i6 b),.c (i6 d)],[]=>F a b d (fun r=>match r with | e=>k (.c (.bool e),[])) | _,_=>none
theorem ok176 (fuel:Nat):FnOK Tryz.prog 176 (spg176 (F_ref03_room fuel)):=by
  intro args objs kk r h
  unfold spg176 at h
  split at h
  · skip
    exact fo0 (hG176 fuel) Tryz.func176 rfl (by kernel_rfl) _ _ kk r ((F176_eq fuel _ _ _ kk).trans h)
  · cases h
def kp85_9ac (i:Nat):Option (List Nat):=Ev.look i [(5,[0,1,7,8,1000002]),(100000,[]),(200007,[7]),(400000,[6])]
def Gg85_9ac (b:YF88_e89) (a:YF138_2fe) (c:YF175) (d:YF176) (e:YF177) (f:Nat):Option Ev.Spec:=Ev.look f [(88,spg88_e89 b),(138,spg138_2fe a),(175,spg175 c),(176,spg176 d),(177,spg177 e)]
def G85_9ac (fuel:Nat):Nat→Option Ev.Spec:=Gg85_9ac (F_ref02_Encoder_Put_e89 fuel) (F_ref02_Encoder_Model_2fe fuel) (F_ref03_Valid fuel) (F_ref03_room fuel) (F_ref03_events fuel)
abbrev V_ref03_Put_9ac_0:Type:=Int×Int×Int×Int×Int×LI×LI×(List (Int×Int))
abbrev W_ref03_Put_9ac_0:Type:=(Int×Int×Int×LI×LI→OA)
def Sg_ref03_Put_9ac_0 (fuel:Nat) (q:YF88_e89) (r:YF138_2fe) (s:YF175) (t:YF176) (u:YF177) (j a:Int) (l m n:Int) (o p:LI) (d:(List (Int×Int))) (c:V_ref03_Put_9ac_0→OA) (B:W_ref03_Put_9ac_0):OA:=match B with | b=>bif decide (a < (↑d.length:Int)) then bif decide (0≤a∧a < (↑d.length:Int)) then bif decide (0≤a∧a < (↑d.length:Int)) then both ((q (i64.wrap (j+(d.getD a.toNat (0,0)).fst)) ((d.getD a.toNat (0,0)).snd) l m n o p (fun (k,e,f,g,h,i)=>c (j,i64.wrap (a+1),e,f,g,h,i,d)) (fun (k,e,f,g,h,i)=>c (j,i64.wrap (a+1),e,f,g,h,i,d)))) ((q (i64.wrap (j+(d.getD a.toNat (0,0)).fst)) ((d.getD a.toNat (0,0)).snd) l m n o p (fun (k,e,f,g,h,i)=>c (j,i64.wrap (a+1),e,f,g,h,i,d)) (fun (k,e,f,g,h,i)=>c (j,i64.wrap (a+1),e,f,g,h,i,d)))) else none else none else b (l,m,n,o,p)
def S_ref03_Put_9ac_0 (fuel:Nat) (v:Int×Int×Int×Int×Int×(List Int)×(List Int)×(List (Int×Int))) (c:(Int×Int×Int×Int×Int×(List Int)×(List Int)×(List (Int×Int)))→Option Ans) (B:(Int×Int×Int×(List Int)×(List Int)→Option Ans)):Option Ans:=match v with | (a,b,d,e,f,g,h,i)=>Sg_ref03_Put_9ac_0 fuel (F_ref02_Encoder_Put_e89 fuel) (F_ref02_Encoder_Model_2fe fuel) (F_ref03_Valid fuel) (F_ref03_room fuel) (F_ref03_events fuel) a b d e f g h i c B
def L_ref03_Put_9ac_0 (fuel:Nat) (v:V_ref03_Put_9ac_0) (b:W_ref03_Put_9ac_0):Option Ans:=iter (S_ref03_Put_9ac_0 fuel) fuel v b
def T85_9ac_0 (v:V_ref03_Put_9ac_0):Ev.St:=match v with | (a,b,d,e,f,g,h,i)=>⟨[(0,.c (.ptr 0 0)),(1,.c (i6 a)),(7,.c (.own 3)),(8,.c (i6 b))],[(0,.cells 187 [i6 d,.own 1,.int .u64 e,.int .u64 f,.own 2]),(1,.vec 3 (.int .i64) g false),(2,.vec 5 (.int .u8) h true),(3,.vec 221 (.pair (.int .i64) (.int .i64)) i true)],4,3⟩
def E85_9ac_0 (K:KT):W_ref03_Put_9ac_0:=(fun v=>match v with | (a,b,c,d,e)=>K .normal ⟨[],[(0,.cells 187 [i6 a,.own 1,.int .u64 b,.int .u64 c,.own 2]),(1,.vec 3 (.int .i64) d false),(2,.vec 5 (.int .u8) e true)],3,3⟩)
theorem S85_9ac_0_okg (fuel:Nat) (b:YF88_e89) (a:YF138_2fe) (c:YF175) (d:YF176) (e:YF177) (R:Ev.St→OA) (K:KT) (f g:Int) (h i j:Int) (k l:LI) (m:(List (Int×Int))):evalCode tab (Gg85_9ac b a c d e) J0 kp85_9ac fuel (bodyOf 0 Tryz.f85) (T85_9ac_0 (f,g,h,i,j,k,l,m)) (lc kp85_9ac 5 0 R K)=Sg_ref03_Put_9ac_0 fuel b a c d e f g h i j k l m (fun v=>R (T85_9ac_0 v)) (E85_9ac_0 K):=by
  kernel_rfl
def B85_9ac_0 (fuel:Nat):Ev.Blk:=fun st K=>match canonO (kp85_9ac 5) st with | some s=>(match s with | ⟨[(k,.c (.ptr l m)),(n,.c (i6 o)),(p,.c (.own q)),(r,.c (i6 t))],[(u,.cells v [i6 w,.own x,.int .u64 y,.int .u64 z,.own a]),(b,.vec d (.int .i64) A false),(e,.vec f (.int .u8) B true),(g,.vec h (.pair (.int .i64) (.int .i64)) C true)],i,j⟩=>bif qb [k,l,m,n,p,q,r,u,v,x,a,b,d,e,f,g,h,i,j] [0,0,0,1,7,3,8,0,187,1,2,1,3,2,5,3,221,4,3] then iter (S_ref03_Put_9ac_0 fuel) fuel (o,t,w,y,z,A,B,C) (E85_9ac_0 K) else none | _=>none) | none=>none
theorem B85_9ac_0_ok (fuel:Nat) (st:Ev.St) (K:KT) (r:Ans) (h:B85_9ac_0 fuel st K=some r):evalCode tab (G85_9ac fuel) J0 kp85_9ac fuel (.block 0 (.loop (bodyOf 0 Tryz.f85))) st K=some r:=by
  unfold B85_9ac_0 at h
  split at h
  · rename_i s hs
    split at h
    · skip
      obtain ⟨hb,h⟩:=cond_some' h
      cases qb_eq hb
      exact blk_loop (S:=T85_9ac_0) (ks:=E85_9ac_0) (step:=S_ref03_Put_9ac_0 fuel) (v:=(_,_,_,_,_,_,_,_)) (by kernel_rfl) (by kernel_rfl) (fun R K v=>by obtain ⟨a,b,c,d,e,f,g,i⟩:=v; exact S85_9ac_0_okg fuel (F_ref02_Encoder_Put_e89 fuel) (F_ref02_Encoder_Model_2fe fuel) (F_ref03_Valid fuel) (F_ref03_room fuel) (F_ref03_events fuel) R K a b c d e f g i) hs h
    · cases h
  · cases h
def J85_9ac (fuel:Nat) (i:Nat):Option Ev.Blk:=Ev.look i [(100000,B85_9ac_0 fuel)]
def F_ref03_Put_9ac (fuel:Nat) (f:Int) (g:Bool) (h i:Int) (j k:Int) (l m:(List Int)) (k0:(Int×Int×Int×Int×(List Int)×(List Int))→Option Ans):Option Ans:=(F_ref03_Valid fuel g h (fun v=>bif !v then k0 (2,i,j,k,l,m) else (F_ref02_Encoder_Model_2fe fuel i j k l m (fun (w,a,b,c,d,e,n)=>(F_ref03_room fuel ((↑n.length:Int)) f (48) (fun t=>bif !t then k0 (2,a,b,c,d,e) else (F_ref03_events fuel g h (fun u=>(L_ref03_Put_9ac_0 fuel (f,0,a,b,c,d,e,u) (fun (o,p,q,r,s)=>k0 (0,o,p,q,r,s)))))))))))
abbrev YF85_9ac:Type:=Int→Bool→Int→Int→Int→Int→LI→LI→((Int×Int×Int×Int×LI×LI)→Option Ans)→Option Ans
theorem F85_9ac_eqg (fuel:Nat) (u:YF88_e89) (j:YF138_2fe) (l:YF175) (m:YF176) (n:YF177) (a:Int) (b:Bool) (d e:Int) (f g:Int) (h i:LI) (k:Ev.Cont):evalFn tab (Gg85_9ac u j l m n) (J85_9ac fuel) kp85_9ac fuel Tryz.f85 [.c (.ptr 0 0),.c (i6 a),.agg [.bool b,i6 d]] [.cells 187 [i6 e,.own 1,.int .u64 f,.int .u64 g,.own 2],.vec 3 (.int .i64) h false,.vec 5 (.int .u8) i false] (wkC [1000002] k)=(fun  (k0:(Int×Int×Int×Int×LI×LI)→OA)=>
  (l b d
  (fun D=>
  bif !D then
  k0 ((2:Int),e,f,g,h,i)
  else
  (j e f g h i
  (fun (K,o,p,q,s,t,v)=>
  (m ((↑v.length:Int)) a ((48:Int))
  (fun B=>
  bif !B then
  k0 ((2:Int),o,p,q,s,t)
  else
  (n b d
  (fun C=>
  (L_ref03_Put_9ac_0 fuel (a,(0:Int),o,p,q,s,t,C)
  (fun (w,x,y,z,A)=>
  k0 ((0:Int),w,x,y,z,A)))))))))))) (fun r=>match r with | (E,F,G,H,I,J)=>k (.c (i6 E),[.cells 187 [i6 F,.own 1,.int .u64 G,.int .u64 H,.own 2],.vec 3 (.int .i64) I false,.vec 5 (.int .u8) J true])):=by
  kernel_rfl
theorem hG85_9ac (fuel:Nat):GOK Tryz.prog (G85_9ac fuel):=
  gc (ok88_e89 fuel) Tryz.func88 (by kernel_rfl) rfl <|
  gc (ok138_2fe fuel) Tryz.func138 (by kernel_rfl) rfl <|
  gc (ok175 fuel) Tryz.func175 (by kernel_rfl) rfl <|
  gc (ok176 fuel) Tryz.func176 (by kernel_rfl) rfl <|
  gc (ok177 fuel) Tryz.func177 (by kernel_rfl) rfl <|
  gok_nil
theorem B85_9ac_0_blk (fuel:Nat):BlkOK Tryz.prog Tryz.f85.ntmps (.block 0 (.loop (bodyOf 0 Tryz.f85))) (B85_9ac_0 fuel):=bo0 (hG85_9ac fuel) (by kernel_rfl) (by kernel_rfl) (B85_9ac_0_ok fuel)
theorem fok85_9ac (fuel:Nat):FnOK Tryz.prog 85 (evalFn tab (G85_9ac fuel) (J85_9ac fuel) kp85_9ac fuel Tryz.f85):=
  fn_ok tab_ok (hG85_9ac fuel) mixed Tryz.func85 (c:=(Tryz.f85.body).getD .skip) rfl (fun q hq=>by
    rw [(by kernel_rfl:obl (J85_9ac fuel) ((Tryz.f85.body).getD .skip)= [(.block 0 (.loop (bodyOf 0 Tryz.f85)),B85_9ac_0 fuel)])] at hq
    simp only [List.mem_cons,List.not_mem_nil,or_false] at hq
    subst hq
    · exact B85_9ac_0_blk fuel)
def spg85_9ac (F:YF85_9ac):Ev.Spec:=fun args objs k=>match args,objs with | [.c (.ptr a b),.c (i6 d),.agg [.bool e,i6 f]],[.cells g [i6 h,.own i,.int .u64 j,.int .u64 l,.own m],.vec n (.int .i64) o false,.vec p (.int .u8) q false]=>bif qb [a,b,g,i,m,n,p] [0,0,187,1,2,3,5] then F d e f h j l o q (fun r=>match r with | (s,t,u,v,w,x)=>k (.c (i6 s),[.cells 187 [i6 t,.own 1,.int .u64 u,.int .u64 v,.own 2],.vec 3 (.int .i64) w false,.vec 5 (.int .u8) x true])) else none | _,_=>none
theorem ok85_9ac (fuel:Nat):FnOK Tryz.prog 85 (spg85_9ac (F_ref03_Put_9ac fuel)):=by
  intro args objs kk r h
  unfold spg85_9ac at h
  split at h
  · skip
    obtain ⟨hb,h⟩:=cond_some' h
    cases qb_eq hb
    exact (fok85_9ac fuel).wk [1000002] _ _ kk r ((F85_9ac_eqg fuel (F_ref02_Encoder_Put_e89 fuel) (F_ref02_Encoder_Model_2fe fuel) (F_ref03_Valid fuel) (F_ref03_room fuel) (F_ref03_events fuel) _ _ _ _ _ _ _ _ kk).trans h)
  · cases h
def kp178 (i:Nat):Option (List Nat):=Ev.look i []
def Gg178 (f:Nat):Option Ev.Spec:=Ev.look f []
def G178 (fuel:Nat):Nat→Option Ev.Spec:=Gg178
def F_ref03_isId (fuel:Nat) (a b:Int) (k0:(Bool)→Option Ans):Option Ans:=bif decide (a≥0) then bif decide (a≤10) then bif decide (b≥0) then bif decide (a < 0) then none else k0 (decide (b < Ev.ishl IntKind.i64 1 a)) else k0 false else k0 false else k0 false
abbrev YF178:Type:=Int→Int→(Bool→Option Ans)→Option Ans
theorem F178_eq (fuel:Nat) (a b:Int) (k:Ev.Cont):evalFn tab (G178 fuel) J0 kp178 fuel Tryz.f178 [.c (i6 a),.c (i6 b)] [] k=F_ref03_isId fuel a b (fun r=>match r with | d=>k (.c (.bool d),[])):=by
  kernel_rfl
theorem hG178 (fuel:Nat):GOK Tryz.prog (G178 fuel):=
  gok_nil
def spg178 (F:YF178):Ev.Spec:=fun args objs k=>match args,objs with | [.c (i6 a),.c (i6 b)],[]=>F a b (fun r=>match r with | d=>k (.c (.bool d),[])) | _,_=>none
theorem ok178 (fuel:Nat):FnOK Tryz.prog 178 (spg178 (F_ref03_isId fuel)):=by
  intro args objs kk r h
  unfold spg178 at h
  split at h
  · skip
    exact fo0 (hG178 fuel) Tryz.func178 rfl (by kernel_rfl) _ _ kk r ((F178_eq fuel _ _ kk).trans h)
  · cases h
end
end Go.Proofs.YtipdidpalcmlhaaGreat

