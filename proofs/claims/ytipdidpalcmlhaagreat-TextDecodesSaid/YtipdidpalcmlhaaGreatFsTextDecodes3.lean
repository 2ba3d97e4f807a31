/- What the functions that TextDecodes reaches do: their typed texts, each with the proof that the machine does it. No condition. -/
import Derived.Test.YtipdidpalcmlhaaGreatEvX
import Derived.Test.YtipdidpalcmlhaaGreatFsTextDecodes2
import Derived.Test.YtipdidpalcmlhaaGreatEvY
import Derived.Test.YtipdidpalcmlhaaGreatEvU
import Derived.Test.YtipdidpalcmlhaaGreatFsTextDecodes1
set_option linter.unusedVariables false
set_option linter.unusedSimpArgs false
set_option linter.unusedSectionVars false
set_option linter.unusedVariables false
set_option linter.unusedSimpArgs false
set_option maxRecDepth 100000
set_option maxHeartbeats 2000000
namespace Go.Proofs.YtipdidpalcmlhaaGreat
open Go Ev
open Go.IntKind (i64 u64 u8 i32 u32 u16)
noncomputable section
def kp240_aa3 (i:Nat):Option (List Nat):=Ev.look i [(5,[0,1,4,8]),(14,[0,1,4,8,9,10,49,50]),(100000,[0,1,4,8]),(100002,[0,1,4,9]),(400000,[4,5]),(400002,[4,5])]
def Gg240_aa3 (a:YF146_aa3) (b:YF236) (f:Nat):Option Ev.Spec:=Ev.look f [(146,spg146_aa3 a),(236,spg236 b)]
def G240_aa3 (fuel:Nat):Nat→Option Ev.Spec:=Gg240_aa3 (F_coder_Decoder_Get_aa3 fuel) (F_number_tail_take fuel)
abbrev V_number_get_aa3_0:Type:=Int×Int×Int×Int×Int×Int×Int×Int×Bool×Bool×LI×LI×Bool×Int
abbrev W_number_get_aa3_0:Type:=(Int×Int×Int×Int×Int×Int×Int×Bool×Bool×LI×LI×Bool×Int→OA)×(Int×Int×Int×Int×Int×Int×Int×Int×Bool×Bool×LI×LI×Bool×Int→OA)
def Sg_number_get_aa3_0 (fuel:Nat) (C:YF146_aa3) (E:YF236) (d a:Int) (t u:Int) (v w:Int) (x y:Int) (z A:Bool) (r s:LI) (o:Bool) (p:Int) (c:V_number_get_aa3_0→OA) (B:W_number_get_aa3_0):OA:=match B with | (ret,b)=>bif decide (a < 20) then (C (i64.wrap (i64.wrap (d+1)+a)) t u v w x y z A r s (fun (D,q,g,h,i,j,k,l,m,n,e,f)=>bif q != 0 then ret (q,g,h,i,j,k,l,m,n,e,f,false,0) else bif D==0 then b (d,a,g,h,i,j,k,l,m,n,e,f,o,p) else c (d,i64.wrap (a+1),g,h,i,j,k,l,m,n,e,f,o,p))) else b (d,a,t,u,v,w,x,y,z,A,r,s,o,p)
def S_number_get_aa3_0 (fuel:Nat) (v:Int×Int×Int×Int×Int×Int×Int×Int×Bool×Bool×(List Int)×(List Int)×Bool×Int) (c:(Int×Int×Int×Int×Int×Int×Int×Int×Bool×Bool×(List Int)×(List Int)×Bool×Int)→Option Ans) (B:(Int×Int×Int×Int×Int×Int×Int×Bool×Bool×(List Int)×(List Int)×Bool×Int→Option Ans)×(Int×Int×Int×Int×Int×Int×Int×Int×Bool×Bool×(List Int)×(List Int)×Bool×Int→Option Ans)):Option Ans:=match v with | (f,g,h,i,j,k,l,m,n,o,a,b,d,e)=>Sg_number_get_aa3_0 fuel (F_coder_Decoder_Get_aa3 fuel) (F_number_tail_take fuel) f g h i j k l m n o a b d e c B
def L_number_get_aa3_0 (fuel:Nat) (v:V_number_get_aa3_0) (ret:(Int×Int×Int×Int×Int×Int×Int×Bool×Bool×(List Int)×(List Int)×Bool×Int→Option Ans)) (b:(Int×Int×Int×Int×Int×Int×Int×Int×Bool×Bool×(List Int)×(List Int)×Bool×Int→Option Ans)):Option Ans:=iter (S_number_get_aa3_0 fuel) fuel v (ret,b)
def T240_aa3_0 (v:V_number_get_aa3_0):Ev.St:=match v with | (f,g,h,i,j,k,l,m,n,o,a,b,d,e)=>⟨[(0,.c (.ptr 0 0)),(1,.c (i6 f)),(4,.c (.ptr 3 0)),(8,.c (i6 g))],[(0,.cells 194 (i6 h::.own 1::ctb (.int .u64 i::.int .u64 j::.own 2::i6 k::.int .u64 l::i6 m::.bool n::.bool o::[]))),(1,.vec 3 (.int .i64) a false),(2,.vec 5 (.int .u8) b false),(3,.cells 124 [.bool d,i6 e])],4,3⟩
def E240_aa3_0 (K:KT):W_number_get_aa3_0:=((fun v=>match v with | (e,f,g,h,i,j,k,l,m,n,a,b,d)=>K .ret ⟨[(4,.c (.ptr 3 0)),(5,.c (i6 e))],[(0,.cells 194 (i6 f::.own 1::ctb (.int .u64 g::.int .u64 h::.own 2::i6 i::.int .u64 j::i6 k::.bool l::.bool m::[]))),(1,.vec 3 (.int .i64) n false),(2,.vec 5 (.int .u8) a false),(3,.cells 124 [.bool b,i6 d])],4,3⟩),(fun v=>match v with | (e,f,g,h,i,j,k,l,m,n,a,b,d,o)=>K .normal ⟨[(0,.c (.ptr 0 0)),(1,.c (i6 e)),(4,.c (.ptr 3 0)),(8,.c (i6 f))],[(0,.cells 194 (i6 g::.own 1::ctb (.int .u64 h::.int .u64 i::.own 2::i6 j::.int .u64 k::i6 l::.bool m::.bool n::[]))),(1,.vec 3 (.int .i64) a false),(2,.vec 5 (.int .u8) b false),(3,.cells 124 [.bool d,i6 o])],4,3⟩))
theorem S240_aa3_0_okg (fuel:Nat) (a:YF146_aa3) (b:YF236) (R:Ev.St→OA) (K:KT) (g h:Int) (i j:Int) (k l:Int) (m n:Int) (o p:Bool) (c d:LI) (e:Bool) (f:Int):evalCode tab (Gg240_aa3 a b) J0 kp240_aa3 fuel (bodyOf 0 Tryz.f240) (T240_aa3_0 (g,h,i,j,k,l,m,n,o,p,c,d,e,f)) (lc kp240_aa3 5 0 R K)=Sg_number_get_aa3_0 fuel a b g h i j k l m n o p c d e f (fun v=>R (T240_aa3_0 v)) (E240_aa3_0 K):=by
  kernel_rfl
def B240_aa3_0 (fuel:Nat):Ev.Blk:=fun st K=>match canonO (kp240_aa3 5) st with | some s=>(match s with | ⟨[(q,.c (.ptr r t)),(u,.c (i6 v)),(w,.c (.ptr x y)),(z,.c (i6 A))],[(B,.cells C a),(b,.vec d (.int .i64) e false),(f,.vec g (.int .u8) h false),(i,.cells j [.bool k,i6 l])],m,n⟩=>(match splitRun 2 ctn a with | some ([i6 D,.own o],[.int .u64 E,.int .u64 F,.own p,i6 G,.int .u64 H,i6 I,.bool J,.bool L])=>bif qb [q,r,t,u,w,x,y,z,B,C,b,d,f,g,i,j,m,n,o,p] [0,0,0,1,4,3,0,8,0,194,1,3,2,5,3,124,4,3,1,2] then iter (S_number_get_aa3_0 fuel) fuel (v,A,D,E,F,G,H,I,J,L,e,h,k,l) (E240_aa3_0 K) else none | _=>none) | _=>none) | none=>none
theorem B240_aa3_0_ok (fuel:Nat) (st:Ev.St) (K:KT) (r:Ans) (h:B240_aa3_0 fuel st K=some r):evalCode tab (G240_aa3 fuel) J0 kp240_aa3 fuel (.block 0 (.loop (bodyOf 0 Tryz.f240))) st K=some r:=by
  unfold B240_aa3_0 at h
  split at h
  · rename_i s hs
    split at h
    · skip
      split at h
      rotate_left 1
      · cases h
      rename_i hsp
      have esp:=splitRun_eq hsp
      subst esp
      obtain ⟨hb,h⟩:=cond_some' h
      cases qb_eq hb
      exact blk_loop (S:=T240_aa3_0) (ks:=E240_aa3_0) (step:=S_number_get_aa3_0 fuel) (v:=(_,_,_,_,_,_,_,_,_,_,_,_,_,_)) (by kernel_rfl) (by kernel_rfl) (fun R K v=>by obtain ⟨e,f,g,i,j,k,l,m,n,o,a,b,c,d⟩:=v; exact S240_aa3_0_okg fuel (F_coder_Decoder_Get_aa3 fuel) (F_number_tail_take fuel) R K e f g i j k l m n o a b c d) hs h
    · cases h
  · cases h
abbrev V_number_get_aa3_2:Type:=Int×Int×Int×Int×Int×Int×Int×Int×Int×Int×Int×Bool×Bool×LI×LI×Bool×Int×Int
abbrev W_number_get_aa3_2:Type:=(Int×Int×Int×Int×Int×Int×Int×Bool×Bool×LI×LI×Bool×Int→OA)×(Int×Int×Int×Int×Int×Int×Int×Int×Bool×Bool×LI×LI×Bool×Int→OA)
def Sg_number_get_aa3_2 (fuel:Nat) (v:YF146_aa3) (T:YF236) (a n:Int) (o p:Int) (e q:Int) (r s:Int) (t u g:Int) (h i:Bool) (j k:LI) (l:Bool) (m S:Int) (c:V_number_get_aa3_2→OA) (B:W_number_get_aa3_2):OA:=match B with | (ret,b)=>bif decide (e < p) then bif decide (e > 0) then (T S (fun (f,d)=>(v (i64.wrap (a+f)) q r s t u g h i j k (fun (U,A,C,D,E,F,G,H,I,J,w,x)=>bif A != 0 then ret (A,C,D,E,F,G,H,I,J,w,x,false,0) else c (a,n,i64.wrap (i64.wrap (2*o)+U),p,i64.wrap (e+1),C,D,E,F,G,H,I,J,w,x,l,m,d))))) else (v (i64.wrap (a+i64.wrap (23+n))) q r s t u g h i j k (fun (f,d,K,L,M,N,O,P,Q,R,y,z)=>bif d != 0 then ret (d,K,L,M,N,O,P,Q,R,y,z,false,0) else c (a,n,i64.wrap (i64.wrap (2*o)+f),p,i64.wrap (e+1),K,L,M,N,O,P,Q,R,y,z,l,m,S))) else b (a,o,q,r,s,t,u,g,h,i,j,k,l,m)
def S_number_get_aa3_2 (fuel:Nat) (v:Int×Int×Int×Int×Int×Int×Int×Int×Int×Int×Int×Bool×Bool×(List Int)×(List Int)×Bool×Int×Int) (c:(Int×Int×Int×Int×Int×Int×Int×Int×Int×Int×Int×Bool×Bool×(List Int)×(List Int)×Bool×Int×Int)→Option Ans) (B:(Int×Int×Int×Int×Int×Int×Int×Bool×Bool×(List Int)×(List Int)×Bool×Int→Option Ans)×(Int×Int×Int×Int×Int×Int×Int×Int×Bool×Bool×(List Int)×(List Int)×Bool×Int→Option Ans)):Option Ans:=match v with | (j,k,l,m,n,o,p,q,r,s,a,b,d,e,f,g,h,i)=>Sg_number_get_aa3_2 fuel (F_coder_Decoder_Get_aa3 fuel) (F_number_tail_take fuel) j k l m n o p q r s a b d e f g h i c B
def L_number_get_aa3_2 (fuel:Nat) (v:V_number_get_aa3_2) (ret:(Int×Int×Int×Int×Int×Int×Int×Bool×Bool×(List Int)×(List Int)×Bool×Int→Option Ans)) (b:(Int×Int×Int×Int×Int×Int×Int×Int×Bool×Bool×(List Int)×(List Int)×Bool×Int→Option Ans)):Option Ans:=iter (S_number_get_aa3_2 fuel) fuel v (ret,b)
def J240_aa3_2 (fuel:Nat) (i:Nat):Option Ev.Blk:=Ev.look i [(100000,B240_aa3_0 fuel)]
def T240_aa3_2 (v:V_number_get_aa3_2):Ev.St:=match v with | (j,k,l,m,n,o,p,q,r,s,a,b,d,e,f,g,h,i)=>⟨[(0,.c (.ptr 0 0)),(1,.c (i6 j)),(4,.c (.ptr 3 0)),(8,.c (i6 k)),(9,.c (i6 l)),(10,.c (.ptr 4 0)),(49,.c (i6 m)),(50,.c (i6 n))],[(0,.cells 194 (i6 o::.own 1::ctb (.int .u64 p::.int .u64 q::.own 2::i6 r::.int .u64 s::i6 a::.bool b::.bool d::[]))),(1,.vec 3 (.int .i64) e false),(2,.vec 5 (.int .u8) f false),(3,.cells 124 [.bool g,i6 h]),(4,.cells 269 [i6 i])],5,3⟩
def E240_aa3_2 (K:KT):W_number_get_aa3_2:=((fun v=>match v with | (e,f,g,h,i,j,k,l,m,n,a,b,d)=>K .ret ⟨[(4,.c (.ptr 3 0)),(5,.c (i6 e))],[(0,.cells 194 (i6 f::.own 1::ctb (.int .u64 g::.int .u64 h::.own 2::i6 i::.int .u64 j::i6 k::.bool l::.bool m::[]))),(1,.vec 3 (.int .i64) n false),(2,.vec 5 (.int .u8) a false),(3,.cells 124 [.bool b,i6 d])],4,3⟩),(fun v=>match v with | (e,f,g,h,i,j,k,l,m,n,a,b,d,o)=>K .normal ⟨[(0,.c (.ptr 0 0)),(1,.c (i6 e)),(4,.c (.ptr 3 0)),(9,.c (i6 f))],[(0,.cells 194 (i6 g::.own 1::ctb (.int .u64 h::.int .u64 i::.own 2::i6 j::.int .u64 k::i6 l::.bool m::.bool n::[]))),(1,.vec 3 (.int .i64) a false),(2,.vec 5 (.int .u8) b false),(3,.cells 124 [.bool d,i6 o])],4,3⟩))
theorem S240_aa3_2_okg (fuel:Nat) (a:YF146_aa3) (b:YF236) (R:Ev.St→OA) (K:KT) (k l:Int) (m n:Int) (o p:Int) (q r:Int) (s t c:Int) (d e:Bool) (f g:LI) (h:Bool) (i j:Int):evalCode tab (Gg240_aa3 a b) (J240_aa3_2 fuel) kp240_aa3 fuel (bodyOf 2 Tryz.f240) (T240_aa3_2 (k,l,m,n,o,p,q,r,s,t,c,d,e,f,g,h,i,j)) (lc kp240_aa3 14 2 R K)=Sg_number_get_aa3_2 fuel a b k l m n o p q r s t c d e f g h i j (fun v=>R (T240_aa3_2 v)) (E240_aa3_2 K):=by
  kernel_rfl
def B240_aa3_2 (fuel:Nat):Ev.Blk:=fun st K=>match canonO (kp240_aa3 14) st with | some s=>(match s with | ⟨[(D,.c (.ptr E F)),(G,.c (i6 H)),(I,.c (.ptr J L)),(M,.c (i6 N)),(O,.c (i6 P)),(Q,.c (.ptr a b)),(d,.c (i6 R)),(e,.c (i6 S))],[(f,.cells g h),(i,.vec j (.int .i64) k false),(l,.vec m (.int .u8) n false),(o,.cells p [.bool q,i6 r]),(t,.cells u [i6 v])],w,x⟩=>(match splitRun 2 ctn h with | some ([i6 T,.own y],[.int .u64 U,.int .u64 V,.own z,i6 W,.int .u64 X,i6 A,.bool B,.bool C])=>bif qb [D,E,F,G,I,J,L,M,O,Q,a,b,d,e,f,g,i,j,l,m,o,p,t,u,w,x,y,z] [0,0,0,1,4,3,0,8,9,10,4,0,49,50,0,194,1,3,2,5,3,124,4,269,5,3,1,2] then iter (S_number_get_aa3_2 fuel) fuel (H,N,P,R,S,T,U,V,W,X,A,B,C,k,n,q,r,v) (E240_aa3_2 K) else none | _=>none) | _=>none) | none=>none
theorem B240_aa3_2_ok (fuel:Nat) (st:Ev.St) (K:KT) (r:Ans) (h:B240_aa3_2 fuel st K=some r):evalCode tab (G240_aa3 fuel) (J240_aa3_2 fuel) kp240_aa3 fuel (.block 2 (.loop (bodyOf 2 Tryz.f240))) st K=some r:=by
  unfold B240_aa3_2 at h
  split at h
  · rename_i s hs
    split at h
    · skip
      split at h
      rotate_left 1
      · cases h
      rename_i hsp
      have esp:=splitRun_eq hsp
      subst esp
      obtain ⟨hb,h⟩:=cond_some' h
      cases qb_eq hb
      exact blk_loop (S:=T240_aa3_2) (ks:=E240_aa3_2) (step:=S_number_get_aa3_2 fuel) (v:=(_,_,_,_,_,_,_,_,_,_,_,_,_,_,_,_,_,_)) (by kernel_rfl) (by kernel_rfl) (fun R K v=>by obtain ⟨j,k,l,m,n,o,p,q,t,u,a,b,c,d,e,f,g,i⟩:=v; exact S240_aa3_2_okg fuel (F_coder_Decoder_Get_aa3 fuel) (F_number_tail_take fuel) R K j k l m n o p q t u a b c d e f g i) hs h
    · cases h
  · cases h
def J240_aa3 (fuel:Nat) (i:Nat):Option Ev.Blk:=Ev.look i [(100000,B240_aa3_0 fuel),(100002,B240_aa3_2 fuel)]
def Fg_number_get_aa3 (fuel:Nat) (w:YF146_aa3) (b2:YF236) (J a1:Int) (a2 a3:Int) (a4 a5 a6:Int) (a7 a8:Bool) (a9 a0:LI) (k0:(Bool×Int×Int×Int×Int×Int×Int×Int×Int×Bool×Bool×LI×LI)→OA):OA:=(w J a1 a2 a3 a4 a5 a6 a7 a8 a9 a0 (fun (P,a,f,g,h,i,j,k,l,m,b,c)=>bif a != 0 then k0 (a==0,0,a,f,g,h,i,j,k,l,m,b,c) else bif P==1 then k0 (a==0,0,a,f,g,h,i,j,k,l,m,b,c) else (L_number_get_aa3_0 fuel (J,0,f,g,h,i,j,k,l,m,b,c,false,0) (fun (ret0_0,ret0_1,ret0_2,ret0_3,ret0_4,ret0_5,ret0_6,ret0_7,ret0_8,ret0_9,ret0_10,ret0_11,ret0_12)=>k0 (ret0_11,ret0_12,ret0_0,ret0_1,ret0_2,ret0_3,ret0_4,ret0_5,ret0_6,ret0_7,ret0_8,ret0_9,ret0_10)) (fun (Q,I,R,S,T,U,V,W,X,Y,K,L,M,N)=>(L_number_get_aa3_2 fuel (Q,I,1,I,0,R,S,T,U,V,W,X,Y,K,L,M,N,44) (fun (ret2_0,ret2_1,ret2_2,ret2_3,ret2_4,ret2_5,ret2_6,ret2_7,ret2_8,ret2_9,ret2_10,ret2_11,ret2_12)=>k0 (ret2_11,ret2_12,ret2_0,ret2_1,ret2_2,ret2_3,ret2_4,ret2_5,ret2_6,ret2_7,ret2_8,ret2_9,ret2_10)) (fun (Z,n,o,p,q,r,s,t,u,v,d,e,b0,b1)=>bif decide (n > 1048577) then k0 (false,0,3,o,p,q,r,s,t,u,v,d,e) else bif n==1 then k0 (false,0,0,o,p,q,r,s,t,u,v,d,e) else (w (i64.wrap (Z+22)) o p q r s t u v d e (fun (O,z,A,B,C,D,E,F,G,H,x,y)=>bif z != 0 then k0 (false,0,z,A,B,C,D,E,F,G,H,x,y) else k0 (false,i64.wrap (i64.wrap (n - 1)*i64.wrap (1 - i64.wrap (2*O))),0,A,B,C,D,E,F,G,H,x,y)))))))))
abbrev YF240_aa3:Type:=Int→Int→Int→Int→Int→Int→Int→Bool→Bool→LI→LI→((Bool×Int×Int×Int×Int×Int×Int×Int×Int×Bool×Bool×LI×LI)→Option Ans)→Option Ans
def F_number_get_aa3 (fuel:Nat):YF240_aa3:=Fg_number_get_aa3 fuel (F_coder_Decoder_Get_aa3 fuel) (F_number_tail_take fuel)
theorem F240_aa3_eqg (fuel:Nat) (a:YF146_aa3) (b:YF236) (e f:Int) (g h:Int) (i j l:Int) (m n:Bool) (o d:LI) (k:Ev.Cont):evalFn tab (Gg240_aa3 a b) (J240_aa3 fuel) kp240_aa3 fuel Tryz.f240 [.c (.ptr 0 0),.c (i6 e)] [.cells 194 (i6 f::.own 1::ctb (.int .u64 g::.int .u64 h::.own 2::i6 i::.int .u64 j::i6 l::.bool m::.bool n::[])),.vec 3 (.int .i64) o false,.vec 5 (.int .u8) d false] k=Fg_number_get_aa3 fuel a b e f g h i j l m n o d (fun r=>match r with | (t,u,v,w,x,y,z,A,B,C,p,q,s)=>k (.tup [(true,[.bool t,i6 u]),(false,[i6 v])],[.cells 194 (i6 w::.own 1::ctb (.int .u64 x::.int .u64 y::.own 2::i6 z::.int .u64 A::i6 B::.bool C::.bool p::[])),.vec 3 (.int .i64) q false,.vec 5 (.int .u8) s false])):=by
  kernel_rfl
theorem hG240_aa3 (fuel:Nat):GOK Tryz.prog (G240_aa3 fuel):=
  gc (ok146_aa3 fuel) Tryz.func146 (by kernel_rfl) rfl <|
  gc (ok236 fuel) Tryz.func236 (by kernel_rfl) rfl <|
  gok_nil
theorem B240_aa3_0_blk (fuel:Nat):BlkOK Tryz.prog Tryz.f240.ntmps (.block 0 (.loop (bodyOf 0 Tryz.f240))) (B240_aa3_0 fuel):=bo0 (hG240_aa3 fuel) (by kernel_rfl) (by kernel_rfl) (B240_aa3_0_ok fuel)
theorem B240_aa3_2_blk (fuel:Nat):BlkOK Tryz.prog Tryz.f240.ntmps (.block 2 (.loop (bodyOf 2 Tryz.f240))) (B240_aa3_2 fuel):=bo0 (hG240_aa3 fuel) (by kernel_rfl) (by kernel_rfl) (B240_aa3_2_ok fuel)
theorem fok240_aa3 (fuel:Nat):FnOK Tryz.prog 240 (evalFn tab (G240_aa3 fuel) (J240_aa3 fuel) kp240_aa3 fuel Tryz.f240):=
  fn_ok tab_ok (hG240_aa3 fuel) mixed Tryz.func240 (c:=(Tryz.f240.body).getD .skip) rfl (fun q hq=>by
    rw [(by kernel_rfl:obl (J240_aa3 fuel) ((Tryz.f240.body).getD .skip)= [(.block 0 (.loop (bodyOf 0 Tryz.f240)),B240_aa3_0 fuel),(.block 2 (.loop (bodyOf 2 Tryz.f240)),B240_aa3_2 fuel)])] at hq
    simp only [List.mem_cons,List.not_mem_nil,or_false] at hq
    rcases hq with rfl | rfl
    · exact B240_aa3_0_blk fuel
    · exact B240_aa3_2_blk fuel)
def spg240_aa3 (F:YF240_aa3):Ev.Spec:=fun args objs k=>match args,objs with | [.c (.ptr g h),.c (i6 i)],[.cells j a,.vec l (.int .i64) m false,.vec n (.int .u8) b false]=>(match splitRun 2 ctn a with | some ([i6 o,.own p],[.int .u64 q,.int .u64 s,.own t,i6 u,.int .u64 v,i6 w,.bool x,.bool y])=>bif qb [g,h,j,l,n,p,t] [0,0,194,3,5,1,2] then F i o q s u v w x y m b (fun r=>match r with | (z,A,B,C,D,E,G,H,I,J,d,e,f)=>k (.tup [(true,[.bool z,i6 A]),(false,[i6 B])],[.cells 194 (i6 C::.own 1::ctb (.int .u64 D::.int .u64 E::.own 2::i6 G::.int .u64 H::i6 I::.bool J::.bool d::[])),.vec 3 (.int .i64) e false,.vec 5 (.int .u8) f false])) else none | _=>none) | _,_=>none
theorem ok240_aa3 (fuel:Nat):FnOK Tryz.prog 240 (spg240_aa3 (F_number_get_aa3 fuel)):=by
  intro args objs kk r h
  unfold spg240_aa3 at h
  split at h
  · skip
    split at h
    rotate_left 1
    · cases h
    rename_i hsp
    have esp:=splitRun_eq hsp
    subst esp
    obtain ⟨hb,h⟩:=cond_some' h
    cases qb_eq hb
    exact fok240_aa3 fuel _ _ kk r ((F240_aa3_eqg fuel (F_coder_Decoder_Get_aa3 fuel) (F_number_tail_take fuel) _ _ _ _ _ _ _ _ _ _ _ kk).trans h)
  · cases h
def kp189_aa3 (i:Nat):Option (List Nat):=Ev.look i []
def Gg189_aa3 (a:YF146_aa3) (b:YF147_40a) (d:YF170) (c:YF240_aa3) (f:Nat):Option Ev.Spec:=Ev.look f [(146,spg146_aa3 a),(147,spg147_40a b),(170,spg170 d),(240,spg240_aa3 c)]
def G189_aa3 (fuel:Nat):Nat→Option Ev.Spec:=Gg189_aa3 (F_coder_Decoder_Get_aa3 fuel) (F_coder_Decoder_Model_40a fuel) (F_number_fits fuel) (F_number_get_aa3 fuel)
def Fg_number_Get_aa3 (fuel:Nat) (x:YF146_aa3) (y:YF147_40a) (O:YF170) (z:YF240_aa3) (w R:Int) (S T:Int) (U V W:Int) (X Y:Bool) (Z Q:LI) (k0:(Bool×Int×Int×Int×Int×Int×Int×Int×Int×Bool×Bool×LI×LI)→OA):OA:=(x ((-1:Int)) R S T U V W X Y Z Q (fun (a0,d,e,f,g,h,i,j,k,l,a,b)=>bif d==7 then k0 (false,0,d,e,f,g,h,i,j,k,l,a,b) else (y e f g h i j k l a b (fun (P,m,n,o,p,q,r,s,t,u,c,D)=>(O P D w (48) (fun v=>bif v != 0 then k0 (false,0,v,m,n,o,p,q,r,s,t,u,c) else (z w m n o p q r s t u c (fun (E,F,G,H,I,J,K,L,M,N,A,B,C)=>k0 (E,F,G,H,I,J,K,L,M,N,A,B,C)))))))))
abbrev YF189_aa3:Type:=Int→Int→Int→Int→Int→Int→Int→Bool→Bool→LI→LI→((Bool×Int×Int×Int×Int×Int×Int×Int×Int×Bool×Bool×LI×LI)→Option Ans)→Option Ans
def F_number_Get_aa3 (fuel:Nat):YF189_aa3:=Fg_number_Get_aa3 fuel (F_coder_Decoder_Get_aa3 fuel) (F_coder_Decoder_Model_40a fuel) (F_number_fits fuel) (F_number_get_aa3 fuel)
theorem F189_aa3_eqg (fuel:Nat) (a:YF146_aa3) (b:YF147_40a) (e:YF170) (d:YF240_aa3) (g h:Int) (i j:Int) (l m n:Int) (o p:Bool) (q f:LI) (k:Ev.Cont):evalFn tab (Gg189_aa3 a b e d) J0 kp189_aa3 fuel Tryz.f189 [.c (.ptr 0 0),.c (i6 g)] [.cells 194 (i6 h::.own 1::ctb (.int .u64 i::.int .u64 j::.own 2::i6 l::.int .u64 m::i6 n::.bool o::.bool p::[])),.vec 3 (.int .i64) q false,.vec 5 (.int .u8) f false] k=Fg_number_Get_aa3 fuel a b e d g h i j l m n o p q f (fun r=>match r with | (v,w,x,y,z,A,B,C,D,E,s,t,u)=>k (.tup [(true,[.bool v,i6 w]),(false,[i6 x])],[.cells 194 (i6 y::.own 1::ctb (.int .u64 z::.int .u64 A::.own 2::i6 B::.int .u64 C::i6 D::.bool E::.bool s::[])),.vec 3 (.int .i64) t false,.vec 5 (.int .u8) u false])):=by
  kernel_rfl
theorem hG189_aa3 (fuel:Nat):GOK Tryz.prog (G189_aa3 fuel):=
  gc (ok146_aa3 fuel) Tryz.func146 (by kernel_rfl) rfl <|
  gc (ok147_40a fuel) Tryz.func147 (by kernel_rfl) rfl <|
  gc (ok170 fuel) Tryz.func170 (by kernel_rfl) rfl <|
  gc (ok240_aa3 fuel) Tryz.func240 (by kernel_rfl) rfl <|
  gok_nil
def spg189_aa3 (F:YF189_aa3):Ev.Spec:=fun args objs k=>match args,objs with | [.c (.ptr g h),.c (i6 i)],[.cells j a,.vec l (.int .i64) m false,.vec n (.int .u8) b false]=>(match splitRun 2 ctn a with | some ([i6 o,.own p],[.int .u64 q,.int .u64 s,.own t,i6 u,.int .u64 v,i6 w,.bool x,.bool y])=>bif qb [g,h,j,l,n,p,t] [0,0,194,3,5,1,2] then F i o q s u v w x y m b (fun r=>match r with | (z,A,B,C,D,E,G,H,I,J,d,e,f)=>k (.tup [(true,[.bool z,i6 A]),(false,[i6 B])],[.cells 194 (i6 C::.own 1::ctb (.int .u64 D::.int .u64 E::.own 2::i6 G::.int .u64 H::i6 I::.bool J::.bool d::[])),.vec 3 (.int .i64) e false,.vec 5 (.int .u8) f false])) else none | _=>none) | _,_=>none
def spec189_aa3 (fuel:Nat):Ev.Spec:=spg189_aa3 (F_number_Get_aa3 fuel)
theorem ok189_aa3 (fuel:Nat):FnOK Tryz.prog 189 (spec189_aa3 fuel):=by
  intro args objs kk r h
  unfold spec189_aa3 spg189_aa3 at h
  split at h
  · skip
    split at h
    rotate_left 1
    · cases h
    rename_i hsp
    have esp:=splitRun_eq hsp
    subst esp
    obtain ⟨hb,h⟩:=cond_some' h
    cases qb_eq hb
    exact fo0 (hG189_aa3 fuel) Tryz.func189 rfl (by kernel_rfl) _ _ kk r ((F189_aa3_eqg fuel (F_coder_Decoder_Get_aa3 fuel) (F_coder_Decoder_Model_40a fuel) (F_number_fits fuel) (F_number_get_aa3 fuel) _ _ _ _ _ _ _ _ _ _ _ kk).trans h)
  · cases h
def kp241_452 (i:Nat):Option (List Nat):=Ev.look i [(11,[0,1,2,11,38,39]),(100000,[2,11]),(400000,[6,7])]
def Gg241_452 (a:YF146_aa3) (b:YF147_40a) (c:YF170) (f:Nat):Option Ev.Spec:=Ev.look f [(146,spg146_aa3 a),(147,spg147_40a b),(170,spg170 c)]
def G241_452 (fuel:Nat):Nat→Option Ev.Spec:=Gg241_452 (F_coder_Decoder_Get_aa3 fuel) (F_coder_Decoder_Model_40a fuel) (F_number_fits fuel)
abbrev V_number_GetId_452_0:Type:=Int×Int×Int×Int×Int×Int×Int×Int×Int×Int×Int×Bool×Bool×LI×LI
abbrev W_number_GetId_452_0:Type:=(Int×Int×Int×Int×Int×Int×Int×Int×Bool×Bool×LI×LI→OA)×(Int×Int×Int×Int×Int×Int×Int×Int×Bool×Bool×LI×LI→OA)
def Sg_number_GetId_452_0 (fuel:Nat) (D:YF146_aa3) (F:YF147_40a) (G:YF170) (t u:Int) (a v:Int) (w x:Int) (y z:Int) (A C o:Int) (p q:Bool) (r s:LI) (c:V_number_GetId_452_0→OA) (B:W_number_GetId_452_0):OA:=match B with | (ret,b)=>bif decide (w < v) then (D (i64.wrap (i64.wrap (t+a) - 1)) x y z A C o p q r s (fun (E,f,g,h,i,j,k,l,m,n,d,e)=>bif f != 0 then ret (0,f,g,h,i,j,k,l,m,n,d,e) else c (t,u,i64.wrap (i64.wrap (2*a)+E),v,i64.wrap (w+1),g,h,i,j,k,l,m,n,d,e))) else b (u,a,x,y,z,A,C,o,p,q,r,s)
def S_number_GetId_452_0 (fuel:Nat) (v:Int×Int×Int×Int×Int×Int×Int×Int×Int×Int×Int×Bool×Bool×(List Int)×(List Int)) (c:(Int×Int×Int×Int×Int×Int×Int×Int×Int×Int×Int×Bool×Bool×(List Int)×(List Int))→Option Ans) (B:(Int×Int×Int×Int×Int×Int×Int×Int×Bool×Bool×(List Int)×(List Int)→Option Ans)×(Int×Int×Int×Int×Int×Int×Int×Int×Bool×Bool×(List Int)×(List Int)→Option Ans)):Option Ans:=match v with | (g,h,i,j,k,l,m,n,o,p,a,b,d,e,f)=>Sg_number_GetId_452_0 fuel (F_coder_Decoder_Get_aa3 fuel) (F_coder_Decoder_Model_40a fuel) (F_number_fits fuel) g h i j k l m n o p a b d e f c B
def L_number_GetId_452_0 (fuel:Nat) (v:V_number_GetId_452_0) (ret:(Int×Int×Int×Int×Int×Int×Int×Int×Bool×Bool×(List Int)×(List Int)→Option Ans)) (b:(Int×Int×Int×Int×Int×Int×Int×Int×Bool×Bool×(List Int)×(List Int)→Option Ans)):Option Ans:=iter (S_number_GetId_452_0 fuel) fuel v (ret,b)
def T241_452_0 (v:V_number_GetId_452_0):Ev.St:=match v with | (g,h,i,j,k,l,m,n,o,p,a,b,d,e,f)=>⟨[(0,.c (.ptr 0 0)),(1,.c (i6 g)),(2,.c (i6 h)),(11,.c (i6 i)),(38,.c (i6 j)),(39,.c (i6 k))],[(0,.cells 194 (i6 l::.own 1::ctb (.int .u64 m::.int .u64 n::.own 2::i6 o::.int .u64 p::i6 a::.bool b::.bool d::[]))),(1,.vec 3 (.int .i64) e false),(2,.vec 5 (.int .u8) f false)],3,3⟩
def E241_452_0 (K:KT):W_number_GetId_452_0:=((fun v=>match v with | (d,e,f,g,h,i,j,k,l,m,a,b)=>K .ret ⟨[(6,.c (i6 d)),(7,.c (i6 e))],[(0,.cells 194 (i6 f::.own 1::ctb (.int .u64 g::.int .u64 h::.own 2::i6 i::.int .u64 j::i6 k::.bool l::.bool m::[]))),(1,.vec 3 (.int .i64) a false),(2,.vec 5 (.int .u8) b false)],3,3⟩),(fun v=>match v with | (d,e,f,g,h,i,j,k,l,m,a,b)=>K .normal ⟨[(2,.c (i6 d)),(11,.c (i6 e))],[(0,.cells 194 (i6 f::.own 1::ctb (.int .u64 g::.int .u64 h::.own 2::i6 i::.int .u64 j::i6 k::.bool l::.bool m::[]))),(1,.vec 3 (.int .i64) a false),(2,.vec 5 (.int .u8) b false)],3,3⟩))
theorem S241_452_0_okg (fuel:Nat) (a:YF146_aa3) (b:YF147_40a) (c:YF170) (R:Ev.St→OA) (K:KT) (i j:Int) (k l:Int) (m n:Int) (o p:Int) (q r d:Int) (e f:Bool) (g h:LI):evalCode tab (Gg241_452 a b c) J0 kp241_452 fuel (bodyOf 0 Tryz.f241) (T241_452_0 (i,j,k,l,m,n,o,p,q,r,d,e,f,g,h)) (lc kp241_452 11 0 R K)=Sg_number_GetId_452_0 fuel a b c i j k l m n o p q r d e f g h (fun v=>R (T241_452_0 v)) (E241_452_0 K):=by
  kernel_rfl
def B241_452_0 (fuel:Nat):Ev.Blk:=fun st K=>match canonO (kp241_452 11) st with | some s=>(match s with | ⟨[(p,.c (.ptr q r)),(t,.c (i6 u)),(v,.c (i6 w)),(x,.c (i6 y)),(z,.c (i6 A)),(B,.c (i6 C))],[(D,.cells E a),(b,.vec d (.int .i64) e false),(f,.vec g (.int .u8) h false)],i,j⟩=>(match splitRun 2 ctn a with | some ([i6 F,.own k],[.int .u64 G,.int .u64 H,.own l,i6 I,.int .u64 J,i6 m,.bool n,.bool o])=>bif qb [p,q,r,t,v,x,z,B,D,E,b,d,f,g,i,j,k,l] [0,0,0,1,2,11,38,39,0,194,1,3,2,5,3,3,1,2] then iter (S_number_GetId_452_0 fuel) fuel (u,w,y,A,C,F,G,H,I,J,m,n,o,e,h) (E241_452_0 K) else none | _=>none) | _=>none) | none=>none
theorem B241_452_0_ok (fuel:Nat) (st:Ev.St) (K:KT) (r:Ans) (h:B241_452_0 fuel st K=some r):evalCode tab (G241_452 fuel) J0 kp241_452 fuel (.block 0 (.loop (bodyOf 0 Tryz.f241))) st K=some r:=by
  unfold B241_452_0 at h
  split at h
  · rename_i s hs
    split at h
    · skip
      split at h
      rotate_left 1
      · cases h
      rename_i hsp
      have esp:=splitRun_eq hsp
      subst esp
      obtain ⟨hb,h⟩:=cond_some' h
      cases qb_eq hb
      exact blk_loop (S:=T241_452_0) (ks:=E241_452_0) (step:=S_number_GetId_452_0 fuel) (v:=(_,_,_,_,_,_,_,_,_,_,_,_,_,_,_)) (by kernel_rfl) (by kernel_rfl) (fun R K v=>by obtain ⟨f,g,i,j,k,l,m,n,o,p,a,b,c,d,e⟩:=v; exact S241_452_0_okg fuel (F_coder_Decoder_Get_aa3 fuel) (F_coder_Decoder_Model_40a fuel) (F_number_fits fuel) R K f g i j k l m n o p a b c d e) hs h
    · cases h
  · cases h
def J241_452 (fuel:Nat) (i:Nat):Option Ev.Blk:=Ev.look i [(100000,B241_452_0 fuel)]
def Fg_number_GetId_452 (fuel:Nat) (z:YF146_aa3) (A:YF147_40a) (F:YF170) (y a:Int) (R S:Int) (T U:Int) (V W:Int) (X Y:Bool) (P Q:LI) (k0:(Int×Int×Int×Int×Int×Int×Int×Int×Bool×Bool×LI×LI)→OA):OA:=(z ((-1:Int)) R S T U V W X Y P Q (fun (Z,v,d,e,f,g,h,i,j,k,b,c)=>bif v==7 then k0 (0,v,d,e,f,g,h,i,j,k,b,c) else bif decide (a < 0) then k0 (0,2,d,e,f,g,h,i,j,k,b,c) else bif decide (a > 10) then k0 (0,2,d,e,f,g,h,i,j,k,b,c) else bif decide (a < 0) then none else (A d e f g h i j k b c (fun (C,m,n,o,p,q,r,s,t,u,l,B)=>(F C B y (i64.wrap (Ev.ishl IntKind.i64 1 a - 1)) (fun x=>bif x != 0 then k0 (0,x,m,n,o,p,q,r,s,t,u,l) else (L_number_GetId_452_0 fuel (y,a,1,a,0,m,n,o,p,q,r,s,t,u,l) (fun (ret0_0,ret0_1,ret0_2,ret0_3,ret0_4,ret0_5,ret0_6,ret0_7,ret0_8,ret0_9,ret0_10,ret0_11)=>k0 (ret0_0,ret0_1,ret0_2,ret0_3,ret0_4,ret0_5,ret0_6,ret0_7,ret0_8,ret0_9,ret0_10,ret0_11)) (fun (w,G,H,I,J,K,L,M,N,O,D,E)=>bif decide (w < 0) then none else k0 (i64.wrap (G - Ev.ishl IntKind.i64 1 w),0,H,I,J,K,L,M,N,O,D,E)))))))))
abbrev YF241_452:Type:=Int→Int→Int→Int→Int→Int→Int→Int→Bool→Bool→LI→LI→((Int×Int×Int×Int×Int×Int×Int×Int×Bool×Bool×LI×LI)→Option Ans)→Option Ans
def F_number_GetId_452 (fuel:Nat):YF241_452:=Fg_number_GetId_452 fuel (F_coder_Decoder_Get_aa3 fuel) (F_coder_Decoder_Model_40a fuel) (F_number_fits fuel)
theorem F241_452_eqg (fuel:Nat) (a:YF146_aa3) (b:YF147_40a) (d:YF170) (g h:Int) (i j:Int) (l m:Int) (n o:Int) (p q:Bool) (e f:LI) (k:Ev.Cont):evalFn tab (Gg241_452 a b d) (J241_452 fuel) kp241_452 fuel Tryz.f241 [.c (.ptr 0 0),.c (i6 g),.c (i6 h)] [.cells 194 (i6 i::.own 1::ctb (.int .u64 j::.int .u64 l::.own 2::i6 m::.int .u64 n::i6 o::.bool p::.bool q::[])),.vec 3 (.int .i64) e false,.vec 5 (.int .u8) f false] k=Fg_number_GetId_452 fuel a b d g h i j l m n o p q e f (fun r=>match r with | (u,v,w,x,y,z,A,B,C,D,s,t)=>k (.tup [(false,[i6 u]),(false,[i6 v])],[.cells 194 (i6 w::.own 1::ctb (.int .u64 x::.int .u64 y::.own 2::i6 z::.int .u64 A::i6 B::.bool C::.bool D::[])),.vec 3 (.int .i64) s false,.vec 5 (.int .u8) t false])):=by
  kernel_rfl
theorem hG241_452 (fuel:Nat):GOK Tryz.prog (G241_452 fuel):=
  gc (ok146_aa3 fuel) Tryz.func146 (by kernel_rfl) rfl <|
  gc (ok147_40a fuel) Tryz.func147 (by kernel_rfl) rfl <|
  gc (ok170 fuel) Tryz.func170 (by kernel_rfl) rfl <|
  gok_nil
theorem B241_452_0_blk (fuel:Nat):BlkOK Tryz.prog Tryz.f241.ntmps (.block 0 (.loop (bodyOf 0 Tryz.f241))) (B241_452_0 fuel):=bo0 (hG241_452 fuel) (by kernel_rfl) (by kernel_rfl) (B241_452_0_ok fuel)
def spg241_452 (F:YF241_452):Ev.Spec:=fun args objs k=>match args,objs with | [.c (.ptr g h),.c (i6 i),.c (i6 j)],[.cells l a,.vec m (.int .i64) b false,.vec n (.int .u8) d false]=>(match splitRun 2 ctn a with | some ([i6 o,.own p],[.int .u64 q,.int .u64 s,.own t,i6 u,.int .u64 v,i6 w,.bool x,.bool y])=>bif qb [g,h,l,m,n,p,t] [0,0,194,3,5,1,2] then F i j o q s u v w x y b d (fun r=>match r with | (z,A,B,C,D,E,G,H,I,J,e,f)=>k (.tup [(false,[i6 z]),(false,[i6 A])],[.cells 194 (i6 B::.own 1::ctb (.int .u64 C::.int .u64 D::.own 2::i6 E::.int .u64 G::i6 H::.bool I::.bool J::[])),.vec 3 (.int .i64) e false,.vec 5 (.int .u8) f false])) else none | _=>none) | _,_=>none
def spec241_452 (fuel:Nat):Ev.Spec:=spg241_452 (F_number_GetId_452 fuel)
theorem ok241_452 (fuel:Nat):FnOK Tryz.prog 241 (spec241_452 fuel):=by
  intro args objs kk r h
  unfold spec241_452 spg241_452 at h
  split at h
  · skip
    split at h
    rotate_left 1
    · cases h
    rename_i hsp
    have esp:=splitRun_eq hsp
    subst esp
    obtain ⟨hb,h⟩:=cond_some' h
    cases qb_eq hb
    exact fo1 (hG241_452 fuel) Tryz.func241 rfl (B241_452_0_blk fuel) (by kernel_rfl) _ _ kk r ((F241_452_eqg fuel (F_coder_Decoder_Get_aa3 fuel) (F_coder_Decoder_Model_40a fuel) (F_number_fits fuel) _ _ _ _ _ _ _ _ _ _ _ _ kk).trans h)
  · cases h
def fns22:List (Nat×Func):=[(22,Tryz.f22),(23,Tryz.f23),(26,Tryz.f26),(28,Tryz.f28),(31,Tryz.f31),(35,Tryz.f35),(38,Tryz.f38),(72,Tryz.f72),(73,Tryz.f73),(74,Tryz.f74),(75,Tryz.f75),(76,Tryz.f76),(77,Tryz.f77),(79,Tryz.f79),(80,Tryz.f80),(91,Tryz.f91),(92,Tryz.f92),(93,Tryz.f93),(94,Tryz.f94),(95,Tryz.f95),(102,Tryz.f102),(104,Tryz.f104),(105,Tryz.f105),(122,Tryz.f122),(158,Tryz.f158),(159,Tryz.f159),(160,Tryz.f160),(161,Tryz.f161),(162,Tryz.f162),(163,Tryz.f163),(164,Tryz.f164),(167,Tryz.f167),(168,Tryz.f168),(190,Tryz.f190),(191,Tryz.f191),(194,Tryz.f194),(195,Tryz.f195),(212,Tryz.f212),(226,Tryz.f226),(227,Tryz.f227),(228,Tryz.f228),(229,Tryz.f229),(230,Tryz.f230),(231,Tryz.f231),(232,Tryz.f232),(233,Tryz.f233),(234,Tryz.f234),(235,Tryz.f235),(242,Tryz.f242),(249,Tryz.f249),(250,Tryz.f250),(251,Tryz.f251),(255,Tryz.f255),(1000231,Tryz.f231)]
def kpt22:List (Nat×List (Nat×List Nat)):=[(22,[(200003,[1]),(200004,[1])]),(23,[(12,[2,3,13,15,16,17]),(19,[2,3,13,15,16,17,18,19,20]),(100000,[13]),(100002,[2,3,13,15,16,17]),(200013,[2,3]),(200016,[2]),(200019,[3]),(200022,[2,3]),(400000,[6,7]),(400002,[6,7])]),(26,[(11,[2,4,16,17,18]),(100000,[16]),(200019,[16]),(400000,[8,9])]),(28,[(4,[0,1,12,13]),(100000,[]),(200006,[0,1]),(400000,[4])]),(38,[(4,[2,3,29,30]),(100000,[]),(200006,[2,3]),(400000,[4])]),(74,[(2,[0,1,5]),(100000,[]),(200004,[0]),(400000,[4])]),(75,[(200001,[2,3,4])]),(80,[(200002,[3]),(200003,[0,3]),(200008,[0,3]),(200013,[0,3,4])]),(95,[(2,[0,1,6,1000002]),(100000,[]),(200005,[0,7]),(400000,[])]),(105,[(5,[2,6,8,9,34,35]),(100000,[6,8,9]),(400000,[6,7])]),(122,[(4,[23,24,25]),(100000,[]),(400000,[2])]),(167,[(11,[0,1,7,8,11,52,53,1000002]),(20,[0,1,7,8,11,12,13,52,53,75,76,1000002]),(100001,[]),(100003,[0,1,7,8,11,52,53]),(200007,[7]),(400001,[10]),(400003,[10])]),(191,[(200004,[0]),(200013,[])]),(194,[(2,[0,1,7,8]),(100000,[]),(400000,[4])]),(226,[(2,[0,1,7,8]),(100000,[]),(400000,[4])]),(227,[(2,[0,1,7,8]),(100000,[]),(400000,[4])]),(230,[(200001,[3,5])]),(232,[(2,[0,1,12,13]),(100000,[]),(400000,[4])]),(233,[(3,[0,1,2,8,29]),(100000,[8]),(200001,[0]),(200005,[0]),(400000,[6,7])]),(234,[(3,[0,1,2,7,17,18,19]),(8,[0,1,2,7,41,42,43]),(100000,[0,1,2,7]),(100002,[7]),(200005,[0,9]),(200010,[0,11]),(400000,[6]),(400002,[6])]),(242,[(200000,[0,1]),(200007,[0,1,4])]),(251,[(13,[0,1,3,4,12,18,64,65]),(100000,[3,4,12,18]),(200009,[8]),(200011,[8,11]),(400000,[12,13])]),(255,[(8,[0,1,2,3,9,44,45]),(100000,[]),(400000,[8])])]
def kpa22 (f i:Nat):Option (List Nat):=match Ev.look f kpt22 with | some l=>Ev.look i l | none=>none
def ext22 (f:Nat):Option Ev.Spec:=Ev.look f [(48,spec48 100000),(49,spec49 100000),(52,spec52_a20 100000),(65,spec65 100000),(78,spec78 100000),(81,spec81_856 100000),(121,spec121_cf0 100000),(126,spec126_a20 100000),(146,spec146_aa3 100000),(147,spec147_40a 100000),(166,spec166_b82 100000),(189,spec189_aa3 100000),(241,spec241_452 100000)]
theorem ext22_ok:GOK Tryz.prog ext22:=
  gok_cons ⟨ok48 100000,enters_of Tryz.func48 (by kernel_rfl) rfl⟩ <|
  gok_cons ⟨ok49 100000,enters_of Tryz.func49 (by kernel_rfl) rfl⟩ <|
  gok_cons ⟨ok52_a20 100000,enters_of Tryz.func52 (by kernel_rfl) rfl⟩ <|
  gok_cons ⟨ok65 100000,enters_of Tryz.func65 (by kernel_rfl) rfl⟩ <|
  gok_cons ⟨ok78 100000,enters_of Tryz.func78 (by kernel_rfl) rfl⟩ <|
  gok_cons ⟨ok81_856 100000,enters_of Tryz.func81 (by kernel_rfl) rfl⟩ <|
  gok_cons ⟨ok121_cf0 100000,enters_of Tryz.func121 (by kernel_rfl) rfl⟩ <|
  gok_cons ⟨ok126_a20 100000,enters_of Tryz.func126 (by kernel_rfl) rfl⟩ <|
  gok_cons ⟨ok146_aa3 100000,enters_of Tryz.func146 (by kernel_rfl) rfl⟩ <|
  gok_cons ⟨ok147_40a 100000,enters_of Tryz.func147 (by kernel_rfl) rfl⟩ <|
  gok_cons ⟨ok166_b82 100000,enters_of Tryz.func166 (by kernel_rfl) rfl⟩ <|
  gok_cons ⟨ok189_aa3 100000,enters_of Tryz.func189 (by kernel_rfl) rfl⟩ <|
  gok_cons ⟨ok241_452 100000,enters_of Tryz.func241 (by kernel_rfl) rfl⟩ <|
  gok_nil
theorem fns22_ok:Fns Tryz.prog fns22:=
  fns_cons Tryz.func22 <|
  fns_cons Tryz.func23 <|
  fns_cons Tryz.func26 <|
  fns_cons Tryz.func28 <|
  fns_cons Tryz.func31 <|
  fns_cons Tryz.func35 <|
  fns_cons Tryz.func38 <|
  fns_cons Tryz.func72 <|
  fns_cons Tryz.func73 <|
  fns_cons Tryz.func74 <|
  fns_cons Tryz.func75 <|
  fns_cons Tryz.func76 <|
  fns_cons Tryz.func77 <|
  fns_cons Tryz.func79 <|
  fns_cons Tryz.func80 <|
  fns_cons Tryz.func91 <|
  fns_cons Tryz.func92 <|
  fns_cons Tryz.func93 <|
  fns_cons Tryz.func94 <|
  fns_cons Tryz.func95 <|
  fns_cons Tryz.func102 <|
  fns_cons Tryz.func104 <|
  fns_cons Tryz.func105 <|
  fns_cons Tryz.func122 <|
  fns_cons Tryz.func158 <|
  fns_cons Tryz.func159 <|
  fns_cons Tryz.func160 <|
  fns_cons Tryz.func161 <|
  fns_cons Tryz.func162 <|
  fns_cons Tryz.func163 <|
  fns_cons Tryz.func164 <|
  fns_cons Tryz.func167 <|
  fns_cons Tryz.func168 <|
  fns_cons Tryz.func190 <|
  fns_cons Tryz.func191 <|
  fns_cons Tryz.func194 <|
  fns_cons Tryz.func195 <|
  fns_cons Tryz.func212 <|
  fns_cons Tryz.func226 <|
  fns_cons Tryz.func227 <|
  fns_cons Tryz.func228 <|
  fns_cons Tryz.func229 <|
  fns_cons Tryz.func230 <|
  fns_cons Tryz.func231 <|
  fns_cons Tryz.func232 <|
  fns_cons Tryz.func233 <|
  fns_cons Tryz.func234 <|
  fns_cons Tryz.func235 <|
  fns_cons Tryz.func242 <|
  fns_cons Tryz.func249 <|
  fns_cons Tryz.func250 <|
  fns_cons Tryz.func251 <|
  fns_cons Tryz.func255 <|
  fns_cons Tryz.func231 <|
  fns_nil
def evs22:Nat→Option Ev.Spec:=evs tab fns22 kpa22 100000 ext22 60
theorem evs22_ok:GOK Tryz.prog evs22:=evs_ok tab_ok mixed fns22_ok (by kernel_rfl) ext22_ok 60
theorem aw22_eq:evalFn tab evs22 (fun _=>none) (kpa22 22) 100000 Tryz.f22 [] [] trueR=some ():=by
  kernel_rfl
def F_law10_Awake (fuel:Nat) (k0:(Bool)→Option Ans):Option Ans:=k0 true
abbrev YF22:Type:=(Bool→Option Ans)→Option Ans
def spg22 (F:YF22):Ev.Spec:=fun args objs k=>match args,objs with | [],[]=>F (fun r=>k (.c (.bool r),[])) | _,_=>none
def spec22 (fuel:Nat):Ev.Spec:=spg22 (F_law10_Awake fuel)
theorem ok22 (fuel:Nat):FnOK Tryz.prog 22 (spec22 fuel):=by
  intro args objs kk r h
  unfold spec22 spg22 at h
  split at h
  · exact true_ok (fn_ok (fuel:=100000) tab_ok evs22_ok mixed Tryz.func22 (kp:=kpa22 22) (J:=fun _=>none) (c:=(Tryz.f22.body).getD .skip) rfl (fun q hq=>by rw [obl_none] at hq; cases hq)) aw22_eq h
  · cases h
def kp21 (i:Nat):Option (List Nat):=Ev.look i []
def Gg21 (f:Nat):Option Ev.Spec:=Ev.look f []
def G21 (fuel:Nat):Nat→Option Ev.Spec:=Gg21
def F_law10_long (fuel:Nat) (a:(List (Int×Int×(List Int)))) (b:(List (Int×Int×Int×Bool×Int×Int×(Int×Int×(List Int))))) (k0:(Bool)→Option Ans):Option Ans:=bif decide ((↑a.length:Int) > 120) then k0 true else k0 (decide ((↑b.length:Int) > 600))
abbrev YF21:Type:=((List (Int×Int×LI)))→((List (Int×Int×Int×Bool×Int×Int×(Int×Int×LI))))→(Bool→Option Ans)→Option Ans
theorem F21_eq (fuel:Nat) (a:(List (Int×Int×LI))) (b:(List (Int×Int×Int×Bool×Int×Int×(Int×Int×LI)))) (k:Ev.Cont):evalFn tab (G21 fuel) J0 kp21 fuel Tryz.f21 [.c (.sl (.pair (.int .i64) (.pair (.int .i64) (.sl (.int .u8)))) a),.c (.sl (.pair (.int .i64) (.pair (.int .i64) (.pair (.int .i64) (.pair .bool (.pair (.int .i64) (.pair (.int .i64) (.pair (.int .i64) (.pair (.int .i64) (.sl (.int .u8)))))))))) b)] [] k=F_law10_long fuel a b (fun r=>match r with | d=>k (.c (.bool d),[])):=by
  kernel_rfl
theorem hG21 (fuel:Nat):GOK Tryz.prog (G21 fuel):=
  gok_nil
def spg21 (F:YF21):Ev.Spec:=fun args objs k=>match args,objs with | [.c (.sl (.pair (.int .i64) (.pair (.int .i64) (.sl (.int .u8)))) a),.c (.sl (.pair (.int .i64) (.pair (.int .i64) (.pair (.int .i64) (.pair .bool (.pair (.int .i64) (.pair (.int .i64) (.pair (.int .i64) (.pair (.int .i64) (.sl (.int .u8)))))))))) b)],[]=>F a b (fun r=>match r with | d=>k (.c (.bool d),[])) | _,_=>none
theorem ok21 (fuel:Nat):FnOK Tryz.prog 21 (spg21 (F_law10_long fuel)):=by
  intro args objs kk r h
  unfold spg21 at h
  split at h
  · skip
    exact fo0 (hG21 fuel) Tryz.func21 rfl (by kernel_rfl) _ _ kk r ((F21_eq fuel _ _ kk).trans h)
  · cases h
def kp133 (i:Nat):Option (List Nat):=Ev.look i [(200001,[1])]
def Gg133 (f:Nat):Option Ev.Spec:=Ev.look f []
def G133 (fuel:Nat):Nat→Option Ev.Spec:=Gg133
def F_ref02_Copy (fuel:Nat) (b:Int) (a:(List Int)) (k0:(Int×(List Int))→Option Ans):Option Ans:=bif decide (((0:Nat)+a.length)*(8:Nat)≤(140737488355328:Nat)∧(0:Nat)+a.length≤(140737488355328:Nat)) then k0 (b,[]++a) else none
abbrev YF133:Type:=Int→LI→((Int×LI)→Option Ans)→Option Ans
theorem F133_eq (fuel:Nat) (a:Int) (b:LI) (k:Ev.Cont):evalFn tab (G133 fuel) J0 kp133 fuel Tryz.f133 [.agg [i6 a,.sl (.int .i64) b]] [] k=F_ref02_Copy fuel a b (fun r=>match r with | (c,d)=>k (.agg [i6 c,.own 0],[.vec 3 (.int .i64) d true])):=by
  kernel_rfl
theorem hG133 (fuel:Nat):GOK Tryz.prog (G133 fuel):=
  gok_nil
def spg133 (F:YF133):Ev.Spec:=fun args objs k=>match args,objs with | [.agg [i6 a,.sl (.int .i64) b]],[]=>F a b (fun r=>match r with | (c,d)=>k (.agg [i6 c,.own 0],[.vec 3 (.int .i64) d true])) | _,_=>none
theorem ok133 (fuel:Nat):FnOK Tryz.prog 133 (spg133 (F_ref02_Copy fuel)):=by
  intro args objs kk r h
  unfold spg133 at h
  split at h
  · skip
    exact fo0 (hG133 fuel) Tryz.func133 rfl (by kernel_rfl) _ _ kk r ((F133_eq fuel _ _ kk).trans h)
  · cases h
def kp132 (i:Nat):Option (List Nat):=Ev.look i [(7,[3,24,25,26]),(100000,[]),(400000,[2])]
def Gg132 (f:Nat):Option Ev.Spec:=Ev.look f []
def G132 (fuel:Nat):Nat→Option Ev.Spec:=Gg132
def S_ref02_Valid_0 (fuel:Nat) (v:Int×(List Int)×Int×Int) (c:(Int×(List Int)×Int×Int)→Option Ans) (B:(Bool→Option Ans)×(Unit→Option Ans)):Option Ans:=match v,B with | (e,d,f,a),(ret,b)=>bif decide (a < f) then bif decide ((0:Int)≤a∧a < (↑d.length:Int)) then bif decide (d.getD a.toNat (0:Int) < (0:Int)) then ret false else bif decide (d.getD a.toNat (0:Int) > e) then ret false else c (e,d,f,i64.wrap (a+(1:Int))) else none else b ()
def L_ref02_Valid_0 (fuel:Nat) (v:Int×(List Int)×Int×Int) (ret:(Bool→Option Ans)) (b:(Unit→Option Ans)):Option Ans:=iter (S_ref02_Valid_0 fuel) fuel v (ret,b)
def T132_0 (v:Int×LI×Int×Int):Ev.St:=match v with | (a,b,d,e)=>⟨[(3,.c (i6 a)),(24,.c (.sl (.int .i64) b)),(25,.c (i6 d)),(26,.c (i6 e))],[],0,0⟩
def E132_0 (K:KT):(Bool→OA)×(Unit→OA):=((fun v=>match v with | a=>K .ret ⟨[(2,.c (.bool a))],[],0,0⟩),(fun v=>match v with | ()=>K .normal ⟨[],[],0,0⟩))
theorem S132_0_ok (fuel:Nat) (R:Ev.St→OA) (K:KT) (a:Int) (b:LI) (c d:Int):evalCode tab (G132 fuel) J0 kp132 fuel (bodyOf 0 Tryz.f132) (T132_0 (a,b,c,d)) (lc kp132 7 0 R K)=S_ref02_Valid_0 fuel (a,b,c,d) (fun v=>R (T132_0 v)) (E132_0 K):=by
  kernel_rfl
def B132_0 (fuel:Nat):Ev.Blk:=fun st K=>match canonO (kp132 7) st with | some s=>(match s with | ⟨[(a,.c (i6 b)),(d,.c (.sl (.int .i64) e)),(f,.c (i6 g)),(h,.c (i6 i))],[],j,k⟩=>bif qb [a,d,f,h,j,k] [3,24,25,26,0,0] then iter (S_ref02_Valid_0 fuel) fuel (b,e,g,i) (E132_0 K) else none | _=>none) | none=>none
theorem B132_0_ok (fuel:Nat) (st:Ev.St) (K:KT) (r:Ans) (h:B132_0 fuel st K=some r):evalCode tab (G132 fuel) J0 kp132 fuel (.block 0 (.loop (bodyOf 0 Tryz.f132))) st K=some r:=by
  unfold B132_0 at h
  split at h
  · rename_i s hs
    split at h
    · skip
      obtain ⟨hb,h⟩:=cond_some' h
      cases qb_eq hb
      exact blk_loop (S:=T132_0) (ks:=E132_0) (step:=S_ref02_Valid_0 fuel) (v:=(_,_,_,_)) (by kernel_rfl) (by kernel_rfl) (fun R K v=>by obtain ⟨a,b,c,d⟩:=v; exact S132_0_ok fuel R K a b c d) hs h
    · cases h
  · cases h
def J132 (fuel:Nat) (i:Nat):Option Ev.Blk:=Ev.look i [(100000,B132_0 fuel)]
def F_ref02_Valid (fuel:Nat) (b:Int) (a:(List Int)) (k0:(Bool)→Option Ans):Option Ans:=bif b==1 then bif b != 0 then bif b != 1 then k0 false else bif decide ((↑a.length:Int) > 8192) then k0 false else (L_ref02_Valid_0 fuel (65535,a,(↑a.length:Int),0) (fun ret0_0=>k0 ret0_0) (fun ()=>k0 true)) else bif decide ((↑a.length:Int) > 8192) then k0 false else (L_ref02_Valid_0 fuel (65535,a,(↑a.length:Int),0) (fun ret0_0=>k0 ret0_0) (fun ()=>k0 true)) else bif b != 0 then bif b != 1 then k0 false else bif decide ((↑a.length:Int) > 8192) then k0 false else (L_ref02_Valid_0 fuel (63,a,(↑a.length:Int),0) (fun ret0_0=>k0 ret0_0) (fun ()=>k0 true)) else bif decide ((↑a.length:Int) > 8192) then k0 false else (L_ref02_Valid_0 fuel (63,a,(↑a.length:Int),0) (fun ret0_0=>k0 ret0_0) (fun ()=>k0 true))
abbrev YF132:Type:=Int→LI→(Bool→Option Ans)→Option Ans
theorem F132_eq (fuel:Nat) (a:Int) (b:LI) (k:Ev.Cont):evalFn tab (G132 fuel) (J132 fuel) kp132 fuel Tryz.f132 [.agg [i6 a,.sl (.int .i64) b]] [] k=F_ref02_Valid fuel a b (fun r=>match r with | d=>k (.c (.bool d),[])):=by
  kernel_rfl
theorem hG132 (fuel:Nat):GOK Tryz.prog (G132 fuel):=
  gok_nil
theorem B132_0_blk (fuel:Nat):BlkOK Tryz.prog Tryz.f132.ntmps (.block 0 (.loop (bodyOf 0 Tryz.f132))) (B132_0 fuel):=bo0 (hG132 fuel) (by kernel_rfl) (by kernel_rfl) (B132_0_ok fuel)
def spg132 (F:YF132):Ev.Spec:=fun args objs k=>match args,objs with | [.agg [i6 a,.sl (.int .i64) b]],[]=>F a b (fun r=>match r with | d=>k (.c (.bool d),[])) | _,_=>none
theorem ok132 (fuel:Nat):FnOK Tryz.prog 132 (spg132 (F_ref02_Valid fuel)):=by
  intro args objs kk r h
  unfold spg132 at h
  split at h
  · skip
    exact fo1 (hG132 fuel) Tryz.func132 rfl (B132_0_blk fuel) (by kernel_rfl) _ _ kk r ((F132_eq fuel _ _ kk).trans h)
  · cases h
def kp134 (i:Nat):Option (List Nat):=Ev.look i []
def Gg134 (f:Nat):Option Ev.Spec:=Ev.look f []
def G134 (fuel:Nat):Nat→Option Ev.Spec:=Gg134
def F_ref02_Whole (fuel:Nat)  (k0:(Int×Int)→Option Ans):Option Ans:=k0 (0,4294967295)
abbrev YF134:Type:=((Int×Int)→Option Ans)→Option Ans
theorem F134_eq (fuel:Nat)  (k:Ev.Cont):evalFn tab (G134 fuel) J0 kp134 fuel Tryz.f134 [] [] k=F_ref02_Whole fuel  (fun r=>match r with | (a,b)=>k (.agg [.int .u64 a,.int .u64 b],[])):=by
  kernel_rfl
theorem hG134 (fuel:Nat):GOK Tryz.prog (G134 fuel):=
  gok_nil
def spg134 (F:YF134):Ev.Spec:=fun args objs k=>match args,objs with | [],[]=>F  (fun r=>match r with | (a,b)=>k (.agg [.int .u64 a,.int .u64 b],[])) | _,_=>none
theorem ok134 (fuel:Nat):FnOK Tryz.prog 134 (spg134 (F_ref02_Whole fuel)):=by
  intro args objs kk r h
  unfold spg134 at h
  split at h
  · skip
    exact fo0 (hG134 fuel) Tryz.func134 rfl (by kernel_rfl) _ _ kk r ((F134_eq fuel kk).trans h)
  · cases h
def kp155 (i:Nat):Option (List Nat):=Ev.look i []
def Gg155 (f:Nat):Option Ev.Spec:=Ev.look f []
def G155 (fuel:Nat):Nat→Option Ev.Spec:=Gg155
def F_ref02_byteAt (fuel:Nat) (b:(List Int)) (a:Int) (k0:(Int)→Option Ans):Option Ans:=bif decide (a < (↑b.length:Int)) then bif decide (0≤a∧a < (↑b.length:Int)) then k0 (u64.wrap (b.getD a.toNat 0)) else none else k0 (0)
abbrev YF155:Type:=LI→Int→(Int→Option Ans)→Option Ans
theorem F155_eq (fuel:Nat) (a:LI) (b:Int) (k:Ev.Cont):evalFn tab (G155 fuel) J0 kp155 fuel Tryz.f155 [.c (.sl (.int .u8) a),.c (i6 b)] [] k=F_ref02_byteAt fuel a b (fun r=>match r with | d=>k (.c (.int .u64 d),[])):=by
  kernel_rfl
theorem hG155 (fuel:Nat):GOK Tryz.prog (G155 fuel):=
  gok_nil
def spg155 (F:YF155):Ev.Spec:=fun args objs k=>match args,objs with | [.c (.sl (.int .u8) a),.c (i6 b)],[]=>F a b (fun r=>match r with | d=>k (.c (.int .u64 d),[])) | _,_=>none
theorem ok155 (fuel:Nat):FnOK Tryz.prog 155 (spg155 (F_ref02_byteAt fuel)):=by
  intro args objs kk r h
  unfold spg155 at h
  split at h
  · skip
    exact fo0 (hG155 fuel) Tryz.func155 rfl (by kernel_rfl) _ _ kk r ((F155_eq fuel _ _ kk).trans h)
  · cases h
def kp69 (i:Nat):Option (List Nat):=Ev.look i [(5,[6,7]),(100000,[6]),(400000,[4,5]),(600000,[])]
def Gg69 (a:YF132) (b:YF133) (c:YF134) (d:YF155) (f:Nat):Option Ev.Spec:=Ev.look f [(132,spg132 a),(133,spg133 b),(134,spg134 c),(155,spg155 d)]
def G69 (fuel:Nat):Nat→Option Ev.Spec:=Gg69 (F_ref02_Valid fuel) (F_ref02_Copy fuel) (F_ref02_Whole fuel) (F_ref02_byteAt fuel)
abbrev V_ref02_NewDecoder_0:Type:=Int×Int×Int×Int×Int×Int×Int×Bool×LI×LI
abbrev W_ref02_NewDecoder_0:Type:=(Int×Int×Int×Int×Int×Int×Bool×LI×LI→OA)
def Sg_ref02_NewDecoder_0 (fuel:Nat) (p:YF132) (q:YF133) (r:YF134) (m:YF155) (a e:Int) (f g:Int) (h i j:Int) (k:Bool) (l d:LI) (c:V_ref02_NewDecoder_0→OA) (B:W_ref02_NewDecoder_0):OA:=match B with | b=>bif decide (a < 4) then both ((m d a (fun o=>c (i64.wrap (a+1),e,f,g,h,u64.wrap (u64.wrap (i*256)+o),j,k,l,d)))) (both ((m d a (fun n=>c (i64.wrap (a+1),e,f,g,h,u64.wrap (u64.wrap (i*256)+n),j,k,l,d)))) ((m d a (fun n=>c (i64.wrap (a+1),e,f,g,h,u64.wrap (u64.wrap (i*256)+n),j,k,l,d))))) else b (e,f,g,h,i,j,k,l,d)
def S_ref02_NewDecoder_0 (fuel:Nat) (v:Int×Int×Int×Int×Int×Int×Int×Bool×(List Int)×(List Int)) (c:(Int×Int×Int×Int×Int×Int×Int×Bool×(List Int)×(List Int))→Option Ans) (B:(Int×Int×Int×Int×Int×Int×Bool×(List Int)×(List Int)→Option Ans)):Option Ans:=match v with | (a,b,d,e,f,g,h,i,j,k)=>Sg_ref02_NewDecoder_0 fuel (F_ref02_Valid fuel) (F_ref02_Copy fuel) (F_ref02_Whole fuel) (F_ref02_byteAt fuel) a b d e f g h i j k c B
def L_ref02_NewDecoder_0 (fuel:Nat) (v:V_ref02_NewDecoder_0) (b:W_ref02_NewDecoder_0):Option Ans:=iter (S_ref02_NewDecoder_0 fuel) fuel v b
def T69_0 (v:V_ref02_NewDecoder_0):Ev.St:=match v with | (a,b,d,e,f,g,h,i,j,k)=>⟨[(6,.c (.ptr 0 0)),(7,.c (i6 a))],[(0,.cells 204 [i6 b,.own 1,.int .u64 d,.int .u64 e,.own 2,i6 f,.int .u64 g,i6 h,.bool i]),(1,.vec 3 (.int .i64) j true),(2,.vec 5 (.int .u8) k true)],3,0⟩
def E69_0 (K:KT):W_ref02_NewDecoder_0:=(fun v=>match v with | (a,b,d,e,f,g,h,i,j)=>K .normal ⟨[(6,.c (.ptr 0 0))],[(0,.cells 204 [i6 a,.own 1,.int .u64 b,.int .u64 d,.own 2,i6 e,.int .u64 f,i6 g,.bool h]),(1,.vec 3 (.int .i64) i true),(2,.vec 5 (.int .u8) j true)],3,0⟩)
theorem S69_0_okg (fuel:Nat) (a:YF132) (b:YF133) (c:YF134) (d:YF155) (R:Ev.St→OA) (K:KT) (e f:Int) (g h:Int) (i j k:Int) (l:Bool) (m n:LI):evalCode tab (Gg69 a b c d) J0 kp69 fuel (bodyOf 0 Tryz.f69) (T69_0 (e,f,g,h,i,j,k,l,m,n)) (lc kp69 5 0 R K)=Sg_ref02_NewDecoder_0 fuel a b c d e f g h i j k l m n (fun v=>R (T69_0 v)) (E69_0 K):=by
  kernel_rfl
def B69_0 (fuel:Nat):Ev.Blk:=fun st K=>match canonO (kp69 5) st with | some s=>(match s with | ⟨[(f,.c (.ptr g h)),(i,.c (i6 j))],[(k,.cells l [i6 m,.own n,.int .u64 o,.int .u64 p,.own q,i6 r,.int .u64 t,i6 u,.bool v]),(w,.vec x (.int .i64) y true),(a,.vec b (.int .u8) z true)],d,e⟩=>bif qb [f,g,h,i,k,l,n,q,w,x,a,b,d,e] [6,0,0,7,0,204,1,2,1,3,2,5,3,0] then iter (S_ref02_NewDecoder_0 fuel) fuel (j,m,o,p,r,t,u,v,y,z) (E69_0 K) else none | _=>none) | none=>none
theorem B69_0_ok (fuel:Nat) (st:Ev.St) (K:KT) (r:Ans) (h:B69_0 fuel st K=some r):evalCode tab (G69 fuel) J0 kp69 fuel (.block 0 (.loop (bodyOf 0 Tryz.f69))) st K=some r:=by
  unfold B69_0 at h
  split at h
  · rename_i s hs
    split at h
    · skip
      obtain ⟨hb,h⟩:=cond_some' h
      cases qb_eq hb
      exact blk_loop (S:=T69_0) (ks:=E69_0) (step:=S_ref02_NewDecoder_0 fuel) (v:=(_,_,_,_,_,_,_,_,_,_)) (by kernel_rfl) (by kernel_rfl) (fun R K v=>by obtain ⟨a,b,c,d,e,f,g,i,j,k⟩:=v; exact S69_0_okg fuel (F_ref02_Valid fuel) (F_ref02_Copy fuel) (F_ref02_Whole fuel) (F_ref02_byteAt fuel) R K a b c d e f g i j k) hs h
    · cases h
  · cases h
def J69 (fuel:Nat) (i:Nat):Option Ev.Blk:=Ev.look i [(100000,B69_0 fuel)]
def Fg_ref02_NewDecoder (fuel:Nat) (f:YF132) (g:YF133) (h:YF134) (u:YF155) (b:Int) (c a:LI) (k0:(Int)→OA) (k1:(Int×Int×Int×Int×Int×Int×Int×Bool×LI×LI)→OA):OA:=(f b c (fun t=>bif !t then k0 (10) else (g b c (fun (i,j)=>(h (fun (d,e)=>bif decide (((0:Nat)+a.length)*(1:Nat)≤(140737488355328:Nat)∧(0:Nat)+a.length≤(140737488355328:Nat)) then (L_ref02_NewDecoder_0 fuel ((0:Int),i,d,e,(4:Int),(0:Int),bif decide (i64.wrap ((4:Int) - (↑a.length:Int)) > (0:Int)) then i64.wrap ((4:Int) - (↑a.length:Int)) else (0:Int),false,j,[]++a) (fun (k,l,m,n,o,p,q,r,s)=>k1 (0,k,l,m,n,o,p,q,r,s))) else none))))))
abbrev YF69:Type:=Int→LI→LI→(Int→Option Ans)→((Int×Int×Int×Int×Int×Int×Int×Bool×LI×LI)→Option Ans)→Option Ans
def F_ref02_NewDecoder (fuel:Nat):YF69:=Fg_ref02_NewDecoder fuel (F_ref02_Valid fuel) (F_ref02_Copy fuel) (F_ref02_Whole fuel) (F_ref02_byteAt fuel)
theorem F69_eqg (fuel:Nat) (b:YF132) (d:YF133) (e:YF134) (f:YF155) (g:Int) (h i:LI) (k:Ev.Cont):evalFn tab (Gg69 b d e f) (J69 fuel) kp69 fuel Tryz.f69 [.agg [i6 g,.sl (.int .i64) h],.c (.sl (.int .u8) i)] [] k=Fg_ref02_NewDecoder fuel b d e f g h i (fun r=>match r with | a=>k (.tup [(false,[.nilptr]),(false,[i6 a])],[])) (fun r=>match r with | (a,j,l,m,n,o,p,q,s,t)=>k (.tup [(false,[.ptr 0 0]),(false,[i6 a])],[.cells 204 [i6 j,.own 1,.int .u64 l,.int .u64 m,.own 2,i6 n,.int .u64 o,i6 p,.bool q],.vec 3 (.int .i64) s true,.vec 5 (.int .u8) t true])):=by
  kernel_rfl
theorem hG69 (fuel:Nat):GOK Tryz.prog (G69 fuel):=
  gc (ok132 fuel) Tryz.func132 (by kernel_rfl) rfl <|
  gc (ok133 fuel) Tryz.func133 (by kernel_rfl) rfl <|
  gc (ok134 fuel) Tryz.func134 (by kernel_rfl) rfl <|
  gc (ok155 fuel) Tryz.func155 (by kernel_rfl) rfl <|
  gok_nil
theorem B69_0_blk (fuel:Nat):BlkOK Tryz.prog Tryz.f69.ntmps (.block 0 (.loop (bodyOf 0 Tryz.f69))) (B69_0 fuel):=bo0 (hG69 fuel) (by kernel_rfl) (by kernel_rfl) (B69_0_ok fuel)
def spg69 (F:YF69):Ev.Spec:=fun args objs k=>match args,objs with | [.agg [i6 b,.sl (.int .i64) d],.c (.sl (.int .u8) e)],[]=>F b d e (fun r=>match r with | a=>k (.tup [(false,[.nilptr]),(false,[i6 a])],[])) (fun r=>match r with | (a,f,g,h,i,j,l,m,n,o)=>k (.tup [(false,[.ptr 0 0]),(false,[i6 a])],[.cells 204 [i6 f,.own 1,.int .u64 g,.int .u64 h,.own 2,i6 i,.int .u64 j,i6 l,.bool m],.vec 3 (.int .i64) n true,.vec 5 (.int .u8) o true])) | _,_=>none
theorem ok69 (fuel:Nat):FnOK Tryz.prog 69 (spg69 (F_ref02_NewDecoder fuel)):=by
  intro args objs kk r h
  unfold spg69 at h
  split at h
  · skip
    exact fo1 (hG69 fuel) Tryz.func69 rfl (B69_0_blk fuel) (by kernel_rfl) _ _ kk r ((F69_eqg fuel (F_ref02_Valid fuel) (F_ref02_Copy fuel) (F_ref02_Whole fuel) (F_ref02_byteAt fuel) _ _ _ kk).trans h)
  · cases h
def kp59 (i:Nat):Option (List Nat):=Ev.look i [(2,[0,3]),(100000,[0,3]),(400000,[2])]
def Gg59 (f:Nat):Option Ev.Spec:=Ev.look f []
def G59 (fuel:Nat):Nat→Option Ev.Spec:=Gg59
def S_ref03_Width_0 (fuel:Nat) (v:Int×Int) (c:(Int×Int)→Option Ans) (B:(Int×Int→Option Ans)):Option Ans:=match v,B with | (d,a),b=>bif decide (a < (62:Int)) then bif decide (a < (0:Int)) then none else bif decide (Ev.ishl IntKind.i64 (1:Int) a < d) then c (d,i64.wrap (a+(1:Int))) else b (d,a) else b (d,a)
def L_ref03_Width_0 (fuel:Nat) (v:Int×Int) (b:(Int×Int→Option Ans)):Option Ans:=iter (S_ref03_Width_0 fuel) fuel v b
def T59_0 (v:Int×Int):Ev.St:=match v with | (a,b)=>⟨[(0,.c (i6 a)),(3,.c (i6 b))],[],0,0⟩
def E59_0 (K:KT):(Int×Int→OA):=(fun v=>match v with | (a,b)=>K .normal ⟨[(0,.c (i6 a)),(3,.c (i6 b))],[],0,0⟩)
theorem S59_0_ok (fuel:Nat) (R:Ev.St→OA) (K:KT) (a b:Int):evalCode tab (G59 fuel) J0 kp59 fuel (bodyOf 0 Tryz.f59) (T59_0 (a,b)) (lc kp59 2 0 R K)=S_ref03_Width_0 fuel (a,b) (fun v=>R (T59_0 v)) (E59_0 K):=by
  kernel_rfl
def B59_0 (fuel:Nat):Ev.Blk:=fun st K=>match canonO (kp59 2) st with | some s=>(match s with | ⟨[(a,.c (i6 b)),(d,.c (i6 e))],[],f,g⟩=>bif qb [a,d,f,g] [0,3,0,0] then iter (S_ref03_Width_0 fuel) fuel (b,e) (E59_0 K) else none | _=>none) | none=>none
theorem B59_0_ok (fuel:Nat) (st:Ev.St) (K:KT) (r:Ans) (h:B59_0 fuel st K=some r):evalCode tab (G59 fuel) J0 kp59 fuel (.block 0 (.loop (bodyOf 0 Tryz.f59))) st K=some r:=by
  unfold B59_0 at h
  split at h
  · rename_i s hs
    split at h
    · skip
      obtain ⟨hb,h⟩:=cond_some' h
      cases qb_eq hb
      exact blk_loop (S:=T59_0) (ks:=E59_0) (step:=S_ref03_Width_0 fuel) (v:=(_,_)) (by kernel_rfl) (by kernel_rfl) (fun R K v=>by obtain ⟨a,b⟩:=v; exact S59_0_ok fuel R K a b) hs h
    · cases h
  · cases h
def J59 (fuel:Nat) (i:Nat):Option Ev.Blk:=Ev.look i [(100000,B59_0 fuel)]
def F_ref03_Width (fuel:Nat) (c:Int) (k0:(Int)→Option Ans):Option Ans:=(L_ref03_Width_0 fuel (c,0) (fun (b,a)=>bif decide (a < 0) then none else bif decide (Ev.ishl IntKind.i64 1 a < b) then k0 (63) else k0 a))
abbrev YF59:Type:=Int→(Int→Option Ans)→Option Ans
theorem F59_eq (fuel:Nat) (a:Int) (k:Ev.Cont):evalFn tab (G59 fuel) (J59 fuel) kp59 fuel Tryz.f59 [.c (i6 a)] [] k=F_ref03_Width fuel a (fun r=>match r with | b=>k (.c (i6 b),[])):=by
  kernel_rfl
theorem hG59 (fuel:Nat):GOK Tryz.prog (G59 fuel):=
  gok_nil
theorem B59_0_blk (fuel:Nat):BlkOK Tryz.prog Tryz.f59.ntmps (.block 0 (.loop (bodyOf 0 Tryz.f59))) (B59_0 fuel):=bo0 (hG59 fuel) (by kernel_rfl) (by kernel_rfl) (B59_0_ok fuel)
def spg59 (F:YF59):Ev.Spec:=fun args objs k=>match args,objs with | [.c (i6 a)],[]=>F a (fun r=>match r with | b=>k (.c (i6 b),[])) | _,_=>none
theorem ok59 (fuel:Nat):FnOK Tryz.prog 59 (spg59 (F_ref03_Width fuel)):=by
  intro args objs kk r h
  unfold spg59 at h
  split at h
  · skip
    exact fo1 (hG59 fuel) Tryz.func59 rfl (B59_0_blk fuel) (by kernel_rfl) _ _ kk r ((F59_eq fuel _ kk).trans h)
  · cases h
def kp185 (i:Nat):Option (List Nat):=Ev.look i []
def Gg185 (f:Nat):Option Ev.Spec:=Ev.look f []
def G185 (fuel:Nat):Nat→Option Ev.Spec:=Gg185
def F_ref08_size (fuel:Nat) (a:Int) (k0:(Int)→Option Ans):Option Ans:=bif a==0 then k0 (513) else k0 (129)
abbrev YF185:Type:=Int→(Int→Option Ans)→Option Ans
theorem F185_eq (fuel:Nat) (a:Int) (k:Ev.Cont):evalFn tab (G185 fuel) J0 kp185 fuel Tryz.f185 [.c (i6 a)] [] k=F_ref08_size fuel a (fun r=>match r with | b=>k (.c (i6 b),[])):=by
  kernel_rfl
theorem hG185 (fuel:Nat):GOK Tryz.prog (G185 fuel):=
  gok_nil
def spg185 (F:YF185):Ev.Spec:=fun args objs k=>match args,objs with | [.c (i6 a)],[]=>F a (fun r=>match r with | b=>k (.c (i6 b),[])) | _,_=>none
theorem ok185 (fuel:Nat):FnOK Tryz.prog 185 (spg185 (F_ref08_size fuel)):=by
  intro args objs kk r h
  unfold spg185 at h
  split at h
  · skip
    exact fo0 (hG185 fuel) Tryz.func185 rfl (by kernel_rfl) _ _ kk r ((F185_eq fuel _ kk).trans h)
  · cases h
def kp174 (i:Nat):Option (List Nat):=Ev.look i []
def Gg174 (a:YF185) (f:Nat):Option Ev.Spec:=Ev.look f [(185,spg185 a)]
def G174 (fuel:Nat):Nat→Option Ev.Spec:=Gg174 (F_ref08_size fuel)
def Fg_ref08_Size (fuel:Nat) (b:YF185) (a:Int) (k0:(Int×Int)→OA):OA:=bif decide (a < 0) then k0 (0,2) else bif decide (a > 1) then k0 (0,2) else (b a (fun c=>k0 (c,0)))
abbrev YF174:Type:=Int→((Int×Int)→Option Ans)→Option Ans
def F_ref08_Size (fuel:Nat):YF174:=Fg_ref08_Size fuel (F_ref08_size fuel)
theorem F174_eqg (fuel:Nat) (a:YF185) (b:Int) (k:Ev.Cont):evalFn tab (Gg174 a) J0 kp174 fuel Tryz.f174 [.c (i6 b)] [] k=Fg_ref08_Size fuel a b (fun r=>match r with | (d,e)=>k (.tup [(false,[i6 d]),(false,[i6 e])],[])):=by
  kernel_rfl
theorem hG174 (fuel:Nat):GOK Tryz.prog (G174 fuel):=
  gc (ok185 fuel) Tryz.func185 (by kernel_rfl) rfl <|
  gok_nil
def spg174 (F:YF174):Ev.Spec:=fun args objs k=>match args,objs with | [.c (i6 a)],[]=>F a (fun r=>match r with | (b,d)=>k (.tup [(false,[i6 b]),(false,[i6 d])],[])) | _,_=>none
theorem ok174 (fuel:Nat):FnOK Tryz.prog 174 (spg174 (F_ref08_Size fuel)):=by
  intro args objs kk r h
  unfold spg174 at h
  split at h
  · skip
    exact fo0 (hG174 fuel) Tryz.func174 rfl (by kernel_rfl) _ _ kk r ((F174_eqg fuel (F_ref08_size fuel) _ kk).trans h)
  · cases h
def kp84 (i:Nat):Option (List Nat):=Ev.look i [(200006,[2])]
def Gg84 (b:YF59) (a:YF174) (f:Nat):Option Ev.Spec:=Ev.look f [(59,spg59 b),(174,spg174 a)]
def G84 (fuel:Nat):Nat→Option Ev.Spec:=Gg84 (F_ref03_Width fuel) (F_ref08_Size fuel)
def Fg_ref10_Model (fuel:Nat) (e:YF59) (d:YF174) (j k:Int) (l:Bool) (m n c:Int) (f:Bool) (g h:Int) (k0:(Int×Int×LI)→OA):OA:=(e h (fun a=>bif decide (a < 0) then none else bif f then (d g (fun (b,i)=>bif decide (0≤i64.wrap (i64.wrap (i64.wrap (385+Ev.ishl IntKind.i64 1 a) - 1)+b)∧i64.wrap (i64.wrap (i64.wrap (385+Ev.ishl IntKind.i64 1 a) - 1)+b)=i64.wrap (i64.wrap (i64.wrap (385+Ev.ishl IntKind.i64 1 a) - 1)+b)∧(↑(8:Nat):Int)*i64.wrap (i64.wrap (i64.wrap (385+Ev.ishl IntKind.i64 1 a) - 1)+b)≤281474976710656∧i64.wrap (i64.wrap (i64.wrap (385+Ev.ishl IntKind.i64 1 a) - 1)+b)≤281474976710656) then k0 (c,a,List.replicate (i64.wrap (i64.wrap (i64.wrap (385+Ev.ishl IntKind.i64 1 a) - 1)+b)).toNat (0:Int)) else none)) else bif decide (0≤i64.wrap (i64.wrap (385+Ev.ishl IntKind.i64 1 a) - 1)∧i64.wrap (i64.wrap (385+Ev.ishl IntKind.i64 1 a) - 1)=i64.wrap (i64.wrap (385+Ev.ishl IntKind.i64 1 a) - 1)∧(↑(8:Nat):Int)*i64.wrap (i64.wrap (385+Ev.ishl IntKind.i64 1 a) - 1)≤281474976710656∧i64.wrap (i64.wrap (385+Ev.ishl IntKind.i64 1 a) - 1)≤281474976710656) then k0 (c,a,List.replicate (i64.wrap (i64.wrap (385+Ev.ishl IntKind.i64 1 a) - 1)).toNat (0:Int)) else none))
abbrev YF84:Type:=Int→Int→Bool→Int→Int→Int→Bool→Int→Int→((Int×Int×LI)→Option Ans)→Option Ans
def F_ref10_Model (fuel:Nat):YF84:=Fg_ref10_Model fuel (F_ref03_Width fuel) (F_ref08_Size fuel)
theorem F84_eqg (fuel:Nat) (b:YF59) (a:YF174) (d e:Int) (f:Bool) (g h i:Int) (j:Bool) (l m:Int) (k:Ev.Cont):evalFn tab (Gg84 b a) J0 kp84 fuel Tryz.f84 [.agg [i6 d,i6 e,.bool f,i6 g,i6 h,i6 i,.bool j,i6 l],.c (i6 m)] [] k=Fg_ref10_Model fuel b a d e f g h i j l m (fun r=>match r with | (n,o,p)=>k (.tup [(true,[i6 n,.own 0]),(false,[i6 o])],[.vec 3 (.int .i64) p true])):=by
  kernel_rfl
theorem hG84 (fuel:Nat):GOK Tryz.prog (G84 fuel):=
  gc (ok59 fuel) Tryz.func59 (by kernel_rfl) rfl <|
  gc (ok174 fuel) Tryz.func174 (by kernel_rfl) rfl <|
  gok_nil
def spg84 (F:YF84):Ev.Spec:=fun args objs k=>match args,objs with | [.agg [i6 a,i6 b,.bool d,i6 e,i6 f,i6 g,.bool h,i6 i],.c (i6 j)],[]=>F a b d e f g h i j (fun r=>match r with | (l,m,n)=>k (.tup [(true,[i6 l,.own 0]),(false,[i6 m])],[.vec 3 (.int .i64) n true])) | _,_=>none
theorem ok84 (fuel:Nat):FnOK Tryz.prog 84 (spg84 (F_ref10_Model fuel)):=by
  intro args objs kk r h
  unfold spg84 at h
  split at h
  · skip
    exact fo0 (hG84 fuel) Tryz.func84 rfl (by kernel_rfl) _ _ kk r ((F84_eqg fuel (F_ref03_Width fuel) (F_ref08_Size fuel) _ _ _ _ _ _ _ _ _ kk).trans h)
  · cases h
def kp200 (i:Nat):Option (List Nat):=Ev.look i [(2,[5,6,7]),(100000,[]),(400000,[2])]
def Gg200 (f:Nat):Option Ev.Spec:=Ev.look f []
def G200 (fuel:Nat):Nat→Option Ev.Spec:=Gg200
def S_ref06_IsRow_0 (fuel:Nat) (v:(List Int)×Int×Int) (c:((List Int)×Int×Int)→Option Ans) (B:(Bool→Option Ans)×(Unit→Option Ans)):Option Ans:=match v,B with | (d,e,a),(ret,b)=>bif decide (a < e) then bif decide ((0:Int)≤a∧a < (↑d.length:Int)) then bif decide (d.getD a.toNat (0:Int) > (1:Int)) then ret false else c (d,e,i64.wrap (a+(1:Int))) else none else b ()
def L_ref06_IsRow_0 (fuel:Nat) (v:(List Int)×Int×Int) (ret:(Bool→Option Ans)) (b:(Unit→Option Ans)):Option Ans:=iter (S_ref06_IsRow_0 fuel) fuel v (ret,b)
def T200_0 (v:LI×Int×Int):Ev.St:=match v with | (a,b,d)=>⟨[(5,.c (.sl (.int .u8) a)),(6,.c (i6 b)),(7,.c (i6 d))],[],0,0⟩
def E200_0 (K:KT):(Bool→OA)×(Unit→OA):=((fun v=>match v with | a=>K .ret ⟨[(2,.c (.bool a))],[],0,0⟩),(fun v=>match v with | ()=>K .normal ⟨[],[],0,0⟩))
theorem S200_0_ok (fuel:Nat) (R:Ev.St→OA) (K:KT) (a:LI) (b c:Int):evalCode tab (G200 fuel) J0 kp200 fuel (bodyOf 0 Tryz.f200) (T200_0 (a,b,c)) (lc kp200 2 0 R K)=S_ref06_IsRow_0 fuel (a,b,c) (fun v=>R (T200_0 v)) (E200_0 K):=by
  kernel_rfl
def B200_0 (fuel:Nat):Ev.Blk:=fun st K=>match canonO (kp200 2) st with | some s=>(match s with | ⟨[(a,.c (.sl (.int .u8) b)),(d,.c (i6 e)),(f,.c (i6 g))],[],h,i⟩=>bif qb [a,d,f,h,i] [5,6,7,0,0] then iter (S_ref06_IsRow_0 fuel) fuel (b,e,g) (E200_0 K) else none | _=>none) | none=>none
theorem B200_0_ok (fuel:Nat) (st:Ev.St) (K:KT) (r:Ans) (h:B200_0 fuel st K=some r):evalCode tab (G200 fuel) J0 kp200 fuel (.block 0 (.loop (bodyOf 0 Tryz.f200))) st K=some r:=by
  unfold B200_0 at h
  split at h
  · rename_i s hs
    split at h
    · skip
      obtain ⟨hb,h⟩:=cond_some' h
      cases qb_eq hb
      exact blk_loop (S:=T200_0) (ks:=E200_0) (step:=S_ref06_IsRow_0 fuel) (v:=(_,_,_)) (by kernel_rfl) (by kernel_rfl) (fun R K v=>by obtain ⟨a,b,c⟩:=v; exact S200_0_ok fuel R K a b c) hs h
    · cases h
  · cases h
def J200 (fuel:Nat) (i:Nat):Option Ev.Blk:=Ev.look i [(100000,B200_0 fuel)]
def F_ref06_IsRow (fuel:Nat) (a:(List Int)) (k0:(Bool)→Option Ans):Option Ans:=(L_ref06_IsRow_0 fuel (a,(↑a.length:Int),0) (fun ret0_0=>k0 ret0_0) (fun ()=>k0 true))
abbrev YF200:Type:=LI→(Bool→Option Ans)→Option Ans
theorem F200_eq (fuel:Nat) (a:LI) (k:Ev.Cont):evalFn tab (G200 fuel) (J200 fuel) kp200 fuel Tryz.f200 [.c (.sl (.int .u8) a)] [] k=F_ref06_IsRow fuel a (fun r=>match r with | b=>k (.c (.bool b),[])):=by
  kernel_rfl
theorem hG200 (fuel:Nat):GOK Tryz.prog (G200 fuel):=
  gok_nil
theorem B200_0_blk (fuel:Nat):BlkOK Tryz.prog Tryz.f200.ntmps (.block 0 (.loop (bodyOf 0 Tryz.f200))) (B200_0 fuel):=bo0 (hG200 fuel) (by kernel_rfl) (by kernel_rfl) (B200_0_ok fuel)
def spg200 (F:YF200):Ev.Spec:=fun args objs k=>match args,objs with | [.c (.sl (.int .u8) a)],[]=>F a (fun r=>match r with | b=>k (.c (.bool b),[])) | _,_=>none
theorem ok200 (fuel:Nat):FnOK Tryz.prog 200 (spg200 (F_ref06_IsRow fuel)):=by
  intro args objs kk r h
  unfold spg200 at h
  split at h
  · skip
    exact fo1 (hG200 fuel) Tryz.func200 rfl (B200_0_blk fuel) (by kernel_rfl) _ _ kk r ((F200_eq fuel _ kk).trans h)
  · cases h
def kp108 (i:Nat):Option (List Nat):=Ev.look i []
def Gg108 (f:Nat):Option Ev.Spec:=Ev.look f []
def G108 (fuel:Nat):Nat→Option Ev.Spec:=Gg108
def F_ref06_IsSize (fuel:Nat) (a b:Int) (k0:(Bool)→Option Ans):Option Ans:=bif decide (a≥0) then bif decide (a≤200) then bif decide (b≥0) then bif decide (b≤200) then k0 (decide (i64.wrap (a*b)≤8192)) else k0 false else k0 false else k0 false else k0 false
abbrev YF108:Type:=Int→Int→(Bool→Option Ans)→Option Ans
theorem F108_eq (fuel:Nat) (a b:Int) (k:Ev.Cont):evalFn tab (G108 fuel) J0 kp108 fuel Tryz.f108 [.c (i6 a),.c (i6 b)] [] k=F_ref06_IsSize fuel a b (fun r=>match r with | d=>k (.c (.bool d),[])):=by
  kernel_rfl
theorem hG108 (fuel:Nat):GOK Tryz.prog (G108 fuel):=
  gok_nil
def spg108 (F:YF108):Ev.Spec:=fun args objs k=>match args,objs with | [.c (i6 a),.c (i6 b)],[]=>F a b (fun r=>match r with | d=>k (.c (.bool d),[])) | _,_=>none
theorem ok108 (fuel:Nat):FnOK Tryz.prog 108 (spg108 (F_ref06_IsSize fuel)):=by
  intro args objs kk r h
  unfold spg108 at h
  split at h
  · skip
    exact fo0 (hG108 fuel) Tryz.func108 rfl (by kernel_rfl) _ _ kk r ((F108_eq fuel _ _ kk).trans h)
  · cases h
def kp110 (i:Nat):Option (List Nat):=Ev.look i []
def Gg110 (a:YF108) (b:YF200) (f:Nat):Option Ev.Spec:=Ev.look f [(108,spg108 a),(200,spg200 b)]
def G110 (fuel:Nat):Nat→Option Ev.Spec:=Gg110 (F_ref06_IsSize fuel) (F_ref06_IsRow fuel)
def Fg_ref06_IsBitmap (fuel:Nat) (d:YF108) (e:YF200) (a b:Int) (c:LI) (k0:(Bool)→OA):OA:=(d a b (fun f=>bif f then bif (↑c.length:Int)==i64.wrap (a*b) then (e c (fun g=>k0 g)) else k0 false else k0 false))
abbrev YF110:Type:=Int→Int→LI→(Bool→Option Ans)→Option Ans
def F_ref06_IsBitmap (fuel:Nat):YF110:=Fg_ref06_IsBitmap fuel (F_ref06_IsSize fuel) (F_ref06_IsRow fuel)
theorem F110_eqg (fuel:Nat) (a:YF108) (b:YF200) (d e:Int) (f:LI) (k:Ev.Cont):evalFn tab (Gg110 a b) J0 kp110 fuel Tryz.f110 [.agg [i6 d,i6 e,.sl (.int .u8) f]] [] k=Fg_ref06_IsBitmap fuel a b d e f (fun r=>match r with | g=>k (.c (.bool g),[])):=by
  kernel_rfl
theorem hG110 (fuel:Nat):GOK Tryz.prog (G110 fuel):=
  gc (ok108 fuel) Tryz.func108 (by kernel_rfl) rfl <|
  gc (ok200 fuel) Tryz.func200 (by kernel_rfl) rfl <|
  gok_nil
def spg110 (F:YF110):Ev.Spec:=fun args objs k=>match args,objs with | [.agg [i6 a,i6 b,.sl (.int .u8) d]],[]=>F a b d (fun r=>match r with | e=>k (.c (.bool e),[])) | _,_=>none
theorem ok110 (fuel:Nat):FnOK Tryz.prog 110 (spg110 (F_ref06_IsBitmap fuel)):=by
  intro args objs kk r h
  unfold spg110 at h
  split at h
  · skip
    exact fo0 (hG110 fuel) Tryz.func110 rfl (by kernel_rfl) _ _ kk r ((F110_eqg fuel (F_ref06_IsSize fuel) (F_ref06_IsRow fuel) _ _ _ kk).trans h)
  · cases h
def kp39 (i:Nat):Option (List Nat):=Ev.look i []
def Gg39 (a:YF110) (f:Nat):Option Ev.Spec:=Ev.look f [(110,spg110 a)]
def G39 (fuel:Nat):Nat→Option Ev.Spec:=Gg39 (F_ref06_IsBitmap fuel)
def Fg_ref10_IsShape (fuel:Nat) (c:YF110) (a b:Int) (d:LI) (k0:(Bool)→OA):OA:=(c a b d (fun e=>bif e then bif decide (a≥1) then bif decide (a≤40) then bif decide (b≥1) then k0 (decide (b≤40)) else k0 false else k0 false else k0 false else k0 false))
abbrev YF39:Type:=Int→Int→LI→(Bool→Option Ans)→Option Ans
def F_ref10_IsShape (fuel:Nat):YF39:=Fg_ref10_IsShape fuel (F_ref06_IsBitmap fuel)
theorem F39_eqg (fuel:Nat) (a:YF110) (b d:Int) (e:LI) (k:Ev.Cont):evalFn tab (Gg39 a) J0 kp39 fuel Tryz.f39 [.agg [i6 b,i6 d,.sl (.int .u8) e]] [] k=Fg_ref10_IsShape fuel a b d e (fun r=>match r with | f=>k (.c (.bool f),[])):=by
  kernel_rfl
theorem hG39 (fuel:Nat):GOK Tryz.prog (G39 fuel):=
  gc (ok110 fuel) Tryz.func110 (by kernel_rfl) rfl <|
  gok_nil
def spg39 (F:YF39):Ev.Spec:=fun args objs k=>match args,objs with | [.agg [i6 a,i6 b,.sl (.int .u8) d]],[]=>F a b d (fun r=>match r with | e=>k (.c (.bool e),[])) | _,_=>none
theorem ok39 (fuel:Nat):FnOK Tryz.prog 39 (spg39 (F_ref10_IsShape fuel)):=by
  intro args objs kk r h
  unfold spg39 at h
  split at h
  · skip
    exact fo0 (hG39 fuel) Tryz.func39 rfl (by kernel_rfl) _ _ kk r ((F39_eqg fuel (F_ref06_IsBitmap fuel) _ _ _ kk).trans h)
  · cases h
def kp32 (i:Nat):Option (List Nat):=Ev.look i []
def Gg32 (f:Nat):Option Ev.Spec:=Ev.look f []
def G32 (fuel:Nat):Nat→Option Ev.Spec:=Gg32
def F_ref10_Valid (fuel:Nat) (f a:Int) (g:Bool) (b c d:Int) (h:Bool) (e:Int) (k0:(Bool)→Option Ans):Option Ans:=bif f != 1 then bif f != 2 then bif f != 4 then bif f != 8 then k0 false else bif decide (a≥0) then bif decide (a≤3) then bif decide (b≥(-16:Int)) then bif decide (b≤16) then bif decide (c≥0) then bif decide (c≤4) then bif decide (d≥0) then bif decide (d≤1) then bif decide (e≥0) then k0 (decide (e≤1)) else k0 false else k0 false else k0 false else k0 false else k0 false else k0 false else k0 false else k0 false else k0 false else bif decide (a≥0) then bif decide (a≤3) then bif decide (b≥(-16:Int)) then bif decide (b≤16) then bif decide (c≥0) then bif decide (c≤4) then bif decide (d≥0) then bif decide (d≤1) then bif decide (e≥0) then k0 (decide (e≤1)) else k0 false else k0 false else k0 false else k0 false else k0 false else k0 false else k0 false else k0 false else k0 false else bif decide (a≥0) then bif decide (a≤3) then bif decide (b≥(-16:Int)) then bif decide (b≤16) then bif decide (c≥0) then bif decide (c≤4) then bif decide (d≥0) then bif decide (d≤1) then bif decide (e≥0) then k0 (decide (e≤1)) else k0 false else k0 false else k0 false else k0 false else k0 false else k0 false else k0 false else k0 false else k0 false else bif decide (a≥0) then bif decide (a≤3) then bif decide (b≥(-16:Int)) then bif decide (b≤16) then bif decide (c≥0) then bif decide (c≤4) then bif decide (d≥0) then bif decide (d≤1) then bif decide (e≥0) then k0 (decide (e≤1)) else k0 false else k0 false else k0 false else k0 false else k0 false else k0 false else k0 false else k0 false else k0 false
abbrev YF32:Type:=Int→Int→Bool→Int→Int→Int→Bool→Int→(Bool→Option Ans)→Option Ans
theorem F32_eq (fuel:Nat) (a b:Int) (d:Bool) (e f g:Int) (h:Bool) (i:Int) (k:Ev.Cont):evalFn tab (G32 fuel) J0 kp32 fuel Tryz.f32 [.agg [i6 a,i6 b,.bool d,i6 e,i6 f,i6 g,.bool h,i6 i]] [] k=F_ref10_Valid fuel a b d e f g h i (fun r=>match r with | j=>k (.c (.bool j),[])):=by
  kernel_rfl
theorem hG32 (fuel:Nat):GOK Tryz.prog (G32 fuel):=
  gok_nil
def spg32 (F:YF32):Ev.Spec:=fun args objs k=>match args,objs with | [.agg [i6 a,i6 b,.bool d,i6 e,i6 f,i6 g,.bool h,i6 i]],[]=>F a b d e f g h i (fun r=>match r with | j=>k (.c (.bool j),[])) | _,_=>none
theorem ok32 (fuel:Nat):FnOK Tryz.prog 32 (spg32 (F_ref10_Valid fuel)):=by
  intro args objs kk r h
  unfold spg32 at h
  split at h
  · skip
    exact fo0 (hG32 fuel) Tryz.func32 rfl (by kernel_rfl) _ _ kk r ((F32_eq fuel _ _ _ _ _ _ _ _ kk).trans h)
  · cases h
def kp97 (i:Nat):Option (List Nat):=Ev.look i []
def Gg97 (f:Nat):Option Ev.Spec:=Ev.look f []
def G97 (fuel:Nat):Nat→Option Ev.Spec:=Gg97
def F_ref10_isShift (fuel:Nat) (a:Int) (k0:(Bool)→Option Ans):Option Ans:=bif decide (a≥(-100000:Int)) then k0 (decide (a≤100000)) else k0 false
abbrev YF97:Type:=Int→(Bool→Option Ans)→Option Ans
theorem F97_eq (fuel:Nat) (a:Int) (k:Ev.Cont):evalFn tab (G97 fuel) J0 kp97 fuel Tryz.f97 [.c (i6 a)] [] k=F_ref10_isShift fuel a (fun r=>match r with | b=>k (.c (.bool b),[])):=by
  kernel_rfl
theorem hG97 (fuel:Nat):GOK Tryz.prog (G97 fuel):=
  gok_nil
def spg97 (F:YF97):Ev.Spec:=fun args objs k=>match args,objs with | [.c (i6 a)],[]=>F a (fun r=>match r with | b=>k (.c (.bool b),[])) | _,_=>none
theorem ok97 (fuel:Nat):FnOK Tryz.prog 97 (spg97 (F_ref10_isShift fuel)):=by
  intro args objs kk r h
  unfold spg97 at h
  split at h
  · skip
    exact fo0 (hG97 fuel) Tryz.func97 rfl (by kernel_rfl) _ _ kk r ((F97_eq fuel _ kk).trans h)
  · cases h
def kp237 (i:Nat):Option (List Nat):=Ev.look i []
def Gg237 (f:Nat):Option Ev.Spec:=Ev.look f []
def G237 (fuel:Nat):Nat→Option Ev.Spec:=Gg237
def F_ref10_isSide (fuel:Nat) (a:Int) (k0:(Bool)→Option Ans):Option Ans:=bif decide (a≥(-200:Int)) then k0 (decide (a≤200)) else k0 false
abbrev YF237:Type:=Int→(Bool→Option Ans)→Option Ans
theorem F237_eq (fuel:Nat) (a:Int) (k:Ev.Cont):evalFn tab (G237 fuel) J0 kp237 fuel Tryz.f237 [.c (i6 a)] [] k=F_ref10_isSide fuel a (fun r=>match r with | b=>k (.c (.bool b),[])):=by
  kernel_rfl
theorem hG237 (fuel:Nat):GOK Tryz.prog (G237 fuel):=
  gok_nil
def spg237 (F:YF237):Ev.Spec:=fun args objs k=>match args,objs with | [.c (i6 a)],[]=>F a (fun r=>match r with | b=>k (.c (.bool b),[])) | _,_=>none
theorem ok237 (fuel:Nat):FnOK Tryz.prog 237 (spg237 (F_ref10_isSide fuel)):=by
  intro args objs kk r h
  unfold spg237 at h
  split at h
  · skip
    exact fo0 (hG237 fuel) Tryz.func237 rfl (by kernel_rfl) _ _ kk r ((F237_eq fuel _ kk).trans h)
  · cases h
def kp173 (i:Nat):Option (List Nat):=Ev.look i []
def Gg173 (b:YF97) (a:YF237) (f:Nat):Option Ev.Spec:=Ev.look f [(97,spg97 b),(237,spg237 a)]
def G173 (fuel:Nat):Nat→Option Ev.Spec:=Gg173 (F_ref10_isShift fuel) (F_ref10_isSide fuel)
def Fg_ref10_isItem (fuel:Nat) (b:YF97) (a:YF237) (r s:Int) (t:Bool) (u v w:Int) (n:Bool) (x o:Int) (e f g:Int) (h:Bool) (c d:Int) (i j:Int) (k:LI) (k0:(Bool)→OA):OA:=bif decide (e < 0) then k0 false else bif decide (e≥o) then k0 false else (b f (fun p=>bif !p then k0 false else (b g (fun q=>bif !q then k0 false else bif h then bif n then (a c (fun l=>bif l then (a d (fun m=>k0 m)) else k0 false)) else k0 false else bif c==0 then bif d==0 then bif i==0 then bif j==0 then k0 ((↑k.length:Int)==0) else k0 false else k0 false else k0 false else k0 false))))
abbrev YF173:Type:=Int→Int→Bool→Int→Int→Int→Bool→Int→Int→Int→Int→Int→Bool→Int→Int→Int→Int→LI→(Bool→Option Ans)→Option Ans
def F_ref10_isItem (fuel:Nat):YF173:=Fg_ref10_isItem fuel (F_ref10_isShift fuel) (F_ref10_isSide fuel)
theorem F173_eqg (fuel:Nat) (b:YF97) (a:YF237) (m n:Int) (o:Bool) (p q s:Int) (t:Bool) (u v:Int) (w d e:Int) (f:Bool) (g h:Int) (i j:Int) (l:LI) (k:Ev.Cont):evalFn tab (Gg173 b a) J0 kp173 fuel Tryz.f173 [.agg [i6 m,i6 n,.bool o,i6 p,i6 q,i6 s,.bool t,i6 u],.c (i6 v),.agg [i6 w,i6 d,i6 e,.bool f,i6 g,i6 h,i6 i,i6 j,.sl (.int .u8) l]] [] k=Fg_ref10_isItem fuel b a m n o p q s t u v w d e f g h i j l (fun r=>match r with | x=>k (.c (.bool x),[])):=by
  kernel_rfl
theorem hG173 (fuel:Nat):GOK Tryz.prog (G173 fuel):=
  gc (ok97 fuel) Tryz.func97 (by kernel_rfl) rfl <|
  gc (ok237 fuel) Tryz.func237 (by kernel_rfl) rfl <|
  gok_nil
def spg173 (F:YF173):Ev.Spec:=fun args objs k=>match args,objs with | [.agg [i6 j,i6 l,.bool m,i6 n,i6 o,i6 p,.bool q,i6 s],.c (i6 t),.agg [i6 u,i6 a,i6 b,.bool d,i6 e,i6 f,i6 g,i6 h,.sl (.int .u8) i]],[]=>F j l m n o p q s t u a b d e f g h i (fun r=>match r with | v=>k (.c (.bool v),[])) | _,_=>none
theorem ok173 (fuel:Nat):FnOK Tryz.prog 173 (spg173 (F_ref10_isItem fuel)):=by
  intro args objs kk r h
  unfold spg173 at h
  split at h
  · skip
    exact fo0 (hG173 fuel) Tryz.func173 rfl (by kernel_rfl) _ _ kk r ((F173_eqg fuel (F_ref10_isShift fuel) (F_ref10_isSide fuel) _ _ _ _ _ _ _ _ _ _ _ _ _ _ _ _ _ _ kk).trans h)
  · cases h
def kp82 (i:Nat):Option (List Nat):=Ev.look i [(4,[1,2,3,4,5,20,21,22]),(9,[1,2,3,4,5,32,33,34]),(18,[4,5,60,61,62]),(100000,[1,2,3,4,5]),(100002,[1,2,3,4,5]),(100004,[]),(400000,[10]),(400002,[10]),(400004,[10])]
def Gg82 (b:YF32) (c:YF39) (a:YF173) (f:Nat):Option Ev.Spec:=Ev.look f [(32,spg32 b),(39,spg39 c),(173,spg173 a)]
def G82 (fuel:Nat):Nat→Option Ev.Spec:=Gg82 (F_ref10_Valid fuel) (F_ref10_IsShape fuel) (F_ref10_isItem fuel)
abbrev V_ref10_asked_0:Type:=(List (Int×(Int×LI)))×(List (Int×(Int×(Int×(Bool×(Int×(Int×(Int×(Int×LI)))))))))×Bool×Int×(List (Int×(Int×LI)))×Int×Int×Int×Int×Bool×Int×Int×Int×Bool×Int
abbrev W_ref10_asked_0:Type:=((List (Int×(Int×LI)))×(List (Int×(Int×(Int×(Bool×(Int×(Int×(Int×(Int×LI)))))))))×Bool×Int×Int×Int×Bool×Int×Int×Int×Bool×Int→OA)
def Sg_ref10_asked_0 (fuel:Nat) (u:YF32) (r:YF39) (t:YF173) (j:(List (Int×(Int×LI)))) (k:(List (Int×(Int×(Int×(Bool×(Int×(Int×(Int×(Int×LI)))))))))) (q:Bool) (l:Int) (d:(List (Int×(Int×LI)))) (m a:Int) (n o:Int) (p:Bool) (e f g:Int) (h:Bool) (i:Int) (c:V_ref10_asked_0→OA) (B:W_ref10_asked_0):OA:=match B with | b=>bif decide (a < m) then bif decide (0≤a∧a < (↑d.length:Int)) then bif q then (r ((d.getD a.toNat (0,0,[])).fst) ((d.getD a.toNat (0,0,[])).snd.fst) ((d.getD a.toNat (0,0,[])).snd.snd) (fun s=>c (j,k,s,l,d,m,i64.wrap (a+1),n,o,p,e,f,g,h,i))) else c (j,k,false,l,d,m,i64.wrap (a+1),n,o,p,e,f,g,h,i) else none else b (j,k,q,l,n,o,p,e,f,g,h,i)
def S_ref10_asked_0 (fuel:Nat) (v:(List (Int×(Int×(List Int))))×(List (Int×(Int×(Int×(Bool×(Int×(Int×(Int×(Int×(List Int))))))))))×Bool×Int×(List (Int×(Int×(List Int))))×Int×Int×Int×Int×Bool×Int×Int×Int×Bool×Int) (c:((List (Int×(Int×(List Int))))×(List (Int×(Int×(Int×(Bool×(Int×(Int×(Int×(Int×(List Int))))))))))×Bool×Int×(List (Int×(Int×(List Int))))×Int×Int×Int×Int×Bool×Int×Int×Int×Bool×Int)→Option Ans) (B:((List (Int×(Int×(List Int))))×(List (Int×(Int×(Int×(Bool×(Int×(Int×(Int×(Int×(List Int))))))))))×Bool×Int×Int×Int×Bool×Int×Int×Int×Bool×Int→Option Ans)):Option Ans:=match v with | (g,h,i,j,k,l,m,n,o,p,a,b,d,e,f)=>Sg_ref10_asked_0 fuel (F_ref10_Valid fuel) (F_ref10_IsShape fuel) (F_ref10_isItem fuel) g h i j k l m n o p a b d e f c B
def L_ref10_asked_0 (fuel:Nat) (v:V_ref10_asked_0) (b:W_ref10_asked_0):Option Ans:=iter (S_ref10_asked_0 fuel) fuel v b
def T82_0 (v:V_ref10_asked_0):Ev.St:=match v with | (g,h,i,j,k,l,m,n,o,p,a,b,d,e,f)=>⟨[(1,.c (.sl (.pair (.int .i64) (.pair (.int .i64) (.sl (.int .u8)))) g)),(2,.c (.sl (.pair (.int .i64) (.pair (.int .i64) (.pair (.int .i64) (.pair .bool (.pair (.int .i64) (.pair (.int .i64) (.pair (.int .i64) (.pair (.int .i64) (.sl (.int .u8)))))))))) h)),(3,.c (.bool i)),(4,.c (i6 j)),(5,.c (.ptr 0 0)),(20,.c (.sl (.pair (.int .i64) (.pair (.int .i64) (.sl (.int .u8)))) k)),(21,.c (i6 l)),(22,.c (i6 m))],[(0,.cells 40 [i6 n,i6 o,.bool p,i6 a,i6 b,i6 d,.bool e,i6 f])],1,0⟩
def E82_0 (K:KT):W_ref10_asked_0:=(fun v=>match v with | (d,e,f,g,h,i,j,k,l,m,a,b)=>K .normal ⟨[(1,.c (.sl (.pair (.int .i64) (.pair (.int .i64) (.sl (.int .u8)))) d)),(2,.c (.sl (.pair (.int .i64) (.pair (.int .i64) (.pair (.int .i64) (.pair .bool (.pair (.int .i64) (.pair (.int .i64) (.pair (.int .i64) (.pair (.int .i64) (.sl (.int .u8)))))))))) e)),(3,.c (.bool f)),(4,.c (i6 g)),(5,.c (.ptr 0 0))],[(0,.cells 40 [i6 h,i6 i,.bool j,i6 k,i6 l,i6 m,.bool a,i6 b])],1,0⟩)
theorem S82_0_okg (fuel:Nat) (b:YF32) (c:YF39) (a:YF173) (R:Ev.St→OA) (K:KT) (i:(List (Int×(Int×LI)))) (j:(List (Int×(Int×(Int×(Bool×(Int×(Int×(Int×(Int×LI)))))))))) (k:Bool) (l:Int) (m:(List (Int×(Int×LI)))) (n o:Int) (p q:Int) (r:Bool) (d e f:Int) (g:Bool) (h:Int):evalCode tab (Gg82 b c a) J0 kp82 fuel (bodyOf 0 Tryz.f82) (T82_0 (i,j,k,l,m,n,o,p,q,r,d,e,f,g,h)) (lc kp82 4 0 R K)=Sg_ref10_asked_0 fuel b c a i j k l m n o p q r d e f g h (fun v=>R (T82_0 v)) (E82_0 K):=by
  kernel_rfl
def B82_0 (fuel:Nat):Ev.Blk:=fun st K=>match canonO (kp82 4) st with | some s=>(match s with | ⟨[(k,.c (.sl (.pair (.int .i64) (.pair (.int .i64) (.sl (.int .u8)))) l)),(m,.c (.sl (.pair (.int .i64) (.pair (.int .i64) (.pair (.int .i64) (.pair .bool (.pair (.int .i64) (.pair (.int .i64) (.pair (.int .i64) (.pair (.int .i64) (.sl (.int .u8)))))))))) n)),(o,.c (.bool p)),(q,.c (i6 r)),(t,.c (.ptr u v)),(w,.c (.sl (.pair (.int .i64) (.pair (.int .i64) (.sl (.int .u8)))) x)),(y,.c (i6 z)),(A,.c (i6 B))],[(a,.cells b [i6 C,i6 D,.bool E,i6 d,i6 e,i6 f,.bool g,i6 h])],i,j⟩=>bif qb [k,m,o,q,t,u,v,w,y,A,a,b,i,j] [1,2,3,4,5,0,0,20,21,22,0,40,1,0] then iter (S_ref10_asked_0 fuel) fuel (l,n,p,r,x,z,B,C,D,E,d,e,f,g,h) (E82_0 K) else none | _=>none) | none=>none
theorem B82_0_ok (fuel:Nat) (st:Ev.St) (K:KT) (r:Ans) (h:B82_0 fuel st K=some r):evalCode tab (G82 fuel) J0 kp82 fuel (.block 0 (.loop (bodyOf 0 Tryz.f82))) st K=some r:=by
  unfold B82_0 at h
  split at h
  · rename_i s hs
    split at h
    · skip
      obtain ⟨hb,h⟩:=cond_some' h
      cases qb_eq hb
      exact blk_loop (S:=T82_0) (ks:=E82_0) (step:=S_ref10_asked_0 fuel) (v:=(_,_,_,_,_,_,_,_,_,_,_,_,_,_,_)) (by kernel_rfl) (by kernel_rfl) (fun R K v=>by obtain ⟨f,g,i,j,k,l,m,n,o,p,a,b,c,d,e⟩:=v; exact S82_0_okg fuel (F_ref10_Valid fuel) (F_ref10_IsShape fuel) (F_ref10_isItem fuel) R K f g i j k l m n o p a b c d e) hs h
    · cases h
  · cases h
abbrev V_ref10_asked_2:Type:=(List (Int×(Int×LI)))×(List (Int×(Int×(Int×(Bool×(Int×(Int×(Int×(Int×LI)))))))))×Bool×Int×(List (Int×(Int×(Int×(Bool×(Int×(Int×(Int×(Int×LI)))))))))×Int×Int×Int×Int×Bool×Int×Int×Int×Bool×Int
abbrev W_ref10_asked_2:Type:=((List (Int×(Int×LI)))×(List (Int×(Int×(Int×(Bool×(Int×(Int×(Int×(Int×LI)))))))))×Bool×Int×Int×Int×Bool×Int×Int×Int×Bool×Int→OA)
def Sg_ref10_asked_2 (fuel:Nat) (u:YF32) (r:YF39) (t:YF173) (j:(List (Int×(Int×LI)))) (k:(List (Int×(Int×(Int×(Bool×(Int×(Int×(Int×(Int×LI)))))))))) (q:Bool) (l:Int) (d:(List (Int×(Int×(Int×(Bool×(Int×(Int×(Int×(Int×LI)))))))))) (m a:Int) (n o:Int) (p:Bool) (e f g:Int) (h:Bool) (i:Int) (c:V_ref10_asked_2→OA) (B:W_ref10_asked_2):OA:=match B with | b=>bif decide (a < m) then bif decide (0≤a∧a < (↑d.length:Int)) then bif q then bif !(d.getD a.toNat (0,0,0,false,0,0,0,0,[])).snd.snd.snd.fst then c (j,k,true,l,d,m,i64.wrap (a+1),n,o,p,e,f,g,h,i) else (r ((d.getD a.toNat (0,0,0,false,0,0,0,0,[])).snd.snd.snd.snd.snd.snd.fst) ((d.getD a.toNat (0,0,0,false,0,0,0,0,[])).snd.snd.snd.snd.snd.snd.snd.fst) ((d.getD a.toNat (0,0,0,false,0,0,0,0,[])).snd.snd.snd.snd.snd.snd.snd.snd) (fun s=>c (j,k,s,l,d,m,i64.wrap (a+1),n,o,p,e,f,g,h,i))) else c (j,k,false,l,d,m,i64.wrap (a+1),n,o,p,e,f,g,h,i) else none else b (j,k,q,l,n,o,p,e,f,g,h,i)
def S_ref10_asked_2 (fuel:Nat) (v:(List (Int×(Int×(List Int))))×(List (Int×(Int×(Int×(Bool×(Int×(Int×(Int×(Int×(List Int))))))))))×Bool×Int×(List (Int×(Int×(Int×(Bool×(Int×(Int×(Int×(Int×(List Int))))))))))×Int×Int×Int×Int×Bool×Int×Int×Int×Bool×Int) (c:((List (Int×(Int×(List Int))))×(List (Int×(Int×(Int×(Bool×(Int×(Int×(Int×(Int×(List Int))))))))))×Bool×Int×(List (Int×(Int×(Int×(Bool×(Int×(Int×(Int×(Int×(List Int))))))))))×Int×Int×Int×Int×Bool×Int×Int×Int×Bool×Int)→Option Ans) (B:((List (Int×(Int×(List Int))))×(List (Int×(Int×(Int×(Bool×(Int×(Int×(Int×(Int×(List Int))))))))))×Bool×Int×Int×Int×Bool×Int×Int×Int×Bool×Int→Option Ans)):Option Ans:=match v with | (g,h,i,j,k,l,m,n,o,p,a,b,d,e,f)=>Sg_ref10_asked_2 fuel (F_ref10_Valid fuel) (F_ref10_IsShape fuel) (F_ref10_isItem fuel) g h i j k l m n o p a b d e f c B
def L_ref10_asked_2 (fuel:Nat) (v:V_ref10_asked_2) (b:W_ref10_asked_2):Option Ans:=iter (S_ref10_asked_2 fuel) fuel v b
def J82_2 (fuel:Nat) (i:Nat):Option Ev.Blk:=Ev.look i [(100000,B82_0 fuel)]
def T82_2 (v:V_ref10_asked_2):Ev.St:=match v with | (g,h,i,j,k,l,m,n,o,p,a,b,d,e,f)=>⟨[(1,.c (.sl (.pair (.int .i64) (.pair (.int .i64) (.sl (.int .u8)))) g)),(2,.c (.sl (.pair (.int .i64) (.pair (.int .i64) (.pair (.int .i64) (.pair .bool (.pair (.int .i64) (.pair (.int .i64) (.pair (.int .i64) (.pair (.int .i64) (.sl (.int .u8)))))))))) h)),(3,.c (.bool i)),(4,.c (i6 j)),(5,.c (.ptr 0 0)),(32,.c (.sl (.pair (.int .i64) (.pair (.int .i64) (.pair (.int .i64) (.pair .bool (.pair (.int .i64) (.pair (.int .i64) (.pair (.int .i64) (.pair (.int .i64) (.sl (.int .u8)))))))))) k)),(33,.c (i6 l)),(34,.c (i6 m))],[(0,.cells 40 [i6 n,i6 o,.bool p,i6 a,i6 b,i6 d,.bool e,i6 f])],1,0⟩
def E82_2 (K:KT):W_ref10_asked_2:=(fun v=>match v with | (d,e,f,g,h,i,j,k,l,m,a,b)=>K .normal ⟨[(1,.c (.sl (.pair (.int .i64) (.pair (.int .i64) (.sl (.int .u8)))) d)),(2,.c (.sl (.pair (.int .i64) (.pair (.int .i64) (.pair (.int .i64) (.pair .bool (.pair (.int .i64) (.pair (.int .i64) (.pair (.int .i64) (.pair (.int .i64) (.sl (.int .u8)))))))))) e)),(3,.c (.bool f)),(4,.c (i6 g)),(5,.c (.ptr 0 0))],[(0,.cells 40 [i6 h,i6 i,.bool j,i6 k,i6 l,i6 m,.bool a,i6 b])],1,0⟩)
theorem S82_2_okg (fuel:Nat) (b:YF32) (c:YF39) (a:YF173) (R:Ev.St→OA) (K:KT) (i:(List (Int×(Int×LI)))) (j:(List (Int×(Int×(Int×(Bool×(Int×(Int×(Int×(Int×LI)))))))))) (k:Bool) (l:Int) (m:(List (Int×(Int×(Int×(Bool×(Int×(Int×(Int×(Int×LI)))))))))) (n o:Int) (p q:Int) (r:Bool) (d e f:Int) (g:Bool) (h:Int):evalCode tab (Gg82 b c a) (J82_2 fuel) kp82 fuel (bodyOf 2 Tryz.f82) (T82_2 (i,j,k,l,m,n,o,p,q,r,d,e,f,g,h)) (lc kp82 9 2 R K)=Sg_ref10_asked_2 fuel b c a i j k l m n o p q r d e f g h (fun v=>R (T82_2 v)) (E82_2 K):=by
  kernel_rfl
def B82_2 (fuel:Nat):Ev.Blk:=fun st K=>match canonO (kp82 9) st with | some s=>(match s with | ⟨[(k,.c (.sl (.pair (.int .i64) (.pair (.int .i64) (.sl (.int .u8)))) l)),(m,.c (.sl (.pair (.int .i64) (.pair (.int .i64) (.pair (.int .i64) (.pair .bool (.pair (.int .i64) (.pair (.int .i64) (.pair (.int .i64) (.pair (.int .i64) (.sl (.int .u8)))))))))) n)),(o,.c (.bool p)),(q,.c (i6 r)),(t,.c (.ptr u v)),(w,.c (.sl (.pair (.int .i64) (.pair (.int .i64) (.pair (.int .i64) (.pair .bool (.pair (.int .i64) (.pair (.int .i64) (.pair (.int .i64) (.pair (.int .i64) (.sl (.int .u8)))))))))) x)),(y,.c (i6 z)),(A,.c (i6 B))],[(a,.cells b [i6 C,i6 D,.bool E,i6 d,i6 e,i6 f,.bool g,i6 h])],i,j⟩=>bif qb [k,m,o,q,t,u,v,w,y,A,a,b,i,j] [1,2,3,4,5,0,0,32,33,34,0,40,1,0] then iter (S_ref10_asked_2 fuel) fuel (l,n,p,r,x,z,B,C,D,E,d,e,f,g,h) (E82_2 K) else none | _=>none) | none=>none
theorem B82_2_ok (fuel:Nat) (st:Ev.St) (K:KT) (r:Ans) (h:B82_2 fuel st K=some r):evalCode tab (G82 fuel) (J82_2 fuel) kp82 fuel (.block 2 (.loop (bodyOf 2 Tryz.f82))) st K=some r:=by
  unfold B82_2 at h
  split at h
  · rename_i s hs
    split at h
    · skip
      obtain ⟨hb,h⟩:=cond_some' h
      cases qb_eq hb
      exact blk_loop (S:=T82_2) (ks:=E82_2) (step:=S_ref10_asked_2 fuel) (v:=(_,_,_,_,_,_,_,_,_,_,_,_,_,_,_)) (by kernel_rfl) (by kernel_rfl) (fun R K v=>by obtain ⟨f,g,i,j,k,l,m,n,o,p,a,b,c,d,e⟩:=v; exact S82_2_okg fuel (F_ref10_Valid fuel) (F_ref10_IsShape fuel) (F_ref10_isItem fuel) R K f g i j k l m n o p a b c d e) hs h
    · cases h
  · cases h
abbrev V_ref10_asked_4:Type:=Int×(List (Int×(Int×(Int×(Bool×(Int×(Int×(Int×(Int×LI)))))))))×Int×Int×Int×Int×Bool×Int×Int×Int×Bool×Int
abbrev W_ref10_asked_4:Type:=(Int→OA)×(Unit→OA)
def Sg_ref10_asked_4 (fuel:Nat) (q:YF32) (r:YF39) (o:YF173) (g:Int) (d:(List (Int×(Int×(Int×(Bool×(Int×(Int×(Int×(Int×LI)))))))))) (h a:Int) (i j:Int) (k:Bool) (l m n:Int) (e:Bool) (f:Int) (c:V_ref10_asked_4→OA) (B:W_ref10_asked_4):OA:=match B with | (ret,b)=>bif decide (a < h) then bif decide (0≤a∧a < (↑d.length:Int)) then (o i j k l m n e f g ((d.getD a.toNat (0,0,0,false,0,0,0,0,[])).fst) ((d.getD a.toNat (0,0,0,false,0,0,0,0,[])).snd.fst) ((d.getD a.toNat (0,0,0,false,0,0,0,0,[])).snd.snd.fst) ((d.getD a.toNat (0,0,0,false,0,0,0,0,[])).snd.snd.snd.fst) ((d.getD a.toNat (0,0,0,false,0,0,0,0,[])).snd.snd.snd.snd.fst) ((d.getD a.toNat (0,0,0,false,0,0,0,0,[])).snd.snd.snd.snd.snd.fst) ((d.getD a.toNat (0,0,0,false,0,0,0,0,[])).snd.snd.snd.snd.snd.snd.fst) ((d.getD a.toNat (0,0,0,false,0,0,0,0,[])).snd.snd.snd.snd.snd.snd.snd.fst) ((d.getD a.toNat (0,0,0,false,0,0,0,0,[])).snd.snd.snd.snd.snd.snd.snd.snd) (fun p=>bif !p then ret (2) else c (g,d,h,i64.wrap (a+1),i,j,k,l,m,n,e,f))) else none else b ()
def S_ref10_asked_4 (fuel:Nat) (v:Int×(List (Int×(Int×(Int×(Bool×(Int×(Int×(Int×(Int×(List Int))))))))))×Int×Int×Int×Int×Bool×Int×Int×Int×Bool×Int) (c:(Int×(List (Int×(Int×(Int×(Bool×(Int×(Int×(Int×(Int×(List Int))))))))))×Int×Int×Int×Int×Bool×Int×Int×Int×Bool×Int)→Option Ans) (B:(Int→Option Ans)×(Unit→Option Ans)):Option Ans:=match v with | (d,e,f,g,h,i,j,k,l,m,a,b)=>Sg_ref10_asked_4 fuel (F_ref10_Valid fuel) (F_ref10_IsShape fuel) (F_ref10_isItem fuel) d e f g h i j k l m a b c B
def L_ref10_asked_4 (fuel:Nat) (v:V_ref10_asked_4) (ret:(Int→Option Ans)) (b:(Unit→Option Ans)):Option Ans:=iter (S_ref10_asked_4 fuel) fuel v (ret,b)
def J82_4 (fuel:Nat) (i:Nat):Option Ev.Blk:=Ev.look i [(100000,B82_0 fuel),(100002,B82_2 fuel)]
def T82_4 (v:V_ref10_asked_4):Ev.St:=match v with | (d,e,f,g,h,i,j,k,l,m,a,b)=>⟨[(4,.c (i6 d)),(5,.c (.ptr 0 0)),(60,.c (.sl (.pair (.int .i64) (.pair (.int .i64) (.pair (.int .i64) (.pair .bool (.pair (.int .i64) (.pair (.int .i64) (.pair (.int .i64) (.pair (.int .i64) (.sl (.int .u8)))))))))) e)),(61,.c (i6 f)),(62,.c (i6 g))],[(0,.cells 40 [i6 h,i6 i,.bool j,i6 k,i6 l,i6 m,.bool a,i6 b])],1,0⟩
def E82_4 (K:KT):W_ref10_asked_4:=((fun v=>match v with | a=>K .ret ⟨[(10,.c (i6 a))],[],0,0⟩),(fun v=>match v with | ()=>K .normal ⟨[],[],0,0⟩))
theorem S82_4_okg (fuel:Nat) (b:YF32) (c:YF39) (a:YF173) (R:Ev.St→OA) (K:KT) (f:Int) (g:(List (Int×(Int×(Int×(Bool×(Int×(Int×(Int×(Int×LI)))))))))) (h i:Int) (j k:Int) (l:Bool) (m n o:Int) (d:Bool) (e:Int):evalCode tab (Gg82 b c a) (J82_4 fuel) kp82 fuel (bodyOf 4 Tryz.f82) (T82_4 (f,g,h,i,j,k,l,m,n,o,d,e)) (lc kp82 18 4 R K)=Sg_ref10_asked_4 fuel b c a f g h i j k l m n o d e (fun v=>R (T82_4 v)) (E82_4 K):=by
  kernel_rfl
def B82_4 (fuel:Nat):Ev.Blk:=fun st K=>match canonO (kp82 18) st with | some s=>(match s with | ⟨[(e,.c (i6 f)),(g,.c (.ptr h i)),(j,.c (.sl (.pair (.int .i64) (.pair (.int .i64) (.pair (.int .i64) (.pair .bool (.pair (.int .i64) (.pair (.int .i64) (.pair (.int .i64) (.pair (.int .i64) (.sl (.int .u8)))))))))) k)),(l,.c (i6 m)),(n,.c (i6 o))],[(p,.cells q [i6 r,i6 t,.bool u,i6 v,i6 w,i6 x,.bool a,i6 b])],y,d⟩=>bif qb [e,g,h,i,j,l,n,p,q,y,d] [4,5,0,0,60,61,62,0,40,1,0] then iter (S_ref10_asked_4 fuel) fuel (f,k,m,o,r,t,u,v,w,x,a,b) (E82_4 K) else none | _=>none) | none=>none
theorem B82_4_ok (fuel:Nat) (st:Ev.St) (K:KT) (r:Ans) (h:B82_4 fuel st K=some r):evalCode tab (G82 fuel) (J82_4 fuel) kp82 fuel (.block 4 (.loop (bodyOf 4 Tryz.f82))) st K=some r:=by
  unfold B82_4 at h
  split at h
  · rename_i s hs
    split at h
    · skip
      obtain ⟨hb,h⟩:=cond_some' h
      cases qb_eq hb
      exact blk_loop (S:=T82_4) (ks:=E82_4) (step:=S_ref10_asked_4 fuel) (v:=(_,_,_,_,_,_,_,_,_,_,_,_)) (by kernel_rfl) (by kernel_rfl) (fun R K v=>by obtain ⟨c,d,e,f,g,i,j,k,l,m,a,b⟩:=v; exact S82_4_okg fuel (F_ref10_Valid fuel) (F_ref10_IsShape fuel) (F_ref10_isItem fuel) R K c d e f g i j k l m a b) hs h
    · cases h
  · cases h
def J82 (fuel:Nat) (i:Nat):Option Ev.Blk:=Ev.look i [(100000,B82_0 fuel),(100002,B82_2 fuel),(100004,B82_4 fuel)]
def Fg_ref10_asked (fuel:Nat) (H:YF32) (N:YF39) (M:YF173) (d e:Int) (f:Bool) (g h i:Int) (j:Bool) (k:Int) (c:(List (Int×Int×LI))) (K:(List (Int×Int×Int×Bool×Int×Int×(Int×Int×LI)))) (I:Bool) (J:Int) (k0:(Int)→OA):OA:=(H d e f g h i j k (fun L=>bif !L then k0 (2) else (L_ref10_asked_0 fuel (c,K,I,J,c,(↑c.length:Int),0,d,e,f,g,h,i,j,k) (fun (p,a,q,r,s,t,u,v,w,x,l,m)=>(L_ref10_asked_2 fuel (p,a,q,r,a,(↑a.length:Int),0,s,t,u,v,w,x,l,m) (fun (y,b,z,A,B,C,D,E,F,G,n,o)=>bif !z then k0 (30) else bif decide ((↑y.length:Int) > 60) then k0 (2) else bif decide ((↑b.length:Int) > 300) then k0 (2) else (L_ref10_asked_4 fuel (A,b,(↑b.length:Int),0,B,C,D,E,F,G,n,o) (fun ret4_0=>k0 ret4_0) (fun ()=>k0 (0)))))))))
abbrev YF82:Type:=Int→Int→Bool→Int→Int→Int→Bool→Int→((List (Int×Int×LI)))→((List (Int×Int×Int×Bool×Int×Int×(Int×Int×LI))))→Bool→Int→(Int→Option Ans)→Option Ans
def F_ref10_asked (fuel:Nat):YF82:=Fg_ref10_asked fuel (F_ref10_Valid fuel) (F_ref10_IsShape fuel) (F_ref10_isItem fuel)
theorem F82_eqg (fuel:Nat) (b:YF32) (d:YF39) (a:YF173) (g h:Int) (i:Bool) (j l m:Int) (n:Bool) (o:Int) (p:(List (Int×Int×LI))) (q:(List (Int×Int×Int×Bool×Int×Int×(Int×Int×LI)))) (e:Bool) (f:Int) (k:Ev.Cont):evalFn tab (Gg82 b d a) (J82 fuel) kp82 fuel Tryz.f82 [.agg [i6 g,i6 h,.bool i,i6 j,i6 l,i6 m,.bool n,i6 o],.c (.sl (.pair (.int .i64) (.pair (.int .i64) (.sl (.int .u8)))) p),.c (.sl (.pair (.int .i64) (.pair (.int .i64) (.pair (.int .i64) (.pair .bool (.pair (.int .i64) (.pair (.int .i64) (.pair (.int .i64) (.pair (.int .i64) (.sl (.int .u8)))))))))) q),.c (.bool e),.c (i6 f)] [] k=Fg_ref10_asked fuel b d a g h i j l m n o p q e f (fun r=>match r with | s=>k (.c (i6 s),[])):=by
  kernel_rfl
theorem hG82 (fuel:Nat):GOK Tryz.prog (G82 fuel):=
  gc (ok32 fuel) Tryz.func32 (by kernel_rfl) rfl <|
  gc (ok39 fuel) Tryz.func39 (by kernel_rfl) rfl <|
  gc (ok173 fuel) Tryz.func173 (by kernel_rfl) rfl <|
  gok_nil
theorem B82_0_blk (fuel:Nat):BlkOK Tryz.prog Tryz.f82.ntmps (.block 0 (.loop (bodyOf 0 Tryz.f82))) (B82_0 fuel):=bo0 (hG82 fuel) (by kernel_rfl) (by kernel_rfl) (B82_0_ok fuel)
theorem B82_2_blk (fuel:Nat):BlkOK Tryz.prog Tryz.f82.ntmps (.block 2 (.loop (bodyOf 2 Tryz.f82))) (B82_2 fuel):=bo0 (hG82 fuel) (by kernel_rfl) (by kernel_rfl) (B82_2_ok fuel)
theorem B82_4_blk (fuel:Nat):BlkOK Tryz.prog Tryz.f82.ntmps (.block 4 (.loop (bodyOf 4 Tryz.f82))) (B82_4 fuel):=bo0 (hG82 fuel) (by kernel_rfl) (by kernel_rfl) (B82_4_ok fuel)
theorem fok82 (fuel:Nat):FnOK Tryz.prog 82 (evalFn tab (G82 fuel) (J82 fuel) kp82 fuel Tryz.f82):=
  fn_ok tab_ok (hG82 fuel) mixed Tryz.func82 (c:=(Tryz.f82.body).getD .skip) rfl (fun q hq=>by
    rw [(by kernel_rfl:obl (J82 fuel) ((Tryz.f82.body).getD .skip)= [(.block 0 (.loop (bodyOf 0 Tryz.f82)),B82_0 fuel),(.block 2 (.loop (bodyOf 2 Tryz.f82)),B82_2 fuel),(.block 4 (.loop (bodyOf 4 Tryz.f82)),B82_4 fuel)])] at hq
    simp only [List.mem_cons,List.not_mem_nil,or_false] at hq
    rcases hq with rfl | rfl | rfl
    · exact B82_0_blk fuel
    · exact B82_2_blk fuel
    · exact B82_4_blk fuel)
def spg82 (F:YF82):Ev.Spec:=fun args objs k=>match args,objs with | [.agg [i6 d,i6 e,.bool f,i6 g,i6 h,i6 i,.bool j,i6 l],.c (.sl (.pair (.int .i64) (.pair (.int .i64) (.sl (.int .u8)))) m),.c (.sl (.pair (.int .i64) (.pair (.int .i64) (.pair (.int .i64) (.pair .bool (.pair (.int .i64) (.pair (.int .i64) (.pair (.int .i64) (.pair (.int .i64) (.sl (.int .u8)))))))))) n),.c (.bool a),.c (i6 b)],[]=>F d e f g h i j l m n a b (fun r=>match r with | o=>k (.c (i6 o),[])) | _,_=>none
theorem ok82 (fuel:Nat):FnOK Tryz.prog 82 (spg82 (F_ref10_asked fuel)):=by
  intro args objs kk r h
  unfold spg82 at h
  split at h
  · skip
    exact fok82 fuel _ _ kk r ((F82_eqg fuel (F_ref10_Valid fuel) (F_ref10_IsShape fuel) (F_ref10_isItem fuel) _ _ _ _ _ _ _ _ _ _ _ _ kk).trans h)
  · cases h
def kp181 (i:Nat):Option (List Nat):=Ev.look i []
def Gg181 (f:Nat):Option Ev.Spec:=Ev.look f []
def G181 (fuel:Nat):Nat→Option Ev.Spec:=Gg181
def F_ref02_After (fuel:Nat) (c b a:Int) (k0:(Int)→Option Ans):Option Ans:=bif c==0 then bif a==i64.wrap (b.tdiv 32) then k0 (i64.wrap (i64.wrap ((32:Int)*i64.wrap (b.tdiv (32:Int)))+bif decide ((31:Int) < i64.wrap (b.tmod (32:Int)+(1:Int))) then (31:Int) else i64.wrap (b.tmod (32:Int)+(1:Int)))) else bif b.tmod (32:Int)==(0:Int) then k0 (i64.wrap (32*a)) else k0 (i64.wrap (i64.wrap (i64.wrap (i64.wrap (32*i64.wrap (b.tdiv 32))+b.tmod 32) - 1) - i64.wrap ((b.tmod 32).tdiv 4))) else bif decide (0≤a∧a < (↑(2:Nat):Int)) then bif decide (a=(↑(0:Nat):Int)) then bif i64.wrap (b.tdiv 256)==255 then bif decide (0≤a∧a < (↑(2:Nat):Int)) then bif decide (a=(↑(0:Nat):Int)) then bif decide (0≤a∧a < (↑(2:Nat):Int)) then bif decide (a=(↑(0:Nat):Int)) then k0 (i64.wrap (i64.wrap (256*i64.wrap (i64.wrap ((i64.wrap (b.tdiv 256)).tdiv 2)+1))+i64.wrap ((b.tmod 256).tdiv 2))) else bif decide (a=(↑(1:Nat):Int)) then k0 (i64.wrap (i64.wrap (256*i64.wrap ((i64.wrap (b.tdiv 256)).tdiv 2))+i64.wrap (i64.wrap ((i64.wrap (b.tdiv 256)).tdiv 2)+1))) else none else none else bif decide (a=(↑(1:Nat):Int)) then bif decide (0≤a∧a < (↑(2:Nat):Int)) then bif decide (a=(↑(0:Nat):Int)) then k0 (i64.wrap (i64.wrap (256*i64.wrap (i64.wrap ((b.tmod 256).tdiv 2)+1))+i64.wrap ((b.tmod 256).tdiv 2))) else bif decide (a=(↑(1:Nat):Int)) then k0 (i64.wrap (i64.wrap (256*i64.wrap ((i64.wrap (b.tdiv 256)).tdiv 2))+i64.wrap (i64.wrap ((b.tmod 256).tdiv 2)+1))) else none else none else none else none else bif decide (0≤a∧a < (↑(2:Nat):Int)) then bif decide (a=(↑(0:Nat):Int)) then bif decide (0≤a∧a < (↑(2:Nat):Int)) then bif decide (a=(↑(0:Nat):Int)) then k0 (i64.wrap (i64.wrap (256*i64.wrap (i64.wrap (b.tdiv 256)+1))+b.tmod 256)) else bif decide (a=(↑(1:Nat):Int)) then k0 (i64.wrap (i64.wrap (256*i64.wrap (b.tdiv 256))+i64.wrap (i64.wrap (b.tdiv 256)+1))) else none else none else bif decide (a=(↑(1:Nat):Int)) then bif decide (0≤a∧a < (↑(2:Nat):Int)) then bif decide (a=(↑(0:Nat):Int)) then k0 (i64.wrap (i64.wrap ((256:Int)*i64.wrap (b.tmod (256:Int)+(1:Int)))+b.tmod (256:Int))) else bif decide (a=(↑(1:Nat):Int)) then k0 (i64.wrap (i64.wrap ((256:Int)*i64.wrap (b.tdiv (256:Int)))+i64.wrap (b.tmod (256:Int)+(1:Int)))) else none else none else none else none else bif decide (a=(↑(1:Nat):Int)) then bif b.tmod (256:Int)==(255:Int) then bif decide (0≤a∧a < (↑(2:Nat):Int)) then bif decide (a=(↑(0:Nat):Int)) then bif decide (0≤a∧a < (↑(2:Nat):Int)) then bif decide (a=(↑(0:Nat):Int)) then k0 (i64.wrap (i64.wrap (256*i64.wrap (i64.wrap ((i64.wrap (b.tdiv 256)).tdiv 2)+1))+i64.wrap ((b.tmod 256).tdiv 2))) else bif decide (a=(↑(1:Nat):Int)) then k0 (i64.wrap (i64.wrap (256*i64.wrap ((i64.wrap (b.tdiv 256)).tdiv 2))+i64.wrap (i64.wrap ((i64.wrap (b.tdiv 256)).tdiv 2)+1))) else none else none else bif decide (a=(↑(1:Nat):Int)) then bif decide (0≤a∧a < (↑(2:Nat):Int)) then bif decide (a=(↑(0:Nat):Int)) then k0 (i64.wrap (i64.wrap (256*i64.wrap (i64.wrap ((b.tmod 256).tdiv 2)+1))+i64.wrap ((b.tmod 256).tdiv 2))) else bif decide (a=(↑(1:Nat):Int)) then k0 (i64.wrap (i64.wrap (256*i64.wrap ((i64.wrap (b.tdiv 256)).tdiv 2))+i64.wrap (i64.wrap ((b.tmod 256).tdiv 2)+1))) else none else none else none else none else bif decide (0≤a∧a < (↑(2:Nat):Int)) then bif decide (a=(↑(0:Nat):Int)) then bif decide (0≤a∧a < (↑(2:Nat):Int)) then bif decide (a=(↑(0:Nat):Int)) then k0 (i64.wrap (i64.wrap (256*i64.wrap (i64.wrap (b.tdiv 256)+1))+b.tmod 256)) else bif decide (a=(↑(1:Nat):Int)) then k0 (i64.wrap (i64.wrap (256*i64.wrap (b.tdiv 256))+i64.wrap (i64.wrap (b.tdiv 256)+1))) else none else none else bif decide (a=(↑(1:Nat):Int)) then bif decide (0≤a∧a < (↑(2:Nat):Int)) then bif decide (a=(↑(0:Nat):Int)) then k0 (i64.wrap (i64.wrap ((256:Int)*i64.wrap (b.tmod (256:Int)+(1:Int)))+b.tmod (256:Int))) else bif decide (a=(↑(1:Nat):Int)) then k0 (i64.wrap (i64.wrap ((256:Int)*i64.wrap (b.tdiv (256:Int)))+i64.wrap (b.tmod (256:Int)+(1:Int)))) else none else none else none else none else none else none
abbrev YF181:Type:=Int→Int→Int→(Int→Option Ans)→Option Ans
theorem F181_eq (fuel:Nat) (a b d:Int) (k:Ev.Cont):evalFn tab (G181 fuel) J0 kp181 fuel Tryz.f181 [.c (i6 a),.c (i6 b),.c (i6 d)] [] k=F_ref02_After fuel a b d (fun r=>match r with | e=>k (.c (i6 e),[])):=by
  kernel_rfl
theorem hG181 (fuel:Nat):GOK Tryz.prog (G181 fuel):=
  gok_nil
def spg181 (F:YF181):Ev.Spec:=fun args objs k=>match args,objs with | [.c (i6 a),.c (i6 b),.c (i6 d)],[]=>F a b d (fun r=>match r with | e=>k (.c (i6 e),[])) | _,_=>none
theorem ok181 (fuel:Nat):FnOK Tryz.prog 181 (spg181 (F_ref02_After fuel)):=by
  intro args objs kk r h
  unfold spg181 at h
  split at h
  · skip
    exact fo0 (hG181 fuel) Tryz.func181 rfl (by kernel_rfl) _ _ kk r ((F181_eq fuel _ _ _ kk).trans h)
  · cases h
def kp182 (i:Nat):Option (List Nat):=Ev.look i []
def Gg182 (f:Nat):Option Ev.Spec:=Ev.look f []
def G182 (fuel:Nat):Nat→Option Ev.Spec:=Gg182
def F_ref02_Interval_Fixed (fuel:Nat) (a b:Int) (k0:(Bool)→Option Ans):Option Ans:=k0 (Ev.ishr IntKind.u64 a 24==Ev.ishr IntKind.u64 b 24)
abbrev YF182:Type:=Int→Int→(Bool→Option Ans)→Option Ans
theorem F182_eq (fuel:Nat) (a b:Int) (k:Ev.Cont):evalFn tab (G182 fuel) J0 kp182 fuel Tryz.f182 [.agg [.int .u64 a,.int .u64 b]] [] k=F_ref02_Interval_Fixed fuel a b (fun r=>match r with | d=>k (.c (.bool d),[])):=by
  kernel_rfl
theorem hG182 (fuel:Nat):GOK Tryz.prog (G182 fuel):=
  gok_nil
def spg182 (F:YF182):Ev.Spec:=fun args objs k=>match args,objs with | [.agg [.int .u64 a,.int .u64 b]],[]=>F a b (fun r=>match r with | d=>k (.c (.bool d),[])) | _,_=>none
theorem ok182 (fuel:Nat):FnOK Tryz.prog 182 (spg182 (F_ref02_Interval_Fixed fuel)):=by
  intro args objs kk r h
  unfold spg182 at h
  split at h
  · skip
    exact fo0 (hG182 fuel) Tryz.func182 rfl (by kernel_rfl) _ _ kk r ((F182_eq fuel _ _ kk).trans h)
  · cases h
def kp225 (i:Nat):Option (List Nat):=Ev.look i []
def Gg225 (f:Nat):Option Ev.Spec:=Ev.look f []
def G225 (fuel:Nat):Nat→Option Ev.Spec:=Gg225
def F_ref02_Interval_Mid (fuel:Nat) (a b c:Int) (k0:(Int)→Option Ans):Option Ans:=k0 (u64.wrap (u64.wrap (a+u64.wrap (u64.wrap ((u64.wrap (b - a)).tdiv 4096)*u64.wrap c))+u64.wrap ((u64.wrap ((u64.wrap (b - a)).tmod 4096*u64.wrap c)).tdiv 4096)))
abbrev YF225:Type:=Int→Int→Int→(Int→Option Ans)→Option Ans
theorem F225_eq (fuel:Nat) (a b d:Int) (k:Ev.Cont):evalFn tab (G225 fuel) J0 kp225 fuel Tryz.f225 [.agg [.int .u64 a,.int .u64 b],.c (i6 d)] [] k=F_ref02_Interval_Mid fuel a b d (fun r=>match r with | e=>k (.c (.int .u64 e),[])):=by
  kernel_rfl
theorem hG225 (fuel:Nat):GOK Tryz.prog (G225 fuel):=
  gok_nil
def spg225 (F:YF225):Ev.Spec:=fun args objs k=>match args,objs with | [.agg [.int .u64 a,.int .u64 b],.c (i6 d)],[]=>F a b d (fun r=>match r with | e=>k (.c (.int .u64 e),[])) | _,_=>none
theorem ok225 (fuel:Nat):FnOK Tryz.prog 225 (spg225 (F_ref02_Interval_Mid fuel)):=by
  intro args objs kk r h
  unfold spg225 at h
  split at h
  · skip
    exact fo0 (hG225 fuel) Tryz.func225 rfl (by kernel_rfl) _ _ kk r ((F225_eq fuel _ _ _ kk).trans h)
  · cases h
def kp180 (i:Nat):Option (List Nat):=Ev.look i [(200002,[3]),(200003,[3])]
def Gg180 (a:YF225) (f:Nat):Option Ev.Spec:=Ev.look f [(225,spg225 a)]
def G180 (fuel:Nat):Nat→Option Ev.Spec:=Gg180 (F_ref02_Interval_Mid fuel)
def Fg_ref02_Interval_Part (fuel:Nat) (d:YF225) (a b:Int) (e f:Int) (k0:(Int×Int)→OA):OA:=bif f==1 then (d a b e (fun c=>k0 (a,c))) else (d a b e (fun c=>k0 (u64.wrap (c+1),b)))
abbrev YF180:Type:=Int→Int→Int→Int→((Int×Int)→Option Ans)→Option Ans
def F_ref02_Interval_Part (fuel:Nat):YF180:=Fg_ref02_Interval_Part fuel (F_ref02_Interval_Mid fuel)
theorem F180_eqg (fuel:Nat) (a:YF225) (b d:Int) (e f:Int) (k:Ev.Cont):evalFn tab (Gg180 a) J0 kp180 fuel Tryz.f180 [.agg [.int .u64 b,.int .u64 d],.c (i6 e),.c (i6 f)] [] k=Fg_ref02_Interval_Part fuel a b d e f (fun r=>match r with | (g,h)=>k (.agg [.int .u64 g,.int .u64 h],[])):=by
  kernel_rfl
theorem hG180 (fuel:Nat):GOK Tryz.prog (G180 fuel):=
  gc (ok225 fuel) Tryz.func225 (by kernel_rfl) rfl <|
  gok_nil
def spg180 (F:YF180):Ev.Spec:=fun args objs k=>match args,objs with | [.agg [.int .u64 a,.int .u64 b],.c (i6 d),.c (i6 e)],[]=>F a b d e (fun r=>match r with | (f,g)=>k (.agg [.int .u64 f,.int .u64 g],[])) | _,_=>none
theorem ok180 (fuel:Nat):FnOK Tryz.prog 180 (spg180 (F_ref02_Interval_Part fuel)):=by
  intro args objs kk r h
  unfold spg180 at h
  split at h
  · skip
    exact fo0 (hG180 fuel) Tryz.func180 rfl (by kernel_rfl) _ _ kk r ((F180_eqg fuel (F_ref02_Interval_Mid fuel) _ _ _ _ kk).trans h)
  · cases h
def kp183 (i:Nat):Option (List Nat):=Ev.look i []
def Gg183 (f:Nat):Option Ev.Spec:=Ev.look f []
def G183 (fuel:Nat):Nat→Option Ev.Spec:=Gg183
def F_ref02_Interval_Shifted (fuel:Nat) (a b:Int) (k0:(Int×Int)→Option Ans):Option Ans:=k0 (u64.wrap (a.tmod (16777216:Int)*(256:Int)),u64.wrap (u64.wrap (b.tmod (16777216:Int)*(256:Int))+(255:Int)))
abbrev YF183:Type:=Int→Int→((Int×Int)→Option Ans)→Option Ans
theorem F183_eq (fuel:Nat) (a b:Int) (k:Ev.Cont):evalFn tab (G183 fuel) J0 kp183 fuel Tryz.f183 [.agg [.int .u64 a,.int .u64 b]] [] k=F_ref02_Interval_Shifted fuel a b (fun r=>match r with | (c,d)=>k (.agg [.int .u64 c,.int .u64 d],[])):=by
  kernel_rfl
theorem hG183 (fuel:Nat):GOK Tryz.prog (G183 fuel):=
  gok_nil
def spg183 (F:YF183):Ev.Spec:=fun args objs k=>match args,objs with | [.agg [.int .u64 a,.int .u64 b]],[]=>F a b (fun r=>match r with | (c,d)=>k (.agg [.int .u64 c,.int .u64 d],[])) | _,_=>none
theorem ok183 (fuel:Nat):FnOK Tryz.prog 183 (spg183 (F_ref02_Interval_Shifted fuel)):=by
  intro args objs kk r h
  unfold spg183 at h
  split at h
  · skip
    exact fo0 (hG183 fuel) Tryz.func183 rfl (by kernel_rfl) _ _ kk r ((F183_eq fuel _ _ kk).trans h)
  · cases h
def kp238 (i:Nat):Option (List Nat):=Ev.look i [(3,[0,3,4]),(100000,[3]),(400000,[2])]
def Gg238 (f:Nat):Option Ev.Spec:=Ev.look f []
def G238 (fuel:Nat):Nat→Option Ev.Spec:=Gg238
def S_ref02_unlikely_0 (fuel:Nat) (v:Int×Int×Int) (c:(Int×Int×Int)→Option Ans) (B:(Int→Option Ans)):Option Ans:=match v,B with | (d,a,e),b=>bif decide (e < d) then c (d,i64.wrap (a - i64.wrap (a.tdiv (8:Int))),i64.wrap (e+(1:Int))) else b a
def L_ref02_unlikely_0 (fuel:Nat) (v:Int×Int×Int) (b:(Int→Option Ans)):Option Ans:=iter (S_ref02_unlikely_0 fuel) fuel v b
def T238_0 (v:Int×Int×Int):Ev.St:=match v with | (a,b,d)=>⟨[(0,.c (i6 a)),(3,.c (i6 b)),(4,.c (i6 d))],[],0,0⟩
def E238_0 (K:KT):(Int→OA):=(fun v=>match v with | a=>K .normal ⟨[(3,.c (i6 a))],[],0,0⟩)
theorem S238_0_ok (fuel:Nat) (R:Ev.St→OA) (K:KT) (a b c:Int):evalCode tab (G238 fuel) J0 kp238 fuel (bodyOf 0 Tryz.f238) (T238_0 (a,b,c)) (lc kp238 3 0 R K)=S_ref02_unlikely_0 fuel (a,b,c) (fun v=>R (T238_0 v)) (E238_0 K):=by
  kernel_rfl
def B238_0 (fuel:Nat):Ev.Blk:=fun st K=>match canonO (kp238 3) st with | some s=>(match s with | ⟨[(a,.c (i6 b)),(d,.c (i6 e)),(f,.c (i6 g))],[],h,i⟩=>bif qb [a,d,f,h,i] [0,3,4,0,0] then iter (S_ref02_unlikely_0 fuel) fuel (b,e,g) (E238_0 K) else none | _=>none) | none=>none
theorem B238_0_ok (fuel:Nat) (st:Ev.St) (K:KT) (r:Ans) (h:B238_0 fuel st K=some r):evalCode tab (G238 fuel) J0 kp238 fuel (.block 0 (.loop (bodyOf 0 Tryz.f238))) st K=some r:=by
  unfold B238_0 at h
  split at h
  · rename_i s hs
    split at h
    · skip
      obtain ⟨hb,h⟩:=cond_some' h
      cases qb_eq hb
      exact blk_loop (S:=T238_0) (ks:=E238_0) (step:=S_ref02_unlikely_0 fuel) (v:=(_,_,_)) (by kernel_rfl) (by kernel_rfl) (fun R K v=>by obtain ⟨a,b,c⟩:=v; exact S238_0_ok fuel R K a b c) hs h
    · cases h
  · cases h
def J238 (fuel:Nat) (i:Nat):Option Ev.Blk:=Ev.look i [(100000,B238_0 fuel)]
def F_ref02_unlikely (fuel:Nat) (b:Int) (k0:(Int)→Option Ans):Option Ans:=(L_ref02_unlikely_0 fuel (b,2048,0) (fun a=>k0 a))
abbrev YF238:Type:=Int→(Int→Option Ans)→Option Ans
theorem F238_eq (fuel:Nat) (a:Int) (k:Ev.Cont):evalFn tab (G238 fuel) (J238 fuel) kp238 fuel Tryz.f238 [.c (i6 a)] [] k=F_ref02_unlikely fuel a (fun r=>match r with | b=>k (.c (i6 b),[])):=by
  kernel_rfl
theorem hG238 (fuel:Nat):GOK Tryz.prog (G238 fuel):=
  gok_nil
theorem B238_0_blk (fuel:Nat):BlkOK Tryz.prog Tryz.f238.ntmps (.block 0 (.loop (bodyOf 0 Tryz.f238))) (B238_0 fuel):=bo0 (hG238 fuel) (by kernel_rfl) (by kernel_rfl) (B238_0_ok fuel)
def spg238 (F:YF238):Ev.Spec:=fun args objs k=>match args,objs with | [.c (i6 a)],[]=>F a (fun r=>match r with | b=>k (.c (i6 b),[])) | _,_=>none
theorem ok238 (fuel:Nat):FnOK Tryz.prog 238 (spg238 (F_ref02_unlikely fuel)):=by
  intro args objs kk r h
  unfold spg238 at h
  split at h
  · skip
    exact fo1 (hG238 fuel) Tryz.func238 rfl (B238_0_blk fuel) (by kernel_rfl) _ _ kk r ((F238_eq fuel _ kk).trans h)
  · cases h
end
end Go.Proofs.YtipdidpalcmlhaaGreat

