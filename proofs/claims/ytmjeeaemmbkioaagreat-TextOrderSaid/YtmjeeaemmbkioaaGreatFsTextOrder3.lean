/- What the functions that TextOrder reaches do: their typed texts, each with the proof that the machine does it. No condition. -/
import Derived.Test.YtmjeeaemmbkioaaGreatEvX
import Derived.Test.YtmjeeaemmbkioaaGreatFsTextOrder2
import Derived.Test.YtmjeeaemmbkioaaGreatFsTextOrder1
import Derived.Test.YtmjeeaemmbkioaaGreatEvY
import Derived.Test.YtmjeeaemmbkioaaGreatEvU
set_option linter.unusedVariables false
set_option linter.unusedSimpArgs false
set_option linter.unusedSectionVars false
set_option linter.unusedVariables false
set_option linter.unusedSimpArgs false
set_option maxRecDepth 100000
set_option maxHeartbeats 2000000
namespace Go.Proofs.YtmjeeaemmbkioaaGreat
open Go Ev
open Go.IntKind (i64 u64 u8 i32 u32 u16)
noncomputable section
def kp137_aa3 (i:Nat):Option (List Nat):=Ev.look i []
def Gg137_aa3 (c:YF76_40a) (d:YF134) (a:YF156_aa3) (b:YF173_aa3) (f:Nat):Option Ev.Spec:=Ev.look f [(76,spg76_40a c),(134,spg134 d),(156,spg156_aa3 a),(173,spg173_aa3 b)]
def G137_aa3 (fuel:Nat):Nat→Option Ev.Spec:=Gg137_aa3 (F_coder_Decoder_Model_40a fuel) (F_number_fits fuel) (F_coder_Decoder_Get_aa3 fuel) (F_number_get_aa3 fuel)
def Fg_number_Get_aa3 (fuel:Nat) (z:YF76_40a) (O:YF134) (x:YF156_aa3) (y:YF173_aa3) (w R:Int) (S T:Int) (U V W:Int) (X Y:Bool) (Z Q:LI) (k0:(Bool×Int×Int×Int×Int×Int×Int×Int×Int×Bool×Bool×LI×LI)→OA):OA:=(x ((-1:Int)) R S T U V W X Y Z Q (fun (a0,d,e,f,g,h,i,j,k,l,a,b)=>bif d==7 then k0 (false,0,d,e,f,g,h,i,j,k,l,a,b) else (z e f g h i j k l a b (fun (P,m,n,o,p,q,r,s,t,u,c,D)=>(O P D w (48) (fun v=>bif v != 0 then k0 (false,0,v,m,n,o,p,q,r,s,t,u,c) else (y w m n o p q r s t u c (fun (E,F,G,H,I,J,K,L,M,N,A,B,C)=>k0 (E,F,G,H,I,J,K,L,M,N,A,B,C)))))))))
abbrev YF137_aa3:Type:=Int→Int→Int→Int→Int→Int→Int→Bool→Bool→LI→LI→((Bool×Int×Int×Int×Int×Int×Int×Int×Int×Bool×Bool×LI×LI)→Option Ans)→Option Ans
def F_number_Get_aa3 (fuel:Nat):YF137_aa3:=Fg_number_Get_aa3 fuel (F_coder_Decoder_Model_40a fuel) (F_number_fits fuel) (F_coder_Decoder_Get_aa3 fuel) (F_number_get_aa3 fuel)
theorem F137_aa3_eqg (fuel:Nat) (d:YF76_40a) (e:YF134) (a:YF156_aa3) (b:YF173_aa3) (g h:Int) (i j:Int) (l m n:Int) (o p:Bool) (q f:LI) (k:Ev.Cont):evalFn tab (Gg137_aa3 d e a b) J0 kp137_aa3 fuel Tryz.f137 [.c (.ptr 0 0),.c (i6 g)] [.cells 168 (i6 h::.own 1::ctb (.int .u64 i::.int .u64 j::.own 2::i6 l::.int .u64 m::i6 n::.bool o::.bool p::[])),.vec 3 (.int .i64) q false,.vec 5 (.int .u8) f false] k=Fg_number_Get_aa3 fuel d e a b g h i j l m n o p q f (fun r=>match r with | (v,w,x,y,z,A,B,C,D,E,s,t,u)=>k (.tup [(true,[.bool v,i6 w]),(false,[i6 x])],[.cells 168 (i6 y::.own 1::ctb (.int .u64 z::.int .u64 A::.own 2::i6 B::.int .u64 C::i6 D::.bool E::.bool s::[])),.vec 3 (.int .i64) t false,.vec 5 (.int .u8) u false])):=by
  kernel_rfl
theorem hG137_aa3 (fuel:Nat):GOK Tryz.prog (G137_aa3 fuel):=
  gc (ok76_40a fuel) Tryz.func76 (by kernel_rfl) rfl <|
  gc (ok134 fuel) Tryz.func134 (by kernel_rfl) rfl <|
  gc (ok156_aa3 fuel) Tryz.func156 (by kernel_rfl) rfl <|
  gc (ok173_aa3 fuel) Tryz.func173 (by kernel_rfl) rfl <|
  gok_nil
def spg137_aa3 (F:YF137_aa3):Ev.Spec:=fun args objs k=>match args,objs with | [.c (.ptr g h),.c (i6 i)],[.cells j a,.vec l (.int .i64) m false,.vec n (.int .u8) b false]=>(match splitRun 2 ctn a with | some ([i6 o,.own p],[.int .u64 q,.int .u64 s,.own t,i6 u,.int .u64 v,i6 w,.bool x,.bool y])=>bif qb [g,h,j,l,n,p,t] [0,0,168,3,5,1,2] then F i o q s u v w x y m b (fun r=>match r with | (z,A,B,C,D,E,G,H,I,J,d,e,f)=>k (.tup [(true,[.bool z,i6 A]),(false,[i6 B])],[.cells 168 (i6 C::.own 1::ctb (.int .u64 D::.int .u64 E::.own 2::i6 G::.int .u64 H::i6 I::.bool J::.bool d::[])),.vec 3 (.int .i64) e false,.vec 5 (.int .u8) f false])) else none | _=>none) | _,_=>none
def spec137_aa3 (fuel:Nat):Ev.Spec:=spg137_aa3 (F_number_Get_aa3 fuel)
theorem ok137_aa3 (fuel:Nat):FnOK Tryz.prog 137 (spec137_aa3 fuel):=by
  intro args objs kk r h
  unfold spec137_aa3 spg137_aa3 at h
  split at h
  · skip
    split at h
    rotate_left 1
    · cases h
    rename_i hsp
    have esp:=splitRun_eq hsp
    subst esp
    obtain ⟨hb,h⟩:=cond_some' h
    cases qb_eq hb
    exact fo0 (hG137_aa3 fuel) Tryz.func137 rfl (by kernel_rfl) _ _ kk r ((F137_aa3_eqg fuel (F_coder_Decoder_Model_40a fuel) (F_number_fits fuel) (F_coder_Decoder_Get_aa3 fuel) (F_number_get_aa3 fuel) _ _ _ _ _ _ _ _ _ _ _ kk).trans h)
  · cases h
def kp158_452 (i:Nat):Option (List Nat):=Ev.look i [(11,[0,1,2,11,38,39]),(100000,[2,11]),(400000,[6,7])]
def Gg158_452 (b:YF76_40a) (c:YF134) (a:YF156_aa3) (f:Nat):Option Ev.Spec:=Ev.look f [(76,spg76_40a b),(134,spg134 c),(156,spg156_aa3 a)]
def G158_452 (fuel:Nat):Nat→Option Ev.Spec:=Gg158_452 (F_coder_Decoder_Model_40a fuel) (F_number_fits fuel) (F_coder_Decoder_Get_aa3 fuel)
abbrev V_number_GetId_452_0:Type:=Int×Int×Int×Int×Int×Int×Int×Int×Int×Int×Int×Bool×Bool×LI×LI
abbrev W_number_GetId_452_0:Type:=(Int×Int×Int×Int×Int×Int×Int×Int×Bool×Bool×LI×LI→OA)×(Int×Int×Int×Int×Int×Int×Int×Int×Bool×Bool×LI×LI→OA)
def Sg_number_GetId_452_0 (fuel:Nat) (F:YF76_40a) (G:YF134) (D:YF156_aa3) (t u:Int) (a v:Int) (w x:Int) (y z:Int) (A C o:Int) (p q:Bool) (r s:LI) (c:V_number_GetId_452_0→OA) (B:W_number_GetId_452_0):OA:=match B with | (ret,b)=>bif decide (w < v) then (D (i64.wrap (i64.wrap (t+a) - 1)) x y z A C o p q r s (fun (E,f,g,h,i,j,k,l,m,n,d,e)=>bif f != 0 then ret (0,f,g,h,i,j,k,l,m,n,d,e) else c (t,u,i64.wrap (i64.wrap (2*a)+E),v,i64.wrap (w+1),g,h,i,j,k,l,m,n,d,e))) else b (u,a,x,y,z,A,C,o,p,q,r,s)
def S_number_GetId_452_0 (fuel:Nat) (v:Int×Int×Int×Int×Int×Int×Int×Int×Int×Int×Int×Bool×Bool×(List Int)×(List Int)) (c:(Int×Int×Int×Int×Int×Int×Int×Int×Int×Int×Int×Bool×Bool×(List Int)×(List Int))→Option Ans) (B:(Int×Int×Int×Int×Int×Int×Int×Int×Bool×Bool×(List Int)×(List Int)→Option Ans)×(Int×Int×Int×Int×Int×Int×Int×Int×Bool×Bool×(List Int)×(List Int)→Option Ans)):Option Ans:=match v with | (g,h,i,j,k,l,m,n,o,p,a,b,d,e,f)=>Sg_number_GetId_452_0 fuel (F_coder_Decoder_Model_40a fuel) (F_number_fits fuel) (F_coder_Decoder_Get_aa3 fuel) g h i j k l m n o p a b d e f c B
def L_number_GetId_452_0 (fuel:Nat) (v:V_number_GetId_452_0) (ret:(Int×Int×Int×Int×Int×Int×Int×Int×Bool×Bool×(List Int)×(List Int)→Option Ans)) (b:(Int×Int×Int×Int×Int×Int×Int×Int×Bool×Bool×(List Int)×(List Int)→Option Ans)):Option Ans:=iter (S_number_GetId_452_0 fuel) fuel v (ret,b)
def T158_452_0 (v:V_number_GetId_452_0):Ev.St:=match v with | (g,h,i,j,k,l,m,n,o,p,a,b,d,e,f)=>⟨[(0,.c (.ptr 0 0)),(1,.c (i6 g)),(2,.c (i6 h)),(11,.c (i6 i)),(38,.c (i6 j)),(39,.c (i6 k))],[(0,.cells 168 (i6 l::.own 1::ctb (.int .u64 m::.int .u64 n::.own 2::i6 o::.int .u64 p::i6 a::.bool b::.bool d::[]))),(1,.vec 3 (.int .i64) e false),(2,.vec 5 (.int .u8) f false)],3,3⟩
def E158_452_0 (K:KT):W_number_GetId_452_0:=((fun v=>match v with | (d,e,f,g,h,i,j,k,l,m,a,b)=>K .ret ⟨[(6,.c (i6 d)),(7,.c (i6 e))],[(0,.cells 168 (i6 f::.own 1::ctb (.int .u64 g::.int .u64 h::.own 2::i6 i::.int .u64 j::i6 k::.bool l::.bool m::[]))),(1,.vec 3 (.int .i64) a false),(2,.vec 5 (.int .u8) b false)],3,3⟩),(fun v=>match v with | (d,e,f,g,h,i,j,k,l,m,a,b)=>K .normal ⟨[(2,.c (i6 d)),(11,.c (i6 e))],[(0,.cells 168 (i6 f::.own 1::ctb (.int .u64 g::.int .u64 h::.own 2::i6 i::.int .u64 j::i6 k::.bool l::.bool m::[]))),(1,.vec 3 (.int .i64) a false),(2,.vec 5 (.int .u8) b false)],3,3⟩))
theorem S158_452_0_okg (fuel:Nat) (b:YF76_40a) (c:YF134) (a:YF156_aa3) (R:Ev.St→OA) (K:KT) (i j:Int) (k l:Int) (m n:Int) (o p:Int) (q r d:Int) (e f:Bool) (g h:LI):evalCode tab (Gg158_452 b c a) J0 kp158_452 fuel (bodyOf 0 Tryz.f158) (T158_452_0 (i,j,k,l,m,n,o,p,q,r,d,e,f,g,h)) (lc kp158_452 11 0 R K)=Sg_number_GetId_452_0 fuel b c a i j k l m n o p q r d e f g h (fun v=>R (T158_452_0 v)) (E158_452_0 K):=by
  kernel_rfl
def B158_452_0 (fuel:Nat):Ev.Blk:=fun st K=>match canonO (kp158_452 11) st with | some s=>(match s with | ⟨[(p,.c (.ptr q r)),(t,.c (i6 u)),(v,.c (i6 w)),(x,.c (i6 y)),(z,.c (i6 A)),(B,.c (i6 C))],[(D,.cells E a),(b,.vec d (.int .i64) e false),(f,.vec g (.int .u8) h false)],i,j⟩=>(match splitRun 2 ctn a with | some ([i6 F,.own k],[.int .u64 G,.int .u64 H,.own l,i6 I,.int .u64 J,i6 m,.bool n,.bool o])=>bif qb [p,q,r,t,v,x,z,B,D,E,b,d,f,g,i,j,k,l] [0,0,0,1,2,11,38,39,0,168,1,3,2,5,3,3,1,2] then iter (S_number_GetId_452_0 fuel) fuel (u,w,y,A,C,F,G,H,I,J,m,n,o,e,h) (E158_452_0 K) else none | _=>none) | _=>none) | none=>none
theorem B158_452_0_ok (fuel:Nat) (st:Ev.St) (K:KT) (r:Ans) (h:B158_452_0 fuel st K=some r):evalCode tab (G158_452 fuel) J0 kp158_452 fuel (.block 0 (.loop (bodyOf 0 Tryz.f158))) st K=some r:=by
  unfold B158_452_0 at h
  split at h
  · rename_i s hs
    split at h
    · skip
      split at h
      rotate_left 1
      · cases h
      rename_i hsp
      have esp:=splitRun_eq hsp
      subst esp
      obtain ⟨hb,h⟩:=cond_some' h
      cases qb_eq hb
      exact blk_loop (S:=T158_452_0) (ks:=E158_452_0) (step:=S_number_GetId_452_0 fuel) (v:=(_,_,_,_,_,_,_,_,_,_,_,_,_,_,_)) (by kernel_rfl) (by kernel_rfl) (fun R K v=>by obtain ⟨f,g,i,j,k,l,m,n,o,p,a,b,c,d,e⟩:=v; exact S158_452_0_okg fuel (F_coder_Decoder_Model_40a fuel) (F_number_fits fuel) (F_coder_Decoder_Get_aa3 fuel) R K f g i j k l m n o p a b c d e) hs h
    · cases h
  · cases h
def J158_452 (fuel:Nat) (i:Nat):Option Ev.Blk:=Ev.look i [(100000,B158_452_0 fuel)]
def Fg_number_GetId_452 (fuel:Nat) (A:YF76_40a) (F:YF134) (z:YF156_aa3) (y a:Int) (R S:Int) (T U:Int) (V W:Int) (X Y:Bool) (P Q:LI) (k0:(Int×Int×Int×Int×Int×Int×Int×Int×Bool×Bool×LI×LI)→OA):OA:=(z ((-1:Int)) R S T U V W X Y P Q (fun (Z,v,d,e,f,g,h,i,j,k,b,c)=>bif v==7 then k0 (0,v,d,e,f,g,h,i,j,k,b,c) else bif decide (a < 0) then k0 (0,2,d,e,f,g,h,i,j,k,b,c) else bif decide (a > 10) then k0 (0,2,d,e,f,g,h,i,j,k,b,c) else bif decide (a < 0) then none else (A d e f g h i j k b c (fun (C,m,n,o,p,q,r,s,t,u,l,B)=>(F C B y (i64.wrap (Ev.ishl IntKind.i64 1 a - 1)) (fun x=>bif x != 0 then k0 (0,x,m,n,o,p,q,r,s,t,u,l) else (L_number_GetId_452_0 fuel (y,a,1,a,0,m,n,o,p,q,r,s,t,u,l) (fun (ret0_0,ret0_1,ret0_2,ret0_3,ret0_4,ret0_5,ret0_6,ret0_7,ret0_8,ret0_9,ret0_10,ret0_11)=>k0 (ret0_0,ret0_1,ret0_2,ret0_3,ret0_4,ret0_5,ret0_6,ret0_7,ret0_8,ret0_9,ret0_10,ret0_11)) (fun (w,G,H,I,J,K,L,M,N,O,D,E)=>bif decide (w < 0) then none else k0 (i64.wrap (G - Ev.ishl IntKind.i64 1 w),0,H,I,J,K,L,M,N,O,D,E)))))))))
abbrev YF158_452:Type:=Int→Int→Int→Int→Int→Int→Int→Int→Bool→Bool→LI→LI→((Int×Int×Int×Int×Int×Int×Int×Int×Bool×Bool×LI×LI)→Option Ans)→Option Ans
def F_number_GetId_452 (fuel:Nat):YF158_452:=Fg_number_GetId_452 fuel (F_coder_Decoder_Model_40a fuel) (F_number_fits fuel) (F_coder_Decoder_Get_aa3 fuel)
theorem F158_452_eqg (fuel:Nat) (b:YF76_40a) (d:YF134) (a:YF156_aa3) (g h:Int) (i j:Int) (l m:Int) (n o:Int) (p q:Bool) (e f:LI) (k:Ev.Cont):evalFn tab (Gg158_452 b d a) (J158_452 fuel) kp158_452 fuel Tryz.f158 [.c (.ptr 0 0),.c (i6 g),.c (i6 h)] [.cells 168 (i6 i::.own 1::ctb (.int .u64 j::.int .u64 l::.own 2::i6 m::.int .u64 n::i6 o::.bool p::.bool q::[])),.vec 3 (.int .i64) e false,.vec 5 (.int .u8) f false] k=Fg_number_GetId_452 fuel b d a g h i j l m n o p q e f (fun r=>match r with | (u,v,w,x,y,z,A,B,C,D,s,t)=>k (.tup [(false,[i6 u]),(false,[i6 v])],[.cells 168 (i6 w::.own 1::ctb (.int .u64 x::.int .u64 y::.own 2::i6 z::.int .u64 A::i6 B::.bool C::.bool D::[])),.vec 3 (.int .i64) s false,.vec 5 (.int .u8) t false])):=by
  kernel_rfl
theorem hG158_452 (fuel:Nat):GOK Tryz.prog (G158_452 fuel):=
  gc (ok76_40a fuel) Tryz.func76 (by kernel_rfl) rfl <|
  gc (ok134 fuel) Tryz.func134 (by kernel_rfl) rfl <|
  gc (ok156_aa3 fuel) Tryz.func156 (by kernel_rfl) rfl <|
  gok_nil
theorem B158_452_0_blk (fuel:Nat):BlkOK Tryz.prog Tryz.f158.ntmps (.block 0 (.loop (bodyOf 0 Tryz.f158))) (B158_452_0 fuel):=bo0 (hG158_452 fuel) (by kernel_rfl) (by kernel_rfl) (B158_452_0_ok fuel)
def spg158_452 (F:YF158_452):Ev.Spec:=fun args objs k=>match args,objs with | [.c (.ptr g h),.c (i6 i),.c (i6 j)],[.cells l a,.vec m (.int .i64) b false,.vec n (.int .u8) d false]=>(match splitRun 2 ctn a with | some ([i6 o,.own p],[.int .u64 q,.int .u64 s,.own t,i6 u,.int .u64 v,i6 w,.bool x,.bool y])=>bif qb [g,h,l,m,n,p,t] [0,0,168,3,5,1,2] then F i j o q s u v w x y b d (fun r=>match r with | (z,A,B,C,D,E,G,H,I,J,e,f)=>k (.tup [(false,[i6 z]),(false,[i6 A])],[.cells 168 (i6 B::.own 1::ctb (.int .u64 C::.int .u64 D::.own 2::i6 E::.int .u64 G::i6 H::.bool I::.bool J::[])),.vec 3 (.int .i64) e false,.vec 5 (.int .u8) f false])) else none | _=>none) | _,_=>none
def spec158_452 (fuel:Nat):Ev.Spec:=spg158_452 (F_number_GetId_452 fuel)
theorem ok158_452 (fuel:Nat):FnOK Tryz.prog 158 (spec158_452 fuel):=by
  intro args objs kk r h
  unfold spec158_452 spg158_452 at h
  split at h
  · skip
    split at h
    rotate_left 1
    · cases h
    rename_i hsp
    have esp:=splitRun_eq hsp
    subst esp
    obtain ⟨hb,h⟩:=cond_some' h
    cases qb_eq hb
    exact fo1 (hG158_452 fuel) Tryz.func158 rfl (B158_452_0_blk fuel) (by kernel_rfl) _ _ kk r ((F158_452_eqg fuel (F_coder_Decoder_Model_40a fuel) (F_number_fits fuel) (F_coder_Decoder_Get_aa3 fuel) _ _ _ _ _ _ _ _ _ _ _ _ kk).trans h)
  · cases h
def fns19:List (Nat×Func):=[(19,Tryz.f19),(22,Tryz.f22),(33,Tryz.f33),(46,Tryz.f46),(47,Tryz.f47),(48,Tryz.f48),(49,Tryz.f49),(50,Tryz.f50),(55,Tryz.f55),(58,Tryz.f58),(61,Tryz.f61),(65,Tryz.f65),(72,Tryz.f72),(77,Tryz.f77),(78,Tryz.f78),(81,Tryz.f81),(82,Tryz.f82),(83,Tryz.f83),(85,Tryz.f85),(86,Tryz.f86),(88,Tryz.f88),(89,Tryz.f89),(90,Tryz.f90),(91,Tryz.f91),(92,Tryz.f92),(93,Tryz.f93),(94,Tryz.f94),(95,Tryz.f95),(96,Tryz.f96),(97,Tryz.f97),(98,Tryz.f98),(99,Tryz.f99),(101,Tryz.f101),(106,Tryz.f106),(109,Tryz.f109),(125,Tryz.f125),(131,Tryz.f131),(132,Tryz.f132),(138,Tryz.f138),(139,Tryz.f139),(140,Tryz.f140),(141,Tryz.f141),(150,Tryz.f150),(159,Tryz.f159),(165,Tryz.f165),(166,Tryz.f166),(167,Tryz.f167),(168,Tryz.f168),(169,Tryz.f169),(170,Tryz.f170),(171,Tryz.f171),(174,Tryz.f174),(175,Tryz.f175),(183,Tryz.f183),(186,Tryz.f186),(190,Tryz.f190),(196,Tryz.f196),(1000167,Tryz.f167)]
def kpt19:List (Nat×List (Nat×List Nat)):=[(19,[(200003,[1]),(200004,[1]),(900003,[1,2,3,4]),(900004,[2,4,5,6])]),(22,[(4,[0,1,12,13]),(100000,[]),(200006,[0,1]),(400000,[4]),(900006,[0,1,12,13,25])]),(46,[(12,[2,3,13,15,16,17]),(19,[2,3,13,15,16,17,18,19,20]),(100000,[13]),(100002,[2,3,13,15,16,17]),(200013,[2,3]),(200016,[2]),(200019,[3]),(200022,[2,3]),(400000,[6,7]),(400002,[6,7]),(900013,[2,3,13,15,16,17,18]),(900016,[2,3,13,15,16,17,18]),(900019,[2,3,13,15,16,17,18,19,20,101]),(900022,[2,3,13,15,16,17,18,20])]),(48,[(11,[2,4,16,17,18]),(100000,[16]),(200019,[16]),(400000,[8,9]),(900019,[8,9])]),(72,[(5,[6,17]),(100000,[6]),(400000,[4,5])]),(77,[(2,[0,1,7,8]),(100000,[]),(400000,[4])]),(78,[(4,[23,24,25]),(100000,[]),(400000,[2])]),(81,[(2,[0,1,5]),(100000,[]),(200004,[0]),(400000,[4]),(900004,[0,1,5,24])]),(82,[(200001,[2,3,4]),(900001,[5])]),(83,[(200001,[2]),(900001,[2,4,5])]),(86,[(200002,[3]),(200003,[0,3]),(200008,[0,3]),(200013,[0,3,4]),(900002,[0,3]),(900003,[0,3]),(900008,[0,3,4]),(900013,[])]),(92,[(2,[0,1,6,1000002]),(100000,[]),(200005,[0,7]),(400000,[]),(900005,[0,1,6]),(900006,[0,1,6,55])]),(106,[(4,[2,3,29,30]),(100000,[]),(200006,[2,3]),(400000,[4]),(900006,[2,3,29,30,43])]),(131,[(11,[0,1,7,8,11,52,53,1000002]),(20,[0,1,7,8,11,12,13,52,53,75,76,1000002]),(100001,[]),(100003,[0,1,7,8,11,52,53]),(200007,[7]),(400001,[10]),(400003,[10]),(900007,[0,1,7,8,9,35]),(900024,[0,1,7,8,11,12,13,52,53,75,76])]),(139,[(200004,[0]),(200013,[]),(900002,[0,6]),(900004,[0,6,7,8]),(900013,[])]),(141,[(2,[0,1,7,8]),(100000,[]),(400000,[4])]),(159,[(13,[0,1,3,4,12,18,64,65]),(100000,[3,4,12,18]),(200009,[8]),(200011,[8,11]),(400000,[12,13]),(900009,[0,1,3,4,8,11,12,53]),(900011,[0,1,3,4,12,18])]),(166,[(200001,[3,5]),(900001,[6])]),(168,[(2,[0,1,12,13]),(100000,[]),(400000,[4])]),(169,[(3,[0,1,2,8,29]),(100000,[8]),(200001,[0]),(200005,[0]),(400000,[6,7]),(900001,[0,1,2,8]),(900005,[0,1,2,8,29,60])]),(170,[(3,[0,1,2,7,17,18,19]),(8,[0,1,2,7,41,42,43]),(100000,[0,1,2,7]),(100002,[7]),(200005,[0,9]),(200010,[0,11]),(400000,[6]),(400002,[6]),(900005,[0,1,2,7,17,18,19]),(900010,[0,1,2,7,41,42,43])]),(174,[(200000,[0,1]),(200007,[0,1,4]),(900000,[0,1,4]),(900007,[0,1,7,8])]),(175,[(2,[0,1,7,8]),(100000,[]),(400000,[4])]),(183,[(5,[2,6,8,9,34,35]),(100000,[6,8,9]),(400000,[6,7])]),(186,[(8,[0,1,2,3,9,44,45]),(100000,[]),(400000,[8])])]
def kpa19 (f i:Nat):Option (List Nat):=match Ev.look f kpt19 with | some l=>Ev.look i l | none=>none
theorem vma_ok {fl:Nat} (hfl:10000≤fl) {kd:Int} {st:List Int} (h:vMa kd st=true) {K:Bool→Option Ans}:F_coder_Valid fl kd st K=K true:=by
  unfold vMa at h
  simp only [Bool.and_eq_true,Bool.or_eq_true,decide_eq_true_eq,List.all_eq_true] at h
  obtain ⟨h1,h2,h3⟩:=h
  have lp:∀ e:Int,(∀ s ∈ st,s < e)→∀ (ret:Bool→Option Ans) (b:Unit→Option Ans),L_coder_Valid_0 fl (e,st,(st.length:Int),0) ret b=b ():=by
    intro e he ret b
    unfold L_coder_Valid_0
    refine iter_upto (step:=S_coder_Valid_0 fl) (fun i:Nat=>(e,st,(st.length:Int),(i:Int))) st.length (fun i hi c=> ?_) (fun c=> ?_) (by omega)
    · have hm:st.getD i 0 ∈ st:=by rw [List.getD_eq_getElem?_getD,List.getElem?_eq_getElem hi]; exact List.getElem_mem hi
      have a:=(h3 _ hm).1
      have b:=he _ hm
      simp only [S_coder_Valid_0]
      rw [decY (show (i:Int) < (st.length:Int) by omega),decY (show (0:Int)≤(i:Int)∧(i:Int) < (st.length:Int) by omega),Int.toNat_natCast,ndecY (show ¬ st.getD i 0 < 0 by omega),ndecY (show ¬ st.getD i 0≥e by omega),wrapY (by omega) (by omega)]
      rfl
    · simp only [S_coder_Valid_0]
      rw [ndecY (show ¬ (st.length:Int) < (st.length:Int) by omega)]
  unfold F_coder_Valid
  rcases h1 with rfl | rfl
  · have e0:((0:Int) != 0)=false:=rfl
    have e1:((0:Int)==1)=false:=rfl
    rw [e0,cond_false,ndecY (show ¬ (st.length:Int) > 8192 by omega),e1,cond_false,lp 64 (fun s hs=>(h3 s hs).2)]
  · have e0:((1:Int) != 0)=true:=rfl
    have e1:((1:Int) != 1)=false:=rfl
    have e2:((1:Int)==1)=true:=rfl
    rw [e0,cond_true,e1,cond_false,ndecY (show ¬ (st.length:Int) > 8192 by omega),e2,cond_true,lp 65536 (fun s hs=>(h3 s hs).2)]
def spv19:Ev.Spec:=fun args objs k=>match args,objs with | [.agg [.int .i64 kd,.sl (.int .i64) st]],[]=>bif vMa kd st then k (.c (.bool true),[]) else none | _,_=>none
theorem vmspec19 {kd:Int} {st:List Int} (kk:Ev.Cont) (h:vMa kd st=true):spec112 10000 [.agg [.int .i64 kd,.sl (.int .i64) st]] [] kk=kk (.c (.bool true),[]):=
  vma_ok (fl:=10000) (by omega) h (K:=fun b=>kk (.c (.bool b),[]))
theorem spv19_ok:FnOK Tryz.prog 112 spv19:=by
  intro args objs kk r h
  unfold spv19 at h
  split at h
  · obtain ⟨hb,h⟩:=cond_some' h
    exact ok112 10000 _ _ kk r ((vmspec19 kk hb).trans h)
  · cases h
def ext19 (f:Nat):Option Ev.Spec:=Ev.look f [(59,spec59 100000),(69,spec69_a20 100000),(71,spec71_a20 100000),(76,spec76_40a 100000),(84,spec84 100000),(87,spec87_856 100000),(112,spv19),(114,spec114 100000),(120,spec120_40a 100000),(129,spec129_b82 100000),(130,spec130_cf0 100000),(137,spec137_aa3 100000),(156,spec156_aa3 100000),(158,spec158_452 100000)]
theorem ext19_ok:GOK Tryz.prog ext19:=
  gok_cons ⟨ok59 100000,enters_of Tryz.func59 (by kernel_rfl) rfl⟩ <|
  gok_cons ⟨ok69_a20 100000,enters_of Tryz.func69 (by kernel_rfl) rfl⟩ <|
  gok_cons ⟨ok71_a20 100000,enters_of Tryz.func71 (by kernel_rfl) rfl⟩ <|
  gok_cons ⟨ok76_40a 100000,enters_of Tryz.func76 (by kernel_rfl) rfl⟩ <|
  gok_cons ⟨ok84 100000,enters_of Tryz.func84 (by kernel_rfl) rfl⟩ <|
  gok_cons ⟨ok87_856 100000,enters_of Tryz.func87 (by kernel_rfl) rfl⟩ <|
  gok_cons ⟨spv19_ok,enters_of Tryz.func112 (by kernel_rfl) rfl⟩ <|
  gok_cons ⟨ok114 100000,enters_of Tryz.func114 (by kernel_rfl) rfl⟩ <|
  gok_cons ⟨ok120_40a 100000,enters_of Tryz.func120 (by kernel_rfl) rfl⟩ <|
  gok_cons ⟨ok129_b82 100000,enters_of Tryz.func129 (by kernel_rfl) rfl⟩ <|
  gok_cons ⟨ok130_cf0 100000,enters_of Tryz.func130 (by kernel_rfl) rfl⟩ <|
  gok_cons ⟨ok137_aa3 100000,enters_of Tryz.func137 (by kernel_rfl) rfl⟩ <|
  gok_cons ⟨ok156_aa3 100000,enters_of Tryz.func156 (by kernel_rfl) rfl⟩ <|
  gok_cons ⟨ok158_452 100000,enters_of Tryz.func158 (by kernel_rfl) rfl⟩ <|
  gok_nil
theorem fns19_ok:Fns Tryz.prog fns19:=
  fns_cons Tryz.func19 <|
  fns_cons Tryz.func22 <|
  fns_cons Tryz.func33 <|
  fns_cons Tryz.func46 <|
  fns_cons Tryz.func47 <|
  fns_cons Tryz.func48 <|
  fns_cons Tryz.func49 <|
  fns_cons Tryz.func50 <|
  fns_cons Tryz.func55 <|
  fns_cons Tryz.func58 <|
  fns_cons Tryz.func61 <|
  fns_cons Tryz.func65 <|
  fns_cons Tryz.func72 <|
  fns_cons Tryz.func77 <|
  fns_cons Tryz.func78 <|
  fns_cons Tryz.func81 <|
  fns_cons Tryz.func82 <|
  fns_cons Tryz.func83 <|
  fns_cons Tryz.func85 <|
  fns_cons Tryz.func86 <|
  fns_cons Tryz.func88 <|
  fns_cons Tryz.func89 <|
  fns_cons Tryz.func90 <|
  fns_cons Tryz.func91 <|
  fns_cons Tryz.func92 <|
  fns_cons Tryz.func93 <|
  fns_cons Tryz.func94 <|
  fns_cons Tryz.func95 <|
  fns_cons Tryz.func96 <|
  fns_cons Tryz.func97 <|
  fns_cons Tryz.func98 <|
  fns_cons Tryz.func99 <|
  fns_cons Tryz.func101 <|
  fns_cons Tryz.func106 <|
  fns_cons Tryz.func109 <|
  fns_cons Tryz.func125 <|
  fns_cons Tryz.func131 <|
  fns_cons Tryz.func132 <|
  fns_cons Tryz.func138 <|
  fns_cons Tryz.func139 <|
  fns_cons Tryz.func140 <|
  fns_cons Tryz.func141 <|
  fns_cons Tryz.func150 <|
  fns_cons Tryz.func159 <|
  fns_cons Tryz.func165 <|
  fns_cons Tryz.func166 <|
  fns_cons Tryz.func167 <|
  fns_cons Tryz.func168 <|
  fns_cons Tryz.func169 <|
  fns_cons Tryz.func170 <|
  fns_cons Tryz.func171 <|
  fns_cons Tryz.func174 <|
  fns_cons Tryz.func175 <|
  fns_cons Tryz.func183 <|
  fns_cons Tryz.func186 <|
  fns_cons Tryz.func190 <|
  fns_cons Tryz.func196 <|
  fns_cons Tryz.func167 <|
  fns_nil
def evs19:Nat→Option Ev.Spec:=evs tab fns19 kpa19 100000 ext19 60
theorem evs19_ok:GOK Tryz.prog evs19:=evs_ok tab_ok mixed fns19_ok (by kernel_rfl) ext19_ok 60
theorem aw19_eq:evalFn tab evs19 (fun _=>none) (kpa19 19) 100000 Tryz.f19 [] [] trueR=some ():=by
  kernel_rfl
def F_law10_Awake (fuel:Nat) (k0:(Bool)→Option Ans):Option Ans:=k0 true
abbrev YF19:Type:=(Bool→Option Ans)→Option Ans
def spg19 (F:YF19):Ev.Spec:=fun args objs k=>match args,objs with | [],[]=>F (fun r=>k (.c (.bool r),[])) | _,_=>none
def spec19 (fuel:Nat):Ev.Spec:=spg19 (F_law10_Awake fuel)
theorem ok19 (fuel:Nat):FnOK Tryz.prog 19 (spec19 fuel):=by
  intro args objs kk r h
  unfold spec19 spg19 at h
  split at h
  · exact true_ok (fn_ok (fuel:=100000) tab_ok evs19_ok mixed Tryz.func19 (kp:=kpa19 19) (J:=fun _=>none) (c:=(Tryz.f19.body).getD .skip) rfl (fun q hq=>by rw [obl_none] at hq; cases hq)) aw19_eq h
  · cases h
def kp18 (i:Nat):Option (List Nat):=Ev.look i []
def Gg18 (f:Nat):Option Ev.Spec:=Ev.look f []
def G18 (fuel:Nat):Nat→Option Ev.Spec:=Gg18
def F_law10_long (fuel:Nat) (a:(List (Int×Int×(List Int)))) (b:(List (Int×Int×Int×Bool×Int×Int×(Int×Int×(List Int))))) (k0:(Bool)→Option Ans):Option Ans:=bif decide ((↑a.length:Int) > 120) then k0 true else k0 (decide ((↑b.length:Int) > 600))
abbrev YF18:Type:=((List (Int×Int×LI)))→((List (Int×Int×Int×Bool×Int×Int×(Int×Int×LI))))→(Bool→Option Ans)→Option Ans
theorem F18_eq (fuel:Nat) (a:(List (Int×Int×LI))) (b:(List (Int×Int×Int×Bool×Int×Int×(Int×Int×LI)))) (k:Ev.Cont):evalFn tab (G18 fuel) J0 kp18 fuel Tryz.f18 [.c (.sl (.pair (.int .i64) (.pair (.int .i64) (.sl (.int .u8)))) a),.c (.sl (.pair (.int .i64) (.pair (.int .i64) (.pair (.int .i64) (.pair .bool (.pair (.int .i64) (.pair (.int .i64) (.pair (.int .i64) (.pair (.int .i64) (.sl (.int .u8)))))))))) b)] [] k=F_law10_long fuel a b (fun r=>match r with | d=>k (.c (.bool d),[])):=by
  kernel_rfl
theorem hG18 (fuel:Nat):GOK Tryz.prog (G18 fuel):=
  gok_nil
def spg18 (F:YF18):Ev.Spec:=fun args objs k=>match args,objs with | [.c (.sl (.pair (.int .i64) (.pair (.int .i64) (.sl (.int .u8)))) a),.c (.sl (.pair (.int .i64) (.pair (.int .i64) (.pair (.int .i64) (.pair .bool (.pair (.int .i64) (.pair (.int .i64) (.pair (.int .i64) (.pair (.int .i64) (.sl (.int .u8)))))))))) b)],[]=>F a b (fun r=>match r with | d=>k (.c (.bool d),[])) | _,_=>none
theorem ok18 (fuel:Nat):FnOK Tryz.prog 18 (spg18 (F_law10_long fuel)):=by
  intro args objs kk r h
  unfold spg18 at h
  split at h
  · skip
    exact fo0 (hG18 fuel) Tryz.func18 rfl (by kernel_rfl) _ _ kk r ((F18_eq fuel _ _ kk).trans h)
  · cases h
def kp178 (i:Nat):Option (List Nat):=Ev.look i [(2,[5,6,7]),(100000,[]),(400000,[2])]
def Gg178 (f:Nat):Option Ev.Spec:=Ev.look f []
def G178 (fuel:Nat):Nat→Option Ev.Spec:=Gg178
def S_ref06_IsRow_0 (fuel:Nat) (v:(List Int)×Int×Int) (c:((List Int)×Int×Int)→Option Ans) (B:(Bool→Option Ans)×(Unit→Option Ans)):Option Ans:=match v,B with | (d,e,a),(ret,b)=>bif decide (a < e) then bif decide ((0:Int)≤a∧a < (↑d.length:Int)) then bif decide (d.getD a.toNat (0:Int) > (1:Int)) then ret false else c (d,e,i64.wrap (a+(1:Int))) else none else b ()
def L_ref06_IsRow_0 (fuel:Nat) (v:(List Int)×Int×Int) (ret:(Bool→Option Ans)) (b:(Unit→Option Ans)):Option Ans:=iter (S_ref06_IsRow_0 fuel) fuel v (ret,b)
def T178_0 (v:LI×Int×Int):Ev.St:=match v with | (a,b,d)=>⟨[(5,.c (.sl (.int .u8) a)),(6,.c (i6 b)),(7,.c (i6 d))],[],0,0⟩
def E178_0 (K:KT):(Bool→OA)×(Unit→OA):=((fun v=>match v with | a=>K .ret ⟨[(2,.c (.bool a))],[],0,0⟩),(fun v=>match v with | ()=>K .normal ⟨[],[],0,0⟩))
theorem S178_0_ok (fuel:Nat) (R:Ev.St→OA) (K:KT) (a:LI) (b c:Int):evalCode tab (G178 fuel) J0 kp178 fuel (bodyOf 0 Tryz.f178) (T178_0 (a,b,c)) (lc kp178 2 0 R K)=S_ref06_IsRow_0 fuel (a,b,c) (fun v=>R (T178_0 v)) (E178_0 K):=by
  kernel_rfl
def B178_0 (fuel:Nat):Ev.Blk:=fun st K=>match canonO (kp178 2) st with | some s=>(match s with | ⟨[(a,.c (.sl (.int .u8) b)),(d,.c (i6 e)),(f,.c (i6 g))],[],h,i⟩=>bif qb [a,d,f,h,i] [5,6,7,0,0] then iter (S_ref06_IsRow_0 fuel) fuel (b,e,g) (E178_0 K) else none | _=>none) | none=>none
theorem B178_0_ok (fuel:Nat) (st:Ev.St) (K:KT) (r:Ans) (h:B178_0 fuel st K=some r):evalCode tab (G178 fuel) J0 kp178 fuel (.block 0 (.loop (bodyOf 0 Tryz.f178))) st K=some r:=by
  unfold B178_0 at h
  split at h
  · rename_i s hs
    split at h
    · skip
      obtain ⟨hb,h⟩:=cond_some' h
      cases qb_eq hb
      exact blk_loop (S:=T178_0) (ks:=E178_0) (step:=S_ref06_IsRow_0 fuel) (v:=(_,_,_)) (by kernel_rfl) (by kernel_rfl) (fun R K v=>by obtain ⟨a,b,c⟩:=v; exact S178_0_ok fuel R K a b c) hs h
    · cases h
  · cases h
def J178 (fuel:Nat) (i:Nat):Option Ev.Blk:=Ev.look i [(100000,B178_0 fuel)]
def F_ref06_IsRow (fuel:Nat) (a:(List Int)) (k0:(Bool)→Option Ans):Option Ans:=(L_ref06_IsRow_0 fuel (a,(↑a.length:Int),0) (fun ret0_0=>k0 ret0_0) (fun ()=>k0 true))
abbrev YF178:Type:=LI→(Bool→Option Ans)→Option Ans
theorem F178_eq (fuel:Nat) (a:LI) (k:Ev.Cont):evalFn tab (G178 fuel) (J178 fuel) kp178 fuel Tryz.f178 [.c (.sl (.int .u8) a)] [] k=F_ref06_IsRow fuel a (fun r=>match r with | b=>k (.c (.bool b),[])):=by
  kernel_rfl
theorem hG178 (fuel:Nat):GOK Tryz.prog (G178 fuel):=
  gok_nil
theorem B178_0_blk (fuel:Nat):BlkOK Tryz.prog Tryz.f178.ntmps (.block 0 (.loop (bodyOf 0 Tryz.f178))) (B178_0 fuel):=bo0 (hG178 fuel) (by kernel_rfl) (by kernel_rfl) (B178_0_ok fuel)
def spg178 (F:YF178):Ev.Spec:=fun args objs k=>match args,objs with | [.c (.sl (.int .u8) a)],[]=>F a (fun r=>match r with | b=>k (.c (.bool b),[])) | _,_=>none
theorem ok178 (fuel:Nat):FnOK Tryz.prog 178 (spg178 (F_ref06_IsRow fuel)):=by
  intro args objs kk r h
  unfold spg178 at h
  split at h
  · skip
    exact fo1 (hG178 fuel) Tryz.func178 rfl (B178_0_blk fuel) (by kernel_rfl) _ _ kk r ((F178_eq fuel _ kk).trans h)
  · cases h
def kp177 (i:Nat):Option (List Nat):=Ev.look i []
def Gg177 (f:Nat):Option Ev.Spec:=Ev.look f []
def G177 (fuel:Nat):Nat→Option Ev.Spec:=Gg177
def F_ref06_IsSize (fuel:Nat) (a b:Int) (k0:(Bool)→Option Ans):Option Ans:=bif decide (a≥0) then bif decide (a≤200) then bif decide (b≥0) then bif decide (b≤200) then k0 (decide (i64.wrap (a*b)≤8192)) else k0 false else k0 false else k0 false else k0 false
abbrev YF177:Type:=Int→Int→(Bool→Option Ans)→Option Ans
theorem F177_eq (fuel:Nat) (a b:Int) (k:Ev.Cont):evalFn tab (G177 fuel) J0 kp177 fuel Tryz.f177 [.c (i6 a),.c (i6 b)] [] k=F_ref06_IsSize fuel a b (fun r=>match r with | d=>k (.c (.bool d),[])):=by
  kernel_rfl
theorem hG177 (fuel:Nat):GOK Tryz.prog (G177 fuel):=
  gok_nil
def spg177 (F:YF177):Ev.Spec:=fun args objs k=>match args,objs with | [.c (i6 a),.c (i6 b)],[]=>F a b (fun r=>match r with | d=>k (.c (.bool d),[])) | _,_=>none
theorem ok177 (fuel:Nat):FnOK Tryz.prog 177 (spg177 (F_ref06_IsSize fuel)):=by
  intro args objs kk r h
  unfold spg177 at h
  split at h
  · skip
    exact fo0 (hG177 fuel) Tryz.func177 rfl (by kernel_rfl) _ _ kk r ((F177_eq fuel _ _ kk).trans h)
  · cases h
def kp144 (i:Nat):Option (List Nat):=Ev.look i []
def Gg144 (a:YF177) (b:YF178) (f:Nat):Option Ev.Spec:=Ev.look f [(177,spg177 a),(178,spg178 b)]
def G144 (fuel:Nat):Nat→Option Ev.Spec:=Gg144 (F_ref06_IsSize fuel) (F_ref06_IsRow fuel)
def Fg_ref06_IsBitmap (fuel:Nat) (d:YF177) (e:YF178) (a b:Int) (c:LI) (k0:(Bool)→OA):OA:=(d a b (fun f=>bif f then bif (↑c.length:Int)==i64.wrap (a*b) then (e c (fun g=>k0 g)) else k0 false else k0 false))
abbrev YF144:Type:=Int→Int→LI→(Bool→Option Ans)→Option Ans
def F_ref06_IsBitmap (fuel:Nat):YF144:=Fg_ref06_IsBitmap fuel (F_ref06_IsSize fuel) (F_ref06_IsRow fuel)
theorem F144_eqg (fuel:Nat) (a:YF177) (b:YF178) (d e:Int) (f:LI) (k:Ev.Cont):evalFn tab (Gg144 a b) J0 kp144 fuel Tryz.f144 [.agg [i6 d,i6 e,.sl (.int .u8) f]] [] k=Fg_ref06_IsBitmap fuel a b d e f (fun r=>match r with | g=>k (.c (.bool g),[])):=by
  kernel_rfl
theorem hG144 (fuel:Nat):GOK Tryz.prog (G144 fuel):=
  gc (ok177 fuel) Tryz.func177 (by kernel_rfl) rfl <|
  gc (ok178 fuel) Tryz.func178 (by kernel_rfl) rfl <|
  gok_nil
def spg144 (F:YF144):Ev.Spec:=fun args objs k=>match args,objs with | [.agg [i6 a,i6 b,.sl (.int .u8) d]],[]=>F a b d (fun r=>match r with | e=>k (.c (.bool e),[])) | _,_=>none
theorem ok144 (fuel:Nat):FnOK Tryz.prog 144 (spg144 (F_ref06_IsBitmap fuel)):=by
  intro args objs kk r h
  unfold spg144 at h
  split at h
  · skip
    exact fo0 (hG144 fuel) Tryz.func144 rfl (by kernel_rfl) _ _ kk r ((F144_eqg fuel (F_ref06_IsSize fuel) (F_ref06_IsRow fuel) _ _ _ kk).trans h)
  · cases h
def kp103 (i:Nat):Option (List Nat):=Ev.look i []
def Gg103 (a:YF144) (f:Nat):Option Ev.Spec:=Ev.look f [(144,spg144 a)]
def G103 (fuel:Nat):Nat→Option Ev.Spec:=Gg103 (F_ref06_IsBitmap fuel)
def Fg_ref10_IsShape (fuel:Nat) (c:YF144) (a b:Int) (d:LI) (k0:(Bool)→OA):OA:=(c a b d (fun e=>bif e then bif decide (a≥1) then bif decide (a≤40) then bif decide (b≥1) then k0 (decide (b≤40)) else k0 false else k0 false else k0 false else k0 false))
abbrev YF103:Type:=Int→Int→LI→(Bool→Option Ans)→Option Ans
def F_ref10_IsShape (fuel:Nat):YF103:=Fg_ref10_IsShape fuel (F_ref06_IsBitmap fuel)
theorem F103_eqg (fuel:Nat) (a:YF144) (b d:Int) (e:LI) (k:Ev.Cont):evalFn tab (Gg103 a) J0 kp103 fuel Tryz.f103 [.agg [i6 b,i6 d,.sl (.int .u8) e]] [] k=Fg_ref10_IsShape fuel a b d e (fun r=>match r with | f=>k (.c (.bool f),[])):=by
  kernel_rfl
theorem hG103 (fuel:Nat):GOK Tryz.prog (G103 fuel):=
  gc (ok144 fuel) Tryz.func144 (by kernel_rfl) rfl <|
  gok_nil
def spg103 (F:YF103):Ev.Spec:=fun args objs k=>match args,objs with | [.agg [i6 a,i6 b,.sl (.int .u8) d]],[]=>F a b d (fun r=>match r with | e=>k (.c (.bool e),[])) | _,_=>none
theorem ok103 (fuel:Nat):FnOK Tryz.prog 103 (spg103 (F_ref10_IsShape fuel)):=by
  intro args objs kk r h
  unfold spg103 at h
  split at h
  · skip
    exact fo0 (hG103 fuel) Tryz.func103 rfl (by kernel_rfl) _ _ kk r ((F103_eqg fuel (F_ref06_IsBitmap fuel) _ _ _ kk).trans h)
  · cases h
def kp102 (i:Nat):Option (List Nat):=Ev.look i []
def Gg102 (f:Nat):Option Ev.Spec:=Ev.look f []
def G102 (fuel:Nat):Nat→Option Ev.Spec:=Gg102
def F_ref10_Valid (fuel:Nat) (f a:Int) (g:Bool) (b c d:Int) (h:Bool) (e:Int) (k0:(Bool)→Option Ans):Option Ans:=bif f != 1 then bif f != 2 then bif f != 4 then bif f != 8 then k0 false else bif decide (a≥0) then bif decide (a≤3) then bif decide (b≥(-16:Int)) then bif decide (b≤16) then bif decide (c≥0) then bif decide (c≤4) then bif decide (d≥0) then bif decide (d≤1) then bif decide (e≥0) then k0 (decide (e≤1)) else k0 false else k0 false else k0 false else k0 false else k0 false else k0 false else k0 false else k0 false else k0 false else bif decide (a≥0) then bif decide (a≤3) then bif decide (b≥(-16:Int)) then bif decide (b≤16) then bif decide (c≥0) then bif decide (c≤4) then bif decide (d≥0) then bif decide (d≤1) then bif decide (e≥0) then k0 (decide (e≤1)) else k0 false else k0 false else k0 false else k0 false else k0 false else k0 false else k0 false else k0 false else k0 false else bif decide (a≥0) then bif decide (a≤3) then bif decide (b≥(-16:Int)) then bif decide (b≤16) then bif decide (c≥0) then bif decide (c≤4) then bif decide (d≥0) then bif decide (d≤1) then bif decide (e≥0) then k0 (decide (e≤1)) else k0 false else k0 false else k0 false else k0 false else k0 false else k0 false else k0 false else k0 false else k0 false else bif decide (a≥0) then bif decide (a≤3) then bif decide (b≥(-16:Int)) then bif decide (b≤16) then bif decide (c≥0) then bif decide (c≤4) then bif decide (d≥0) then bif decide (d≤1) then bif decide (e≥0) then k0 (decide (e≤1)) else k0 false else k0 false else k0 false else k0 false else k0 false else k0 false else k0 false else k0 false else k0 false
abbrev YF102:Type:=Int→Int→Bool→Int→Int→Int→Bool→Int→(Bool→Option Ans)→Option Ans
theorem F102_eq (fuel:Nat) (a b:Int) (d:Bool) (e f g:Int) (h:Bool) (i:Int) (k:Ev.Cont):evalFn tab (G102 fuel) J0 kp102 fuel Tryz.f102 [.agg [i6 a,i6 b,.bool d,i6 e,i6 f,i6 g,.bool h,i6 i]] [] k=F_ref10_Valid fuel a b d e f g h i (fun r=>match r with | j=>k (.c (.bool j),[])):=by
  kernel_rfl
theorem hG102 (fuel:Nat):GOK Tryz.prog (G102 fuel):=
  gok_nil
def spg102 (F:YF102):Ev.Spec:=fun args objs k=>match args,objs with | [.agg [i6 a,i6 b,.bool d,i6 e,i6 f,i6 g,.bool h,i6 i]],[]=>F a b d e f g h i (fun r=>match r with | j=>k (.c (.bool j),[])) | _,_=>none
theorem ok102 (fuel:Nat):FnOK Tryz.prog 102 (spg102 (F_ref10_Valid fuel)):=by
  intro args objs kk r h
  unfold spg102 at h
  split at h
  · skip
    exact fo0 (hG102 fuel) Tryz.func102 rfl (by kernel_rfl) _ _ kk r ((F102_eq fuel _ _ _ _ _ _ _ _ kk).trans h)
  · cases h
def kp145 (i:Nat):Option (List Nat):=Ev.look i []
def Gg145 (f:Nat):Option Ev.Spec:=Ev.look f []
def G145 (fuel:Nat):Nat→Option Ev.Spec:=Gg145
def F_ref10_isShift (fuel:Nat) (a:Int) (k0:(Bool)→Option Ans):Option Ans:=bif decide (a≥(-100000:Int)) then k0 (decide (a≤100000)) else k0 false
abbrev YF145:Type:=Int→(Bool→Option Ans)→Option Ans
theorem F145_eq (fuel:Nat) (a:Int) (k:Ev.Cont):evalFn tab (G145 fuel) J0 kp145 fuel Tryz.f145 [.c (i6 a)] [] k=F_ref10_isShift fuel a (fun r=>match r with | b=>k (.c (.bool b),[])):=by
  kernel_rfl
theorem hG145 (fuel:Nat):GOK Tryz.prog (G145 fuel):=
  gok_nil
def spg145 (F:YF145):Ev.Spec:=fun args objs k=>match args,objs with | [.c (i6 a)],[]=>F a (fun r=>match r with | b=>k (.c (.bool b),[])) | _,_=>none
theorem ok145 (fuel:Nat):FnOK Tryz.prog 145 (spg145 (F_ref10_isShift fuel)):=by
  intro args objs kk r h
  unfold spg145 at h
  split at h
  · skip
    exact fo0 (hG145 fuel) Tryz.func145 rfl (by kernel_rfl) _ _ kk r ((F145_eq fuel _ kk).trans h)
  · cases h
def kp146 (i:Nat):Option (List Nat):=Ev.look i []
def Gg146 (f:Nat):Option Ev.Spec:=Ev.look f []
def G146 (fuel:Nat):Nat→Option Ev.Spec:=Gg146
def F_ref10_isSide (fuel:Nat) (a:Int) (k0:(Bool)→Option Ans):Option Ans:=bif decide (a≥(-200:Int)) then k0 (decide (a≤200)) else k0 false
abbrev YF146:Type:=Int→(Bool→Option Ans)→Option Ans
theorem F146_eq (fuel:Nat) (a:Int) (k:Ev.Cont):evalFn tab (G146 fuel) J0 kp146 fuel Tryz.f146 [.c (i6 a)] [] k=F_ref10_isSide fuel a (fun r=>match r with | b=>k (.c (.bool b),[])):=by
  kernel_rfl
theorem hG146 (fuel:Nat):GOK Tryz.prog (G146 fuel):=
  gok_nil
def spg146 (F:YF146):Ev.Spec:=fun args objs k=>match args,objs with | [.c (i6 a)],[]=>F a (fun r=>match r with | b=>k (.c (.bool b),[])) | _,_=>none
theorem ok146 (fuel:Nat):FnOK Tryz.prog 146 (spg146 (F_ref10_isSide fuel)):=by
  intro args objs kk r h
  unfold spg146 at h
  split at h
  · skip
    exact fo0 (hG146 fuel) Tryz.func146 rfl (by kernel_rfl) _ _ kk r ((F146_eq fuel _ kk).trans h)
  · cases h
def kp104 (i:Nat):Option (List Nat):=Ev.look i []
def Gg104 (a:YF145) (b:YF146) (f:Nat):Option Ev.Spec:=Ev.look f [(145,spg145 a),(146,spg146 b)]
def G104 (fuel:Nat):Nat→Option Ev.Spec:=Gg104 (F_ref10_isShift fuel) (F_ref10_isSide fuel)
def Fg_ref10_isItem (fuel:Nat) (a:YF145) (b:YF146) (r s:Int) (t:Bool) (u v w:Int) (n:Bool) (x o:Int) (e f g:Int) (h:Bool) (c d:Int) (i j:Int) (k:LI) (k0:(Bool)→OA):OA:=bif decide (e < 0) then k0 false else bif decide (e≥o) then k0 false else (a f (fun p=>bif !p then k0 false else (a g (fun q=>bif !q then k0 false else bif h then bif n then (b c (fun l=>bif l then (b d (fun m=>k0 m)) else k0 false)) else k0 false else bif c==0 then bif d==0 then bif i==0 then bif j==0 then k0 ((↑k.length:Int)==0) else k0 false else k0 false else k0 false else k0 false))))
abbrev YF104:Type:=Int→Int→Bool→Int→Int→Int→Bool→Int→Int→Int→Int→Int→Bool→Int→Int→Int→Int→LI→(Bool→Option Ans)→Option Ans
def F_ref10_isItem (fuel:Nat):YF104:=Fg_ref10_isItem fuel (F_ref10_isShift fuel) (F_ref10_isSide fuel)
theorem F104_eqg (fuel:Nat) (a:YF145) (b:YF146) (m n:Int) (o:Bool) (p q s:Int) (t:Bool) (u v:Int) (w d e:Int) (f:Bool) (g h:Int) (i j:Int) (l:LI) (k:Ev.Cont):evalFn tab (Gg104 a b) J0 kp104 fuel Tryz.f104 [.agg [i6 m,i6 n,.bool o,i6 p,i6 q,i6 s,.bool t,i6 u],.c (i6 v),.agg [i6 w,i6 d,i6 e,.bool f,i6 g,i6 h,i6 i,i6 j,.sl (.int .u8) l]] [] k=Fg_ref10_isItem fuel a b m n o p q s t u v w d e f g h i j l (fun r=>match r with | x=>k (.c (.bool x),[])):=by
  kernel_rfl
theorem hG104 (fuel:Nat):GOK Tryz.prog (G104 fuel):=
  gc (ok145 fuel) Tryz.func145 (by kernel_rfl) rfl <|
  gc (ok146 fuel) Tryz.func146 (by kernel_rfl) rfl <|
  gok_nil
def spg104 (F:YF104):Ev.Spec:=fun args objs k=>match args,objs with | [.agg [i6 j,i6 l,.bool m,i6 n,i6 o,i6 p,.bool q,i6 s],.c (i6 t),.agg [i6 u,i6 a,i6 b,.bool d,i6 e,i6 f,i6 g,i6 h,.sl (.int .u8) i]],[]=>F j l m n o p q s t u a b d e f g h i (fun r=>match r with | v=>k (.c (.bool v),[])) | _,_=>none
theorem ok104 (fuel:Nat):FnOK Tryz.prog 104 (spg104 (F_ref10_isItem fuel)):=by
  intro args objs kk r h
  unfold spg104 at h
  split at h
  · skip
    exact fo0 (hG104 fuel) Tryz.func104 rfl (by kernel_rfl) _ _ kk r ((F104_eqg fuel (F_ref10_isShift fuel) (F_ref10_isSide fuel) _ _ _ _ _ _ _ _ _ _ _ _ _ _ _ _ _ _ kk).trans h)
  · cases h
def kp56 (i:Nat):Option (List Nat):=Ev.look i [(4,[1,2,3,4,5,20,21,22]),(9,[1,2,3,4,5,32,33,34]),(18,[4,5,60,61,62]),(100000,[1,2,3,4,5]),(100002,[1,2,3,4,5]),(100004,[]),(400000,[10]),(400002,[10]),(400004,[10])]
def Gg56 (a:YF102) (b:YF103) (c:YF104) (f:Nat):Option Ev.Spec:=Ev.look f [(102,spg102 a),(103,spg103 b),(104,spg104 c)]
def G56 (fuel:Nat):Nat→Option Ev.Spec:=Gg56 (F_ref10_Valid fuel) (F_ref10_IsShape fuel) (F_ref10_isItem fuel)
abbrev V_ref10_asked_0:Type:=(List (Int×(Int×LI)))×(List (Int×(Int×(Int×(Bool×(Int×(Int×(Int×(Int×LI)))))))))×Bool×Int×(List (Int×(Int×LI)))×Int×Int×Int×Int×Bool×Int×Int×Int×Bool×Int
abbrev W_ref10_asked_0:Type:=((List (Int×(Int×LI)))×(List (Int×(Int×(Int×(Bool×(Int×(Int×(Int×(Int×LI)))))))))×Bool×Int×Int×Int×Bool×Int×Int×Int×Bool×Int→OA)
def Sg_ref10_asked_0 (fuel:Nat) (t:YF102) (r:YF103) (u:YF104) (j:(List (Int×(Int×LI)))) (k:(List (Int×(Int×(Int×(Bool×(Int×(Int×(Int×(Int×LI)))))))))) (q:Bool) (l:Int) (d:(List (Int×(Int×LI)))) (m a:Int) (n o:Int) (p:Bool) (e f g:Int) (h:Bool) (i:Int) (c:V_ref10_asked_0→OA) (B:W_ref10_asked_0):OA:=match B with | b=>bif decide (a < m) then bif decide (0≤a∧a < (↑d.length:Int)) then bif q then (r ((d.getD a.toNat (0,0,[])).fst) ((d.getD a.toNat (0,0,[])).snd.fst) ((d.getD a.toNat (0,0,[])).snd.snd) (fun s=>c (j,k,s,l,d,m,i64.wrap (a+1),n,o,p,e,f,g,h,i))) else c (j,k,false,l,d,m,i64.wrap (a+1),n,o,p,e,f,g,h,i) else none else b (j,k,q,l,n,o,p,e,f,g,h,i)
def S_ref10_asked_0 (fuel:Nat) (v:(List (Int×(Int×(List Int))))×(List (Int×(Int×(Int×(Bool×(Int×(Int×(Int×(Int×(List Int))))))))))×Bool×Int×(List (Int×(Int×(List Int))))×Int×Int×Int×Int×Bool×Int×Int×Int×Bool×Int) (c:((List (Int×(Int×(List Int))))×(List (Int×(Int×(Int×(Bool×(Int×(Int×(Int×(Int×(List Int))))))))))×Bool×Int×(List (Int×(Int×(List Int))))×Int×Int×Int×Int×Bool×Int×Int×Int×Bool×Int)→Option Ans) (B:((List (Int×(Int×(List Int))))×(List (Int×(Int×(Int×(Bool×(Int×(Int×(Int×(Int×(List Int))))))))))×Bool×Int×Int×Int×Bool×Int×Int×Int×Bool×Int→Option Ans)):Option Ans:=match v with | (g,h,i,j,k,l,m,n,o,p,a,b,d,e,f)=>Sg_ref10_asked_0 fuel (F_ref10_Valid fuel) (F_ref10_IsShape fuel) (F_ref10_isItem fuel) g h i j k l m n o p a b d e f c B
def L_ref10_asked_0 (fuel:Nat) (v:V_ref10_asked_0) (b:W_ref10_asked_0):Option Ans:=iter (S_ref10_asked_0 fuel) fuel v b
def T56_0 (v:V_ref10_asked_0):Ev.St:=match v with | (g,h,i,j,k,l,m,n,o,p,a,b,d,e,f)=>⟨[(1,.c (.sl (.pair (.int .i64) (.pair (.int .i64) (.sl (.int .u8)))) g)),(2,.c (.sl (.pair (.int .i64) (.pair (.int .i64) (.pair (.int .i64) (.pair .bool (.pair (.int .i64) (.pair (.int .i64) (.pair (.int .i64) (.pair (.int .i64) (.sl (.int .u8)))))))))) h)),(3,.c (.bool i)),(4,.c (i6 j)),(5,.c (.ptr 0 0)),(20,.c (.sl (.pair (.int .i64) (.pair (.int .i64) (.sl (.int .u8)))) k)),(21,.c (i6 l)),(22,.c (i6 m))],[(0,.cells 51 [i6 n,i6 o,.bool p,i6 a,i6 b,i6 d,.bool e,i6 f])],1,0⟩
def E56_0 (K:KT):W_ref10_asked_0:=(fun v=>match v with | (d,e,f,g,h,i,j,k,l,m,a,b)=>K .normal ⟨[(1,.c (.sl (.pair (.int .i64) (.pair (.int .i64) (.sl (.int .u8)))) d)),(2,.c (.sl (.pair (.int .i64) (.pair (.int .i64) (.pair (.int .i64) (.pair .bool (.pair (.int .i64) (.pair (.int .i64) (.pair (.int .i64) (.pair (.int .i64) (.sl (.int .u8)))))))))) e)),(3,.c (.bool f)),(4,.c (i6 g)),(5,.c (.ptr 0 0))],[(0,.cells 51 [i6 h,i6 i,.bool j,i6 k,i6 l,i6 m,.bool a,i6 b])],1,0⟩)
theorem S56_0_okg (fuel:Nat) (a:YF102) (b:YF103) (c:YF104) (R:Ev.St→OA) (K:KT) (i:(List (Int×(Int×LI)))) (j:(List (Int×(Int×(Int×(Bool×(Int×(Int×(Int×(Int×LI)))))))))) (k:Bool) (l:Int) (m:(List (Int×(Int×LI)))) (n o:Int) (p q:Int) (r:Bool) (d e f:Int) (g:Bool) (h:Int):evalCode tab (Gg56 a b c) J0 kp56 fuel (bodyOf 0 Tryz.f56) (T56_0 (i,j,k,l,m,n,o,p,q,r,d,e,f,g,h)) (lc kp56 4 0 R K)=Sg_ref10_asked_0 fuel a b c i j k l m n o p q r d e f g h (fun v=>R (T56_0 v)) (E56_0 K):=by
  kernel_rfl
def B56_0 (fuel:Nat):Ev.Blk:=fun st K=>match canonO (kp56 4) st with | some s=>(match s with | ⟨[(k,.c (.sl (.pair (.int .i64) (.pair (.int .i64) (.sl (.int .u8)))) l)),(m,.c (.sl (.pair (.int .i64) (.pair (.int .i64) (.pair (.int .i64) (.pair .bool (.pair (.int .i64) (.pair (.int .i64) (.pair (.int .i64) (.pair (.int .i64) (.sl (.int .u8)))))))))) n)),(o,.c (.bool p)),(q,.c (i6 r)),(t,.c (.ptr u v)),(w,.c (.sl (.pair (.int .i64) (.pair (.int .i64) (.sl (.int .u8)))) x)),(y,.c (i6 z)),(A,.c (i6 B))],[(a,.cells b [i6 C,i6 D,.bool E,i6 d,i6 e,i6 f,.bool g,i6 h])],i,j⟩=>bif qb [k,m,o,q,t,u,v,w,y,A,a,b,i,j] [1,2,3,4,5,0,0,20,21,22,0,51,1,0] then iter (S_ref10_asked_0 fuel) fuel (l,n,p,r,x,z,B,C,D,E,d,e,f,g,h) (E56_0 K) else none | _=>none) | none=>none
theorem B56_0_ok (fuel:Nat) (st:Ev.St) (K:KT) (r:Ans) (h:B56_0 fuel st K=some r):evalCode tab (G56 fuel) J0 kp56 fuel (.block 0 (.loop (bodyOf 0 Tryz.f56))) st K=some r:=by
  unfold B56_0 at h
  split at h
  · rename_i s hs
    split at h
    · skip
      obtain ⟨hb,h⟩:=cond_some' h
      cases qb_eq hb
      exact blk_loop (S:=T56_0) (ks:=E56_0) (step:=S_ref10_asked_0 fuel) (v:=(_,_,_,_,_,_,_,_,_,_,_,_,_,_,_)) (by kernel_rfl) (by kernel_rfl) (fun R K v=>by obtain ⟨f,g,i,j,k,l,m,n,o,p,a,b,c,d,e⟩:=v; exact S56_0_okg fuel (F_ref10_Valid fuel) (F_ref10_IsShape fuel) (F_ref10_isItem fuel) R K f g i j k l m n o p a b c d e) hs h
    · cases h
  · cases h
abbrev V_ref10_asked_2:Type:=(List (Int×(Int×LI)))×(List (Int×(Int×(Int×(Bool×(Int×(Int×(Int×(Int×LI)))))))))×Bool×Int×(List (Int×(Int×(Int×(Bool×(Int×(Int×(Int×(Int×LI)))))))))×Int×Int×Int×Int×Bool×Int×Int×Int×Bool×Int
abbrev W_ref10_asked_2:Type:=((List (Int×(Int×LI)))×(List (Int×(Int×(Int×(Bool×(Int×(Int×(Int×(Int×LI)))))))))×Bool×Int×Int×Int×Bool×Int×Int×Int×Bool×Int→OA)
def Sg_ref10_asked_2 (fuel:Nat) (t:YF102) (r:YF103) (u:YF104) (j:(List (Int×(Int×LI)))) (k:(List (Int×(Int×(Int×(Bool×(Int×(Int×(Int×(Int×LI)))))))))) (q:Bool) (l:Int) (d:(List (Int×(Int×(Int×(Bool×(Int×(Int×(Int×(Int×LI)))))))))) (m a:Int) (n o:Int) (p:Bool) (e f g:Int) (h:Bool) (i:Int) (c:V_ref10_asked_2→OA) (B:W_ref10_asked_2):OA:=match B with | b=>bif decide (a < m) then bif decide (0≤a∧a < (↑d.length:Int)) then bif q then bif !(d.getD a.toNat (0,0,0,false,0,0,0,0,[])).snd.snd.snd.fst then c (j,k,true,l,d,m,i64.wrap (a+1),n,o,p,e,f,g,h,i) else (r ((d.getD a.toNat (0,0,0,false,0,0,0,0,[])).snd.snd.snd.snd.snd.snd.fst) ((d.getD a.toNat (0,0,0,false,0,0,0,0,[])).snd.snd.snd.snd.snd.snd.snd.fst) ((d.getD a.toNat (0,0,0,false,0,0,0,0,[])).snd.snd.snd.snd.snd.snd.snd.snd) (fun s=>c (j,k,s,l,d,m,i64.wrap (a+1),n,o,p,e,f,g,h,i))) else c (j,k,false,l,d,m,i64.wrap (a+1),n,o,p,e,f,g,h,i) else none else b (j,k,q,l,n,o,p,e,f,g,h,i)
def S_ref10_asked_2 (fuel:Nat) (v:(List (Int×(Int×(List Int))))×(List (Int×(Int×(Int×(Bool×(Int×(Int×(Int×(Int×(List Int))))))))))×Bool×Int×(List (Int×(Int×(Int×(Bool×(Int×(Int×(Int×(Int×(List Int))))))))))×Int×Int×Int×Int×Bool×Int×Int×Int×Bool×Int) (c:((List (Int×(Int×(List Int))))×(List (Int×(Int×(Int×(Bool×(Int×(Int×(Int×(Int×(List Int))))))))))×Bool×Int×(List (Int×(Int×(Int×(Bool×(Int×(Int×(Int×(Int×(List Int))))))))))×Int×Int×Int×Int×Bool×Int×Int×Int×Bool×Int)→Option Ans) (B:((List (Int×(Int×(List Int))))×(List (Int×(Int×(Int×(Bool×(Int×(Int×(Int×(Int×(List Int))))))))))×Bool×Int×Int×Int×Bool×Int×Int×Int×Bool×Int→Option Ans)):Option Ans:=match v with | (g,h,i,j,k,l,m,n,o,p,a,b,d,e,f)=>Sg_ref10_asked_2 fuel (F_ref10_Valid fuel) (F_ref10_IsShape fuel) (F_ref10_isItem fuel) g h i j k l m n o p a b d e f c B
def L_ref10_asked_2 (fuel:Nat) (v:V_ref10_asked_2) (b:W_ref10_asked_2):Option Ans:=iter (S_ref10_asked_2 fuel) fuel v b
def J56_2 (fuel:Nat) (i:Nat):Option Ev.Blk:=Ev.look i [(100000,B56_0 fuel)]
def T56_2 (v:V_ref10_asked_2):Ev.St:=match v with | (g,h,i,j,k,l,m,n,o,p,a,b,d,e,f)=>⟨[(1,.c (.sl (.pair (.int .i64) (.pair (.int .i64) (.sl (.int .u8)))) g)),(2,.c (.sl (.pair (.int .i64) (.pair (.int .i64) (.pair (.int .i64) (.pair .bool (.pair (.int .i64) (.pair (.int .i64) (.pair (.int .i64) (.pair (.int .i64) (.sl (.int .u8)))))))))) h)),(3,.c (.bool i)),(4,.c (i6 j)),(5,.c (.ptr 0 0)),(32,.c (.sl (.pair (.int .i64) (.pair (.int .i64) (.pair (.int .i64) (.pair .bool (.pair (.int .i64) (.pair (.int .i64) (.pair (.int .i64) (.pair (.int .i64) (.sl (.int .u8)))))))))) k)),(33,.c (i6 l)),(34,.c (i6 m))],[(0,.cells 51 [i6 n,i6 o,.bool p,i6 a,i6 b,i6 d,.bool e,i6 f])],1,0⟩
def E56_2 (K:KT):W_ref10_asked_2:=(fun v=>match v with | (d,e,f,g,h,i,j,k,l,m,a,b)=>K .normal ⟨[(1,.c (.sl (.pair (.int .i64) (.pair (.int .i64) (.sl (.int .u8)))) d)),(2,.c (.sl (.pair (.int .i64) (.pair (.int .i64) (.pair (.int .i64) (.pair .bool (.pair (.int .i64) (.pair (.int .i64) (.pair (.int .i64) (.pair (.int .i64) (.sl (.int .u8)))))))))) e)),(3,.c (.bool f)),(4,.c (i6 g)),(5,.c (.ptr 0 0))],[(0,.cells 51 [i6 h,i6 i,.bool j,i6 k,i6 l,i6 m,.bool a,i6 b])],1,0⟩)
theorem S56_2_okg (fuel:Nat) (a:YF102) (b:YF103) (c:YF104) (R:Ev.St→OA) (K:KT) (i:(List (Int×(Int×LI)))) (j:(List (Int×(Int×(Int×(Bool×(Int×(Int×(Int×(Int×LI)))))))))) (k:Bool) (l:Int) (m:(List (Int×(Int×(Int×(Bool×(Int×(Int×(Int×(Int×LI)))))))))) (n o:Int) (p q:Int) (r:Bool) (d e f:Int) (g:Bool) (h:Int):evalCode tab (Gg56 a b c) (J56_2 fuel) kp56 fuel (bodyOf 2 Tryz.f56) (T56_2 (i,j,k,l,m,n,o,p,q,r,d,e,f,g,h)) (lc kp56 9 2 R K)=Sg_ref10_asked_2 fuel a b c i j k l m n o p q r d e f g h (fun v=>R (T56_2 v)) (E56_2 K):=by
  kernel_rfl
def B56_2 (fuel:Nat):Ev.Blk:=fun st K=>match canonO (kp56 9) st with | some s=>(match s with | ⟨[(k,.c (.sl (.pair (.int .i64) (.pair (.int .i64) (.sl (.int .u8)))) l)),(m,.c (.sl (.pair (.int .i64) (.pair (.int .i64) (.pair (.int .i64) (.pair .bool (.pair (.int .i64) (.pair (.int .i64) (.pair (.int .i64) (.pair (.int .i64) (.sl (.int .u8)))))))))) n)),(o,.c (.bool p)),(q,.c (i6 r)),(t,.c (.ptr u v)),(w,.c (.sl (.pair (.int .i64) (.pair (.int .i64) (.pair (.int .i64) (.pair .bool (.pair (.int .i64) (.pair (.int .i64) (.pair (.int .i64) (.pair (.int .i64) (.sl (.int .u8)))))))))) x)),(y,.c (i6 z)),(A,.c (i6 B))],[(a,.cells b [i6 C,i6 D,.bool E,i6 d,i6 e,i6 f,.bool g,i6 h])],i,j⟩=>bif qb [k,m,o,q,t,u,v,w,y,A,a,b,i,j] [1,2,3,4,5,0,0,32,33,34,0,51,1,0] then iter (S_ref10_asked_2 fuel) fuel (l,n,p,r,x,z,B,C,D,E,d,e,f,g,h) (E56_2 K) else none | _=>none) | none=>none
theorem B56_2_ok (fuel:Nat) (st:Ev.St) (K:KT) (r:Ans) (h:B56_2 fuel st K=some r):evalCode tab (G56 fuel) (J56_2 fuel) kp56 fuel (.block 2 (.loop (bodyOf 2 Tryz.f56))) st K=some r:=by
  unfold B56_2 at h
  split at h
  · rename_i s hs
    split at h
    · skip
      obtain ⟨hb,h⟩:=cond_some' h
      cases qb_eq hb
      exact blk_loop (S:=T56_2) (ks:=E56_2) (step:=S_ref10_asked_2 fuel) (v:=(_,_,_,_,_,_,_,_,_,_,_,_,_,_,_)) (by kernel_rfl) (by kernel_rfl) (fun R K v=>by obtain ⟨f,g,i,j,k,l,m,n,o,p,a,b,c,d,e⟩:=v; exact S56_2_okg fuel (F_ref10_Valid fuel) (F_ref10_IsShape fuel) (F_ref10_isItem fuel) R K f g i j k l m n o p a b c d e) hs h
    · cases h
  · cases h
abbrev V_ref10_asked_4:Type:=Int×(List (Int×(Int×(Int×(Bool×(Int×(Int×(Int×(Int×LI)))))))))×Int×Int×Int×Int×Bool×Int×Int×Int×Bool×Int
abbrev W_ref10_asked_4:Type:=(Int→OA)×(Unit→OA)
def Sg_ref10_asked_4 (fuel:Nat) (q:YF102) (r:YF103) (o:YF104) (g:Int) (d:(List (Int×(Int×(Int×(Bool×(Int×(Int×(Int×(Int×LI)))))))))) (h a:Int) (i j:Int) (k:Bool) (l m n:Int) (e:Bool) (f:Int) (c:V_ref10_asked_4→OA) (B:W_ref10_asked_4):OA:=match B with | (ret,b)=>bif decide (a < h) then bif decide (0≤a∧a < (↑d.length:Int)) then (o i j k l m n e f g ((d.getD a.toNat (0,0,0,false,0,0,0,0,[])).fst) ((d.getD a.toNat (0,0,0,false,0,0,0,0,[])).snd.fst) ((d.getD a.toNat (0,0,0,false,0,0,0,0,[])).snd.snd.fst) ((d.getD a.toNat (0,0,0,false,0,0,0,0,[])).snd.snd.snd.fst) ((d.getD a.toNat (0,0,0,false,0,0,0,0,[])).snd.snd.snd.snd.fst) ((d.getD a.toNat (0,0,0,false,0,0,0,0,[])).snd.snd.snd.snd.snd.fst) ((d.getD a.toNat (0,0,0,false,0,0,0,0,[])).snd.snd.snd.snd.snd.snd.fst) ((d.getD a.toNat (0,0,0,false,0,0,0,0,[])).snd.snd.snd.snd.snd.snd.snd.fst) ((d.getD a.toNat (0,0,0,false,0,0,0,0,[])).snd.snd.snd.snd.snd.snd.snd.snd) (fun p=>bif !p then ret (2) else c (g,d,h,i64.wrap (a+1),i,j,k,l,m,n,e,f))) else none else b ()
def S_ref10_asked_4 (fuel:Nat) (v:Int×(List (Int×(Int×(Int×(Bool×(Int×(Int×(Int×(Int×(List Int))))))))))×Int×Int×Int×Int×Bool×Int×Int×Int×Bool×Int) (c:(Int×(List (Int×(Int×(Int×(Bool×(Int×(Int×(Int×(Int×(List Int))))))))))×Int×Int×Int×Int×Bool×Int×Int×Int×Bool×Int)→Option Ans) (B:(Int→Option Ans)×(Unit→Option Ans)):Option Ans:=match v with | (d,e,f,g,h,i,j,k,l,m,a,b)=>Sg_ref10_asked_4 fuel (F_ref10_Valid fuel) (F_ref10_IsShape fuel) (F_ref10_isItem fuel) d e f g h i j k l m a b c B
def L_ref10_asked_4 (fuel:Nat) (v:V_ref10_asked_4) (ret:(Int→Option Ans)) (b:(Unit→Option Ans)):Option Ans:=iter (S_ref10_asked_4 fuel) fuel v (ret,b)
def J56_4 (fuel:Nat) (i:Nat):Option Ev.Blk:=Ev.look i [(100000,B56_0 fuel),(100002,B56_2 fuel)]
def T56_4 (v:V_ref10_asked_4):Ev.St:=match v with | (d,e,f,g,h,i,j,k,l,m,a,b)=>⟨[(4,.c (i6 d)),(5,.c (.ptr 0 0)),(60,.c (.sl (.pair (.int .i64) (.pair (.int .i64) (.pair (.int .i64) (.pair .bool (.pair (.int .i64) (.pair (.int .i64) (.pair (.int .i64) (.pair (.int .i64) (.sl (.int .u8)))))))))) e)),(61,.c (i6 f)),(62,.c (i6 g))],[(0,.cells 51 [i6 h,i6 i,.bool j,i6 k,i6 l,i6 m,.bool a,i6 b])],1,0⟩
def E56_4 (K:KT):W_ref10_asked_4:=((fun v=>match v with | a=>K .ret ⟨[(10,.c (i6 a))],[],0,0⟩),(fun v=>match v with | ()=>K .normal ⟨[],[],0,0⟩))
theorem S56_4_okg (fuel:Nat) (a:YF102) (b:YF103) (c:YF104) (R:Ev.St→OA) (K:KT) (f:Int) (g:(List (Int×(Int×(Int×(Bool×(Int×(Int×(Int×(Int×LI)))))))))) (h i:Int) (j k:Int) (l:Bool) (m n o:Int) (d:Bool) (e:Int):evalCode tab (Gg56 a b c) (J56_4 fuel) kp56 fuel (bodyOf 4 Tryz.f56) (T56_4 (f,g,h,i,j,k,l,m,n,o,d,e)) (lc kp56 18 4 R K)=Sg_ref10_asked_4 fuel a b c f g h i j k l m n o d e (fun v=>R (T56_4 v)) (E56_4 K):=by
  kernel_rfl
def B56_4 (fuel:Nat):Ev.Blk:=fun st K=>match canonO (kp56 18) st with | some s=>(match s with | ⟨[(e,.c (i6 f)),(g,.c (.ptr h i)),(j,.c (.sl (.pair (.int .i64) (.pair (.int .i64) (.pair (.int .i64) (.pair .bool (.pair (.int .i64) (.pair (.int .i64) (.pair (.int .i64) (.pair (.int .i64) (.sl (.int .u8)))))))))) k)),(l,.c (i6 m)),(n,.c (i6 o))],[(p,.cells q [i6 r,i6 t,.bool u,i6 v,i6 w,i6 x,.bool a,i6 b])],y,d⟩=>bif qb [e,g,h,i,j,l,n,p,q,y,d] [4,5,0,0,60,61,62,0,51,1,0] then iter (S_ref10_asked_4 fuel) fuel (f,k,m,o,r,t,u,v,w,x,a,b) (E56_4 K) else none | _=>none) | none=>none
theorem B56_4_ok (fuel:Nat) (st:Ev.St) (K:KT) (r:Ans) (h:B56_4 fuel st K=some r):evalCode tab (G56 fuel) (J56_4 fuel) kp56 fuel (.block 4 (.loop (bodyOf 4 Tryz.f56))) st K=some r:=by
  unfold B56_4 at h
  split at h
  · rename_i s hs
    split at h
    · skip
      obtain ⟨hb,h⟩:=cond_some' h
      cases qb_eq hb
      exact blk_loop (S:=T56_4) (ks:=E56_4) (step:=S_ref10_asked_4 fuel) (v:=(_,_,_,_,_,_,_,_,_,_,_,_)) (by kernel_rfl) (by kernel_rfl) (fun R K v=>by obtain ⟨c,d,e,f,g,i,j,k,l,m,a,b⟩:=v; exact S56_4_okg fuel (F_ref10_Valid fuel) (F_ref10_IsShape fuel) (F_ref10_isItem fuel) R K c d e f g i j k l m a b) hs h
    · cases h
  · cases h
def J56 (fuel:Nat) (i:Nat):Option Ev.Blk:=Ev.look i [(100000,B56_0 fuel),(100002,B56_2 fuel),(100004,B56_4 fuel)]
def Fg_ref10_asked (fuel:Nat) (p:YF102) (M:YF103) (N:YF104) (d e:Int) (f:Bool) (g h i:Int) (j:Bool) (k:Int) (c:(List (Int×Int×LI))) (K:(List (Int×Int×Int×Bool×Int×Int×(Int×Int×LI)))) (I:Bool) (J:Int) (k0:(Int)→OA):OA:=(p d e f g h i j k (fun L=>bif !L then k0 (2) else (L_ref10_asked_0 fuel (c,K,I,J,c,(↑c.length:Int),0,d,e,f,g,h,i,j,k) (fun (q,a,r,s,t,u,v,w,x,y,l,m)=>(L_ref10_asked_2 fuel (q,a,r,s,a,(↑a.length:Int),0,t,u,v,w,x,y,l,m) (fun (z,b,A,B,C,D,E,F,G,H,n,o)=>bif !A then k0 (30) else bif decide ((↑z.length:Int) > 60) then k0 (2) else bif decide ((↑b.length:Int) > 300) then k0 (2) else (L_ref10_asked_4 fuel (B,b,(↑b.length:Int),0,C,D,E,F,G,H,n,o) (fun ret4_0=>k0 ret4_0) (fun ()=>k0 (0)))))))))
abbrev YF56:Type:=Int→Int→Bool→Int→Int→Int→Bool→Int→((List (Int×Int×LI)))→((List (Int×Int×Int×Bool×Int×Int×(Int×Int×LI))))→Bool→Int→(Int→Option Ans)→Option Ans
def F_ref10_asked (fuel:Nat):YF56:=Fg_ref10_asked fuel (F_ref10_Valid fuel) (F_ref10_IsShape fuel) (F_ref10_isItem fuel)
theorem F56_eqg (fuel:Nat) (a:YF102) (b:YF103) (d:YF104) (g h:Int) (i:Bool) (j l m:Int) (n:Bool) (o:Int) (p:(List (Int×Int×LI))) (q:(List (Int×Int×Int×Bool×Int×Int×(Int×Int×LI)))) (e:Bool) (f:Int) (k:Ev.Cont):evalFn tab (Gg56 a b d) (J56 fuel) kp56 fuel Tryz.f56 [.agg [i6 g,i6 h,.bool i,i6 j,i6 l,i6 m,.bool n,i6 o],.c (.sl (.pair (.int .i64) (.pair (.int .i64) (.sl (.int .u8)))) p),.c (.sl (.pair (.int .i64) (.pair (.int .i64) (.pair (.int .i64) (.pair .bool (.pair (.int .i64) (.pair (.int .i64) (.pair (.int .i64) (.pair (.int .i64) (.sl (.int .u8)))))))))) q),.c (.bool e),.c (i6 f)] [] k=Fg_ref10_asked fuel a b d g h i j l m n o p q e f (fun r=>match r with | s=>k (.c (i6 s),[])):=by
  kernel_rfl
theorem hG56 (fuel:Nat):GOK Tryz.prog (G56 fuel):=
  gc (ok102 fuel) Tryz.func102 (by kernel_rfl) rfl <|
  gc (ok103 fuel) Tryz.func103 (by kernel_rfl) rfl <|
  gc (ok104 fuel) Tryz.func104 (by kernel_rfl) rfl <|
  gok_nil
theorem B56_0_blk (fuel:Nat):BlkOK Tryz.prog Tryz.f56.ntmps (.block 0 (.loop (bodyOf 0 Tryz.f56))) (B56_0 fuel):=bo0 (hG56 fuel) (by kernel_rfl) (by kernel_rfl) (B56_0_ok fuel)
theorem B56_2_blk (fuel:Nat):BlkOK Tryz.prog Tryz.f56.ntmps (.block 2 (.loop (bodyOf 2 Tryz.f56))) (B56_2 fuel):=bo0 (hG56 fuel) (by kernel_rfl) (by kernel_rfl) (B56_2_ok fuel)
theorem B56_4_blk (fuel:Nat):BlkOK Tryz.prog Tryz.f56.ntmps (.block 4 (.loop (bodyOf 4 Tryz.f56))) (B56_4 fuel):=bo0 (hG56 fuel) (by kernel_rfl) (by kernel_rfl) (B56_4_ok fuel)
theorem fok56 (fuel:Nat):FnOK Tryz.prog 56 (evalFn tab (G56 fuel) (J56 fuel) kp56 fuel Tryz.f56):=
  fn_ok tab_ok (hG56 fuel) mixed Tryz.func56 (c:=(Tryz.f56.body).getD .skip) rfl (fun q hq=>by
    rw [(by kernel_rfl:obl (J56 fuel) ((Tryz.f56.body).getD .skip)= [(.block 0 (.loop (bodyOf 0 Tryz.f56)),B56_0 fuel),(.block 2 (.loop (bodyOf 2 Tryz.f56)),B56_2 fuel),(.block 4 (.loop (bodyOf 4 Tryz.f56)),B56_4 fuel)])] at hq
    simp only [List.mem_cons,List.not_mem_nil,or_false] at hq
    rcases hq with rfl | rfl | rfl
    · exact B56_0_blk fuel
    · exact B56_2_blk fuel
    · exact B56_4_blk fuel)
def spg56 (F:YF56):Ev.Spec:=fun args objs k=>match args,objs with | [.agg [i6 d,i6 e,.bool f,i6 g,i6 h,i6 i,.bool j,i6 l],.c (.sl (.pair (.int .i64) (.pair (.int .i64) (.sl (.int .u8)))) m),.c (.sl (.pair (.int .i64) (.pair (.int .i64) (.pair (.int .i64) (.pair .bool (.pair (.int .i64) (.pair (.int .i64) (.pair (.int .i64) (.pair (.int .i64) (.sl (.int .u8)))))))))) n),.c (.bool a),.c (i6 b)],[]=>F d e f g h i j l m n a b (fun r=>match r with | o=>k (.c (i6 o),[])) | _,_=>none
theorem ok56 (fuel:Nat):FnOK Tryz.prog 56 (spg56 (F_ref10_asked fuel)):=by
  intro args objs kk r h
  unfold spg56 at h
  split at h
  · skip
    exact fok56 fuel _ _ kk r ((F56_eqg fuel (F_ref10_Valid fuel) (F_ref10_IsShape fuel) (F_ref10_isItem fuel) _ _ _ _ _ _ _ _ _ _ _ _ kk).trans h)
  · cases h
def kp105 (i:Nat):Option (List Nat):=Ev.look i []
def Gg105 (f:Nat):Option Ev.Spec:=Ev.look f []
def G105 (fuel:Nat):Nat→Option Ev.Spec:=Gg105
def F_ref10_Strip (fuel:Nat) (a c:Int) (d:Bool) (e f g:Int) (h:Bool) (i b:Int) (k0:(Int)→Option Ans):Option Ans:=bif decide (a=0) then none else bif decide (i64.wrap (i64.wrap (b.tdiv a)*a) > b) then k0 (i64.wrap (i64.wrap (b.tdiv a) - 1)) else k0 (i64.wrap (b.tdiv a))
abbrev YF105:Type:=Int→Int→Bool→Int→Int→Int→Bool→Int→Int→(Int→Option Ans)→Option Ans
theorem F105_eq (fuel:Nat) (a b:Int) (d:Bool) (e f g:Int) (h:Bool) (i j:Int) (k:Ev.Cont):evalFn tab (G105 fuel) J0 kp105 fuel Tryz.f105 [.agg [i6 a,i6 b,.bool d,i6 e,i6 f,i6 g,.bool h,i6 i],.c (i6 j)] [] k=F_ref10_Strip fuel a b d e f g h i j (fun r=>match r with | l=>k (.c (i6 l),[])):=by
  kernel_rfl
theorem hG105 (fuel:Nat):GOK Tryz.prog (G105 fuel):=
  gok_nil
def spg105 (F:YF105):Ev.Spec:=fun args objs k=>match args,objs with | [.agg [i6 a,i6 b,.bool d,i6 e,i6 f,i6 g,.bool h,i6 i],.c (i6 j)],[]=>F a b d e f g h i j (fun r=>match r with | l=>k (.c (i6 l),[])) | _,_=>none
theorem ok105 (fuel:Nat):FnOK Tryz.prog 105 (spg105 (F_ref10_Strip fuel)):=by
  intro args objs kk r h
  unfold spg105 at h
  split at h
  · skip
    exact fo0 (hG105 fuel) Tryz.func105 rfl (by kernel_rfl) _ _ kk r ((F105_eq fuel _ _ _ _ _ _ _ _ _ kk).trans h)
  · cases h
def kp57 (i:Nat):Option (List Nat):=Ev.look i [(200001,[3,4,5])]
def Gg57 (a:YF105) (f:Nat):Option Ev.Spec:=Ev.look f [(105,spg105 a)]
def G57 (fuel:Nat):Nat→Option Ev.Spec:=Gg57 (F_ref10_Strip fuel)
def Fg_ref10_behind (fuel:Nat) (a:YF105) (b c:Int) (d:Bool) (e f g:Int) (h:Bool) (i C:Int) (o l:Int) (p:Bool) (q r:Int) (s t:Int) (u:LI) (v m n:Int) (w:Bool) (x y:Int) (z A:Int) (B:LI) (k0:(Bool)→OA):OA:=(a b c d e f g h i l (fun j=>(a b c d e f g h i n (fun k=>bif decide (j > k) then k0 true else bif j==k then k0 (decide (o > m)) else k0 false))))
abbrev YF57:Type:=Int→Int→Bool→Int→Int→Int→Bool→Int→Int→Int→Int→Bool→Int→Int→Int→Int→LI→Int→Int→Int→Bool→Int→Int→Int→Int→LI→(Bool→Option Ans)→Option Ans
def F_ref10_behind (fuel:Nat):YF57:=Fg_ref10_behind fuel (F_ref10_Strip fuel)
theorem F57_eqg (fuel:Nat) (a:YF105) (u v:Int) (w:Bool) (x y z:Int) (A:Bool) (B C:Int) (D b:Int) (d:Bool) (e f:Int) (g h:Int) (i:LI) (j l m:Int) (n:Bool) (o p:Int) (q s:Int) (t:LI) (k:Ev.Cont):evalFn tab (Gg57 a) J0 kp57 fuel Tryz.f57 [.agg [i6 u,i6 v,.bool w,i6 x,i6 y,i6 z,.bool A,i6 B],.agg [i6 C,i6 D,i6 b,.bool d,i6 e,i6 f,i6 g,i6 h,.sl (.int .u8) i],.agg [i6 j,i6 l,i6 m,.bool n,i6 o,i6 p,i6 q,i6 s,.sl (.int .u8) t]] [] k=Fg_ref10_behind fuel a u v w x y z A B C D b d e f g h i j l m n o p q s t (fun r=>match r with | E=>k (.c (.bool E),[])):=by
  kernel_rfl
theorem hG57 (fuel:Nat):GOK Tryz.prog (G57 fuel):=
  gc (ok105 fuel) Tryz.func105 (by kernel_rfl) rfl <|
  gok_nil
def spg57 (F:YF57):Ev.Spec:=fun args objs k=>match args,objs with | [.agg [i6 t,i6 u,.bool v,i6 w,i6 x,i6 y,.bool z,i6 A],.agg [i6 B,i6 C,i6 a,.bool b,i6 d,i6 e,i6 f,i6 g,.sl (.int .u8) h],.agg [i6 i,i6 j,i6 l,.bool m,i6 n,i6 o,i6 p,i6 q,.sl (.int .u8) s]],[]=>F t u v w x y z A B C a b d e f g h i j l m n o p q s (fun r=>match r with | D=>k (.c (.bool D),[])) | _,_=>none
theorem ok57 (fuel:Nat):FnOK Tryz.prog 57 (spg57 (F_ref10_behind fuel)):=by
  intro args objs kk r h
  unfold spg57 at h
  split at h
  · skip
    exact fo0 (hG57 fuel) Tryz.func57 rfl (by kernel_rfl) _ _ kk r ((F57_eqg fuel (F_ref10_Strip fuel) _ _ _ _ _ _ _ _ _ _ _ _ _ _ _ _ _ _ _ _ _ _ _ _ _ _ kk).trans h)
  · cases h
def kp21 (i:Nat):Option (List Nat):=Ev.look i [(6,[2,7,17,18,19]),(9,[2,7,9,10,17,18,19]),(100000,[7]),(100002,[2,7,9,10,17,18,19]),(200009,[2,7,9]),(200011,[9]),(400000,[4,5]),(400002,[4,5])]
def Gg21 (a:YF56) (b:YF57) (f:Nat):Option Ev.Spec:=Ev.look f [(56,spg56 a),(57,spg57 b)]
def G21 (fuel:Nat):Nat→Option Ev.Spec:=Gg21 (F_ref10_asked fuel) (F_ref10_behind fuel)
abbrev V_ref10_Order_2:Type:=Int×(List (Int×(Int×(Int×(Bool×(Int×(Int×(Int×(Int×LI)))))))))×Int×Int×Int×Int×Bool×Int×Int×Int×Bool×Int×(List (Int×(Int×(Int×(Bool×(Int×(Int×(Int×(Int×LI)))))))))×Int×Int×Int×Bool×Int×Int×Int×Int×LI
abbrev W_ref10_Order_2:Type:=(Int×(List (Int×(Int×(Int×(Bool×(Int×(Int×(Int×(Int×LI)))))))))×Int×Int×Int×Int×Bool×Int×Int×Int×Bool×Int×(List (Int×(Int×(Int×(Bool×(Int×(Int×(Int×(Int×LI)))))))))×Int×Int×Int×Bool×Int×Int×Int×Int×LI→OA)
def Sg_ref10_Order_2 (fuel:Nat) (A:YF56) (y:YF57) (a:Int) (v:(List (Int×(Int×(Int×(Bool×(Int×(Int×(Int×(Int×LI)))))))))) (w x:Int) (p q:Int) (r:Bool) (s t u:Int) (e:Bool) (f:Int) (d:(List (Int×(Int×(Int×(Bool×(Int×(Int×(Int×(Int×LI)))))))))) (g h i:Int) (j:Bool) (k l:Int) (m n:Int) (o:LI) (c:V_ref10_Order_2→OA) (B:W_ref10_Order_2):OA:=match B with | b=>bif decide (a > 0) then bif decide (0≤i64.wrap (a - 1)∧i64.wrap (a - 1) < (↑d.length:Int)) then (y p q r s t u e f ((d.getD (i64.wrap (a - 1)).toNat (0,0,0,false,0,0,0,0,[])).fst) ((d.getD (i64.wrap (a - 1)).toNat (0,0,0,false,0,0,0,0,[])).snd.fst) ((d.getD (i64.wrap (a - 1)).toNat (0,0,0,false,0,0,0,0,[])).snd.snd.fst) ((d.getD (i64.wrap (a - 1)).toNat (0,0,0,false,0,0,0,0,[])).snd.snd.snd.fst) ((d.getD (i64.wrap (a - 1)).toNat (0,0,0,false,0,0,0,0,[])).snd.snd.snd.snd.fst) ((d.getD (i64.wrap (a - 1)).toNat (0,0,0,false,0,0,0,0,[])).snd.snd.snd.snd.snd.fst) ((d.getD (i64.wrap (a - 1)).toNat (0,0,0,false,0,0,0,0,[])).snd.snd.snd.snd.snd.snd.fst) ((d.getD (i64.wrap (a - 1)).toNat (0,0,0,false,0,0,0,0,[])).snd.snd.snd.snd.snd.snd.snd.fst) ((d.getD (i64.wrap (a - 1)).toNat (0,0,0,false,0,0,0,0,[])).snd.snd.snd.snd.snd.snd.snd.snd) g h i j k l m n o (fun z=>bif z then c (i64.wrap (a - 1),v,w,x,p,q,r,s,t,u,e,f,d,g,h,i,j,k,l,m,n,o) else b (a,v,w,x,p,q,r,s,t,u,e,f,d,g,h,i,j,k,l,m,n,o))) else none else b (a,v,w,x,p,q,r,s,t,u,e,f,d,g,h,i,j,k,l,m,n,o)
def S_ref10_Order_2 (fuel:Nat) (v:Int×(List (Int×(Int×(Int×(Bool×(Int×(Int×(Int×(Int×(List Int))))))))))×Int×Int×Int×Int×Bool×Int×Int×Int×Bool×Int×(List (Int×(Int×(Int×(Bool×(Int×(Int×(Int×(Int×(List Int))))))))))×Int×Int×Int×Bool×Int×Int×Int×Int×(List Int)) (c:(Int×(List (Int×(Int×(Int×(Bool×(Int×(Int×(Int×(Int×(List Int))))))))))×Int×Int×Int×Int×Bool×Int×Int×Int×Bool×Int×(List (Int×(Int×(Int×(Bool×(Int×(Int×(Int×(Int×(List Int))))))))))×Int×Int×Int×Bool×Int×Int×Int×Int×(List Int))→Option Ans) (B:(Int×(List (Int×(Int×(Int×(Bool×(Int×(Int×(Int×(Int×(List Int))))))))))×Int×Int×Int×Int×Bool×Int×Int×Int×Bool×Int×(List (Int×(Int×(Int×(Bool×(Int×(Int×(Int×(Int×(List Int))))))))))×Int×Int×Int×Bool×Int×Int×Int×Int×(List Int)→Option Ans)):Option Ans:=match v with | (n,o,p,q,r,s,t,u,w,x,a,b,d,e,f,g,h,i,j,k,l,m)=>Sg_ref10_Order_2 fuel (F_ref10_asked fuel) (F_ref10_behind fuel) n o p q r s t u w x a b d e f g h i j k l m c B
def L_ref10_Order_2 (fuel:Nat) (v:V_ref10_Order_2) (b:W_ref10_Order_2):Option Ans:=iter (S_ref10_Order_2 fuel) fuel v b
def T21_2 (v:V_ref10_Order_2):Ev.St:=match v with | (n,o,p,q,r,s,t,u,w,x,a,b,d,e,f,g,h,i,j,k,l,m)=>⟨[(2,.c (.ptr 0 0)),(7,.c (.own 1)),(9,.c (.ptr 2 0)),(10,.c (i6 n)),(17,.c (.sl (.pair (.int .i64) (.pair (.int .i64) (.pair (.int .i64) (.pair .bool (.pair (.int .i64) (.pair (.int .i64) (.pair (.int .i64) (.pair (.int .i64) (.sl (.int .u8)))))))))) o)),(18,.c (i6 p)),(19,.c (i6 q))],[(0,.cells 51 [i6 r,i6 s,.bool t,i6 u,i6 w,i6 x,.bool a,i6 b]),(1,.vec 85 (.pair (.int .i64) (.pair (.int .i64) (.pair (.int .i64) (.pair .bool (.pair (.int .i64) (.pair (.int .i64) (.pair (.int .i64) (.pair (.int .i64) (.sl (.int .u8)))))))))) d true),(2,.cells 85 [i6 e,i6 f,i6 g,.bool h,i6 i,i6 j,i6 k,i6 l,.sl (.int .u8) m])],3,0⟩
def E21_2 (K:KT):W_ref10_Order_2:=(fun v=>match v with | (n,o,p,q,r,s,t,u,w,x,a,b,d,e,f,g,h,i,j,k,l,m)=>K .normal ⟨[(2,.c (.ptr 0 0)),(7,.c (.own 1)),(9,.c (.ptr 2 0)),(10,.c (i6 n)),(17,.c (.sl (.pair (.int .i64) (.pair (.int .i64) (.pair (.int .i64) (.pair .bool (.pair (.int .i64) (.pair (.int .i64) (.pair (.int .i64) (.pair (.int .i64) (.sl (.int .u8)))))))))) o)),(18,.c (i6 p)),(19,.c (i6 q))],[(0,.cells 51 [i6 r,i6 s,.bool t,i6 u,i6 w,i6 x,.bool a,i6 b]),(1,.vec 85 (.pair (.int .i64) (.pair (.int .i64) (.pair (.int .i64) (.pair .bool (.pair (.int .i64) (.pair (.int .i64) (.pair (.int .i64) (.pair (.int .i64) (.sl (.int .u8)))))))))) d true),(2,.cells 85 [i6 e,i6 f,i6 g,.bool h,i6 i,i6 j,i6 k,i6 l,.sl (.int .u8) m])],3,0⟩)
theorem S21_2_okg (fuel:Nat) (a:YF56) (b:YF57) (R:Ev.St→OA) (K:KT) (o:Int) (p:(List (Int×(Int×(Int×(Bool×(Int×(Int×(Int×(Int×LI)))))))))) (q r:Int) (s t:Int) (u:Bool) (w x y:Int) (c:Bool) (d:Int) (e:(List (Int×(Int×(Int×(Bool×(Int×(Int×(Int×(Int×LI)))))))))) (f g h:Int) (i:Bool) (j k:Int) (l m:Int) (n:LI):evalCode tab (Gg21 a b) J0 kp21 fuel (bodyOf 2 Tryz.f21) (T21_2 (o,p,q,r,s,t,u,w,x,y,c,d,e,f,g,h,i,j,k,l,m,n)) (lc kp21 9 2 R K)=Sg_ref10_Order_2 fuel a b o p q r s t u w x y c d e f g h i j k l m n (fun v=>R (T21_2 v)) (E21_2 K):=by
  kernel_rfl
def B21_2 (fuel:Nat):Ev.Blk:=fun st K=>match canonO (kp21 9) st with | some s=>(match s with | ⟨[(y,.c (.ptr z A)),(B,.c (.own C)),(D,.c (.ptr E F)),(G,.c (i6 H)),(I,.c (.sl (.pair (.int .i64) (.pair (.int .i64) (.pair (.int .i64) (.pair .bool (.pair (.int .i64) (.pair (.int .i64) (.pair (.int .i64) (.pair (.int .i64) (.sl (.int .u8)))))))))) J)),(a,.c (i6 L)),(b,.c (i6 M))],[(d,.cells e [i6 N,i6 O,.bool P,i6 Q,i6 R,i6 S,.bool f,i6 g]),(h,.vec i (.pair (.int .i64) (.pair (.int .i64) (.pair (.int .i64) (.pair .bool (.pair (.int .i64) (.pair (.int .i64) (.pair (.int .i64) (.pair (.int .i64) (.sl (.int .u8)))))))))) j true),(k,.cells l [i6 m,i6 n,i6 o,.bool p,i6 q,i6 r,i6 t,i6 u,.sl (.int .u8) v])],w,x⟩=>bif qb [y,z,A,B,C,D,E,F,G,I,a,b,d,e,h,i,k,l,w,x] [2,0,0,7,1,9,2,0,10,17,18,19,0,51,1,85,2,85,3,0] then iter (S_ref10_Order_2 fuel) fuel (H,J,L,M,N,O,P,Q,R,S,f,g,j,m,n,o,p,q,r,t,u,v) (E21_2 K) else none | _=>none) | none=>none
theorem B21_2_ok (fuel:Nat) (st:Ev.St) (K:KT) (r:Ans) (h:B21_2 fuel st K=some r):evalCode tab (G21 fuel) J0 kp21 fuel (.block 2 (.loop (bodyOf 2 Tryz.f21))) st K=some r:=by
  unfold B21_2 at h
  split at h
  · rename_i s hs
    split at h
    · skip
      obtain ⟨hb,h⟩:=cond_some' h
      cases qb_eq hb
      exact blk_loop (S:=T21_2) (ks:=E21_2) (step:=S_ref10_Order_2 fuel) (v:=(_,_,_,_,_,_,_,_,_,_,_,_,_,_,_,_,_,_,_,_,_,_)) (by kernel_rfl) (by kernel_rfl) (fun R K v=>by obtain ⟨n,o,p,q,t,u,w,x,y,z,a,b,c,d,e,f,g,i,j,k,l,m⟩:=v; exact S21_2_okg fuel (F_ref10_asked fuel) (F_ref10_behind fuel) R K n o p q t u w x y z a b c d e f g i j k l m) hs h
    · cases h
  · cases h
abbrev V_ref10_Order_0:Type:=(List (Int×(Int×(Int×(Bool×(Int×(Int×(Int×(Int×LI)))))))))×Int×Int×Int×Int×Bool×Int×Int×Int×Bool×Int×(List (Int×(Int×(Int×(Bool×(Int×(Int×(Int×(Int×LI)))))))))
abbrev W_ref10_Order_0:Type:=((List (Int×(Int×(Int×(Bool×(Int×(Int×(Int×(Int×LI)))))))))→OA)
def Sg_ref10_Order_0 (fuel:Nat) (L:YF56) (M:YF57) (f:(List (Int×(Int×(Int×(Bool×(Int×(Int×(Int×(Int×LI)))))))))) (C e:Int) (E F:Int) (G:Bool) (H I J:Int) (K:Bool) (D:Int) (A:(List (Int×(Int×(Int×(Bool×(Int×(Int×(Int×(Int×LI)))))))))) (c:V_ref10_Order_0→OA) (B:W_ref10_Order_0):OA:=match B with | b=>bif decide (e < C) then bif decide (0≤e∧e < (↑f.length:Int)) then (L_ref10_Order_2 fuel ((↑A.length:Int),f,C,e,E,F,G,H,I,J,K,D,A,(f.getD e.toNat (0,0,0,false,0,0,0,0,[])).fst,(f.getD e.toNat (0,0,0,false,0,0,0,0,[])).snd.fst,(f.getD e.toNat (0,0,0,false,0,0,0,0,[])).snd.snd.fst,(f.getD e.toNat (0,0,0,false,0,0,0,0,[])).snd.snd.snd.fst,(f.getD e.toNat (0,0,0,false,0,0,0,0,[])).snd.snd.snd.snd.fst,(f.getD e.toNat (0,0,0,false,0,0,0,0,[])).snd.snd.snd.snd.snd.fst,(f.getD e.toNat (0,0,0,false,0,0,0,0,[])).snd.snd.snd.snd.snd.snd.fst,(f.getD e.toNat (0,0,0,false,0,0,0,0,[])).snd.snd.snd.snd.snd.snd.snd.fst,(f.getD e.toNat (0,0,0,false,0,0,0,0,[])).snd.snd.snd.snd.snd.snd.snd.snd) (fun (d,r,s,t,u,v,w,x,y,z,p,q,a,g,h,i,j,k,l,m,n,o)=>bif decide (0≤Ev.loOf Option.none∧Ev.loOf Option.none≤Ev.hiOf (some d) (↑a.length:Int)∧Ev.hiOf (some d) (↑a.length:Int)≤(↑a.length:Int)) then bif decide (0≤Ev.loOf (some d)∧Ev.loOf (some d)≤Ev.hiOf Option.none (↑a.length:Int)∧Ev.hiOf Option.none (↑a.length:Int)≤(↑a.length:Int)) then both (both (bif decide (((0:Nat)+(List.take (Ev.hiOf (some d) (↑a.length:Int) - Ev.loOf Option.none).toNat (List.drop (Ev.loOf Option.none).toNat a)).length)*(88:Nat)≤(140737488355328:Nat)∧(0:Nat)+(List.take (Ev.hiOf (some d) (↑a.length:Int) - Ev.loOf Option.none).toNat (List.drop (Ev.loOf Option.none).toNat a)).length≤(140737488355328:Nat)) then bif decide ((([]++List.take (Ev.hiOf (some d) (↑a.length:Int) - Ev.loOf Option.none).toNat (List.drop (Ev.loOf Option.none).toNat a)).length+(1:Nat))*(88:Nat)≤(140737488355328:Nat)∧([]++List.take (Ev.hiOf (some d) (↑a.length:Int) - Ev.loOf Option.none).toNat (List.drop (Ev.loOf Option.none).toNat a)).length+(1:Nat)≤(140737488355328:Nat)) then bif decide ((([]++List.take (Ev.hiOf (some d) (↑a.length:Int) - Ev.loOf Option.none).toNat (List.drop (Ev.loOf Option.none).toNat a)++ [(g,h,i,j,k,l,m,n,o)]).length+(List.take (Ev.hiOf Option.none (↑a.length:Int) - Ev.loOf (some d)).toNat (List.drop (Ev.loOf (some d)).toNat a)).length)*(88:Nat)≤(140737488355328:Nat)∧([]++List.take (Ev.hiOf (some d) (↑a.length:Int) - Ev.loOf Option.none).toNat (List.drop (Ev.loOf Option.none).toNat a)++ [(g,h,i,j,k,l,m,n,o)]).length+(List.take (Ev.hiOf Option.none (↑a.length:Int) - Ev.loOf (some d)).toNat (List.drop (Ev.loOf (some d)).toNat a)).length≤(140737488355328:Nat)) then c (r,s,i64.wrap (t+(1:Int)),u,v,w,x,y,z,p,q,[]++List.take (Ev.hiOf (some d) (↑a.length:Int) - Ev.loOf Option.none).toNat (List.drop (Ev.loOf Option.none).toNat a)++ [(g,h,i,j,k,l,m,n,o)]++List.take (Ev.hiOf Option.none (↑a.length:Int) - Ev.loOf (some d)).toNat (List.drop (Ev.loOf (some d)).toNat a)) else none else none else none) (bif decide (((0:Nat)+(List.take (Ev.hiOf (some d) (↑a.length:Int) - Ev.loOf Option.none).toNat (List.drop (Ev.loOf Option.none).toNat a)).length)*(88:Nat)≤(140737488355328:Nat)∧(0:Nat)+(List.take (Ev.hiOf (some d) (↑a.length:Int) - Ev.loOf Option.none).toNat (List.drop (Ev.loOf Option.none).toNat a)).length≤(140737488355328:Nat)) then bif decide ((([]++List.take (Ev.hiOf (some d) (↑a.length:Int) - Ev.loOf Option.none).toNat (List.drop (Ev.loOf Option.none).toNat a)).length+(1:Nat))*(88:Nat)≤(140737488355328:Nat)∧([]++List.take (Ev.hiOf (some d) (↑a.length:Int) - Ev.loOf Option.none).toNat (List.drop (Ev.loOf Option.none).toNat a)).length+(1:Nat)≤(140737488355328:Nat)) then bif decide ((([]++List.take (Ev.hiOf (some d) (↑a.length:Int) - Ev.loOf Option.none).toNat (List.drop (Ev.loOf Option.none).toNat a)++ [(g,h,i,j,k,l,m,n,o)]).length+(List.take (Ev.hiOf Option.none (↑a.length:Int) - Ev.loOf (some d)).toNat (List.drop (Ev.loOf (some d)).toNat a)).length)*(88:Nat)≤(140737488355328:Nat)∧([]++List.take (Ev.hiOf (some d) (↑a.length:Int) - Ev.loOf Option.none).toNat (List.drop (Ev.loOf Option.none).toNat a)++ [(g,h,i,j,k,l,m,n,o)]).length+(List.take (Ev.hiOf Option.none (↑a.length:Int) - Ev.loOf (some d)).toNat (List.drop (Ev.loOf (some d)).toNat a)).length≤(140737488355328:Nat)) then c (r,s,i64.wrap (t+(1:Int)),u,v,w,x,y,z,p,q,[]++List.take (Ev.hiOf (some d) (↑a.length:Int) - Ev.loOf Option.none).toNat (List.drop (Ev.loOf Option.none).toNat a)++ [(g,h,i,j,k,l,m,n,o)]++List.take (Ev.hiOf Option.none (↑a.length:Int) - Ev.loOf (some d)).toNat (List.drop (Ev.loOf (some d)).toNat a)) else none else none else none)) (bif decide (((0:Nat)+(List.take (Ev.hiOf (some d) (↑a.length:Int) - Ev.loOf Option.none).toNat (List.drop (Ev.loOf Option.none).toNat a)).length)*(88:Nat)≤(140737488355328:Nat)∧(0:Nat)+(List.take (Ev.hiOf (some d) (↑a.length:Int) - Ev.loOf Option.none).toNat (List.drop (Ev.loOf Option.none).toNat a)).length≤(140737488355328:Nat)) then bif decide ((([]++List.take (Ev.hiOf (some d) (↑a.length:Int) - Ev.loOf Option.none).toNat (List.drop (Ev.loOf Option.none).toNat a)).length+(1:Nat))*(88:Nat)≤(140737488355328:Nat)∧([]++List.take (Ev.hiOf (some d) (↑a.length:Int) - Ev.loOf Option.none).toNat (List.drop (Ev.loOf Option.none).toNat a)).length+(1:Nat)≤(140737488355328:Nat)) then bif decide ((([]++List.take (Ev.hiOf (some d) (↑a.length:Int) - Ev.loOf Option.none).toNat (List.drop (Ev.loOf Option.none).toNat a)++ [(g,h,i,j,k,l,m,n,o)]).length+(List.take (Ev.hiOf Option.none (↑a.length:Int) - Ev.loOf (some d)).toNat (List.drop (Ev.loOf (some d)).toNat a)).length)*(88:Nat)≤(140737488355328:Nat)∧([]++List.take (Ev.hiOf (some d) (↑a.length:Int) - Ev.loOf Option.none).toNat (List.drop (Ev.loOf Option.none).toNat a)++ [(g,h,i,j,k,l,m,n,o)]).length+(List.take (Ev.hiOf Option.none (↑a.length:Int) - Ev.loOf (some d)).toNat (List.drop (Ev.loOf (some d)).toNat a)).length≤(140737488355328:Nat)) then c (r,s,i64.wrap (t+(1:Int)),u,v,w,x,y,z,p,q,[]++List.take (Ev.hiOf (some d) (↑a.length:Int) - Ev.loOf Option.none).toNat (List.drop (Ev.loOf Option.none).toNat a)++ [(g,h,i,j,k,l,m,n,o)]++List.take (Ev.hiOf Option.none (↑a.length:Int) - Ev.loOf (some d)).toNat (List.drop (Ev.loOf (some d)).toNat a)) else none else none else none) else none else none)) else none else b A
def S_ref10_Order_0 (fuel:Nat) (v:(List (Int×(Int×(Int×(Bool×(Int×(Int×(Int×(Int×(List Int))))))))))×Int×Int×Int×Int×Bool×Int×Int×Int×Bool×Int×(List (Int×(Int×(Int×(Bool×(Int×(Int×(Int×(Int×(List Int))))))))))) (c:((List (Int×(Int×(Int×(Bool×(Int×(Int×(Int×(Int×(List Int))))))))))×Int×Int×Int×Int×Bool×Int×Int×Int×Bool×Int×(List (Int×(Int×(Int×(Bool×(Int×(Int×(Int×(Int×(List Int)))))))))))→Option Ans) (B:((List (Int×(Int×(Int×(Bool×(Int×(Int×(Int×(Int×(List Int))))))))))→Option Ans)):Option Ans:=match v with | (d,e,f,g,h,i,j,k,l,m,a,b)=>Sg_ref10_Order_0 fuel (F_ref10_asked fuel) (F_ref10_behind fuel) d e f g h i j k l m a b c B
def L_ref10_Order_0 (fuel:Nat) (v:V_ref10_Order_0) (b:W_ref10_Order_0):Option Ans:=iter (S_ref10_Order_0 fuel) fuel v b
def J21_0 (fuel:Nat) (i:Nat):Option Ev.Blk:=Ev.look i [(100002,B21_2 fuel)]
def T21_0 (v:V_ref10_Order_0):Ev.St:=match v with | (d,e,f,g,h,i,j,k,l,m,a,b)=>⟨[(2,.c (.ptr 0 0)),(7,.c (.own 1)),(17,.c (.sl (.pair (.int .i64) (.pair (.int .i64) (.pair (.int .i64) (.pair .bool (.pair (.int .i64) (.pair (.int .i64) (.pair (.int .i64) (.pair (.int .i64) (.sl (.int .u8)))))))))) d)),(18,.c (i6 e)),(19,.c (i6 f))],[(0,.cells 51 [i6 g,i6 h,.bool i,i6 j,i6 k,i6 l,.bool m,i6 a]),(1,.vec 85 (.pair (.int .i64) (.pair (.int .i64) (.pair (.int .i64) (.pair .bool (.pair (.int .i64) (.pair (.int .i64) (.pair (.int .i64) (.pair (.int .i64) (.sl (.int .u8)))))))))) b true)],2,0⟩
def E21_0 (K:KT):W_ref10_Order_0:=(fun v=>match v with | a=>K .normal ⟨[(7,.c (.own 0))],[(0,.vec 85 (.pair (.int .i64) (.pair (.int .i64) (.pair (.int .i64) (.pair .bool (.pair (.int .i64) (.pair (.int .i64) (.pair (.int .i64) (.pair (.int .i64) (.sl (.int .u8)))))))))) a true)],1,0⟩)
theorem S21_0_okg (fuel:Nat) (a:YF56) (b:YF57) (R:Ev.St→OA) (K:KT) (e:(List (Int×(Int×(Int×(Bool×(Int×(Int×(Int×(Int×LI)))))))))) (f g:Int) (h i:Int) (j:Bool) (k l m:Int) (n:Bool) (c:Int) (d:(List (Int×(Int×(Int×(Bool×(Int×(Int×(Int×(Int×LI)))))))))):evalCode tab (Gg21 a b) (J21_0 fuel) kp21 fuel (bodyOf 0 Tryz.f21) (T21_0 (e,f,g,h,i,j,k,l,m,n,c,d)) (lc kp21 6 0 R K)=Sg_ref10_Order_0 fuel a b e f g h i j k l m n c d (fun v=>R (T21_0 v)) (E21_0 K):=by
  kernel_rfl
def B21_0 (fuel:Nat):Ev.Blk:=fun st K=>match canonO (kp21 6) st with | some s=>(match s with | ⟨[(h,.c (.ptr i j)),(k,.c (.own l)),(m,.c (.sl (.pair (.int .i64) (.pair (.int .i64) (.pair (.int .i64) (.pair .bool (.pair (.int .i64) (.pair (.int .i64) (.pair (.int .i64) (.pair (.int .i64) (.sl (.int .u8)))))))))) n)),(o,.c (i6 p)),(q,.c (i6 r))],[(t,.cells u [i6 v,i6 w,.bool x,i6 y,i6 z,i6 A,.bool B,i6 a]),(b,.vec d (.pair (.int .i64) (.pair (.int .i64) (.pair (.int .i64) (.pair .bool (.pair (.int .i64) (.pair (.int .i64) (.pair (.int .i64) (.pair (.int .i64) (.sl (.int .u8)))))))))) e true)],f,g⟩=>bif qb [h,i,j,k,l,m,o,q,t,u,b,d,f,g] [2,0,0,7,1,17,18,19,0,51,1,85,2,0] then iter (S_ref10_Order_0 fuel) fuel (n,p,r,v,w,x,y,z,A,B,a,e) (E21_0 K) else none | _=>none) | none=>none
theorem B21_0_ok (fuel:Nat) (st:Ev.St) (K:KT) (r:Ans) (h:B21_0 fuel st K=some r):evalCode tab (G21 fuel) (J21_0 fuel) kp21 fuel (.block 0 (.loop (bodyOf 0 Tryz.f21))) st K=some r:=by
  unfold B21_0 at h
  split at h
  · rename_i s hs
    split at h
    · skip
      obtain ⟨hb,h⟩:=cond_some' h
      cases qb_eq hb
      exact blk_loop (S:=T21_0) (ks:=E21_0) (step:=S_ref10_Order_0 fuel) (v:=(_,_,_,_,_,_,_,_,_,_,_,_)) (by kernel_rfl) (by kernel_rfl) (fun R K v=>by obtain ⟨c,d,e,f,g,i,j,k,l,m,a,b⟩:=v; exact S21_0_okg fuel (F_ref10_asked fuel) (F_ref10_behind fuel) R K c d e f g i j k l m a b) hs h
    · cases h
  · cases h
def J21 (fuel:Nat) (i:Nat):Option Ev.Blk:=Ev.look i [(100002,B21_2 fuel),(100000,B21_0 fuel)]
def Fg_ref10_Order (fuel:Nat) (l:YF56) (m:YF57) (b c:Int) (d:Bool) (e f g:Int) (h:Bool) (i:Int) (a:(List (Int×Int×Int×Bool×Int×Int×(Int×Int×LI)))) (k0:(Int×(List (Int×(Int×(Int×(Bool×(Int×(Int×(Int×(Int×LI))))))))))→OA):OA:=(l b c d e f g h i ([]) a (true) (60) (fun j=>bif j != 0 then k0 (j,[]) else (L_ref10_Order_0 fuel (a,(↑a.length:Int),0,b,c,d,e,f,g,h,i,[]) (fun k=>k0 (0,k)))))
abbrev YF21:Type:=Int→Int→Bool→Int→Int→Int→Bool→Int→((List (Int×Int×Int×Bool×Int×Int×(Int×Int×LI))))→((Int×(List (Int×(Int×(Int×(Bool×(Int×(Int×(Int×(Int×LI))))))))))→Option Ans)→Option Ans
def F_ref10_Order (fuel:Nat):YF21:=Fg_ref10_Order fuel (F_ref10_asked fuel) (F_ref10_behind fuel)
theorem F21_eqg (fuel:Nat) (a:YF56) (b:YF57) (d e:Int) (f:Bool) (g h i:Int) (j:Bool) (l:Int) (m:(List (Int×Int×Int×Bool×Int×Int×(Int×Int×LI)))) (k:Ev.Cont):evalFn tab (Gg21 a b) (J21 fuel) kp21 fuel Tryz.f21 [.agg [i6 d,i6 e,.bool f,i6 g,i6 h,i6 i,.bool j,i6 l],.c (.sl (.pair (.int .i64) (.pair (.int .i64) (.pair (.int .i64) (.pair .bool (.pair (.int .i64) (.pair (.int .i64) (.pair (.int .i64) (.pair (.int .i64) (.sl (.int .u8)))))))))) m)] [] k=Fg_ref10_Order fuel a b d e f g h i j l m (fun r=>match r with | (n,o)=>k (.tup [(false,[.own 0]),(false,[i6 n])],[.vec 85 (.pair (.int .i64) (.pair (.int .i64) (.pair (.int .i64) (.pair .bool (.pair (.int .i64) (.pair (.int .i64) (.pair (.int .i64) (.pair (.int .i64) (.sl (.int .u8)))))))))) o true])):=by
  kernel_rfl
theorem hG21 (fuel:Nat):GOK Tryz.prog (G21 fuel):=
  gc (ok56 fuel) Tryz.func56 (by kernel_rfl) rfl <|
  gc (ok57 fuel) Tryz.func57 (by kernel_rfl) rfl <|
  gok_nil
theorem B21_2_blk (fuel:Nat):BlkOK Tryz.prog Tryz.f21.ntmps (.block 2 (.loop (bodyOf 2 Tryz.f21))) (B21_2 fuel):=bo0 (hG21 fuel) (by kernel_rfl) (by kernel_rfl) (B21_2_ok fuel)
theorem B21_0_blk (fuel:Nat):BlkOK Tryz.prog Tryz.f21.ntmps (.block 0 (.loop (bodyOf 0 Tryz.f21))) (B21_0 fuel):=
  blk_of (blk_of_code tab_ok (hG21 fuel) mixed (J:=J21_0 fuel) (kp:=kp21) (fuel:=fuel) (by kernel_rfl) (fun q hq=>by
    rw [(by kernel_rfl:obl (J21_0 fuel) (.block 0 (.loop (bodyOf 0 Tryz.f21)))= [(.block 2 (.loop (bodyOf 2 Tryz.f21)),B21_2 fuel)])] at hq
    simp only [List.mem_cons,List.not_mem_nil,or_false] at hq
    subst hq
    · exact B21_2_blk fuel)) (B21_0_ok fuel)
def spg21 (F:YF21):Ev.Spec:=fun args objs k=>match args,objs with | [.agg [i6 a,i6 b,.bool d,i6 e,i6 f,i6 g,.bool h,i6 i],.c (.sl (.pair (.int .i64) (.pair (.int .i64) (.pair (.int .i64) (.pair .bool (.pair (.int .i64) (.pair (.int .i64) (.pair (.int .i64) (.pair (.int .i64) (.sl (.int .u8)))))))))) j)],[]=>F a b d e f g h i j (fun r=>match r with | (l,m)=>k (.tup [(false,[.own 0]),(false,[i6 l])],[.vec 85 (.pair (.int .i64) (.pair (.int .i64) (.pair (.int .i64) (.pair .bool (.pair (.int .i64) (.pair (.int .i64) (.pair (.int .i64) (.pair (.int .i64) (.sl (.int .u8)))))))))) m true])) | _,_=>none
theorem ok21 (fuel:Nat):FnOK Tryz.prog 21 (spg21 (F_ref10_Order fuel)):=by
  intro args objs kk r h
  unfold spg21 at h
  split at h
  · skip
    exact fo1 (hG21 fuel) Tryz.func21 rfl (B21_0_blk fuel) (by kernel_rfl) _ _ kk r ((F21_eqg fuel (F_ref10_asked fuel) (F_ref10_behind fuel) _ _ _ _ _ _ _ _ _ kk).trans h)
  · cases h
def kp106 (i:Nat):Option (List Nat):=Ev.look i [(4,[2,3,29,30]),(100000,[]),(200006,[2,3]),(400000,[4])]
def Gg106 (f:Nat):Option Ev.Spec:=Ev.look f []
def G106 (fuel:Nat):Nat→Option Ev.Spec:=Gg106
abbrev V_ref06_SameBitmap_0:Type:=Int×Int×Int×Int×LI×Int×Int×LI
abbrev W_ref06_SameBitmap_0:Type:=(Bool→OA)×(Unit→OA)
def S_ref06_SameBitmap_0 (fuel:Nat) (v:Int×Int×Int×Int×(List Int)×Int×Int×(List Int)) (c:(Int×Int×Int×Int×(List Int)×Int×Int×(List Int))→Option Ans) (B:(Bool→Option Ans)×(Unit→Option Ans)):Option Ans:=match v,B with | (f,a,g,h,d,i,j,e),(ret,b)=>bif decide (a < f) then bif decide ((0:Int)≤a∧a < (↑d.length:Int)) then bif decide ((0:Int)≤a∧a < (↑e.length:Int)) then bif d.getD a.toNat (0:Int) != e.getD a.toNat (0:Int) then ret false else c (f,i64.wrap (a+(1:Int)),g,h,d,i,j,e) else none else none else b ()
def L_ref06_SameBitmap_0 (fuel:Nat) (v:V_ref06_SameBitmap_0) (ret:(Bool→Option Ans)) (b:(Unit→Option Ans)):Option Ans:=iter (S_ref06_SameBitmap_0 fuel) fuel v (ret,b)
def T106_0 (v:V_ref06_SameBitmap_0):Ev.St:=match v with | (a,b,d,e,f,g,h,i)=>⟨[(2,.c (.ptr 0 0)),(3,.c (.ptr 1 0)),(29,.c (i6 a)),(30,.c (i6 b))],[(0,.cells 46 [i6 d,i6 e,.sl (.int .u8) f]),(1,.cells 46 [i6 g,i6 h,.sl (.int .u8) i])],2,0⟩
def E106_0 (K:KT):W_ref06_SameBitmap_0:=((fun v=>match v with | a=>K .ret ⟨[(4,.c (.bool a))],[],0,0⟩),(fun v=>match v with | ()=>K .normal ⟨[],[],0,0⟩))
theorem S106_0_ok (fuel:Nat) (R:Ev.St→OA) (K:KT) (a b:Int) (c d:Int) (e:LI) (f g:Int) (h:LI):evalCode tab (G106 fuel) J0 kp106 fuel (bodyOf 0 Tryz.f106) (T106_0 (a,b,c,d,e,f,g,h)) (lc kp106 4 0 R K)=S_ref06_SameBitmap_0 fuel (a,b,c,d,e,f,g,h) (fun v=>R (T106_0 v)) (E106_0 K):=by
  kernel_rfl
def B106_0 (fuel:Nat):Ev.Blk:=fun st K=>match canonO (kp106 4) st with | some s=>(match s with | ⟨[(f,.c (.ptr g h)),(i,.c (.ptr j k)),(l,.c (i6 m)),(n,.c (i6 o))],[(p,.cells q [i6 r,i6 t,.sl (.int .u8) u]),(a,.cells b [i6 v,i6 w,.sl (.int .u8) x])],d,e⟩=>bif qb [f,g,h,i,j,k,l,n,p,q,a,b,d,e] [2,0,0,3,1,0,29,30,0,46,1,46,2,0] then iter (S_ref06_SameBitmap_0 fuel) fuel (m,o,r,t,u,v,w,x) (E106_0 K) else none | _=>none) | none=>none
theorem B106_0_ok (fuel:Nat) (st:Ev.St) (K:KT) (r:Ans) (h:B106_0 fuel st K=some r):evalCode tab (G106 fuel) J0 kp106 fuel (.block 0 (.loop (bodyOf 0 Tryz.f106))) st K=some r:=by
  unfold B106_0 at h
  split at h
  · rename_i s hs
    split at h
    · skip
      obtain ⟨hb,h⟩:=cond_some' h
      cases qb_eq hb
      exact blk_loop (S:=T106_0) (ks:=E106_0) (step:=S_ref06_SameBitmap_0 fuel) (v:=(_,_,_,_,_,_,_,_)) (by kernel_rfl) (by kernel_rfl) (fun R K v=>by obtain ⟨a,b,c,d,e,f,g,i⟩:=v; exact S106_0_ok fuel R K a b c d e f g i) hs h
    · cases h
  · cases h
def J106 (fuel:Nat) (i:Nat):Option Ev.Blk:=Ev.look i [(100000,B106_0 fuel)]
def F_ref06_SameBitmap (fuel:Nat) (b c:Int) (a:(List Int)) (d e:Int) (f:(List Int)) (k0:(Bool)→Option Ans):Option Ans:=bif b != d then k0 false else bif c != e then k0 false else bif (↑a.length:Int) != (↑f.length:Int) then k0 false else (L_ref06_SameBitmap_0 fuel ((↑a.length:Int),0,b,c,a,d,e,f) (fun ret0_0=>k0 ret0_0) (fun ()=>k0 true))
abbrev YF106:Type:=Int→Int→LI→Int→Int→LI→(Bool→Option Ans)→Option Ans
theorem F106_eq (fuel:Nat) (a b:Int) (d:LI) (e f:Int) (g:LI) (k:Ev.Cont):evalFn tab (G106 fuel) (J106 fuel) kp106 fuel Tryz.f106 [.agg [i6 a,i6 b,.sl (.int .u8) d],.agg [i6 e,i6 f,.sl (.int .u8) g]] [] k=F_ref06_SameBitmap fuel a b d e f g (fun r=>match r with | h=>k (.c (.bool h),[])):=by
  kernel_rfl
theorem hG106 (fuel:Nat):GOK Tryz.prog (G106 fuel):=
  gok_nil
theorem B106_0_blk (fuel:Nat):BlkOK Tryz.prog Tryz.f106.ntmps (.block 0 (.loop (bodyOf 0 Tryz.f106))) (B106_0 fuel):=bo0 (hG106 fuel) (by kernel_rfl) (by kernel_rfl) (B106_0_ok fuel)
def spg106 (F:YF106):Ev.Spec:=fun args objs k=>match args,objs with | [.agg [i6 a,i6 b,.sl (.int .u8) d],.agg [i6 e,i6 f,.sl (.int .u8) g]],[]=>F a b d e f g (fun r=>match r with | h=>k (.c (.bool h),[])) | _,_=>none
theorem ok106 (fuel:Nat):FnOK Tryz.prog 106 (spg106 (F_ref06_SameBitmap fuel)):=by
  intro args objs kk r h
  unfold spg106 at h
  split at h
  · skip
    exact fo1 (hG106 fuel) Tryz.func106 rfl (B106_0_blk fuel) (by kernel_rfl) _ _ kk r ((F106_eq fuel _ _ _ _ _ _ kk).trans h)
  · cases h
def kp58 (i:Nat):Option (List Nat):=Ev.look i []
def Gg58 (a:YF106) (f:Nat):Option Ev.Spec:=Ev.look f [(106,spg106 a)]
def G58 (fuel:Nat):Nat→Option Ev.Spec:=Gg58 (F_ref06_SameBitmap fuel)
def Fg_ref10_SameItem (fuel:Nat) (a:YF106) (j k l:Int) (m:Bool) (n o:Int) (p q:Int) (r:LI) (s b c:Int) (d:Bool) (e f:Int) (g h:Int) (i:LI) (k0:(Bool)→OA):OA:=bif j==s then bif k==b then bif l==c then bif m==d then bif n==e then bif o==f then (a p q r g h i (fun t=>k0 t)) else k0 false else k0 false else k0 false else k0 false else k0 false else k0 false
abbrev YF58:Type:=Int→Int→Int→Bool→Int→Int→Int→Int→LI→Int→Int→Int→Bool→Int→Int→Int→Int→LI→(Bool→Option Ans)→Option Ans
def F_ref10_SameItem (fuel:Nat):YF58:=Fg_ref10_SameItem fuel (F_ref06_SameBitmap fuel)
theorem F58_eqg (fuel:Nat) (a:YF106) (l m n:Int) (o:Bool) (p q:Int) (s t:Int) (u:LI) (v b d:Int) (e:Bool) (f g:Int) (h i:Int) (j:LI) (k:Ev.Cont):evalFn tab (Gg58 a) J0 kp58 fuel Tryz.f58 [.agg [i6 l,i6 m,i6 n,.bool o,i6 p,i6 q,i6 s,i6 t,.sl (.int .u8) u],.agg [i6 v,i6 b,i6 d,.bool e,i6 f,i6 g,i6 h,i6 i,.sl (.int .u8) j]] [] k=Fg_ref10_SameItem fuel a l m n o p q s t u v b d e f g h i j (fun r=>match r with | w=>k (.c (.bool w),[])):=by
  kernel_rfl
theorem hG58 (fuel:Nat):GOK Tryz.prog (G58 fuel):=
  gc (ok106 fuel) Tryz.func106 (by kernel_rfl) rfl <|
  gok_nil
def spg58 (F:YF58):Ev.Spec:=fun args objs k=>match args,objs with | [.agg [i6 j,i6 l,i6 m,.bool n,i6 o,i6 p,i6 q,i6 s,.sl (.int .u8) t],.agg [i6 u,i6 a,i6 b,.bool d,i6 e,i6 f,i6 g,i6 h,.sl (.int .u8) i]],[]=>F j l m n o p q s t u a b d e f g h i (fun r=>match r with | v=>k (.c (.bool v),[])) | _,_=>none
theorem ok58 (fuel:Nat):FnOK Tryz.prog 58 (spg58 (F_ref10_SameItem fuel)):=by
  intro args objs kk r h
  unfold spg58 at h
  split at h
  · skip
    exact fo0 (hG58 fuel) Tryz.func58 rfl (by kernel_rfl) _ _ kk r ((F58_eqg fuel (F_ref06_SameBitmap fuel) _ _ _ _ _ _ _ _ _ _ _ _ _ _ _ _ _ _ kk).trans h)
  · cases h
def kp22 (i:Nat):Option (List Nat):=Ev.look i [(4,[0,1,12,13]),(100000,[]),(200006,[0,1]),(400000,[4])]
def Gg22 (a:YF58) (f:Nat):Option Ev.Spec:=Ev.look f [(58,spg58 a)]
def G22 (fuel:Nat):Nat→Option Ev.Spec:=Gg22 (F_ref10_SameItem fuel)
abbrev V_ref10_SameItems_0:Type:=(List (Int×(Int×(Int×(Bool×(Int×(Int×(Int×(Int×LI)))))))))×(List (Int×(Int×(Int×(Bool×(Int×(Int×(Int×(Int×LI)))))))))×Int×Int
abbrev W_ref10_SameItems_0:Type:=(Bool→OA)×(Unit→OA)
def Sg_ref10_SameItems_0 (fuel:Nat) (g:YF58) (d:(List (Int×(Int×(Int×(Bool×(Int×(Int×(Int×(Int×LI)))))))))) (e:(List (Int×(Int×(Int×(Bool×(Int×(Int×(Int×(Int×LI)))))))))) (f a:Int) (c:V_ref10_SameItems_0→OA) (B:W_ref10_SameItems_0):OA:=match B with | (ret,b)=>bif decide (a < f) then bif decide (0≤a∧a < (↑d.length:Int)) then bif decide (0≤a∧a < (↑e.length:Int)) then (g ((d.getD a.toNat (0,0,0,false,0,0,0,0,[])).fst) ((d.getD a.toNat (0,0,0,false,0,0,0,0,[])).snd.fst) ((d.getD a.toNat (0,0,0,false,0,0,0,0,[])).snd.snd.fst) ((d.getD a.toNat (0,0,0,false,0,0,0,0,[])).snd.snd.snd.fst) ((d.getD a.toNat (0,0,0,false,0,0,0,0,[])).snd.snd.snd.snd.fst) ((d.getD a.toNat (0,0,0,false,0,0,0,0,[])).snd.snd.snd.snd.snd.fst) ((d.getD a.toNat (0,0,0,false,0,0,0,0,[])).snd.snd.snd.snd.snd.snd.fst) ((d.getD a.toNat (0,0,0,false,0,0,0,0,[])).snd.snd.snd.snd.snd.snd.snd.fst) ((d.getD a.toNat (0,0,0,false,0,0,0,0,[])).snd.snd.snd.snd.snd.snd.snd.snd) ((e.getD a.toNat (0,0,0,false,0,0,0,0,[])).fst) ((e.getD a.toNat (0,0,0,false,0,0,0,0,[])).snd.fst) ((e.getD a.toNat (0,0,0,false,0,0,0,0,[])).snd.snd.fst) ((e.getD a.toNat (0,0,0,false,0,0,0,0,[])).snd.snd.snd.fst) ((e.getD a.toNat (0,0,0,false,0,0,0,0,[])).snd.snd.snd.snd.fst) ((e.getD a.toNat (0,0,0,false,0,0,0,0,[])).snd.snd.snd.snd.snd.fst) ((e.getD a.toNat (0,0,0,false,0,0,0,0,[])).snd.snd.snd.snd.snd.snd.fst) ((e.getD a.toNat (0,0,0,false,0,0,0,0,[])).snd.snd.snd.snd.snd.snd.snd.fst) ((e.getD a.toNat (0,0,0,false,0,0,0,0,[])).snd.snd.snd.snd.snd.snd.snd.snd) (fun h=>bif !h then ret false else c (d,e,f,i64.wrap (a+1)))) else none else none else b ()
def S_ref10_SameItems_0 (fuel:Nat) (v:(List (Int×(Int×(Int×(Bool×(Int×(Int×(Int×(Int×(List Int))))))))))×(List (Int×(Int×(Int×(Bool×(Int×(Int×(Int×(Int×(List Int))))))))))×Int×Int) (c:((List (Int×(Int×(Int×(Bool×(Int×(Int×(Int×(Int×(List Int))))))))))×(List (Int×(Int×(Int×(Bool×(Int×(Int×(Int×(Int×(List Int))))))))))×Int×Int)→Option Ans) (B:(Bool→Option Ans)×(Unit→Option Ans)):Option Ans:=match v with | (a,b,d,e)=>Sg_ref10_SameItems_0 fuel (F_ref10_SameItem fuel) a b d e c B
def L_ref10_SameItems_0 (fuel:Nat) (v:V_ref10_SameItems_0) (ret:(Bool→Option Ans)) (b:(Unit→Option Ans)):Option Ans:=iter (S_ref10_SameItems_0 fuel) fuel v (ret,b)
def T22_0 (v:V_ref10_SameItems_0):Ev.St:=match v with | (a,b,d,e)=>⟨[(0,.c (.sl (.pair (.int .i64) (.pair (.int .i64) (.pair (.int .i64) (.pair .bool (.pair (.int .i64) (.pair (.int .i64) (.pair (.int .i64) (.pair (.int .i64) (.sl (.int .u8)))))))))) a)),(1,.c (.sl (.pair (.int .i64) (.pair (.int .i64) (.pair (.int .i64) (.pair .bool (.pair (.int .i64) (.pair (.int .i64) (.pair (.int .i64) (.pair (.int .i64) (.sl (.int .u8)))))))))) b)),(12,.c (i6 d)),(13,.c (i6 e))],[],0,0⟩
def E22_0 (K:KT):W_ref10_SameItems_0:=((fun v=>match v with | a=>K .ret ⟨[(4,.c (.bool a))],[],0,0⟩),(fun v=>match v with | ()=>K .normal ⟨[],[],0,0⟩))
theorem S22_0_okg (fuel:Nat) (a:YF58) (R:Ev.St→OA) (K:KT) (b:(List (Int×(Int×(Int×(Bool×(Int×(Int×(Int×(Int×LI)))))))))) (c:(List (Int×(Int×(Int×(Bool×(Int×(Int×(Int×(Int×LI)))))))))) (d e:Int):evalCode tab (Gg22 a) J0 kp22 fuel (bodyOf 0 Tryz.f22) (T22_0 (b,c,d,e)) (lc kp22 4 0 R K)=Sg_ref10_SameItems_0 fuel a b c d e (fun v=>R (T22_0 v)) (E22_0 K):=by
  kernel_rfl
def B22_0 (fuel:Nat):Ev.Blk:=fun st K=>match canonO (kp22 4) st with | some s=>(match s with | ⟨[(a,.c (.sl (.pair (.int .i64) (.pair (.int .i64) (.pair (.int .i64) (.pair .bool (.pair (.int .i64) (.pair (.int .i64) (.pair (.int .i64) (.pair (.int .i64) (.sl (.int .u8)))))))))) b)),(d,.c (.sl (.pair (.int .i64) (.pair (.int .i64) (.pair (.int .i64) (.pair .bool (.pair (.int .i64) (.pair (.int .i64) (.pair (.int .i64) (.pair (.int .i64) (.sl (.int .u8)))))))))) e)),(f,.c (i6 g)),(h,.c (i6 i))],[],j,k⟩=>bif qb [a,d,f,h,j,k] [0,1,12,13,0,0] then iter (S_ref10_SameItems_0 fuel) fuel (b,e,g,i) (E22_0 K) else none | _=>none) | none=>none
theorem B22_0_ok (fuel:Nat) (st:Ev.St) (K:KT) (r:Ans) (h:B22_0 fuel st K=some r):evalCode tab (G22 fuel) J0 kp22 fuel (.block 0 (.loop (bodyOf 0 Tryz.f22))) st K=some r:=by
  unfold B22_0 at h
  split at h
  · rename_i s hs
    split at h
    · skip
      obtain ⟨hb,h⟩:=cond_some' h
      cases qb_eq hb
      exact blk_loop (S:=T22_0) (ks:=E22_0) (step:=S_ref10_SameItems_0 fuel) (v:=(_,_,_,_)) (by kernel_rfl) (by kernel_rfl) (fun R K v=>by obtain ⟨a,b,c,d⟩:=v; exact S22_0_okg fuel (F_ref10_SameItem fuel) R K a b c d) hs h
    · cases h
  · cases h
def J22 (fuel:Nat) (i:Nat):Option Ev.Blk:=Ev.look i [(100000,B22_0 fuel)]
def Fg_ref10_SameItems (fuel:Nat) (c:YF58) (a:(List (Int×Int×Int×Bool×Int×Int×(Int×Int×LI)))) (b:(List (Int×Int×Int×Bool×Int×Int×(Int×Int×LI)))) (k0:(Bool)→OA):OA:=bif (↑a.length:Int) != (↑b.length:Int) then k0 false else (L_ref10_SameItems_0 fuel (a,b,(↑a.length:Int),0) (fun ret0_0=>k0 ret0_0) (fun ()=>k0 true))
abbrev YF22:Type:=((List (Int×Int×Int×Bool×Int×Int×(Int×Int×LI))))→((List (Int×Int×Int×Bool×Int×Int×(Int×Int×LI))))→(Bool→Option Ans)→Option Ans
def F_ref10_SameItems (fuel:Nat):YF22:=Fg_ref10_SameItems fuel (F_ref10_SameItem fuel)
theorem F22_eqg (fuel:Nat) (a:YF58) (b:(List (Int×Int×Int×Bool×Int×Int×(Int×Int×LI)))) (d:(List (Int×Int×Int×Bool×Int×Int×(Int×Int×LI)))) (k:Ev.Cont):evalFn tab (Gg22 a) (J22 fuel) kp22 fuel Tryz.f22 [.c (.sl (.pair (.int .i64) (.pair (.int .i64) (.pair (.int .i64) (.pair .bool (.pair (.int .i64) (.pair (.int .i64) (.pair (.int .i64) (.pair (.int .i64) (.sl (.int .u8)))))))))) b),.c (.sl (.pair (.int .i64) (.pair (.int .i64) (.pair (.int .i64) (.pair .bool (.pair (.int .i64) (.pair (.int .i64) (.pair (.int .i64) (.pair (.int .i64) (.sl (.int .u8)))))))))) d)] [] k=Fg_ref10_SameItems fuel a b d (fun r=>match r with | e=>k (.c (.bool e),[])):=by
  kernel_rfl
theorem hG22 (fuel:Nat):GOK Tryz.prog (G22 fuel):=
  gc (ok58 fuel) Tryz.func58 (by kernel_rfl) rfl <|
  gok_nil
theorem B22_0_blk (fuel:Nat):BlkOK Tryz.prog Tryz.f22.ntmps (.block 0 (.loop (bodyOf 0 Tryz.f22))) (B22_0 fuel):=bo0 (hG22 fuel) (by kernel_rfl) (by kernel_rfl) (B22_0_ok fuel)
def spg22 (F:YF22):Ev.Spec:=fun args objs k=>match args,objs with | [.c (.sl (.pair (.int .i64) (.pair (.int .i64) (.pair (.int .i64) (.pair .bool (.pair (.int .i64) (.pair (.int .i64) (.pair (.int .i64) (.pair (.int .i64) (.sl (.int .u8)))))))))) a),.c (.sl (.pair (.int .i64) (.pair (.int .i64) (.pair (.int .i64) (.pair .bool (.pair (.int .i64) (.pair (.int .i64) (.pair (.int .i64) (.pair (.int .i64) (.sl (.int .u8)))))))))) b)],[]=>F a b (fun r=>match r with | d=>k (.c (.bool d),[])) | _,_=>none
theorem ok22 (fuel:Nat):FnOK Tryz.prog 22 (spg22 (F_ref10_SameItems fuel)):=by
  intro args objs kk r h
  unfold spg22 at h
  split at h
  · skip
    exact fo1 (hG22 fuel) Tryz.func22 rfl (B22_0_blk fuel) (by kernel_rfl) _ _ kk r ((F22_eqg fuel (F_ref10_SameItem fuel) _ _ kk).trans h)
  · cases h
def kp51 (i:Nat):Option (List Nat):=Ev.look i []
def Gg51 (f:Nat):Option Ev.Spec:=Ev.look f []
def G51 (fuel:Nat):Nat→Option Ev.Spec:=Gg51
def F_slices_Clone_api_Item_api_Item (fuel:Nat) (a:(List (Int×Int×Int×Bool×Int×Int×(Int×Int×(List Int))))) (k0:((List (Int×(Int×(Int×(Bool×(Int×(Int×(Int×(Int×(List Int)))))))))))→Option Ans):Option Ans:=bif decide ((↑a.length:Int)=0) then both (k0 []) (bif decide (((0:Nat)+a.length)*(88:Nat)≤(140737488355328:Nat)∧(0:Nat)+a.length≤(140737488355328:Nat)) then k0 ([]++a) else none) else bif decide (((0:Nat)+a.length)*(88:Nat)≤(140737488355328:Nat)∧(0:Nat)+a.length≤(140737488355328:Nat)) then k0 ([]++a) else none
abbrev YF51:Type:=((List (Int×Int×Int×Bool×Int×Int×(Int×Int×LI))))→(((List (Int×(Int×(Int×(Bool×(Int×(Int×(Int×(Int×LI))))))))))→Option Ans)→Option Ans
theorem F51_eq (fuel:Nat) (a:(List (Int×Int×Int×Bool×Int×Int×(Int×Int×LI)))) (k:Ev.Cont):evalFn tab (G51 fuel) J0 kp51 fuel Tryz.f51 [.c (.sl (.pair (.int .i64) (.pair (.int .i64) (.pair (.int .i64) (.pair .bool (.pair (.int .i64) (.pair (.int .i64) (.pair (.int .i64) (.pair (.int .i64) (.sl (.int .u8)))))))))) a)] [] k=F_slices_Clone_api_Item_api_Item fuel a (fun r=>match r with | b=>k (.c (.own 0),[.vec 85 (.pair (.int .i64) (.pair (.int .i64) (.pair (.int .i64) (.pair .bool (.pair (.int .i64) (.pair (.int .i64) (.pair (.int .i64) (.pair (.int .i64) (.sl (.int .u8)))))))))) b true])):=by
  kernel_rfl
theorem hG51 (fuel:Nat):GOK Tryz.prog (G51 fuel):=
  gok_nil
def spg51 (F:YF51):Ev.Spec:=fun args objs k=>match args,objs with | [.c (.sl (.pair (.int .i64) (.pair (.int .i64) (.pair (.int .i64) (.pair .bool (.pair (.int .i64) (.pair (.int .i64) (.pair (.int .i64) (.pair (.int .i64) (.sl (.int .u8)))))))))) a)],[]=>F a (fun r=>match r with | b=>k (.c (.own 0),[.vec 85 (.pair (.int .i64) (.pair (.int .i64) (.pair (.int .i64) (.pair .bool (.pair (.int .i64) (.pair (.int .i64) (.pair (.int .i64) (.pair (.int .i64) (.sl (.int .u8)))))))))) b true])) | _,_=>none
theorem ok51 (fuel:Nat):FnOK Tryz.prog 51 (spg51 (F_slices_Clone_api_Item_api_Item fuel)):=by
  intro args objs kk r h
  unfold spg51 at h
  split at h
  · skip
    exact fo0 (hG51 fuel) Tryz.func51 rfl (by kernel_rfl) _ _ kk r ((F51_eq fuel _ kk).trans h)
  · cases h
def kp52 (i:Nat):Option (List Nat):=Ev.look i []
def Gg52 (f:Nat):Option Ev.Spec:=Ev.look f []
def G52 (fuel:Nat):Nat→Option Ev.Spec:=Gg52
def F_slices_Clone_byte_byte (fuel:Nat) (a:(List Int)) (k0:((List Int))→Option Ans):Option Ans:=bif decide ((↑a.length:Int)=0) then both (k0 []) (bif decide (((0:Nat)+a.length)*(1:Nat)≤(140737488355328:Nat)∧(0:Nat)+a.length≤(140737488355328:Nat)) then k0 ([]++a) else none) else bif decide (((0:Nat)+a.length)*(1:Nat)≤(140737488355328:Nat)∧(0:Nat)+a.length≤(140737488355328:Nat)) then k0 ([]++a) else none
abbrev YF52:Type:=LI→(LI→Option Ans)→Option Ans
theorem F52_eq (fuel:Nat) (a:LI) (k:Ev.Cont):evalFn tab (G52 fuel) J0 kp52 fuel Tryz.f52 [.c (.sl (.int .u8) a)] [] k=F_slices_Clone_byte_byte fuel a (fun r=>match r with | b=>k (.c (.own 0),[.vec 5 (.int .u8) b true])):=by
  kernel_rfl
theorem hG52 (fuel:Nat):GOK Tryz.prog (G52 fuel):=
  gok_nil
def spg52 (F:YF52):Ev.Spec:=fun args objs k=>match args,objs with | [.c (.sl (.int .u8) a)],[]=>F a (fun r=>match r with | b=>k (.c (.own 0),[.vec 5 (.int .u8) b true])) | _,_=>none
theorem ok52 (fuel:Nat):FnOK Tryz.prog 52 (spg52 (F_slices_Clone_byte_byte fuel)):=by
  intro args objs kk r h
  unfold spg52 at h
  split at h
  · skip
    exact fo0 (hG52 fuel) Tryz.func52 rfl (by kernel_rfl) _ _ kk r ((F52_eq fuel _ kk).trans h)
  · cases h
def kp101 (i:Nat):Option (List Nat):=Ev.look i []
def Gg101 (f:Nat):Option Ev.Spec:=Ev.look f []
def G101 (fuel:Nat):Nat→Option Ev.Spec:=Gg101
def F_text_floor (fuel:Nat) (b a:Int) (k0:(Int)→Option Ans):Option Ans:=bif decide (a=0) then none else bif decide (a=0) then none else bif b.tmod a != 0 then bif decide (b < 0) then k0 (i64.wrap (i64.wrap (b.tdiv a) - 1)) else k0 (i64.wrap (b.tdiv a)) else k0 (i64.wrap (b.tdiv a))
abbrev YF101:Type:=Int→Int→(Int→Option Ans)→Option Ans
theorem F101_eq (fuel:Nat) (a b:Int) (k:Ev.Cont):evalFn tab (G101 fuel) J0 kp101 fuel Tryz.f101 [.c (i6 a),.c (i6 b)] [] k=F_text_floor fuel a b (fun r=>match r with | d=>k (.c (i6 d),[])):=by
  kernel_rfl
theorem hG101 (fuel:Nat):GOK Tryz.prog (G101 fuel):=
  gok_nil
def spg101 (F:YF101):Ev.Spec:=fun args objs k=>match args,objs with | [.c (i6 a),.c (i6 b)],[]=>F a b (fun r=>match r with | d=>k (.c (i6 d),[])) | _,_=>none
theorem ok101 (fuel:Nat):FnOK Tryz.prog 101 (spg101 (F_text_floor fuel)):=by
  intro args objs kk r h
  unfold spg101 at h
  split at h
  · skip
    exact fo0 (hG101 fuel) Tryz.func101 rfl (by kernel_rfl) _ _ kk r ((F101_eq fuel _ _ kk).trans h)
  · cases h
def kp55 (i:Nat):Option (List Nat):=Ev.look i []
def Gg55 (a:YF101) (f:Nat):Option Ev.Spec:=Ev.look f [(101,spg101 a)]
def G55 (fuel:Nat):Nat→Option Ev.Spec:=Gg55 (F_text_floor fuel)
def Fg_text_strip (fuel:Nat) (a:YF101) (c k:Int) (l:Bool) (m n o:Int) (p:Bool) (q r:Int) (s b:Int) (e:Bool) (f g:Int) (h i:Int) (j:LI) (k0:(Int)→OA):OA:=(a b c (fun d=>k0 d))
abbrev YF55:Type:=Int→Int→Bool→Int→Int→Int→Bool→Int→Int→Int→Int→Bool→Int→Int→Int→Int→LI→(Int→Option Ans)→Option Ans
def F_text_strip (fuel:Nat):YF55:=Fg_text_strip fuel (F_text_floor fuel)
theorem F55_eqg (fuel:Nat) (a:YF101) (j l:Int) (m:Bool) (n o p:Int) (q:Bool) (s t:Int) (u b:Int) (d:Bool) (e f:Int) (g h:Int) (i:LI) (k:Ev.Cont):evalFn tab (Gg55 a) J0 kp55 fuel Tryz.f55 [.agg [i6 j,i6 l,.bool m,i6 n,i6 o,i6 p,.bool q,i6 s],.agg [i6 t,i6 u,i6 b,.bool d,i6 e,i6 f,i6 g,i6 h,.sl (.int .u8) i]] [] k=Fg_text_strip fuel a j l m n o p q s t u b d e f g h i (fun r=>match r with | v=>k (.c (i6 v),[])):=by
  kernel_rfl
theorem hG55 (fuel:Nat):GOK Tryz.prog (G55 fuel):=
  gc (ok101 fuel) Tryz.func101 (by kernel_rfl) rfl <|
  gok_nil
def spg55 (F:YF55):Ev.Spec:=fun args objs k=>match args,objs with | [.agg [i6 i,i6 j,.bool l,i6 m,i6 n,i6 o,.bool p,i6 q],.agg [i6 s,i6 t,i6 a,.bool b,i6 d,i6 e,i6 f,i6 g,.sl (.int .u8) h]],[]=>F i j l m n o p q s t a b d e f g h (fun r=>match r with | u=>k (.c (i6 u),[])) | _,_=>none
theorem ok55 (fuel:Nat):FnOK Tryz.prog 55 (spg55 (F_text_strip fuel)):=by
  intro args objs kk r h
  unfold spg55 at h
  split at h
  · skip
    exact fo0 (hG55 fuel) Tryz.func55 rfl (by kernel_rfl) _ _ kk r ((F55_eqg fuel (F_text_floor fuel) _ _ _ _ _ _ _ _ _ _ _ _ _ _ _ _ _ kk).trans h)
  · cases h
def kp54_805 (i:Nat):Option (List Nat):=Ev.look i [(200001,[2,3,4])]
def Gg54_805 (a:YF55) (f:Nat):Option Ev.Spec:=Ev.look f [(55,spg55 a)]
def G54_805 (fuel:Nat):Nat→Option Ev.Spec:=Gg54_805 (F_text_strip fuel)
def Fg_text_Order_1_805 (fuel:Nat) (i:YF55) (u k v:Int) (w:Bool) (x y:Int) (z A:Int) (B:LI) (C j n:Int) (o:Bool) (p q:Int) (r s:Int) (t:LI) (a b:Int) (c:Bool) (d e f:Int) (g:Bool) (h:Int) (k0:(Int×Int×Int×Bool×Int×Int×Int×Bool×Int)→OA):OA:=(i a b c d e f g h u k v w x y z A B (fun l=>(i a b c d e f g h C j n o p q r s t (fun m=>bif i64.wrap (l - m) != 0 then k0 (i64.wrap (l - m),a,b,c,d,e,f,g,h) else k0 (i64.wrap (k - j),a,b,c,d,e,f,g,h)))))
abbrev YF54_805:Type:=Int→Int→Int→Bool→Int→Int→Int→Int→LI→Int→Int→Int→Bool→Int→Int→Int→Int→LI→Int→Int→Bool→Int→Int→Int→Bool→Int→((Int×Int×Int×Bool×Int×Int×Int×Bool×Int)→Option Ans)→Option Ans
def F_text_Order_1_805 (fuel:Nat):YF54_805:=Fg_text_Order_1_805 fuel (F_text_strip fuel)
theorem F54_805_eqg (fuel:Nat) (a:YF55) (u v w:Int) (x:Bool) (y z:Int) (A B:Int) (C:LI) (D b d:Int) (e:Bool) (f g:Int) (h i:Int) (j:LI) (l m:Int) (n:Bool) (o p q:Int) (s:Bool) (t:Int) (k:Ev.Cont):evalFn tab (Gg54_805 a) J0 kp54_805 fuel Tryz.f54 [.agg [i6 u,i6 v,i6 w,.bool x,i6 y,i6 z,i6 A,i6 B,.sl (.int .u8) C],.agg [i6 D,i6 b,i6 d,.bool e,i6 f,i6 g,i6 h,i6 i,.sl (.int .u8) j],.c (.ptr 0 0)] [.cells 51 [i6 l,i6 m,.bool n,i6 o,i6 p,i6 q,.bool s,i6 t]] k=Fg_text_Order_1_805 fuel a u v w x y z A B C D b d e f g h i j l m n o p q s t (fun r=>match r with | (E,F,G,H,I,J,K,L,M)=>k (.c (i6 E),[.cells 51 [i6 F,i6 G,.bool H,i6 I,i6 J,i6 K,.bool L,i6 M]])):=by
  kernel_rfl
theorem hG54_805 (fuel:Nat):GOK Tryz.prog (G54_805 fuel):=
  gc (ok55 fuel) Tryz.func55 (by kernel_rfl) rfl <|
  gok_nil
def spg54_805 (F:YF54_805):Ev.Spec:=fun args objs k=>match args,objs with | [.agg [i6 t,i6 u,i6 v,.bool w,i6 x,i6 y,i6 z,i6 A,.sl (.int .u8) B],.agg [i6 C,i6 a,i6 b,.bool d,i6 e,i6 f,i6 g,i6 h,.sl (.int .u8) i],.c (.ptr D E)],[.cells G [i6 j,i6 l,.bool m,i6 n,i6 o,i6 p,.bool q,i6 s]]=>bif qb [D,E,G] [0,0,51] then F t u v w x y z A B C a b d e f g h i j l m n o p q s (fun r=>match r with | (H,I,J,K,L,M,N,O,P)=>k (.c (i6 H),[.cells 51 [i6 I,i6 J,.bool K,i6 L,i6 M,i6 N,.bool O,i6 P]])) else none | _,_=>none
theorem ok54_805 (fuel:Nat):FnOK Tryz.prog 54 (spg54_805 (F_text_Order_1_805 fuel)):=by
  intro args objs kk r h
  unfold spg54_805 at h
  split at h
  · skip
    obtain ⟨hb,h⟩:=cond_some' h
    cases qb_eq hb
    exact fo0 (hG54_805 fuel) Tryz.func54 rfl (by kernel_rfl) _ _ kk r ((F54_805_eqg fuel (F_text_strip fuel) _ _ _ _ _ _ _ _ _ _ _ _ _ _ _ _ _ _ _ _ _ _ _ _ _ _ kk).trans h)
  · cases h
end
end Go.Proofs.YtmjeeaemmbkioaaGreat

