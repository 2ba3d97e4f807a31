/- What the functions that TextDecodes reaches do: their typed texts, each with the proof that the machine does it. No condition. -/
import Derived.Test.YtipdidpalcmlhaaGreatEvX
import Derived.Test.YtipdidpalcmlhaaGreatFsTextDecodes3
import Derived.Test.YtipdidpalcmlhaaGreatFsTextDecodes1
set_option linter.unusedVariables false
set_option linter.unusedSimpArgs false
set_option linter.unusedSectionVars false
set_option linter.unusedVariables false
set_option linter.unusedSimpArgs false
set_option maxRecDepth 100000
set_option maxHeartbeats 2000000
namespace Go.Proofs.YtipdidpalcmlhaaGreat
open Go Ev
open Go.IntKind (i64 u64 u8 i32 u32 u16)
noncomputable section
def kp179 (i:Nat):Option (List Nat):=Ev.look i []
def Gg179 (a:YF238) (f:Nat):Option Ev.Spec:=Ev.look f [(238,spg238 a)]
def G179 (fuel:Nat):Nat→Option Ev.Spec:=Gg179 (F_ref02_unlikely fuel)
def Fg_ref02_Likely (fuel:Nat) (b:YF238) (c a:Int) (k0:(Int)→OA):OA:=bif c==0 then (b (a.tmod 32) (fun d=>bif decide (a < 32) then k0 d else (b (a.tmod 32) (fun e=>k0 (i64.wrap (4096 - e)))))) else bif decide (i64.wrap (i64.wrap (i64.wrap (2*i64.wrap (a.tdiv 256))+i64.wrap (2*a.tmod 256))+2)=0) then none else k0 (bif decide (4095 < bif decide (1 > i64.wrap ((i64.wrap (i64.wrap (i64.wrap (2*a.tmod 256)+1)*4096)).tdiv (i64.wrap (i64.wrap (i64.wrap (2*i64.wrap (a.tdiv 256))+i64.wrap (2*a.tmod 256))+2)))) then 1 else i64.wrap ((i64.wrap (i64.wrap (i64.wrap (2*a.tmod 256)+1)*4096)).tdiv (i64.wrap (i64.wrap (i64.wrap (2*i64.wrap (a.tdiv 256))+i64.wrap (2*a.tmod 256))+2)))) then 4095 else bif decide (1 > i64.wrap ((i64.wrap (i64.wrap (i64.wrap (2*a.tmod 256)+1)*4096)).tdiv (i64.wrap (i64.wrap (i64.wrap (2*i64.wrap (a.tdiv 256))+i64.wrap (2*a.tmod 256))+2)))) then 1 else i64.wrap ((i64.wrap (i64.wrap (i64.wrap (2*a.tmod 256)+1)*4096)).tdiv (i64.wrap (i64.wrap (i64.wrap (2*i64.wrap (a.tdiv 256))+i64.wrap (2*a.tmod 256))+2))))
abbrev YF179:Type:=Int→Int→(Int→Option Ans)→Option Ans
def F_ref02_Likely (fuel:Nat):YF179:=Fg_ref02_Likely fuel (F_ref02_unlikely fuel)
theorem F179_eqg (fuel:Nat) (a:YF238) (b d:Int) (k:Ev.Cont):evalFn tab (Gg179 a) J0 kp179 fuel Tryz.f179 [.c (i6 b),.c (i6 d)] [] k=Fg_ref02_Likely fuel a b d (fun r=>match r with | e=>k (.c (i6 e),[])):=by
  kernel_rfl
theorem hG179 (fuel:Nat):GOK Tryz.prog (G179 fuel):=
  gc (ok238 fuel) Tryz.func238 (by kernel_rfl) rfl <|
  gok_nil
def spg179 (F:YF179):Ev.Spec:=fun args objs k=>match args,objs with | [.c (i6 a),.c (i6 b)],[]=>F a b (fun r=>match r with | d=>k (.c (i6 d),[])) | _,_=>none
theorem ok179 (fuel:Nat):FnOK Tryz.prog 179 (spg179 (F_ref02_Likely fuel)):=by
  intro args objs kk r h
  unfold spg179 at h
  split at h
  · skip
    exact fo0 (hG179 fuel) Tryz.func179 rfl (by kernel_rfl) _ _ kk r ((F179_eqg fuel (F_ref02_unlikely fuel) _ _ kk).trans h)
  · cases h
def kp157_0a6 (i:Nat):Option (List Nat):=Ev.look i [(12,[0,1,7,8,9,10]),(100000,[0,1,7,8,9,10]),(200007,[0]),(200009,[0]),(200011,[0]),(200020,[0]),(400000,[4,5])]
def Gg157_0a6 (a:YF155) (b:YF179) (c:YF180) (d:YF181) (e:YF182) (g:YF183) (h:YF225) (f:Nat):Option Ev.Spec:=Ev.look f [(155,spg155 a),(179,spg179 b),(180,spg180 c),(181,spg181 d),(182,spg182 e),(183,spg183 g),(225,spg225 h)]
def G157_0a6 (fuel:Nat):Nat→Option Ev.Spec:=Gg157_0a6 (F_ref02_byteAt fuel) (F_ref02_Likely fuel) (F_ref02_Interval_Part fuel) (F_ref02_After fuel) (F_ref02_Interval_Fixed fuel) (F_ref02_Interval_Shifted fuel) (F_ref02_Interval_Mid fuel)
abbrev V_ref02_Decoder_Get_0a6_0:Type:=Int×Int×Int×Int×Int×Int×Int×Int×Int×Int×Bool×LI×LI×Int×Int
abbrev W_ref02_Decoder_Get_0a6_0:Type:=(Int×Int×Int×Int×Int×Int×Int×Int×Int×Int×Bool×LI×LI×Int×Int→OA)
def Sg_ref02_Decoder_Get_0a6_0 (fuel:Nat) (r:YF155) (y:YF179) (z:YF180) (A:YF181) (s:YF182) (t:YF183) (C:YF225) (i j:Int) (f k:Int) (l m:Int) (n o:Int) (p q:Int) (g:Bool) (h a:LI) (d e:Int) (c:V_ref02_Decoder_Get_0a6_0→OA) (B:W_ref02_Decoder_Get_0a6_0):OA:=match B with | b=>(s d e (fun x=>bif x then (t d e (fun (u,v)=>(r a f (fun w=>c (i,j,i64.wrap (f+(1:Int)),u64.wrap (u64.wrap (k.tmod (16777216:Int)*(256:Int))+w),l,m,n,o,p,q,g,h,a,u,v))))) else b (i,j,f,k,l,m,n,o,p,q,g,h,a,d,e)))
def S_ref02_Decoder_Get_0a6_0 (fuel:Nat) (v:Int×Int×Int×Int×Int×Int×Int×Int×Int×Int×Bool×(List Int)×(List Int)×Int×Int) (c:(Int×Int×Int×Int×Int×Int×Int×Int×Int×Int×Bool×(List Int)×(List Int)×Int×Int)→Option Ans) (B:(Int×Int×Int×Int×Int×Int×Int×Int×Int×Int×Bool×(List Int)×(List Int)×Int×Int→Option Ans)):Option Ans:=match v with | (g,h,i,j,k,l,m,n,o,p,a,b,d,e,f)=>Sg_ref02_Decoder_Get_0a6_0 fuel (F_ref02_byteAt fuel) (F_ref02_Likely fuel) (F_ref02_Interval_Part fuel) (F_ref02_After fuel) (F_ref02_Interval_Fixed fuel) (F_ref02_Interval_Shifted fuel) (F_ref02_Interval_Mid fuel) g h i j k l m n o p a b d e f c B
def L_ref02_Decoder_Get_0a6_0 (fuel:Nat) (v:V_ref02_Decoder_Get_0a6_0) (b:W_ref02_Decoder_Get_0a6_0):Option Ans:=iter (S_ref02_Decoder_Get_0a6_0 fuel) fuel v b
def T157_0a6_0 (v:V_ref02_Decoder_Get_0a6_0):Ev.St:=match v with | (g,h,i,j,k,l,m,n,o,p,a,b,d,e,f)=>⟨[(0,.c (.ptr 0 0)),(1,.c (i6 g)),(7,.c (i6 h)),(8,.c (.ptr 3 0)),(9,.c (i6 i)),(10,.c (.int .u64 j))],[(0,.cells 204 [i6 k,.own 1,.int .u64 l,.int .u64 m,.own 2,i6 n,.int .u64 o,i6 p,.bool a]),(1,.vec 3 (.int .i64) b false),(2,.vec 5 (.int .u8) d false),(3,.cells 184 [.int .u64 e,.int .u64 f])],4,3⟩
def E157_0a6_0 (K:KT):W_ref02_Decoder_Get_0a6_0:=(fun v=>match v with | (g,h,i,j,k,l,m,n,o,p,a,b,d,e,f)=>K .normal ⟨[(0,.c (.ptr 0 0)),(1,.c (i6 g)),(7,.c (i6 h)),(8,.c (.ptr 3 0)),(9,.c (i6 i)),(10,.c (.int .u64 j))],[(0,.cells 204 [i6 k,.own 1,.int .u64 l,.int .u64 m,.own 2,i6 n,.int .u64 o,i6 p,.bool a]),(1,.vec 3 (.int .i64) b false),(2,.vec 5 (.int .u8) d false),(3,.cells 184 [.int .u64 e,.int .u64 f])],4,3⟩)
theorem S157_0a6_0_okg (fuel:Nat) (a:YF155) (b:YF179) (c:YF180) (d:YF181) (e:YF182) (f:YF183) (g:YF225) (R:Ev.St→OA) (K:KT) (m n:Int) (o p:Int) (q r:Int) (s t:Int) (u w:Int) (h:Bool) (i j:LI) (k l:Int):evalCode tab (Gg157_0a6 a b c d e f g) J0 kp157_0a6 fuel (bodyOf 0 Tryz.f157) (T157_0a6_0 (m,n,o,p,q,r,s,t,u,w,h,i,j,k,l)) (lc kp157_0a6 12 0 R K)=Sg_ref02_Decoder_Get_0a6_0 fuel a b c d e f g m n o p q r s t u w h i j k l (fun v=>R (T157_0a6_0 v)) (E157_0a6_0 K):=by
  kernel_rfl
def B157_0a6_0 (fuel:Nat):Ev.Blk:=fun st K=>match canonO (kp157_0a6 12) st with | some s=>(match s with | ⟨[(t,.c (.ptr u v)),(w,.c (i6 x)),(y,.c (i6 z)),(A,.c (.ptr B C)),(D,.c (i6 E)),(F,.c (.int .u64 G))],[(a,.cells b [i6 H,.own d,.int .u64 I,.int .u64 J,.own e,i6 L,.int .u64 M,i6 N,.bool f]),(g,.vec h (.int .i64) i false),(j,.vec k (.int .u8) l false),(m,.cells n [.int .u64 o,.int .u64 p])],q,r⟩=>bif qb [t,u,v,w,y,A,B,C,D,F,a,b,d,e,g,h,j,k,m,n,q,r] [0,0,0,1,7,8,3,0,9,10,0,204,1,2,1,3,2,5,3,184,4,3] then iter (S_ref02_Decoder_Get_0a6_0 fuel) fuel (x,z,E,G,H,I,J,L,M,N,f,i,l,o,p) (E157_0a6_0 K) else none | _=>none) | none=>none
theorem B157_0a6_0_ok (fuel:Nat) (st:Ev.St) (K:KT) (r:Ans) (h:B157_0a6_0 fuel st K=some r):evalCode tab (G157_0a6 fuel) J0 kp157_0a6 fuel (.block 0 (.loop (bodyOf 0 Tryz.f157))) st K=some r:=by
  unfold B157_0a6_0 at h
  split at h
  · rename_i s hs
    split at h
    · skip
      obtain ⟨hb,h⟩:=cond_some' h
      cases qb_eq hb
      exact blk_loop (S:=T157_0a6_0) (ks:=E157_0a6_0) (step:=S_ref02_Decoder_Get_0a6_0 fuel) (v:=(_,_,_,_,_,_,_,_,_,_,_,_,_,_,_)) (by kernel_rfl) (by kernel_rfl) (fun R K v=>by obtain ⟨f,g,i,j,k,l,m,n,o,p,a,b,c,d,e⟩:=v; exact S157_0a6_0_okg fuel (F_ref02_byteAt fuel) (F_ref02_Likely fuel) (F_ref02_Interval_Part fuel) (F_ref02_After fuel) (F_ref02_Interval_Fixed fuel) (F_ref02_Interval_Shifted fuel) (F_ref02_Interval_Mid fuel) R K f g i j k l m n o p a b c d e) hs h
    · cases h
  · cases h
def J157_0a6 (fuel:Nat) (i:Nat):Option Ev.Blk:=Ev.look i [(100000,B157_0a6_0 fuel)]
def Fg_ref02_Decoder_Get_0a6 (fuel:Nat) (I:YF155) (F:YF179) (D:YF180) (E:YF181) (J:YF182) (K:YF183) (G:YF225) (l m:Int) (f g:Int) (j h A:Int) (n:Bool) (k B:LI) (k0:(Int×Int×Int×Int×Int×Int×Int×Int×Bool×LI×LI)→OA):OA:=bif decide (l < 0) then k0 (0,2,m,f,g,j,h,A,n,k,B) else bif decide (l≥(↑k.length:Int)) then k0 (0,2,m,f,g,j,h,A,n,k,B) else bif n then k0 (0,6,m,f,g,j,h,A,n,k,B) else bif decide (0≤l∧l < (↑k.length:Int)) then (F m (k.getD l.toNat 0) (fun C=>(G f g C (fun H=>bif decide (h≤H) then both ((D f g C (1) (fun (o,p)=>(L_ref02_Decoder_Get_0a6_0 fuel (l,1,j,h,m,f,g,j,h,A,n,k,B,o,p) (fun (b,i,d,t,e,u,v,w,x,y,q,c,a,r,s)=>bif decide ((bif decide (i64.wrap (d - (↑a.length:Int)) > 0) then i64.wrap (d - (↑a.length:Int)) else 0) > 4) then k0 (0,6,e,u,v,w,x,y,true,c,a) else bif decide (0≤b∧b < (↑c.length:Int)) then (E e (c.getD b.toNat 0) i (fun z=>bif decide (0≤b∧b < (↑c.length:Int)) then k0 (i,0,e,r,s,d,t,bif decide (i64.wrap (d - (↑a.length:Int)) > 0) then i64.wrap (d - (↑a.length:Int)) else 0,q,c.set b.toNat z,a) else none)) else none))))) ((D f g C (1) (fun (o,p)=>(L_ref02_Decoder_Get_0a6_0 fuel (l,1,j,h,m,f,g,j,h,A,n,k,B,o,p) (fun (b,i,d,t,e,u,v,w,x,y,q,c,a,r,s)=>bif decide ((bif decide (i64.wrap (d - (↑a.length:Int)) > 0) then i64.wrap (d - (↑a.length:Int)) else 0) > 4) then k0 (0,6,e,u,v,w,x,y,true,c,a) else bif decide (0≤b∧b < (↑c.length:Int)) then (E e (c.getD b.toNat 0) i (fun z=>bif decide (0≤b∧b < (↑c.length:Int)) then k0 (i,0,e,r,s,d,t,bif decide (i64.wrap (d - (↑a.length:Int)) > 0) then i64.wrap (d - (↑a.length:Int)) else 0,q,c.set b.toNat z,a) else none)) else none))))) else both ((D f g C (0) (fun (o,p)=>(L_ref02_Decoder_Get_0a6_0 fuel (l,0,j,h,m,f,g,j,h,A,n,k,B,o,p) (fun (b,i,d,t,e,u,v,w,x,y,q,c,a,r,s)=>bif decide ((bif decide (i64.wrap (d - (↑a.length:Int)) > 0) then i64.wrap (d - (↑a.length:Int)) else 0) > 4) then k0 (0,6,e,u,v,w,x,y,true,c,a) else bif decide (0≤b∧b < (↑c.length:Int)) then (E e (c.getD b.toNat 0) i (fun z=>bif decide (0≤b∧b < (↑c.length:Int)) then k0 (i,0,e,r,s,d,t,bif decide (i64.wrap (d - (↑a.length:Int)) > 0) then i64.wrap (d - (↑a.length:Int)) else 0,q,c.set b.toNat z,a) else none)) else none))))) ((D f g C (0) (fun (o,p)=>(L_ref02_Decoder_Get_0a6_0 fuel (l,0,j,h,m,f,g,j,h,A,n,k,B,o,p) (fun (b,i,d,t,e,u,v,w,x,y,q,c,a,r,s)=>bif decide ((bif decide (i64.wrap (d - (↑a.length:Int)) > 0) then i64.wrap (d - (↑a.length:Int)) else 0) > 4) then k0 (0,6,e,u,v,w,x,y,true,c,a) else bif decide (0≤b∧b < (↑c.length:Int)) then (E e (c.getD b.toNat 0) i (fun z=>bif decide (0≤b∧b < (↑c.length:Int)) then k0 (i,0,e,r,s,d,t,bif decide (i64.wrap (d - (↑a.length:Int)) > 0) then i64.wrap (d - (↑a.length:Int)) else 0,q,c.set b.toNat z,a) else none)) else none))))))))) else none
abbrev YF157_0a6:Type:=Int→Int→Int→Int→Int→Int→Int→Bool→LI→LI→((Int×Int×Int×Int×Int×Int×Int×Int×Bool×LI×LI)→Option Ans)→Option Ans
def F_ref02_Decoder_Get_0a6 (fuel:Nat):YF157_0a6:=Fg_ref02_Decoder_Get_0a6 fuel (F_ref02_byteAt fuel) (F_ref02_Likely fuel) (F_ref02_Interval_Part fuel) (F_ref02_After fuel) (F_ref02_Interval_Fixed fuel) (F_ref02_Interval_Shifted fuel) (F_ref02_Interval_Mid fuel)
theorem F157_0a6_eqg (fuel:Nat) (a:YF155) (b:YF179) (d:YF180) (e:YF181) (f:YF182) (g:YF183) (h:YF225) (i j:Int) (l m:Int) (n o p:Int) (q:Bool) (s t:LI) (k:Ev.Cont):evalFn tab (Gg157_0a6 a b d e f g h) (J157_0a6 fuel) kp157_0a6 fuel Tryz.f157 [.c (.ptr 0 0),.c (i6 i)] [.cells 204 [i6 j,.own 1,.int .u64 l,.int .u64 m,.own 2,i6 n,.int .u64 o,i6 p,.bool q],.vec 3 (.int .i64) s false,.vec 5 (.int .u8) t false] k=Fg_ref02_Decoder_Get_0a6 fuel a b d e f g h i j l m n o p q s t (fun r=>match r with | (v,w,x,y,z,A,B,C,D,E,u)=>k (.tup [(false,[i6 v]),(false,[i6 w])],[.cells 204 [i6 x,.own 1,.int .u64 y,.int .u64 z,.own 2,i6 A,.int .u64 B,i6 C,.bool D],.vec 3 (.int .i64) E false,.vec 5 (.int .u8) u false])):=by
  kernel_rfl
theorem hG157_0a6 (fuel:Nat):GOK Tryz.prog (G157_0a6 fuel):=
  gc (ok155 fuel) Tryz.func155 (by kernel_rfl) rfl <|
  gc (ok179 fuel) Tryz.func179 (by kernel_rfl) rfl <|
  gc (ok180 fuel) Tryz.func180 (by kernel_rfl) rfl <|
  gc (ok181 fuel) Tryz.func181 (by kernel_rfl) rfl <|
  gc (ok182 fuel) Tryz.func182 (by kernel_rfl) rfl <|
  gc (ok183 fuel) Tryz.func183 (by kernel_rfl) rfl <|
  gc (ok225 fuel) Tryz.func225 (by kernel_rfl) rfl <|
  gok_nil
theorem B157_0a6_0_blk (fuel:Nat):BlkOK Tryz.prog Tryz.f157.ntmps (.block 0 (.loop (bodyOf 0 Tryz.f157))) (B157_0a6_0 fuel):=bo0 (hG157_0a6 fuel) (by kernel_rfl) (by kernel_rfl) (B157_0a6_0_ok fuel)
def spg157_0a6 (F:YF157_0a6):Ev.Spec:=fun args objs k=>match args,objs with | [.c (.ptr b d),.c (i6 e)],[.cells f [i6 g,.own h,.int .u64 i,.int .u64 j,.own l,i6 m,.int .u64 n,i6 o,.bool p],.vec q (.int .i64) s false,.vec t (.int .u8) u false]=>bif qb [b,d,f,h,l,q,t] [0,0,204,1,2,3,5] then F e g i j m n o p s u (fun r=>match r with | (v,w,x,y,z,A,B,C,D,E,a)=>k (.tup [(false,[i6 v]),(false,[i6 w])],[.cells 204 [i6 x,.own 1,.int .u64 y,.int .u64 z,.own 2,i6 A,.int .u64 B,i6 C,.bool D],.vec 3 (.int .i64) E false,.vec 5 (.int .u8) a false])) else none | _,_=>none
theorem ok157_0a6 (fuel:Nat):FnOK Tryz.prog 157 (spg157_0a6 (F_ref02_Decoder_Get_0a6 fuel)):=by
  intro args objs kk r h
  unfold spg157_0a6 at h
  split at h
  · skip
    obtain ⟨hb,h⟩:=cond_some' h
    cases qb_eq hb
    exact fo1 (hG157_0a6 fuel) Tryz.func157 rfl (B157_0a6_0_blk fuel) (by kernel_rfl) _ _ kk r ((F157_0a6_eqg fuel (F_ref02_byteAt fuel) (F_ref02_Likely fuel) (F_ref02_Interval_Part fuel) (F_ref02_After fuel) (F_ref02_Interval_Fixed fuel) (F_ref02_Interval_Shifted fuel) (F_ref02_Interval_Mid fuel) _ _ _ _ _ _ _ _ _ _ kk).trans h)
  · cases h
def kp156_a7e (i:Nat):Option (List Nat):=Ev.look i []
def Gg156_a7e (a:YF133) (f:Nat):Option Ev.Spec:=Ev.look f [(133,spg133 a)]
def G156_a7e (fuel:Nat):Nat→Option Ev.Spec:=Gg156_a7e (F_ref02_Copy fuel)
def Fg_ref02_Decoder_Model_a7e (fuel:Nat) (c:YF133) (a f:Int) (g h:Int) (i j:Int) (k:Bool) (b l:LI) (k0:(Int×Int×Int×Int×Int×Int×Int×Bool×LI×LI×LI)→OA):OA:=(c a b (fun (d,e)=>k0 (d,a,f,g,h,i,j,k,b,l,e)))
abbrev YF156_a7e:Type:=Int→Int→Int→Int→Int→Int→Bool→LI→LI→((Int×Int×Int×Int×Int×Int×Int×Bool×LI×LI×LI)→Option Ans)→Option Ans
def F_ref02_Decoder_Model_a7e (fuel:Nat):YF156_a7e:=Fg_ref02_Decoder_Model_a7e fuel (F_ref02_Copy fuel)
theorem F156_a7e_eqg (fuel:Nat) (a:YF133) (b d:Int) (e f:Int) (g h:Int) (i:Bool) (j l:LI) (k:Ev.Cont):evalFn tab (Gg156_a7e a) J0 kp156_a7e fuel Tryz.f156 [.c (.ptr 0 0)] [.cells 204 [i6 b,.own 1,.int .u64 d,.int .u64 e,.own 2,i6 f,.int .u64 g,i6 h,.bool i],.vec 3 (.int .i64) j false,.vec 5 (.int .u8) l false] k=Fg_ref02_Decoder_Model_a7e fuel a b d e f g h i j l (fun r=>match r with | (n,o,p,q,s,t,u,v,w,x,m)=>k (.agg [i6 n,.own 3],[.cells 204 [i6 o,.own 1,.int .u64 p,.int .u64 q,.own 2,i6 s,.int .u64 t,i6 u,.bool v],.vec 3 (.int .i64) w false,.vec 5 (.int .u8) x false,.vec 3 (.int .i64) m true])):=by
  kernel_rfl
theorem hG156_a7e (fuel:Nat):GOK Tryz.prog (G156_a7e fuel):=
  gc (ok133 fuel) Tryz.func133 (by kernel_rfl) rfl <|
  gok_nil
def spg156_a7e (F:YF156_a7e):Ev.Spec:=fun args objs k=>match args,objs with | [.c (.ptr b d)],[.cells e [i6 f,.own g,.int .u64 h,.int .u64 i,.own j,i6 l,.int .u64 m,i6 n,.bool o],.vec p (.int .i64) q false,.vec s (.int .u8) t false]=>bif qb [b,d,e,g,j,p,s] [0,0,204,1,2,3,5] then F f h i l m n o q t (fun r=>match r with | (u,v,w,x,y,z,A,B,C,D,a)=>k (.agg [i6 u,.own 3],[.cells 204 [i6 v,.own 1,.int .u64 w,.int .u64 x,.own 2,i6 y,.int .u64 z,i6 A,.bool B],.vec 3 (.int .i64) C false,.vec 5 (.int .u8) D false,.vec 3 (.int .i64) a true])) else none | _,_=>none
theorem ok156_a7e (fuel:Nat):FnOK Tryz.prog 156 (spg156_a7e (F_ref02_Decoder_Model_a7e fuel)):=by
  intro args objs kk r h
  unfold spg156_a7e at h
  split at h
  · skip
    obtain ⟨hb,h⟩:=cond_some' h
    cases qb_eq hb
    exact fo0 (hG156_a7e fuel) Tryz.func156 rfl (by kernel_rfl) _ _ kk r ((F156_a7e_eqg fuel (F_ref02_Copy fuel) _ _ _ _ _ _ _ _ _ kk).trans h)
  · cases h
def kp176 (i:Nat):Option (List Nat):=Ev.look i []
def Gg176 (f:Nat):Option Ev.Spec:=Ev.look f []
def G176 (fuel:Nat):Nat→Option Ev.Spec:=Gg176
def F_ref03_room (fuel:Nat) (b a c:Int) (k0:(Bool)→Option Ans):Option Ans:=bif decide (a≥0) then bif decide (a≤b) then k0 (decide (c≤i64.wrap (b - a))) else k0 false else k0 false
abbrev YF176:Type:=Int→Int→Int→(Bool→Option Ans)→Option Ans
theorem F176_eq (fuel:Nat) (a b d:Int) (k:Ev.Cont):evalFn tab (G176 fuel) J0 kp176 fuel Tryz.f176 [.c (i6 a),.c (i6 b),.c (i6 d)] [] k=F_ref03_room fuel a b d (fun r=>match r with | e=>k (.c (.bool e),[])):=by
  kernel_rfl
theorem hG176 (fuel:Nat):GOK Tryz.prog (G176 fuel):=
  gok_nil
def spg176 (F:YF176):Ev.Spec:=fun args objs k=>match args,objs with | [.c (i6 a),.c (i6 b),.c (i6 d)],[]=>F a b d (fun r=>match r with | e=>k (.c (.bool e),[])) | _,_=>none
theorem ok176 (fuel:Nat):FnOK Tryz.prog 176 (spg176 (F_ref03_room fuel)):=by
  intro args objs kk r h
  unfold spg176 at h
  split at h
  · skip
    exact fo0 (hG176 fuel) Tryz.func176 rfl (by kernel_rfl) _ _ kk r ((F176_eq fuel _ _ _ kk).trans h)
  · cases h
def kp192_0a6 (i:Nat):Option (List Nat):=Ev.look i [(7,[0,1,4,8]),(15,[0,1,4,8,11,12]),(100000,[0,1,4,8]),(100002,[0,1,4,11]),(400000,[4,5]),(400002,[4,5])]
def Gg192_0a6 (a:YF156_a7e) (b:YF157_0a6) (c:YF176) (f:Nat):Option Ev.Spec:=Ev.look f [(156,spg156_a7e a),(157,spg157_0a6 b),(176,spg176 c)]
def G192_0a6 (fuel:Nat):Nat→Option Ev.Spec:=Gg192_0a6 (F_ref02_Decoder_Model_a7e fuel) (F_ref02_Decoder_Get_0a6 fuel) (F_ref03_room fuel)
abbrev V_ref03_Get_0a6_0:Type:=Int×Int×Int×Int×Int×Int×Int×Int×Bool×LI×LI×Bool×Int
abbrev W_ref03_Get_0a6_0:Type:=(Int×Int×Int×Int×Int×Int×Int×Bool×LI×LI×Bool×Int→OA)×(Int×Int×Int×Int×Int×Int×Int×Int×Bool×LI×LI×Bool×Int→OA)
def Sg_ref03_Get_0a6_0 (fuel:Nat) (C:YF156_a7e) (z:YF157_0a6) (D:YF176) (d a:Int) (r s:Int) (t u:Int) (v w:Int) (x:Bool) (y q:LI) (n:Bool) (o:Int) (c:V_ref03_Get_0a6_0→OA) (B:W_ref03_Get_0a6_0):OA:=match B with | (ret,b)=>bif decide (a < 20) then (z (i64.wrap (i64.wrap (d+1)+a)) r s t u v w x y q (fun (A,p,f,g,h,i,j,k,l,m,e)=>bif p != 0 then ret (p,f,g,h,i,j,k,l,m,e,false,0) else bif A==0 then b (d,a,f,g,h,i,j,k,l,m,e,n,o) else c (d,i64.wrap (a+1),f,g,h,i,j,k,l,m,e,n,o))) else b (d,a,r,s,t,u,v,w,x,y,q,n,o)
def S_ref03_Get_0a6_0 (fuel:Nat) (v:Int×Int×Int×Int×Int×Int×Int×Int×Bool×(List Int)×(List Int)×Bool×Int) (c:(Int×Int×Int×Int×Int×Int×Int×Int×Bool×(List Int)×(List Int)×Bool×Int)→Option Ans) (B:(Int×Int×Int×Int×Int×Int×Int×Bool×(List Int)×(List Int)×Bool×Int→Option Ans)×(Int×Int×Int×Int×Int×Int×Int×Int×Bool×(List Int)×(List Int)×Bool×Int→Option Ans)):Option Ans:=match v with | (e,f,g,h,i,j,k,l,m,n,a,b,d)=>Sg_ref03_Get_0a6_0 fuel (F_ref02_Decoder_Model_a7e fuel) (F_ref02_Decoder_Get_0a6 fuel) (F_ref03_room fuel) e f g h i j k l m n a b d c B
def L_ref03_Get_0a6_0 (fuel:Nat) (v:V_ref03_Get_0a6_0) (ret:(Int×Int×Int×Int×Int×Int×Int×Bool×(List Int)×(List Int)×Bool×Int→Option Ans)) (b:(Int×Int×Int×Int×Int×Int×Int×Int×Bool×(List Int)×(List Int)×Bool×Int→Option Ans)):Option Ans:=iter (S_ref03_Get_0a6_0 fuel) fuel v (ret,b)
def T192_0a6_0 (v:V_ref03_Get_0a6_0):Ev.St:=match v with | (e,f,g,h,i,j,k,l,m,n,a,b,d)=>⟨[(0,.c (.ptr 0 0)),(1,.c (i6 e)),(4,.c (.ptr 3 0)),(8,.c (i6 f))],[(0,.cells 204 [i6 g,.own 1,.int .u64 h,.int .u64 i,.own 2,i6 j,.int .u64 k,i6 l,.bool m]),(1,.vec 3 (.int .i64) n false),(2,.vec 5 (.int .u8) a false),(3,.cells 124 [.bool b,i6 d])],4,3⟩
def E192_0a6_0 (K:KT):W_ref03_Get_0a6_0:=((fun v=>match v with | (d,e,f,g,h,i,j,k,l,m,a,b)=>K .ret ⟨[(4,.c (.ptr 3 0)),(5,.c (i6 d))],[(0,.cells 204 [i6 e,.own 1,.int .u64 f,.int .u64 g,.own 2,i6 h,.int .u64 i,i6 j,.bool k]),(1,.vec 3 (.int .i64) l false),(2,.vec 5 (.int .u8) m false),(3,.cells 124 [.bool a,i6 b])],4,3⟩),(fun v=>match v with | (d,e,f,g,h,i,j,k,l,m,a,b,n)=>K .normal ⟨[(0,.c (.ptr 0 0)),(1,.c (i6 d)),(4,.c (.ptr 3 0)),(8,.c (i6 e))],[(0,.cells 204 [i6 f,.own 1,.int .u64 g,.int .u64 h,.own 2,i6 i,.int .u64 j,i6 k,.bool l]),(1,.vec 3 (.int .i64) m false),(2,.vec 5 (.int .u8) a false),(3,.cells 124 [.bool b,i6 n])],4,3⟩))
theorem S192_0a6_0_okg (fuel:Nat) (a:YF156_a7e) (b:YF157_0a6) (c:YF176) (R:Ev.St→OA) (K:KT) (g h:Int) (i j:Int) (k l:Int) (m n:Int) (o:Bool) (p d:LI) (e:Bool) (f:Int):evalCode tab (Gg192_0a6 a b c) J0 kp192_0a6 fuel (bodyOf 0 Tryz.f192) (T192_0a6_0 (g,h,i,j,k,l,m,n,o,p,d,e,f)) (lc kp192_0a6 7 0 R K)=Sg_ref03_Get_0a6_0 fuel a b c g h i j k l m n o p d e f (fun v=>R (T192_0a6_0 v)) (E192_0a6_0 K):=by
  kernel_rfl
def B192_0a6_0 (fuel:Nat):Ev.Blk:=fun st K=>match canonO (kp192_0a6 7) st with | some s=>(match s with | ⟨[(o,.c (.ptr p q)),(r,.c (i6 t)),(u,.c (.ptr v w)),(x,.c (i6 y))],[(z,.cells A [i6 B,.own a,.int .u64 C,.int .u64 D,.own b,i6 E,.int .u64 F,i6 G,.bool H]),(d,.vec e (.int .i64) I false),(f,.vec g (.int .u8) h false),(i,.cells j [.bool k,i6 l])],m,n⟩=>bif qb [o,p,q,r,u,v,w,x,z,A,a,b,d,e,f,g,i,j,m,n] [0,0,0,1,4,3,0,8,0,204,1,2,1,3,2,5,3,124,4,3] then iter (S_ref03_Get_0a6_0 fuel) fuel (t,y,B,C,D,E,F,G,H,I,h,k,l) (E192_0a6_0 K) else none | _=>none) | none=>none
theorem B192_0a6_0_ok (fuel:Nat) (st:Ev.St) (K:KT) (r:Ans) (h:B192_0a6_0 fuel st K=some r):evalCode tab (G192_0a6 fuel) J0 kp192_0a6 fuel (.block 0 (.loop (bodyOf 0 Tryz.f192))) st K=some r:=by
  unfold B192_0a6_0 at h
  split at h
  · rename_i s hs
    split at h
    · skip
      obtain ⟨hb,h⟩:=cond_some' h
      cases qb_eq hb
      exact blk_loop (S:=T192_0a6_0) (ks:=E192_0a6_0) (step:=S_ref03_Get_0a6_0 fuel) (v:=(_,_,_,_,_,_,_,_,_,_,_,_,_)) (by kernel_rfl) (by kernel_rfl) (fun R K v=>by obtain ⟨d,e,f,g,i,j,k,l,m,n,a,b,c⟩:=v; exact S192_0a6_0_okg fuel (F_ref02_Decoder_Model_a7e fuel) (F_ref02_Decoder_Get_0a6 fuel) (F_ref03_room fuel) R K d e f g i j k l m n a b c) hs h
    · cases h
  · cases h
abbrev V_ref03_Get_0a6_2:Type:=Int×Int×Int×Int×Int×Int×Int×Int×Int×Int×Bool×LI×LI×Bool×Int
abbrev W_ref03_Get_0a6_2:Type:=(Int×Int×Int×Int×Int×Int×Int×Bool×LI×LI×Bool×Int→OA)×(Int×Int×Int×Int×Int×Int×Int×Int×Bool×LI×LI×Bool×Int→OA)
def Sg_ref03_Get_0a6_2 (fuel:Nat) (E:YF156_a7e) (D:YF157_0a6) (F:YF176) (n o:Int) (v a:Int) (w x:Int) (y z:Int) (A C:Int) (q:Bool) (r s:LI) (t:Bool) (u:Int) (c:V_ref03_Get_0a6_2→OA) (B:W_ref03_Get_0a6_2):OA:=match B with | (ret,b)=>bif decide (a < o) then bif a==0 then (D (i64.wrap (n+i64.wrap (23+o))) w x y z A C q r s (fun (p,e,f,g,h,i,j,k,l,m,d)=>bif e != 0 then ret (e,f,g,h,i,j,k,l,m,d,false,0) else c (n,o,i64.wrap (i64.wrap (2*v)+p),i64.wrap (a+1),f,g,h,i,j,k,l,m,d,t,u))) else (D (i64.wrap (n+bif decide (47 < i64.wrap (43+a)) then 47 else i64.wrap (43+a))) w x y z A C q r s (fun (p,e,f,g,h,i,j,k,l,m,d)=>bif e != 0 then ret (e,f,g,h,i,j,k,l,m,d,false,0) else c (n,o,i64.wrap (i64.wrap (2*v)+p),i64.wrap (a+1),f,g,h,i,j,k,l,m,d,t,u))) else b (n,v,w,x,y,z,A,C,q,r,s,t,u)
def S_ref03_Get_0a6_2 (fuel:Nat) (v:Int×Int×Int×Int×Int×Int×Int×Int×Int×Int×Bool×(List Int)×(List Int)×Bool×Int) (c:(Int×Int×Int×Int×Int×Int×Int×Int×Int×Int×Bool×(List Int)×(List Int)×Bool×Int)→Option Ans) (B:(Int×Int×Int×Int×Int×Int×Int×Bool×(List Int)×(List Int)×Bool×Int→Option Ans)×(Int×Int×Int×Int×Int×Int×Int×Int×Bool×(List Int)×(List Int)×Bool×Int→Option Ans)):Option Ans:=match v with | (g,h,i,j,k,l,m,n,o,p,a,b,d,e,f)=>Sg_ref03_Get_0a6_2 fuel (F_ref02_Decoder_Model_a7e fuel) (F_ref02_Decoder_Get_0a6 fuel) (F_ref03_room fuel) g h i j k l m n o p a b d e f c B
def L_ref03_Get_0a6_2 (fuel:Nat) (v:V_ref03_Get_0a6_2) (ret:(Int×Int×Int×Int×Int×Int×Int×Bool×(List Int)×(List Int)×Bool×Int→Option Ans)) (b:(Int×Int×Int×Int×Int×Int×Int×Int×Bool×(List Int)×(List Int)×Bool×Int→Option Ans)):Option Ans:=iter (S_ref03_Get_0a6_2 fuel) fuel v (ret,b)
def J192_0a6_2 (fuel:Nat) (i:Nat):Option Ev.Blk:=Ev.look i [(100000,B192_0a6_0 fuel)]
def T192_0a6_2 (v:V_ref03_Get_0a6_2):Ev.St:=match v with | (g,h,i,j,k,l,m,n,o,p,a,b,d,e,f)=>⟨[(0,.c (.ptr 0 0)),(1,.c (i6 g)),(4,.c (.ptr 3 0)),(8,.c (i6 h)),(11,.c (i6 i)),(12,.c (i6 j))],[(0,.cells 204 [i6 k,.own 1,.int .u64 l,.int .u64 m,.own 2,i6 n,.int .u64 o,i6 p,.bool a]),(1,.vec 3 (.int .i64) b false),(2,.vec 5 (.int .u8) d false),(3,.cells 124 [.bool e,i6 f])],4,3⟩
def E192_0a6_2 (K:KT):W_ref03_Get_0a6_2:=((fun v=>match v with | (d,e,f,g,h,i,j,k,l,m,a,b)=>K .ret ⟨[(4,.c (.ptr 3 0)),(5,.c (i6 d))],[(0,.cells 204 [i6 e,.own 1,.int .u64 f,.int .u64 g,.own 2,i6 h,.int .u64 i,i6 j,.bool k]),(1,.vec 3 (.int .i64) l false),(2,.vec 5 (.int .u8) m false),(3,.cells 124 [.bool a,i6 b])],4,3⟩),(fun v=>match v with | (d,e,f,g,h,i,j,k,l,m,a,b,n)=>K .normal ⟨[(0,.c (.ptr 0 0)),(1,.c (i6 d)),(4,.c (.ptr 3 0)),(11,.c (i6 e))],[(0,.cells 204 [i6 f,.own 1,.int .u64 g,.int .u64 h,.own 2,i6 i,.int .u64 j,i6 k,.bool l]),(1,.vec 3 (.int .i64) m false),(2,.vec 5 (.int .u8) a false),(3,.cells 124 [.bool b,i6 n])],4,3⟩))
theorem S192_0a6_2_okg (fuel:Nat) (a:YF156_a7e) (b:YF157_0a6) (c:YF176) (R:Ev.St→OA) (K:KT) (i j:Int) (k l:Int) (m n:Int) (o p:Int) (q r:Int) (d:Bool) (e f:LI) (g:Bool) (h:Int):evalCode tab (Gg192_0a6 a b c) (J192_0a6_2 fuel) kp192_0a6 fuel (bodyOf 2 Tryz.f192) (T192_0a6_2 (i,j,k,l,m,n,o,p,q,r,d,e,f,g,h)) (lc kp192_0a6 15 2 R K)=Sg_ref03_Get_0a6_2 fuel a b c i j k l m n o p q r d e f g h (fun v=>R (T192_0a6_2 v)) (E192_0a6_2 K):=by
  kernel_rfl
def B192_0a6_2 (fuel:Nat):Ev.Blk:=fun st K=>match canonO (kp192_0a6 15) st with | some s=>(match s with | ⟨[(t,.c (.ptr u v)),(w,.c (i6 x)),(y,.c (.ptr z A)),(B,.c (i6 C)),(D,.c (i6 E)),(F,.c (i6 G))],[(a,.cells b [i6 H,.own d,.int .u64 I,.int .u64 J,.own e,i6 L,.int .u64 M,i6 N,.bool f]),(g,.vec h (.int .i64) i false),(j,.vec k (.int .u8) l false),(m,.cells n [.bool o,i6 p])],q,r⟩=>bif qb [t,u,v,w,y,z,A,B,D,F,a,b,d,e,g,h,j,k,m,n,q,r] [0,0,0,1,4,3,0,8,11,12,0,204,1,2,1,3,2,5,3,124,4,3] then iter (S_ref03_Get_0a6_2 fuel) fuel (x,C,E,G,H,I,J,L,M,N,f,i,l,o,p) (E192_0a6_2 K) else none | _=>none) | none=>none
theorem B192_0a6_2_ok (fuel:Nat) (st:Ev.St) (K:KT) (r:Ans) (h:B192_0a6_2 fuel st K=some r):evalCode tab (G192_0a6 fuel) (J192_0a6_2 fuel) kp192_0a6 fuel (.block 2 (.loop (bodyOf 2 Tryz.f192))) st K=some r:=by
  unfold B192_0a6_2 at h
  split at h
  · rename_i s hs
    split at h
    · skip
      obtain ⟨hb,h⟩:=cond_some' h
      cases qb_eq hb
      exact blk_loop (S:=T192_0a6_2) (ks:=E192_0a6_2) (step:=S_ref03_Get_0a6_2 fuel) (v:=(_,_,_,_,_,_,_,_,_,_,_,_,_,_,_)) (by kernel_rfl) (by kernel_rfl) (fun R K v=>by obtain ⟨f,g,i,j,k,l,m,n,o,p,a,b,c,d,e⟩:=v; exact S192_0a6_2_okg fuel (F_ref02_Decoder_Model_a7e fuel) (F_ref02_Decoder_Get_0a6 fuel) (F_ref03_room fuel) R K f g i j k l m n o p a b c d e) hs h
    · cases h
  · cases h
def J192_0a6 (fuel:Nat) (i:Nat):Option Ev.Blk:=Ev.look i [(100000,B192_0a6_0 fuel),(100002,B192_0a6_2 fuel)]
def Fg_ref03_Get_0a6 (fuel:Nat) (P:YF156_a7e) (v:YF157_0a6) (W:YF176) (u a8:Int) (a9 b0:Int) (b1 b2 b3:Int) (b4:Bool) (b5 b6:LI) (k0:(Bool×Int×Int×Int×Int×Int×Int×Int×Int×Bool×LI×LI)→OA):OA:=(P a8 a9 b0 b1 b2 b3 b4 b5 b6 (fun (c0,G,H,I,J,K,L,M,N,O,Q)=>(W ((↑Q.length:Int)) u (48) (fun b7=>bif !b7 then k0 (false,0,2,G,H,I,J,K,L,M,N,O) else (v u G H I J K L M N O (fun (R,a,c,d,e,f,g,h,i,j,b)=>bif a != 0 then k0 (a==0,0,a,c,d,e,f,g,h,i,j,b) else bif R==1 then k0 (a==0,0,a,c,d,e,f,g,h,i,j,b) else (L_ref03_Get_0a6_0 fuel (u,0,c,d,e,f,g,h,i,j,b,false,0) (fun (ret0_0,ret0_1,ret0_2,ret0_3,ret0_4,ret0_5,ret0_6,ret0_7,ret0_8,ret0_9,ret0_10,ret0_11)=>k0 (ret0_10,ret0_11,ret0_0,ret0_1,ret0_2,ret0_3,ret0_4,ret0_5,ret0_6,ret0_7,ret0_8,ret0_9)) (fun (X,Y,Z,a0,a1,a2,a3,a4,a5,a6,S,T,U)=>(L_ref03_Get_0a6_2 fuel (X,Y,1,0,Z,a0,a1,a2,a3,a4,a5,a6,S,T,U) (fun (ret2_0,ret2_1,ret2_2,ret2_3,ret2_4,ret2_5,ret2_6,ret2_7,ret2_8,ret2_9,ret2_10,ret2_11)=>k0 (ret2_10,ret2_11,ret2_0,ret2_1,ret2_2,ret2_3,ret2_4,ret2_5,ret2_6,ret2_7,ret2_8,ret2_9)) (fun (a7,l,m,n,o,p,q,r,s,t,k,b8,b9)=>bif decide (l > 1048577) then k0 (false,0,3,m,n,o,p,q,r,s,t,k) else bif l==1 then k0 (false,0,0,m,n,o,p,q,r,s,t,k) else (v (i64.wrap (a7+22)) m n o p q r s t k (fun (V,x,y,z,A,B,C,D,E,F,w)=>bif x != 0 then k0 (false,0,x,y,z,A,B,C,D,E,F,w) else k0 (false,i64.wrap (i64.wrap (l - 1)*i64.wrap (1 - i64.wrap (2*V))),0,y,z,A,B,C,D,E,F,w)))))))))))))
abbrev YF192_0a6:Type:=Int→Int→Int→Int→Int→Int→Int→Bool→LI→LI→((Bool×Int×Int×Int×Int×Int×Int×Int×Int×Bool×LI×LI)→Option Ans)→Option Ans
def F_ref03_Get_0a6 (fuel:Nat):YF192_0a6:=Fg_ref03_Get_0a6 fuel (F_ref02_Decoder_Model_a7e fuel) (F_ref02_Decoder_Get_0a6 fuel) (F_ref03_room fuel)
theorem F192_0a6_eqg (fuel:Nat) (a:YF156_a7e) (b:YF157_0a6) (d:YF176) (e f:Int) (g h:Int) (i j l:Int) (m:Bool) (n o:LI) (k:Ev.Cont):evalFn tab (Gg192_0a6 a b d) (J192_0a6 fuel) kp192_0a6 fuel Tryz.f192 [.c (.ptr 0 0),.c (i6 e)] [.cells 204 [i6 f,.own 1,.int .u64 g,.int .u64 h,.own 2,i6 i,.int .u64 j,i6 l,.bool m],.vec 3 (.int .i64) n false,.vec 5 (.int .u8) o false] k=Fg_ref03_Get_0a6 fuel a b d e f g h i j l m n o (fun r=>match r with | (s,t,u,v,w,x,y,z,A,B,p,q)=>k (.tup [(true,[.bool s,i6 t]),(false,[i6 u])],[.cells 204 [i6 v,.own 1,.int .u64 w,.int .u64 x,.own 2,i6 y,.int .u64 z,i6 A,.bool B],.vec 3 (.int .i64) p false,.vec 5 (.int .u8) q false])):=by
  kernel_rfl
theorem hG192_0a6 (fuel:Nat):GOK Tryz.prog (G192_0a6 fuel):=
  gc (ok156_a7e fuel) Tryz.func156 (by kernel_rfl) rfl <|
  gc (ok157_0a6 fuel) Tryz.func157 (by kernel_rfl) rfl <|
  gc (ok176 fuel) Tryz.func176 (by kernel_rfl) rfl <|
  gok_nil
theorem B192_0a6_0_blk (fuel:Nat):BlkOK Tryz.prog Tryz.f192.ntmps (.block 0 (.loop (bodyOf 0 Tryz.f192))) (B192_0a6_0 fuel):=bo0 (hG192_0a6 fuel) (by kernel_rfl) (by kernel_rfl) (B192_0a6_0_ok fuel)
theorem B192_0a6_2_blk (fuel:Nat):BlkOK Tryz.prog Tryz.f192.ntmps (.block 2 (.loop (bodyOf 2 Tryz.f192))) (B192_0a6_2 fuel):=bo0 (hG192_0a6 fuel) (by kernel_rfl) (by kernel_rfl) (B192_0a6_2_ok fuel)
theorem fok192_0a6 (fuel:Nat):FnOK Tryz.prog 192 (evalFn tab (G192_0a6 fuel) (J192_0a6 fuel) kp192_0a6 fuel Tryz.f192):=
  fn_ok tab_ok (hG192_0a6 fuel) mixed Tryz.func192 (c:=(Tryz.f192.body).getD .skip) rfl (fun q hq=>by
    rw [(by kernel_rfl:obl (J192_0a6 fuel) ((Tryz.f192.body).getD .skip)= [(.block 0 (.loop (bodyOf 0 Tryz.f192)),B192_0a6_0 fuel),(.block 2 (.loop (bodyOf 2 Tryz.f192)),B192_0a6_2 fuel)])] at hq
    simp only [List.mem_cons,List.not_mem_nil,or_false] at hq
    rcases hq with rfl | rfl
    · exact B192_0a6_0_blk fuel
    · exact B192_0a6_2_blk fuel)
def spg192_0a6 (F:YF192_0a6):Ev.Spec:=fun args objs k=>match args,objs with | [.c (.ptr d e),.c (i6 f)],[.cells g [i6 h,.own i,.int .u64 j,.int .u64 l,.own m,i6 n,.int .u64 o,i6 p,.bool q],.vec s (.int .i64) t false,.vec u (.int .u8) v false]=>bif qb [d,e,g,i,m,s,u] [0,0,204,1,2,3,5] then F f h j l n o p q t v (fun r=>match r with | (w,x,y,z,A,B,C,D,E,G,a,b)=>k (.tup [(true,[.bool w,i6 x]),(false,[i6 y])],[.cells 204 [i6 z,.own 1,.int .u64 A,.int .u64 B,.own 2,i6 C,.int .u64 D,i6 E,.bool G],.vec 3 (.int .i64) a false,.vec 5 (.int .u8) b false])) else none | _,_=>none
theorem ok192_0a6 (fuel:Nat):FnOK Tryz.prog 192 (spg192_0a6 (F_ref03_Get_0a6 fuel)):=by
  intro args objs kk r h
  unfold spg192_0a6 at h
  split at h
  · skip
    obtain ⟨hb,h⟩:=cond_some' h
    cases qb_eq hb
    exact fok192_0a6 fuel _ _ kk r ((F192_0a6_eqg fuel (F_ref02_Decoder_Model_a7e fuel) (F_ref02_Decoder_Get_0a6 fuel) (F_ref03_room fuel) _ _ _ _ _ _ _ _ _ _ kk).trans h)
  · cases h
def kp178 (i:Nat):Option (List Nat):=Ev.look i []
def Gg178 (f:Nat):Option Ev.Spec:=Ev.look f []
def G178 (fuel:Nat):Nat→Option Ev.Spec:=Gg178
def F_ref03_isId (fuel:Nat) (a b:Int) (k0:(Bool)→Option Ans):Option Ans:=bif decide (a≥0) then bif decide (a≤10) then bif decide (b≥0) then bif decide (a < 0) then none else k0 (decide (b < Ev.ishl IntKind.i64 1 a)) else k0 false else k0 false else k0 false
abbrev YF178:Type:=Int→Int→(Bool→Option Ans)→Option Ans
theorem F178_eq (fuel:Nat) (a b:Int) (k:Ev.Cont):evalFn tab (G178 fuel) J0 kp178 fuel Tryz.f178 [.c (i6 a),.c (i6 b)] [] k=F_ref03_isId fuel a b (fun r=>match r with | d=>k (.c (.bool d),[])):=by
  kernel_rfl
theorem hG178 (fuel:Nat):GOK Tryz.prog (G178 fuel):=
  gok_nil
def spg178 (F:YF178):Ev.Spec:=fun args objs k=>match args,objs with | [.c (i6 a),.c (i6 b)],[]=>F a b (fun r=>match r with | d=>k (.c (.bool d),[])) | _,_=>none
theorem ok178 (fuel:Nat):FnOK Tryz.prog 178 (spg178 (F_ref03_isId fuel)):=by
  intro args objs kk r h
  unfold spg178 at h
  split at h
  · skip
    exact fo0 (hG178 fuel) Tryz.func178 rfl (by kernel_rfl) _ _ kk r ((F178_eq fuel _ _ kk).trans h)
  · cases h
def kp243_67d (i:Nat):Option (List Nat):=Ev.look i [(5,[0,1,2,8,9]),(100000,[2,8]),(400000,[6,7])]
def Gg243_67d (a:YF156_a7e) (b:YF157_0a6) (c:YF176) (d:YF178) (f:Nat):Option Ev.Spec:=Ev.look f [(156,spg156_a7e a),(157,spg157_0a6 b),(176,spg176 c),(178,spg178 d)]
def G243_67d (fuel:Nat):Nat→Option Ev.Spec:=Gg243_67d (F_ref02_Decoder_Model_a7e fuel) (F_ref02_Decoder_Get_0a6 fuel) (F_ref03_room fuel) (F_ref03_isId fuel)
abbrev V_ref03_GetId_67d_0:Type:=Int×Int×Int×Int×Int×Int×Int×Int×Int×Int×Bool×LI×LI
abbrev W_ref03_GetId_67d_0:Type:=(Int×Int×Int×Int×Int×Int×Int×Int×Bool×LI×LI→OA)×(Int×Int×Int×Int×Int×Int×Int×Int×Bool×LI×LI→OA)
def Sg_ref03_GetId_67d_0 (fuel:Nat) (C:YF156_a7e) (z:YF157_0a6) (D:YF176) (E:YF178) (r a:Int) (d s:Int) (t u:Int) (v w:Int) (x y:Int) (o:Bool) (p q:LI) (c:V_ref03_GetId_67d_0→OA) (B:W_ref03_GetId_67d_0):OA:=match B with | (ret,b)=>bif decide (s < a) then (z (i64.wrap (i64.wrap (r+d) - 1)) t u v w x y o p q (fun (A,f,g,h,i,j,k,l,m,n,e)=>bif f != 0 then ret (0,f,g,h,i,j,k,l,m,n,e) else c (r,a,i64.wrap (i64.wrap (2*d)+A),i64.wrap (s+1),g,h,i,j,k,l,m,n,e))) else b (a,d,t,u,v,w,x,y,o,p,q)
def S_ref03_GetId_67d_0 (fuel:Nat) (v:Int×Int×Int×Int×Int×Int×Int×Int×Int×Int×Bool×(List Int)×(List Int)) (c:(Int×Int×Int×Int×Int×Int×Int×Int×Int×Int×Bool×(List Int)×(List Int))→Option Ans) (B:(Int×Int×Int×Int×Int×Int×Int×Int×Bool×(List Int)×(List Int)→Option Ans)×(Int×Int×Int×Int×Int×Int×Int×Int×Bool×(List Int)×(List Int)→Option Ans)):Option Ans:=match v with | (e,f,g,h,i,j,k,l,m,n,a,b,d)=>Sg_ref03_GetId_67d_0 fuel (F_ref02_Decoder_Model_a7e fuel) (F_ref02_Decoder_Get_0a6 fuel) (F_ref03_room fuel) (F_ref03_isId fuel) e f g h i j k l m n a b d c B
def L_ref03_GetId_67d_0 (fuel:Nat) (v:V_ref03_GetId_67d_0) (ret:(Int×Int×Int×Int×Int×Int×Int×Int×Bool×(List Int)×(List Int)→Option Ans)) (b:(Int×Int×Int×Int×Int×Int×Int×Int×Bool×(List Int)×(List Int)→Option Ans)):Option Ans:=iter (S_ref03_GetId_67d_0 fuel) fuel v (ret,b)
def T243_67d_0 (v:V_ref03_GetId_67d_0):Ev.St:=match v with | (e,f,g,h,i,j,k,l,m,n,a,b,d)=>⟨[(0,.c (.ptr 0 0)),(1,.c (i6 e)),(2,.c (i6 f)),(8,.c (i6 g)),(9,.c (i6 h))],[(0,.cells 204 [i6 i,.own 1,.int .u64 j,.int .u64 k,.own 2,i6 l,.int .u64 m,i6 n,.bool a]),(1,.vec 3 (.int .i64) b false),(2,.vec 5 (.int .u8) d false)],3,3⟩
def E243_67d_0 (K:KT):W_ref03_GetId_67d_0:=((fun v=>match v with | (b,d,e,f,g,h,i,j,k,l,a)=>K .ret ⟨[(6,.c (i6 b)),(7,.c (i6 d))],[(0,.cells 204 [i6 e,.own 1,.int .u64 f,.int .u64 g,.own 2,i6 h,.int .u64 i,i6 j,.bool k]),(1,.vec 3 (.int .i64) l false),(2,.vec 5 (.int .u8) a false)],3,3⟩),(fun v=>match v with | (b,d,e,f,g,h,i,j,k,l,a)=>K .normal ⟨[(2,.c (i6 b)),(8,.c (i6 d))],[(0,.cells 204 [i6 e,.own 1,.int .u64 f,.int .u64 g,.own 2,i6 h,.int .u64 i,i6 j,.bool k]),(1,.vec 3 (.int .i64) l false),(2,.vec 5 (.int .u8) a false)],3,3⟩))
theorem S243_67d_0_okg (fuel:Nat) (a:YF156_a7e) (b:YF157_0a6) (c:YF176) (d:YF178) (R:Ev.St→OA) (K:KT) (h i:Int) (j k:Int) (l m:Int) (n o:Int) (p q:Int) (e:Bool) (f g:LI):evalCode tab (Gg243_67d a b c d) J0 kp243_67d fuel (bodyOf 0 Tryz.f243) (T243_67d_0 (h,i,j,k,l,m,n,o,p,q,e,f,g)) (lc kp243_67d 5 0 R K)=Sg_ref03_GetId_67d_0 fuel a b c d h i j k l m n o p q e f g (fun v=>R (T243_67d_0 v)) (E243_67d_0 K):=by
  kernel_rfl
def B243_67d_0 (fuel:Nat):Ev.Blk:=fun st K=>match canonO (kp243_67d 5) st with | some s=>(match s with | ⟨[(l,.c (.ptr m n)),(o,.c (i6 p)),(q,.c (i6 r)),(t,.c (i6 u)),(v,.c (i6 w))],[(x,.cells y [i6 z,.own A,.int .u64 B,.int .u64 C,.own a,i6 D,.int .u64 E,i6 F,.bool b]),(d,.vec e (.int .i64) f false),(g,.vec h (.int .u8) i false)],j,k⟩=>bif qb [l,m,n,o,q,t,v,x,y,A,a,d,e,g,h,j,k] [0,0,0,1,2,8,9,0,204,1,2,1,3,2,5,3,3] then iter (S_ref03_GetId_67d_0 fuel) fuel (p,r,u,w,z,B,C,D,E,F,b,f,i) (E243_67d_0 K) else none | _=>none) | none=>none
theorem B243_67d_0_ok (fuel:Nat) (st:Ev.St) (K:KT) (r:Ans) (h:B243_67d_0 fuel st K=some r):evalCode tab (G243_67d fuel) J0 kp243_67d fuel (.block 0 (.loop (bodyOf 0 Tryz.f243))) st K=some r:=by
  unfold B243_67d_0 at h
  split at h
  · rename_i s hs
    split at h
    · skip
      obtain ⟨hb,h⟩:=cond_some' h
      cases qb_eq hb
      exact blk_loop (S:=T243_67d_0) (ks:=E243_67d_0) (step:=S_ref03_GetId_67d_0 fuel) (v:=(_,_,_,_,_,_,_,_,_,_,_,_,_)) (by kernel_rfl) (by kernel_rfl) (fun R K v=>by obtain ⟨d,e,f,g,i,j,k,l,m,n,a,b,c⟩:=v; exact S243_67d_0_okg fuel (F_ref02_Decoder_Model_a7e fuel) (F_ref02_Decoder_Get_0a6 fuel) (F_ref03_room fuel) (F_ref03_isId fuel) R K d e f g i j k l m n a b c) hs h
    · cases h
  · cases h
def J243_67d (fuel:Nat) (i:Nat):Option Ev.Blk:=Ev.look i [(100000,B243_67d_0 fuel)]
def Fg_ref03_GetId_67d (fuel:Nat) (v:YF156_a7e) (L:YF157_0a6) (y:YF176) (z:YF178) (m a:Int) (n o:Int) (p q:Int) (r s:Int) (t:Bool) (u l:LI) (k0:(Int×Int×Int×Int×Int×Int×Int×Int×Bool×LI×LI)→OA):OA:=(z a (0) (fun K=>bif !K then k0 (0,2,n,o,p,q,r,s,t,u,l) else bif decide (a < 0) then none else (v n o p q r s t u l (fun (M,b,c,d,e,f,g,h,i,j,w)=>(y ((↑w.length:Int)) m (i64.wrap (Ev.ishl IntKind.i64 1 a - 1)) (fun J=>bif !J then k0 (0,2,b,c,d,e,f,g,h,i,j) else (L_ref03_GetId_67d_0 fuel (m,a,1,0,b,c,d,e,f,g,h,i,j) (fun (ret0_0,ret0_1,ret0_2,ret0_3,ret0_4,ret0_5,ret0_6,ret0_7,ret0_8,ret0_9,ret0_10)=>k0 (ret0_0,ret0_1,ret0_2,ret0_3,ret0_4,ret0_5,ret0_6,ret0_7,ret0_8,ret0_9,ret0_10)) (fun (k,A,B,C,D,E,F,G,H,I,x)=>bif decide (k < 0) then none else k0 (i64.wrap (A - Ev.ishl IntKind.i64 1 k),0,B,C,D,E,F,G,H,I,x)))))))))
abbrev YF243_67d:Type:=Int→Int→Int→Int→Int→Int→Int→Int→Bool→LI→LI→((Int×Int×Int×Int×Int×Int×Int×Int×Bool×LI×LI)→Option Ans)→Option Ans
def F_ref03_GetId_67d (fuel:Nat):YF243_67d:=Fg_ref03_GetId_67d fuel (F_ref02_Decoder_Model_a7e fuel) (F_ref02_Decoder_Get_0a6 fuel) (F_ref03_room fuel) (F_ref03_isId fuel)
theorem F243_67d_eqg (fuel:Nat) (a:YF156_a7e) (b:YF157_0a6) (d:YF176) (e:YF178) (g h:Int) (i j:Int) (l m:Int) (n o:Int) (p:Bool) (q f:LI) (k:Ev.Cont):evalFn tab (Gg243_67d a b d e) (J243_67d fuel) kp243_67d fuel Tryz.f243 [.c (.ptr 0 0),.c (i6 g),.c (i6 h)] [.cells 204 [i6 i,.own 1,.int .u64 j,.int .u64 l,.own 2,i6 m,.int .u64 n,i6 o,.bool p],.vec 3 (.int .i64) q false,.vec 5 (.int .u8) f false] k=Fg_ref03_GetId_67d fuel a b d e g h i j l m n o p q f (fun r=>match r with | (t,u,v,w,x,y,z,A,B,C,s)=>k (.tup [(false,[i6 t]),(false,[i6 u])],[.cells 204 [i6 v,.own 1,.int .u64 w,.int .u64 x,.own 2,i6 y,.int .u64 z,i6 A,.bool B],.vec 3 (.int .i64) C false,.vec 5 (.int .u8) s false])):=by
  kernel_rfl
theorem hG243_67d (fuel:Nat):GOK Tryz.prog (G243_67d fuel):=
  gc (ok156_a7e fuel) Tryz.func156 (by kernel_rfl) rfl <|
  gc (ok157_0a6 fuel) Tryz.func157 (by kernel_rfl) rfl <|
  gc (ok176 fuel) Tryz.func176 (by kernel_rfl) rfl <|
  gc (ok178 fuel) Tryz.func178 (by kernel_rfl) rfl <|
  gok_nil
theorem B243_67d_0_blk (fuel:Nat):BlkOK Tryz.prog Tryz.f243.ntmps (.block 0 (.loop (bodyOf 0 Tryz.f243))) (B243_67d_0 fuel):=bo0 (hG243_67d fuel) (by kernel_rfl) (by kernel_rfl) (B243_67d_0_ok fuel)
def spg243_67d (F:YF243_67d):Ev.Spec:=fun args objs k=>match args,objs with | [.c (.ptr d e),.c (i6 f),.c (i6 g)],[.cells h [i6 i,.own j,.int .u64 l,.int .u64 m,.own n,i6 o,.int .u64 p,i6 q,.bool s],.vec t (.int .i64) u false,.vec v (.int .u8) a false]=>bif qb [d,e,h,j,n,t,v] [0,0,204,1,2,3,5] then F f g i l m o p q s u a (fun r=>match r with | (w,x,y,z,A,B,C,D,E,G,b)=>k (.tup [(false,[i6 w]),(false,[i6 x])],[.cells 204 [i6 y,.own 1,.int .u64 z,.int .u64 A,.own 2,i6 B,.int .u64 C,i6 D,.bool E],.vec 3 (.int .i64) G false,.vec 5 (.int .u8) b false])) else none | _,_=>none
theorem ok243_67d (fuel:Nat):FnOK Tryz.prog 243 (spg243_67d (F_ref03_GetId_67d fuel)):=by
  intro args objs kk r h
  unfold spg243_67d at h
  split at h
  · skip
    obtain ⟨hb,h⟩:=cond_some' h
    cases qb_eq hb
    exact fo1 (hG243_67d fuel) Tryz.func243 rfl (B243_67d_0_blk fuel) (by kernel_rfl) _ _ kk r ((F243_67d_eqg fuel (F_ref02_Decoder_Model_a7e fuel) (F_ref02_Decoder_Get_0a6 fuel) (F_ref03_room fuel) (F_ref03_isId fuel) _ _ _ _ _ _ _ _ _ _ _ kk).trans h)
  · cases h
def kp96_986 (i:Nat):Option (List Nat):=Ev.look i []
def Gg96_986 (a:YF192_0a6) (f:Nat):Option Ev.Spec:=Ev.look f [(192,spg192_0a6 a)]
def G96_986 (fuel:Nat):Nat→Option Ev.Spec:=Gg96_986 (F_ref03_Get_0a6 fuel)
def Fg_ref10_reader_number_986 (fuel:Nat) (v:YF192_0a6) (G m n:Int) (o:Bool) (p q r:Int) (s:Bool) (t:Int) (u:(List (Int×(Int×LI)))) (l x:Int) (y z:Int) (A B C:Int) (D:Bool) (E F:LI) (k0:(Int×Int×Int×Int×Bool×Int×Int×Int×Bool×Int×(List (Int×(Int×LI)))×Int×Int×Int×Int×Int×Int×Int×Bool×LI×LI)→OA):OA:=(v G x y z A B C D E F (fun (w,c,d,e,f,g,h,i,j,k,a,b)=>bif d==0 then bif w then k0 (c,3,m,n,o,p,q,r,s,t,u,l,e,f,g,h,i,j,k,a,b) else k0 (c,d,m,n,o,p,q,r,s,t,u,l,e,f,g,h,i,j,k,a,b) else k0 (c,d,m,n,o,p,q,r,s,t,u,l,e,f,g,h,i,j,k,a,b)))
abbrev YF96_986:Type:=Int→Int→Int→Bool→Int→Int→Int→Bool→Int→((List (Int×(Int×LI))))→Int→Int→Int→Int→Int→Int→Int→Bool→LI→LI→((Int×Int×Int×Int×Bool×Int×Int×Int×Bool×Int×(List (Int×(Int×LI)))×Int×Int×Int×Int×Int×Int×Int×Bool×LI×LI)→Option Ans)→Option Ans
def F_ref10_reader_number_986 (fuel:Nat):YF96_986:=Fg_ref10_reader_number_986 fuel (F_ref03_Get_0a6 fuel)
theorem F96_986_eqg (fuel:Nat) (a:YF192_0a6) (n o p:Int) (q:Bool) (s t u:Int) (v:Bool) (w:Int) (x:(List (Int×(Int×LI)))) (b d:Int) (e f:Int) (g h i:Int) (j:Bool) (l m:LI) (k:Ev.Cont):evalFn tab (Gg96_986 a) J0 kp96_986 fuel Tryz.f96 [.c (.ptr 0 0),.c (i6 n)] [.cells 145 [i6 o,i6 p,.bool q,i6 s,i6 t,i6 u,.bool v,i6 w,.sl (.pair (.int .i64) (.pair (.int .i64) (.sl (.int .u8)))) x,.ptr 1 0,i6 b],.cells 204 [i6 d,.own 2,.int .u64 e,.int .u64 f,.own 3,i6 g,.int .u64 h,i6 i,.bool j],.vec 3 (.int .i64) l false,.vec 5 (.int .u8) m false] k=Fg_ref10_reader_number_986 fuel a n o p q s t u v w x b d e f g h i j l m (fun r=>match r with | (J,K,L,M,N,O,P,Q,R,S,y,z,A,B,C,D,E,F,G,H,I)=>k (.tup [(false,[i6 J]),(false,[i6 K])],[.cells 145 [i6 L,i6 M,.bool N,i6 O,i6 P,i6 Q,.bool R,i6 S,.sl (.pair (.int .i64) (.pair (.int .i64) (.sl (.int .u8)))) y,.ptr 1 0,i6 z],.cells 204 [i6 A,.own 2,.int .u64 B,.int .u64 C,.own 3,i6 D,.int .u64 E,i6 F,.bool G],.vec 3 (.int .i64) H false,.vec 5 (.int .u8) I false])):=by
  kernel_rfl
theorem hG96_986 (fuel:Nat):GOK Tryz.prog (G96_986 fuel):=
  gc (ok192_0a6 fuel) Tryz.func192 (by kernel_rfl) rfl <|
  gok_nil
def spg96_986 (F:YF96_986):Ev.Spec:=fun args objs k=>match args,objs with | [.c (.ptr y z),.c (i6 A)],[.cells B [i6 C,i6 D,.bool E,i6 G,i6 H,i6 I,.bool J,i6 K,.sl (.pair (.int .i64) (.pair (.int .i64) (.sl (.int .u8)))) L,.ptr M N,i6 a],.cells O [i6 b,.own P,.int .u64 d,.int .u64 e,.own Q,i6 f,.int .u64 g,i6 h,.bool i],.vec R (.int .i64) j false,.vec S (.int .u8) l false]=>bif qb [y,z,B,M,N,O,P,Q,R,S] [0,0,145,1,0,204,2,3,3,5] then F A C D E G H I J K L a b d e f g h i j l (fun r=>match r with | (T,U,V,W,X,Y,Z,a0,a1,a2,m,n,o,p,q,s,t,u,v,w,x)=>k (.tup [(false,[i6 T]),(false,[i6 U])],[.cells 145 [i6 V,i6 W,.bool X,i6 Y,i6 Z,i6 a0,.bool a1,i6 a2,.sl (.pair (.int .i64) (.pair (.int .i64) (.sl (.int .u8)))) m,.ptr 1 0,i6 n],.cells 204 [i6 o,.own 2,.int .u64 p,.int .u64 q,.own 3,i6 s,.int .u64 t,i6 u,.bool v],.vec 3 (.int .i64) w false,.vec 5 (.int .u8) x false])) else none | _,_=>none
theorem ok96_986 (fuel:Nat):FnOK Tryz.prog 96 (spg96_986 (F_ref10_reader_number_986 fuel)):=by
  intro args objs kk r h
  unfold spg96_986 at h
  split at h
  · skip
    obtain ⟨hb,h⟩:=cond_some' h
    cases qb_eq hb
    exact fo0 (hG96_986 fuel) Tryz.func96 rfl (by kernel_rfl) _ _ kk r ((F96_986_eqg fuel (F_ref03_Get_0a6 fuel) _ _ _ _ _ _ _ _ _ _ _ _ _ _ _ _ _ _ _ _ kk).trans h)
  · cases h
def kp40 (i:Nat):Option (List Nat):=Ev.look i []
def Gg40 (f:Nat):Option Ev.Spec:=Ev.look f []
def G40 (fuel:Nat):Nat→Option Ev.Spec:=Gg40
def F_ref06_Pix (fuel:Nat) (c e:Int) (d:(List Int)) (a b:Int) (k0:(Int)→Option Ans):Option Ans:=bif decide (a < 0) then k0 (0) else bif decide (b < 0) then k0 (0) else bif decide (a≥c) then k0 (0) else bif decide (b≥e) then k0 (0) else bif decide (0≤i64.wrap (i64.wrap (b*c)+a)∧i64.wrap (i64.wrap (b*c)+a) < (↑d.length:Int)) then k0 (d.getD (i64.wrap (i64.wrap (b*c)+a)).toNat 0) else none
abbrev YF40:Type:=Int→Int→LI→Int→Int→(Int→Option Ans)→Option Ans
theorem F40_eq (fuel:Nat) (a b:Int) (d:LI) (e f:Int) (k:Ev.Cont):evalFn tab (G40 fuel) J0 kp40 fuel Tryz.f40 [.agg [i6 a,i6 b,.sl (.int .u8) d],.c (i6 e),.c (i6 f)] [] k=F_ref06_Pix fuel a b d e f (fun r=>match r with | g=>k (.c (.int .u8 g),[])):=by
  kernel_rfl
theorem hG40 (fuel:Nat):GOK Tryz.prog (G40 fuel):=
  gok_nil
def spg40 (F:YF40):Ev.Spec:=fun args objs k=>match args,objs with | [.agg [i6 a,i6 b,.sl (.int .u8) d],.c (i6 e),.c (i6 f)],[]=>F a b d e f (fun r=>match r with | g=>k (.c (.int .u8 g),[])) | _,_=>none
theorem ok40 (fuel:Nat):FnOK Tryz.prog 40 (spg40 (F_ref06_Pix fuel)):=by
  intro args objs kk r h
  unfold spg40 at h
  split at h
  · skip
    exact fo0 (hG40 fuel) Tryz.func40 rfl (by kernel_rfl) _ _ kk r ((F40_eq fuel _ _ _ _ _ kk).trans h)
  · cases h
def kp187 (i:Nat):Option (List Nat):=Ev.look i [(3,[2,3,4,5,10,11]),(100000,[10]),(400000,[8,9])]
def Gg187 (a:YF40) (f:Nat):Option Ev.Spec:=Ev.look f [(40,spg40 a)]
def G187 (fuel:Nat):Nat→Option Ev.Spec:=Gg187 (F_ref06_Pix fuel)
abbrev V_ref08_Alike_0:Type:=Int×Int×Int×Int×Int×Int×Int×Bool×Int×Int×Int×LI
abbrev W_ref08_Alike_0:Type:=(Int×Bool→OA)×(Int→OA)
def Sg_ref08_Alike_0 (fuel:Nat) (l:YF40) (g h:Int) (d a:Int) (m i j:Int) (n:Bool) (o k e:Int) (f:LI) (c:V_ref08_Alike_0→OA) (B:W_ref08_Alike_0):OA:=match B with | (ret,b)=>bif decide (a < 9) then (l k e f (i64.wrap (i64.wrap (i64.wrap (g - i)+a.tmod 3) - 1)) (i64.wrap (i64.wrap (i64.wrap (h - j)+i64.wrap (a.tdiv 3)) - 1)) (fun p=>bif p != d then ret (0,false) else c (g,h,d,i64.wrap (a+1),m,i,j,n,o,k,e,f))) else b d
def S_ref08_Alike_0 (fuel:Nat) (v:Int×Int×Int×Int×Int×Int×Int×Bool×Int×Int×Int×(List Int)) (c:(Int×Int×Int×Int×Int×Int×Int×Bool×Int×Int×Int×(List Int))→Option Ans) (B:(Int×Bool→Option Ans)×(Int→Option Ans)):Option Ans:=match v with | (d,e,f,g,h,i,j,k,l,m,a,b)=>Sg_ref08_Alike_0 fuel (F_ref06_Pix fuel) d e f g h i j k l m a b c B
def L_ref08_Alike_0 (fuel:Nat) (v:V_ref08_Alike_0) (ret:(Int×Bool→Option Ans)) (b:(Int→Option Ans)):Option Ans:=iter (S_ref08_Alike_0 fuel) fuel v (ret,b)
def T187_0 (v:V_ref08_Alike_0):Ev.St:=match v with | (d,e,f,g,h,i,j,k,l,m,a,b)=>⟨[(2,.c (i6 d)),(3,.c (i6 e)),(4,.c (.ptr 0 0)),(5,.c (.ptr 1 0)),(10,.c (.int .u8 f)),(11,.c (i6 g))],[(0,.cells 135 [i6 h,i6 i,i6 j,.bool k,i6 l]),(1,.cells 51 [i6 m,i6 a,.sl (.int .u8) b])],2,0⟩
def E187_0 (K:KT):W_ref08_Alike_0:=((fun v=>match v with | (a,b)=>K .ret ⟨[(8,.c (.int .u8 a)),(9,.c (.bool b))],[],0,0⟩),(fun v=>match v with | a=>K .normal ⟨[(10,.c (.int .u8 a))],[],0,0⟩))
theorem S187_0_okg (fuel:Nat) (a:YF40) (R:Ev.St→OA) (K:KT) (d e:Int) (f g:Int) (h i j:Int) (k:Bool) (l m b:Int) (c:LI):evalCode tab (Gg187 a) J0 kp187 fuel (bodyOf 0 Tryz.f187) (T187_0 (d,e,f,g,h,i,j,k,l,m,b,c)) (lc kp187 3 0 R K)=Sg_ref08_Alike_0 fuel a d e f g h i j k l m b c (fun v=>R (T187_0 v)) (E187_0 K):=by
  kernel_rfl
def B187_0 (fuel:Nat):Ev.Blk:=fun st K=>match canonO (kp187 3) st with | some s=>(match s with | ⟨[(j,.c (i6 k)),(l,.c (i6 m)),(n,.c (.ptr o p)),(q,.c (.ptr r t)),(u,.c (.int .u8 v)),(w,.c (i6 x))],[(a,.cells b [i6 y,i6 z,i6 A,.bool B,i6 C]),(d,.cells e [i6 D,i6 f,.sl (.int .u8) g])],h,i⟩=>bif qb [j,l,n,o,p,q,r,t,u,w,a,b,d,e,h,i] [2,3,4,0,0,5,1,0,10,11,0,135,1,51,2,0] then iter (S_ref08_Alike_0 fuel) fuel (k,m,v,x,y,z,A,B,C,D,f,g) (E187_0 K) else none | _=>none) | none=>none
theorem B187_0_ok (fuel:Nat) (st:Ev.St) (K:KT) (r:Ans) (h:B187_0 fuel st K=some r):evalCode tab (G187 fuel) J0 kp187 fuel (.block 0 (.loop (bodyOf 0 Tryz.f187))) st K=some r:=by
  unfold B187_0 at h
  split at h
  · rename_i s hs
    split at h
    · skip
      obtain ⟨hb,h⟩:=cond_some' h
      cases qb_eq hb
      exact blk_loop (S:=T187_0) (ks:=E187_0) (step:=S_ref08_Alike_0 fuel) (v:=(_,_,_,_,_,_,_,_,_,_,_,_)) (by kernel_rfl) (by kernel_rfl) (fun R K v=>by obtain ⟨c,d,e,f,g,i,j,k,l,m,a,b⟩:=v; exact S187_0_okg fuel (F_ref06_Pix fuel) R K c d e f g i j k l m a b) hs h
    · cases h
  · cases h
def J187 (fuel:Nat) (i:Nat):Option Ev.Blk:=Ev.look i [(100000,B187_0 fuel)]
def Fg_ref08_Alike (fuel:Nat) (i:YF40) (j a b:Int) (k:Bool) (l c d:Int) (e:LI) (f g:Int) (k0:(Int×Bool)→OA):OA:=(i c d e (i64.wrap (f - a)) (i64.wrap (g - b)) (fun m=>(L_ref08_Alike_0 fuel (f,g,m,0,j,a,b,k,l,c,d,e) (fun (ret0_0,ret0_1)=>k0 (ret0_0,ret0_1)) (fun h=>k0 (h,true)))))
abbrev YF187:Type:=Int→Int→Int→Bool→Int→Int→Int→LI→Int→Int→((Int×Bool)→Option Ans)→Option Ans
def F_ref08_Alike (fuel:Nat):YF187:=Fg_ref08_Alike fuel (F_ref06_Pix fuel)
theorem F187_eqg (fuel:Nat) (a:YF40) (b d e:Int) (f:Bool) (g h i:Int) (j:LI) (l m:Int) (k:Ev.Cont):evalFn tab (Gg187 a) (J187 fuel) kp187 fuel Tryz.f187 [.agg [i6 b,i6 d,i6 e,.bool f,i6 g],.agg [i6 h,i6 i,.sl (.int .u8) j],.c (i6 l),.c (i6 m)] [] k=Fg_ref08_Alike fuel a b d e f g h i j l m (fun r=>match r with | (n,o)=>k (.tup [(false,[.int .u8 n]),(false,[.bool o])],[])):=by
  kernel_rfl
theorem hG187 (fuel:Nat):GOK Tryz.prog (G187 fuel):=
  gc (ok40 fuel) Tryz.func40 (by kernel_rfl) rfl <|
  gok_nil
theorem B187_0_blk (fuel:Nat):BlkOK Tryz.prog Tryz.f187.ntmps (.block 0 (.loop (bodyOf 0 Tryz.f187))) (B187_0 fuel):=bo0 (hG187 fuel) (by kernel_rfl) (by kernel_rfl) (B187_0_ok fuel)
def spg187 (F:YF187):Ev.Spec:=fun args objs k=>match args,objs with | [.agg [i6 a,i6 b,i6 d,.bool e,i6 f],.agg [i6 g,i6 h,.sl (.int .u8) i],.c (i6 j),.c (i6 l)],[]=>F a b d e f g h i j l (fun r=>match r with | (m,n)=>k (.tup [(false,[.int .u8 m]),(false,[.bool n])],[])) | _,_=>none
theorem ok187 (fuel:Nat):FnOK Tryz.prog 187 (spg187 (F_ref08_Alike fuel)):=by
  intro args objs kk r h
  unfold spg187 at h
  split at h
  · skip
    exact fo1 (hG187 fuel) Tryz.func187 rfl (B187_0_blk fuel) (by kernel_rfl) _ _ kk r ((F187_eqg fuel (F_ref06_Pix fuel) _ _ _ _ _ _ _ _ _ _ kk).trans h)
  · cases h
def kp188 (i:Nat):Option (List Nat):=Ev.look i [(6,[3,4,5,6,7,12,28,29,30]),(11,[3,4,5,7,12,54,55,56]),(100000,[3,4,5,7,12]),(100002,[12]),(400000,[10]),(400002,[10])]
def Gg188 (a:YF40) (f:Nat):Option Ev.Spec:=Ev.look f [(40,spg40 a)]
def G188 (fuel:Nat):Nat→Option Ev.Spec:=Gg188 (F_ref06_Pix fuel)
abbrev V_ref08_Context_0:Type:=Int×Int×Int×Int×Int×Int×Int×Int×Bool×Int×Int×Int×LI×Int×Int×LI×(List (Int×Int))
abbrev W_ref08_Context_0:Type:=(Int×Int×Int×Int×Int×Int×Bool×Int×Int×Int×LI→OA)
def Sg_ref08_Context_0 (fuel:Nat) (t:YF40) (e f:Int) (m n:Int) (a o:Int) (p q:Int) (r:Bool) (s g h:Int) (i:LI) (j k:Int) (l:LI) (d:(List (Int×Int))) (c:V_ref08_Context_0→OA) (B:W_ref08_Context_0):OA:=match B with | b=>bif decide (a < n) then bif decide (0≤a∧a < (↑d.length:Int)) then (t g h i (i64.wrap (e+(d.getD a.toNat (0,0)).fst)) (i64.wrap (f+(d.getD a.toNat (0,0)).snd)) (fun u=>c (e,f,i64.wrap (i64.wrap (2*m)+i64.wrap u),n,i64.wrap (a+1),o,p,q,r,s,g,h,i,j,k,l,d))) else none else b (e,f,m,o,p,q,r,s,j,k,l)
def S_ref08_Context_0 (fuel:Nat) (v:Int×Int×Int×Int×Int×Int×Int×Int×Bool×Int×Int×Int×(List Int)×Int×Int×(List Int)×(List (Int×Int))) (c:(Int×Int×Int×Int×Int×Int×Int×Int×Bool×Int×Int×Int×(List Int)×Int×Int×(List Int)×(List (Int×Int)))→Option Ans) (B:(Int×Int×Int×Int×Int×Int×Bool×Int×Int×Int×(List Int)→Option Ans)):Option Ans:=match v with | (i,j,k,l,m,n,o,p,q,r,a,b,d,e,f,g,h)=>Sg_ref08_Context_0 fuel (F_ref06_Pix fuel) i j k l m n o p q r a b d e f g h c B
def L_ref08_Context_0 (fuel:Nat) (v:V_ref08_Context_0) (b:W_ref08_Context_0):Option Ans:=iter (S_ref08_Context_0 fuel) fuel v b
def T188_0 (v:V_ref08_Context_0):Ev.St:=match v with | (i,j,k,l,m,n,o,p,q,r,a,b,d,e,f,g,h)=>⟨[(3,.c (i6 i)),(4,.c (i6 j)),(5,.c (.ptr 0 0)),(6,.c (.ptr 1 0)),(7,.c (.ptr 2 0)),(12,.c (i6 k)),(28,.c (.own 3)),(29,.c (i6 l)),(30,.c (i6 m))],[(0,.cells 135 [i6 n,i6 o,i6 p,.bool q,i6 r]),(1,.cells 51 [i6 a,i6 b,.sl (.int .u8) d]),(2,.cells 51 [i6 e,i6 f,.sl (.int .u8) g]),(3,.vec 76 (.pair (.int .i64) (.int .i64)) h true)],4,0⟩
def E188_0 (K:KT):W_ref08_Context_0:=(fun v=>match v with | (b,d,e,f,g,h,i,j,k,l,a)=>K .normal ⟨[(3,.c (i6 b)),(4,.c (i6 d)),(5,.c (.ptr 0 0)),(7,.c (.ptr 1 0)),(12,.c (i6 e))],[(0,.cells 135 [i6 f,i6 g,i6 h,.bool i,i6 j]),(1,.cells 51 [i6 k,i6 l,.sl (.int .u8) a])],2,0⟩)
theorem S188_0_okg (fuel:Nat) (a:YF40) (R:Ev.St→OA) (K:KT) (i j:Int) (k l:Int) (m n:Int) (o p:Int) (q:Bool) (r b c:Int) (d:LI) (e f:Int) (g:LI) (h:(List (Int×Int))):evalCode tab (Gg188 a) J0 kp188 fuel (bodyOf 0 Tryz.f188) (T188_0 (i,j,k,l,m,n,o,p,q,r,b,c,d,e,f,g,h)) (lc kp188 6 0 R K)=Sg_ref08_Context_0 fuel a i j k l m n o p q r b c d e f g h (fun v=>R (T188_0 v)) (E188_0 K):=by
  kernel_rfl
def B188_0 (fuel:Nat):Ev.Blk:=fun st K=>match canonO (kp188 6) st with | some s=>(match s with | ⟨[(z,.c (i6 A)),(B,.c (i6 C)),(D,.c (.ptr E F)),(G,.c (.ptr H I)),(J,.c (.ptr L a)),(b,.c (i6 M)),(d,.c (.own e)),(f,.c (i6 N)),(g,.c (i6 O))],[(h,.cells i [i6 P,i6 Q,i6 R,.bool S,i6 T]),(j,.cells k [i6 l,i6 m,.sl (.int .u8) n]),(o,.cells p [i6 q,i6 r,.sl (.int .u8) t]),(u,.vec v (.pair (.int .i64) (.int .i64)) w true)],x,y⟩=>bif qb [z,B,D,E,F,G,H,I,J,L,a,b,d,e,f,g,h,i,j,k,o,p,u,v,x,y] [3,4,5,0,0,6,1,0,7,2,0,12,28,3,29,30,0,135,1,51,2,51,3,76,4,0] then iter (S_ref08_Context_0 fuel) fuel (A,C,M,N,O,P,Q,R,S,T,l,m,n,q,r,t,w) (E188_0 K) else none | _=>none) | none=>none
theorem B188_0_ok (fuel:Nat) (st:Ev.St) (K:KT) (r:Ans) (h:B188_0 fuel st K=some r):evalCode tab (G188 fuel) J0 kp188 fuel (.block 0 (.loop (bodyOf 0 Tryz.f188))) st K=some r:=by
  unfold B188_0 at h
  split at h
  · rename_i s hs
    split at h
    · skip
      obtain ⟨hb,h⟩:=cond_some' h
      cases qb_eq hb
      exact blk_loop (S:=T188_0) (ks:=E188_0) (step:=S_ref08_Context_0 fuel) (v:=(_,_,_,_,_,_,_,_,_,_,_,_,_,_,_,_,_)) (by kernel_rfl) (by kernel_rfl) (fun R K v=>by obtain ⟨i,j,k,l,m,n,o,p,q,t,a,b,c,d,e,f,g⟩:=v; exact S188_0_okg fuel (F_ref06_Pix fuel) R K i j k l m n o p q t a b c d e f g) hs h
    · cases h
  · cases h
abbrev V_ref08_Context_2:Type:=Int×Int×Int×Int×Int×Int×Int×Int×Bool×Int×Int×Int×LI×(List (Int×Int))
abbrev W_ref08_Context_2:Type:=(Int→OA)
def Sg_ref08_Context_2 (fuel:Nat) (n:YF40) (h i:Int) (j k:Int) (a o:Int) (l m:Int) (p:Bool) (q e f:Int) (g:LI) (d:(List (Int×Int))) (c:V_ref08_Context_2→OA) (B:W_ref08_Context_2):OA:=match B with | b=>bif decide (a < k) then bif decide (0≤a∧a < (↑d.length:Int)) then (n e f g (i64.wrap (i64.wrap (h - l)+(d.getD a.toNat (0,0)).fst)) (i64.wrap (i64.wrap (i - m)+(d.getD a.toNat (0,0)).snd)) (fun r=>c (h,i,i64.wrap (i64.wrap (2*j)+i64.wrap r),k,i64.wrap (a+1),o,l,m,p,q,e,f,g,d))) else none else b j
def S_ref08_Context_2 (fuel:Nat) (v:Int×Int×Int×Int×Int×Int×Int×Int×Bool×Int×Int×Int×(List Int)×(List (Int×Int))) (c:(Int×Int×Int×Int×Int×Int×Int×Int×Bool×Int×Int×Int×(List Int)×(List (Int×Int)))→Option Ans) (B:(Int→Option Ans)):Option Ans:=match v with | (f,g,h,i,j,k,l,m,n,o,a,b,d,e)=>Sg_ref08_Context_2 fuel (F_ref06_Pix fuel) f g h i j k l m n o a b d e c B
def L_ref08_Context_2 (fuel:Nat) (v:V_ref08_Context_2) (b:W_ref08_Context_2):Option Ans:=iter (S_ref08_Context_2 fuel) fuel v b
def J188_2 (fuel:Nat) (i:Nat):Option Ev.Blk:=Ev.look i [(100000,B188_0 fuel)]
def T188_2 (v:V_ref08_Context_2):Ev.St:=match v with | (f,g,h,i,j,k,l,m,n,o,a,b,d,e)=>⟨[(3,.c (i6 f)),(4,.c (i6 g)),(5,.c (.ptr 0 0)),(7,.c (.ptr 1 0)),(12,.c (i6 h)),(54,.c (.own 2)),(55,.c (i6 i)),(56,.c (i6 j))],[(0,.cells 135 [i6 k,i6 l,i6 m,.bool n,i6 o]),(1,.cells 51 [i6 a,i6 b,.sl (.int .u8) d]),(2,.vec 76 (.pair (.int .i64) (.int .i64)) e true)],3,0⟩
def E188_2 (K:KT):W_ref08_Context_2:=(fun v=>match v with | a=>K .normal ⟨[(12,.c (i6 a))],[],0,0⟩)
theorem S188_2_okg (fuel:Nat) (a:YF40) (R:Ev.St→OA) (K:KT) (f g:Int) (h i:Int) (j k:Int) (l m:Int) (n:Bool) (o b c:Int) (d:LI) (e:(List (Int×Int))):evalCode tab (Gg188 a) (J188_2 fuel) kp188 fuel (bodyOf 2 Tryz.f188) (T188_2 (f,g,h,i,j,k,l,m,n,o,b,c,d,e)) (lc kp188 11 2 R K)=Sg_ref08_Context_2 fuel a f g h i j k l m n o b c d e (fun v=>R (T188_2 v)) (E188_2 K):=by
  kernel_rfl
def B188_2 (fuel:Nat):Ev.Blk:=fun st K=>match canonO (kp188 11) st with | some s=>(match s with | ⟨[(q,.c (i6 r)),(t,.c (i6 u)),(v,.c (.ptr w x)),(y,.c (.ptr z A)),(B,.c (i6 C)),(D,.c (.own a)),(b,.c (i6 E)),(d,.c (i6 F))],[(e,.cells f [i6 G,i6 H,i6 I,.bool J,i6 L]),(g,.cells h [i6 i,i6 j,.sl (.int .u8) k]),(l,.vec m (.pair (.int .i64) (.int .i64)) n true)],o,p⟩=>bif qb [q,t,v,w,x,y,z,A,B,D,a,b,d,e,f,g,h,l,m,o,p] [3,4,5,0,0,7,1,0,12,54,2,55,56,0,135,1,51,2,76,3,0] then iter (S_ref08_Context_2 fuel) fuel (r,u,C,E,F,G,H,I,J,L,i,j,k,n) (E188_2 K) else none | _=>none) | none=>none
theorem B188_2_ok (fuel:Nat) (st:Ev.St) (K:KT) (r:Ans) (h:B188_2 fuel st K=some r):evalCode tab (G188 fuel) (J188_2 fuel) kp188 fuel (.block 2 (.loop (bodyOf 2 Tryz.f188))) st K=some r:=by
  unfold B188_2 at h
  split at h
  · rename_i s hs
    split at h
    · skip
      obtain ⟨hb,h⟩:=cond_some' h
      cases qb_eq hb
      exact blk_loop (S:=T188_2) (ks:=E188_2) (step:=S_ref08_Context_2 fuel) (v:=(_,_,_,_,_,_,_,_,_,_,_,_,_,_)) (by kernel_rfl) (by kernel_rfl) (fun R K v=>by obtain ⟨e,f,g,i,j,k,l,m,n,o,a,b,c,d⟩:=v; exact S188_2_okg fuel (F_ref06_Pix fuel) R K e f g i j k l m n o a b c d) hs h
    · cases h
  · cases h
def J188 (fuel:Nat) (i:Nat):Option Ev.Blk:=Ev.look i [(100000,B188_0 fuel),(100002,B188_2 fuel)]
def Fg_ref08_Context (fuel:Nat) (z:YF40) (m q r:Int) (s:Bool) (t u v:Int) (w:LI) (x y:Int) (n:LI) (o p:Int) (k0:(Int)→OA):OA:=bif m==1 then (L_ref08_Context_0 fuel (o,p,(0:Int),(↑[((0:Int),(-1:Int)),((-1:Int),(0:Int))].length:Int),(0:Int),m,q,r,s,t,u,v,w,x,y,n,[((0:Int),(-1:Int)),((-1:Int),(0:Int))]) (fun (b,c,d,e,f,g,h,i,j,k,a)=>(L_ref08_Context_2 fuel (b,c,d,(↑[((0:Int),(0:Int)),((-1:Int),(0:Int)),((1:Int),(0:Int)),((0:Int),(-1:Int)),((0:Int),(1:Int))].length:Int),(0:Int),e,f,g,h,i,j,k,a,[((0:Int),(0:Int)),((-1:Int),(0:Int)),((1:Int),(0:Int)),((0:Int),(-1:Int)),((0:Int),(1:Int))]) (fun l=>k0 l)))) else (L_ref08_Context_0 fuel (o,p,(0:Int),(↑[((-1:Int),(-1:Int)),((0:Int),(-1:Int)),((1:Int),(-1:Int)),((-1:Int),(0:Int))].length:Int),(0:Int),m,q,r,s,t,u,v,w,x,y,n,[((-1:Int),(-1:Int)),((0:Int),(-1:Int)),((1:Int),(-1:Int)),((-1:Int),(0:Int))]) (fun (b,c,d,e,f,g,h,i,j,k,a)=>(L_ref08_Context_2 fuel (b,c,d,(↑[((0:Int),(0:Int)),((-1:Int),(0:Int)),((1:Int),(0:Int)),((0:Int),(-1:Int)),((0:Int),(1:Int))].length:Int),(0:Int),e,f,g,h,i,j,k,a,[((0:Int),(0:Int)),((-1:Int),(0:Int)),((1:Int),(0:Int)),((0:Int),(-1:Int)),((0:Int),(1:Int))]) (fun l=>k0 l))))
abbrev YF188:Type:=Int→Int→Int→Bool→Int→Int→Int→LI→Int→Int→LI→Int→Int→(Int→Option Ans)→Option Ans
def F_ref08_Context (fuel:Nat):YF188:=Fg_ref08_Context fuel (F_ref06_Pix fuel)
theorem F188_eqg (fuel:Nat) (a:YF40) (f g h:Int) (i:Bool) (j l m:Int) (n:LI) (o p:Int) (b:LI) (d e:Int) (k:Ev.Cont):evalFn tab (Gg188 a) (J188 fuel) kp188 fuel Tryz.f188 [.agg [i6 f,i6 g,i6 h,.bool i,i6 j],.agg [i6 l,i6 m,.sl (.int .u8) n],.agg [i6 o,i6 p,.sl (.int .u8) b],.c (i6 d),.c (i6 e)] [] k=Fg_ref08_Context fuel a f g h i j l m n o p b d e (fun r=>match r with | q=>k (.c (i6 q),[])):=by
  kernel_rfl
theorem hG188 (fuel:Nat):GOK Tryz.prog (G188 fuel):=
  gc (ok40 fuel) Tryz.func40 (by kernel_rfl) rfl <|
  gok_nil
theorem B188_0_blk (fuel:Nat):BlkOK Tryz.prog Tryz.f188.ntmps (.block 0 (.loop (bodyOf 0 Tryz.f188))) (B188_0 fuel):=bo0 (hG188 fuel) (by kernel_rfl) (by kernel_rfl) (B188_0_ok fuel)
theorem B188_2_blk (fuel:Nat):BlkOK Tryz.prog Tryz.f188.ntmps (.block 2 (.loop (bodyOf 2 Tryz.f188))) (B188_2 fuel):=bo0 (hG188 fuel) (by kernel_rfl) (by kernel_rfl) (B188_2_ok fuel)
theorem fok188 (fuel:Nat):FnOK Tryz.prog 188 (evalFn tab (G188 fuel) (J188 fuel) kp188 fuel Tryz.f188):=
  fn_ok tab_ok (hG188 fuel) mixed Tryz.func188 (c:=(Tryz.f188.body).getD .skip) rfl (fun q hq=>by
    rw [(by kernel_rfl:obl (J188 fuel) ((Tryz.f188.body).getD .skip)= [(.block 0 (.loop (bodyOf 0 Tryz.f188)),B188_0 fuel),(.block 2 (.loop (bodyOf 2 Tryz.f188)),B188_2 fuel)])] at hq
    simp only [List.mem_cons,List.not_mem_nil,or_false] at hq
    rcases hq with rfl | rfl
    · exact B188_0_blk fuel
    · exact B188_2_blk fuel)
def spg188 (F:YF188):Ev.Spec:=fun args objs k=>match args,objs with | [.agg [i6 e,i6 f,i6 g,.bool h,i6 i],.agg [i6 j,i6 l,.sl (.int .u8) m],.agg [i6 n,i6 o,.sl (.int .u8) a],.c (i6 b),.c (i6 d)],[]=>F e f g h i j l m n o a b d (fun r=>match r with | p=>k (.c (i6 p),[])) | _,_=>none
theorem ok188 (fuel:Nat):FnOK Tryz.prog 188 (spg188 (F_ref08_Context fuel)):=by
  intro args objs kk r h
  unfold spg188 at h
  split at h
  · skip
    exact fok188 fuel _ _ kk r ((F188_eqg fuel (F_ref06_Pix fuel) _ _ _ _ _ _ _ _ _ _ _ _ _ kk).trans h)
  · cases h
def kp239 (i:Nat):Option (List Nat):=Ev.look i []
def Gg239 (f:Nat):Option Ev.Spec:=Ev.look f []
def G239 (fuel:Nat):Nat→Option Ev.Spec:=Gg239
def F_ref08_Valid (fuel:Nat) (a b c:Int) (e:Bool) (d:Int) (k0:(Bool)→Option Ans):Option Ans:=bif decide (b≥(-200:Int)) then bif decide (b≤200) then bif decide (c≥(-200:Int)) then bif decide (c≤200) then bif decide (a≥0) then bif decide (a≤1) then bif decide (d≥0) then k0 (decide (d≤1)) else k0 false else k0 false else k0 false else k0 false else k0 false else k0 false else k0 false
abbrev YF239:Type:=Int→Int→Int→Bool→Int→(Bool→Option Ans)→Option Ans
theorem F239_eq (fuel:Nat) (a b d:Int) (e:Bool) (f:Int) (k:Ev.Cont):evalFn tab (G239 fuel) J0 kp239 fuel Tryz.f239 [.agg [i6 a,i6 b,i6 d,.bool e,i6 f]] [] k=F_ref08_Valid fuel a b d e f (fun r=>match r with | g=>k (.c (.bool g),[])):=by
  kernel_rfl
theorem hG239 (fuel:Nat):GOK Tryz.prog (G239 fuel):=
  gok_nil
def spg239 (F:YF239):Ev.Spec:=fun args objs k=>match args,objs with | [.agg [i6 a,i6 b,i6 d,.bool e,i6 f]],[]=>F a b d e f (fun r=>match r with | g=>k (.c (.bool g),[])) | _,_=>none
theorem ok239 (fuel:Nat):FnOK Tryz.prog 239 (spg239 (F_ref08_Valid fuel)):=by
  intro args objs kk r h
  unfold spg239 at h
  split at h
  · skip
    exact fo0 (hG239 fuel) Tryz.func239 rfl (by kernel_rfl) _ _ kk r ((F239_eq fuel _ _ _ _ _ kk).trans h)
  · cases h
def kp184 (i:Nat):Option (List Nat):=Ev.look i [(200005,[4,7])]
def Gg184 (a:YF185) (b:YF239) (f:Nat):Option Ev.Spec:=Ev.look f [(185,spg185 a),(239,spg239 b)]
def G184 (fuel:Nat):Nat→Option Ev.Spec:=Gg184 (F_ref08_size fuel) (F_ref08_Valid fuel)
def Fg_ref08_asked (fuel:Nat) (c:YF185) (d:YF239) (a e f:Int) (g:Bool) (h:Int) (i:Bool) (b m:Int) (j:LI) (k0:(Int)→OA):OA:=(d a e f g h (fun k=>bif !k then k0 (2) else bif !i then k0 (30) else bif decide (b < 0) then k0 (2) else (c a (fun l=>bif decide (b > i64.wrap ((↑j.length:Int) - l)) then k0 (2) else k0 (0)))))
abbrev YF184:Type:=Int→Int→Int→Bool→Int→Bool→Int→Int→LI→(Int→Option Ans)→Option Ans
def F_ref08_asked (fuel:Nat):YF184:=Fg_ref08_asked fuel (F_ref08_size fuel) (F_ref08_Valid fuel)
theorem F184_eqg (fuel:Nat) (a:YF185) (b:YF239) (d e f:Int) (g:Bool) (h:Int) (i:Bool) (j l:Int) (m:LI) (k:Ev.Cont):evalFn tab (Gg184 a b) J0 kp184 fuel Tryz.f184 [.agg [i6 d,i6 e,i6 f,.bool g,i6 h],.c (.bool i),.c (i6 j),.agg [i6 l,.sl (.int .i64) m]] [] k=Fg_ref08_asked fuel a b d e f g h i j l m (fun r=>match r with | n=>k (.c (i6 n),[])):=by
  kernel_rfl
theorem hG184 (fuel:Nat):GOK Tryz.prog (G184 fuel):=
  gc (ok185 fuel) Tryz.func185 (by kernel_rfl) rfl <|
  gc (ok239 fuel) Tryz.func239 (by kernel_rfl) rfl <|
  gok_nil
def spg184 (F:YF184):Ev.Spec:=fun args objs k=>match args,objs with | [.agg [i6 a,i6 b,i6 d,.bool e,i6 f],.c (.bool g),.c (i6 h),.agg [i6 i,.sl (.int .i64) j]],[]=>F a b d e f g h i j (fun r=>match r with | l=>k (.c (i6 l),[])) | _,_=>none
theorem ok184 (fuel:Nat):FnOK Tryz.prog 184 (spg184 (F_ref08_asked fuel)):=by
  intro args objs kk r h
  unfold spg184 at h
  split at h
  · skip
    exact fo0 (hG184 fuel) Tryz.func184 rfl (by kernel_rfl) _ _ kk r ((F184_eqg fuel (F_ref08_size fuel) (F_ref08_Valid fuel) _ _ _ _ _ _ _ _ _ kk).trans h)
  · cases h
def kp254_9c5 (i:Nat):Option (List Nat):=Ev.look i [(9,[0,1,3,4,8,11,12,15,16,17]),(18,[0,1,3,4,8,11,12,15,16,17,18,21]),(100000,[12,16]),(100002,[0,1,3,4,8,11,12,15,16,17]),(200003,[0,8,11]),(400000,[12,13]),(400002,[12,13])]
def Gg254_9c5 (b:YF108) (c:YF110) (a:YF157_0a6) (d:YF184) (e:YF185) (g:YF187) (h:YF188) (f:Nat):Option Ev.Spec:=Ev.look f [(108,spg108 b),(110,spg110 c),(157,spg157_0a6 a),(184,spg184 d),(185,spg185 e),(187,spg187 g),(188,spg188 h)]
def G254_9c5 (fuel:Nat):Nat→Option Ev.Spec:=Gg254_9c5 (F_ref06_IsSize fuel) (F_ref06_IsBitmap fuel) (F_ref02_Decoder_Get_0a6 fuel) (F_ref08_asked fuel) (F_ref08_size fuel) (F_ref08_Alike fuel) (F_ref08_Context fuel)
abbrev V_ref08_Get_9c5_2:Type:=Int×Int×Int×Int×Int×Int×Int×Int×Int×Int×Int×Int×Int×Bool×LI×LI×Int×Int×Int×Bool×Int×Int×Int×LI×Int×Int×Int×Int×LI×LI
abbrev W_ref08_Get_9c5_2:Type:=(Int×Int×Int×Int×Int×Int×Int×Bool×LI×LI×Int×Int×LI→OA)×(Int×Int×Int×Int×Int×Int×Int×Int×Int×Int×Int×Bool×LI×LI×Int×Int×Int×Bool×Int×Int×Int×LI×Int×Int×Int×Int×LI×LI→OA)
def Sg_ref08_Get_9c5_2 (fuel:Nat) (b0:YF108) (b1:YF110) (H:YF157_0a6) (b2:YF184) (b3:YF185) (a5:YF187) (a2:YF188) (q e:Int) (A C:Int) (a D:Int) (d E:Int) (F G:Int) (r s t:Int) (u:Bool) (v w:LI) (g h i:Int) (j:Bool) (k l m:Int) (n:LI) (x y:Int) (o p:Int) (z f:LI) (c:V_ref08_Get_9c5_2→OA) (B:W_ref08_Get_9c5_2):OA:=match B with | (ret,b)=>bif decide (d < e) then (a5 g h i j k l m n d a (fun (a6,a7)=>bif D==0 then (a2 g h i j k o p f l m n d a (fun a8=>(H (i64.wrap (q+a8)) E F G r s t u v w (fun (a3,K,L,M,N,O,P,Q,R,S,I)=>bif K != 0 then ret (K,L,M,N,O,P,Q,R,S,I,0,0,[]) else bif decide (0≤i64.wrap (i64.wrap (a*e)+d)∧i64.wrap (i64.wrap (a*e)+d) < (↑f.length:Int)) then c (q,e,A,C,a,D,i64.wrap (d+1),L,M,N,O,P,Q,R,S,I,g,h,i,j,k,l,m,n,x,y,o,p,z,f.set (i64.wrap (i64.wrap (a*e)+d)).toNat (u8.wrap a3)) else none)))) else bif !a7 then (a2 g h i j k o p f l m n d a (fun a9=>(H (i64.wrap (q+a9)) E F G r s t u v w (fun (a4,T,U,V,W,X,Y,Z,a0,a1,J)=>bif T != 0 then ret (T,U,V,W,X,Y,Z,a0,a1,J,0,0,[]) else bif decide (0≤i64.wrap (i64.wrap (a*e)+d)∧i64.wrap (i64.wrap (a*e)+d) < (↑f.length:Int)) then c (q,e,A,C,a,D,i64.wrap (d+1),U,V,W,X,Y,Z,a0,a1,J,g,h,i,j,k,l,m,n,x,y,o,p,z,f.set (i64.wrap (i64.wrap (a*e)+d)).toNat (u8.wrap a4)) else none)))) else bif decide (0≤i64.wrap (i64.wrap (a*e)+d)∧i64.wrap (i64.wrap (a*e)+d) < (↑f.length:Int)) then c (q,e,A,C,a,D,i64.wrap (d+1),E,F,G,r,s,t,u,v,w,g,h,i,j,k,l,m,n,x,y,o,p,z,f.set (i64.wrap (i64.wrap (a*e)+d)).toNat a6) else none)) else b (q,e,A,C,a,E,F,G,r,s,t,u,v,w,g,h,i,j,k,l,m,n,x,y,o,p,z,f)
def S_ref08_Get_9c5_2 (fuel:Nat) (v:Int×Int×Int×Int×Int×Int×Int×Int×Int×Int×Int×Int×Int×Bool×(List Int)×(List Int)×Int×Int×Int×Bool×Int×Int×Int×(List Int)×Int×Int×Int×Int×(List Int)×(List Int)) (c:(Int×Int×Int×Int×Int×Int×Int×Int×Int×Int×Int×Int×Int×Bool×(List Int)×(List Int)×Int×Int×Int×Bool×Int×Int×Int×(List Int)×Int×Int×Int×Int×(List Int)×(List Int))→Option Ans) (B:(Int×Int×Int×Int×Int×Int×Int×Bool×(List Int)×(List Int)×Int×Int×(List Int)→Option Ans)×(Int×Int×Int×Int×Int×Int×Int×Int×Int×Int×Int×Bool×(List Int)×(List Int)×Int×Int×Int×Bool×Int×Int×Int×(List Int)×Int×Int×Int×Int×(List Int)×(List Int)→Option Ans)):Option Ans:=match v with | (w,x,y,z,A,C,D,E,F,G,a,b,d,e,f,g,h,i,j,k,l,m,n,o,p,q,r,s,t,u)=>Sg_ref08_Get_9c5_2 fuel (F_ref06_IsSize fuel) (F_ref06_IsBitmap fuel) (F_ref02_Decoder_Get_0a6 fuel) (F_ref08_asked fuel) (F_ref08_size fuel) (F_ref08_Alike fuel) (F_ref08_Context fuel) w x y z A C D E F G a b d e f g h i j k l m n o p q r s t u c B
def L_ref08_Get_9c5_2 (fuel:Nat) (v:V_ref08_Get_9c5_2) (ret:(Int×Int×Int×Int×Int×Int×Int×Bool×(List Int)×(List Int)×Int×Int×(List Int)→Option Ans)) (b:(Int×Int×Int×Int×Int×Int×Int×Int×Int×Int×Int×Bool×(List Int)×(List Int)×Int×Int×Int×Bool×Int×Int×Int×(List Int)×Int×Int×Int×Int×(List Int)×(List Int)→Option Ans)):Option Ans:=iter (S_ref08_Get_9c5_2 fuel) fuel v (ret,b)
def T254_9c5_2 (v:V_ref08_Get_9c5_2):Ev.St:=match v with | (w,x,y,z,A,B,C,D,E,F,a,b,d,e,f,g,h,i,j,k,l,m,n,o,p,q,r,s,t,u)=>⟨[(0,.c (.ptr 0 0)),(1,.c (i6 w)),(3,.c (i6 x)),(4,.c (i6 y)),(8,.c (.ptr 3 0)),(11,.c (.ptr 4 0)),(12,.c (.ptr 5 0)),(15,.c (i6 z)),(16,.c (.ptr 6 0)),(17,.c (i6 A)),(18,.c (i6 B)),(21,.c (i6 C))],[(0,.cells 204 [i6 D,.own 1,.int .u64 E,.int .u64 F,.own 2,i6 a,.int .u64 b,i6 d,.bool e]),(1,.vec 3 (.int .i64) f false),(2,.vec 5 (.int .u8) g false),(3,.cells 135 [i6 h,i6 i,i6 j,.bool k,i6 l]),(4,.cells 51 [i6 m,i6 n,.sl (.int .u8) o]),(5,.cells 51 [i6 p,i6 q,.own 7]),(6,.cells 51 [i6 r,i6 s,.own 8]),(7,.vec 5 (.int .u8) t true),(8,.vec 5 (.int .u8) u true)],9,3⟩
def E254_9c5_2 (K:KT):W_ref08_Get_9c5_2:=((fun v=>match v with | (e,f,g,h,i,j,k,l,m,n,a,b,d)=>K .ret ⟨[(12,.c (.ptr 3 0)),(13,.c (i6 e))],[(0,.cells 204 [i6 f,.own 1,.int .u64 g,.int .u64 h,.own 2,i6 i,.int .u64 j,i6 k,.bool l]),(1,.vec 3 (.int .i64) m false),(2,.vec 5 (.int .u8) n false),(3,.cells 51 [i6 a,i6 b,.own 4]),(4,.vec 5 (.int .u8) d true)],5,3⟩),(fun v=>match v with | (e,f,g,h,i,j,k,l,m,n,a,b,d,o,p,q,r,s,t,u,w,x,y,z,A,B,C,D)=>K .normal ⟨[(0,.c (.ptr 0 0)),(1,.c (i6 e)),(3,.c (i6 f)),(4,.c (i6 g)),(8,.c (.ptr 3 0)),(11,.c (.ptr 4 0)),(12,.c (.ptr 5 0)),(15,.c (i6 h)),(16,.c (.ptr 6 0)),(17,.c (i6 i))],[(0,.cells 204 [i6 j,.own 1,.int .u64 k,.int .u64 l,.own 2,i6 m,.int .u64 n,i6 a,.bool b]),(1,.vec 3 (.int .i64) d false),(2,.vec 5 (.int .u8) o false),(3,.cells 135 [i6 p,i6 q,i6 r,.bool s,i6 t]),(4,.cells 51 [i6 u,i6 w,.sl (.int .u8) x]),(5,.cells 51 [i6 y,i6 z,.own 7]),(6,.cells 51 [i6 A,i6 B,.own 8]),(7,.vec 5 (.int .u8) C true),(8,.vec 5 (.int .u8) D true)],9,3⟩))
theorem S254_9c5_2_okg (fuel:Nat) (b:YF108) (c:YF110) (a:YF157_0a6) (d:YF184) (e:YF185) (f:YF187) (g:YF188) (R:Ev.St→OA) (K:KT) (C D:Int) (E F:Int) (G H:Int) (I J:Int) (L M:Int) (h i j:Int) (k:Bool) (l m:LI) (n o p:Int) (q:Bool) (r s t:Int) (u:LI) (w x:Int) (y z:Int) (A B:LI):evalCode tab (Gg254_9c5 b c a d e f g) J0 kp254_9c5 fuel (bodyOf 2 Tryz.f254) (T254_9c5_2 (C,D,E,F,G,H,I,J,L,M,h,i,j,k,l,m,n,o,p,q,r,s,t,u,w,x,y,z,A,B)) (lc kp254_9c5 18 2 R K)=Sg_ref08_Get_9c5_2 fuel b c a d e f g C D E F G H I J L M h i j k l m n o p q r s t u w x y z A B (fun v=>R (T254_9c5_2 v)) (E254_9c5_2 K):=by
  kernel_rfl
def B254_9c5_2 (fuel:Nat):Ev.Blk:=fun st K=>match canonO (kp254_9c5 18) st with | some s=>(match s with | ⟨[(a7,.c (.ptr a8 a9)),(b0,.c (i6 b1)),(b2,.c (i6 b3)),(b4,.c (i6 b5)),(b6,.c (.ptr b7 b8)),(b9,.c (.ptr a b)),(d,.c (.ptr e f)),(g,.c (i6 c0)),(h,.c (.ptr i j)),(k,.c (i6 c1)),(l,.c (i6 c2)),(m,.c (i6 c3))],[(n,.cells o [i6 c4,.own p,.int .u64 c5,.int .u64 c6,.own q,i6 r,.int .u64 t,i6 u,.bool v]),(w,.vec x (.int .i64) y false),(z,.vec A (.int .u8) B false),(C,.cells D [i6 E,i6 F,i6 G,.bool H,i6 I]),(J,.cells L [i6 M,i6 N,.sl (.int .u8) O]),(P,.cells Q [i6 R,i6 S,.own T]),(U,.cells V [i6 W,i6 X,.own Y]),(Z,.vec a0 (.int .u8) a1 true),(a2,.vec a3 (.int .u8) a4 true)],a5,a6⟩=>bif qb [a7,a8,a9,b0,b2,b4,b6,b7,b8,b9,a,b,d,e,f,g,h,i,j,k,l,m,n,o,p,q,w,x,z,A,C,D,J,L,P,Q,T,U,V,Y,Z,a0,a2,a3,a5,a6] [0,0,0,1,3,4,8,3,0,11,4,0,12,5,0,15,16,6,0,17,18,21,0,204,1,2,1,3,2,5,3,135,4,51,5,51,7,6,51,8,7,5,8,5,9,3] then iter (S_ref08_Get_9c5_2 fuel) fuel (b1,b3,b5,c0,c1,c2,c3,c4,c5,c6,r,t,u,v,y,B,E,F,G,H,I,M,N,O,R,S,W,X,a1,a4) (E254_9c5_2 K) else none | _=>none) | none=>none
theorem B254_9c5_2_ok (fuel:Nat) (st:Ev.St) (K:KT) (r:Ans) (h:B254_9c5_2 fuel st K=some r):evalCode tab (G254_9c5 fuel) J0 kp254_9c5 fuel (.block 2 (.loop (bodyOf 2 Tryz.f254))) st K=some r:=by
  unfold B254_9c5_2 at h
  split at h
  · rename_i s hs
    split at h
    · skip
      obtain ⟨hb,h⟩:=cond_some' h
      cases qb_eq hb
      exact blk_loop (S:=T254_9c5_2) (ks:=E254_9c5_2) (step:=S_ref08_Get_9c5_2 fuel) (v:=(_,_,_,_,_,_,_,_,_,_,_,_,_,_,_,_,_,_,_,_,_,_,_,_,_,_,_,_,_,_)) (by kernel_rfl) (by kernel_rfl) (fun R K v=>by obtain ⟨y,z,A,B,C,D,E,F,G,H,a,b,c,d,e,f,g,i,j,k,l,m,n,o,p,q,t,u,w,x⟩:=v; exact S254_9c5_2_okg fuel (F_ref06_IsSize fuel) (F_ref06_IsBitmap fuel) (F_ref02_Decoder_Get_0a6 fuel) (F_ref08_asked fuel) (F_ref08_size fuel) (F_ref08_Alike fuel) (F_ref08_Context fuel) R K y z A B C D E F G H a b c d e f g i j k l m n o p q t u w x) hs h
    · cases h
  · cases h
abbrev V_ref08_Get_9c5_0:Type:=Int×Int×Int×Int×Int×Int×Int×Int×Int×Int×Int×Bool×LI×LI×Int×Int×Int×Bool×Int×Int×Int×LI×Int×Int×Int×Int×LI×LI
abbrev W_ref08_Get_9c5_0:Type:=(Int×Int×Int×Int×Int×Int×Int×Bool×LI×LI×Int×Int×LI→OA)×(Int×Int×Int×Int×Int×Int×Bool×LI×LI×Int×Int×Int×Int×LI×LI→OA)
def Sg_ref08_Get_9c5_0 (fuel:Nat) (b9:YF108) (c0:YF110) (b7:YF157_0a6) (c1:YF184) (c2:YF185) (c3:YF187) (c4:YF188) (b5 b6:Int) (Q R:Int) (S T:Int) (U V:Int) (W X F:Int) (G:Bool) (H I:LI) (a8 a9 b0:Int) (J:Bool) (b1 b2 b3:Int) (b4:LI) (K L:Int) (M N:Int) (O P:LI) (c:V_ref08_Get_9c5_0→OA) (B:W_ref08_Get_9c5_0):OA:=match B with | (ret,b)=>bif decide (S < Q) then bif J then (b7 R T U V W X F G H I (fun (b8,Z,a0,a1,a2,a3,a4,a5,a6,a7,Y)=>bif Z != 0 then ret (Z,a0,a1,a2,a3,a4,a5,a6,a7,Y,0,0,[]) else (L_ref08_Get_9c5_2 fuel (b5,b6,Q,R,S,b8,0,a0,a1,a2,a3,a4,a5,a6,a7,Y,a8,a9,b0,J,b1,b2,b3,b4,K,L,M,N,O,P) (fun (ret2_0,ret2_1,ret2_2,ret2_3,ret2_4,ret2_5,ret2_6,ret2_7,ret2_8,ret2_9,ret2_10,ret2_11,ret2_12)=>ret (ret2_0,ret2_1,ret2_2,ret2_3,ret2_4,ret2_5,ret2_6,ret2_7,ret2_8,ret2_9,ret2_10,ret2_11,ret2_12)) (fun (u,v,w,x,y,z,A,C,D,E,a,d,e,f,g,h,i,j,k,l,m,n,o,p,q,r,s,t)=>c (u,v,w,x,i64.wrap (y+1),z,A,C,D,E,a,d,e,f,g,h,i,j,k,l,m,n,o,p,q,r,s,t))))) else (L_ref08_Get_9c5_2 fuel (b5,b6,Q,R,S,0,0,T,U,V,W,X,F,G,H,I,a8,a9,b0,J,b1,b2,b3,b4,K,L,M,N,O,P) (fun (ret2_0,ret2_1,ret2_2,ret2_3,ret2_4,ret2_5,ret2_6,ret2_7,ret2_8,ret2_9,ret2_10,ret2_11,ret2_12)=>ret (ret2_0,ret2_1,ret2_2,ret2_3,ret2_4,ret2_5,ret2_6,ret2_7,ret2_8,ret2_9,ret2_10,ret2_11,ret2_12)) (fun (u,v,w,x,y,z,A,C,D,E,a,d,e,f,g,h,i,j,k,l,m,n,o,p,q,r,s,t)=>c (u,v,w,x,i64.wrap (y+1),z,A,C,D,E,a,d,e,f,g,h,i,j,k,l,m,n,o,p,q,r,s,t))) else b (T,U,V,W,X,F,G,H,I,K,L,M,N,O,P)
def S_ref08_Get_9c5_0 (fuel:Nat) (v:Int×Int×Int×Int×Int×Int×Int×Int×Int×Int×Int×Bool×(List Int)×(List Int)×Int×Int×Int×Bool×Int×Int×Int×(List Int)×Int×Int×Int×Int×(List Int)×(List Int)) (c:(Int×Int×Int×Int×Int×Int×Int×Int×Int×Int×Int×Bool×(List Int)×(List Int)×Int×Int×Int×Bool×Int×Int×Int×(List Int)×Int×Int×Int×Int×(List Int)×(List Int))→Option Ans) (B:(Int×Int×Int×Int×Int×Int×Int×Bool×(List Int)×(List Int)×Int×Int×(List Int)→Option Ans)×(Int×Int×Int×Int×Int×Int×Bool×(List Int)×(List Int)×Int×Int×Int×Int×(List Int)×(List Int)→Option Ans)):Option Ans:=match v with | (t,u,w,x,y,z,A,C,D,E,a,b,d,e,f,g,h,i,j,k,l,m,n,o,p,q,r,s)=>Sg_ref08_Get_9c5_0 fuel (F_ref06_IsSize fuel) (F_ref06_IsBitmap fuel) (F_ref02_Decoder_Get_0a6 fuel) (F_ref08_asked fuel) (F_ref08_size fuel) (F_ref08_Alike fuel) (F_ref08_Context fuel) t u w x y z A C D E a b d e f g h i j k l m n o p q r s c B
def L_ref08_Get_9c5_0 (fuel:Nat) (v:V_ref08_Get_9c5_0) (ret:(Int×Int×Int×Int×Int×Int×Int×Bool×(List Int)×(List Int)×Int×Int×(List Int)→Option Ans)) (b:(Int×Int×Int×Int×Int×Int×Bool×(List Int)×(List Int)×Int×Int×Int×Int×(List Int)×(List Int)→Option Ans)):Option Ans:=iter (S_ref08_Get_9c5_0 fuel) fuel v (ret,b)
def J254_9c5_0 (fuel:Nat) (i:Nat):Option Ev.Blk:=Ev.look i [(100002,B254_9c5_2 fuel)]
def T254_9c5_0 (v:V_ref08_Get_9c5_0):Ev.St:=match v with | (t,u,w,x,y,z,A,B,C,D,a,b,d,e,f,g,h,i,j,k,l,m,n,o,p,q,r,s)=>⟨[(0,.c (.ptr 0 0)),(1,.c (i6 t)),(3,.c (i6 u)),(4,.c (i6 w)),(8,.c (.ptr 3 0)),(11,.c (.ptr 4 0)),(12,.c (.ptr 5 0)),(15,.c (i6 x)),(16,.c (.ptr 6 0)),(17,.c (i6 y))],[(0,.cells 204 [i6 z,.own 1,.int .u64 A,.int .u64 B,.own 2,i6 C,.int .u64 D,i6 a,.bool b]),(1,.vec 3 (.int .i64) d false),(2,.vec 5 (.int .u8) e false),(3,.cells 135 [i6 f,i6 g,i6 h,.bool i,i6 j]),(4,.cells 51 [i6 k,i6 l,.sl (.int .u8) m]),(5,.cells 51 [i6 n,i6 o,.own 7]),(6,.cells 51 [i6 p,i6 q,.own 8]),(7,.vec 5 (.int .u8) r true),(8,.vec 5 (.int .u8) s true)],9,3⟩
def E254_9c5_0 (K:KT):W_ref08_Get_9c5_0:=((fun v=>match v with | (e,f,g,h,i,j,k,l,m,n,a,b,d)=>K .ret ⟨[(12,.c (.ptr 3 0)),(13,.c (i6 e))],[(0,.cells 204 [i6 f,.own 1,.int .u64 g,.int .u64 h,.own 2,i6 i,.int .u64 j,i6 k,.bool l]),(1,.vec 3 (.int .i64) m false),(2,.vec 5 (.int .u8) n false),(3,.cells 51 [i6 a,i6 b,.own 4]),(4,.vec 5 (.int .u8) d true)],5,3⟩),(fun v=>match v with | (e,f,g,h,i,j,k,l,m,n,a,b,d,o,p)=>K .normal ⟨[(12,.c (.ptr 3 0)),(16,.c (.ptr 4 0))],[(0,.cells 204 [i6 e,.own 1,.int .u64 f,.int .u64 g,.own 2,i6 h,.int .u64 i,i6 j,.bool k]),(1,.vec 3 (.int .i64) l false),(2,.vec 5 (.int .u8) m false),(3,.cells 51 [i6 n,i6 a,.own 5]),(4,.cells 51 [i6 b,i6 d,.own 6]),(5,.vec 5 (.int .u8) o true),(6,.vec 5 (.int .u8) p true)],7,3⟩))
theorem S254_9c5_0_okg (fuel:Nat) (b:YF108) (c:YF110) (a:YF157_0a6) (d:YF184) (e:YF185) (f:YF187) (g:YF188) (R:Ev.St→OA) (K:KT) (A B:Int) (C D:Int) (E F:Int) (G H:Int) (I J h:Int) (i:Bool) (j k:LI) (l m n:Int) (o:Bool) (p q r:Int) (s:LI) (t u:Int) (w x:Int) (y z:LI):evalCode tab (Gg254_9c5 b c a d e f g) (J254_9c5_0 fuel) kp254_9c5 fuel (bodyOf 0 Tryz.f254) (T254_9c5_0 (A,B,C,D,E,F,G,H,I,J,h,i,j,k,l,m,n,o,p,q,r,s,t,u,w,x,y,z)) (lc kp254_9c5 9 0 R K)=Sg_ref08_Get_9c5_0 fuel b c a d e f g A B C D E F G H I J h i j k l m n o p q r s t u w x y z (fun v=>R (T254_9c5_0 v)) (E254_9c5_0 K):=by
  kernel_rfl
def B254_9c5_0 (fuel:Nat):Ev.Blk:=fun st K=>match canonO (kp254_9c5 9) st with | some s=>(match s with | ⟨[(a3,.c (.ptr a4 a5)),(a6,.c (i6 a7)),(a8,.c (i6 a9)),(b0,.c (i6 b1)),(b2,.c (.ptr b3 b4)),(b5,.c (.ptr a b)),(d,.c (.ptr e f)),(g,.c (i6 b6)),(h,.c (.ptr i j)),(k,.c (i6 b7))],[(l,.cells m [i6 b8,.own n,.int .u64 b9,.int .u64 c0,.own o,i6 c1,.int .u64 c2,i6 p,.bool q]),(r,.vec t (.int .i64) u false),(v,.vec w (.int .u8) x false),(y,.cells z [i6 A,i6 B,i6 C,.bool D,i6 E]),(F,.cells G [i6 H,i6 I,.sl (.int .u8) J]),(L,.cells M [i6 N,i6 O,.own P]),(Q,.cells R [i6 S,i6 T,.own U]),(V,.vec W (.int .u8) X true),(Y,.vec Z (.int .u8) a0 true)],a1,a2⟩=>bif qb [a3,a4,a5,a6,a8,b0,b2,b3,b4,b5,a,b,d,e,f,g,h,i,j,k,l,m,n,o,r,t,v,w,y,z,F,G,L,M,P,Q,R,U,V,W,Y,Z,a1,a2] [0,0,0,1,3,4,8,3,0,11,4,0,12,5,0,15,16,6,0,17,0,204,1,2,1,3,2,5,3,135,4,51,5,51,7,6,51,8,7,5,8,5,9,3] then iter (S_ref08_Get_9c5_0 fuel) fuel (a7,a9,b1,b6,b7,b8,b9,c0,c1,c2,p,q,u,x,A,B,C,D,E,H,I,J,N,O,S,T,X,a0) (E254_9c5_0 K) else none | _=>none) | none=>none
theorem B254_9c5_0_ok (fuel:Nat) (st:Ev.St) (K:KT) (r:Ans) (h:B254_9c5_0 fuel st K=some r):evalCode tab (G254_9c5 fuel) (J254_9c5_0 fuel) kp254_9c5 fuel (.block 0 (.loop (bodyOf 0 Tryz.f254))) st K=some r:=by
  unfold B254_9c5_0 at h
  split at h
  · rename_i s hs
    split at h
    · skip
      obtain ⟨hb,h⟩:=cond_some' h
      cases qb_eq hb
      exact blk_loop (S:=T254_9c5_0) (ks:=E254_9c5_0) (step:=S_ref08_Get_9c5_0 fuel) (v:=(_,_,_,_,_,_,_,_,_,_,_,_,_,_,_,_,_,_,_,_,_,_,_,_,_,_,_,_)) (by kernel_rfl) (by kernel_rfl) (fun R K v=>by obtain ⟨w,x,y,z,A,B,C,D,E,F,a,b,c,d,e,f,g,i,j,k,l,m,n,o,p,q,t,u⟩:=v; exact S254_9c5_0_okg fuel (F_ref06_IsSize fuel) (F_ref06_IsBitmap fuel) (F_ref02_Decoder_Get_0a6 fuel) (F_ref08_asked fuel) (F_ref08_size fuel) (F_ref08_Alike fuel) (F_ref08_Context fuel) R K w x y z A B C D E F a b c d e f g i j k l m n o p q t u) hs h
    · cases h
  · cases h
def J254_9c5 (fuel:Nat) (i:Nat):Option Ev.Blk:=Ev.look i [(100002,B254_9c5_2 fuel),(100000,B254_9c5_0 fuel)]
def Fg_ref08_Get_9c5 (fuel:Nat) (M:YF108) (N:YF110) (S:YF157_0a6) (H:YF184) (I:YF185) (T:YF187) (U:YF188) (e f:Int) (n o:Int) (p:Bool) (q a:Int) (b F G:Int) (E:LI) (c g:Int) (h i:Int) (j k:Int) (l:Bool) (d m:LI) (k0:(Int×Int×Int×Int×Int×Int×Int×Int×Int×Bool×LI×LI×LI)→OA):OA:=(M a b (fun R=>bif R then (N F G E (fun r=>(H f n o p q r e c d (fun J=>bif J != 0 then k0 (0,0,J,c,g,h,i,j,k,l,d,m,[]) else (I f (fun P=>bif decide (0≤i64.wrap (a*b)∧i64.wrap (a*b)=i64.wrap (a*b)∧(↑(1:Nat):Int)*i64.wrap (a*b)≤281474976710656∧i64.wrap (a*b)≤281474976710656) then (L_ref08_Get_9c5_0 fuel (e,a,b,i64.wrap (i64.wrap (e+P) - 1),0,c,g,h,i,j,k,l,d,m,f,n,o,p,q,F,G,E,0,0,a,b,[],List.replicate (i64.wrap (a*b)).toNat (0:Int)) (fun (ret0_0,ret0_1,ret0_2,ret0_3,ret0_4,ret0_5,ret0_6,ret0_7,ret0_8,ret0_9,ret0_10,ret0_11,ret0_12)=>k0 (ret0_10,ret0_11,ret0_0,ret0_1,ret0_2,ret0_3,ret0_4,ret0_5,ret0_6,ret0_7,ret0_8,ret0_9,ret0_12)) (fun (v,w,x,y,z,A,B,C,D,O,K,s,t,L,u)=>k0 (s,t,0,v,w,x,y,z,A,B,C,D,u))) else none)))))) else (H f n o p q (false) e c d (fun r=>bif r != 0 then k0 (0,0,r,c,g,h,i,j,k,l,d,m,[]) else (I f (fun Q=>bif decide (0≤i64.wrap (a*b)∧i64.wrap (a*b)=i64.wrap (a*b)∧(↑(1:Nat):Int)*i64.wrap (a*b)≤281474976710656∧i64.wrap (a*b)≤281474976710656) then (L_ref08_Get_9c5_0 fuel (e,a,b,i64.wrap (i64.wrap (e+Q) - 1),0,c,g,h,i,j,k,l,d,m,f,n,o,p,q,F,G,E,0,0,a,b,[],List.replicate (i64.wrap (a*b)).toNat (0:Int)) (fun (ret0_0,ret0_1,ret0_2,ret0_3,ret0_4,ret0_5,ret0_6,ret0_7,ret0_8,ret0_9,ret0_10,ret0_11,ret0_12)=>k0 (ret0_10,ret0_11,ret0_0,ret0_1,ret0_2,ret0_3,ret0_4,ret0_5,ret0_6,ret0_7,ret0_8,ret0_9,ret0_12)) (fun (v,w,x,y,z,A,B,C,D,O,K,s,t,L,u)=>k0 (s,t,0,v,w,x,y,z,A,B,C,D,u))) else none))))))
abbrev YF254_9c5:Type:=Int→Int→Int→Int→Bool→Int→Int→Int→Int→Int→LI→Int→Int→Int→Int→Int→Int→Bool→LI→LI→((Int×Int×Int×Int×Int×Int×Int×Int×Int×Bool×LI×LI×LI)→Option Ans)→Option Ans
def F_ref08_Get_9c5 (fuel:Nat):YF254_9c5:=Fg_ref08_Get_9c5 fuel (F_ref06_IsSize fuel) (F_ref06_IsBitmap fuel) (F_ref02_Decoder_Get_0a6 fuel) (F_ref08_asked fuel) (F_ref08_size fuel) (F_ref08_Alike fuel) (F_ref08_Context fuel)
theorem F254_9c5_eqg (fuel:Nat) (b:YF108) (d:YF110) (a:YF157_0a6) (e:YF184) (f:YF185) (g:YF187) (h:YF188) (u v:Int) (w x:Int) (y:Bool) (z A:Int) (B C D:Int) (i:LI) (j l:Int) (m n:Int) (o p:Int) (q:Bool) (s t:LI) (k:Ev.Cont):evalFn tab (Gg254_9c5 b d a e f g h) (J254_9c5 fuel) kp254_9c5 fuel Tryz.f254 [.c (.ptr 0 0),.c (i6 u),.agg [i6 v,i6 w,i6 x,.bool y,i6 z],.c (i6 A),.c (i6 B),.agg [i6 C,i6 D,.sl (.int .u8) i]] [.cells 204 [i6 j,.own 1,.int .u64 l,.int .u64 m,.own 2,i6 n,.int .u64 o,i6 p,.bool q],.vec 3 (.int .i64) s false,.vec 5 (.int .u8) t false] k=Fg_ref08_Get_9c5 fuel b d a e f g h u v w x y z A B C D i j l m n o p q s t (fun r=>match r with | (H,I,J,K,L,M,N,O,P,Q,E,F,G)=>k (.tup [(true,[i6 H,i6 I,.own 3]),(false,[i6 J])],[.cells 204 [i6 K,.own 1,.int .u64 L,.int .u64 M,.own 2,i6 N,.int .u64 O,i6 P,.bool Q],.vec 3 (.int .i64) E false,.vec 5 (.int .u8) F false,.vec 5 (.int .u8) G true])):=by
  kernel_rfl
theorem hG254_9c5 (fuel:Nat):GOK Tryz.prog (G254_9c5 fuel):=
  gc (ok108 fuel) Tryz.func108 (by kernel_rfl) rfl <|
  gc (ok110 fuel) Tryz.func110 (by kernel_rfl) rfl <|
  gc (ok157_0a6 fuel) Tryz.func157 (by kernel_rfl) rfl <|
  gc (ok184 fuel) Tryz.func184 (by kernel_rfl) rfl <|
  gc (ok185 fuel) Tryz.func185 (by kernel_rfl) rfl <|
  gc (ok187 fuel) Tryz.func187 (by kernel_rfl) rfl <|
  gc (ok188 fuel) Tryz.func188 (by kernel_rfl) rfl <|
  gok_nil
theorem B254_9c5_2_blk (fuel:Nat):BlkOK Tryz.prog Tryz.f254.ntmps (.block 2 (.loop (bodyOf 2 Tryz.f254))) (B254_9c5_2 fuel):=bo0 (hG254_9c5 fuel) (by kernel_rfl) (by kernel_rfl) (B254_9c5_2_ok fuel)
theorem B254_9c5_0_blk (fuel:Nat):BlkOK Tryz.prog Tryz.f254.ntmps (.block 0 (.loop (bodyOf 0 Tryz.f254))) (B254_9c5_0 fuel):=
  blk_of (blk_of_code tab_ok (hG254_9c5 fuel) mixed (J:=J254_9c5_0 fuel) (kp:=kp254_9c5) (fuel:=fuel) (by kernel_rfl) (fun q hq=>by
    rw [(by kernel_rfl:obl (J254_9c5_0 fuel) (.block 0 (.loop (bodyOf 0 Tryz.f254)))= [(.block 2 (.loop (bodyOf 2 Tryz.f254)),B254_9c5_2 fuel)])] at hq
    simp only [List.mem_cons,List.not_mem_nil,or_false] at hq
    subst hq
    · exact B254_9c5_2_blk fuel)) (B254_9c5_0_ok fuel)
def spg254_9c5 (F:YF254_9c5):Ev.Spec:=fun args objs k=>match args,objs with | [.c (.ptr p q),.c (i6 s),.agg [i6 t,i6 u,i6 v,.bool w,i6 x],.c (i6 y),.c (i6 z),.agg [i6 A,i6 B,.sl (.int .u8) a]],[.cells C [i6 b,.own D,.int .u64 d,.int .u64 e,.own E,i6 f,.int .u64 g,i6 h,.bool i],.vec G (.int .i64) j false,.vec H (.int .u8) l false]=>bif qb [p,q,C,D,E,G,H] [0,0,204,1,2,3,5] then F s t u v w x y z A B a b d e f g h i j l (fun r=>match r with | (I,J,K,L,M,N,O,P,Q,R,m,n,o)=>k (.tup [(true,[i6 I,i6 J,.own 3]),(false,[i6 K])],[.cells 204 [i6 L,.own 1,.int .u64 M,.int .u64 N,.own 2,i6 O,.int .u64 P,i6 Q,.bool R],.vec 3 (.int .i64) m false,.vec 5 (.int .u8) n false,.vec 5 (.int .u8) o true])) else none | _,_=>none
theorem ok254_9c5 (fuel:Nat):FnOK Tryz.prog 254 (spg254_9c5 (F_ref08_Get_9c5 fuel)):=by
  intro args objs kk r h
  unfold spg254_9c5 at h
  split at h
  · skip
    obtain ⟨hb,h⟩:=cond_some' h
    cases qb_eq hb
    exact fo1 (hG254_9c5 fuel) Tryz.func254 rfl (B254_9c5_0_blk fuel) (by kernel_rfl) _ _ kk r ((F254_9c5_eqg fuel (F_ref06_IsSize fuel) (F_ref06_IsBitmap fuel) (F_ref02_Decoder_Get_0a6 fuel) (F_ref08_asked fuel) (F_ref08_size fuel) (F_ref08_Alike fuel) (F_ref08_Context fuel) _ _ _ _ _ _ _ _ _ _ _ _ _ _ _ _ _ _ _ _ kk).trans h)
  · cases h
def kp253_986 (i:Nat):Option (List Nat):=Ev.look i []
def Gg253_986 (a:YF96_986) (b:YF237) (f:Nat):Option Ev.Spec:=Ev.look f [(96,spg96_986 a),(237,spg237 b)]
def G253_986 (fuel:Nat):Nat→Option Ev.Spec:=Gg253_986 (F_ref10_reader_number_986 fuel) (F_ref10_isSide fuel)
def Fg_ref10_reader_offset_986 (fuel:Nat) (v:YF96_986) (w:YF237) (H I J:Int) (K:Bool) (L M N:Int) (O:Bool) (P:Int) (Q:(List (Int×(Int×LI)))) (x y:Int) (z A:Int) (B C D:Int) (E:Bool) (F G:LI) (k0:(Int×Int×Int×Int×Bool×Int×Int×Int×Bool×Int×(List (Int×(Int×LI)))×Int×Int×Int×Int×Int×Int×Int×Bool×LI×LI)→OA):OA:=(v H I J K L M N O P Q x y z A B C D E F G (fun (a,m,n,o,p,q,r,s,t,u,b,c,d,e,f,g,h,i,j,k,l)=>bif m==0 then (w a (fun R=>bif !R then k0 (a,3,n,o,p,q,r,s,t,u,b,c,d,e,f,g,h,i,j,k,l) else k0 (a,m,n,o,p,q,r,s,t,u,b,c,d,e,f,g,h,i,j,k,l))) else k0 (a,m,n,o,p,q,r,s,t,u,b,c,d,e,f,g,h,i,j,k,l)))
abbrev YF253_986:Type:=Int→Int→Int→Bool→Int→Int→Int→Bool→Int→((List (Int×(Int×LI))))→Int→Int→Int→Int→Int→Int→Int→Bool→LI→LI→((Int×Int×Int×Int×Bool×Int×Int×Int×Bool×Int×(List (Int×(Int×LI)))×Int×Int×Int×Int×Int×Int×Int×Bool×LI×LI)→Option Ans)→Option Ans
def F_ref10_reader_offset_986 (fuel:Nat):YF253_986:=Fg_ref10_reader_offset_986 fuel (F_ref10_reader_number_986 fuel) (F_ref10_isSide fuel)
theorem F253_986_eqg (fuel:Nat) (a:YF96_986) (b:YF237) (o p q:Int) (s:Bool) (t u v:Int) (w:Bool) (x:Int) (y:(List (Int×(Int×LI)))) (d e:Int) (f g:Int) (h i j:Int) (l:Bool) (m n:LI) (k:Ev.Cont):evalFn tab (Gg253_986 a b) J0 kp253_986 fuel Tryz.f253 [.c (.ptr 0 0),.c (i6 o)] [.cells 145 [i6 p,i6 q,.bool s,i6 t,i6 u,i6 v,.bool w,i6 x,.sl (.pair (.int .i64) (.pair (.int .i64) (.sl (.int .u8)))) y,.ptr 1 0,i6 d],.cells 204 [i6 e,.own 2,.int .u64 f,.int .u64 g,.own 3,i6 h,.int .u64 i,i6 j,.bool l],.vec 3 (.int .i64) m false,.vec 5 (.int .u8) n false] k=Fg_ref10_reader_offset_986 fuel a b o p q s t u v w x y d e f g h i j l m n (fun r=>match r with | (K,L,M,N,O,P,Q,R,S,T,z,A,B,C,D,E,F,G,H,I,J)=>k (.tup [(false,[i6 K]),(false,[i6 L])],[.cells 145 [i6 M,i6 N,.bool O,i6 P,i6 Q,i6 R,.bool S,i6 T,.sl (.pair (.int .i64) (.pair (.int .i64) (.sl (.int .u8)))) z,.ptr 1 0,i6 A],.cells 204 [i6 B,.own 2,.int .u64 C,.int .u64 D,.own 3,i6 E,.int .u64 F,i6 G,.bool H],.vec 3 (.int .i64) I false,.vec 5 (.int .u8) J false])):=by
  kernel_rfl
theorem hG253_986 (fuel:Nat):GOK Tryz.prog (G253_986 fuel):=
  gc (ok96_986 fuel) Tryz.func96 (by kernel_rfl) rfl <|
  gc (ok237 fuel) Tryz.func237 (by kernel_rfl) rfl <|
  gok_nil
def spg253_986 (F:YF253_986):Ev.Spec:=fun args objs k=>match args,objs with | [.c (.ptr y z),.c (i6 A)],[.cells B [i6 C,i6 D,.bool E,i6 G,i6 H,i6 I,.bool J,i6 K,.sl (.pair (.int .i64) (.pair (.int .i64) (.sl (.int .u8)))) L,.ptr M N,i6 a],.cells O [i6 b,.own P,.int .u64 d,.int .u64 e,.own Q,i6 f,.int .u64 g,i6 h,.bool i],.vec R (.int .i64) j false,.vec S (.int .u8) l false]=>bif qb [y,z,B,M,N,O,P,Q,R,S] [0,0,145,1,0,204,2,3,3,5] then F A C D E G H I J K L a b d e f g h i j l (fun r=>match r with | (T,U,V,W,X,Y,Z,a0,a1,a2,m,n,o,p,q,s,t,u,v,w,x)=>k (.tup [(false,[i6 T]),(false,[i6 U])],[.cells 145 [i6 V,i6 W,.bool X,i6 Y,i6 Z,i6 a0,.bool a1,i6 a2,.sl (.pair (.int .i64) (.pair (.int .i64) (.sl (.int .u8)))) m,.ptr 1 0,i6 n],.cells 204 [i6 o,.own 2,.int .u64 p,.int .u64 q,.own 3,i6 s,.int .u64 t,i6 u,.bool v],.vec 3 (.int .i64) w false,.vec 5 (.int .u8) x false])) else none | _,_=>none
theorem ok253_986 (fuel:Nat):FnOK Tryz.prog 253 (spg253_986 (F_ref10_reader_offset_986 fuel)):=by
  intro args objs kk r h
  unfold spg253_986 at h
  split at h
  · skip
    obtain ⟨hb,h⟩:=cond_some' h
    cases qb_eq hb
    exact fo0 (hG253_986 fuel) Tryz.func253 rfl (by kernel_rfl) _ _ kk r ((F253_986_eqg fuel (F_ref10_reader_number_986 fuel) (F_ref10_isSide fuel) _ _ _ _ _ _ _ _ _ _ _ _ _ _ _ _ _ _ _ _ kk).trans h)
  · cases h
def kp252_764 (i:Nat):Option (List Nat):=Ev.look i []
def Gg252_764 (a:YF96_986) (f:Nat):Option Ev.Spec:=Ev.look f [(96,spg96_986 a)]
def G252_764 (fuel:Nat):Nat→Option Ev.Spec:=Gg252_764 (F_ref10_reader_number_986 fuel)
def Fg_ref10_reader_side_764 (fuel:Nat) (w:YF96_986) (I b:Int) (J K:Int) (L:Bool) (M N O:Int) (P:Bool) (Q:Int) (x:(List (Int×(Int×LI)))) (y z:Int) (A B:Int) (C D E:Int) (F:Bool) (G H:LI) (k0:(Int×Int×Int×Int×Bool×Int×Int×Int×Bool×Int×(List (Int×(Int×LI)))×Int×Int×Int×Int×Int×Int×Int×Bool×LI×LI)→OA):OA:=(w I J K L M N O P Q x y z A B C D E F G H (fun (a,v,n,o,p,q,r,s,t,u,c,d,e,f,g,h,i,j,k,l,m)=>bif v==0 then bif decide (i64.wrap (a+b) < 1) then k0 (i64.wrap (a+b),3,n,o,p,q,r,s,t,u,c,d,e,f,g,h,i,j,k,l,m) else bif decide (i64.wrap (a+b) > 40) then k0 (i64.wrap (a+b),3,n,o,p,q,r,s,t,u,c,d,e,f,g,h,i,j,k,l,m) else k0 (i64.wrap (a+b),v,n,o,p,q,r,s,t,u,c,d,e,f,g,h,i,j,k,l,m) else k0 (i64.wrap (a+b),v,n,o,p,q,r,s,t,u,c,d,e,f,g,h,i,j,k,l,m)))
abbrev YF252_764:Type:=Int→Int→Int→Int→Bool→Int→Int→Int→Bool→Int→((List (Int×(Int×LI))))→Int→Int→Int→Int→Int→Int→Int→Bool→LI→LI→((Int×Int×Int×Int×Bool×Int×Int×Int×Bool×Int×(List (Int×(Int×LI)))×Int×Int×Int×Int×Int×Int×Int×Bool×LI×LI)→Option Ans)→Option Ans
def F_ref10_reader_side_764 (fuel:Nat):YF252_764:=Fg_ref10_reader_side_764 fuel (F_ref10_reader_number_986 fuel)
theorem F252_764_eqg (fuel:Nat) (a:YF96_986) (o p:Int) (q s:Int) (t:Bool) (u v w:Int) (x:Bool) (y:Int) (b:(List (Int×(Int×LI)))) (d e:Int) (f g:Int) (h i j:Int) (l:Bool) (m n:LI) (k:Ev.Cont):evalFn tab (Gg252_764 a) J0 kp252_764 fuel Tryz.f252 [.c (.ptr 0 0),.c (i6 o),.c (i6 p)] [.cells 145 [i6 q,i6 s,.bool t,i6 u,i6 v,i6 w,.bool x,i6 y,.sl (.pair (.int .i64) (.pair (.int .i64) (.sl (.int .u8)))) b,.ptr 1 0,i6 d],.cells 204 [i6 e,.own 2,.int .u64 f,.int .u64 g,.own 3,i6 h,.int .u64 i,i6 j,.bool l],.vec 3 (.int .i64) m false,.vec 5 (.int .u8) n false] k=Fg_ref10_reader_side_764 fuel a o p q s t u v w x y b d e f g h i j l m n (fun r=>match r with | (K,L,M,N,O,P,Q,R,S,T,z,A,B,C,D,E,F,G,H,I,J)=>k (.tup [(false,[i6 K]),(false,[i6 L])],[.cells 145 [i6 M,i6 N,.bool O,i6 P,i6 Q,i6 R,.bool S,i6 T,.sl (.pair (.int .i64) (.pair (.int .i64) (.sl (.int .u8)))) z,.ptr 1 0,i6 A],.cells 204 [i6 B,.own 2,.int .u64 C,.int .u64 D,.own 3,i6 E,.int .u64 F,i6 G,.bool H],.vec 3 (.int .i64) I false,.vec 5 (.int .u8) J false])):=by
  kernel_rfl
theorem hG252_764 (fuel:Nat):GOK Tryz.prog (G252_764 fuel):=
  gc (ok96_986 fuel) Tryz.func96 (by kernel_rfl) rfl <|
  gok_nil
def spg252_764 (F:YF252_764):Ev.Spec:=fun args objs k=>match args,objs with | [.c (.ptr z A),.c (i6 B),.c (i6 C)],[.cells D [i6 E,i6 G,.bool H,i6 I,i6 J,i6 K,.bool L,i6 M,.sl (.pair (.int .i64) (.pair (.int .i64) (.sl (.int .u8)))) a,.ptr N O,i6 b],.cells P [i6 d,.own Q,.int .u64 e,.int .u64 f,.own R,i6 g,.int .u64 h,i6 i,.bool j],.vec S (.int .i64) l false,.vec T (.int .u8) m false]=>bif qb [z,A,D,N,O,P,Q,R,S,T] [0,0,145,1,0,204,2,3,3,5] then F B C E G H I J K L M a b d e f g h i j l m (fun r=>match r with | (U,V,W,X,Y,Z,a0,a1,a2,a3,n,o,p,q,s,t,u,v,w,x,y)=>k (.tup [(false,[i6 U]),(false,[i6 V])],[.cells 145 [i6 W,i6 X,.bool Y,i6 Z,i6 a0,i6 a1,.bool a2,i6 a3,.sl (.pair (.int .i64) (.pair (.int .i64) (.sl (.int .u8)))) n,.ptr 1 0,i6 o],.cells 204 [i6 p,.own 2,.int .u64 q,.int .u64 s,.own 3,i6 t,.int .u64 u,i6 v,.bool w],.vec 3 (.int .i64) x false,.vec 5 (.int .u8) y false])) else none | _,_=>none
theorem ok252_764 (fuel:Nat):FnOK Tryz.prog 252 (spg252_764 (F_ref10_reader_side_764 fuel)):=by
  intro args objs kk r h
  unfold spg252_764 at h
  split at h
  · skip
    obtain ⟨hb,h⟩:=cond_some' h
    cases qb_eq hb
    exact fo0 (hG252_764 fuel) Tryz.func252 rfl (by kernel_rfl) _ _ kk r ((F252_764_eqg fuel (F_ref10_reader_number_986 fuel) _ _ _ _ _ _ _ _ _ _ _ _ _ _ _ _ _ _ _ _ _ kk).trans h)
  · cases h
def kp90 (i:Nat):Option (List Nat):=Ev.look i []
def Gg90 (f:Nat):Option Ev.Spec:=Ev.look f []
def G90 (fuel:Nat):Nat→Option Ev.Spec:=Gg90
def F_ref10_refine (fuel:Nat) (e f:Int) (g:Bool) (h i a:Int) (j:Bool) (b c d:Int) (k0:(Int×Int×Int×Bool×Int)→Option Ans):Option Ans:=k0 (b,c,d,false,a)
abbrev YF90:Type:=Int→Int→Bool→Int→Int→Int→Bool→Int→Int→Int→((Int×Int×Int×Bool×Int)→Option Ans)→Option Ans
theorem F90_eq (fuel:Nat) (a b:Int) (d:Bool) (e f g:Int) (h:Bool) (i j l:Int) (k:Ev.Cont):evalFn tab (G90 fuel) J0 kp90 fuel Tryz.f90 [.agg [i6 a,i6 b,.bool d,i6 e,i6 f,i6 g,.bool h,i6 i],.c (i6 j),.c (i6 l)] [] k=F_ref10_refine fuel a b d e f g h i j l (fun r=>match r with | (m,n,o,p,q)=>k (.agg [i6 m,i6 n,i6 o,.bool p,i6 q],[])):=by
  kernel_rfl
theorem hG90 (fuel:Nat):GOK Tryz.prog (G90 fuel):=
  gok_nil
def spg90 (F:YF90):Ev.Spec:=fun args objs k=>match args,objs with | [.agg [i6 a,i6 b,.bool d,i6 e,i6 f,i6 g,.bool h,i6 i],.c (i6 j),.c (i6 l)],[]=>F a b d e f g h i j l (fun r=>match r with | (m,n,o,p,q)=>k (.agg [i6 m,i6 n,i6 o,.bool p,i6 q],[])) | _,_=>none
theorem ok90 (fuel:Nat):FnOK Tryz.prog 90 (spg90 (F_ref10_refine fuel)):=by
  intro args objs kk r h
  unfold spg90 at h
  split at h
  · skip
    exact fo0 (hG90 fuel) Tryz.func90 rfl (by kernel_rfl) _ _ kk r ((F90_eq fuel _ _ _ _ _ _ _ _ _ _ kk).trans h)
  · cases h
end
end Go.Proofs.YtipdidpalcmlhaaGreat

