/- What the functions that SymbolRefines reaches do: their typed texts, each with the proof that the machine does it. No condition. -/
import Derived.Test.YtohnjbmiaegofaaGreatEvX
import Derived.Test.YtohnjbmiaegofaaGreatFsSymbolRefines4
import Derived.Test.YtohnjbmiaegofaaGreatFsSymbolRefines3
import Derived.Test.YtohnjbmiaegofaaGreatFsSymbolRefines1
import Derived.Test.YtohnjbmiaegofaaGreatFsSymbolRefines6
import Derived.Test.YtohnjbmiaegofaaGreatFsSymbolRefines2
import Derived.Test.YtohnjbmiaegofaaGreatFsSymbolRefines5
set_option linter.unusedVariables false
set_option linter.unusedSimpArgs false
set_option linter.unusedSectionVars false
set_option linter.unusedVariables false
set_option linter.unusedSimpArgs false
set_option maxRecDepth 100000
set_option maxHeartbeats 2000000
namespace Go.Proofs.YtohnjbmiaegofaaGreat
open Go Ev
open Go.IntKind (i64 u64 u8 i32 u32 u16)
noncomputable section
def cw (i:Nat):Option (List Nat):=Ev.look i [(3,[0,1,2,7,17,18,19]),(8,[0,1,2,7,41,42,43]),(100000,[0,1,2,7]),(100002,[7]),(200005,[0,9]),(200010,[0,11]),(400000,[6]),(400002,[6])]
def kG (a:aH) (b:ae) (c:aV) (f:Nat):Option Ev.Spec:=Ev.look f [(164,gN a),(179,dc b),(199,lw c)]
def jA (fuel:Nat):Nat→Option Ev.Spec:=kG (al fuel) (ad fuel) (aG fuel)
abbrev uE:Type:=Int×Int×Int×Int×Int×Int×Int×Int×Bool×Int×Int×Int×LI×Int×Int×LI×(List (Int×Int))
abbrev sa:Type:=(Int×Int×Int×Int×Int×Int×Bool×Int×Int×Int×LI×Int×Int×LI→OA)
def jx (fuel:Nat) (v:aH) (t:ae) (w:aV) (h i:Int) (m n:Int) (a o:Int) (p q:Int) (r:Bool) (s e f:Int) (g:LI) (j k:Int) (l:LI) (d:(List (Int×Int))) (c:uE→OA) (B:sa):OA:=match B with | b=>bif decide (a < n) then bif decide (0≤a∧a < (↑d.length:Int)) then (t e f g (i64.wrap (h+(d.getD a.toNat (0,0)).fst)) (i64.wrap (i+(d.getD a.toNat (0,0)).snd)) (fun u=>c (h,i,i64.wrap (i64.wrap (2*m)+i64.wrap u),n,i64.wrap (a+1),o,p,q,r,s,e,f,g,j,k,l,d))) else none else b (h,i,m,o,p,q,r,s,e,f,g,j,k,l)
def fE (fuel:Nat) (v:Int×Int×Int×Int×Int×Int×Int×Int×Bool×Int×Int×Int×(List Int)×Int×Int×(List Int)×(List (Int×Int))) (c:(Int×Int×Int×Int×Int×Int×Int×Int×Bool×Int×Int×Int×(List Int)×Int×Int×(List Int)×(List (Int×Int)))→Option Ans) (B:(Int×Int×Int×Int×Int×Int×Bool×Int×Int×Int×(List Int)×Int×Int×(List Int)→Option Ans)):Option Ans:=match v with | (i,j,k,l,m,n,o,p,q,r,a,b,d,e,f,g,h)=>jx fuel (al fuel) (ad fuel) (aG fuel) i j k l m n o p q r a b d e f g h c B
def xK (fuel:Nat) (v:uE) (b:sa):Option Ans:=iter (fE fuel) fuel v b
def oz (v:uE):Ev.St:=match v with | (i,j,k,l,m,n,o,p,q,r,a,b,d,e,f,g,h)=>⟨[(0,.c (.ptr 0 0)),(1,.c (i6 i)),(2,.c (i6 j)),(7,.c (i6 k)),(17,.c (.own 1)),(18,.c (i6 l)),(19,.c (i6 m))],[(0,.cells 230 [i6 n,i6 o,i6 p,.bool q,i6 r,i6 a,i6 b,.sl (.int .u8) d,i6 e,i6 f,.sl (.int .u8) g]),(1,.vec 22 (.pair (.int .i64) (.int .i64)) h true)],2,1⟩
def qn (K:KT):sa:=(fun v=>match v with | (f,g,h,i,j,k,l,m,n,o,a,b,d,e)=>K .normal ⟨[(0,.c (.ptr 0 0)),(1,.c (i6 f)),(2,.c (i6 g)),(7,.c (i6 h))],[(0,.cells 230 [i6 i,i6 j,i6 k,.bool l,i6 m,i6 n,i6 o,.sl (.int .u8) a,i6 b,i6 d,.sl (.int .u8) e])],1,1⟩)
theorem D4 (fuel:Nat) (a:aH) (b:ae) (c:aV) (R:Ev.St→OA) (K:KT) (k l:Int) (m n:Int) (o p:Int) (q r:Int) (s:Bool) (t d e:Int) (f:LI) (g h:Int) (i:LI) (j:(List (Int×Int))):evalCode tab (kG a b c) J0 cw fuel (bodyOf 0 Tryz.f178) (oz (k,l,m,n,o,p,q,r,s,t,d,e,f,g,h,i,j)) (lc cw 3 0 R K)=jx fuel a b c k l m n o p q r s t d e f g h i j (fun v=>R (oz v)) (qn K):=by
  kernel_rfl
def gj (fuel:Nat):Ev.Blk:=fun st K=>match canonO (cw 3) st with | some s=>(match s with | ⟨[(o,.c (.ptr p q)),(r,.c (i6 t)),(u,.c (i6 v)),(w,.c (i6 x)),(y,.c (.own z)),(A,.c (i6 B)),(C,.c (i6 D))],[(a,.cells b [i6 E,i6 F,i6 G,.bool H,i6 I,i6 d,i6 e,.sl (.int .u8) f,i6 g,i6 h,.sl (.int .u8) i]),(j,.vec k (.pair (.int .i64) (.int .i64)) l true)],m,n⟩=>bif qb [o,p,q,r,u,w,y,z,A,C,a,b,j,k,m,n] [0,0,0,1,2,7,17,1,18,19,0,230,1,22,2,1] then iter (fE fuel) fuel (t,v,x,B,D,E,F,G,H,I,d,e,f,g,h,i,l) (qn K) else none | _=>none) | none=>none
theorem JD (fuel:Nat) (st:Ev.St) (K:KT) (r:Ans) (h:gj fuel st K=some r):evalCode tab (jA fuel) J0 cw fuel (.block 0 (.loop (bodyOf 0 Tryz.f178))) st K=some r:=by
  unfold gj at h
  split at h
  · rename_i s hs
    split at h
    · skip
      obtain ⟨hb,h⟩:=cond_some' h
      cases qb_eq hb
      exact blk_loop (S:=oz) (ks:=qn) (step:=fE fuel) (v:=(_,_,_,_,_,_,_,_,_,_,_,_,_,_,_,_,_)) (by kernel_rfl) (by kernel_rfl) (fun R K v=>by obtain ⟨i,j,k,l,m,n,o,p,q,t,a,b,c,d,e,f,g⟩:=v; exact D4 fuel (al fuel) (ad fuel) (aG fuel) R K i j k l m n o p q t a b c d e f g) hs h
    · cases h
  · cases h
abbrev qo:Type:=Int×Int×Int×Int×Int×Int×Int×Int×Bool×Int×Int×Int×LI×Int×Int×LI×(List (Int×Int))
abbrev us:Type:=(Int×Int×Int×Int×Bool×Int×Int×Int×LI×Int×Int×LI→OA)
def jH (fuel:Nat) (v:aH) (t:ae) (w:aV) (m n:Int) (o p:Int) (a q:Int) (h i:Int) (r:Bool) (s j k:Int) (l:LI) (e f:Int) (g:LI) (d:(List (Int×Int))) (c:qo→OA) (B:us):OA:=match B with | b=>bif decide (a < p) then bif decide (0≤a∧a < (↑d.length:Int)) then (t e f g (i64.wrap (i64.wrap (m - h)+(d.getD a.toNat (0,0)).fst)) (i64.wrap (i64.wrap (n - i)+(d.getD a.toNat (0,0)).snd)) (fun u=>c (m,n,i64.wrap (i64.wrap (2*o)+i64.wrap u),p,i64.wrap (a+1),q,h,i,r,s,j,k,l,e,f,g,d))) else none else b (o,q,h,i,r,s,j,k,l,e,f,g)
def eL (fuel:Nat) (v:Int×Int×Int×Int×Int×Int×Int×Int×Bool×Int×Int×Int×(List Int)×Int×Int×(List Int)×(List (Int×Int))) (c:(Int×Int×Int×Int×Int×Int×Int×Int×Bool×Int×Int×Int×(List Int)×Int×Int×(List Int)×(List (Int×Int)))→Option Ans) (B:(Int×Int×Int×Int×Bool×Int×Int×Int×(List Int)×Int×Int×(List Int)→Option Ans)):Option Ans:=match v with | (i,j,k,l,m,n,o,p,q,r,a,b,d,e,f,g,h)=>jH fuel (al fuel) (ad fuel) (aG fuel) i j k l m n o p q r a b d e f g h c B
def wX (fuel:Nat) (v:qo) (b:us):Option Ans:=iter (eL fuel) fuel v b
def we (fuel:Nat) (i:Nat):Option Ev.Blk:=Ev.look i [(100000,gj fuel)]
def tI (v:qo):Ev.St:=match v with | (i,j,k,l,m,n,o,p,q,r,a,b,d,e,f,g,h)=>⟨[(0,.c (.ptr 0 0)),(1,.c (i6 i)),(2,.c (i6 j)),(7,.c (i6 k)),(41,.c (.own 1)),(42,.c (i6 l)),(43,.c (i6 m))],[(0,.cells 230 [i6 n,i6 o,i6 p,.bool q,i6 r,i6 a,i6 b,.sl (.int .u8) d,i6 e,i6 f,.sl (.int .u8) g]),(1,.vec 22 (.pair (.int .i64) (.int .i64)) h true)],2,1⟩
def ux (K:KT):us:=(fun v=>match v with | (d,e,f,g,h,i,j,k,l,m,a,b)=>K .normal ⟨[(7,.c (i6 d))],[(0,.cells 230 [i6 e,i6 f,i6 g,.bool h,i6 i,i6 j,i6 k,.sl (.int .u8) l,i6 m,i6 a,.sl (.int .u8) b])],1,1⟩)
theorem Ed (fuel:Nat) (a:aH) (b:ae) (c:aV) (R:Ev.St→OA) (K:KT) (k l:Int) (m n:Int) (o p:Int) (q r:Int) (s:Bool) (t d e:Int) (f:LI) (g h:Int) (i:LI) (j:(List (Int×Int))):evalCode tab (kG a b c) (we fuel) cw fuel (bodyOf 2 Tryz.f178) (tI (k,l,m,n,o,p,q,r,s,t,d,e,f,g,h,i,j)) (lc cw 8 2 R K)=jH fuel a b c k l m n o p q r s t d e f g h i j (fun v=>R (tI v)) (ux K):=by
  kernel_rfl
def iS (fuel:Nat):Ev.Blk:=fun st K=>match canonO (cw 8) st with | some s=>(match s with | ⟨[(o,.c (.ptr p q)),(r,.c (i6 t)),(u,.c (i6 v)),(w,.c (i6 x)),(y,.c (.own z)),(A,.c (i6 B)),(C,.c (i6 D))],[(a,.cells b [i6 E,i6 F,i6 G,.bool H,i6 I,i6 d,i6 e,.sl (.int .u8) f,i6 g,i6 h,.sl (.int .u8) i]),(j,.vec k (.pair (.int .i64) (.int .i64)) l true)],m,n⟩=>bif qb [o,p,q,r,u,w,y,z,A,C,a,b,j,k,m,n] [0,0,0,1,2,7,41,1,42,43,0,230,1,22,2,1] then iter (eL fuel) fuel (t,v,x,B,D,E,F,G,H,I,d,e,f,g,h,i,l) (ux K) else none | _=>none) | none=>none
theorem Ct (fuel:Nat) (st:Ev.St) (K:KT) (r:Ans) (h:iS fuel st K=some r):evalCode tab (jA fuel) (we fuel) cw fuel (.block 2 (.loop (bodyOf 2 Tryz.f178))) st K=some r:=by
  unfold iS at h
  split at h
  · rename_i s hs
    split at h
    · skip
      obtain ⟨hb,h⟩:=cond_some' h
      cases qb_eq hb
      exact blk_loop (S:=tI) (ks:=ux) (step:=eL fuel) (v:=(_,_,_,_,_,_,_,_,_,_,_,_,_,_,_,_,_)) (by kernel_rfl) (by kernel_rfl) (fun R K v=>by obtain ⟨i,j,k,l,m,n,o,p,q,t,a,b,c,d,e,f,g⟩:=v; exact Ed fuel (al fuel) (ad fuel) (aG fuel) R K i j k l m n o p q t a b c d e f g) hs h
    · cases h
  · cases h
def nX (fuel:Nat) (i:Nat):Option Ev.Blk:=Ev.look i [(100000,gj fuel),(100002,iS fuel)]
def rY (fuel:Nat) (j:aH) (R:ae) (k:aV) (I J:Int) (b K L:Int) (M:Bool) (N O P:Int) (Q:LI) (F G:Int) (H:LI) (k0:(Int×Int×Int×Int×Bool×Int×Int×Int×LI×Int×Int×LI)→OA):OA:=(j b (fun c=>(xK fuel (I,J,0,(↑c.length:Int),0,b,K,L,M,N,O,P,Q,F,G,H,c) (fun (l,m,n,o,p,q,r,s,t,u,d,e,f,g)=>(k (fun a=>(wX fuel (l,m,n,(↑a.length:Int),0,o,p,q,r,s,t,u,d,e,f,g,a) (fun (v,w,x,y,z,A,B,C,D,E,h,i)=>k0 (v,w,x,y,z,A,B,C,D,E,h,i)))))))))
abbrev df:Type:=Int→Int→Int→Int→Int→Bool→Int→Int→Int→LI→Int→Int→LI→((Int×Int×Int×Int×Bool×Int×Int×Int×LI×Int×Int×LI)→Option Ans)→Option Ans
def cH (fuel:Nat):df:=rY fuel (al fuel) (ad fuel) (aG fuel)
theorem I4 (fuel:Nat) (a:aH) (b:ae) (d:aV) (h i:Int) (j l m:Int) (n:Bool) (o p q:Int) (s:LI) (e f:Int) (g:LI) (k:Ev.Cont):evalFn tab (kG a b d) (nX fuel) cw fuel Tryz.f178 [.c (.ptr 0 0),.c (i6 h),.c (i6 i)] [.cells 230 [i6 j,i6 l,i6 m,.bool n,i6 o,i6 p,i6 q,.sl (.int .u8) s,i6 e,i6 f,.sl (.int .u8) g]] k=rY fuel a b d h i j l m n o p q s e f g (fun r=>match r with | (v,w,x,y,z,A,B,C,D,E,t,u)=>k (.c (i6 v),[.cells 230 [i6 w,i6 x,i6 y,.bool z,i6 A,i6 B,i6 C,.sl (.int .u8) D,i6 E,i6 t,.sl (.int .u8) u]])):=by
  kernel_rfl
theorem mw (fuel:Nat):GOK Tryz.prog (jA fuel):=
  gc (oA fuel) Tryz.func164 (by kernel_rfl) rfl <|
  gc (fQ fuel) Tryz.func179 (by kernel_rfl) rfl <|
  gc (wM fuel) Tryz.func199 (by kernel_rfl) rfl <|
  gok_nil
theorem CI (fuel:Nat):BlkOK Tryz.prog Tryz.f178.ntmps (.block 0 (.loop (bodyOf 0 Tryz.f178))) (gj fuel):=bo0 (mw fuel) (by kernel_rfl) (by kernel_rfl) (JD fuel)
theorem DN (fuel:Nat):BlkOK Tryz.prog Tryz.f178.ntmps (.block 2 (.loop (bodyOf 2 Tryz.f178))) (iS fuel):=bo0 (mw fuel) (by kernel_rfl) (by kernel_rfl) (Ct fuel)
theorem D1 (fuel:Nat):FnOK Tryz.prog 178 (evalFn tab (jA fuel) (nX fuel) cw fuel Tryz.f178):=
  fn_ok tab_ok (mw fuel) mixed Tryz.func178 (c:=(Tryz.f178.body).getD .skip) rfl (fun q hq=>by
    rw [(by kernel_rfl:obl (nX fuel) ((Tryz.f178.body).getD .skip)= [(.block 0 (.loop (bodyOf 0 Tryz.f178)),gj fuel),(.block 2 (.loop (bodyOf 2 Tryz.f178)),iS fuel)])] at hq
    simp only [List.mem_cons,List.not_mem_nil,or_false] at hq
    rcases hq with rfl | rfl
    · exact CI fuel
    · exact DN fuel)
def qe (F:df):Ev.Spec:=fun args objs k=>match args,objs with | [.c (.ptr g h),.c (i6 i),.c (i6 j)],[.cells l [i6 m,i6 n,i6 o,.bool p,i6 q,i6 s,i6 t,.sl (.int .u8) u,i6 a,i6 b,.sl (.int .u8) d]]=>bif qb [g,h,l] [0,0,230] then F i j m n o p q s t u a b d (fun r=>match r with | (v,w,x,y,z,A,B,C,D,E,e,f)=>k (.c (i6 v),[.cells 230 [i6 w,i6 x,i6 y,.bool z,i6 A,i6 B,i6 C,.sl (.int .u8) D,i6 E,i6 e,.sl (.int .u8) f]])) else none | _,_=>none
theorem Bx (fuel:Nat):FnOK Tryz.prog 178 (qe (cH fuel)):=by
  intro args objs kk r h
  unfold qe at h
  split at h
  · skip
    obtain ⟨hb,h⟩:=cond_some' h
    cases qb_eq hb
    exact D1 fuel _ _ kk r ((I4 fuel (al fuel) (ad fuel) (aG fuel) _ _ _ _ _ _ _ _ _ _ _ _ _ kk).trans h)
  · cases h
def gZ (i:Nat):Option (List Nat):=Ev.look i [(3,[0,1,2,8,29]),(100000,[8]),(200001,[0]),(200005,[0]),(400000,[6,7])]
def pW (a:ae) (f:Nat):Option Ev.Spec:=Ev.look f [(179,dc a)]
def va (fuel:Nat):Nat→Option Ev.Spec:=pW (ad fuel)
abbrev mn:Type:=Int×Int×Int×Int×Int×Int×Int×Bool×Int×Int×Int×LI×Int×Int×LI
abbrev vN:Type:=(Int×Bool×Int×Int×Int×Bool×Int×Int×Int×LI×Int×Int×LI→OA)×(Int×Int×Int×Int×Bool×Int×Int×Int×LI×Int×Int×LI→OA)
def lJ (fuel:Nat) (r:ae) (p q:Int) (k f:Int) (l g h:Int) (m:Bool) (n o i:Int) (j:LI) (a d:Int) (e:LI) (c:mn→OA) (B:vN):OA:=match B with | (ret,b)=>bif decide (f < 9) then (r a d e (i64.wrap (i64.wrap (i64.wrap (p - g)+f.tmod 3) - 1)) (i64.wrap (i64.wrap (i64.wrap (q - h)+i64.wrap (f.tdiv 3)) - 1)) (fun s=>bif s != k then ret (0,false,l,g,h,m,n,o,i,j,a,d,e) else c (p,q,k,i64.wrap (f+1),l,g,h,m,n,o,i,j,a,d,e))) else b (k,l,g,h,m,n,o,i,j,a,d,e)
def dd (fuel:Nat) (v:Int×Int×Int×Int×Int×Int×Int×Bool×Int×Int×Int×(List Int)×Int×Int×(List Int)) (c:(Int×Int×Int×Int×Int×Int×Int×Bool×Int×Int×Int×(List Int)×Int×Int×(List Int))→Option Ans) (B:(Int×Bool×Int×Int×Int×Bool×Int×Int×Int×(List Int)×Int×Int×(List Int)→Option Ans)×(Int×Int×Int×Int×Bool×Int×Int×Int×(List Int)×Int×Int×(List Int)→Option Ans)):Option Ans:=match v with | (g,h,i,j,k,l,m,n,o,p,a,b,d,e,f)=>lJ fuel (ad fuel) g h i j k l m n o p a b d e f c B
def vH (fuel:Nat) (v:mn) (ret:(Int×Bool×Int×Int×Int×Bool×Int×Int×Int×(List Int)×Int×Int×(List Int)→Option Ans)) (b:(Int×Int×Int×Int×Bool×Int×Int×Int×(List Int)×Int×Int×(List Int)→Option Ans)):Option Ans:=iter (dd fuel) fuel v (ret,b)
def tx (v:mn):Ev.St:=match v with | (g,h,i,j,k,l,m,n,o,p,a,b,d,e,f)=>⟨[(0,.c (.ptr 0 0)),(1,.c (i6 g)),(2,.c (i6 h)),(8,.c (.int .u8 i)),(29,.c (i6 j))],[(0,.cells 230 [i6 k,i6 l,i6 m,.bool n,i6 o,i6 p,i6 a,.sl (.int .u8) b,i6 d,i6 e,.sl (.int .u8) f])],1,1⟩
def mV (K:KT):vN:=((fun v=>match v with | (d,e,f,g,h,i,j,k,l,m,a,b,n)=>K .ret ⟨[(6,.c (.int .u8 d)),(7,.c (.bool e))],[(0,.cells 230 [i6 f,i6 g,i6 h,.bool i,i6 j,i6 k,i6 l,.sl (.int .u8) m,i6 a,i6 b,.sl (.int .u8) n])],1,1⟩),(fun v=>match v with | (d,e,f,g,h,i,j,k,l,m,a,b)=>K .normal ⟨[(8,.c (.int .u8 d))],[(0,.cells 230 [i6 e,i6 f,i6 g,.bool h,i6 i,i6 j,i6 k,.sl (.int .u8) l,i6 m,i6 a,.sl (.int .u8) b])],1,1⟩))
theorem zM (fuel:Nat) (a:ae) (R:Ev.St→OA) (K:KT) (g h:Int) (i j:Int) (k l m:Int) (n:Bool) (o p b:Int) (c:LI) (d e:Int) (f:LI):evalCode tab (pW a) J0 gZ fuel (bodyOf 0 Tryz.f177) (tx (g,h,i,j,k,l,m,n,o,p,b,c,d,e,f)) (lc gZ 3 0 R K)=lJ fuel a g h i j k l m n o p b c d e f (fun v=>R (tx v)) (mV K):=by
  kernel_rfl
def lD (fuel:Nat):Ev.Blk:=fun st K=>match canonO (gZ 3) st with | some s=>(match s with | ⟨[(h,.c (.ptr i j)),(k,.c (i6 l)),(m,.c (i6 n)),(o,.c (.int .u8 p)),(q,.c (i6 r))],[(t,.cells u [i6 v,i6 w,i6 x,.bool y,i6 z,i6 A,i6 a,.sl (.int .u8) b,i6 d,i6 e,.sl (.int .u8) f])],B,g⟩=>bif qb [h,i,j,k,m,o,q,t,u,B,g] [0,0,0,1,2,8,29,0,230,1,1] then iter (dd fuel) fuel (l,n,p,r,v,w,x,y,z,A,a,b,d,e,f) (mV K) else none | _=>none) | none=>none
theorem EJ (fuel:Nat) (st:Ev.St) (K:KT) (r:Ans) (h:lD fuel st K=some r):evalCode tab (va fuel) J0 gZ fuel (.block 0 (.loop (bodyOf 0 Tryz.f177))) st K=some r:=by
  unfold lD at h
  split at h
  · rename_i s hs
    split at h
    · skip
      obtain ⟨hb,h⟩:=cond_some' h
      cases qb_eq hb
      exact blk_loop (S:=tx) (ks:=mV) (step:=dd fuel) (v:=(_,_,_,_,_,_,_,_,_,_,_,_,_,_,_)) (by kernel_rfl) (by kernel_rfl) (fun R K v=>by obtain ⟨f,g,i,j,k,l,m,n,o,p,a,b,c,d,e⟩:=v; exact zM fuel (ad fuel) R K f g i j k l m n o p a b c d e) hs h
    · cases h
  · cases h
def Dt (fuel:Nat) (i:Nat):Option Ev.Blk:=Ev.look i [(100000,lD fuel)]
def pk (fuel:Nat) (j:ae) (d e:Int) (u f g:Int) (v:Bool) (w x y:Int) (z:LI) (a b:Int) (c:LI) (k0:(Int×Bool×Int×Int×Int×Bool×Int×Int×Int×LI×Int×Int×LI)→OA):OA:=(j a b c (i64.wrap (d - f)) (i64.wrap (e - g)) (fun A=>(vH fuel (d,e,A,0,u,f,g,v,w,x,y,z,a,b,c) (fun (ret0_0,ret0_1,ret0_2,ret0_3,ret0_4,ret0_5,ret0_6,ret0_7,ret0_8,ret0_9,ret0_10,ret0_11,ret0_12)=>k0 (ret0_0,ret0_1,ret0_2,ret0_3,ret0_4,ret0_5,ret0_6,ret0_7,ret0_8,ret0_9,ret0_10,ret0_11,ret0_12)) (fun (k,l,m,n,o,p,q,r,s,t,h,i)=>k0 (k,true,l,m,n,o,p,q,r,s,t,h,i)))))
abbrev bj:Type:=Int→Int→Int→Int→Int→Bool→Int→Int→Int→LI→Int→Int→LI→((Int×Bool×Int×Int×Int×Bool×Int×Int×Int×LI×Int×Int×LI)→Option Ans)→Option Ans
def bh (fuel:Nat):bj:=pk fuel (ad fuel)
theorem Ke (fuel:Nat) (a:ae) (f g:Int) (h i j:Int) (l:Bool) (m n o:Int) (p:LI) (b d:Int) (e:LI) (k:Ev.Cont):evalFn tab (pW a) (Dt fuel) gZ fuel Tryz.f177 [.c (.ptr 0 0),.c (i6 f),.c (i6 g)] [.cells 230 [i6 h,i6 i,i6 j,.bool l,i6 m,i6 n,i6 o,.sl (.int .u8) p,i6 b,i6 d,.sl (.int .u8) e]] k=pk fuel a f g h i j l m n o p b d e (fun r=>match r with | (u,v,w,x,y,z,A,B,C,D,q,s,t)=>k (.tup [(false,[.int .u8 u]),(false,[.bool v])],[.cells 230 [i6 w,i6 x,i6 y,.bool z,i6 A,i6 B,i6 C,.sl (.int .u8) D,i6 q,i6 s,.sl (.int .u8) t]])):=by
  kernel_rfl
theorem xO (fuel:Nat):GOK Tryz.prog (va fuel):=
  gc (fQ fuel) Tryz.func179 (by kernel_rfl) rfl <|
  gok_nil
theorem BP (fuel:Nat):BlkOK Tryz.prog Tryz.f177.ntmps (.block 0 (.loop (bodyOf 0 Tryz.f177))) (lD fuel):=bo0 (xO fuel) (by kernel_rfl) (by kernel_rfl) (EJ fuel)
def kU (F:bj):Ev.Spec:=fun args objs k=>match args,objs with | [.c (.ptr h i),.c (i6 j),.c (i6 l)],[.cells m [i6 n,i6 o,i6 p,.bool q,i6 s,i6 t,i6 u,.sl (.int .u8) v,i6 a,i6 b,.sl (.int .u8) d]]=>bif qb [h,i,m] [0,0,230] then F j l n o p q s t u v a b d (fun r=>match r with | (w,x,y,z,A,B,C,D,E,G,e,f,g)=>k (.tup [(false,[.int .u8 w]),(false,[.bool x])],[.cells 230 [i6 y,i6 z,i6 A,.bool B,i6 C,i6 D,i6 E,.sl (.int .u8) G,i6 e,i6 f,.sl (.int .u8) g]])) else none | _,_=>none
theorem xT (fuel:Nat):FnOK Tryz.prog 177 (kU (bh fuel)):=by
  intro args objs kk r h
  unfold kU at h
  split at h
  · skip
    obtain ⟨hb,h⟩:=cond_some' h
    cases qb_eq hb
    exact fo1 (xO fuel) Tryz.func177 rfl (BP fuel) (by kernel_rfl) _ _ kk r ((Ke fuel (ad fuel) _ _ _ _ _ _ _ _ _ _ _ _ _ kk).trans h)
  · cases h
def gL (i:Nat):Option (List Nat):=Ev.look i [(2,[0,1,12,13]),(100000,[]),(400000,[4])]
def pC (a:bj) (b:ae) (f:Nat):Option Ev.Spec:=Ev.look f [(177,kU a),(179,dc b)]
def yO (fuel:Nat):Nat→Option Ev.Spec:=pC (bh fuel) (ad fuel)
abbrev pI:Type:=Int×Int×Int×Int×Int×Int×Bool×Int×Int×Int×LI×Int×Int×LI
abbrev xC:Type:=(Bool×Int×Int×Int×Bool×Int×Int×Int×LI×Int×Int×LI→OA)×(Int×Int×Int×Bool×Int×Int×Int×LI×Int×Int×LI→OA)
def ym (fuel:Nat) (C:bj) (D:ae) (g p:Int) (a u:Int) (v w:Int) (x:Bool) (y z A:Int) (q:LI) (r s:Int) (t:LI) (c:pI→OA) (B:xC):OA:=match B with | (ret,b)=>bif decide (a < p) then (C a g u v w x y z A q r s t (fun (E,F,k,l,m,n,o,d,e,f,h,i,j)=>bif F then (D d e f a g (fun G=>bif E != G then ret (false,k,l,m,n,o,d,e,f,h,i,j) else c (g,p,i64.wrap (a+1),k,l,m,n,o,d,e,f,h,i,j))) else c (g,p,i64.wrap (a+1),k,l,m,n,o,d,e,f,h,i,j))) else b (u,v,w,x,y,z,A,q,r,s,t)
def tP (fuel:Nat) (v:Int×Int×Int×Int×Int×Int×Bool×Int×Int×Int×(List Int)×Int×Int×(List Int)) (c:(Int×Int×Int×Int×Int×Int×Bool×Int×Int×Int×(List Int)×Int×Int×(List Int))→Option Ans) (B:(Bool×Int×Int×Int×Bool×Int×Int×Int×(List Int)×Int×Int×(List Int)→Option Ans)×(Int×Int×Int×Bool×Int×Int×Int×(List Int)×Int×Int×(List Int)→Option Ans)):Option Ans:=match v with | (f,g,h,i,j,k,l,m,n,o,a,b,d,e)=>ym fuel (bh fuel) (ad fuel) f g h i j k l m n o a b d e c B
def JZ (fuel:Nat) (v:pI) (ret:(Bool×Int×Int×Int×Bool×Int×Int×Int×(List Int)×Int×Int×(List Int)→Option Ans)) (b:(Int×Int×Int×Bool×Int×Int×Int×(List Int)×Int×Int×(List Int)→Option Ans)):Option Ans:=iter (tP fuel) fuel v (ret,b)
def mz (v:pI):Ev.St:=match v with | (f,g,h,i,j,k,l,m,n,o,a,b,d,e)=>⟨[(0,.c (.ptr 0 0)),(1,.c (i6 f)),(12,.c (i6 g)),(13,.c (i6 h))],[(0,.cells 230 [i6 i,i6 j,i6 k,.bool l,i6 m,i6 n,i6 o,.sl (.int .u8) a,i6 b,i6 d,.sl (.int .u8) e])],1,1⟩
def rQ (K:KT):xC:=((fun v=>match v with | (b,d,e,f,g,h,i,j,k,l,a,m)=>K .ret ⟨[(4,.c (.bool b))],[(0,.cells 230 [i6 d,i6 e,i6 f,.bool g,i6 h,i6 i,i6 j,.sl (.int .u8) k,i6 l,i6 a,.sl (.int .u8) m])],1,1⟩),(fun v=>match v with | (b,d,e,f,g,h,i,j,k,l,a)=>K .normal ⟨[],[(0,.cells 230 [i6 b,i6 d,i6 e,.bool f,i6 g,i6 h,i6 i,.sl (.int .u8) j,i6 k,i6 l,.sl (.int .u8) a])],1,1⟩))
theorem FX (fuel:Nat) (a:bj) (b:ae) (R:Ev.St→OA) (K:KT) (g h:Int) (i j:Int) (k l:Int) (m:Bool) (n o p:Int) (c:LI) (d e:Int) (f:LI):evalCode tab (pC a b) J0 gL fuel (bodyOf 0 Tryz.f176) (mz (g,h,i,j,k,l,m,n,o,p,c,d,e,f)) (lc gL 2 0 R K)=ym fuel a b g h i j k l m n o p c d e f (fun v=>R (mz v)) (rQ K):=by
  kernel_rfl
def jq (fuel:Nat):Ev.Blk:=fun st K=>match canonO (gL 2) st with | some s=>(match s with | ⟨[(f,.c (.ptr g h)),(i,.c (i6 j)),(k,.c (i6 l)),(m,.c (i6 n))],[(o,.cells p [i6 q,i6 r,i6 t,.bool u,i6 v,i6 w,i6 x,.sl (.int .u8) a,i6 b,i6 d,.sl (.int .u8) e])],y,z⟩=>bif qb [f,g,h,i,k,m,o,p,y,z] [0,0,0,1,12,13,0,230,1,1] then iter (tP fuel) fuel (j,l,n,q,r,t,u,v,w,x,a,b,d,e) (rQ K) else none | _=>none) | none=>none
theorem Fz (fuel:Nat) (st:Ev.St) (K:KT) (r:Ans) (h:jq fuel st K=some r):evalCode tab (yO fuel) J0 gL fuel (.block 0 (.loop (bodyOf 0 Tryz.f176))) st K=some r:=by
  unfold jq at h
  split at h
  · rename_i s hs
    split at h
    · skip
      obtain ⟨hb,h⟩:=cond_some' h
      cases qb_eq hb
      exact blk_loop (S:=mz) (ks:=rQ) (step:=tP fuel) (v:=(_,_,_,_,_,_,_,_,_,_,_,_,_,_)) (by kernel_rfl) (by kernel_rfl) (fun R K v=>by obtain ⟨e,f,g,i,j,k,l,m,n,o,a,b,c,d⟩:=v; exact FX fuel (bh fuel) (ad fuel) R K e f g i j k l m n o a b c d) hs h
    · cases h
  · cases h
def Gz (fuel:Nat) (i:Nat):Option Ev.Blk:=Ev.look i [(100000,jq fuel)]
def vS (fuel:Nat) (x:bj) (y:ae) (o p:Int) (q r:Int) (s:Bool) (t a u:Int) (v:LI) (w m:Int) (n:LI) (k0:(Bool×Int×Int×Int×Bool×Int×Int×Int×LI×Int×Int×LI)→OA):OA:=(JZ fuel (o,a,0,p,q,r,s,t,a,u,v,w,m,n) (fun (ret0_0,ret0_1,ret0_2,ret0_3,ret0_4,ret0_5,ret0_6,ret0_7,ret0_8,ret0_9,ret0_10,ret0_11)=>k0 (ret0_0,ret0_1,ret0_2,ret0_3,ret0_4,ret0_5,ret0_6,ret0_7,ret0_8,ret0_9,ret0_10,ret0_11)) (fun (c,d,e,f,g,h,i,j,k,l,b)=>k0 (true,c,d,e,f,g,h,i,j,k,l,b)))
abbrev dF:Type:=Int→Int→Int→Int→Bool→Int→Int→Int→LI→Int→Int→LI→((Bool×Int×Int×Int×Bool×Int×Int×Int×LI×Int×Int×LI)→Option Ans)→Option Ans
def ep (fuel:Nat):dF:=vS fuel (bh fuel) (ad fuel)
theorem Fo (fuel:Nat) (a:bj) (b:ae) (f g:Int) (h i:Int) (j:Bool) (l m n:Int) (o:LI) (p d:Int) (e:LI) (k:Ev.Cont):evalFn tab (pC a b) (Gz fuel) gL fuel Tryz.f176 [.c (.ptr 0 0),.c (i6 f)] [.cells 230 [i6 g,i6 h,i6 i,.bool j,i6 l,i6 m,i6 n,.sl (.int .u8) o,i6 p,i6 d,.sl (.int .u8) e]] k=vS fuel a b f g h i j l m n o p d e (fun r=>match r with | (t,u,v,w,x,y,z,A,B,C,q,s)=>k (.c (.bool t),[.cells 230 [i6 u,i6 v,i6 w,.bool x,i6 y,i6 z,i6 A,.sl (.int .u8) B,i6 C,i6 q,.sl (.int .u8) s]])):=by
  kernel_rfl
theorem yZ (fuel:Nat):GOK Tryz.prog (yO fuel):=
  gc (xT fuel) Tryz.func177 (by kernel_rfl) rfl <|
  gc (fQ fuel) Tryz.func179 (by kernel_rfl) rfl <|
  gok_nil
theorem EC (fuel:Nat):BlkOK Tryz.prog Tryz.f176.ntmps (.block 0 (.loop (bodyOf 0 Tryz.f176))) (jq fuel):=bo0 (yZ fuel) (by kernel_rfl) (by kernel_rfl) (Fz fuel)
def mt (F:dF):Ev.Spec:=fun args objs k=>match args,objs with | [.c (.ptr f g),.c (i6 h)],[.cells i [i6 j,i6 l,i6 m,.bool n,i6 o,i6 p,i6 q,.sl (.int .u8) s,i6 t,i6 a,.sl (.int .u8) b]]=>bif qb [f,g,i] [0,0,230] then F h j l m n o p q s t a b (fun r=>match r with | (u,v,w,x,y,z,A,B,C,D,d,e)=>k (.c (.bool u),[.cells 230 [i6 v,i6 w,i6 x,.bool y,i6 z,i6 A,i6 B,.sl (.int .u8) C,i6 D,i6 d,.sl (.int .u8) e]])) else none | _,_=>none
theorem E9 (fuel:Nat):FnOK Tryz.prog 176 (mt (ep fuel)):=by
  intro args objs kk r h
  unfold mt at h
  split at h
  · skip
    obtain ⟨hb,h⟩:=cond_some' h
    cases qb_eq hb
    exact fo1 (yZ fuel) Tryz.func176 rfl (EC fuel) (by kernel_rfl) _ _ kk r ((Fo fuel (bh fuel) (ad fuel) _ _ _ _ _ _ _ _ _ _ _ _ kk).trans h)
  · cases h
def bF (i:Nat):Option (List Nat):=Ev.look i [(11,[0,1,7,8,11,52,53,1000002]),(20,[0,1,7,8,11,12,13,52,53,75,76,1000002]),(100001,[]),(100003,[0,1,7,8,11,52,53]),(200007,[7]),(400001,[10]),(400003,[10]),(600000,[])]
def lr (e:az) (l:ao) (g:aC) (a:ag) (h:br) (i:bq) (j:ej) (b:dF) (c:bj) (d:df) (k:ae) (f:Nat):Option Ev.Spec:=Ev.look f [(35,eG e),(90,dH l),(130,fy g),(132,cS a),(173,jY h),(174,jB i),(1000175,qM j),(176,mt b),(177,kU c),(178,qe d),(179,dc k)]
def kY (fuel:Nat):Nat→Option Ev.Spec:=lr (ak fuel) (ai fuel) (au fuel) (ab fuel) (aI fuel) (aN fuel) (bC fuel) (ep fuel) (bh fuel) (cH fuel) (ad fuel)
abbrev pt:Type:=Int×Int×Bool×Int×Int×Int×Int×Int×Int×Int×Bool×LI×LI×Int×Int×Int×Bool×Int×Int×Int×LI×Int×Int×Int×Bool×Int×Int×Int×LI×Int×Int×LI
abbrev mN:Type:=(Int×Int×Int×Int×Int×Int×Bool×LI×LI×Int×Int×Int×Bool×Int×Int×Int×LI×Int×Int×Int×Bool×Int×Int×Int×LI×Int×Int×LI→OA)
def kg (fuel:Nat) (e1:az) (e7:ao) (e2:aC) (b8:ag) (e3:br) (e4:bq) (e5:ej) (e0:dF) (d8:bj) (b9:df) (c0:ae) (e d:Int) (n:Bool) (o p:Int) (q a:Int) (Q R S:Int) (N:Bool) (O P:LI) (f g h:Int) (i:Bool) (j k l:Int) (m:LI) (c7 c8 c9:Int) (d0:Bool) (d1 d2 d3:Int) (d4:LI) (d5 d6:Int) (d7:LI) (c:pt→OA) (B:mN):OA:=match B with | b=>bif decide (a < q) then (d8 a d c7 c8 c9 d0 d1 d2 d3 d4 d5 d6 d7 (fun (e6,d9,b3,b4,b5,b6,b7,E,F,G,X,Y,a0)=>bif !n then both ((b9 a d b3 b4 b5 b6 b7 E F G X Y a0 (fun (c1,a1,a2,a3,a4,a5,H,I,J,a6,T,U)=>(c0 H I J a d (fun c5=>(b8 (i64.wrap (e+c1)) (i64.wrap c5) Q R S N O P (fun (c2,r,s,t,u,v,w)=>c (e,d,n,o,p,q,i64.wrap (a+1),r,s,t,u,v,w,f,g,h,i,j,k,l,m,a1,a2,a3,a4,a5,H,I,J,a6,T,U)) (fun (c2,r,s,t,u,v,w)=>c (e,d,n,o,p,q,i64.wrap (a+1),r,s,t,u,v,w,f,g,h,i,j,k,l,m,a1,a2,a3,a4,a5,H,I,J,a6,T,U)))))))) ((b9 a d b3 b4 b5 b6 b7 E F G X Y a0 (fun (c1,a1,a2,a3,a4,a5,H,I,J,a6,T,U)=>(c0 E F G a d (fun c5=>(b8 (i64.wrap (e+c1)) (i64.wrap c5) Q R S N O P (fun (c2,r,s,t,u,v,w)=>c (e,d,n,o,p,q,i64.wrap (a+1),r,s,t,u,v,w,f,g,h,i,j,k,l,m,a1,a2,a3,a4,a5,H,I,J,a6,T,U)) (fun (c2,r,s,t,u,v,w)=>c (e,d,n,o,p,q,i64.wrap (a+1),r,s,t,u,v,w,f,g,h,i,j,k,l,m,a1,a2,a3,a4,a5,H,I,J,a6,T,U)))))))) else bif !d9 then both ((b9 a d b3 b4 b5 b6 b7 E F G X Y a0 (fun (c3,a7,a8,a9,b0,b1,K,L,M,b2,V,W)=>(c0 K L M a d (fun c6=>(b8 (i64.wrap (e+c3)) (i64.wrap c6) Q R S N O P (fun (c4,x,y,z,A,C,D)=>c (e,d,n,o,p,q,i64.wrap (a+1),x,y,z,A,C,D,f,g,h,i,j,k,l,m,a7,a8,a9,b0,b1,K,L,M,b2,V,W)) (fun (c4,x,y,z,A,C,D)=>c (e,d,n,o,p,q,i64.wrap (a+1),x,y,z,A,C,D,f,g,h,i,j,k,l,m,a7,a8,a9,b0,b1,K,L,M,b2,V,W)))))))) ((b9 a d b3 b4 b5 b6 b7 E F G X Y a0 (fun (c3,a7,a8,a9,b0,b1,K,L,M,b2,V,W)=>(c0 E F G a d (fun c6=>(b8 (i64.wrap (e+c3)) (i64.wrap c6) Q R S N O P (fun (c4,x,y,z,A,C,D)=>c (e,d,n,o,p,q,i64.wrap (a+1),x,y,z,A,C,D,f,g,h,i,j,k,l,m,a7,a8,a9,b0,b1,K,L,M,b2,V,W)) (fun (c4,x,y,z,A,C,D)=>c (e,d,n,o,p,q,i64.wrap (a+1),x,y,z,A,C,D,f,g,h,i,j,k,l,m,a7,a8,a9,b0,b1,K,L,M,b2,V,W)))))))) else c (e,d,n,o,p,q,i64.wrap (a+1),Q,R,S,N,O,P,f,g,h,i,j,k,l,m,b3,b4,b5,b6,b7,E,F,G,X,Y,a0))) else b (e,o,p,Q,R,S,N,O,P,f,g,h,i,j,k,l,m,c7,c8,c9,d0,d1,d2,d3,d4,d5,d6,d7)
def fY (fuel:Nat) (v:Int×Int×Bool×Int×Int×Int×Int×Int×Int×Int×Bool×(List Int)×(List Int)×Int×Int×Int×Bool×Int×Int×Int×(List Int)×Int×Int×Int×Bool×Int×Int×Int×(List Int)×Int×Int×(List Int)) (c:(Int×Int×Bool×Int×Int×Int×Int×Int×Int×Int×Bool×(List Int)×(List Int)×Int×Int×Int×Bool×Int×Int×Int×(List Int)×Int×Int×Int×Bool×Int×Int×Int×(List Int)×Int×Int×(List Int))→Option Ans) (B:(Int×Int×Int×Int×Int×Int×Bool×(List Int)×(List Int)×Int×Int×Int×Bool×Int×Int×Int×(List Int)×Int×Int×Int×Bool×Int×Int×Int×(List Int)×Int×Int×(List Int)→Option Ans)):Option Ans:=match v with | (y,z,A,C,D,E,F,G,H,I,a,b,d,e,f,g,h,i,j,k,l,m,n,o,p,q,r,s,t,u,w,x)=>kg fuel (ak fuel) (ai fuel) (au fuel) (ab fuel) (aI fuel) (aN fuel) (bC fuel) (ep fuel) (bh fuel) (cH fuel) (ad fuel) y z A C D E F G H I a b d e f g h i j k l m n o p q r s t u w x c B
def co (fuel:Nat) (v:pt) (b:mN):Option Ans:=iter (fY fuel) fuel v b
def td (v:pt):Ev.St:=match v with | (y,z,A,B,C,D,E,F,G,H,a,b,d,e,f,g,h,i,j,k,l,m,n,o,p,q,r,s,t,u,w,x)=>⟨[(0,.c (.ptr 0 0)),(1,.c (i6 y)),(7,.c (.ptr 3 0)),(8,.c (.ptr 4 0)),(11,.c (.ptr 5 0)),(12,.c (i6 z)),(13,.c (.bool A)),(52,.c (i6 B)),(53,.c (i6 C)),(75,.c (i6 D)),(76,.c (i6 E))],[(0,.cells 138 (i6 F::.own 1::ctb (.int .u64 G::.int .u64 H::.own 2::.bool a::[]))),(1,.vec 3 (.int .i64) b false),(2,.vec 5 (.int .u8) d true),(3,.cells 113 [i6 e,i6 f,i6 g,.bool h,i6 i]),(4,.cells 29 [i6 j,i6 k,.sl (.int .u8) l]),(5,.cells 230 [i6 m,i6 n,i6 o,.bool p,i6 q,i6 r,i6 s,.sl (.int .u8) t,i6 u,i6 w,.sl (.int .u8) x])],6,3⟩
def oT (K:KT):mN:=(fun v=>match v with | (t,u,w,x,y,z,A,B,C,D,a,b,d,e,f,g,h,i,j,k,l,m,n,o,p,q,r,s)=>K .normal ⟨[(0,.c (.ptr 0 0)),(1,.c (i6 t)),(7,.c (.ptr 3 0)),(8,.c (.ptr 4 0)),(11,.c (.ptr 5 0)),(52,.c (i6 u)),(53,.c (i6 w))],[(0,.cells 138 (i6 x::.own 1::ctb (.int .u64 y::.int .u64 z::.own 2::.bool A::[]))),(1,.vec 3 (.int .i64) B false),(2,.vec 5 (.int .u8) C true),(3,.cells 113 [i6 D,i6 a,i6 b,.bool d,i6 e]),(4,.cells 29 [i6 f,i6 g,.sl (.int .u8) h]),(5,.cells 230 [i6 i,i6 j,i6 k,.bool l,i6 m,i6 n,i6 o,.sl (.int .u8) p,i6 q,i6 r,.sl (.int .u8) s])],6,3⟩)
theorem HY (fuel:Nat) (e:az) (k:ao) (f:aC) (a:ag) (g:br) (h:bq) (i:ej) (b:dF) (c:bj) (d:df) (j:ae) (R:Ev.St→OA) (K:KT) (I J:Int) (L:Bool) (M N:Int) (O P:Int) (Q S T:Int) (l:Bool) (m n:LI) (o p q:Int) (r:Bool) (s t u:Int) (w:LI) (x y z:Int) (A:Bool) (B C D:Int) (E:LI) (F G:Int) (H:LI):evalCode tab (lr e k f a g h i b c d j) J0 bF fuel (bodyOf 3 Tryz.f135) (td (I,J,L,M,N,O,P,Q,S,T,l,m,n,o,p,q,r,s,t,u,w,x,y,z,A,B,C,D,E,F,G,H)) (lc bF 20 3 R K)=kg fuel e k f a g h i b c d j I J L M N O P Q S T l m n o p q r s t u w x y z A B C D E F G H (fun v=>R (td v)) (oT K):=by
  kernel_rfl
def eK (fuel:Nat):Ev.Blk:=fun st K=>match canonO (bF 20) st with | some s=>(match s with | ⟨[(a0,.c (.ptr a1 a2)),(a3,.c (i6 a4)),(a5,.c (.ptr a6 a7)),(a8,.c (.ptr a9 b0)),(a,.c (.ptr b d)),(e,.c (i6 b1)),(f,.c (.bool b2)),(g,.c (i6 b3)),(h,.c (i6 b4)),(i,.c (i6 b5)),(j,.c (i6 b6))],[(k,.cells l m),(n,.vec o (.int .i64) p false),(q,.vec r (.int .u8) t true),(u,.cells v [i6 w,i6 x,i6 y,.bool z,i6 A]),(B,.cells C [i6 D,i6 E,.sl (.int .u8) F]),(G,.cells H [i6 I,i6 J,i6 L,.bool M,i6 N,i6 O,i6 P,.sl (.int .u8) Q,i6 R,i6 S,.sl (.int .u8) T])],U,V⟩=>(match splitRun 2 ctn m with | some ([i6 b7,.own W],[.int .u64 b8,.int .u64 b9,.own X,.bool Y])=>bif qb [a0,a1,a2,a3,a5,a6,a7,a8,a9,b0,a,b,d,e,f,g,h,i,j,k,l,n,o,q,r,u,v,B,C,G,H,U,V,W,X] [0,0,0,1,7,3,0,8,4,0,11,5,0,12,13,52,53,75,76,0,138,1,3,2,5,3,113,4,29,5,230,6,3,1,2] then iter (fY fuel) fuel (a4,b1,b2,b3,b4,b5,b6,b7,b8,b9,Y,p,t,w,x,y,z,A,D,E,F,I,J,L,M,N,O,P,Q,R,S,T) (oT K) else none | _=>none) | _=>none) | none=>none
theorem IJ (fuel:Nat) (st:Ev.St) (K:KT) (r:Ans) (h:eK fuel st K=some r):evalCode tab (kY fuel) J0 bF fuel (.block 3 (.loop (bodyOf 3 Tryz.f135))) st K=some r:=by
  unfold eK at h
  split at h
  · rename_i s hs
    split at h
    · skip
      split at h
      rotate_left 1
      · cases h
      rename_i hsp
      have esp:=splitRun_eq hsp
      subst esp
      obtain ⟨hb,h⟩:=cond_some' h
      cases qb_eq hb
      exact blk_loop (S:=td) (ks:=oT) (step:=fY fuel) (v:=(_,_,_,_,_,_,_,_,_,_,_,_,_,_,_,_,_,_,_,_,_,_,_,_,_,_,_,_,_,_,_,_)) (by kernel_rfl) (by kernel_rfl) (fun R K v=>by obtain ⟨A,B,C,D,E,F,G,H,I,J,a,b,c,d,e,f,g,i,j,k,l,m,n,o,p,q,t,u,w,x,y,z⟩:=v; exact HY fuel (ak fuel) (ai fuel) (au fuel) (ab fuel) (aI fuel) (aN fuel) (bC fuel) (ep fuel) (bh fuel) (cH fuel) (ad fuel) R K A B C D E F G H I J a b c d e f g i j k l m n o p q t u w x y z) hs h
    · cases h
  · cases h
abbrev oP:Type:=Int×Int×Int×Int×Int×Int×Bool×LI×LI×Int×Int×Int×Bool×Int×Int×Int×LI×Int×Int×Int×Bool×Int×Int×Int×LI×Int×Int×LI
abbrev sK:Type:=(Int×Int×Int×Bool×LI×LI→OA)
def iW (fuel:Nat) (e1:az) (e6:ao) (c8:aC) (c6:ag) (e2:br) (e3:bq) (e4:ej) (d6:dF) (d9:bj) (e0:df) (e5:ae) (I K:Int) (a X:Int) (Y a0:Int) (a1:Bool) (a2 a3:LI) (J L M:Int) (H:Bool) (N d O:Int) (P:LI) (b5 b6 b7:Int) (b8:Bool) (b9 c0 c1:Int) (c2:LI) (c3 c4:Int) (c5:LI) (c:oP→OA) (B:sK):OA:=match B with | b=>bif decide (a < K) then bif H then (d6 a b5 b6 b7 b8 b9 c0 c1 c2 c3 c4 c5 (fun (W,a6,a7,a8,a9,b0,b1,b2,b3,b4,a4,a5)=>bif H then bif W then (c8 J (fun d5=>(c6 (i64.wrap (I+d5)) (1) X Y a0 a1 a2 a3 (fun (c7,Q,R,S,T,U,V)=>(co fuel (I,a,W,K,a,d,0,Q,R,S,T,U,V,J,L,M,H,N,d,O,P,a6,a7,a8,a9,b0,b1,b2,b3,b4,a4,a5) (fun (w,x,y,z,A,C,D,E,F,G,e,f,g,h,i,j,k,l,m,n,o,p,q,r,s,t,u,v)=>c (w,x,i64.wrap (y+1),z,A,C,D,E,F,G,e,f,g,h,i,j,k,l,m,n,o,p,q,r,s,t,u,v)))) (fun (c7,Q,R,S,T,U,V)=>(co fuel (I,a,W,K,a,d,0,Q,R,S,T,U,V,J,L,M,H,N,d,O,P,a6,a7,a8,a9,b0,b1,b2,b3,b4,a4,a5) (fun (w,x,y,z,A,C,D,E,F,G,e,f,g,h,i,j,k,l,m,n,o,p,q,r,s,t,u,v)=>c (w,x,i64.wrap (y+1),z,A,C,D,E,F,G,e,f,g,h,i,j,k,l,m,n,o,p,q,r,s,t,u,v))))))) else (c8 J (fun d5=>(c6 (i64.wrap (I+d5)) (0) X Y a0 a1 a2 a3 (fun (c7,Q,R,S,T,U,V)=>(co fuel (I,a,W,K,a,d,0,Q,R,S,T,U,V,J,L,M,H,N,d,O,P,a6,a7,a8,a9,b0,b1,b2,b3,b4,a4,a5) (fun (w,x,y,z,A,C,D,E,F,G,e,f,g,h,i,j,k,l,m,n,o,p,q,r,s,t,u,v)=>c (w,x,i64.wrap (y+1),z,A,C,D,E,F,G,e,f,g,h,i,j,k,l,m,n,o,p,q,r,s,t,u,v)))) (fun (c7,Q,R,S,T,U,V)=>(co fuel (I,a,W,K,a,d,0,Q,R,S,T,U,V,J,L,M,H,N,d,O,P,a6,a7,a8,a9,b0,b1,b2,b3,b4,a4,a5) (fun (w,x,y,z,A,C,D,E,F,G,e,f,g,h,i,j,k,l,m,n,o,p,q,r,s,t,u,v)=>c (w,x,i64.wrap (y+1),z,A,C,D,E,F,G,e,f,g,h,i,j,k,l,m,n,o,p,q,r,s,t,u,v))))))) else (co fuel (I,a,W,K,a,d,0,X,Y,a0,a1,a2,a3,J,L,M,H,N,d,O,P,a6,a7,a8,a9,b0,b1,b2,b3,b4,a4,a5) (fun (w,x,y,z,A,C,D,E,F,G,e,f,g,h,i,j,k,l,m,n,o,p,q,r,s,t,u,v)=>c (w,x,i64.wrap (y+1),z,A,C,D,E,F,G,e,f,g,h,i,j,k,l,m,n,o,p,q,r,s,t,u,v))))) else bif H then (c8 J (fun d8=>(c6 (i64.wrap (I+d8)) (0) X Y a0 a1 a2 a3 (fun (d7,c9,d0,d1,d2,d3,d4)=>(co fuel (I,a,false,K,a,d,0,c9,d0,d1,d2,d3,d4,J,L,M,H,N,d,O,P,b5,b6,b7,b8,b9,c0,c1,c2,c3,c4,c5) (fun (w,x,y,z,A,C,D,E,F,G,e,f,g,h,i,j,k,l,m,n,o,p,q,r,s,t,u,v)=>c (w,x,i64.wrap (y+1),z,A,C,D,E,F,G,e,f,g,h,i,j,k,l,m,n,o,p,q,r,s,t,u,v)))) (fun (d7,c9,d0,d1,d2,d3,d4)=>(co fuel (I,a,false,K,a,d,0,c9,d0,d1,d2,d3,d4,J,L,M,H,N,d,O,P,b5,b6,b7,b8,b9,c0,c1,c2,c3,c4,c5) (fun (w,x,y,z,A,C,D,E,F,G,e,f,g,h,i,j,k,l,m,n,o,p,q,r,s,t,u,v)=>c (w,x,i64.wrap (y+1),z,A,C,D,E,F,G,e,f,g,h,i,j,k,l,m,n,o,p,q,r,s,t,u,v))))))) else (co fuel (I,a,false,K,a,d,0,X,Y,a0,a1,a2,a3,J,L,M,H,N,d,O,P,b5,b6,b7,b8,b9,c0,c1,c2,c3,c4,c5) (fun (w,x,y,z,A,C,D,E,F,G,e,f,g,h,i,j,k,l,m,n,o,p,q,r,s,t,u,v)=>c (w,x,i64.wrap (y+1),z,A,C,D,E,F,G,e,f,g,h,i,j,k,l,m,n,o,p,q,r,s,t,u,v))) else b (X,Y,a0,a1,a2,a3)
def ft (fuel:Nat) (v:Int×Int×Int×Int×Int×Int×Bool×(List Int)×(List Int)×Int×Int×Int×Bool×Int×Int×Int×(List Int)×Int×Int×Int×Bool×Int×Int×Int×(List Int)×Int×Int×(List Int)) (c:(Int×Int×Int×Int×Int×Int×Bool×(List Int)×(List Int)×Int×Int×Int×Bool×Int×Int×Int×(List Int)×Int×Int×Int×Bool×Int×Int×Int×(List Int)×Int×Int×(List Int))→Option Ans) (B:(Int×Int×Int×Bool×(List Int)×(List Int)→Option Ans)):Option Ans:=match v with | (t,u,w,x,y,z,A,C,D,E,a,b,d,e,f,g,h,i,j,k,l,m,n,o,p,q,r,s)=>iW fuel (ak fuel) (ai fuel) (au fuel) (ab fuel) (aI fuel) (aN fuel) (bC fuel) (ep fuel) (bh fuel) (cH fuel) (ad fuel) t u w x y z A C D E a b d e f g h i j k l m n o p q r s c B
def gx (fuel:Nat) (v:oP) (b:sK):Option Ans:=iter (ft fuel) fuel v b
def lG (fuel:Nat) (i:Nat):Option Ev.Blk:=Ev.look i [(100003,eK fuel)]
def pD (v:oP):Ev.St:=match v with | (t,u,w,x,y,z,A,B,C,D,a,b,d,e,f,g,h,i,j,k,l,m,n,o,p,q,r,s)=>⟨[(0,.c (.ptr 0 0)),(1,.c (i6 t)),(7,.c (.ptr 3 0)),(8,.c (.ptr 4 0)),(11,.c (.ptr 5 0)),(52,.c (i6 u)),(53,.c (i6 w))],[(0,.cells 138 (i6 x::.own 1::ctb (.int .u64 y::.int .u64 z::.own 2::.bool A::[]))),(1,.vec 3 (.int .i64) B false),(2,.vec 5 (.int .u8) C true),(3,.cells 113 [i6 D,i6 a,i6 b,.bool d,i6 e]),(4,.cells 29 [i6 f,i6 g,.sl (.int .u8) h]),(5,.cells 230 [i6 i,i6 j,i6 k,.bool l,i6 m,i6 n,i6 o,.sl (.int .u8) p,i6 q,i6 r,.sl (.int .u8) s])],6,3⟩
def pA (K:KT):sK:=(fun v=>match v with | (a,b,c,d,e,f)=>K .normal ⟨[],[(0,.cells 138 (i6 a::.own 1::ctb (.int .u64 b::.int .u64 c::.own 2::.bool d::[]))),(1,.vec 3 (.int .i64) e false),(2,.vec 5 (.int .u8) f true)],3,3⟩)
theorem Dy (fuel:Nat) (e:az) (k:ao) (f:aC) (a:ag) (g:br) (h:bq) (i:ej) (b:dF) (c:bj) (d:df) (j:ae) (R:Ev.St→OA) (K:KT) (E F:Int) (G H:Int) (I J:Int) (L:Bool) (M N:LI) (O l m:Int) (n:Bool) (o p q:Int) (r:LI) (s t u:Int) (w:Bool) (x y z:Int) (A:LI) (B C:Int) (D:LI):evalCode tab (lr e k f a g h i b c d j) (lG fuel) bF fuel (bodyOf 1 Tryz.f135) (pD (E,F,G,H,I,J,L,M,N,O,l,m,n,o,p,q,r,s,t,u,w,x,y,z,A,B,C,D)) (lc bF 11 1 R K)=iW fuel e k f a g h i b c d j E F G H I J L M N O l m n o p q r s t u w x y z A B C D (fun v=>R (pD v)) (pA K):=by
  kernel_rfl
def iN (fuel:Nat):Ev.Blk:=fun st K=>match canonO (bF 11) st with | some s=>(match s with | ⟨[(R,.c (.ptr S T)),(U,.c (i6 V)),(W,.c (.ptr X Y)),(a0,.c (.ptr a1 a2)),(a,.c (.ptr b d)),(e,.c (i6 a3)),(f,.c (i6 a4))],[(g,.cells h i),(j,.vec k (.int .i64) a5 false),(l,.vec m (.int .u8) a6 true),(n,.cells o [i6 a7,i6 p,i6 q,.bool r,i6 t]),(u,.cells v [i6 w,i6 x,.sl (.int .u8) y]),(z,.cells A [i6 B,i6 C,i6 D,.bool E,i6 F,i6 G,i6 H,.sl (.int .u8) I,i6 J,i6 L,.sl (.int .u8) M])],N,O⟩=>(match splitRun 2 ctn i with | some ([i6 a8,.own P],[.int .u64 a9,.int .u64 b0,.own Q,.bool b1])=>bif qb [R,S,T,U,W,X,Y,a0,a1,a2,a,b,d,e,f,g,h,j,k,l,m,n,o,u,v,z,A,N,O,P,Q] [0,0,0,1,7,3,0,8,4,0,11,5,0,52,53,0,138,1,3,2,5,3,113,4,29,5,230,6,3,1,2] then iter (ft fuel) fuel (V,a3,a4,a8,a9,b0,b1,a5,a6,a7,p,q,r,t,w,x,y,B,C,D,E,F,G,H,I,J,L,M) (pA K) else none | _=>none) | _=>none) | none=>none
theorem GR (fuel:Nat) (st:Ev.St) (K:KT) (r:Ans) (h:iN fuel st K=some r):evalCode tab (kY fuel) (lG fuel) bF fuel (.block 1 (.loop (bodyOf 1 Tryz.f135))) st K=some r:=by
  unfold iN at h
  split at h
  · rename_i s hs
    split at h
    · skip
      split at h
      rotate_left 1
      · cases h
      rename_i hsp
      have esp:=splitRun_eq hsp
      subst esp
      obtain ⟨hb,h⟩:=cond_some' h
      cases qb_eq hb
      exact blk_loop (S:=pD) (ks:=pA) (step:=ft fuel) (v:=(_,_,_,_,_,_,_,_,_,_,_,_,_,_,_,_,_,_,_,_,_,_,_,_,_,_,_,_)) (by kernel_rfl) (by kernel_rfl) (fun R K v=>by obtain ⟨w,x,y,z,A,B,C,D,E,F,a,b,c,d,e,f,g,i,j,k,l,m,n,o,p,q,t,u⟩:=v; exact Dy fuel (ak fuel) (ai fuel) (au fuel) (ab fuel) (aI fuel) (aN fuel) (bC fuel) (ep fuel) (bh fuel) (cH fuel) (ad fuel) R K w x y z A B C D E F a b c d e f g i j k l m n o p q t u) hs h
    · cases h
  · cases h
def mf (fuel:Nat) (i:Nat):Option Ev.Blk:=Ev.look i [(100003,eK fuel),(100001,iN fuel)]
def ch (fuel:Nat) (w g:Int) (h i:Int) (j:Bool) (k m l:Int) (n:(List Int)) (x u:Int) (v:(List Int)) (W X Y:Int) (a0:Bool) (a1 a2:(List Int)) (k0:(Int×Int×Int×Int×Bool×(List Int)×(List Int))→Option Ans):Option Ans:=(ab fuel ((-1:Int)) (0) W X Y a0 a1 a2 (fun (L,a,b,c,d,e,f)=>bif L==7 then k0 (7,a,b,c,d,e,f) else (aI fuel g h i j k (fun V=>bif !V then k0 (2,a,b,c,d,e,f) else (ai fuel m l n (fun S=>bif !S then k0 (30,a,b,c,d,e,f) else (ai fuel x u v (fun T=>bif !T then k0 (30,a,b,c,d,e,f) else (ak fuel a b c d e f (fun (z,o,p,q,r,s,t,A)=>(aN fuel z A w g h i j k (fun U=>bif !U then k0 (2,o,p,q,r,s,t) else (bC fuel g h i j k m l n x u v (fun (B,C,D,E,F,G,H,I,J,K,y)=>(gx fuel (w,l,0,o,p,q,r,s,t,g,h,i,j,k,m,l,n,B,C,D,E,F,G,H,I,J,K,y) (fun (M,N,O,P,Q,R)=>k0 (0,M,N,O,P,Q,R)))))))))))))))) (fun (L,a,b,c,d,e,f)=>bif L==7 then k0 (7,a,b,c,d,e,f) else (aI fuel g h i j k (fun V=>bif !V then k0 (2,a,b,c,d,e,f) else (ai fuel m l n (fun S=>bif !S then k0 (30,a,b,c,d,e,f) else (ai fuel x u v (fun T=>bif !T then k0 (30,a,b,c,d,e,f) else (ak fuel a b c d e f (fun (z,o,p,q,r,s,t,A)=>(aN fuel z A w g h i j k (fun U=>bif !U then k0 (2,o,p,q,r,s,t) else (bC fuel g h i j k m l n x u v (fun (B,C,D,E,F,G,H,I,J,K,y)=>(gx fuel (w,l,0,o,p,q,r,s,t,g,h,i,j,k,m,l,n,B,C,D,E,F,G,H,I,J,K,y) (fun (M,N,O,P,Q,R)=>k0 (0,M,N,O,P,Q,R)))))))))))))))))
abbrev sF:Type:=Int→Int→Int→Int→Bool→Int→Int→Int→LI→Int→Int→LI→Int→Int→Int→Bool→LI→LI→((Int×Int×Int×Int×Bool×LI×LI)→Option Ans)→Option Ans
theorem Cc (fuel:Nat) (C:az) (x:ao) (b5:aC) (a5:ag) (Q:br) (R:bq) (S:ej) (b2:dF) (b3:bj) (b4:df) (b6:ae) (A h:Int) (i j:Int) (l:Bool) (m o n:Int) (p:LI) (B y:Int) (z:LI) (a6 a7 a8:Int) (a9:Bool) (b0 b1:LI) (k:Ev.Cont):evalFn tab (lr C x b5 a5 Q R S b2 b3 b4 b6) (mf fuel) bF fuel Tryz.f135 [.c (.ptr 0 0),.c (i6 A),.agg [i6 h,i6 i,i6 j,.bool l,i6 m],.agg [i6 o,i6 n,.sl (.int .u8) p],.agg [i6 B,i6 y,.sl (.int .u8) z]] [.cells 138 (i6 a6::.own 1::ctb (.int .u64 a7::.int .u64 a8::.own 2::.bool a9::[])),.vec 3 (.int .i64) b0 false,.vec 5 (.int .u8) b1 false] (wkC [1000002] k)=(fun  (k0:(Int×Int×Int×Int×Bool×LI×LI)→OA)=>
  (a5 ((-1:Int)) ((0:Int)) a6 a7 a8 a9 b0 b1
  (fun (T,a,b,d,e,f,g)=>
  bif T==(7:Int) then
  k0 ((7:Int),a,b,d,e,f,g)
  else
  (Q h i j l m
  (fun a4=>
  bif !a4 then
  k0 ((2:Int),a,b,d,e,f,g)
  else
  (x o n p
  (fun a1=>
  bif !a1 then
  k0 ((30:Int),a,b,d,e,f,g)
  else
  (x B y z
  (fun a2=>
  bif !a2 then
  k0 ((30:Int),a,b,d,e,f,g)
  else
  (C a b d e f g
  (fun (E,q,s,t,u,v,w,F)=>
  (R E F A h i j l m
  (fun a3=>
  bif !a3 then
  k0 ((2:Int),q,s,t,u,v,w)
  else
  (S h i j l m o n p B y z
  (fun (G,H,I,J,K,L,M,N,O,P,D)=>
  (gx fuel (A,n,(0:Int),q,s,t,u,v,w,h,i,j,l,m,o,n,p,G,H,I,J,K,L,M,N,O,P,D)
  (fun (U,V,W,X,Y,a0)=>
  k0 ((0:Int),U,V,W,X,Y,a0))))))))))))))))
  (fun (T,a,b,d,e,f,g)=>
  bif T==(7:Int) then
  k0 ((7:Int),a,b,d,e,f,g)
  else
  (Q h i j l m
  (fun a4=>
  bif !a4 then
  k0 ((2:Int),a,b,d,e,f,g)
  else
  (x o n p
  (fun a1=>
  bif !a1 then
  k0 ((30:Int),a,b,d,e,f,g)
  else
  (x B y z
  (fun a2=>
  bif !a2 then
  k0 ((30:Int),a,b,d,e,f,g)
  else
  (C a b d e f g
  (fun (E,q,s,t,u,v,w,F)=>
  (R E F A h i j l m
  (fun a3=>
  bif !a3 then
  k0 ((2:Int),q,s,t,u,v,w)
  else
  (S h i j l m o n p B y z
  (fun (G,H,I,J,K,L,M,N,O,P,D)=>
  (gx fuel (A,n,(0:Int),q,s,t,u,v,w,h,i,j,l,m,o,n,p,G,H,I,J,K,L,M,N,O,P,D)
  (fun (U,V,W,X,Y,a0)=>
  k0 ((0:Int),U,V,W,X,Y,a0)))))))))))))))))) (fun r=>match r with | (b7,b8,b9,c0,c1,c2,c3)=>k (.c (i6 b7),[.cells 138 (i6 b8::.own 1::ctb (.int .u64 b9::.int .u64 c0::.own 2::.bool c1::[])),.vec 3 (.int .i64) c2 false,.vec 5 (.int .u8) c3 true])):=by
  kernel_rfl
theorem qx (fuel:Nat):GOK Tryz.prog (kY fuel):=
  gc (gd fuel) Tryz.func35 (by kernel_rfl) rfl <|
  gc (gG fuel) Tryz.func90 (by kernel_rfl) rfl <|
  gc (lq fuel) Tryz.func130 (by kernel_rfl) rfl <|
  gc (di fuel) Tryz.func132 (by kernel_rfl) rfl <|
  gc (yG fuel) Tryz.func173 (by kernel_rfl) rfl <|
  gc (wB fuel) Tryz.func174 (by kernel_rfl) rfl <|
  gc (Dd fuel) Tryz.func175 (by kernel_rfl) rfl <|
  gc (E9 fuel) Tryz.func176 (by kernel_rfl) rfl <|
  gc (xT fuel) Tryz.func177 (by kernel_rfl) rfl <|
  gc (Bx fuel) Tryz.func178 (by kernel_rfl) rfl <|
  gc (fQ fuel) Tryz.func179 (by kernel_rfl) rfl <|
  gok_nil
theorem Ca (fuel:Nat):BlkOK Tryz.prog Tryz.f135.ntmps (.block 3 (.loop (bodyOf 3 Tryz.f135))) (eK fuel):=bo0 (qx fuel) (by kernel_rfl) (by kernel_rfl) (IJ fuel)
theorem Gn (fuel:Nat):BlkOK Tryz.prog Tryz.f135.ntmps (.block 1 (.loop (bodyOf 1 Tryz.f135))) (iN fuel):=
  blk_of (blk_of_code tab_ok (qx fuel) mixed (J:=lG fuel) (kp:=bF) (fuel:=fuel) (by kernel_rfl) (fun q hq=>by
    rw [(by kernel_rfl:obl (lG fuel) (.block 1 (.loop (bodyOf 1 Tryz.f135)))= [(.block 3 (.loop (bodyOf 3 Tryz.f135)),eK fuel)])] at hq
    simp only [List.mem_cons,List.not_mem_nil,or_false] at hq
    subst hq
    · exact Ca fuel)) (GR fuel)
theorem HT (fuel:Nat):FnOK Tryz.prog 135 (evalFn tab (kY fuel) (mf fuel) bF fuel Tryz.f135):=
  fn_ok tab_ok (qx fuel) mixed Tryz.func135 (c:=(Tryz.f135.body).getD .skip) rfl (fun q hq=>by
    rw [(by kernel_rfl:obl (mf fuel) ((Tryz.f135.body).getD .skip)= [(.block 1 (.loop (bodyOf 1 Tryz.f135)),iN fuel)])] at hq
    simp only [List.mem_cons,List.not_mem_nil,or_false] at hq
    subst hq
    · exact Gn fuel)
def nq (F:sF):Ev.Spec:=fun args objs k=>match args,objs with | [.c (.ptr l m),.c (i6 n),.agg [i6 o,i6 p,i6 q,.bool s,i6 t],.agg [i6 u,i6 v,.sl (.int .u8) w],.agg [i6 x,i6 a,.sl (.int .u8) b]],[.cells y d,.vec z (.int .i64) e false,.vec A (.int .u8) f false]=>(match splitRun 2 ctn d with | some ([i6 g,.own B],[.int .u64 h,.int .u64 i,.own C,.bool j])=>bif qb [l,m,y,z,A,B,C] [0,0,138,3,5,1,2] then F n o p q s t u v w x a b g h i j e f (fun r=>match r with | (D,E,G,H,I,J,K)=>k (.c (i6 D),[.cells 138 (i6 E::.own 1::ctb (.int .u64 G::.int .u64 H::.own 2::.bool I::[])),.vec 3 (.int .i64) J false,.vec 5 (.int .u8) K true])) else none | _=>none) | _,_=>none
theorem Jc (fuel:Nat):FnOK Tryz.prog 135 (nq (ch fuel)):=by
  intro args objs kk r h
  unfold nq at h
  split at h
  · skip
    split at h
    rotate_left 1
    · cases h
    rename_i hsp
    have esp:=splitRun_eq hsp
    subst esp
    obtain ⟨hb,h⟩:=cond_some' h
    cases qb_eq hb
    exact (HT fuel).wk [1000002] _ _ kk r ((Cc fuel (ak fuel) (ai fuel) (au fuel) (ab fuel) (aI fuel) (aN fuel) (bC fuel) (ep fuel) (bh fuel) (cH fuel) (ad fuel) _ _ _ _ _ _ _ _ _ _ _ _ _ _ _ _ _ _ kk).trans h)
  · cases h
def yd (i:Nat):Option (List Nat):=Ev.look i [(200003,[0,3]),(200005,[0,3]),(200008,[0,3]),(200009,[3]),(600000,[]),(900003,[0,3]),(900005,[0,3]),(900008,[0,3]),(900009,[])]
def xv (e:aF) (a:ag) (b:li) (c:rb) (d:sF) (g:iw) (f:Nat):Option Ev.Spec:=Ev.look f [(78,gS e),(132,cS a),(133,rA b),(134,oX c),(135,nq d),(136,kQ g)]
def xR (fuel:Nat):Nat→Option Ev.Spec:=xv (ap fuel) (ab fuel) (dM fuel) (cB fuel) (ch fuel) (bg fuel)
def cg (fuel:Nat) (d e:Int) (f:(List Int)) (b y:Int) (z A:Int) (B:Bool) (C W:Int) (w x:Int) (U V:Int) (c4 c5 c6:Int) (c7:Bool) (c:(List (Int×(Int×(List Int))))) (c8 c9:(List Int)) (k0:(Int×Int×Int×Bool×Int×Int×Int×Int×Int×Int×Int×Int×Int×Bool×(List (Int×(Int×(List Int))))×(List Int)×(List Int))→Option Ans):Option Ans:=bif decide (b < 0) then (ab fuel (240) (0) c4 c5 c6 c7 c8 c9 (fun (c3,O,P,Q,R,S,T)=>(dM fuel x y z A B C d e f (0) (0) ([]) O P Q R S T (fun (a4,h,i,j,k,l,m)=>(fun (z1:Option Ans)=>
both z1 z1) (bif decide ((c.length+(1:Nat))*(40:Nat)≤(140737488355328:Nat)∧c.length+(1:Nat)≤(140737488355328:Nat)) then (k0 (y,z,A,B,C,W,w,x,U,V,h,i,j,k,c++ [(d,e,f)],l,m)) else none)) (fun (a4,h,i,j,k,l,m)=>(fun (z3:Option Ans)=>
both z3 z3) (bif decide ((c.length+(1:Nat))*(40:Nat)≤(140737488355328:Nat)∧c.length+(1:Nat)≤(140737488355328:Nat)) then (k0 (y,z,A,B,C,W,w,x,U,V,h,i,j,k,c++ [(d,e,f)],l,m)) else none)))) (fun (c3,O,P,Q,R,S,T)=>(dM fuel x y z A B C d e f (0) (0) ([]) O P Q R S T (fun (a4,h,i,j,k,l,m)=>(fun (z5:Option Ans)=>
both z5 z5) (bif decide ((c.length+(1:Nat))*(40:Nat)≤(140737488355328:Nat)∧c.length+(1:Nat)≤(140737488355328:Nat)) then (k0 (y,z,A,B,C,W,w,x,U,V,h,i,j,k,c++ [(d,e,f)],l,m)) else none)) (fun (a4,h,i,j,k,l,m)=>(fun (z7:Option Ans)=>
both z7 z7) (bif decide ((c.length+(1:Nat))*(40:Nat)≤(140737488355328:Nat)∧c.length+(1:Nat)≤(140737488355328:Nat)) then (k0 (y,z,A,B,C,W,w,x,U,V,h,i,j,k,c++ [(d,e,f)],l,m)) else none))))) else (ab fuel (240) (1) c4 c5 c6 c7 c8 c9 (fun (c3,O,P,Q,R,S,T)=>(cB fuel (241) w b O P Q R S T (fun (a4,h,i,j,k,l,m)=>(ap fuel (96) (0) y z A B C W w x U V h i j k c l m (fun (b2,b3,b4,b5,b6,b7,b8,b9,c0,c1,a5,a6,a7,a8,a9,b0,b1)=>(ap fuel (144) (0) b2 b3 b4 b5 b6 b7 b8 b9 c0 c1 a5 a6 a7 a8 a9 b0 b1 (fun (n,o,p,q,r,s,t,u,g,v,X,Y,a0,a1,a,a2,a3)=>bif decide (0≤b∧b < (↑a.length:Int)) then both ((bg fuel n o p q r s t u g v ((0:Int)) ((0:Int)) (fun (D,E,F,G,H)=>(ch fuel g D E F G H d e f ((a.getD b.toNat ((0:Int),(0:Int),[])).fst) ((a.getD b.toNat ((0:Int),(0:Int),[])).snd.fst) ((a.getD b.toNat ((0:Int),(0:Int),[])).snd.snd) X Y a0 a1 a2 a3 (fun (c2,I,J,K,L,M,N)=>(fun (z9:Option Ans)=>both z9 z9) (bif decide ((a.length+(1:Nat))*(40:Nat)≤(140737488355328:Nat)∧a.length+(1:Nat)≤(140737488355328:Nat)) then (k0 (n,o,p,q,r,s,t,u,g,v,I,J,K,L,a++ [(d,e,f)],M,N)) else none)))))) ((bg fuel n o p q r s t u g v ((0:Int)) ((0:Int)) (fun (D,E,F,G,H)=>(ch fuel g D E F G H d e f ((a.getD b.toNat ((0:Int),(0:Int),[])).fst) ((a.getD b.toNat ((0:Int),(0:Int),[])).snd.fst) ((a.getD b.toNat ((0:Int),(0:Int),[])).snd.snd) X Y a0 a1 a2 a3 (fun (c2,I,J,K,L,M,N)=>(fun (z11:Option Ans)=>both z11 z11) (bif decide ((a.length+(1:Nat))*(40:Nat)≤(140737488355328:Nat)∧a.length+(1:Nat)≤(140737488355328:Nat)) then (k0 (n,o,p,q,r,s,t,u,g,v,I,J,K,L,a++ [(d,e,f)],M,N)) else none)))))) else none))))))) (fun (c3,O,P,Q,R,S,T)=>(cB fuel (241) w b O P Q R S T (fun (a4,h,i,j,k,l,m)=>(ap fuel (96) (0) y z A B C W w x U V h i j k c l m (fun (b2,b3,b4,b5,b6,b7,b8,b9,c0,c1,a5,a6,a7,a8,a9,b0,b1)=>(ap fuel (144) (0) b2 b3 b4 b5 b6 b7 b8 b9 c0 c1 a5 a6 a7 a8 a9 b0 b1 (fun (n,o,p,q,r,s,t,u,g,v,X,Y,a0,a1,a,a2,a3)=>bif decide (0≤b∧b < (↑a.length:Int)) then both ((bg fuel n o p q r s t u g v ((0:Int)) ((0:Int)) (fun (D,E,F,G,H)=>(ch fuel g D E F G H d e f ((a.getD b.toNat ((0:Int),(0:Int),[])).fst) ((a.getD b.toNat ((0:Int),(0:Int),[])).snd.fst) ((a.getD b.toNat ((0:Int),(0:Int),[])).snd.snd) X Y a0 a1 a2 a3 (fun (c2,I,J,K,L,M,N)=>(fun (z15:Option Ans)=>both z15 z15) (bif decide ((a.length+(1:Nat))*(40:Nat)≤(140737488355328:Nat)∧a.length+(1:Nat)≤(140737488355328:Nat)) then (k0 (n,o,p,q,r,s,t,u,g,v,I,J,K,L,a++ [(d,e,f)],M,N)) else none)))))) ((bg fuel n o p q r s t u g v ((0:Int)) ((0:Int)) (fun (D,E,F,G,H)=>(ch fuel g D E F G H d e f ((a.getD b.toNat ((0:Int),(0:Int),[])).fst) ((a.getD b.toNat ((0:Int),(0:Int),[])).snd.fst) ((a.getD b.toNat ((0:Int),(0:Int),[])).snd.snd) X Y a0 a1 a2 a3 (fun (c2,I,J,K,L,M,N)=>(fun (z17:Option Ans)=>both z17 z17) (bif decide ((a.length+(1:Nat))*(40:Nat)≤(140737488355328:Nat)∧a.length+(1:Nat)≤(140737488355328:Nat)) then (k0 (n,o,p,q,r,s,t,u,g,v,I,J,K,L,a++ [(d,e,f)],M,N)) else none)))))) else none))))))))
abbrev cY:Type:=Int→Int→LI→Int→Int→Int→Int→Bool→Int→Int→Int→Int→Int→Int→Int→Int→Int→Bool→((List (Int×(Int×LI))))→LI→LI→((Int×Int×Int×Bool×Int×Int×Int×Int×Int×Int×Int×Int×Int×Bool×(List (Int×(Int×LI)))×LI×LI)→Option Ans)→Option Ans
theorem An (fuel:Nat) (a2:aF) (b1:ag) (b2:li) (b3:rb) (a1:sF) (a9:iw) (e f:Int) (g:LI) (b B:Int) (C D:Int) (E:Bool) (F a0:Int) (z A:Int) (X Y:Int) (d3 d4 d5:Int) (d6:Bool) (d:(List (Int×(Int×LI)))) (d7 d8:LI) (k:Ev.Cont):evalFn tab (xv a2 b1 b2 b3 a1 a9) J0 yd fuel Tryz.f79 [.c (.ptr 0 0),.agg [i6 e,i6 f,.sl (.int .u8) g,i6 b]] [.cells 76 [i6 B,i6 C,i6 D,.bool E,i6 F,i6 a0,i6 z,i6 A,i6 X,i6 Y,.ptr 1 0,.own 2],.cells 138 (i6 d3::.own 3::ctb (.int .u64 d4::.int .u64 d5::.own 4::.bool d6::[])),.vec 29 (.pair (.int .i64) (.pair (.int .i64) (.sl (.int .u8)))) d false,.vec 3 (.int .i64) d7 false,.vec 5 (.int .u8) d8 false] (wkC [1000004] k)=(fun  (k0:(Int×Int×Int×Bool×Int×Int×Int×Int×Int×Int×Int×Int×Int×Bool×(List (Int×(Int×LI)))×LI×LI)→OA)=>
  bif decide (b < (0:Int)) then
  (b1 ((240:Int)) ((0:Int)) d3 d4 d5 d6 d7 d8
  (fun (d2,R,S,T,U,V,W)=>
  (b2 A B C D E F e f g ((0:Int)) ((0:Int)) ([]) R S T U V W
  (fun (b0,i,j,l,m,n,o)=>
  (fun (z1:OA)=>
both z1 z1)
  (bif decide ((d.length+(1:Nat))*(40:Nat)≤(140737488355328:Nat)∧d.length+(1:Nat)≤(140737488355328:Nat)) then (k0 (B,C,D,E,F,a0,z,A,X,Y,i,j,l,m,d++ [(e,f,g)],n,o)) else none))
  (fun (b0,i,j,l,m,n,o)=>
  (fun (z3:OA)=>
both z3 z3)
  (bif decide ((d.length+(1:Nat))*(40:Nat)≤(140737488355328:Nat)∧d.length+(1:Nat)≤(140737488355328:Nat)) then (k0 (B,C,D,E,F,a0,z,A,X,Y,i,j,l,m,d++ [(e,f,g)],n,o)) else none))))
  (fun (d2,R,S,T,U,V,W)=>
  (b2 A B C D E F e f g ((0:Int)) ((0:Int)) ([]) R S T U V W
  (fun (b0,i,j,l,m,n,o)=>
  (fun (z5:OA)=>
both z5 z5)
  (bif decide ((d.length+(1:Nat))*(40:Nat)≤(140737488355328:Nat)∧d.length+(1:Nat)≤(140737488355328:Nat)) then (k0 (B,C,D,E,F,a0,z,A,X,Y,i,j,l,m,d++ [(e,f,g)],n,o)) else none))
  (fun (b0,i,j,l,m,n,o)=>
  (fun (z7:OA)=>
both z7 z7)
  (bif decide ((d.length+(1:Nat))*(40:Nat)≤(140737488355328:Nat)∧d.length+(1:Nat)≤(140737488355328:Nat)) then (k0 (B,C,D,E,F,a0,z,A,X,Y,i,j,l,m,d++ [(e,f,g)],n,o)) else none)))))
  else
  (b1 ((240:Int)) ((1:Int)) d3 d4 d5 d6 d7 d8
  (fun (d2,R,S,T,U,V,W)=>
  (b3 ((241:Int)) z b R S T U V W
  (fun (b0,i,j,l,m,n,o)=>
  (a2 ((96:Int)) ((0:Int)) B C D E F a0 z A X Y i j l m d n o
  (fun (c1,c2,c3,c4,c5,c6,c7,c8,c9,d0,b4,b5,b6,b7,b8,b9,c0)=>
  (a2 ((144:Int)) ((0:Int)) c1 c2 c3 c4 c5 c6 c7 c8 c9 d0 b4 b5 b6 b7 b8 b9 c0
  (fun (p,q,s,t,u,v,w,x,h,y,a3,a4,a5,a6,a,a7,a8)=>
  bif decide ((0:Int)≤b∧b < (↑a.length:Int)) then
  both ((a9 p q s t u v w x h y ((0:Int)) ((0:Int)) (fun (G,H,I,J,K)=>(a1 h G H I J K e f g ((a.getD b.toNat ((0:Int),(0:Int),[])).fst) ((a.getD b.toNat ((0:Int),(0:Int),[])).snd.fst) ((a.getD b.toNat ((0:Int),(0:Int),[])).snd.snd) a3 a4 a5 a6 a7 a8 (fun (d1,L,M,N,O,P,Q)=>(fun (z9:OA)=>both z9 z9) (bif decide ((a.length+(1:Nat))*(40:Nat)≤(140737488355328:Nat)∧a.length+(1:Nat)≤(140737488355328:Nat)) then (k0 (p,q,s,t,u,v,w,x,h,y,L,M,N,O,a++ [(e,f,g)],P,Q)) else none)))))) ((a9 p q s t u v w x h y ((0:Int)) ((0:Int)) (fun (G,H,I,J,K)=>(a1 h G H I J K e f g ((a.getD b.toNat ((0:Int),(0:Int),[])).fst) ((a.getD b.toNat ((0:Int),(0:Int),[])).snd.fst) ((a.getD b.toNat ((0:Int),(0:Int),[])).snd.snd) a3 a4 a5 a6 a7 a8 (fun (d1,L,M,N,O,P,Q)=>(fun (z11:OA)=>both z11 z11) (bif decide ((a.length+(1:Nat))*(40:Nat)≤(140737488355328:Nat)∧a.length+(1:Nat)≤(140737488355328:Nat)) then (k0 (p,q,s,t,u,v,w,x,h,y,L,M,N,O,a++ [(e,f,g)],P,Q)) else none))))))
  else none)))))))
  (fun (d2,R,S,T,U,V,W)=>
  (b3 ((241:Int)) z b R S T U V W
  (fun (b0,i,j,l,m,n,o)=>
  (a2 ((96:Int)) ((0:Int)) B C D E F a0 z A X Y i j l m d n o
  (fun (c1,c2,c3,c4,c5,c6,c7,c8,c9,d0,b4,b5,b6,b7,b8,b9,c0)=>
  (a2 ((144:Int)) ((0:Int)) c1 c2 c3 c4 c5 c6 c7 c8 c9 d0 b4 b5 b6 b7 b8 b9 c0
  (fun (p,q,s,t,u,v,w,x,h,y,a3,a4,a5,a6,a,a7,a8)=>
  bif decide ((0:Int)≤b∧b < (↑a.length:Int)) then
  both ((a9 p q s t u v w x h y ((0:Int)) ((0:Int)) (fun (G,H,I,J,K)=>(a1 h G H I J K e f g ((a.getD b.toNat ((0:Int),(0:Int),[])).fst) ((a.getD b.toNat ((0:Int),(0:Int),[])).snd.fst) ((a.getD b.toNat ((0:Int),(0:Int),[])).snd.snd) a3 a4 a5 a6 a7 a8 (fun (d1,L,M,N,O,P,Q)=>(fun (z15:OA)=>both z15 z15) (bif decide ((a.length+(1:Nat))*(40:Nat)≤(140737488355328:Nat)∧a.length+(1:Nat)≤(140737488355328:Nat)) then (k0 (p,q,s,t,u,v,w,x,h,y,L,M,N,O,a++ [(e,f,g)],P,Q)) else none)))))) ((a9 p q s t u v w x h y ((0:Int)) ((0:Int)) (fun (G,H,I,J,K)=>(a1 h G H I J K e f g ((a.getD b.toNat ((0:Int),(0:Int),[])).fst) ((a.getD b.toNat ((0:Int),(0:Int),[])).snd.fst) ((a.getD b.toNat ((0:Int),(0:Int),[])).snd.snd) a3 a4 a5 a6 a7 a8 (fun (d1,L,M,N,O,P,Q)=>(fun (z17:OA)=>both z17 z17) (bif decide ((a.length+(1:Nat))*(40:Nat)≤(140737488355328:Nat)∧a.length+(1:Nat)≤(140737488355328:Nat)) then (k0 (p,q,s,t,u,v,w,x,h,y,L,M,N,O,a++ [(e,f,g)],P,Q)) else none))))))
  else none))))))))) (fun r=>match r with | (e6,e7,e8,e9,g0,g1,g2,g3,g4,g5,d9,e0,e1,e2,e3,e4,e5)=>k (.tup [],[.cells 76 [i6 e6,i6 e7,i6 e8,.bool e9,i6 g0,i6 g1,i6 g2,i6 g3,i6 g4,i6 g5,.ptr 1 0,.own 2],.cells 138 (i6 d9::.own 3::ctb (.int .u64 e0::.int .u64 e1::.own 4::.bool e2::[])),.vec 29 (.pair (.int .i64) (.pair (.int .i64) (.sl (.int .u8)))) e3 true,.vec 3 (.int .i64) e4 false,.vec 5 (.int .u8) e5 true])):=by
  kernel_rfl
theorem Et (fuel:Nat):GOK Tryz.prog (xR fuel):=
  gc (ud fuel) Tryz.func78 (by kernel_rfl) rfl <|
  gc (di fuel) Tryz.func132 (by kernel_rfl) rfl <|
  gc (H3 fuel) Tryz.func133 (by kernel_rfl) rfl <|
  gc (vn fuel) Tryz.func134 (by kernel_rfl) rfl <|
  gc (Jc fuel) Tryz.func135 (by kernel_rfl) rfl <|
  gc (wE fuel) Tryz.func136 (by kernel_rfl) rfl <|
  gok_nil
theorem Aj (fuel:Nat):FnOK Tryz.prog 79 (evalFn tab (xR fuel) J0 yd fuel Tryz.f79):=
  fn_ok tab_ok (Et fuel) mixed Tryz.func79 (c:=(Tryz.f79.body).getD .skip) rfl (fun q hq=>by
    rw [(by kernel_rfl:obl J0 ((Tryz.f79.body).getD .skip)= [])] at hq
    cases hq)
def pG (F:cY):Ev.Spec:=fun args objs k=>match args,objs with | [.c (.ptr y z),.agg [i6 A,i6 B,.sl (.int .u8) C,i6 D]],[.cells E [i6 G,i6 H,i6 I,.bool J,i6 K,i6 L,i6 a,i6 b,i6 d,i6 e,.ptr M N,.own O],.cells P f,.vec Q (.pair (.int .i64) (.pair (.int .i64) (.sl (.int .u8)))) g false,.vec R (.int .i64) h false,.vec S (.int .u8) i false]=>(match splitRun 2 ctn f with | some ([i6 j,.own l],[.int .u64 m,.int .u64 n,.own o,.bool p])=>bif qb [y,z,E,M,N,O,P,Q,R,S,l,o] [0,0,76,1,0,2,138,29,3,5,3,4] then F A B C D G H I J K L a b d e j m n p g h i (fun r=>match r with | (T,U,V,W,X,Y,a0,a1,a2,a3,q,s,t,u,v,w,x)=>k (.tup [],[.cells 76 [i6 T,i6 U,i6 V,.bool W,i6 X,i6 Y,i6 a0,i6 a1,i6 a2,i6 a3,.ptr 1 0,.own 2],.cells 138 (i6 q::.own 3::ctb (.int .u64 s::.int .u64 t::.own 4::.bool u::[])),.vec 29 (.pair (.int .i64) (.pair (.int .i64) (.sl (.int .u8)))) v true,.vec 3 (.int .i64) w false,.vec 5 (.int .u8) x true])) else none | _=>none) | _,_=>none
theorem Gl (fuel:Nat):FnOK Tryz.prog 79 (pG (cg fuel)):=by
  intro args objs kk r h
  unfold pG at h
  split at h
  · skip
    split at h
    rotate_left 1
    · cases h
    rename_i hsp
    have esp:=splitRun_eq hsp
    subst esp
    obtain ⟨hb,h⟩:=cond_some' h
    cases qb_eq hb
    exact (Aj fuel).wk [1000004] _ _ kk r ((An fuel (ap fuel) (ab fuel) (dM fuel) (cB fuel) (ch fuel) (bg fuel) _ _ _ _ _ _ _ _ _ _ _ _ _ _ _ _ _ _ _ _ _ kk).trans h)
  · cases h
def bP (i:Nat):Option (List Nat):=Ev.look i [(1,[0,1,4,1000002,1000004]),(6,[0,1,4,5,6,1000002]),(100000,[]),(100002,[0,1,4]),(400000,[]),(400002,[])]
def kT (a:aF) (b:cY) (c:bK) (f:Nat):Option Ev.Spec:=Ev.look f [(78,gS a),(79,pG b),(80,jd c)]
def rP (fuel:Nat):Nat→Option Ev.Spec:=kT (ap fuel) (cg fuel) (aZ fuel)
abbrev pj:Type:=(List ((Int×(Int×LI))×Int))×Int×Int×Int×Int×Int×Int×Bool×Int×Int×Int×Int×Int×Int×Int×Int×Int×Bool×(List (Int×(Int×LI)))×LI×LI
abbrev ui:Type:=((List ((Int×(Int×LI))×Int))×Int×Int×Int×Int×Bool×Int×Int×Int×Int×Int×Int×Int×Int×Int×Bool×(List (Int×(Int×LI)))×LI×LI→OA)
def gF (fuel:Nat) (w:aF) (x:cY) (a9:bK) (a:(List ((Int×(Int×LI))×Int))) (o v:Int) (a8 p:Int) (q r:Int) (s:Bool) (t u:Int) (d e:Int) (f g:Int) (h i j:Int) (k:Bool) (l:(List (Int×(Int×LI)))) (m n:LI) (c:pj→OA) (B:ui):OA:=match B with | b=>bif decide ((↑a.length:Int) > 0) then bif decide ((0:Int)≤(0:Int)∧(0:Int) < (↑a.length:Int)) then bif (a.getD (Int.toNat 0) ((0,0,[]),0)).fst.snd.fst==v then bif decide ((0:Int)≤(0:Int)∧(0:Int) < (↑a.length:Int)) then (w (48) (i64.wrap ((a.getD (Int.toNat 0) ((0,0,[]),0)).fst.fst - a8)) p q r s t u d e f g h i j k l m n (fun (X,Y,a0,a1,a2,a3,a4,a5,a6,a7,G,H,I,J,K,L,M)=>bif decide ((0:Int)≤(0:Int)∧(0:Int) < (↑a.length:Int)) then bif decide ((0:Int)≤(0:Int)∧(0:Int) < (↑a.length:Int)) then (x ((a.getD (Int.toNat 0) ((0,0,[]),0)).fst.fst) ((a.getD (Int.toNat 0) ((0,0,[]),0)).fst.snd.fst) ((a.getD (Int.toNat 0) ((0,0,[]),0)).fst.snd.snd) ((a.getD (Int.toNat 0) ((0,0,[]),0)).snd) X Y a0 a1 a2 a3 a4 a5 a6 a7 G H I J K L M (fun (N,O,P,Q,R,S,T,U,V,W,y,z,A,C,D,E,F)=>bif decide (0≤Ev.loOf (some 1)∧Ev.loOf (some 1)≤Ev.hiOf Option.none (↑a.length:Int)∧Ev.hiOf Option.none (↑a.length:Int)≤(↑a.length:Int)) then c (List.take (Ev.hiOf Option.none (↑a.length:Int) - Ev.loOf (some 1)).toNat (List.drop (Ev.loOf (some 1)).toNat a),o,v,(a.getD (Int.toNat 0) ((0,0,[]),0)).fst.fst,N,O,P,Q,R,S,T,U,V,W,y,z,A,C,D,E,F) else none)) else none else none)) else none else b (a,o,p,q,r,s,t,u,d,e,f,g,h,i,j,k,l,m,n) else none else b (a,o,p,q,r,s,t,u,d,e,f,g,h,i,j,k,l,m,n)
def cf (fuel:Nat) (v:(List ((Int×(Int×(List Int)))×Int))×Int×Int×Int×Int×Int×Int×Bool×Int×Int×Int×Int×Int×Int×Int×Int×Int×Bool×(List (Int×(Int×(List Int))))×(List Int)×(List Int)) (c:((List ((Int×(Int×(List Int)))×Int))×Int×Int×Int×Int×Int×Int×Bool×Int×Int×Int×Int×Int×Int×Int×Int×Int×Bool×(List (Int×(Int×(List Int))))×(List Int)×(List Int))→Option Ans) (B:((List ((Int×(Int×(List Int)))×Int))×Int×Int×Int×Int×Bool×Int×Int×Int×Int×Int×Int×Int×Int×Int×Bool×(List (Int×(Int×(List Int))))×(List Int)×(List Int)→Option Ans)):Option Ans:=match v with | (m,n,o,p,q,r,s,t,u,w,a,b,d,e,f,g,h,i,j,k,l)=>gF fuel (ap fuel) (cg fuel) (aZ fuel) m n o p q r s t u w a b d e f g h i j k l c B
def oq (fuel:Nat) (v:pj) (b:ui):Option Ans:=iter (cf fuel) fuel v b
def qk (v:pj):Ev.St:=match v with | (m,n,o,p,q,r,s,t,u,w,a,b,d,e,f,g,h,i,j,k,l)=>⟨[(0,.c (.ptr 0 0)),(1,.c (.sl (.pair (.pair (.int .i64) (.pair (.int .i64) (.sl (.int .u8)))) (.int .i64)) m)),(4,.c (i6 n)),(5,.c (i6 o)),(6,.c (i6 p))],[(0,.cells 76 [i6 q,i6 r,i6 s,.bool t,i6 u,i6 w,i6 a,i6 b,i6 d,i6 e,.ptr 1 0,.own 2]),(1,.cells 138 (i6 f::.own 3::ctb (.int .u64 g::.int .u64 h::.own 4::.bool i::[]))),(2,.vec 29 (.pair (.int .i64) (.pair (.int .i64) (.sl (.int .u8)))) j true),(3,.vec 3 (.int .i64) k false),(4,.vec 5 (.int .u8) l true)],5,5⟩
def sJ (K:KT):ui:=(fun v=>match v with | (k,l,m,n,o,p,q,r,s,t,a,b,d,e,f,g,h,i,j)=>K .normal ⟨[(0,.c (.ptr 0 0)),(1,.c (.sl (.pair (.pair (.int .i64) (.pair (.int .i64) (.sl (.int .u8)))) (.int .i64)) k)),(4,.c (i6 l))],[(0,.cells 76 [i6 m,i6 n,i6 o,.bool p,i6 q,i6 r,i6 s,i6 t,i6 a,i6 b,.ptr 1 0,.own 2]),(1,.cells 138 (i6 d::.own 3::ctb (.int .u64 e::.int .u64 f::.own 4::.bool g::[]))),(2,.vec 29 (.pair (.int .i64) (.pair (.int .i64) (.sl (.int .u8)))) h true),(3,.vec 3 (.int .i64) i false),(4,.vec 5 (.int .u8) j true)],5,5⟩)
theorem DF (fuel:Nat) (a:aF) (b:cY) (c:bK) (R:Ev.St→OA) (K:KT) (o:(List ((Int×(Int×LI))×Int))) (p q:Int) (r s:Int) (t u:Int) (w:Bool) (x y:Int) (d e:Int) (f g:Int) (h i j:Int) (k:Bool) (l:(List (Int×(Int×LI)))) (m n:LI):evalCode tab (kT a b c) J0 bP fuel (bodyOf 2 Tryz.f31) (qk (o,p,q,r,s,t,u,w,x,y,d,e,f,g,h,i,j,k,l,m,n)) (lc bP 6 2 R K)=gF fuel a b c o p q r s t u w x y d e f g h i j k l m n (fun v=>R (qk v)) (sJ K):=by
  kernel_rfl
def fS (fuel:Nat):Ev.Blk:=fun st K=>match canonO (bP 6) st with | some s=>(match s with | ⟨[(C,.c (.ptr D E)),(F,.c (.sl (.pair (.pair (.int .i64) (.pair (.int .i64) (.sl (.int .u8)))) (.int .i64)) G)),(H,.c (i6 I)),(J,.c (i6 L)),(M,.c (i6 N))],[(O,.cells P [i6 Q,i6 R,i6 S,.bool T,i6 U,i6 V,i6 a,i6 b,i6 d,i6 e,.ptr W f,.own g]),(h,.cells i j),(k,.vec l (.pair (.int .i64) (.pair (.int .i64) (.sl (.int .u8)))) m true),(n,.vec o (.int .i64) p false),(q,.vec r (.int .u8) t true)],u,v⟩=>(match splitRun 2 ctn j with | some ([i6 w,.own x],[.int .u64 y,.int .u64 z,.own A,.bool B])=>bif qb [C,D,E,F,H,J,M,O,P,W,f,g,h,i,k,l,n,o,q,r,u,v,x,A] [0,0,0,1,4,5,6,0,76,1,0,2,1,138,2,29,3,3,4,5,5,5,3,4] then iter (cf fuel) fuel (G,I,L,N,Q,R,S,T,U,V,a,b,d,e,w,y,z,B,m,p,t) (sJ K) else none | _=>none) | _=>none) | none=>none
theorem Ba (fuel:Nat) (st:Ev.St) (K:KT) (r:Ans) (h:fS fuel st K=some r):evalCode tab (rP fuel) J0 bP fuel (.block 2 (.loop (bodyOf 2 Tryz.f31))) st K=some r:=by
  unfold fS at h
  split at h
  · rename_i s hs
    split at h
    · skip
      split at h
      rotate_left 1
      · cases h
      rename_i hsp
      have esp:=splitRun_eq hsp
      subst esp
      obtain ⟨hb,h⟩:=cond_some' h
      cases qb_eq hb
      exact blk_loop (S:=qk) (ks:=sJ) (step:=cf fuel) (v:=(_,_,_,_,_,_,_,_,_,_,_,_,_,_,_,_,_,_,_,_,_)) (by kernel_rfl) (by kernel_rfl) (fun R K v=>by obtain ⟨m,n,o,p,q,t,u,w,x,y,a,b,c,d,e,f,g,i,j,k,l⟩:=v; exact DF fuel (ap fuel) (cg fuel) (aZ fuel) R K m n o p q t u w x y a b c d e f g i j k l) hs h
    · cases h
  · cases h
abbrev nQ:Type:=(List ((Int×(Int×LI))×Int))×Int×Int×Int×Int×Bool×Int×Int×Int×Int×Int×Int×Int×Int×Int×Bool×(List (Int×(Int×LI)))×LI×LI
abbrev ts:Type:=(Int×Int×Int×Bool×Int×Int×Int×Int×Int×Int×Int×Int×Int×Bool×(List (Int×(Int×LI)))×LI×LI→OA)
def fg (fuel:Nat) (u:aF) (b5:cY) (v:bK) (a:(List ((Int×(Int×LI))×Int))) (b4 m:Int) (n o:Int) (p:Bool) (q r:Int) (s t:Int) (d e:Int) (f g h:Int) (i:Bool) (j:(List (Int×(Int×LI)))) (k l:LI) (c:nQ→OA) (B:ts):OA:=match B with | b=>bif decide ((↑a.length:Int) > 0) then bif decide ((0:Int)≤(0:Int)∧(0:Int) < (↑a.length:Int)) then (u (0) (i64.wrap ((a.getD (Int.toNat 0) ((0,0,[]),0)).fst.snd.fst - b4)) m n o p q r s t d e f g h i j k l (fun (T,U,V,W,X,Y,a0,a1,a2,a3,w,x,y,z,A,C,D)=>(oq fuel (a,(a.getD (Int.toNat 0) ((0,0,[]),0)).fst.snd.fst,(a.getD (Int.toNat 0) ((0,0,[]),0)).fst.snd.fst,0,T,U,V,W,X,Y,a0,a1,a2,a3,w,x,y,z,A,C,D) (fun (a4,a5,a6,a7,a8,a9,b0,b1,b2,b3,E,F,G,H,I,J,K,L,M)=>(v (48) (true) (0) G H I J L M (fun (b6,N,O,P,Q,R,S)=>c (a4,a5,a6,a7,a8,a9,b0,b1,b2,b3,E,F,N,O,P,Q,K,R,S))))))) else none else b (m,n,o,p,q,r,s,t,d,e,f,g,h,i,j,k,l)
def cs (fuel:Nat) (v:(List ((Int×(Int×(List Int)))×Int))×Int×Int×Int×Int×Bool×Int×Int×Int×Int×Int×Int×Int×Int×Int×Bool×(List (Int×(Int×(List Int))))×(List Int)×(List Int)) (c:((List ((Int×(Int×(List Int)))×Int))×Int×Int×Int×Int×Bool×Int×Int×Int×Int×Int×Int×Int×Int×Int×Bool×(List (Int×(Int×(List Int))))×(List Int)×(List Int))→Option Ans) (B:(Int×Int×Int×Bool×Int×Int×Int×Int×Int×Int×Int×Int×Int×Bool×(List (Int×(Int×(List Int))))×(List Int)×(List Int)→Option Ans)):Option Ans:=match v with | (k,l,m,n,o,p,q,r,s,t,a,b,d,e,f,g,h,i,j)=>fg fuel (ap fuel) (cg fuel) (aZ fuel) k l m n o p q r s t a b d e f g h i j c B
def yx (fuel:Nat) (v:nQ) (b:ts):Option Ans:=iter (cs fuel) fuel v b
def ki (fuel:Nat) (i:Nat):Option Ev.Blk:=Ev.look i [(100002,fS fuel)]
def uF (v:nQ):Ev.St:=match v with | (k,l,m,n,o,p,q,r,s,t,a,b,d,e,f,g,h,i,j)=>⟨[(0,.c (.ptr 0 0)),(1,.c (.sl (.pair (.pair (.int .i64) (.pair (.int .i64) (.sl (.int .u8)))) (.int .i64)) k)),(4,.c (i6 l))],[(0,.cells 76 [i6 m,i6 n,i6 o,.bool p,i6 q,i6 r,i6 s,i6 t,i6 a,i6 b,.ptr 1 0,.own 2]),(1,.cells 138 (i6 d::.own 3::ctb (.int .u64 e::.int .u64 f::.own 4::.bool g::[]))),(2,.vec 29 (.pair (.int .i64) (.pair (.int .i64) (.sl (.int .u8)))) h true),(3,.vec 3 (.int .i64) i false),(4,.vec 5 (.int .u8) j true)],5,5⟩
def pT (K:KT):ts:=(fun v=>match v with | (h,i,j,k,l,m,n,o,p,q,a,b,c,d,e,f,g)=>K .normal ⟨[],[(0,.cells 76 [i6 h,i6 i,i6 j,.bool k,i6 l,i6 m,i6 n,i6 o,i6 p,i6 q,.ptr 1 0,.own 2]),(1,.cells 138 (i6 a::.own 3::ctb (.int .u64 b::.int .u64 c::.own 4::.bool d::[]))),(2,.vec 29 (.pair (.int .i64) (.pair (.int .i64) (.sl (.int .u8)))) e true),(3,.vec 3 (.int .i64) f false),(4,.vec 5 (.int .u8) g true)],5,5⟩)
theorem Eu (fuel:Nat) (a:aF) (b:cY) (c:bK) (R:Ev.St→OA) (K:KT) (m:(List ((Int×(Int×LI))×Int))) (n o:Int) (p q:Int) (r:Bool) (s t:Int) (u w:Int) (d e:Int) (f g h:Int) (i:Bool) (j:(List (Int×(Int×LI)))) (k l:LI):evalCode tab (kT a b c) (ki fuel) bP fuel (bodyOf 0 Tryz.f31) (uF (m,n,o,p,q,r,s,t,u,w,d,e,f,g,h,i,j,k,l)) (lc bP 1 0 R K)=fg fuel a b c m n o p q r s t u w d e f g h i j k l (fun v=>R (uF v)) (pT K):=by
  kernel_rfl
def lg (fuel:Nat):Ev.Blk:=fun st K=>match canonO (bP 1) st with | some s=>(match s with | ⟨[(y,.c (.ptr z A)),(B,.c (.sl (.pair (.pair (.int .i64) (.pair (.int .i64) (.sl (.int .u8)))) (.int .i64)) C)),(D,.c (i6 E))],[(F,.cells G [i6 H,i6 I,i6 J,.bool L,i6 M,i6 N,i6 O,i6 P,i6 a,i6 b,.ptr Q R,.own S]),(d,.cells e f),(g,.vec h (.pair (.int .i64) (.pair (.int .i64) (.sl (.int .u8)))) i true),(j,.vec k (.int .i64) l false),(m,.vec n (.int .u8) o true)],p,q⟩=>(match splitRun 2 ctn f with | some ([i6 r,.own t],[.int .u64 u,.int .u64 v,.own w,.bool x])=>bif qb [y,z,A,B,D,F,G,Q,R,S,d,e,g,h,j,k,m,n,p,q,t,w] [0,0,0,1,4,0,76,1,0,2,1,138,2,29,3,3,4,5,5,5,3,4] then iter (cs fuel) fuel (C,E,H,I,J,L,M,N,O,P,a,b,r,u,v,x,i,l,o) (pT K) else none | _=>none) | _=>none) | none=>none
theorem AH (fuel:Nat) (st:Ev.St) (K:KT) (r:Ans) (h:lg fuel st K=some r):evalCode tab (rP fuel) (ki fuel) bP fuel (.block 0 (.loop (bodyOf 0 Tryz.f31))) st K=some r:=by
  unfold lg at h
  split at h
  · rename_i s hs
    split at h
    · skip
      split at h
      rotate_left 1
      · cases h
      rename_i hsp
      have esp:=splitRun_eq hsp
      subst esp
      obtain ⟨hb,h⟩:=cond_some' h
      cases qb_eq hb
      exact blk_loop (S:=uF) (ks:=pT) (step:=cs fuel) (v:=(_,_,_,_,_,_,_,_,_,_,_,_,_,_,_,_,_,_,_)) (by kernel_rfl) (by kernel_rfl) (fun R K v=>by obtain ⟨k,l,m,n,o,p,q,t,u,w,a,b,c,d,e,f,g,i,j⟩:=v; exact Eu fuel (ap fuel) (cg fuel) (aZ fuel) R K k l m n o p q t u w a b c d e f g i j) hs h
    · cases h
  · cases h
def HR (fuel:Nat) (i:Nat):Option Ev.Blk:=Ev.look i [(100002,fS fuel),(100000,lg fuel)]
def nz (fuel:Nat) (J:aF) (K:cY) (L:bK) (z:(List ((Int×(Int×LI))×Int))) (A B C:Int) (D:Bool) (E F:Int) (G H:Int) (I r:Int) (s t u:Int) (v:Bool) (w:(List (Int×(Int×LI)))) (x y:LI) (k0:(Int×Int×Int×Bool×Int×Int×Int×Int×Int×Int×Int×Int×Int×Bool×(List (Int×(Int×LI)))×LI×LI)→OA):OA:=(yx fuel (z,0,A,B,C,D,E,F,G,H,I,r,s,t,u,v,w,x,y) (fun (h,i,j,k,l,m,n,o,p,q,a,b,c,d,e,f,g)=>k0 (h,i,j,k,l,m,n,o,p,q,a,b,c,d,e,f,g)))
abbrev gn:Type:=((List ((Int×(Int×LI))×Int)))→Int→Int→Int→Bool→Int→Int→Int→Int→Int→Int→Int→Int→Int→Bool→((List (Int×(Int×LI))))→LI→LI→((Int×Int×Int×Bool×Int×Int×Int×Int×Int×Int×Int×Int×Int×Bool×(List (Int×(Int×LI)))×LI×LI)→Option Ans)→Option Ans
def eu (fuel:Nat):gn:=nz fuel (ap fuel) (cg fuel) (aZ fuel)
theorem GF (fuel:Nat) (a:aF) (b:cY) (d:bK) (n:(List ((Int×(Int×LI))×Int))) (o p q:Int) (s:Bool) (t u:Int) (v w:Int) (x e:Int) (f g h:Int) (i:Bool) (j:(List (Int×(Int×LI)))) (l m:LI) (k:Ev.Cont):evalFn tab (kT a b d) (HR fuel) bP fuel Tryz.f31 [.c (.ptr 0 0),.c (.sl (.pair (.pair (.int .i64) (.pair (.int .i64) (.sl (.int .u8)))) (.int .i64)) n)] [.cells 76 [i6 o,i6 p,i6 q,.bool s,i6 t,i6 u,i6 v,i6 w,i6 x,i6 e,.ptr 1 0,.own 2],.cells 138 (i6 f::.own 3::ctb (.int .u64 g::.int .u64 h::.own 4::.bool i::[])),.vec 29 (.pair (.int .i64) (.pair (.int .i64) (.sl (.int .u8)))) j false,.vec 3 (.int .i64) l false,.vec 5 (.int .u8) m false] k=nz fuel a b d n o p q s t u v w x e f g h i j l m (fun r=>match r with | (F,G,H,I,J,K,L,M,N,O,y,z,A,B,C,D,E)=>k (.tup [],[.cells 76 [i6 F,i6 G,i6 H,.bool I,i6 J,i6 K,i6 L,i6 M,i6 N,i6 O,.ptr 1 0,.own 2],.cells 138 (i6 y::.own 3::ctb (.int .u64 z::.int .u64 A::.own 4::.bool B::[])),.vec 29 (.pair (.int .i64) (.pair (.int .i64) (.sl (.int .u8)))) C true,.vec 3 (.int .i64) D false,.vec 5 (.int .u8) E true])):=by
  kernel_rfl
theorem sO (fuel:Nat):GOK Tryz.prog (rP fuel):=
  gc (ud fuel) Tryz.func78 (by kernel_rfl) rfl <|
  gc (Gl fuel) Tryz.func79 (by kernel_rfl) rfl <|
  gc (nJ fuel) Tryz.func80 (by kernel_rfl) rfl <|
  gok_nil
theorem Je (fuel:Nat):BlkOK Tryz.prog Tryz.f31.ntmps (.block 2 (.loop (bodyOf 2 Tryz.f31))) (fS fuel):=bo0 (sO fuel) (by kernel_rfl) (by kernel_rfl) (Ba fuel)
theorem HV (fuel:Nat):BlkOK Tryz.prog Tryz.f31.ntmps (.block 0 (.loop (bodyOf 0 Tryz.f31))) (lg fuel):=
  blk_of (blk_of_code tab_ok (sO fuel) mixed (J:=ki fuel) (kp:=bP) (fuel:=fuel) (by kernel_rfl) (fun q hq=>by
    rw [(by kernel_rfl:obl (ki fuel) (.block 0 (.loop (bodyOf 0 Tryz.f31)))= [(.block 2 (.loop (bodyOf 2 Tryz.f31)),fS fuel)])] at hq
    simp only [List.mem_cons,List.not_mem_nil,or_false] at hq
    subst hq
    · exact Je fuel)) (AH fuel)
def pH (F:gn):Ev.Spec:=fun args objs k=>match args,objs with | [.c (.ptr v w),.c (.sl (.pair (.pair (.int .i64) (.pair (.int .i64) (.sl (.int .u8)))) (.int .i64)) x)],[.cells y [i6 z,i6 A,i6 B,.bool C,i6 D,i6 E,i6 G,i6 H,i6 I,i6 a,.ptr J K,.own L],.cells M b,.vec N (.pair (.int .i64) (.pair (.int .i64) (.sl (.int .u8)))) d false,.vec O (.int .i64) e false,.vec P (.int .u8) f false]=>(match splitRun 2 ctn b with | some ([i6 g,.own h],[.int .u64 i,.int .u64 j,.own l,.bool m])=>bif qb [v,w,y,J,K,L,M,N,O,P,h,l] [0,0,76,1,0,2,138,29,3,5,3,4] then F x z A B C D E G H I a g i j m d e f (fun r=>match r with | (Q,R,S,T,U,V,W,X,Y,a0,n,o,p,q,s,t,u)=>k (.tup [],[.cells 76 [i6 Q,i6 R,i6 S,.bool T,i6 U,i6 V,i6 W,i6 X,i6 Y,i6 a0,.ptr 1 0,.own 2],.cells 138 (i6 n::.own 3::ctb (.int .u64 o::.int .u64 p::.own 4::.bool q::[])),.vec 29 (.pair (.int .i64) (.pair (.int .i64) (.sl (.int .u8)))) s true,.vec 3 (.int .i64) t false,.vec 5 (.int .u8) u true])) else none | _=>none) | _,_=>none
theorem I7 (fuel:Nat):FnOK Tryz.prog 31 (pH (eu fuel)):=by
  intro args objs kk r h
  unfold pH at h
  split at h
  · skip
    split at h
    rotate_left 1
    · cases h
    rename_i hsp
    have esp:=splitRun_eq hsp
    subst esp
    obtain ⟨hb,h⟩:=cond_some' h
    cases qb_eq hb
    exact fo1 (sO fuel) Tryz.func31 rfl (HV fuel) (by kernel_rfl) _ _ kk r ((GF fuel (ap fuel) (cg fuel) (aZ fuel) _ _ _ _ _ _ _ _ _ _ _ _ _ _ _ _ _ _ kk).trans h)
  · cases h
def BQ (i:Nat):Option (List Nat):=Ev.look i [(200010,[14]),(200013,[14])]
def wc (e:cq) (g:bz) (h:bk) (i:gI) (j:cp) (k:aO) (a:gn) (b:gp) (c:ii) (l:cx) (d:az) (f:Nat):Option Ev.Spec:=Ev.look f [(25,kN e),(26,kv g),(27,gE h),(28,qt i),(29,lC j),(30,ir k),(31,pH a),(32,pO b),(33,tv c),(34,lu l),(35,eG d)]
def FF (fuel:Nat):Nat→Option Ev.Spec:=wc (bE fuel) (bp fuel) (bb fuel) (eV fuel) (bH fuel) (aA fuel) (eu fuel) (gb fuel) (fA fuel) (bD fuel) (ak fuel)
def uq (fuel:Nat) (s2:cq) (s3:bz) (w:bk) (x:gI) (y:cp) (c:aO) (s:gn) (t:gp) (u:ii) (z:cx) (v:az) (j k l:Int) (m:Bool) (n o p:Int) (q:LI) (a:(List (Int×Int×LI))) (d:(List ((Int×Int×LI)×Int))) (b:(List Bool)) (k0:(Int×Int×LI×LI)→OA):OA:=(s2 j k l m n o p q a (fun e=>bif e==0 then (s3 a d (fun r=>bif r==0 then bif (↑b.length:Int) != i64.wrap ((↑a.length:Int)+(↑d.length:Int)) then k0 (0,2,[],[]) else bif r != 0 then k0 (0,r,[],[]) else (w j k l m n o ((↑b.length:Int)) (fun (f,g,M,N,O,P,Q,R,S,T)=>(y f g M N O P Q R S T p q (fun (d3,U)=>(x d3 U (fun c9=>(c a (fun k4=>none))) (fun (s6,n2,n3,n4,n5,n6,n7)=>(c a (fun k4=>(s d f g M N O P Q R S T n2 n3 n4 n5 k4 n6 n7 (fun (d4,d5,d6,d7,d8,d9,e0,e1,e2,e3,A,B,C,D,d1,E,F)=>(t b d4 d5 d6 d7 d8 d9 e0 e1 e2 e3 A B C D d1 E F (fun (e4,e5,e6,e7,e8,e9,g0,s7,s8,s9,k6,k7,k8,k9,s4,l0,l1)=>(u k6 k7 k8 k9 l0 l1 (fun (V,g1,g2,g3,g4,g5,g6)=>(v V g1 g2 g3 g4 g5 (fun (W,g7,t0,t1,t2,t3,t4,n8)=>(z f g M N O P Q R S T W n8 (fun (n9,o0)=>k0 (n9,0,g6,o0))))))))))))))))))) else bif r != 0 then k0 (0,r,[],[]) else (w j k l m n o ((↑b.length:Int)) (fun (h,i,X,Y,a0,a1,a2,a3,a4,a5)=>(y h i X Y a0 a1 a2 a3 a4 a5 p q (fun (g8,a6)=>(x g8 a6 (fun d0=>(c a (fun k5=>none))) (fun (t5,o1,o2,o3,o4,o5,o6)=>(c a (fun k5=>(s d h i X Y a0 a1 a2 a3 a4 a5 o1 o2 o3 o4 k5 o5 o6 (fun (g9,h0,h1,h2,h3,h4,h5,h6,h7,h8,G,H,I,J,d2,K,L)=>(t b g9 h0 h1 h2 h3 h4 h5 h6 h7 h8 G H I J d2 K L (fun (h9,j0,j1,j2,j3,j4,j5,t6,t7,t8,l2,l3,l4,l5,s5,l6,l7)=>(u l2 l3 l4 l5 l6 l7 (fun (a7,j6,j7,j8,j9,k1,k2)=>(v a7 j6 j7 j8 j9 k1 (fun (a8,k3,t9,v0,v1,v2,v3,o7)=>(z h i X Y a0 a1 a2 a3 a4 a5 a8 o7 (fun (o8,o9)=>k0 (o8,0,k2,o9))))))))))))))))))))) else bif e==0 then bif (↑b.length:Int) != i64.wrap ((↑a.length:Int)+(↑d.length:Int)) then k0 (0,2,[],[]) else bif e != 0 then k0 (0,e,[],[]) else (w j k l m n o ((↑b.length:Int)) (fun (a9,b0,b1,b2,b3,b4,b5,b6,b7,b8)=>(y a9 b0 b1 b2 b3 b4 b5 b6 b7 b8 p q (fun (f,g)=>(x f g (fun v4=>(c a (fun c9=>none))) (fun (d3,U,p0,p1,p2,p3,p4)=>(c a (fun c9=>(s d a9 b0 b1 b2 b3 b4 b5 b6 b7 b8 U p0 p1 p2 c9 p3 p4 (fun (p5,p6,p7,p8,p9,q0,q1,q2,q3,q4,l8,l9,m0,m1,m2,m3,m4)=>(t b p5 p6 p7 p8 p9 q0 q1 q2 q3 q4 l8 l9 m0 m1 m2 m3 m4 (fun (d4,d5,d6,d7,d8,d9,e0,e1,e2,e3,A,B,C,D,d1,E,F)=>(u A B C D E F (fun (e4,e5,e6,e7,e8,e9,g0)=>(v e4 e5 e6 e7 e8 e9 (fun (V,g1,g2,g3,g4,g5,g6,q5)=>(z a9 b0 b1 b2 b3 b4 b5 b6 b7 b8 V q5 (fun (W,g7)=>k0 (W,0,g0,g7))))))))))))))))))) else bif e != 0 then k0 (0,e,[],[]) else (w j k l m n o ((↑b.length:Int)) (fun (b9,c0,c1,c2,c3,c4,c5,c6,c7,c8)=>(y b9 c0 c1 c2 c3 c4 c5 c6 c7 c8 p q (fun (h,i)=>(x h i (fun v5=>(c a (fun d0=>none))) (fun (g8,a6,q6,q7,q8,q9,r0)=>(c a (fun d0=>(s d b9 c0 c1 c2 c3 c4 c5 c6 c7 c8 a6 q6 q7 q8 d0 q9 r0 (fun (r1,r2,r3,r4,r5,r6,r7,r8,r9,s0,m5,m6,m7,m8,m9,n0,n1)=>(t b r1 r2 r3 r4 r5 r6 r7 r8 r9 s0 m5 m6 m7 m8 m9 n0 n1 (fun (g9,h0,h1,h2,h3,h4,h5,h6,h7,h8,G,H,I,J,d2,K,L)=>(u G H I J K L (fun (h9,j0,j1,j2,j3,j4,j5)=>(v h9 j0 j1 j2 j3 j4 (fun (a7,j6,j7,j8,j9,k1,k2,s1)=>(z b9 c0 c1 c2 c3 c4 c5 c6 c7 c8 a7 s1 (fun (a8,k3)=>k0 (a8,0,j5,k3)))))))))))))))))))))
abbrev gD:Type:=Int→Int→Int→Bool→Int→Int→Int→LI→((List (Int×Int×LI)))→((List ((Int×Int×LI)×Int)))→((List Bool))→((Int×Int×LI×LI)→Option Ans)→Option Ans
def eU (fuel:Nat):gD:=uq fuel (bE fuel) (bp fuel) (bb fuel) (eV fuel) (bH fuel) (aA fuel) (eu fuel) (gb fuel) (fA fuel) (bD fuel) (ak fuel)
theorem D0 (fuel:Nat) (f:cq) (g:bz) (h:bk) (i:gI) (j:cp) (l:aO) (a:gn) (b:gp) (d:ii) (m:cx) (e:az) (o p q:Int) (s:Bool) (t u v:Int) (w:LI) (x:(List (Int×Int×LI))) (y:(List ((Int×Int×LI)×Int))) (n:(List Bool)) (k:Ev.Cont):evalFn tab (wc f g h i j l a b d m e) J0 BQ fuel Tryz.f11 [.agg [i6 o,i6 p,i6 q,.bool s,i6 t,i6 u],.agg [i6 v,.sl (.int .i64) w],.c (.sl (.pair (.int .i64) (.pair (.int .i64) (.sl (.int .u8)))) x),.c (.sl (.pair (.pair (.int .i64) (.pair (.int .i64) (.sl (.int .u8)))) (.int .i64)) y),.c (.sl .bool n)] [] k=uq fuel f g h i j l a b d m e o p q s t u v w x y n (fun r=>match r with | (z,A,B,C)=>k (.tup [(false,[.own 0]),(true,[i6 z,.own 1]),(false,[i6 A])],[.vec 5 (.int .u8) B true,.vec 3 (.int .i64) C true])):=by
  kernel_rfl
theorem G1 (fuel:Nat):GOK Tryz.prog (FF fuel):=
  gc (wo fuel) Tryz.func25 (by kernel_rfl) rfl <|
  gc (xw fuel) Tryz.func26 (by kernel_rfl) rfl <|
  gc (qI fuel) Tryz.func27 (by kernel_rfl) rfl <|
  gc (IF fuel) Tryz.func28 (by kernel_rfl) rfl <|
  gc (vK fuel) Tryz.func29 (by kernel_rfl) rfl <|
  gc (rk fuel) Tryz.func30 (by kernel_rfl) rfl <|
  gc (I7 fuel) Tryz.func31 (by kernel_rfl) rfl <|
  gc (JN fuel) Tryz.func32 (by kernel_rfl) rfl <|
  gc (xX fuel) Tryz.func33 (by kernel_rfl) rfl <|
  gc (wA fuel) Tryz.func34 (by kernel_rfl) rfl <|
  gc (gd fuel) Tryz.func35 (by kernel_rfl) rfl <|
  gok_nil
def uu (F:gD):Ev.Spec:=fun args objs k=>match args,objs with | [.agg [i6 b,i6 d,i6 e,.bool f,i6 g,i6 h],.agg [i6 i,.sl (.int .i64) j],.c (.sl (.pair (.int .i64) (.pair (.int .i64) (.sl (.int .u8)))) l),.c (.sl (.pair (.pair (.int .i64) (.pair (.int .i64) (.sl (.int .u8)))) (.int .i64)) m),.c (.sl .bool a)],[]=>F b d e f g h i j l m a (fun r=>match r with | (n,o,p,q)=>k (.tup [(false,[.own 0]),(true,[i6 n,.own 1]),(false,[i6 o])],[.vec 5 (.int .u8) p true,.vec 3 (.int .i64) q true])) | _,_=>none
theorem H9 (fuel:Nat):FnOK Tryz.prog 11 (uu (eU fuel)):=by
  intro args objs kk r h
  unfold uu at h
  split at h
  · skip
    exact fo0 (G1 fuel) Tryz.func11 rfl (by kernel_rfl) _ _ kk r ((D0 fuel (bE fuel) (bp fuel) (bb fuel) (eV fuel) (bH fuel) (aA fuel) (eu fuel) (gb fuel) (fA fuel) (bD fuel) (ak fuel) _ _ _ _ _ _ _ _ _ _ _ kk).trans h)
  · cases h
def D7 (i:Nat):Option (List Nat):=Ev.look i []
def xd (a:aY) (f:Nat):Option Ev.Spec:=Ev.look f [(43,iM a)]
def Bs (fuel:Nat):Nat→Option Ev.Spec:=xd (aS fuel)
def sA (fuel:Nat) (a:aY) (b c:Int) (d:LI) (k0:(Bool)→OA):OA:=(a b c d (fun e=>k0 !e))
abbrev ev:Type:=Int→Int→LI→(Bool→Option Ans)→Option Ans
def dZ (fuel:Nat):ev:=sA fuel (aS fuel)
theorem F4 (fuel:Nat) (a:aY) (b d:Int) (e:LI) (k:Ev.Cont):evalFn tab (xd a) J0 D7 fuel Tryz.f42 [.agg [i6 b,i6 d,.sl (.int .u8) e]] [] k=sA fuel a b d e (fun r=>match r with | f=>k (.c (.bool f),[])):=by
  kernel_rfl
theorem Ep (fuel:Nat):GOK Tryz.prog (Bs fuel):=
  gc (rN fuel) Tryz.func43 (by kernel_rfl) rfl <|
  gok_nil
def pc (F:ev):Ev.Spec:=fun args objs k=>match args,objs with | [.agg [i6 a,i6 b,.sl (.int .u8) d]],[]=>F a b d (fun r=>match r with | e=>k (.c (.bool e),[])) | _,_=>none
theorem G2 (fuel:Nat):FnOK Tryz.prog 42 (pc (dZ fuel)):=by
  intro args objs kk r h
  unfold pc at h
  split at h
  · skip
    exact fo0 (Ep fuel) Tryz.func42 rfl (by kernel_rfl) _ _ kk r ((F4 fuel (aS fuel) _ _ _ kk).trans h)
  · cases h
def iT (i:Nat):Option (List Nat):=Ev.look i [(2,[0,1,7,8]),(100000,[]),(400000,[4])]
def pR (a:ev) (f:Nat):Option Ev.Spec:=Ev.look f [(42,pc a)]
def xG (fuel:Nat):Nat→Option Ev.Spec:=pR (dZ fuel)
abbrev nR:Type:=(List (Int×(Int×LI)))×Int×Int
abbrev vD:Type:=(Int→OA)×(Unit→OA)
def jR (fuel:Nat) (f:ev) (d:(List (Int×(Int×LI)))) (e a:Int) (c:nR→OA) (B:vD):OA:=match B with | (ret,b)=>bif decide (a < e) then bif decide (0≤a∧a < (↑d.length:Int)) then (f ((d.getD a.toNat (0,0,[])).fst) ((d.getD a.toNat (0,0,[])).snd.fst) ((d.getD a.toNat (0,0,[])).snd.snd) (fun g=>bif g then ret a else c (d,e,i64.wrap (a+1)))) else none else b ()
def dB (fuel:Nat) (v:(List (Int×(Int×(List Int))))×Int×Int) (c:((List (Int×(Int×(List Int))))×Int×Int)→Option Ans) (B:(Int→Option Ans)×(Unit→Option Ans)):Option Ans:=match v with | (a,b,d)=>jR fuel (dZ fuel) a b d c B
def xN (fuel:Nat) (v:nR) (ret:(Int→Option Ans)) (b:(Unit→Option Ans)):Option Ans:=iter (dB fuel) fuel v (ret,b)
def pU (v:nR):Ev.St:=match v with | (a,b,d)=>⟨[(0,.c (.sl (.pair (.int .i64) (.pair (.int .i64) (.sl (.int .u8)))) a)),(1,.c (.clo 42 [])),(7,.c (i6 b)),(8,.c (i6 d))],[],0,0⟩
def sd (K:KT):vD:=((fun v=>match v with | a=>K .ret ⟨[(4,.c (i6 a))],[],0,0⟩),(fun v=>match v with | ()=>K .normal ⟨[],[],0,0⟩))
theorem Ht (fuel:Nat) (a:ev) (R:Ev.St→OA) (K:KT) (b:(List (Int×(Int×LI)))) (c d:Int):evalCode tab (pR a) J0 iT fuel (bodyOf 0 Tryz.f89) (pU (b,c,d)) (lc iT 2 0 R K)=jR fuel a b c d (fun v=>R (pU v)) (sd K):=by
  kernel_rfl
def kS (fuel:Nat):Ev.Blk:=fun st K=>match canonO (iT 2) st with | some s=>(match s with | ⟨[(a,.c (.sl (.pair (.int .i64) (.pair (.int .i64) (.sl (.int .u8)))) b)),(d,.c (.clo e [])),(f,.c (i6 g)),(h,.c (i6 i))],[],j,k⟩=>bif qb [a,d,e,f,h,j,k] [0,1,42,7,8,0,0] then iter (dB fuel) fuel (b,g,i) (sd K) else none | _=>none) | none=>none
theorem zo (fuel:Nat) (st:Ev.St) (K:KT) (r:Ans) (h:kS fuel st K=some r):evalCode tab (xG fuel) J0 iT fuel (.block 0 (.loop (bodyOf 0 Tryz.f89))) st K=some r:=by
  unfold kS at h
  split at h
  · rename_i s hs
    split at h
    · skip
      obtain ⟨hb,h⟩:=cond_some' h
      cases qb_eq hb
      exact blk_loop (S:=pU) (ks:=sd) (step:=dB fuel) (v:=(_,_,_)) (by kernel_rfl) (by kernel_rfl) (fun R K v=>by obtain ⟨a,b,c⟩:=v; exact Ht fuel (dZ fuel) R K a b c) hs h
    · cases h
  · cases h
def De (fuel:Nat) (i:Nat):Option Ev.Blk:=Ev.look i [(100000,kS fuel)]
def sE (fuel:Nat) (b:ev) (a:(List (Int×(Int×LI)))) (k0:(Int)→OA):OA:=(xN fuel (a,(↑a.length:Int),0) (fun ret0_0=>k0 ret0_0) (fun ()=>k0 ((-1:Int))))
abbrev it:Type:=((List (Int×(Int×LI))))→(Int→Option Ans)→Option Ans
def gO (fuel:Nat):it:=sE fuel (dZ fuel)
theorem FO (fuel:Nat) (a:ev) (b:(List (Int×(Int×LI)))) (k:Ev.Cont):evalFn tab (pR a) (De fuel) iT fuel Tryz.f89 [.c (.sl (.pair (.int .i64) (.pair (.int .i64) (.sl (.int .u8)))) b),.c (.clo 42 [])] [] k=sE fuel a b (fun r=>match r with | d=>k (.c (i6 d),[])):=by
  kernel_rfl
theorem yz (fuel:Nat):GOK Tryz.prog (xG fuel):=
  gc (G2 fuel) Tryz.func42 (by kernel_rfl) rfl <|
  gok_nil
theorem AM (fuel:Nat):BlkOK Tryz.prog Tryz.f89.ntmps (.block 0 (.loop (bodyOf 0 Tryz.f89))) (kS fuel):=bo0 (yz fuel) (by kernel_rfl) (by kernel_rfl) (zo fuel)
def mJ (F:it):Ev.Spec:=fun args objs k=>match args,objs with | [.c (.sl (.pair (.int .i64) (.pair (.int .i64) (.sl (.int .u8)))) a),.c (.clo b [])],[]=>bif qb [b] [42] then F a (fun r=>match r with | d=>k (.c (i6 d),[])) else none | _,_=>none
theorem BO (fuel:Nat):FnOK Tryz.prog 89 (mJ (gO fuel)):=by
  intro args objs kk r h
  unfold mJ at h
  split at h
  · skip
    obtain ⟨hb,h⟩:=cond_some' h
    cases qb_eq hb
    exact fo1 (yz fuel) Tryz.func89 rfl (AM fuel) (by kernel_rfl) _ _ kk r ((FO fuel (dZ fuel) _ kk).trans h)
  · cases h
def JU (i:Nat):Option (List Nat):=Ev.look i []
def xl (a:it) (f:Nat):Option Ev.Spec:=Ev.look f [(89,mJ a)]
def BZ (fuel:Nat):Nat→Option Ev.Spec:=xl (gO fuel)
def na (fuel:Nat) (a:it) (b:(List (Int×(Int×LI)))) (k0:(Bool)→OA):OA:=(a b (fun c=>k0 (decide (c≥0))))
abbrev cT:Type:=((List (Int×(Int×LI))))→(Bool→Option Ans)→Option Ans
def bS (fuel:Nat):cT:=na fuel (gO fuel)
theorem HP (fuel:Nat) (a:it) (b:(List (Int×(Int×LI)))) (k:Ev.Cont):evalFn tab (xl a) J0 JU fuel Tryz.f41 [.c (.sl (.pair (.int .i64) (.pair (.int .i64) (.sl (.int .u8)))) b),.c (.clo 42 [])] [] k=na fuel a b (fun r=>match r with | d=>k (.c (.bool d),[])):=by
  kernel_rfl
theorem I9 (fuel:Nat):GOK Tryz.prog (BZ fuel):=
  gc (BO fuel) Tryz.func89 (by kernel_rfl) rfl <|
  gok_nil
def tS (F:cT):Ev.Spec:=fun args objs k=>match args,objs with | [.c (.sl (.pair (.int .i64) (.pair (.int .i64) (.sl (.int .u8)))) a),.c (.clo b [])],[]=>bif qb [b] [42] then F a (fun r=>match r with | d=>k (.c (.bool d),[])) else none | _,_=>none
theorem Em (fuel:Nat):FnOK Tryz.prog 41 (tS (bS fuel)):=by
  intro args objs kk r h
  unfold tS at h
  split at h
  · skip
    obtain ⟨hb,h⟩:=cond_some' h
    cases qb_eq hb
    exact fo0 (I9 fuel) Tryz.func41 rfl (by kernel_rfl) _ _ kk r ((HP fuel (gO fuel) _ kk).trans h)
  · cases h
def Bp (i:Nat):Option (List Nat):=Ev.look i []
def GP (f:Nat):Option Ev.Spec:=Ev.look f []
def uJ (fuel:Nat):Nat→Option Ev.Spec:=GP
def em (fuel:Nat) (a:(List Int)) (k0:((List Int))→Option Ans):Option Ans:=bif decide ((↑a.length:Int)=0) then both (k0 []) (bif decide (((0:Nat)+a.length)*(1:Nat)≤(140737488355328:Nat)∧(0:Nat)+a.length≤(140737488355328:Nat)) then k0 ([]++a) else none) else bif decide (((0:Nat)+a.length)*(1:Nat)≤(140737488355328:Nat)∧(0:Nat)+a.length≤(140737488355328:Nat)) then k0 ([]++a) else none
abbrev lS:Type:=LI→(LI→Option Ans)→Option Ans
theorem Ac (fuel:Nat) (a:LI) (k:Ev.Cont):evalFn tab (uJ fuel) J0 Bp fuel Tryz.f91 [.c (.sl (.int .u8) a)] [] k=em fuel a (fun r=>match r with | b=>k (.c (.own 0),[.vec 5 (.int .u8) b true])):=by
  kernel_rfl
theorem GD (fuel:Nat):GOK Tryz.prog (uJ fuel):=
  gok_nil
def qZ (F:lS):Ev.Spec:=fun args objs k=>match args,objs with | [.c (.sl (.int .u8) a)],[]=>F a (fun r=>match r with | b=>k (.c (.own 0),[.vec 5 (.int .u8) b true])) | _,_=>none
theorem EU (fuel:Nat):FnOK Tryz.prog 91 (qZ (em fuel)):=by
  intro args objs kk r h
  unfold qZ at h
  split at h
  · skip
    exact fo0 (GD fuel) Tryz.func91 rfl (by kernel_rfl) _ _ kk r ((Ac fuel _ kk).trans h)
  · cases h
end
end Go.Proofs.YtohnjbmiaegofaaGreat

