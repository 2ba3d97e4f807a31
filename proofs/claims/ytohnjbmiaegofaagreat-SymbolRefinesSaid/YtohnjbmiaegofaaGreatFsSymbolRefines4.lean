/- What the functions that SymbolRefines reaches do: their typed texts, each with the proof that the machine does it. No condition. -/
import Derived.Test.YtohnjbmiaegofaaGreatEvX
import Derived.Test.YtohnjbmiaegofaaGreatFsSymbolRefines3
import Derived.Test.YtohnjbmiaegofaaGreatFsSymbolRefines2
import Derived.Test.YtohnjbmiaegofaaGreatFsSymbolRefines1
set_option linter.unusedVariables false
set_option linter.unusedSimpArgs false
set_option linter.unusedSectionVars false
set_option linter.unusedVariables false
set_option linter.unusedSimpArgs false
set_option maxRecDepth 100000
set_option maxHeartbeats 2000000
namespace Go.Proofs.YtohnjbmiaegofaaGreat
open Go Ev
open Go.IntKind (i64 u64 u8 i32 u32 u16)
noncomputable section
def gy (i:Nat):Option (List Nat):=Ev.look i [(5,[2,6,8,9,34,35]),(100000,[6,8,9]),(400000,[6,7])]
def ph (a:ez) (f:Nat):Option Ev.Spec:=Ev.look f [(200,md a)]
def wi (fuel:Nat):Nat→Option Ev.Spec:=ph (cL fuel)
abbrev sS:Type:=Int×Int×Int×Int×Int×Int×Int×Int×LI×LI
abbrev nN:Type:=(Int×Int×Int×Int×Int×LI×LI→OA)
def eo (fuel:Nat) (m:ez) (e f:Int) (g a:Int) (h i:Int) (j k:Int) (l d:LI) (c:sS→OA) (B:nN):OA:=match B with | b=>bif decide (a < g) then bif decide (0≤a∧a < (↑d.length:Int)) then c (e,f,g,i64.wrap (a+1),h,i,j,k,l,d.set a.toNat (u8.wrap e)) else none else b (f,h,i,j,k,l,d)
def bJ (fuel:Nat) (v:Int×Int×Int×Int×Int×Int×Int×Int×(List Int)×(List Int)) (c:(Int×Int×Int×Int×Int×Int×Int×Int×(List Int)×(List Int))→Option Ans) (B:(Int×Int×Int×Int×Int×(List Int)×(List Int)→Option Ans)):Option Ans:=match v with | (a,b,d,e,f,g,h,i,j,k)=>eo fuel (cL fuel) a b d e f g h i j k c B
def iA (fuel:Nat) (v:sS) (b:nN):Option Ans:=iter (bJ fuel) fuel v b
def me (v:sS):Ev.St:=match v with | (a,b,d,e,f,g,h,i,j,k)=>⟨[(2,.c (i6 a)),(6,.c (.ptr 0 0)),(8,.c (.ptr 1 0)),(9,.c (i6 b)),(34,.c (i6 d)),(35,.c (i6 e))],[(0,.cells 29 [i6 f,i6 g,.own 2]),(1,.cells 29 [i6 h,i6 i,.own 3]),(2,.vec 5 (.int .u8) j true),(3,.vec 5 (.int .u8) k true)],4,0⟩
def rL (K:KT):nN:=(fun v=>match v with | (a,b,d,e,f,g,h)=>K .normal ⟨[(6,.c (.ptr 0 0)),(8,.c (.ptr 1 0)),(9,.c (i6 a))],[(0,.cells 29 [i6 b,i6 d,.own 2]),(1,.cells 29 [i6 e,i6 f,.own 3]),(2,.vec 5 (.int .u8) g true),(3,.vec 5 (.int .u8) h true)],4,0⟩)
theorem Hq (fuel:Nat) (a:ez) (R:Ev.St→OA) (K:KT) (b c:Int) (d e:Int) (f g:Int) (h i:Int) (j k:LI):evalCode tab (ph a) J0 gy fuel (bodyOf 0 Tryz.f182) (me (b,c,d,e,f,g,h,i,j,k)) (lc gy 5 0 R K)=eo fuel a b c d e f g h i j k (fun v=>R (me v)) (rL K):=by
  kernel_rfl
def kq (fuel:Nat):Ev.Blk:=fun st K=>match canonO (gy 5) st with | some s=>(match s with | ⟨[(n,.c (i6 o)),(p,.c (.ptr q r)),(t,.c (.ptr u v)),(w,.c (i6 x)),(y,.c (i6 z)),(A,.c (i6 B))],[(a,.cells b [i6 C,i6 D,.own d]),(e,.cells f [i6 E,i6 F,.own g]),(h,.vec i (.int .u8) G true),(j,.vec k (.int .u8) H true)],l,m⟩=>bif qb [n,p,q,r,t,u,v,w,y,A,a,b,d,e,f,g,h,i,j,k,l,m] [2,6,0,0,8,1,0,9,34,35,0,29,2,1,29,3,2,5,3,5,4,0] then iter (bJ fuel) fuel (o,x,z,B,C,D,E,F,G,H) (rL K) else none | _=>none) | none=>none
theorem FT (fuel:Nat) (st:Ev.St) (K:KT) (r:Ans) (h:kq fuel st K=some r):evalCode tab (wi fuel) J0 gy fuel (.block 0 (.loop (bodyOf 0 Tryz.f182))) st K=some r:=by
  unfold kq at h
  split at h
  · rename_i s hs
    split at h
    · skip
      obtain ⟨hb,h⟩:=cond_some' h
      cases qb_eq hb
      exact blk_loop (S:=me) (ks:=rL) (step:=bJ fuel) (v:=(_,_,_,_,_,_,_,_,_,_)) (by kernel_rfl) (by kernel_rfl) (fun R K v=>by obtain ⟨a,b,c,d,e,f,g,i,j,k⟩:=v; exact Hq fuel (cL fuel) R K a b c d e f g i j k) hs h
    · cases h
  · cases h
def DS (fuel:Nat) (i:Nat):Option Ev.Blk:=Ev.look i [(100000,kq fuel)]
def iL (fuel:Nat) (h:ez) (f g a:Int) (k0:(Int×Int×Int×LI)→OA):OA:=bif decide (f < 0) then k0 (0,0,2,[]) else bif decide (g < 0) then k0 (0,0,2,[]) else bif a != 0 then bif a != 1 then k0 (0,0,2,[]) else (h f g (fun (k,l,m,i)=>(iA fuel (a,m,(↑i.length:Int),0,0,0,k,l,[],i) (fun (b,n,o,c,d,p,e)=>k0 (c,d,b,e))))) else (h f g (fun (q,r,s,j)=>(iA fuel (a,s,(↑j.length:Int),0,0,0,q,r,[],j) (fun (b,n,o,c,d,p,e)=>k0 (c,d,b,e)))))
abbrev bv:Type:=Int→Int→Int→((Int×Int×Int×LI)→Option Ans)→Option Ans
def aL (fuel:Nat):bv:=iL fuel (cL fuel)
theorem Hg (fuel:Nat) (a:ez) (b d e:Int) (k:Ev.Cont):evalFn tab (ph a) (DS fuel) gy fuel Tryz.f182 [.c (i6 b),.c (i6 d),.c (i6 e)] [] k=iL fuel a b d e (fun r=>match r with | (f,g,h,i)=>k (.tup [(true,[i6 f,i6 g,.own 0]),(false,[i6 h])],[.vec 5 (.int .u8) i true])):=by
  kernel_rfl
theorem xS (fuel:Nat):GOK Tryz.prog (wi fuel):=
  gc (zL fuel) Tryz.func200 (by kernel_rfl) rfl <|
  gok_nil
theorem FL (fuel:Nat):BlkOK Tryz.prog Tryz.f182.ntmps (.block 0 (.loop (bodyOf 0 Tryz.f182))) (kq fuel):=bo0 (xS fuel) (by kernel_rfl) (by kernel_rfl) (FT fuel)
def kh (F:bv):Ev.Spec:=fun args objs k=>match args,objs with | [.c (i6 a),.c (i6 b),.c (i6 d)],[]=>F a b d (fun r=>match r with | (e,f,g,h)=>k (.tup [(true,[i6 e,i6 f,.own 0]),(false,[i6 g])],[.vec 5 (.int .u8) h true])) | _,_=>none
theorem ze (fuel:Nat):FnOK Tryz.prog 182 (kh (aL fuel)):=by
  intro args objs kk r h
  unfold kh at h
  split at h
  · skip
    exact fo1 (xS fuel) Tryz.func182 rfl (FL fuel) (by kernel_rfl) _ _ kk r ((Hg fuel (cL fuel) _ _ _ kk).trans h)
  · cases h
def DT (i:Nat):Option (List Nat):=Ev.look i [(200001,[3,5])]
def vk (a:aw) (f:Nat):Option Ev.Spec:=Ev.look f [(129,fH a)]
def Fk (fuel:Nat):Nat→Option Ev.Spec:=vk (av fuel)
def tK (fuel:Nat) (b:aw) (j:Int) (c:LI) (a d:Int) (e f:Int) (g:Bool) (h:Int) (k0:(Bool)→OA):OA:=bif decide (a≥0) then (b d e f g h (fun i=>k0 (decide (a≤i64.wrap (i64.wrap ((↑c.length:Int) - i) - 1))))) else k0 false
abbrev bX:Type:=Int→LI→Int→Int→Int→Int→Bool→Int→(Bool→Option Ans)→Option Ans
def bO (fuel:Nat):bX:=tK fuel (av fuel)
theorem EY (fuel:Nat) (a:aw) (b:Int) (d:LI) (e f:Int) (g h:Int) (i:Bool) (j:Int) (k:Ev.Cont):evalFn tab (vk a) J0 DT fuel Tryz.f171 [.agg [i6 b,.sl (.int .i64) d],.c (i6 e),.agg [i6 f,i6 g,i6 h,.bool i,i6 j]] [] k=tK fuel a b d e f g h i j (fun r=>match r with | l=>k (.c (.bool l),[])):=by
  kernel_rfl
theorem Ig (fuel:Nat):GOK Tryz.prog (Fk fuel):=
  gc (kA fuel) Tryz.func129 (by kernel_rfl) rfl <|
  gok_nil
def ld (F:bX):Ev.Spec:=fun args objs k=>match args,objs with | [.agg [i6 a,.sl (.int .i64) b],.c (i6 d),.agg [i6 e,i6 f,i6 g,.bool h,i6 i]],[]=>F a b d e f g h i (fun r=>match r with | j=>k (.c (.bool j),[])) | _,_=>none
theorem yv (fuel:Nat):FnOK Tryz.prog 171 (ld (bO fuel)):=by
  intro args objs kk r h
  unfold ld at h
  split at h
  · skip
    exact fo0 (Ig fuel) Tryz.func171 rfl (by kernel_rfl) _ _ kk r ((EY fuel (av fuel) _ _ _ _ _ _ _ _ kk).trans h)
  · cases h
def Aa (i:Nat):Option (List Nat):=Ev.look i [(200001,[3])]
def wt (a:ek) (f:Nat):Option Ev.Spec:=Ev.look f [(163,jF a)]
def E0 (fuel:Nat):Nat→Option Ev.Spec:=wt (bV fuel)
def mF (fuel:Nat) (h:ek) (i c d:Int) (k:Bool) (l a b:Int) (k0:(Int×Int×LI×(List (Int×Int)))→OA):OA:=both (bif decide (0≤i64.wrap (a*b)∧i64.wrap (a*b)=i64.wrap (a*b)∧(↑(1:Nat):Int)*i64.wrap (a*b)≤281474976710656∧i64.wrap (a*b)≤281474976710656) then both ((h i (fun f=>bif decide ((f.length+ [(c,d)].length)*(16:Nat)≤(140737488355328:Nat)∧f.length+ [(c,d)].length≤(140737488355328:Nat)) then k0 (a,b,List.replicate (i64.wrap (a*b)).toNat (0:Int),f++ [(c,d)]) else none))) ((h i (fun f=>bif decide ((f.length+ [(c,d)].length)*(16:Nat)≤(140737488355328:Nat)∧f.length+ [(c,d)].length≤(140737488355328:Nat)) then k0 (a,b,List.replicate (i64.wrap (a*b)).toNat (0:Int),f++ [(c,d)]) else none))) else none) (both ((h i (fun e=>both (bif decide (0≤i64.wrap (a*b)∧i64.wrap (a*b)=i64.wrap (a*b)∧(↑(1:Nat):Int)*i64.wrap (a*b)≤281474976710656∧i64.wrap (a*b)≤281474976710656) then bif decide ((e.length+ [(c,d)].length)*(16:Nat)≤(140737488355328:Nat)∧e.length+ [(c,d)].length≤(140737488355328:Nat)) then k0 (a,b,List.replicate (i64.wrap (a*b)).toNat (0:Int),e++ [(c,d)]) else none else none) (both (bif decide (0≤i64.wrap (a*b)∧i64.wrap (a*b)=i64.wrap (a*b)∧(↑(1:Nat):Int)*i64.wrap (a*b)≤281474976710656∧i64.wrap (a*b)≤281474976710656) then bif decide ((e.length+ [(c,d)].length)*(16:Nat)≤(140737488355328:Nat)∧e.length+ [(c,d)].length≤(140737488355328:Nat)) then k0 (a,b,List.replicate (i64.wrap (a*b)).toNat (0:Int),e++ [(c,d)]) else none else none) (bif decide ((e.length+ [(c,d)].length)*(16:Nat)≤(140737488355328:Nat)∧e.length+ [(c,d)].length≤(140737488355328:Nat)) then bif decide (0≤i64.wrap (a*b)∧i64.wrap (a*b)=i64.wrap (a*b)∧(↑(1:Nat):Int)*i64.wrap (a*b)≤281474976710656∧i64.wrap (a*b)≤281474976710656) then k0 (a,b,List.replicate (i64.wrap (a*b)).toNat (0:Int),e++ [(c,d)]) else none else none))))) (both (bif decide (0≤i64.wrap (a*b)∧i64.wrap (a*b)=i64.wrap (a*b)∧(↑(1:Nat):Int)*i64.wrap (a*b)≤281474976710656∧i64.wrap (a*b)≤281474976710656) then (h i (fun j=>bif decide ((j.length+ [(c,d)].length)*(16:Nat)≤(140737488355328:Nat)∧j.length+ [(c,d)].length≤(140737488355328:Nat)) then k0 (a,b,List.replicate (i64.wrap (a*b)).toNat (0:Int),j++ [(c,d)]) else none)) else none) ((h i (fun g=>both (bif decide (0≤i64.wrap (a*b)∧i64.wrap (a*b)=i64.wrap (a*b)∧(↑(1:Nat):Int)*i64.wrap (a*b)≤281474976710656∧i64.wrap (a*b)≤281474976710656) then bif decide ((g.length+ [(c,d)].length)*(16:Nat)≤(140737488355328:Nat)∧g.length+ [(c,d)].length≤(140737488355328:Nat)) then k0 (a,b,List.replicate (i64.wrap (a*b)).toNat (0:Int),g++ [(c,d)]) else none else none) (bif decide ((g.length+ [(c,d)].length)*(16:Nat)≤(140737488355328:Nat)∧g.length+ [(c,d)].length≤(140737488355328:Nat)) then bif decide (0≤i64.wrap (a*b)∧i64.wrap (a*b)=i64.wrap (a*b)∧(↑(1:Nat):Int)*i64.wrap (a*b)≤281474976710656∧i64.wrap (a*b)≤281474976710656) then k0 (a,b,List.replicate (i64.wrap (a*b)).toNat (0:Int),g++ [(c,d)]) else none else none))))))
abbrev bi:Type:=Int→Int→Int→Bool→Int→Int→Int→((Int×Int×LI×(List (Int×Int)))→Option Ans)→Option Ans
def aW (fuel:Nat):bi:=mF fuel (bV fuel)
theorem Jr (fuel:Nat) (a:ek) (b d e:Int) (f:Bool) (g h i:Int) (k:Ev.Cont):evalFn tab (wt a) J0 Aa fuel Tryz.f183 [.agg [i6 b,i6 d,i6 e,.bool f,i6 g],.c (i6 h),.c (i6 i)] [] k=mF fuel a b d e f g h i (fun r=>match r with | (j,l,m,n)=>k (.c (.ptr 0 0),[.cells 240 [i6 j,i6 l,.own 1,.own 2],.vec 5 (.int .u8) m true,.vec 22 (.pair (.int .i64) (.int .i64)) n true])):=by
  kernel_rfl
theorem I0 (fuel:Nat):GOK Tryz.prog (E0 fuel):=
  gc (xo fuel) Tryz.func163 (by kernel_rfl) rfl <|
  gok_nil
def ln (F:bi):Ev.Spec:=fun args objs k=>match args,objs with | [.agg [i6 a,i6 b,i6 d,.bool e,i6 f],.c (i6 g),.c (i6 h)],[]=>F a b d e f g h (fun r=>match r with | (i,j,l,m)=>k (.c (.ptr 0 0),[.cells 240 [i6 i,i6 j,.own 1,.own 2],.vec 5 (.int .u8) l true,.vec 22 (.pair (.int .i64) (.int .i64)) m true])) | _,_=>none
theorem yl (fuel:Nat):FnOK Tryz.prog 183 (ln (aW fuel)):=by
  intro args objs kk r h
  unfold ln at h
  split at h
  · skip
    exact fo0 (I0 fuel) Tryz.func183 rfl (by kernel_rfl) _ _ kk r ((Jr fuel (bV fuel) _ _ _ _ _ _ _ kk).trans h)
  · cases h
def I1 (i:Nat):Option (List Nat):=Ev.look i [(200003,[0])]
def Gb (f:Nat):Option Ev.Spec:=Ev.look f []
def wh (fuel:Nat):Nat→Option Ev.Spec:=Gb
def be (fuel:Nat) (d e:Int) (a c:Int) (b:(List Int)) (f:(List (Int×Int))) (k0:(Int×Int×Int×(List Int)×(List (Int×Int)))→Option Ans):Option Ans:=bif decide (d < 0) then k0 (0,a,c,b,f) else bif decide (e < 0) then k0 (0,a,c,b,f) else bif decide (d≥a) then k0 (0,a,c,b,f) else bif decide (e≥c) then k0 (0,a,c,b,f) else bif decide (0≤i64.wrap (i64.wrap (e*a)+d)∧i64.wrap (i64.wrap (e*a)+d) < (↑b.length:Int)) then k0 (b.getD (i64.wrap (i64.wrap (e*a)+d)).toNat 0,a,c,b,f) else none
abbrev bN:Type:=Int→Int→Int→Int→LI→((List (Int×Int)))→((Int×Int×Int×LI×(List (Int×Int)))→Option Ans)→Option Ans
theorem Ka (fuel:Nat) (a b:Int) (d e:Int) (f:LI) (g:(List (Int×Int))) (k:Ev.Cont):evalFn tab (wh fuel) J0 I1 fuel Tryz.f203 [.c (.ptr 0 0),.c (i6 a),.c (i6 b)] [.cells 240 [i6 d,i6 e,.own 1,.own 2],.vec 5 (.int .u8) f false,.vec 22 (.pair (.int .i64) (.int .i64)) g false] k=be fuel a b d e f g (fun r=>match r with | (h,i,j,l,m)=>k (.c (.int .u8 h),[.cells 240 [i6 i,i6 j,.own 1,.own 2],.vec 5 (.int .u8) l false,.vec 22 (.pair (.int .i64) (.int .i64)) m false])):=by
  kernel_rfl
theorem HM (fuel:Nat):GOK Tryz.prog (wh fuel):=
  gok_nil
def jm (F:bN):Ev.Spec:=fun args objs k=>match args,objs with | [.c (.ptr a b),.c (i6 d),.c (i6 e)],[.cells f [i6 g,i6 h,.own i,.own j],.vec l (.int .u8) m false,.vec n (.pair (.int .i64) (.int .i64)) o false]=>bif qb [a,b,f,i,j,l,n] [0,0,240,1,2,5,22] then F d e g h m o (fun r=>match r with | (p,q,s,t,u)=>k (.c (.int .u8 p),[.cells 240 [i6 q,i6 s,.own 1,.own 2],.vec 5 (.int .u8) t false,.vec 22 (.pair (.int .i64) (.int .i64)) u false])) else none | _,_=>none
theorem vm (fuel:Nat):FnOK Tryz.prog 203 (jm (be fuel)):=by
  intro args objs kk r h
  unfold jm at h
  split at h
  · skip
    obtain ⟨hb,h⟩:=cond_some' h
    cases qb_eq hb
    exact fo0 (HM fuel) Tryz.func203 rfl (by kernel_rfl) _ _ kk r ((Ka fuel _ _ _ _ _ _ kk).trans h)
  · cases h
def D9 (i:Nat):Option (List Nat):=Ev.look i []
def DU (f:Nat):Option Ev.Spec:=Ev.look f []
def uK (fuel:Nat):Nat→Option Ev.Spec:=DU
def af (fuel:Nat) (c d:Int) (a:(List Int)) (b:Int) (k0:(Bool)→Option Ans):Option Ans:=bif decide ((↑a.length:Int) > 0) then bif decide (0≤b∧b < (↑a.length:Int)) then k0 (a.getD b.toNat (0:Int)==(1:Int)) else none else k0 false
abbrev aj:Type:=Int→Int→LI→Int→(Bool→Option Ans)→Option Ans
theorem zC (fuel:Nat) (a b:Int) (d:LI) (e:Int) (k:Ev.Cont):evalFn tab (uK fuel) J0 D9 fuel Tryz.f195 [.agg [i6 a,i6 b,.sl (.int .u8) d],.c (i6 e)] [] k=af fuel a b d e (fun r=>match r with | f=>k (.c (.bool f),[])):=by
  kernel_rfl
theorem Da (fuel:Nat):GOK Tryz.prog (uK fuel):=
  gok_nil
def en (F:aj):Ev.Spec:=fun args objs k=>match args,objs with | [.agg [i6 a,i6 b,.sl (.int .u8) d],.c (i6 e)],[]=>F a b d e (fun r=>match r with | f=>k (.c (.bool f),[])) | _,_=>none
theorem gm (fuel:Nat):FnOK Tryz.prog 195 (en (af fuel)):=by
  intro args objs kk r h
  unfold en at h
  split at h
  · skip
    exact fo0 (Da fuel) Tryz.func195 rfl (by kernel_rfl) _ _ kk r ((zC fuel _ _ _ _ kk).trans h)
  · cases h
def gB (i:Nat):Option (List Nat):=Ev.look i [(3,[0,1,5,7,15,16]),(100000,[7]),(200005,[0,5]),(400000,[6])]
def sn (b:aj) (a:bN) (f:Nat):Option Ev.Spec:=Ev.look f [(195,en b),(203,jm a)]
def yI (fuel:Nat):Nat→Option Ev.Spec:=sn (af fuel) (be fuel)
abbrev qq:Type:=Int×Int×Int×Int×Int×LI×(List (Int×Int))×Int×Int×LI×LI
abbrev mo:Type:=(Int×Int×LI×(List (Int×Int))×LI→OA)
def jv (fuel:Nat) (o:aj) (n:bN) (e g:Int) (a f h:Int) (i:LI) (j:(List (Int×Int))) (k l:Int) (m d:LI) (c:qq→OA) (B:mo):OA:=match B with | b=>bif decide (a < g) then (o k l m (i64.wrap (i64.wrap (e*f)+a)) (fun u=>bif !u then (n a (i64.wrap (e - 1)) f h i j (fun (p,q,r,s,t)=>bif decide (0≤a∧a < (↑d.length:Int)) then c (e,g,i64.wrap (a+1),q,r,s,t,k,l,m,d.set a.toNat p) else none)) else c (e,g,i64.wrap (a+1),f,h,i,j,k,l,m,d))) else b (f,h,i,j,d)
def eO (fuel:Nat) (v:Int×Int×Int×Int×Int×(List Int)×(List (Int×Int))×Int×Int×(List Int)×(List Int)) (c:(Int×Int×Int×Int×Int×(List Int)×(List (Int×Int))×Int×Int×(List Int)×(List Int))→Option Ans) (B:(Int×Int×(List Int)×(List (Int×Int))×(List Int)→Option Ans)):Option Ans:=match v with | (b,d,e,f,g,h,i,j,k,l,a)=>jv fuel (af fuel) (be fuel) b d e f g h i j k l a c B
def yN (fuel:Nat) (v:qq) (b:mo):Option Ans:=iter (eO fuel) fuel v b
def mc (v:qq):Ev.St:=match v with | (b,d,e,f,g,h,i,j,k,l,a)=>⟨[(0,.c (.ptr 0 0)),(1,.c (i6 b)),(5,.c (.ptr 3 0)),(7,.c (.own 4)),(15,.c (i6 d)),(16,.c (i6 e))],[(0,.cells 240 [i6 f,i6 g,.own 1,.own 2]),(1,.vec 5 (.int .u8) h false),(2,.vec 22 (.pair (.int .i64) (.int .i64)) i false),(3,.cells 29 [i6 j,i6 k,.sl (.int .u8) l]),(4,.vec 5 (.int .u8) a true)],5,3⟩
def od (K:KT):mo:=(fun v=>match v with | (a,b,d,e,f)=>K .normal ⟨[(7,.c (.own 3))],[(0,.cells 240 [i6 a,i6 b,.own 1,.own 2]),(1,.vec 5 (.int .u8) d false),(2,.vec 22 (.pair (.int .i64) (.int .i64)) e false),(3,.vec 5 (.int .u8) f true)],4,3⟩)
theorem zk (fuel:Nat) (b:aj) (a:bN) (R:Ev.St→OA) (K:KT) (d e:Int) (f g h:Int) (i:LI) (j:(List (Int×Int))) (k l:Int) (m c:LI):evalCode tab (sn b a) J0 gB fuel (bodyOf 0 Tryz.f197) (mc (d,e,f,g,h,i,j,k,l,m,c)) (lc gB 3 0 R K)=jv fuel b a d e f g h i j k l m c (fun v=>R (mc v)) (od K):=by
  kernel_rfl
def i8 (fuel:Nat):Ev.Blk:=fun st K=>match canonO (gB 3) st with | some s=>(match s with | ⟨[(r,.c (.ptr t u)),(v,.c (i6 w)),(x,.c (.ptr y z)),(A,.c (.own B)),(C,.c (i6 D)),(a,.c (i6 E))],[(b,.cells d [i6 F,i6 G,.own e,.own f]),(g,.vec h (.int .u8) H false),(i,.vec j (.pair (.int .i64) (.int .i64)) I false),(k,.cells l [i6 J,i6 L,.sl (.int .u8) M]),(m,.vec n (.int .u8) o true)],p,q⟩=>bif qb [r,t,u,v,x,y,z,A,B,C,a,b,d,e,f,g,h,i,j,k,l,m,n,p,q] [0,0,0,1,5,3,0,7,4,15,16,0,240,1,2,1,5,2,22,3,29,4,5,5,3] then iter (eO fuel) fuel (w,D,E,F,G,H,I,J,L,M,o) (od K) else none | _=>none) | none=>none
theorem EL (fuel:Nat) (st:Ev.St) (K:KT) (r:Ans) (h:i8 fuel st K=some r):evalCode tab (yI fuel) J0 gB fuel (.block 0 (.loop (bodyOf 0 Tryz.f197))) st K=some r:=by
  unfold i8 at h
  split at h
  · rename_i s hs
    split at h
    · skip
      obtain ⟨hb,h⟩:=cond_some' h
      cases qb_eq hb
      exact blk_loop (S:=mc) (ks:=od) (step:=eO fuel) (v:=(_,_,_,_,_,_,_,_,_,_,_)) (by kernel_rfl) (by kernel_rfl) (fun R K v=>by obtain ⟨b,c,d,e,f,g,i,j,k,l,a⟩:=v; exact zk fuel (af fuel) (be fuel) R K b c d e f g i j k l a) hs h
    · cases h
  · cases h
def AD (fuel:Nat) (i:Nat):Option Ev.Blk:=Ev.look i [(100000,i8 fuel)]
def sH (fuel:Nat) (o:aj) (n:bN) (g h i:Int) (j:LI) (a k:Int) (l:LI) (m:(List (Int×Int))) (k0:(Int×Int×LI×(List (Int×Int))×LI)→OA):OA:=bif decide (0≤a∧a=a∧(↑(1:Nat):Int)*a≤281474976710656∧a≤281474976710656) then (yN fuel (g,(↑(List.replicate a.toNat (0:Int)).length:Int),0,a,k,l,m,h,i,j,List.replicate a.toNat (0:Int)) (fun (b,c,d,e,f)=>k0 (b,c,d,e,f))) else none
abbrev dO:Type:=Int→Int→Int→LI→Int→Int→LI→((List (Int×Int)))→((Int×Int×LI×(List (Int×Int))×LI)→Option Ans)→Option Ans
def du (fuel:Nat):dO:=sH fuel (af fuel) (be fuel)
theorem BN (fuel:Nat) (b:aj) (a:bN) (d e f:Int) (g:LI) (h i:Int) (j:LI) (l:(List (Int×Int))) (k:Ev.Cont):evalFn tab (sn b a) (AD fuel) gB fuel Tryz.f197 [.c (.ptr 0 0),.c (i6 d),.agg [i6 e,i6 f,.sl (.int .u8) g]] [.cells 240 [i6 h,i6 i,.own 1,.own 2],.vec 5 (.int .u8) j false,.vec 22 (.pair (.int .i64) (.int .i64)) l false] k=sH fuel b a d e f g h i j l (fun r=>match r with | (m,n,o,p,q)=>k (.c (.own 3),[.cells 240 [i6 m,i6 n,.own 1,.own 2],.vec 5 (.int .u8) o false,.vec 22 (.pair (.int .i64) (.int .i64)) p false,.vec 5 (.int .u8) q true])):=by
  kernel_rfl
theorem zd (fuel:Nat):GOK Tryz.prog (yI fuel):=
  gc (gm fuel) Tryz.func195 (by kernel_rfl) rfl <|
  gc (vm fuel) Tryz.func203 (by kernel_rfl) rfl <|
  gok_nil
theorem HZ (fuel:Nat):BlkOK Tryz.prog Tryz.f197.ntmps (.block 0 (.loop (bodyOf 0 Tryz.f197))) (i8 fuel):=bo0 (zd fuel) (by kernel_rfl) (by kernel_rfl) (EL fuel)
def mI (F:dO):Ev.Spec:=fun args objs k=>match args,objs with | [.c (.ptr a b),.c (i6 d),.agg [i6 e,i6 f,.sl (.int .u8) g]],[.cells h [i6 i,i6 j,.own l,.own m],.vec n (.int .u8) o false,.vec p (.pair (.int .i64) (.int .i64)) q false]=>bif qb [a,b,h,l,m,n,p] [0,0,240,1,2,5,22] then F d e f g i j o q (fun r=>match r with | (s,t,u,v,w)=>k (.c (.own 3),[.cells 240 [i6 s,i6 t,.own 1,.own 2],.vec 5 (.int .u8) u false,.vec 22 (.pair (.int .i64) (.int .i64)) v false,.vec 5 (.int .u8) w true])) else none | _,_=>none
theorem Ff (fuel:Nat):FnOK Tryz.prog 197 (mI (du fuel)):=by
  intro args objs kk r h
  unfold mI at h
  split at h
  · skip
    obtain ⟨hb,h⟩:=cond_some' h
    cases qb_eq hb
    exact fo1 (zd fuel) Tryz.func197 rfl (HZ fuel) (by kernel_rfl) _ _ kk r ((BN fuel (af fuel) (be fuel) _ _ _ _ _ _ _ _ kk).trans h)
  · cases h
def iv (i:Nat):Option (List Nat):=Ev.look i [(3,[0,1,2,7,13,14,15]),(100000,[7]),(400000,[6])]
def sM (a:bN) (f:Nat):Option Ev.Spec:=Ev.look f [(203,jm a)]
def xk (fuel:Nat):Nat→Option Ev.Spec:=sM (be fuel)
abbrev qA:Type:=Int×Int×Int×Int×Int×Int×Int×LI×(List (Int×Int))
abbrev oh:Type:=(Int×Int×Int×LI×(List (Int×Int))→OA)
def jE (fuel:Nat) (l:bN) (e f:Int) (g h:Int) (a i j:Int) (k:LI) (d:(List (Int×Int))) (c:qA→OA) (B:oh):OA:=match B with | b=>bif decide (a < h) then bif decide (0≤a∧a < (↑d.length:Int)) then (l (i64.wrap (e+(d.getD a.toNat (0,0)).fst)) (i64.wrap (f+(d.getD a.toNat (0,0)).snd)) i j k d (fun (m,n,o,p,q)=>c (e,f,i64.wrap (i64.wrap (2*g)+i64.wrap m),h,i64.wrap (a+1),n,o,p,q))) else none else b (g,i,j,k,d)
def fi (fuel:Nat) (v:Int×Int×Int×Int×Int×Int×Int×(List Int)×(List (Int×Int))) (c:(Int×Int×Int×Int×Int×Int×Int×(List Int)×(List (Int×Int)))→Option Ans) (B:(Int×Int×Int×(List Int)×(List (Int×Int))→Option Ans)):Option Ans:=match v with | (a,b,d,e,f,g,h,i,j)=>jE fuel (be fuel) a b d e f g h i j c B
def wG (fuel:Nat) (v:qA) (b:oh):Option Ans:=iter (fi fuel) fuel v b
def pS (v:qA):Ev.St:=match v with | (a,b,d,e,f,g,h,i,j)=>⟨[(0,.c (.ptr 0 0)),(1,.c (i6 a)),(2,.c (i6 b)),(7,.c (i6 d)),(13,.c (.own 2)),(14,.c (i6 e)),(15,.c (i6 f))],[(0,.cells 240 [i6 g,i6 h,.own 1,.own 2]),(1,.vec 5 (.int .u8) i false),(2,.vec 22 (.pair (.int .i64) (.int .i64)) j false)],3,3⟩
def pL (K:KT):oh:=(fun v=>match v with | (a,b,d,e,f)=>K .normal ⟨[(7,.c (i6 a))],[(0,.cells 240 [i6 b,i6 d,.own 1,.own 2]),(1,.vec 5 (.int .u8) e false),(2,.vec 22 (.pair (.int .i64) (.int .i64)) f false)],3,3⟩)
theorem Ix (fuel:Nat) (a:bN) (R:Ev.St→OA) (K:KT) (b c:Int) (d e:Int) (f g h:Int) (i:LI) (j:(List (Int×Int))):evalCode tab (sM a) J0 iv fuel (bodyOf 0 Tryz.f198) (pS (b,c,d,e,f,g,h,i,j)) (lc iv 3 0 R K)=jE fuel a b c d e f g h i j (fun v=>R (pS v)) (pL K):=by
  kernel_rfl
def kJ (fuel:Nat):Ev.Blk:=fun st K=>match canonO (iv 3) st with | some s=>(match s with | ⟨[(l,.c (.ptr m n)),(o,.c (i6 p)),(q,.c (i6 r)),(t,.c (i6 u)),(v,.c (.own w)),(x,.c (i6 y)),(z,.c (i6 A))],[(a,.cells b [i6 B,i6 C,.own d,.own e]),(f,.vec g (.int .u8) D false),(h,.vec i (.pair (.int .i64) (.int .i64)) E false)],j,k⟩=>bif qb [l,m,n,o,q,t,v,w,x,z,a,b,d,e,f,g,h,i,j,k] [0,0,0,1,2,7,13,2,14,15,0,240,1,2,1,5,2,22,3,3] then iter (fi fuel) fuel (p,r,u,y,A,B,C,D,E) (pL K) else none | _=>none) | none=>none
theorem El (fuel:Nat) (st:Ev.St) (K:KT) (r:Ans) (h:kJ fuel st K=some r):evalCode tab (xk fuel) J0 iv fuel (.block 0 (.loop (bodyOf 0 Tryz.f198))) st K=some r:=by
  unfold kJ at h
  split at h
  · rename_i s hs
    split at h
    · skip
      obtain ⟨hb,h⟩:=cond_some' h
      cases qb_eq hb
      exact blk_loop (S:=pS) (ks:=pL) (step:=fi fuel) (v:=(_,_,_,_,_,_,_,_,_)) (by kernel_rfl) (by kernel_rfl) (fun R K v=>by obtain ⟨a,b,c,d,e,f,g,i,j⟩:=v; exact Ix fuel (be fuel) R K a b c d e f g i j) hs h
    · cases h
  · cases h
def BW (fuel:Nat) (i:Nat):Option Ev.Blk:=Ev.look i [(100000,kJ fuel)]
def nS (fuel:Nat) (l:bN) (g h:Int) (i j:Int) (k:LI) (a:(List (Int×Int))) (k0:(Int×Int×Int×LI×(List (Int×Int)))→OA):OA:=(wG fuel (g,h,0,(↑a.length:Int),0,i,j,k,a) (fun (b,c,d,e,f)=>k0 (b,c,d,e,f)))
abbrev eD:Type:=Int→Int→Int→Int→LI→((List (Int×Int)))→((Int×Int×Int×LI×(List (Int×Int)))→Option Ans)→Option Ans
def dG (fuel:Nat):eD:=nS fuel (be fuel)
theorem FD (fuel:Nat) (a:bN) (b d:Int) (e f:Int) (g:LI) (h:(List (Int×Int))) (k:Ev.Cont):evalFn tab (sM a) (BW fuel) iv fuel Tryz.f198 [.c (.ptr 0 0),.c (i6 b),.c (i6 d)] [.cells 240 [i6 e,i6 f,.own 1,.own 2],.vec 5 (.int .u8) g false,.vec 22 (.pair (.int .i64) (.int .i64)) h false] k=nS fuel a b d e f g h (fun r=>match r with | (i,j,l,m,n)=>k (.c (i6 i),[.cells 240 [i6 j,i6 l,.own 1,.own 2],.vec 5 (.int .u8) m false,.vec 22 (.pair (.int .i64) (.int .i64)) n false])):=by
  kernel_rfl
theorem yH (fuel:Nat):GOK Tryz.prog (xk fuel):=
  gc (vm fuel) Tryz.func203 (by kernel_rfl) rfl <|
  gok_nil
theorem Bd (fuel:Nat):BlkOK Tryz.prog Tryz.f198.ntmps (.block 0 (.loop (bodyOf 0 Tryz.f198))) (kJ fuel):=bo0 (yH fuel) (by kernel_rfl) (by kernel_rfl) (El fuel)
def pN (F:eD):Ev.Spec:=fun args objs k=>match args,objs with | [.c (.ptr a b),.c (i6 d),.c (i6 e)],[.cells f [i6 g,i6 h,.own i,.own j],.vec l (.int .u8) m false,.vec n (.pair (.int .i64) (.int .i64)) o false]=>bif qb [a,b,f,i,j,l,n] [0,0,240,1,2,5,22] then F d e g h m o (fun r=>match r with | (p,q,s,t,u)=>k (.c (i6 p),[.cells 240 [i6 q,i6 s,.own 1,.own 2],.vec 5 (.int .u8) t false,.vec 22 (.pair (.int .i64) (.int .i64)) u false])) else none | _,_=>none
theorem GX (fuel:Nat):FnOK Tryz.prog 198 (pN (dG fuel)):=by
  intro args objs kk r h
  unfold pN at h
  split at h
  · skip
    obtain ⟨hb,h⟩:=cond_some' h
    cases qb_eq hb
    exact fo1 (yH fuel) Tryz.func198 rfl (Bd fuel) (by kernel_rfl) _ _ kk r ((FD fuel (be fuel) _ _ _ _ _ _ kk).trans h)
  · cases h
def gV (i:Nat):Option (List Nat):=Ev.look i [(9,[0,1,2,4,11,53,54]),(100000,[]),(200006,[11]),(200011,[0,11]),(200015,[0]),(400000,[12])]
def tY (d:aw) (a:ac) (e:aj) (b:dO) (c:eD) (f:Nat):Option Ev.Spec:=Ev.look f [(129,fH d),(143,bW a),(195,en e),(197,mI b),(198,pN c)]
def vG (fuel:Nat):Nat→Option Ev.Spec:=tY (av fuel) (aa fuel) (af fuel) (du fuel) (dG fuel)
abbrev ni:Type:=Int×Int×Int×Int×Int×Int×Int×Int×Int×Int×Int×Int×Bool×Bool×LI×(List (Int×Int))×LI×LI×Int×Int×LI
abbrev vE:Type:=(Int×Int×Int×Int×Int×Int×Int×Int×Int×Bool×Bool×LI×(List (Int×Int))×LI×LI→OA)×(Int×Int×Int×Int×Int×Int×Int×Int×Bool×Bool×LI×(List (Int×Int))×LI×LI→OA)
def rv (fuel:Nat) (U:aw) (N:ac) (Q:aj) (T:dO) (O:eD) (s d:Int) (t a:Int) (f u:Int) (v w:Int) (x y:Int) (h i:Int) (j k:Bool) (l:LI) (m:(List (Int×Int))) (n o:LI) (p q:Int) (r:LI) (c:ni→OA) (B:vE):OA:=match B with | (ret,b)=>bif decide (a < t) then (Q p q r (i64.wrap (i64.wrap (d*f)+a)) (fun S=>bif S then c (s,d,t,i64.wrap (a+1),f,u,v,w,x,y,h,i,j,k,l,m,n,o,p,q,r) else (O a d f u l m (fun (R,e,L,g,M)=>(N (i64.wrap (s+R)) v w x y h i j k n o (fun (P,C,D,E,F,G,H,I,J,K,z,A)=>bif C != 0 then ret (C,e,L,D,E,F,G,H,I,J,K,g,M,z,A) else bif decide (0≤i64.wrap (i64.wrap (d*e)+a)∧i64.wrap (i64.wrap (d*e)+a) < (↑g.length:Int)) then c (s,d,t,i64.wrap (a+1),e,L,D,E,F,G,H,I,J,K,g.set (i64.wrap (i64.wrap (d*e)+a)).toNat (u8.wrap P),M,z,A,p,q,r) else none)))))) else b (f,u,v,w,x,y,h,i,j,k,l,m,n,o)
def iP (fuel:Nat) (v:Int×Int×Int×Int×Int×Int×Int×Int×Int×Int×Int×Int×Bool×Bool×(List Int)×(List (Int×Int))×(List Int)×(List Int)×Int×Int×(List Int)) (c:(Int×Int×Int×Int×Int×Int×Int×Int×Int×Int×Int×Int×Bool×Bool×(List Int)×(List (Int×Int))×(List Int)×(List Int)×Int×Int×(List Int))→Option Ans) (B:(Int×Int×Int×Int×Int×Int×Int×Int×Int×Bool×Bool×(List Int)×(List (Int×Int))×(List Int)×(List Int)→Option Ans)×(Int×Int×Int×Int×Int×Int×Int×Int×Bool×Bool×(List Int)×(List (Int×Int))×(List Int)×(List Int)→Option Ans)):Option Ans:=match v with | (m,n,o,p,q,r,s,t,u,w,a,b,d,e,f,g,h,i,j,k,l)=>rv fuel (av fuel) (aa fuel) (af fuel) (du fuel) (dG fuel) m n o p q r s t u w a b d e f g h i j k l c B
def lz (fuel:Nat) (v:ni) (ret:(Int×Int×Int×Int×Int×Int×Int×Int×Int×Bool×Bool×(List Int)×(List (Int×Int))×(List Int)×(List Int)→Option Ans)) (b:(Int×Int×Int×Int×Int×Int×Int×Int×Bool×Bool×(List Int)×(List (Int×Int))×(List Int)×(List Int)→Option Ans)):Option Ans:=iter (iP fuel) fuel v (ret,b)
def oE (v:ni):Ev.St:=match v with | (m,n,o,p,q,r,s,t,u,w,a,b,d,e,f,g,h,i,j,k,l)=>⟨[(0,.c (.ptr 0 0)),(1,.c (.ptr 1 0)),(2,.c (i6 m)),(4,.c (i6 n)),(11,.c (.ptr 6 0)),(53,.c (i6 o)),(54,.c (i6 p))],[(0,.cells 240 [i6 q,i6 r,.own 2,.own 3]),(1,.cells 147 (i6 s::.own 4::ctb (.int .u64 t::.int .u64 u::.own 5::i6 w::.int .u64 a::i6 b::.bool d::.bool e::[]))),(2,.vec 5 (.int .u8) f false),(3,.vec 22 (.pair (.int .i64) (.int .i64)) g false),(4,.vec 3 (.int .i64) h false),(5,.vec 5 (.int .u8) i false),(6,.cells 29 [i6 j,i6 k,.sl (.int .u8) l])],7,6⟩
def tw (K:KT):vE:=((fun v=>match v with | (f,g,h,i,j,k,l,m,n,o,a,b,d,e,p)=>K .ret ⟨[(12,.c (i6 f))],[(0,.cells 240 [i6 g,i6 h,.own 2,.own 3]),(1,.cells 147 (i6 i::.own 4::ctb (.int .u64 j::.int .u64 k::.own 5::i6 l::.int .u64 m::i6 n::.bool o::.bool a::[]))),(2,.vec 5 (.int .u8) b false),(3,.vec 22 (.pair (.int .i64) (.int .i64)) d false),(4,.vec 3 (.int .i64) e false),(5,.vec 5 (.int .u8) p false)],6,6⟩),(fun v=>match v with | (f,g,h,i,j,k,l,m,n,o,a,b,d,e)=>K .normal ⟨[],[(0,.cells 240 [i6 f,i6 g,.own 2,.own 3]),(1,.cells 147 (i6 h::.own 4::ctb (.int .u64 i::.int .u64 j::.own 5::i6 k::.int .u64 l::i6 m::.bool n::.bool o::[]))),(2,.vec 5 (.int .u8) a false),(3,.vec 22 (.pair (.int .i64) (.int .i64)) b false),(4,.vec 3 (.int .i64) d false),(5,.vec 5 (.int .u8) e false)],6,6⟩))
theorem AB (fuel:Nat) (d:aw) (a:ac) (e:aj) (b:dO) (c:eD) (R:Ev.St→OA) (K:KT) (q r:Int) (s t:Int) (u w:Int) (x y:Int) (z A:Int) (f g:Int) (h i:Bool) (j:LI) (k:(List (Int×Int))) (l m:LI) (n o:Int) (p:LI):evalCode tab (tY d a e b c) J0 gV fuel (bodyOf 0 Tryz.f184) (oE (q,r,s,t,u,w,x,y,z,A,f,g,h,i,j,k,l,m,n,o,p)) (lc gV 9 0 R K)=rv fuel d a e b c q r s t u w x y z A f g h i j k l m n o p (fun v=>R (oE v)) (tw K):=by
  kernel_rfl
def lV (fuel:Nat):Ev.Blk:=fun st K=>match canonO (gV 9) st with | some s=>(match s with | ⟨[(M,.c (.ptr N O)),(P,.c (.ptr Q R)),(S,.c (i6 T)),(U,.c (i6 V)),(W,.c (.ptr X a)),(b,.c (i6 Y)),(d,.c (i6 a0))],[(e,.cells f [i6 a1,i6 a2,.own g,.own h]),(i,.cells j k),(l,.vec m (.int .u8) n false),(o,.vec p (.pair (.int .i64) (.int .i64)) q false),(r,.vec t (.int .i64) u false),(v,.vec w (.int .u8) x false),(y,.cells z [i6 A,i6 B,.sl (.int .u8) C])],D,E⟩=>(match splitRun 2 ctn k with | some ([i6 a3,.own F],[.int .u64 a4,.int .u64 a5,.own G,i6 a6,.int .u64 H,i6 I,.bool J,.bool L])=>bif qb [M,N,O,P,Q,R,S,U,W,X,a,b,d,e,f,g,h,i,j,l,m,o,p,r,t,v,w,y,z,D,E,F,G] [0,0,0,1,1,0,2,4,11,6,0,53,54,0,240,2,3,1,147,2,5,3,22,4,3,5,5,6,29,7,6,4,5] then iter (iP fuel) fuel (T,V,Y,a0,a1,a2,a3,a4,a5,a6,H,I,J,L,n,q,u,x,A,B,C) (tw K) else none | _=>none) | _=>none) | none=>none
theorem Cj (fuel:Nat) (st:Ev.St) (K:KT) (r:Ans) (h:lV fuel st K=some r):evalCode tab (vG fuel) J0 gV fuel (.block 0 (.loop (bodyOf 0 Tryz.f184))) st K=some r:=by
  unfold lV at h
  split at h
  · rename_i s hs
    split at h
    · skip
      split at h
      rotate_left 1
      · cases h
      rename_i hsp
      have esp:=splitRun_eq hsp
      subst esp
      obtain ⟨hb,h⟩:=cond_some' h
      cases qb_eq hb
      exact blk_loop (S:=oE) (ks:=tw) (step:=iP fuel) (v:=(_,_,_,_,_,_,_,_,_,_,_,_,_,_,_,_,_,_,_,_,_)) (by kernel_rfl) (by kernel_rfl) (fun R K v=>by obtain ⟨m,n,o,p,q,t,u,w,x,y,a,b,c,d,e,f,g,i,j,k,l⟩:=v; exact AB fuel (av fuel) (aa fuel) (af fuel) (du fuel) (dG fuel) R K m n o p q t u w x y a b c d e f g i j k l) hs h
    · cases h
  · cases h
def Ja (fuel:Nat) (i:Nat):Option Ev.Blk:=Ev.look i [(100000,lV fuel)]
def pV (fuel:Nat) (b6:aw) (a6:ac) (c4:aj) (w:dO) (c3:eD) (N b8:Int) (b9 c0:Int) (a5:Bool) (c1 a:Int) (t u:Int) (v:LI) (b p:Int) (U V:Int) (W X:Int) (Y a0:Int) (a1 a2:Bool) (e:LI) (q:(List (Int×Int))) (a3 a4:LI) (k0:(Int×Int×Int×Int×Int×Int×Int×Int×Int×Bool×Bool×LI×(List (Int×Int))×LI×LI)→OA):OA:=bif a5 then (b6 b8 b9 c0 a5 c1 (fun c2=>(a6 (i64.wrap (N+c2)) U V W X Y a0 a1 a2 a3 a4 (fun (b7,T,h,i,j,k,l,m,n,o,f,g)=>bif T != 0 then k0 (T,b,p,h,i,j,k,l,m,n,o,e,q,f,g) else bif b7==1 then both (both (bif decide (0≤Ev.loOf (some (i64.wrap (a*b)))∧Ev.loOf (some (i64.wrap (a*b)))≤Ev.hiOf Option.none (↑e.length:Int)∧Ev.hiOf Option.none (↑e.length:Int)≤(↑e.length:Int)) then (w a t u v b p e q (fun (a7,a8,O,a9,P)=>k0 ((0:Int),a7,a8,h,i,j,k,l,m,n,o,List.take (Ev.loOf (some (i64.wrap (a*b)))).toNat O++List.take (Ev.hiOf Option.none (↑e.length:Int) - Ev.loOf (some (i64.wrap (a*b)))).toNat P++List.drop ((Ev.loOf (some (i64.wrap (a*b)))).toNat+Min.min (Ev.hiOf Option.none (↑e.length:Int) - Ev.loOf (some (i64.wrap (a*b)))).toNat P.length) O,a9,f,g))) else none) ((w a t u v b p e q (fun (c,x,d,y,r)=>bif decide (0≤Ev.loOf (some (i64.wrap (a*c)))∧Ev.loOf (some (i64.wrap (a*c)))≤Ev.hiOf Option.none (↑d.length:Int)∧Ev.hiOf Option.none (↑d.length:Int)≤(↑d.length:Int)) then k0 ((0:Int),c,x,h,i,j,k,l,m,n,o,List.take (Ev.loOf (some (i64.wrap (a*c)))).toNat d++List.take (Ev.hiOf Option.none (↑d.length:Int) - Ev.loOf (some (i64.wrap (a*c)))).toNat r++List.drop ((Ev.loOf (some (i64.wrap (a*c)))).toNat+Min.min (Ev.hiOf Option.none (↑d.length:Int) - Ev.loOf (some (i64.wrap (a*c)))).toNat r.length) d,y,f,g) else none)))) (both (both (bif decide (0≤Ev.loOf (some (i64.wrap (a*b)))∧Ev.loOf (some (i64.wrap (a*b)))≤Ev.hiOf Option.none (↑e.length:Int)∧Ev.hiOf Option.none (↑e.length:Int)≤(↑e.length:Int)) then (w a t u v b p e q (fun (b0,b1,Q,b2,R)=>k0 ((0:Int),b0,b1,h,i,j,k,l,m,n,o,List.take (Ev.loOf (some (i64.wrap (a*b)))).toNat Q++List.take (Ev.hiOf Option.none (↑e.length:Int) - Ev.loOf (some (i64.wrap (a*b)))).toNat R++List.drop ((Ev.loOf (some (i64.wrap (a*b)))).toNat+Min.min (Ev.hiOf Option.none (↑e.length:Int) - Ev.loOf (some (i64.wrap (a*b)))).toNat R.length) Q,b2,f,g))) else none) ((w a t u v b p e q (fun (b3,b4,s,b5,S)=>bif decide (0≤Ev.loOf (some (i64.wrap (a*b)))∧Ev.loOf (some (i64.wrap (a*b)))≤Ev.hiOf Option.none (↑s.length:Int)∧Ev.hiOf Option.none (↑s.length:Int)≤(↑s.length:Int)) then k0 ((0:Int),b3,b4,h,i,j,k,l,m,n,o,List.take (Ev.loOf (some (i64.wrap (a*b)))).toNat s++List.take (Ev.hiOf Option.none (↑s.length:Int) - Ev.loOf (some (i64.wrap (a*b)))).toNat S++List.drop ((Ev.loOf (some (i64.wrap (a*b)))).toNat+Min.min (Ev.hiOf Option.none (↑s.length:Int) - Ev.loOf (some (i64.wrap (a*b)))).toNat S.length) s,b5,f,g) else none)))) ((w a t u v b p e q (fun (c,x,d,y,r)=>both (bif decide (0≤Ev.loOf (some (i64.wrap (a*c)))∧Ev.loOf (some (i64.wrap (a*c)))≤Ev.hiOf Option.none (↑d.length:Int)∧Ev.hiOf Option.none (↑d.length:Int)≤(↑d.length:Int)) then k0 ((0:Int),c,x,h,i,j,k,l,m,n,o,List.take (Ev.loOf (some (i64.wrap (a*c)))).toNat d++List.take (Ev.hiOf Option.none (↑d.length:Int) - Ev.loOf (some (i64.wrap (a*c)))).toNat r++List.drop ((Ev.loOf (some (i64.wrap (a*c)))).toNat+Min.min (Ev.hiOf Option.none (↑d.length:Int) - Ev.loOf (some (i64.wrap (a*c)))).toNat r.length) d,y,f,g) else none) (bif decide (0≤Ev.loOf (some (i64.wrap (a*c)))∧Ev.loOf (some (i64.wrap (a*c)))≤Ev.hiOf Option.none (↑d.length:Int)∧Ev.hiOf Option.none (↑d.length:Int)≤(↑d.length:Int)) then k0 ((0:Int),c,x,h,i,j,k,l,m,n,o,List.take (Ev.loOf (some (i64.wrap (a*c)))).toNat d++List.take (Ev.hiOf Option.none (↑d.length:Int) - Ev.loOf (some (i64.wrap (a*c)))).toNat r++List.drop ((Ev.loOf (some (i64.wrap (a*c)))).toNat+Min.min (Ev.hiOf Option.none (↑d.length:Int) - Ev.loOf (some (i64.wrap (a*c)))).toNat r.length) d,y,f,g) else none))))) else (lz fuel (N,a,b,0,b,p,h,i,j,k,l,m,n,o,e,q,f,g,t,u,v) (fun (ret0_0,ret0_1,ret0_2,ret0_3,ret0_4,ret0_5,ret0_6,ret0_7,ret0_8,ret0_9,ret0_10,ret0_11,ret0_12,ret0_13,ret0_14)=>k0 (ret0_0,ret0_1,ret0_2,ret0_3,ret0_4,ret0_5,ret0_6,ret0_7,ret0_8,ret0_9,ret0_10,ret0_11,ret0_12,ret0_13,ret0_14)) (fun (D,E,F,G,H,I,J,K,L,M,z,A,B,C)=>k0 (0,D,E,F,G,H,I,J,K,L,M,z,A,B,C))))))) else (lz fuel (N,a,b,0,b,p,U,V,W,X,Y,a0,a1,a2,e,q,a3,a4,t,u,v) (fun (ret0_0,ret0_1,ret0_2,ret0_3,ret0_4,ret0_5,ret0_6,ret0_7,ret0_8,ret0_9,ret0_10,ret0_11,ret0_12,ret0_13,ret0_14)=>k0 (ret0_0,ret0_1,ret0_2,ret0_3,ret0_4,ret0_5,ret0_6,ret0_7,ret0_8,ret0_9,ret0_10,ret0_11,ret0_12,ret0_13,ret0_14)) (fun (D,E,F,G,H,I,J,K,L,M,z,A,B,C)=>k0 (0,D,E,F,G,H,I,J,K,L,M,z,A,B,C)))
abbrev dI:Type:=Int→Int→Int→Int→Bool→Int→Int→Int→Int→LI→Int→Int→Int→Int→Int→Int→Int→Int→Bool→Bool→LI→((List (Int×Int)))→LI→LI→((Int×Int×Int×Int×Int×Int×Int×Int×Int×Bool×Bool×LI×(List (Int×Int))×LI×LI)→Option Ans)→Option Ans
def dj (fuel:Nat):dI:=pV fuel (av fuel) (aa fuel) (af fuel) (du fuel) (dG fuel)
theorem GI (fuel:Nat) (e:aw) (a:ac) (f:aj) (b:dO) (d:eD) (w x:Int) (y z:Int) (A:Bool) (B C:Int) (D E:Int) (F:LI) (g h:Int) (i j:Int) (l m:Int) (n o:Int) (p q:Bool) (s:LI) (t:(List (Int×Int))) (u v:LI) (k:Ev.Cont):evalFn tab (tY e a f b d) (Ja fuel) gV fuel Tryz.f184 [.c (.ptr 0 0),.c (.ptr 1 0),.c (i6 w),.agg [i6 x,i6 y,i6 z,.bool A,i6 B],.c (i6 C),.agg [i6 D,i6 E,.sl (.int .u8) F]] [.cells 240 [i6 g,i6 h,.own 2,.own 3],.cells 147 (i6 i::.own 4::ctb (.int .u64 j::.int .u64 l::.own 5::i6 m::.int .u64 n::i6 o::.bool p::.bool q::[])),.vec 5 (.int .u8) s false,.vec 22 (.pair (.int .i64) (.int .i64)) t false,.vec 3 (.int .i64) u false,.vec 5 (.int .u8) v false] k=pV fuel e a f b d w x y z A B C D E F g h i j l m n o p q s t u v (fun r=>match r with | (L,M,N,O,P,Q,R,S,T,U,G,H,I,J,K)=>k (.c (i6 L),[.cells 240 [i6 M,i6 N,.own 2,.own 3],.cells 147 (i6 O::.own 4::ctb (.int .u64 P::.int .u64 Q::.own 5::i6 R::.int .u64 S::i6 T::.bool U::.bool G::[])),.vec 5 (.int .u8) H false,.vec 22 (.pair (.int .i64) (.int .i64)) I false,.vec 3 (.int .i64) J false,.vec 5 (.int .u8) K false])):=by
  kernel_rfl
theorem yb (fuel:Nat):GOK Tryz.prog (vG fuel):=
  gc (kA fuel) Tryz.func129 (by kernel_rfl) rfl <|
  gc (cA fuel) Tryz.func143 (by kernel_rfl) rfl <|
  gc (gm fuel) Tryz.func195 (by kernel_rfl) rfl <|
  gc (Ff fuel) Tryz.func197 (by kernel_rfl) rfl <|
  gc (GX fuel) Tryz.func198 (by kernel_rfl) rfl <|
  gok_nil
theorem Gp (fuel:Nat):BlkOK Tryz.prog Tryz.f184.ntmps (.block 0 (.loop (bodyOf 0 Tryz.f184))) (lV fuel):=bo0 (yb fuel) (by kernel_rfl) (by kernel_rfl) (Cj fuel)
def ma (F:dI):Ev.Spec:=fun args objs k=>match args,objs with | [.c (.ptr B C),.c (.ptr D E),.c (i6 G),.agg [i6 H,i6 I,i6 J,.bool K,i6 L],.c (i6 M),.agg [i6 N,i6 O,.sl (.int .u8) P]],[.cells Q [i6 a,i6 b,.own R,.own S],.cells T d,.vec U (.int .u8) e false,.vec V (.pair (.int .i64) (.int .i64)) f false,.vec g (.int .i64) h false,.vec i (.int .u8) j false]=>(match splitRun 2 ctn d with | some ([i6 l,.own m],[.int .u64 n,.int .u64 o,.own p,i6 q,.int .u64 s,i6 t,.bool u,.bool v])=>bif qb [B,C,D,E,Q,R,S,T,U,V,g,i,m,p] [0,0,1,0,240,2,3,147,5,22,3,5,4,5] then F G H I J K L M N O P a b l n o q s t u v e f h j (fun r=>match r with | (W,X,Y,a0,a1,a2,a3,a4,a5,a6,w,x,y,z,A)=>k (.c (i6 W),[.cells 240 [i6 X,i6 Y,.own 2,.own 3],.cells 147 (i6 a0::.own 4::ctb (.int .u64 a1::.int .u64 a2::.own 5::i6 a3::.int .u64 a4::i6 a5::.bool a6::.bool w::[])),.vec 5 (.int .u8) x false,.vec 22 (.pair (.int .i64) (.int .i64)) y false,.vec 3 (.int .i64) z false,.vec 5 (.int .u8) A false])) else none | _=>none) | _,_=>none
theorem zD (fuel:Nat):FnOK Tryz.prog 184 (ma (dj fuel)):=by
  intro args objs kk r h
  unfold ma at h
  split at h
  · skip
    split at h
    rotate_left 1
    · cases h
    rename_i hsp
    have esp:=splitRun_eq hsp
    subst esp
    obtain ⟨hb,h⟩:=cond_some' h
    cases qb_eq hb
    exact fo1 (yb fuel) Tryz.func184 rfl (Gp fuel) (by kernel_rfl) _ _ kk r ((GI fuel (av fuel) (aa fuel) (af fuel) (du fuel) (dG fuel) _ _ _ _ _ _ _ _ _ _ _ _ _ _ _ _ _ _ _ _ _ _ _ _ kk).trans h)
  · cases h
def CE (i:Nat):Option (List Nat):=Ev.look i []
def Bo (f:Nat):Option Ev.Spec:=Ev.look f []
def wV (fuel:Nat):Nat→Option Ev.Spec:=Bo
def aK (fuel:Nat) (a b:Int) (e:(List Int)) (c d:Int) (k0:(Bool)→Option Ans):Option Ans:=bif a==0 then bif b==0 then k0 true else bif a==c then k0 (b==d) else k0 false else bif a==c then k0 (b==d) else k0 false
abbrev bc:Type:=Int→Int→LI→Int→Int→(Bool→Option Ans)→Option Ans
theorem zR (fuel:Nat) (a b:Int) (d:LI) (e f:Int) (k:Ev.Cont):evalFn tab (wV fuel) J0 CE fuel Tryz.f170 [.agg [i6 a,i6 b,.sl (.int .u8) d],.c (i6 e),.c (i6 f)] [] k=aK fuel a b d e f (fun r=>match r with | g=>k (.c (.bool g),[])):=by
  kernel_rfl
theorem F6 (fuel:Nat):GOK Tryz.prog (wV fuel):=
  gok_nil
def hZ (F:bc):Ev.Spec:=fun args objs k=>match args,objs with | [.agg [i6 a,i6 b,.sl (.int .u8) d],.c (i6 e),.c (i6 f)],[]=>F a b d e f (fun r=>match r with | g=>k (.c (.bool g),[])) | _,_=>none
theorem sT (fuel:Nat):FnOK Tryz.prog 170 (hZ (aK fuel)):=by
  intro args objs kk r h
  unfold hZ at h
  split at h
  · skip
    exact fo0 (F6 fuel) Tryz.func170 rfl (by kernel_rfl) _ _ kk r ((zR fuel _ _ _ _ _ kk).trans h)
  · cases h
def hC (i:Nat):Option (List Nat):=Ev.look i [(13,[0,1,3,4,8,11,12,18,66,67]),(100000,[3,4,12,18]),(200009,[8,11]),(400000,[12,13]),(600000,[])]
def ua (c:am) (j:ao) (d:aU) (a:ac) (e:bc) (g:bX) (h:bv) (i:bi) (b:dI) (f:Nat):Option Ev.Spec:=Ev.look f [(40,eA c),(90,dH j),(128,fw d),(143,bW a),(170,hZ e),(171,ld g),(182,kh h),(183,ln i),(184,ma b)]
def xJ (fuel:Nat):Nat→Option Ev.Spec:=ua (ah fuel) (ai fuel) (aE fuel) (aa fuel) (aK fuel) (bO fuel) (aL fuel) (aW fuel) (dj fuel)
abbrev ug:Type:=Int×Int×Int×Int×Int×Int×Int×Int×Int×Int×Int×Bool×Bool×LI×LI×Int×Int×Int×Bool×Int×Int×Int×LI×Int×Int×Int×Int×LI×LI×(List (Int×Int))
abbrev yn:Type:=(Int×Int×Int×Int×Int×Int×Int×Bool×Bool×LI×LI×Int×Int×LI→OA)×(Int×Int×Int×Int×Int×Int×Int×Int×Bool×Bool×LI×LI×Int×Int×Int×Int×LI×LI×(List (Int×Int))→OA)
def pg (fuel:Nat) (Y:am) (a5:ao) (a0:aU) (X:ac) (a1:bc) (a2:bX) (a3:bv) (a4:bi) (S:dI) (J K:Int) (L M:Int) (a N:Int) (O P:Int) (Q R o:Int) (p q:Bool) (r s:LI) (t u v:Int) (w:Bool) (x y z:Int) (A:LI) (C D:Int) (E F:Int) (G H:LI) (I:(List (Int×Int))) (c:ug→OA) (B:yn):OA:=match B with | (ret,b)=>bif decide (a < M) then (S J t u v w x a y z A E F N O P Q R o p q H I r s (fun (g,V,W,h,i,j,k,l,m,n,d,T,U,e,f)=>bif g != 0 then ret (g,h,i,j,k,l,m,n,d,e,f,0,0,[]) else c (J,K,L,M,i64.wrap (a+1),h,i,j,k,l,m,n,d,e,f,t,u,v,w,x,y,z,A,C,D,V,W,G,T,U))) else b (K,L,N,O,P,Q,R,o,p,q,r,s,C,D,E,F,G,H,I)
def iq (fuel:Nat) (v:Int×Int×Int×Int×Int×Int×Int×Int×Int×Int×Int×Bool×Bool×(List Int)×(List Int)×Int×Int×Int×Bool×Int×Int×Int×(List Int)×Int×Int×Int×Int×(List Int)×(List Int)×(List (Int×Int))) (c:(Int×Int×Int×Int×Int×Int×Int×Int×Int×Int×Int×Bool×Bool×(List Int)×(List Int)×Int×Int×Int×Bool×Int×Int×Int×(List Int)×Int×Int×Int×Int×(List Int)×(List Int)×(List (Int×Int)))→Option Ans) (B:(Int×Int×Int×Int×Int×Int×Int×Bool×Bool×(List Int)×(List Int)×Int×Int×(List Int)→Option Ans)×(Int×Int×Int×Int×Int×Int×Int×Int×Bool×Bool×(List Int)×(List Int)×Int×Int×Int×Int×(List Int)×(List Int)×(List (Int×Int))→Option Ans)):Option Ans:=match v with | (w,x,y,z,A,C,D,E,F,G,a,b,d,e,f,g,h,i,j,k,l,m,n,o,p,q,r,s,t,u)=>pg fuel (ah fuel) (ai fuel) (aE fuel) (aa fuel) (aK fuel) (bO fuel) (aL fuel) (aW fuel) (dj fuel) w x y z A C D E F G a b d e f g h i j k l m n o p q r s t u c B
def yY (fuel:Nat) (v:ug) (ret:(Int×Int×Int×Int×Int×Int×Int×Bool×Bool×(List Int)×(List Int)×Int×Int×(List Int)→Option Ans)) (b:(Int×Int×Int×Int×Int×Int×Int×Int×Bool×Bool×(List Int)×(List Int)×Int×Int×Int×Int×(List Int)×(List Int)×(List (Int×Int))→Option Ans)):Option Ans:=iter (iq fuel) fuel v (ret,b)
def uD (v:ug):Ev.St:=match v with | (w,x,y,z,A,B,C,D,E,F,a,b,d,e,f,g,h,i,j,k,l,m,n,o,p,q,r,s,t,u)=>⟨[(0,.c (.ptr 0 0)),(1,.c (i6 w)),(3,.c (i6 x)),(4,.c (i6 y)),(8,.c (.ptr 3 0)),(11,.c (.ptr 4 0)),(12,.c (.ptr 5 0)),(18,.c (.ptr 6 0)),(66,.c (i6 z)),(67,.c (i6 A))],[(0,.cells 147 (i6 B::.own 1::ctb (.int .u64 C::.int .u64 D::.own 2::i6 E::.int .u64 F::i6 a::.bool b::.bool d::[]))),(1,.vec 3 (.int .i64) e false),(2,.vec 5 (.int .u8) f false),(3,.cells 24 [i6 g,i6 h,i6 i,.bool j,i6 k]),(4,.cells 29 [i6 l,i6 m,.sl (.int .u8) n]),(5,.cells 29 [i6 o,i6 p,.own 7]),(6,.cells 240 [i6 q,i6 r,.own 8,.own 9]),(7,.vec 5 (.int .u8) s true),(8,.vec 5 (.int .u8) t true),(9,.vec 22 (.pair (.int .i64) (.int .i64)) u true)],10,3⟩
def mS (K:KT):yn:=((fun v=>match v with | (f,g,h,i,j,k,l,m,n,o,a,b,d,e)=>K .ret ⟨[(12,.c (.ptr 3 0)),(13,.c (i6 f))],[(0,.cells 147 (i6 g::.own 1::ctb (.int .u64 h::.int .u64 i::.own 2::i6 j::.int .u64 k::i6 l::.bool m::.bool n::[]))),(1,.vec 3 (.int .i64) o false),(2,.vec 5 (.int .u8) a false),(3,.cells 29 [i6 b,i6 d,.own 4]),(4,.vec 5 (.int .u8) e true)],5,3⟩),(fun v=>match v with | (f,g,h,i,j,k,l,m,n,o,a,b,d,e,p,q,r,s,t)=>K .normal ⟨[(3,.c (i6 f)),(4,.c (i6 g)),(12,.c (.ptr 3 0)),(18,.c (.ptr 4 0))],[(0,.cells 147 (i6 h::.own 1::ctb (.int .u64 i::.int .u64 j::.own 2::i6 k::.int .u64 l::i6 m::.bool n::.bool o::[]))),(1,.vec 3 (.int .i64) a false),(2,.vec 5 (.int .u8) b false),(3,.cells 29 [i6 d,i6 e,.own 5]),(4,.cells 240 [i6 p,i6 q,.own 6,.own 7]),(5,.vec 5 (.int .u8) r true),(6,.vec 5 (.int .u8) s true),(7,.vec 22 (.pair (.int .i64) (.int .i64)) t true)],8,3⟩))
theorem Ii (fuel:Nat) (c:am) (i:ao) (d:aU) (a:ac) (e:bc) (f:bX) (g:bv) (h:bi) (b:dI) (R:Ev.St→OA) (K:KT) (E F:Int) (G H:Int) (I J:Int) (L M:Int) (N O j:Int) (k l:Bool) (m n:LI) (o p q:Int) (r:Bool) (s t u:Int) (w:LI) (x y:Int) (z A:Int) (B C:LI) (D:(List (Int×Int))):evalCode tab (ua c i d a e f g h b) J0 hC fuel (bodyOf 0 Tryz.f144) (uD (E,F,G,H,I,J,L,M,N,O,j,k,l,m,n,o,p,q,r,s,t,u,w,x,y,z,A,B,C,D)) (lc hC 13 0 R K)=pg fuel c i d a e f g h b E F G H I J L M N O j k l m n o p q r s t u w x y z A B C D (fun v=>R (uD v)) (mS K):=by
  kernel_rfl
def lI (fuel:Nat):Ev.Blk:=fun st K=>match canonO (hC 13) st with | some s=>(match s with | ⟨[(b0,.c (.ptr b1 b2)),(b3,.c (i6 b4)),(b5,.c (i6 b6)),(b7,.c (i6 b8)),(b9,.c (.ptr c0 c1)),(c2,.c (.ptr a b)),(d,.c (.ptr e f)),(g,.c (.ptr h i)),(j,.c (i6 c3)),(k,.c (i6 c4))],[(l,.cells m n),(o,.vec p (.int .i64) q false),(r,.vec t (.int .u8) u false),(v,.cells w [i6 x,i6 y,i6 z,.bool A,i6 B]),(C,.cells D [i6 E,i6 F,.sl (.int .u8) G]),(H,.cells I [i6 J,i6 L,.own M]),(N,.cells O [i6 P,i6 Q,.own R,.own S]),(T,.vec U (.int .u8) V true),(W,.vec X (.int .u8) Y true),(a0,.vec a1 (.pair (.int .i64) (.int .i64)) a2 true)],a3,a4⟩=>(match splitRun 2 ctn n with | some ([i6 c5,.own a5],[.int .u64 c6,.int .u64 c7,.own a6,i6 c8,.int .u64 c9,i6 a7,.bool a8,.bool a9])=>bif qb [b0,b1,b2,b3,b5,b7,b9,c0,c1,c2,a,b,d,e,f,g,h,i,j,k,l,m,o,p,r,t,v,w,C,D,H,I,M,N,O,R,S,T,U,W,X,a0,a1,a3,a4,a5,a6] [0,0,0,1,3,4,8,3,0,11,4,0,12,5,0,18,6,0,66,67,0,147,1,3,2,5,3,24,4,29,5,29,7,6,240,8,9,7,5,8,5,9,22,10,3,1,2] then iter (iq fuel) fuel (b4,b6,b8,c3,c4,c5,c6,c7,c8,c9,a7,a8,a9,q,u,x,y,z,A,B,E,F,G,J,L,P,Q,V,Y,a2) (mS K) else none | _=>none) | _=>none) | none=>none
theorem EO (fuel:Nat) (st:Ev.St) (K:KT) (r:Ans) (h:lI fuel st K=some r):evalCode tab (xJ fuel) J0 hC fuel (.block 0 (.loop (bodyOf 0 Tryz.f144))) st K=some r:=by
  unfold lI at h
  split at h
  · rename_i s hs
    split at h
    · skip
      split at h
      rotate_left 1
      · cases h
      rename_i hsp
      have esp:=splitRun_eq hsp
      subst esp
      obtain ⟨hb,h⟩:=cond_some' h
      cases qb_eq hb
      exact blk_loop (S:=uD) (ks:=mS) (step:=iq fuel) (v:=(_,_,_,_,_,_,_,_,_,_,_,_,_,_,_,_,_,_,_,_,_,_,_,_,_,_,_,_,_,_)) (by kernel_rfl) (by kernel_rfl) (fun R K v=>by obtain ⟨y,z,A,B,C,D,E,F,G,H,a,b,c,d,e,f,g,i,j,k,l,m,n,o,p,q,t,u,w,x⟩:=v; exact Ii fuel (ah fuel) (ai fuel) (aE fuel) (aa fuel) (aK fuel) (bO fuel) (aL fuel) (aW fuel) (dj fuel) R K y z A B C D E F G H a b c d e f g i j k l m n o p q t u w x) hs h
    · cases h
  · cases h
def H2 (fuel:Nat) (i:Nat):Option Ev.Blk:=Ev.look i [(100000,lI fuel)]
def nI (fuel:Nat) (H:am) (a8:ao) (S:aU) (G:ac) (T:bc) (U:bX) (V:bv) (W:bi) (c3:dI) (F l:Int) (m n:Int) (o:Bool) (p q:Int) (k s t:Int) (r:LI) (a9 b0:Int) (b1 b2:Int) (b3 b4:Int) (b5 b6:Bool) (b7 b8:LI) (k0:(Int×Int×LI×Int×Int×Int×Int×Int×Int×Int×Bool×Bool×LI×LI)→OA):OA:=(G ((-1:Int)) a9 b0 b1 b2 b3 b4 b5 b6 b7 b8 (fun (d3,E,c,d,e,f,g,h,i,j,a,b)=>bif E==7 then k0 (0,0,[],E,c,d,e,f,g,h,i,j,a,b) else (S l m n o p (fun c2=>bif !c2 then k0 (0,0,[],2,c,d,e,f,g,h,i,j,a,b) else (V q k (0) (fun (c4,c5,J,c6)=>bif J != 0 then k0 (0,0,[],30,c,d,e,f,g,h,i,j,a,b) else (a8 s t r (fun b9=>bif !b9 then k0 (0,0,[],30,c,d,e,f,g,h,i,j,a,b) else (T s t r q k (fun c0=>bif !c0 then k0 (0,0,[],2,c,d,e,f,g,h,i,j,a,b) else (H c d e f g h i j a b (fun (K,v,w,x,y,z,A,B,C,D,u,I)=>(U K I F l m n o p (fun c1=>bif !c1 then k0 (0,0,[],2,v,w,x,y,z,A,B,C,D,u) else (W l m n o p q k (fun (L,M,N,O)=>(yY fuel (F,q,k,k,0,v,w,x,y,z,A,B,C,D,u,l,m,n,o,p,s,t,r,0,0,L,M,[],N,O) (fun (ret0_0,ret0_1,ret0_2,ret0_3,ret0_4,ret0_5,ret0_6,ret0_7,ret0_8,ret0_9,ret0_10,ret0_11,ret0_12,ret0_13)=>k0 (ret0_11,ret0_12,ret0_13,ret0_0,ret0_1,ret0_2,ret0_3,ret0_4,ret0_5,ret0_6,ret0_7,ret0_8,ret0_9,ret0_10)) (fun (X,Y,a0,a1,a2,a3,a4,a5,a6,a7,P,Q,c7,c8,c9,d0,d1,R,d2)=>k0 (X,Y,R,0,a0,a1,a2,a3,a4,a5,a6,a7,P,Q)))))))))))))))))))
abbrev le:Type:=Int→Int→Int→Int→Bool→Int→Int→Int→Int→Int→LI→Int→Int→Int→Int→Int→Int→Bool→Bool→LI→LI→((Int×Int×LI×Int×Int×Int×Int×Int×Int×Int×Bool×Bool×LI×LI)→Option Ans)→Option Ans
def dY (fuel:Nat):le:=nI fuel (ah fuel) (ai fuel) (aE fuel) (aa fuel) (aK fuel) (bO fuel) (aL fuel) (aW fuel) (dj fuel)
theorem Ai (fuel:Nat) (d:am) (j:ao) (e:aU) (a:ac) (f:bc) (g:bX) (h:bv) (i:bi) (b:dI) (x y:Int) (z A:Int) (B:Bool) (C D:Int) (E F G:Int) (l:LI) (m n:Int) (o p:Int) (q s:Int) (t u:Bool) (v w:LI) (k:Ev.Cont):evalFn tab (ua d j e a f g h i b) (H2 fuel) hC fuel Tryz.f144 [.c (.ptr 0 0),.c (i6 x),.agg [i6 y,i6 z,i6 A,.bool B,i6 C],.c (i6 D),.c (i6 E),.agg [i6 F,i6 G,.sl (.int .u8) l]] [.cells 147 (i6 m::.own 1::ctb (.int .u64 n::.int .u64 o::.own 2::i6 p::.int .u64 q::i6 s::.bool t::.bool u::[])),.vec 3 (.int .i64) v false,.vec 5 (.int .u8) w false] k=nI fuel d j e a f g h i b x y z A B C D E F G l m n o p q s t u v w (fun r=>match r with | (L,M,N,O,P,Q,R,S,T,U,H,I,J,K)=>k (.tup [(true,[i6 L,i6 M,.sl (.int .u8) N]),(false,[i6 O])],[.cells 147 (i6 P::.own 1::ctb (.int .u64 Q::.int .u64 R::.own 2::i6 S::.int .u64 T::i6 U::.bool H::.bool I::[])),.vec 3 (.int .i64) J false,.vec 5 (.int .u8) K false])):=by
  kernel_rfl
theorem za (fuel:Nat):GOK Tryz.prog (xJ fuel):=
  gc (eT fuel) Tryz.func40 (by kernel_rfl) rfl <|
  gc (gG fuel) Tryz.func90 (by kernel_rfl) rfl <|
  gc (lQ fuel) Tryz.func128 (by kernel_rfl) rfl <|
  gc (cA fuel) Tryz.func143 (by kernel_rfl) rfl <|
  gc (sT fuel) Tryz.func170 (by kernel_rfl) rfl <|
  gc (yv fuel) Tryz.func171 (by kernel_rfl) rfl <|
  gc (ze fuel) Tryz.func182 (by kernel_rfl) rfl <|
  gc (yl fuel) Tryz.func183 (by kernel_rfl) rfl <|
  gc (zD fuel) Tryz.func184 (by kernel_rfl) rfl <|
  gok_nil
theorem Jt (fuel:Nat):BlkOK Tryz.prog Tryz.f144.ntmps (.block 0 (.loop (bodyOf 0 Tryz.f144))) (lI fuel):=bo0 (za fuel) (by kernel_rfl) (by kernel_rfl) (EO fuel)
def py (F:le):Ev.Spec:=fun args objs k=>match args,objs with | [.c (.ptr t u),.c (i6 v),.agg [i6 w,i6 x,i6 y,.bool z,i6 A],.c (i6 B),.c (i6 C),.agg [i6 D,i6 E,.sl (.int .u8) a]],[.cells G b,.vec H (.int .i64) d false,.vec I (.int .u8) e false]=>(match splitRun 2 ctn b with | some ([i6 f,.own J],[.int .u64 g,.int .u64 h,.own K,i6 i,.int .u64 j,i6 l,.bool m,.bool n])=>bif qb [t,u,G,H,I,J,K] [0,0,147,3,5,1,2] then F v w x y z A B C D E a f g h i j l m n d e (fun r=>match r with | (L,M,N,O,P,Q,R,S,T,U,o,p,q,s)=>k (.tup [(true,[i6 L,i6 M,.sl (.int .u8) N]),(false,[i6 O])],[.cells 147 (i6 P::.own 1::ctb (.int .u64 Q::.int .u64 R::.own 2::i6 S::.int .u64 T::i6 U::.bool o::.bool p::[])),.vec 3 (.int .i64) q false,.vec 5 (.int .u8) s false])) else none | _=>none) | _,_=>none
theorem JX (fuel:Nat):FnOK Tryz.prog 144 (py (dY fuel)):=by
  intro args objs kk r h
  unfold py at h
  split at h
  · skip
    split at h
    rotate_left 1
    · cases h
    rename_i hsp
    have esp:=splitRun_eq hsp
    subst esp
    obtain ⟨hb,h⟩:=cond_some' h
    cases qb_eq hb
    exact fo1 (za fuel) Tryz.func144 rfl (Jt fuel) (by kernel_rfl) _ _ kk r ((Ai fuel (ah fuel) (ai fuel) (aE fuel) (aa fuel) (aK fuel) (bO fuel) (aL fuel) (aW fuel) (dj fuel) _ _ _ _ _ _ _ _ _ _ _ _ _ _ _ _ _ _ _ _ _ kk).trans h)
  · cases h
def IV (i:Nat):Option (List Nat):=Ev.look i []
def Bk (f:Nat):Option Ev.Spec:=Ev.look f []
def yw (fuel:Nat):Nat→Option Ev.Spec:=Bk
def aI (fuel:Nat) (d a b:Int) (e:Bool) (c:Int) (k0:(Bool)→Option Ans):Option Ans:=bif d==0 then bif c==0 then bif decide ((bif decide (b < a) then b else a)≥(-200:Int)) then k0 (decide (Ev.imax (Ev.imax (Ev.imax a (i64.wrap (0 - a))) b) (i64.wrap (0 - b))≤200)) else k0 false else bif c==1 then bif decide ((bif decide (b < a) then b else a)≥(-200:Int)) then k0 (decide (Ev.imax (Ev.imax (Ev.imax a (i64.wrap (0 - a))) b) (i64.wrap (0 - b))≤200)) else k0 false else k0 false else bif d==1 then bif c==0 then bif decide ((bif decide (b < a) then b else a)≥(-200:Int)) then k0 (decide (Ev.imax (Ev.imax (Ev.imax a (i64.wrap (0 - a))) b) (i64.wrap (0 - b))≤200)) else k0 false else bif c==1 then bif decide ((bif decide (b < a) then b else a)≥(-200:Int)) then k0 (decide (Ev.imax (Ev.imax (Ev.imax a (i64.wrap (0 - a))) b) (i64.wrap (0 - b))≤200)) else k0 false else k0 false else k0 false
abbrev br:Type:=Int→Int→Int→Bool→Int→(Bool→Option Ans)→Option Ans
theorem Al (fuel:Nat) (a b d:Int) (e:Bool) (f:Int) (k:Ev.Cont):evalFn tab (yw fuel) J0 IV fuel Tryz.f173 [.agg [i6 a,i6 b,i6 d,.bool e,i6 f]] [] k=aI fuel a b d e f (fun r=>match r with | g=>k (.c (.bool g),[])):=by
  kernel_rfl
theorem Hy (fuel:Nat):GOK Tryz.prog (yw fuel):=
  gok_nil
def jY (F:br):Ev.Spec:=fun args objs k=>match args,objs with | [.agg [i6 a,i6 b,i6 d,.bool e,i6 f]],[]=>F a b d e f (fun r=>match r with | g=>k (.c (.bool g),[])) | _,_=>none
theorem yG (fuel:Nat):FnOK Tryz.prog 173 (jY (aI fuel)):=by
  intro args objs kk r h
  unfold jY at h
  split at h
  · skip
    exact fo0 (Hy fuel) Tryz.func173 rfl (by kernel_rfl) _ _ kk r ((Al fuel _ _ _ _ _ kk).trans h)
  · cases h
def GU (i:Nat):Option (List Nat):=Ev.look i [(200001,[3,5])]
def xM (a:aC) (f:Nat):Option Ev.Spec:=Ev.look f [(130,fy a)]
def Kg (fuel:Nat):Nat→Option Ev.Spec:=xM (au fuel)
def jZ (fuel:Nat) (b:aC) (f:Int) (c:LI) (a d:Int) (g h:Int) (i:Bool) (j:Int) (k0:(Bool)→OA):OA:=bif decide (a≥0) then (b d (fun e=>k0 (decide (a≤i64.wrap (i64.wrap ((↑c.length:Int) - e) - 1))))) else k0 false
abbrev bq:Type:=Int→LI→Int→Int→Int→Int→Bool→Int→(Bool→Option Ans)→Option Ans
def aN (fuel:Nat):bq:=jZ fuel (au fuel)
theorem JV (fuel:Nat) (a:aC) (b:Int) (d:LI) (e f:Int) (g h:Int) (i:Bool) (j:Int) (k:Ev.Cont):evalFn tab (xM a) J0 GU fuel Tryz.f174 [.agg [i6 b,.sl (.int .i64) d],.c (i6 e),.agg [i6 f,i6 g,i6 h,.bool i,i6 j]] [] k=jZ fuel a b d e f g h i j (fun r=>match r with | l=>k (.c (.bool l),[])):=by
  kernel_rfl
theorem JF (fuel:Nat):GOK Tryz.prog (Kg fuel):=
  gc (lq fuel) Tryz.func130 (by kernel_rfl) rfl <|
  gok_nil
def jB (F:bq):Ev.Spec:=fun args objs k=>match args,objs with | [.agg [i6 a,.sl (.int .i64) b],.c (i6 d),.agg [i6 e,i6 f,i6 g,.bool h,i6 i]],[]=>F a b d e f g h i (fun r=>match r with | j=>k (.c (.bool j),[])) | _,_=>none
theorem wB (fuel:Nat):FnOK Tryz.prog 174 (jB (aN fuel)):=by
  intro args objs kk r h
  unfold jB at h
  split at h
  · skip
    exact fo0 (JF fuel) Tryz.func174 rfl (by kernel_rfl) _ _ kk r ((JV fuel (au fuel) _ _ _ _ _ _ _ _ kk).trans h)
  · cases h
def Hn (i:Nat):Option (List Nat):=Ev.look i []
def By (f:Nat):Option Ev.Spec:=Ev.look f []
def yR (fuel:Nat):Nat→Option Ev.Spec:=By
def dr (fuel:Nat) (b c d:Int) (e:Bool) (f g:Int) (h i j:Int) (k a:(List Int)) (k0:((List Int)×Int×Int×Int×Bool×Int×Int×Int×Int×Int×(List Int))→Option Ans):Option Ans:=k0 (a,b,c,d,e,f,g,h,i,j,k)
abbrev fD:Type:=Int→Int→Int→Bool→Int→Int→Int→Int→Int→LI→LI→((LI×Int×Int×Int×Bool×Int×Int×Int×Int×Int×LI)→Option Ans)→Option Ans
theorem HI (fuel:Nat) (b d e:Int) (f:Bool) (g h:Int) (i j l:Int) (m a:LI) (k:Ev.Cont):evalFn tab (yR fuel) J0 Hn fuel Tryz.f175 [.agg [i6 b,i6 d,i6 e,.bool f,i6 g],.c (i6 h),.c (i6 i),.c (.own 0),.agg [i6 j,i6 l,.sl (.int .u8) m]] [.vec 5 (.int .u8) a false] k=dr fuel b d e f g h i j l m a (fun r=>match r with | (o,p,q,s,t,u,v,w,x,y,n)=>k (.c (.ptr 1 0),[.vec 5 (.int .u8) o false,.cells 230 [i6 p,i6 q,i6 s,.bool t,i6 u,i6 v,i6 w,.own 0,i6 x,i6 y,.sl (.int .u8) n]])):=by
  kernel_rfl
theorem CM (fuel:Nat):GOK Tryz.prog (yR fuel):=
  gok_nil
def pE (F:fD):Ev.Spec:=fun args objs k=>match args,objs with | [.agg [i6 d,i6 e,i6 f,.bool g,i6 h],.c (i6 i),.c (i6 j),.c (.own l),.agg [i6 m,i6 n,.sl (.int .u8) o]],[.vec p (.int .u8) a false]=>bif qb [l,p] [0,5] then F d e f g h i j m n o a (fun r=>match r with | (q,s,t,u,v,w,x,y,z,A,b)=>k (.c (.ptr 1 0),[.vec 5 (.int .u8) q false,.cells 230 [i6 s,i6 t,i6 u,.bool v,i6 w,i6 x,i6 y,.own 0,i6 z,i6 A,.sl (.int .u8) b]])) else none | _,_=>none
theorem Gh (fuel:Nat):FnOK Tryz.prog 175 (pE (dr fuel)):=by
  intro args objs kk r h
  unfold pE at h
  split at h
  · skip
    obtain ⟨hb,h⟩:=cond_some' h
    cases qb_eq hb
    exact fo0 (CM fuel) Tryz.func175 rfl (by kernel_rfl) _ _ kk r ((HI fuel _ _ _ _ _ _ _ _ _ _ _ kk).trans h)
  · cases h
def Fg (i:Nat):Option (List Nat):=Ev.look i []
def DB (f:Nat):Option Ev.Spec:=Ev.look f []
def vQ (fuel:Nat):Nat→Option Ev.Spec:=DB
def aG (fuel:Nat)  (k0:((List (Int×Int)))→Option Ans):Option Ans:=k0 ([(0,0),((-1:Int),0),(1,0),(0,(-1:Int)),(0,1)])
abbrev aV:Type:=(((List (Int×Int)))→Option Ans)→Option Ans
theorem Bj (fuel:Nat)  (k:Ev.Cont):evalFn tab (vQ fuel) J0 Fg fuel Tryz.f199 [] [] k=aG fuel  (fun r=>match r with | a=>k (.c (.own 0),[.vec 22 (.pair (.int .i64) (.int .i64)) a true])):=by
  kernel_rfl
theorem GO (fuel:Nat):GOK Tryz.prog (vQ fuel):=
  gok_nil
def lw (F:aV):Ev.Spec:=fun args objs k=>match args,objs with | [],[]=>F  (fun r=>match r with | a=>k (.c (.own 0),[.vec 22 (.pair (.int .i64) (.int .i64)) a true])) | _,_=>none
theorem wM (fuel:Nat):FnOK Tryz.prog 199 (lw (aG fuel)):=by
  intro args objs kk r h
  unfold lw at h
  split at h
  · skip
    exact fo0 (GO fuel) Tryz.func199 rfl (by kernel_rfl) _ _ kk r ((Bj fuel kk).trans h)
  · cases h
def zN (i:Nat):Option (List Nat):=Ev.look i []
def Ar (f:Nat):Option Ev.Spec:=Ev.look f []
def yD (fuel:Nat):Nat→Option Ev.Spec:=Ar
def ad (fuel:Nat) (c e:Int) (d:(List Int)) (a b:Int) (k0:(Int)→Option Ans):Option Ans:=bif decide (a < 0) then k0 (0) else bif decide (b < 0) then k0 (0) else bif decide (a≥c) then k0 (0) else bif decide (b≥e) then k0 (0) else bif decide (0≤i64.wrap (i64.wrap (b*c)+a)∧i64.wrap (i64.wrap (b*c)+a) < (↑d.length:Int)) then k0 (d.getD (i64.wrap (i64.wrap (b*c)+a)).toNat 0) else none
abbrev ae:Type:=Int→Int→LI→Int→Int→(Int→Option Ans)→Option Ans
theorem BY (fuel:Nat) (a b:Int) (d:LI) (e f:Int) (k:Ev.Cont):evalFn tab (yD fuel) J0 zN fuel Tryz.f179 [.agg [i6 a,i6 b,.sl (.int .u8) d],.c (i6 e),.c (i6 f)] [] k=ad fuel a b d e f (fun r=>match r with | g=>k (.c (.int .u8 g),[])):=by
  kernel_rfl
theorem Kj (fuel:Nat):GOK Tryz.prog (yD fuel):=
  gok_nil
def dc (F:ae):Ev.Spec:=fun args objs k=>match args,objs with | [.agg [i6 a,i6 b,.sl (.int .u8) d],.c (i6 e),.c (i6 f)],[]=>F a b d e f (fun r=>match r with | g=>k (.c (.int .u8 g),[])) | _,_=>none
theorem fQ (fuel:Nat):FnOK Tryz.prog 179 (dc (ad fuel)):=by
  intro args objs kk r h
  unfold dc at h
  split at h
  · skip
    exact fo0 (Kj fuel) Tryz.func179 rfl (by kernel_rfl) _ _ kk r ((BY fuel _ _ _ _ _ kk).trans h)
  · cases h
def ci (i:Nat):Option (List Nat):=Ev.look i [(3,[0,1,2,7,17,18,19]),(8,[0,1,2,7,41,42,43]),(100000,[0,1,2,7]),(100002,[7]),(200005,[0,9]),(200010,[0,11]),(400000,[6]),(400002,[6])]
def lv (a:aH) (b:ae) (c:aV) (f:Nat):Option Ev.Spec:=Ev.look f [(164,gN a),(179,dc b),(199,lw c)]
def jb (fuel:Nat):Nat→Option Ev.Spec:=lv (al fuel) (ad fuel) (aG fuel)
abbrev qv:Type:=Int×Int×Int×Int×Int×Int×Int×Int×Bool×Int×Int×Int×Int×Int×LI×LI×(List (Int×Int))
abbrev sL:Type:=(Int×Int×Int×Int×Int×Int×Bool×Int×Int×Int×Int×Int×LI×LI→OA)
def kt (fuel:Nat) (v:aH) (t:ae) (w:aV) (h i:Int) (m n:Int) (a o:Int) (p q:Int) (r:Bool) (s e:Int) (f j k:Int) (l g:LI) (d:(List (Int×Int))) (c:qv→OA) (B:sL):OA:=match B with | b=>bif decide (a < n) then bif decide (0≤a∧a < (↑d.length:Int)) then (t e f g (i64.wrap (h+(d.getD a.toNat (0,0)).fst)) (i64.wrap (i+(d.getD a.toNat (0,0)).snd)) (fun u=>c (h,i,i64.wrap (i64.wrap (2*m)+i64.wrap u),n,i64.wrap (a+1),o,p,q,r,s,e,f,j,k,l,g,d))) else none else b (h,i,m,o,p,q,r,s,e,f,j,k,l,g)
def fP (fuel:Nat) (v:Int×Int×Int×Int×Int×Int×Int×Int×Bool×Int×Int×Int×Int×Int×(List Int)×(List Int)×(List (Int×Int))) (c:(Int×Int×Int×Int×Int×Int×Int×Int×Bool×Int×Int×Int×Int×Int×(List Int)×(List Int)×(List (Int×Int)))→Option Ans) (B:(Int×Int×Int×Int×Int×Int×Bool×Int×Int×Int×Int×Int×(List Int)×(List Int)→Option Ans)):Option Ans:=match v with | (i,j,k,l,m,n,o,p,q,r,a,b,d,e,f,g,h)=>kt fuel (al fuel) (ad fuel) (aG fuel) i j k l m n o p q r a b d e f g h c B
def xz (fuel:Nat) (v:qv) (b:sL):Option Ans:=iter (fP fuel) fuel v b
def rF (v:qv):Ev.St:=match v with | (i,j,k,l,m,n,o,p,q,r,a,b,d,e,f,g,h)=>⟨[(0,.c (.ptr 0 0)),(1,.c (i6 i)),(2,.c (i6 j)),(7,.c (i6 k)),(17,.c (.own 2)),(18,.c (i6 l)),(19,.c (i6 m))],[(0,.cells 230 [i6 n,i6 o,i6 p,.bool q,i6 r,i6 a,i6 b,.own 1,i6 d,i6 e,.sl (.int .u8) f]),(1,.vec 5 (.int .u8) g false),(2,.vec 22 (.pair (.int .i64) (.int .i64)) h true)],3,2⟩
def tR (K:KT):sL:=(fun v=>match v with | (f,g,h,i,j,k,l,m,n,o,a,b,d,e)=>K .normal ⟨[(0,.c (.ptr 0 0)),(1,.c (i6 f)),(2,.c (i6 g)),(7,.c (i6 h))],[(0,.cells 230 [i6 i,i6 j,i6 k,.bool l,i6 m,i6 n,i6 o,.own 1,i6 a,i6 b,.sl (.int .u8) d]),(1,.vec 5 (.int .u8) e false)],2,2⟩)
theorem Ao (fuel:Nat) (a:aH) (b:ae) (c:aV) (R:Ev.St→OA) (K:KT) (k l:Int) (m n:Int) (o p:Int) (q r:Int) (s:Bool) (t d:Int) (e f g:Int) (h i:LI) (j:(List (Int×Int))):evalCode tab (lv a b c) J0 ci fuel (bodyOf 0 Tryz.f178) (rF (k,l,m,n,o,p,q,r,s,t,d,e,f,g,h,i,j)) (lc ci 3 0 R K)=kt fuel a b c k l m n o p q r s t d e f g h i j (fun v=>R (rF v)) (tR K):=by
  kernel_rfl
def f6 (fuel:Nat):Ev.Blk:=fun st K=>match canonO (ci 3) st with | some s=>(match s with | ⟨[(r,.c (.ptr t u)),(v,.c (i6 w)),(x,.c (i6 y)),(z,.c (i6 A)),(B,.c (.own C)),(D,.c (i6 E)),(F,.c (i6 G))],[(a,.cells b [i6 H,i6 I,i6 J,.bool L,i6 M,i6 d,i6 e,.own f,i6 g,i6 h,.sl (.int .u8) i]),(j,.vec k (.int .u8) l false),(m,.vec n (.pair (.int .i64) (.int .i64)) o true)],p,q⟩=>bif qb [r,t,u,v,x,z,B,C,D,F,a,b,f,j,k,m,n,p,q] [0,0,0,1,2,7,17,2,18,19,0,230,1,1,5,2,22,3,2] then iter (fP fuel) fuel (w,y,A,E,G,H,I,J,L,M,d,e,g,h,i,l,o) (tR K) else none | _=>none) | none=>none
theorem BA (fuel:Nat) (st:Ev.St) (K:KT) (r:Ans) (h:f6 fuel st K=some r):evalCode tab (jb fuel) J0 ci fuel (.block 0 (.loop (bodyOf 0 Tryz.f178))) st K=some r:=by
  unfold f6 at h
  split at h
  · rename_i s hs
    split at h
    · skip
      obtain ⟨hb,h⟩:=cond_some' h
      cases qb_eq hb
      exact blk_loop (S:=rF) (ks:=tR) (step:=fP fuel) (v:=(_,_,_,_,_,_,_,_,_,_,_,_,_,_,_,_,_)) (by kernel_rfl) (by kernel_rfl) (fun R K v=>by obtain ⟨i,j,k,l,m,n,o,p,q,t,a,b,c,d,e,f,g⟩:=v; exact Ao fuel (al fuel) (ad fuel) (aG fuel) R K i j k l m n o p q t a b c d e f g) hs h
    · cases h
  · cases h
abbrev un:Type:=Int×Int×Int×Int×Int×Int×Int×Int×Bool×Int×Int×Int×Int×Int×LI×LI×(List (Int×Int))
abbrev pq:Type:=(Int×Int×Int×Int×Bool×Int×Int×Int×Int×Int×LI×LI→OA)
def jy (fuel:Nat) (v:aH) (t:ae) (w:aV) (m n:Int) (o p:Int) (a q:Int) (h i:Int) (r:Bool) (s j:Int) (k e f:Int) (g l:LI) (d:(List (Int×Int))) (c:un→OA) (B:pq):OA:=match B with | b=>bif decide (a < p) then bif decide (0≤a∧a < (↑d.length:Int)) then (t e f g (i64.wrap (i64.wrap (m - h)+(d.getD a.toNat (0,0)).fst)) (i64.wrap (i64.wrap (n - i)+(d.getD a.toNat (0,0)).snd)) (fun u=>c (m,n,i64.wrap (i64.wrap (2*o)+i64.wrap u),p,i64.wrap (a+1),q,h,i,r,s,j,k,e,f,g,l,d))) else none else b (o,q,h,i,r,s,j,k,e,f,g,l)
def eN (fuel:Nat) (v:Int×Int×Int×Int×Int×Int×Int×Int×Bool×Int×Int×Int×Int×Int×(List Int)×(List Int)×(List (Int×Int))) (c:(Int×Int×Int×Int×Int×Int×Int×Int×Bool×Int×Int×Int×Int×Int×(List Int)×(List Int)×(List (Int×Int)))→Option Ans) (B:(Int×Int×Int×Int×Bool×Int×Int×Int×Int×Int×(List Int)×(List Int)→Option Ans)):Option Ans:=match v with | (i,j,k,l,m,n,o,p,q,r,a,b,d,e,f,g,h)=>jy fuel (al fuel) (ad fuel) (aG fuel) i j k l m n o p q r a b d e f g h c B
def yF (fuel:Nat) (v:un) (b:pq):Option Ans:=iter (eN fuel) fuel v b
def wS (fuel:Nat) (i:Nat):Option Ev.Blk:=Ev.look i [(100000,f6 fuel)]
def pf (v:un):Ev.St:=match v with | (i,j,k,l,m,n,o,p,q,r,a,b,d,e,f,g,h)=>⟨[(0,.c (.ptr 0 0)),(1,.c (i6 i)),(2,.c (i6 j)),(7,.c (i6 k)),(41,.c (.own 2)),(42,.c (i6 l)),(43,.c (i6 m))],[(0,.cells 230 [i6 n,i6 o,i6 p,.bool q,i6 r,i6 a,i6 b,.own 1,i6 d,i6 e,.sl (.int .u8) f]),(1,.vec 5 (.int .u8) g false),(2,.vec 22 (.pair (.int .i64) (.int .i64)) h true)],3,2⟩
def tB (K:KT):pq:=(fun v=>match v with | (d,e,f,g,h,i,j,k,l,m,a,b)=>K .normal ⟨[(7,.c (i6 d))],[(0,.cells 230 [i6 e,i6 f,i6 g,.bool h,i6 i,i6 j,i6 k,.own 1,i6 l,i6 m,.sl (.int .u8) a]),(1,.vec 5 (.int .u8) b false)],2,2⟩)
theorem Bv (fuel:Nat) (a:aH) (b:ae) (c:aV) (R:Ev.St→OA) (K:KT) (k l:Int) (m n:Int) (o p:Int) (q r:Int) (s:Bool) (t d:Int) (e f g:Int) (h i:LI) (j:(List (Int×Int))):evalCode tab (lv a b c) (wS fuel) ci fuel (bodyOf 2 Tryz.f178) (pf (k,l,m,n,o,p,q,r,s,t,d,e,f,g,h,i,j)) (lc ci 8 2 R K)=jy fuel a b c k l m n o p q r s t d e f g h i j (fun v=>R (pf v)) (tB K):=by
  kernel_rfl
def gv (fuel:Nat):Ev.Blk:=fun st K=>match canonO (ci 8) st with | some s=>(match s with | ⟨[(r,.c (.ptr t u)),(v,.c (i6 w)),(x,.c (i6 y)),(z,.c (i6 A)),(B,.c (.own C)),(D,.c (i6 E)),(F,.c (i6 G))],[(a,.cells b [i6 H,i6 I,i6 J,.bool L,i6 M,i6 d,i6 e,.own f,i6 g,i6 h,.sl (.int .u8) i]),(j,.vec k (.int .u8) l false),(m,.vec n (.pair (.int .i64) (.int .i64)) o true)],p,q⟩=>bif qb [r,t,u,v,x,z,B,C,D,F,a,b,f,j,k,m,n,p,q] [0,0,0,1,2,7,41,2,42,43,0,230,1,1,5,2,22,3,2] then iter (eN fuel) fuel (w,y,A,E,G,H,I,J,L,M,d,e,g,h,i,l,o) (tB K) else none | _=>none) | none=>none
theorem Is (fuel:Nat) (st:Ev.St) (K:KT) (r:Ans) (h:gv fuel st K=some r):evalCode tab (jb fuel) (wS fuel) ci fuel (.block 2 (.loop (bodyOf 2 Tryz.f178))) st K=some r:=by
  unfold gv at h
  split at h
  · rename_i s hs
    split at h
    · skip
      obtain ⟨hb,h⟩:=cond_some' h
      cases qb_eq hb
      exact blk_loop (S:=pf) (ks:=tB) (step:=eN fuel) (v:=(_,_,_,_,_,_,_,_,_,_,_,_,_,_,_,_,_)) (by kernel_rfl) (by kernel_rfl) (fun R K v=>by obtain ⟨i,j,k,l,m,n,o,p,q,t,a,b,c,d,e,f,g⟩:=v; exact Bv fuel (al fuel) (ad fuel) (aG fuel) R K i j k l m n o p q t a b c d e f g) hs h
    · cases h
  · cases h
def sc (fuel:Nat) (i:Nat):Option Ev.Blk:=Ev.look i [(100000,f6 fuel),(100002,gv fuel)]
def uk (fuel:Nat) (j:aH) (R:ae) (k:aV) (I J:Int) (b K L:Int) (M:Bool) (N O:Int) (P Q F:Int) (G H:LI) (k0:(Int×Int×Int×Int×Bool×Int×Int×Int×Int×Int×LI×LI)→OA):OA:=(j b (fun c=>(xz fuel (I,J,0,(↑c.length:Int),0,b,K,L,M,N,O,P,Q,F,G,H,c) (fun (l,m,n,o,p,q,r,s,t,u,d,e,f,g)=>(k (fun a=>(yF fuel (l,m,n,(↑a.length:Int),0,o,p,q,r,s,t,u,d,e,f,g,a) (fun (v,w,x,y,z,A,B,C,D,E,h,i)=>k0 (v,w,x,y,z,A,B,C,D,E,h,i)))))))))
abbrev dU:Type:=Int→Int→Int→Int→Int→Bool→Int→Int→Int→Int→Int→LI→LI→((Int×Int×Int×Int×Bool×Int×Int×Int×Int×Int×LI×LI)→Option Ans)→Option Ans
def db (fuel:Nat):dU:=uk fuel (al fuel) (ad fuel) (aG fuel)
theorem EF (fuel:Nat) (a:aH) (b:ae) (d:aV) (h i:Int) (j l m:Int) (n:Bool) (o p:Int) (q s e:Int) (f g:LI) (k:Ev.Cont):evalFn tab (lv a b d) (sc fuel) ci fuel Tryz.f178 [.c (.ptr 0 0),.c (i6 h),.c (i6 i)] [.cells 230 [i6 j,i6 l,i6 m,.bool n,i6 o,i6 p,i6 q,.own 1,i6 s,i6 e,.sl (.int .u8) f],.vec 5 (.int .u8) g false] k=uk fuel a b d h i j l m n o p q s e f g (fun r=>match r with | (v,w,x,y,z,A,B,C,D,E,t,u)=>k (.c (i6 v),[.cells 230 [i6 w,i6 x,i6 y,.bool z,i6 A,i6 B,i6 C,.own 1,i6 D,i6 E,.sl (.int .u8) t],.vec 5 (.int .u8) u false])):=by
  kernel_rfl
theorem pn (fuel:Nat):GOK Tryz.prog (jb fuel):=
  gc (oA fuel) Tryz.func164 (by kernel_rfl) rfl <|
  gc (fQ fuel) Tryz.func179 (by kernel_rfl) rfl <|
  gc (wM fuel) Tryz.func199 (by kernel_rfl) rfl <|
  gok_nil
theorem Bb (fuel:Nat):BlkOK Tryz.prog Tryz.f178.ntmps (.block 0 (.loop (bodyOf 0 Tryz.f178))) (f6 fuel):=bo0 (pn fuel) (by kernel_rfl) (by kernel_rfl) (BA fuel)
theorem IN (fuel:Nat):BlkOK Tryz.prog Tryz.f178.ntmps (.block 2 (.loop (bodyOf 2 Tryz.f178))) (gv fuel):=bo0 (pn fuel) (by kernel_rfl) (by kernel_rfl) (Is fuel)
theorem Dw (fuel:Nat):FnOK Tryz.prog 178 (evalFn tab (jb fuel) (sc fuel) ci fuel Tryz.f178):=
  fn_ok tab_ok (pn fuel) mixed Tryz.func178 (c:=(Tryz.f178.body).getD .skip) rfl (fun q hq=>by
    rw [(by kernel_rfl:obl (sc fuel) ((Tryz.f178.body).getD .skip)= [(.block 0 (.loop (bodyOf 0 Tryz.f178)),f6 fuel),(.block 2 (.loop (bodyOf 2 Tryz.f178)),gv fuel)])] at hq
    simp only [List.mem_cons,List.not_mem_nil,or_false] at hq
    rcases hq with rfl | rfl
    · exact Bb fuel
    · exact IN fuel)
def sg (F:dU):Ev.Spec:=fun args objs k=>match args,objs with | [.c (.ptr g h),.c (i6 i),.c (i6 j)],[.cells l [i6 m,i6 n,i6 o,.bool p,i6 q,i6 s,i6 t,.own u,i6 v,i6 a,.sl (.int .u8) b],.vec w (.int .u8) d false]=>bif qb [g,h,l,u,w] [0,0,230,1,5] then F i j m n o p q s t v a b d (fun r=>match r with | (x,y,z,A,B,C,D,E,G,H,e,f)=>k (.c (i6 x),[.cells 230 [i6 y,i6 z,i6 A,.bool B,i6 C,i6 D,i6 E,.own 1,i6 G,i6 H,.sl (.int .u8) e],.vec 5 (.int .u8) f false])) else none | _,_=>none
theorem GC (fuel:Nat):FnOK Tryz.prog 178 (sg (db fuel)):=by
  intro args objs kk r h
  unfold sg at h
  split at h
  · skip
    obtain ⟨hb,h⟩:=cond_some' h
    cases qb_eq hb
    exact Dw fuel _ _ kk r ((EF fuel (al fuel) (ad fuel) (aG fuel) _ _ _ _ _ _ _ _ _ _ _ _ _ kk).trans h)
  · cases h
def gJ (i:Nat):Option (List Nat):=Ev.look i [(3,[0,1,2,8,29]),(100000,[8]),(200001,[0]),(200005,[0]),(400000,[6,7])]
def mZ (a:ae) (f:Nat):Option Ev.Spec:=Ev.look f [(179,dc a)]
def wz (fuel:Nat):Nat→Option Ev.Spec:=mZ (ad fuel)
abbrev pQ:Type:=Int×Int×Int×Int×Int×Int×Int×Bool×Int×Int×Int×Int×Int×LI×LI
abbrev yk:Type:=(Int×Bool×Int×Int×Int×Bool×Int×Int×Int×Int×Int×LI×LI→OA)×(Int×Int×Int×Int×Bool×Int×Int×Int×Int×Int×LI×LI→OA)
def jS (fuel:Nat) (r:ae) (p q:Int) (k f:Int) (l g h:Int) (m:Bool) (n o:Int) (i a d:Int) (e j:LI) (c:pQ→OA) (B:yk):OA:=match B with | (ret,b)=>bif decide (f < 9) then (r a d e (i64.wrap (i64.wrap (i64.wrap (p - g)+f.tmod 3) - 1)) (i64.wrap (i64.wrap (i64.wrap (q - h)+i64.wrap (f.tdiv 3)) - 1)) (fun s=>bif s != k then ret (0,false,l,g,h,m,n,o,i,a,d,e,j) else c (p,q,k,i64.wrap (f+1),l,g,h,m,n,o,i,a,d,e,j))) else b (k,l,g,h,m,n,o,i,a,d,e,j)
def dt (fuel:Nat) (v:Int×Int×Int×Int×Int×Int×Int×Bool×Int×Int×Int×Int×Int×(List Int)×(List Int)) (c:(Int×Int×Int×Int×Int×Int×Int×Bool×Int×Int×Int×Int×Int×(List Int)×(List Int))→Option Ans) (B:(Int×Bool×Int×Int×Int×Bool×Int×Int×Int×Int×Int×(List Int)×(List Int)→Option Ans)×(Int×Int×Int×Int×Bool×Int×Int×Int×Int×Int×(List Int)×(List Int)→Option Ans)):Option Ans:=match v with | (g,h,i,j,k,l,m,n,o,p,a,b,d,e,f)=>jS fuel (ad fuel) g h i j k l m n o p a b d e f c B
def wR (fuel:Nat) (v:pQ) (ret:(Int×Bool×Int×Int×Int×Bool×Int×Int×Int×Int×Int×(List Int)×(List Int)→Option Ans)) (b:(Int×Int×Int×Int×Bool×Int×Int×Int×Int×Int×(List Int)×(List Int)→Option Ans)):Option Ans:=iter (dt fuel) fuel v (ret,b)
def nw (v:pQ):Ev.St:=match v with | (g,h,i,j,k,l,m,n,o,p,a,b,d,e,f)=>⟨[(0,.c (.ptr 0 0)),(1,.c (i6 g)),(2,.c (i6 h)),(8,.c (.int .u8 i)),(29,.c (i6 j))],[(0,.cells 230 [i6 k,i6 l,i6 m,.bool n,i6 o,i6 p,i6 a,.own 1,i6 b,i6 d,.sl (.int .u8) e]),(1,.vec 5 (.int .u8) f false)],2,2⟩
def mh (K:KT):yk:=((fun v=>match v with | (d,e,f,g,h,i,j,k,l,m,a,b,n)=>K .ret ⟨[(6,.c (.int .u8 d)),(7,.c (.bool e))],[(0,.cells 230 [i6 f,i6 g,i6 h,.bool i,i6 j,i6 k,i6 l,.own 1,i6 m,i6 a,.sl (.int .u8) b]),(1,.vec 5 (.int .u8) n false)],2,2⟩),(fun v=>match v with | (d,e,f,g,h,i,j,k,l,m,a,b)=>K .normal ⟨[(8,.c (.int .u8 d))],[(0,.cells 230 [i6 e,i6 f,i6 g,.bool h,i6 i,i6 j,i6 k,.own 1,i6 l,i6 m,.sl (.int .u8) a]),(1,.vec 5 (.int .u8) b false)],2,2⟩))
theorem AY (fuel:Nat) (a:ae) (R:Ev.St→OA) (K:KT) (g h:Int) (i j:Int) (k l m:Int) (n:Bool) (o p:Int) (b c d:Int) (e f:LI):evalCode tab (mZ a) J0 gJ fuel (bodyOf 0 Tryz.f177) (nw (g,h,i,j,k,l,m,n,o,p,b,c,d,e,f)) (lc gJ 3 0 R K)=jS fuel a g h i j k l m n o p b c d e f (fun v=>R (nw v)) (mh K):=by
  kernel_rfl
def lt (fuel:Nat):Ev.Blk:=fun st K=>match canonO (gJ 3) st with | some s=>(match s with | ⟨[(k,.c (.ptr l m)),(n,.c (i6 o)),(p,.c (i6 q)),(r,.c (.int .u8 t)),(u,.c (i6 v))],[(w,.cells x [i6 y,i6 z,i6 A,.bool B,i6 C,i6 D,i6 a,.own E,i6 b,i6 d,.sl (.int .u8) e]),(f,.vec g (.int .u8) h false)],i,j⟩=>bif qb [k,l,m,n,p,r,u,w,x,E,f,g,i,j] [0,0,0,1,2,8,29,0,230,1,1,5,2,2] then iter (dt fuel) fuel (o,q,t,v,y,z,A,B,C,D,a,b,d,e,h) (mh K) else none | _=>none) | none=>none
theorem AT (fuel:Nat) (st:Ev.St) (K:KT) (r:Ans) (h:lt fuel st K=some r):evalCode tab (wz fuel) J0 gJ fuel (.block 0 (.loop (bodyOf 0 Tryz.f177))) st K=some r:=by
  unfold lt at h
  split at h
  · rename_i s hs
    split at h
    · skip
      obtain ⟨hb,h⟩:=cond_some' h
      cases qb_eq hb
      exact blk_loop (S:=nw) (ks:=mh) (step:=dt fuel) (v:=(_,_,_,_,_,_,_,_,_,_,_,_,_,_,_)) (by kernel_rfl) (by kernel_rfl) (fun R K v=>by obtain ⟨f,g,i,j,k,l,m,n,o,p,a,b,c,d,e⟩:=v; exact AY fuel (ad fuel) R K f g i j k l m n o p a b c d e) hs h
    · cases h
  · cases h
def Gq (fuel:Nat) (i:Nat):Option Ev.Blk:=Ev.look i [(100000,lt fuel)]
def rq (fuel:Nat) (j:ae) (c d:Int) (v e f:Int) (w:Bool) (x y:Int) (z g a:Int) (b u:LI) (k0:(Int×Bool×Int×Int×Int×Bool×Int×Int×Int×Int×Int×LI×LI)→OA):OA:=(j g a b (i64.wrap (c - e)) (i64.wrap (d - f)) (fun A=>(wR fuel (c,d,A,0,v,e,f,w,x,y,z,g,a,b,u) (fun (ret0_0,ret0_1,ret0_2,ret0_3,ret0_4,ret0_5,ret0_6,ret0_7,ret0_8,ret0_9,ret0_10,ret0_11,ret0_12)=>k0 (ret0_0,ret0_1,ret0_2,ret0_3,ret0_4,ret0_5,ret0_6,ret0_7,ret0_8,ret0_9,ret0_10,ret0_11,ret0_12)) (fun (k,l,m,n,o,p,q,r,s,t,h,i)=>k0 (k,true,l,m,n,o,p,q,r,s,t,h,i)))))
abbrev dP:Type:=Int→Int→Int→Int→Int→Bool→Int→Int→Int→Int→Int→LI→LI→((Int×Bool×Int×Int×Int×Bool×Int×Int×Int×Int×Int×LI×LI)→Option Ans)→Option Ans
def dm (fuel:Nat):dP:=rq fuel (ad fuel)
theorem Gd (fuel:Nat) (a:ae) (f g:Int) (h i j:Int) (l:Bool) (m n:Int) (o p b:Int) (d e:LI) (k:Ev.Cont):evalFn tab (mZ a) (Gq fuel) gJ fuel Tryz.f177 [.c (.ptr 0 0),.c (i6 f),.c (i6 g)] [.cells 230 [i6 h,i6 i,i6 j,.bool l,i6 m,i6 n,i6 o,.own 1,i6 p,i6 b,.sl (.int .u8) d],.vec 5 (.int .u8) e false] k=rq fuel a f g h i j l m n o p b d e (fun r=>match r with | (u,v,w,x,y,z,A,B,C,D,q,s,t)=>k (.tup [(false,[.int .u8 u]),(false,[.bool v])],[.cells 230 [i6 w,i6 x,i6 y,.bool z,i6 A,i6 B,i6 C,.own 1,i6 D,i6 q,.sl (.int .u8) s],.vec 5 (.int .u8) t false])):=by
  kernel_rfl
theorem wb (fuel:Nat):GOK Tryz.prog (wz fuel):=
  gc (fQ fuel) Tryz.func179 (by kernel_rfl) rfl <|
  gok_nil
theorem Ef (fuel:Nat):BlkOK Tryz.prog Tryz.f177.ntmps (.block 0 (.loop (bodyOf 0 Tryz.f177))) (lt fuel):=bo0 (wb fuel) (by kernel_rfl) (by kernel_rfl) (AT fuel)
def oL (F:dP):Ev.Spec:=fun args objs k=>match args,objs with | [.c (.ptr h i),.c (i6 j),.c (i6 l)],[.cells m [i6 n,i6 o,i6 p,.bool q,i6 s,i6 t,i6 u,.own v,i6 w,i6 a,.sl (.int .u8) b],.vec x (.int .u8) d false]=>bif qb [h,i,m,v,x] [0,0,230,1,5] then F j l n o p q s t u w a b d (fun r=>match r with | (y,z,A,B,C,D,E,G,H,I,e,f,g)=>k (.tup [(false,[.int .u8 y]),(false,[.bool z])],[.cells 230 [i6 A,i6 B,i6 C,.bool D,i6 E,i6 G,i6 H,.own 1,i6 I,i6 e,.sl (.int .u8) f],.vec 5 (.int .u8) g false])) else none | _,_=>none
theorem Do (fuel:Nat):FnOK Tryz.prog 177 (oL (dm fuel)):=by
  intro args objs kk r h
  unfold oL at h
  split at h
  · skip
    obtain ⟨hb,h⟩:=cond_some' h
    cases qb_eq hb
    exact fo1 (wb fuel) Tryz.func177 rfl (Ef fuel) (by kernel_rfl) _ _ kk r ((Gd fuel (ad fuel) _ _ _ _ _ _ _ _ _ _ _ _ _ kk).trans h)
  · cases h
end
end Go.Proofs.YtohnjbmiaegofaaGreat

