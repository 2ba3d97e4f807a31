/- What the functions that SymbolGoes reaches do: their typed texts, each with the proof that the machine does it. No condition. -/
import Derived.Test.YtohnjbmiaegofaaGreatEvX
import Derived.Test.YtohnjbmiaegofaaGreatFsSymbolGoes1
set_option linter.unusedVariables false
set_option linter.unusedSimpArgs false
set_option linter.unusedSectionVars false
set_option linter.unusedVariables false
set_option linter.unusedSimpArgs false
set_option maxRecDepth 100000
set_option maxHeartbeats 2000000
namespace Go.Proofs.YtohnjbmiaegofaaGreat
open Go Ev Tryz
open Go.IntKind (i64 u64 u8 i32 u32 u16)
noncomputable section
def K4 (i:Nat):Option (List Nat):=Ev.look i []
def KO (f:Nat):Option Ev.Spec:=Ev.look f []
def CR (Z:Nat):Nat→Option Ev.Spec:=KO
def aJ (Z:Nat) (a:Int) (k0:(Int×Int)→OA):OA:=k0 (a,bif decide (47 < i64.wrap (a+1)) then 47 else i64.wrap (a+1))
abbrev bh:Type:=Int→((Int×Int)→OA)→OA
theorem Eu (Z:Nat) (a:Int) (k:Ev.Cont):evalFn tab (CR Z) J0 K4 Z Tryz.f180 [.c (.ptr 0 0)] [.cells 233 [i6 a]] k=aJ Z a (fun r=>match r with | (b,d)=>k (.c (i6 b),[.cells 233 [i6 d]])):=by
 kernel_rfl
theorem FO (Z:Nat):GOK prog (CR Z):=
 gok_nil
def lG (F:bh):Ev.Spec:=fun args objs k=>match args,objs with | [.c (.ptr a b)],[.cells d [i6 e]]=>bif qb [a,b,d] [0,0,233] then F e (fun r=>match r with | (f,g)=>k (.c (i6 f),[.cells 233 [i6 g]])) else none | _,_=>none
theorem CZ (Z:Nat):FnOK prog 180 (lG (aJ Z)):=by
 intro args objs kk r h
 unfold lG at h
 split at h
 ·skip
  obtain ⟨hb,h⟩:=cond_some' h
  cases qb_eq hb
  exact fo0 (FO Z) func180 rfl kr _ _ kk r ((Eu Z _ kk).trans h)
 ·cases h
def cJ (i:Nat):Option (List Nat):=Ev.look i [(7,[0,3,5,6,7,32,33]),(15,[0,3,5,6,7,9,10]),(100000,[0,3,5,6,7]),(100002,[0,3,5]),(400000,[4]),(400002,[4])]
def mH (a:bZ) (b:bh) (f:Nat):Option Ev.Spec:=Ev.look f [(127,ns a),(180,lG b)]
def nS (Z:Nat):Nat→Option Ev.Spec:=mH (cg Z) (aJ Z)
abbrev pU:Type:=Int×Int×Int×Int×Int×Bool×Int×(List (Int×Int))
abbrev vu:Type:=(Int×Int×Int×Bool×Int×(List (Int×Int))→OA)
def mB (Z:Nat) (k:bZ) (l:bh) (a f:Int) (g h d:Int) (i:Bool) (j:Int) (e:(List (Int×Int))) (c:pU→OA) (B:vu):OA:=match B with | b=>bif decide (d < h) then bif decide ((e.length+ [(i64.wrap (i64.wrap (a+(1:Int))+d),(1:Int))].length)*(16:Nat)≤(140737488355328:Nat)∧e.length+ [(i64.wrap (i64.wrap (a+(1:Int))+d),(1:Int))].length≤(140737488355328:Nat)) then c (a,f,g,h,i64.wrap (d+(1:Int)),i,j,e++ [(i64.wrap (i64.wrap (a+(1:Int))+d),(1:Int))]) else none else b (a,f,g,i,j,e)
def iH (Z:Nat) (v:Int×Int×Int×Int×Int×Bool×Int×(List (Int×Int))) (c:(Int×Int×Int×Int×Int×Bool×Int×(List (Int×Int)))→OA) (B:(Int×Int×Int×Bool×Int×(List (Int×Int))→OA)):OA:=match v with | (a,b,d,e,f,g,h,i)=>mB Z (cg Z) (aJ Z) a b d e f g h i c B
def AP (Z:Nat) (v:pU) (b:vu):OA:=iter (iH Z) Z v b
def xU (v:pU):Ev.St:=match v with | (a,b,d,e,f,g,h,i)=>⟨[(0,.c (i6 a)),(3,.c (.ptr 0 0)),(5,.c (.own 1)),(6,.c (i6 b)),(7,.c (i6 d)),(32,.c (i6 e)),(33,.c (i6 f))],[(0,.cells 105 [.bool g,i6 h]),(1,.vec 163 (.pair ti ti) i true)],2,0⟩
def tM (K:KT):vu:=(fun v=>match v with | (a,b,d,e,f,g)=>K .normal ⟨[(0,.c (i6 a)),(3,.c (.ptr 0 0)),(5,.c (.own 1)),(6,.c (i6 b)),(7,.c (i6 d))],[(0,.cells 105 [.bool e,i6 f]),(1,.vec 163 (.pair ti ti) g true)],2,0⟩)
theorem H4 (Z:Nat) (a:bZ) (b:bh) (R:Ev.St→OA) (K:KT) (c d:Int) (e f g:Int) (h:Bool) (i:Int) (j:(List (Int×Int))):evalCode tab (mH a b) J0 cJ Z (bodyOf 0 Tryz.f140) (xU (c,d,e,f,g,h,i,j)) (lc cJ 7 0 R K)=mB Z a b c d e f g h i j (fun v=>R (xU v)) (tM K):=by
 kernel_rfl
def gT (Z:Nat):Ev.Blk:=fun st K=>match canonO (cJ 7) st with | some s=>(match s with | ⟨[(h,.c (i6 i)),(j,.c (.ptr k l)),(m,.c (.own n)),(o,.c (i6 p)),(q,.c (i6 r)),(t,.c (i6 u)),(v,.c (i6 w))],[(a,.cells b [.bool x,i6 y]),(d,.vec e (.pair ti ti) z true)],f,g⟩=>bif qb [h,j,k,l,m,n,o,q,t,v,a,b,d,e,f,g] [0,3,0,0,5,1,6,7,32,33,0,105,1,163,2,0] then iter (iH Z) Z (i,p,r,u,w,x,y,z) (tM K) else none | _=>none) | none=>none
theorem L9 (Z:Nat) (st:Ev.St) (K:KT) (r:Ans) (h:gT Z st K=some r):evalCode tab (nS Z) J0 cJ Z (.block 0 (.loop (bodyOf 0 Tryz.f140))) st K=some r:=by
 unfold gT at h
 split at h
 ·rename_i s hs
  split at h
  ·skip
   obtain ⟨hb,h⟩:=cond_some' h
   cases qb_eq hb
   exact blk_loop (S:=xU) (ks:=tM) (step:=iH Z) (v:=(_,_,_,_,_,_,_,_)) kr kr (fun R K v=>by obtain ⟨a,b,c,d,e,f,g,i⟩:=v; exact H4 Z (cg Z) (aJ Z) R K a b c d e f g i) hs h
  ·cases h
 ·cases h
abbrev xz:Type:=Int×Int×Int×Int×Bool×Int×(List (Int×Int))×Int
abbrev tj:Type:=(Int×Bool×Int×(List (Int×Int))→OA)
def nW (Z:Nat) (n:bZ) (l:bh) (d e:Int) (g a:Int) (i:Bool) (j:Int) (f:(List (Int×Int))) (k:Int) (c:xz→OA) (B:tj):OA:=match B with | b=>bif decide (a≥0) then bif decide (a < i64.wrap (g - 1)) then (l k (fun (h,m)=>bif decide (a < 0) then none else bif decide ((f.length+ [(i64.wrap (d+h),Ev.iand IntKind.i64 (Ev.ishr IntKind.i64 e a) (1:Int))].length)*(16:Nat)≤(140737488355328:Nat)∧f.length+ [(i64.wrap (d+h),Ev.iand IntKind.i64 (Ev.ishr IntKind.i64 e a) (1:Int))].length≤(140737488355328:Nat)) then c (d,e,g,i64.wrap (a - (1:Int)),i,j,f++ [(i64.wrap (d+h),Ev.iand IntKind.i64 (Ev.ishr IntKind.i64 e a) (1:Int))],m) else none)) else bif decide (a < 0) then none else bif decide ((f.length+ [(i64.wrap (d+i64.wrap ((23:Int)+g)),Ev.iand IntKind.i64 (Ev.ishr IntKind.i64 e a) (1:Int))].length)*(16:Nat)≤(140737488355328:Nat)∧f.length+ [(i64.wrap (d+i64.wrap ((23:Int)+g)),Ev.iand IntKind.i64 (Ev.ishr IntKind.i64 e a) (1:Int))].length≤(140737488355328:Nat)) then c (d,e,g,i64.wrap (a - (1:Int)),i,j,f++ [(i64.wrap (d+i64.wrap ((23:Int)+g)),Ev.iand IntKind.i64 (Ev.ishr IntKind.i64 e a) (1:Int))],k) else none else b (d,i,j,f)
def ic (Z:Nat) (v:Int×Int×Int×Int×Bool×Int×(List (Int×Int))×Int) (c:(Int×Int×Int×Int×Bool×Int×(List (Int×Int))×Int)→OA) (B:(Int×Bool×Int×(List (Int×Int))→OA)):OA:=match v with | (a,b,d,e,f,g,h,i)=>nW Z (cg Z) (aJ Z) a b d e f g h i c B
def md (Z:Nat) (v:xz) (b:tj):OA:=iter (ic Z) Z v b
def zf (Z:Nat) (i:Nat):Option Ev.Blk:=Ev.look i [(100000,gT Z)]
def tA (v:xz):Ev.St:=match v with | (a,b,d,e,f,g,h,i)=>⟨[(0,.c (i6 a)),(3,.c (.ptr 0 0)),(5,.c (.own 1)),(6,.c (i6 b)),(7,.c (i6 d)),(9,.c (.ptr 2 0)),(10,.c (i6 e))],[(0,.cells 105 [.bool f,i6 g]),(1,.vec 163 (.pair ti ti) h true),(2,.cells 233 [i6 i])],3,0⟩
def tW (K:KT):tj:=(fun v=>match v with | (a,b,d,e)=>K .normal ⟨[(0,.c (i6 a)),(3,.c (.ptr 0 0)),(5,.c (.own 1))],[(0,.cells 105 [.bool b,i6 d]),(1,.vec 163 (.pair ti ti) e true)],2,0⟩)
theorem La (Z:Nat) (a:bZ) (b:bh) (R:Ev.St→OA) (K:KT) (c d:Int) (e f:Int) (g:Bool) (h:Int) (i:(List (Int×Int))) (j:Int):evalCode tab (mH a b) (zf Z) cJ Z (bodyOf 2 Tryz.f140) (tA (c,d,e,f,g,h,i,j)) (lc cJ 15 2 R K)=nW Z a b c d e f g h i j (fun v=>R (tA v)) (tW K):=by
 kernel_rfl
def jh (Z:Nat):Ev.Blk:=fun st K=>match canonO (cJ 15) st with | some s=>(match s with | ⟨[(l,.c (i6 m)),(n,.c (.ptr o p)),(q,.c (.own r)),(t,.c (i6 u)),(v,.c (i6 w)),(x,.c (.ptr y a)),(b,.c (i6 z))],[(d,.cells e [.bool A,i6 B]),(f,.vec g (.pair ti ti) C true),(h,.cells i [i6 D])],j,k⟩=>bif qb [l,n,o,p,q,r,t,v,x,y,a,b,d,e,f,g,h,i,j,k] [0,3,0,0,5,1,6,7,9,2,0,10,0,105,1,163,2,233,3,0] then iter (ic Z) Z (m,u,w,z,A,B,C,D) (tW K) else none | _=>none) | none=>none
theorem OE (Z:Nat) (st:Ev.St) (K:KT) (r:Ans) (h:jh Z st K=some r):evalCode tab (nS Z) (zf Z) cJ Z (.block 2 (.loop (bodyOf 2 Tryz.f140))) st K=some r:=by
 unfold jh at h
 split at h
 ·rename_i s hs
  split at h
  ·skip
   obtain ⟨hb,h⟩:=cond_some' h
   cases qb_eq hb
   exact blk_loop (S:=tA) (ks:=tW) (step:=ic Z) (v:=(_,_,_,_,_,_,_,_)) kr kr (fun R K v=>by obtain ⟨a,b,c,d,e,f,g,i⟩:=v; exact La Z (cg Z) (aJ Z) R K a b c d e f g i) hs h
  ·cases h
 ·cases h
def rA (Z:Nat) (i:Nat):Option Ev.Blk:=Ev.look i [(100000,gT Z),(100002,jh Z)]
def pz (Z:Nat) (n:bZ) (p:bh) (h:Int) (l:Bool) (c:Int) (k0:((List (Int×Int)))→OA):OA:=bif l then k0 ([(h,1)]) else (n (u64.wrap (i64.wrap ((bif decide (i64.wrap (0 - c) > c) then i64.wrap (0 - c) else c)+1))) (fun m=>(AP Z (h,i64.wrap ((bif decide (i64.wrap (0 - c) > c) then i64.wrap (0 - c) else c)+1),i64.wrap (m - 1),i64.wrap (m - 1),0,l,c,[(h,0)]) (fun (e,i,d,j,k,g)=>bif decide (d < 20) then bif decide ((g.length+ [(i64.wrap (i64.wrap (e+(1:Int))+d),(0:Int))].length)*(16:Nat)≤(140737488355328:Nat)∧g.length+ [(i64.wrap (i64.wrap (e+(1:Int))+d),(0:Int))].length≤(140737488355328:Nat)) then (md Z (e,i,d,i64.wrap (d - (1:Int)),j,k,g++ [(i64.wrap (i64.wrap (e+(1:Int))+d),(0:Int))],(44:Int)) (fun (b,o,f,a)=>bif f != 0 then bif decide (f < 0) then bif decide ((a.length+ [(i64.wrap (b+(22:Int)),(1:Int))].length)*(16:Nat)≤(140737488355328:Nat)∧a.length+ [(i64.wrap (b+(22:Int)),(1:Int))].length≤(140737488355328:Nat)) then k0 (a++ [(i64.wrap (b+(22:Int)),(1:Int))]) else none else bif decide ((a.length+ [(i64.wrap (b+(22:Int)),(0:Int))].length)*(16:Nat)≤(140737488355328:Nat)∧a.length+ [(i64.wrap (b+(22:Int)),(0:Int))].length≤(140737488355328:Nat)) then k0 (a++ [(i64.wrap (b+(22:Int)),(0:Int))]) else none else k0 a)) else none else (md Z (e,i,d,i64.wrap (d - 1),j,k,g,44) (fun (b,o,f,a)=>bif f != 0 then bif decide (f < 0) then bif decide ((a.length+ [(i64.wrap (b+(22:Int)),(1:Int))].length)*(16:Nat)≤(140737488355328:Nat)∧a.length+ [(i64.wrap (b+(22:Int)),(1:Int))].length≤(140737488355328:Nat)) then k0 (a++ [(i64.wrap (b+(22:Int)),(1:Int))]) else none else bif decide ((a.length+ [(i64.wrap (b+(22:Int)),(0:Int))].length)*(16:Nat)≤(140737488355328:Nat)∧a.length+ [(i64.wrap (b+(22:Int)),(0:Int))].length≤(140737488355328:Nat)) then k0 (a++ [(i64.wrap (b+(22:Int)),(0:Int))]) else none else k0 a))))))
abbrev mM:Type:=Int→Bool→Int→(((List (Int×Int)))→OA)→OA
def fE (Z:Nat):mM:=pz Z (cg Z) (aJ Z)
theorem Hm (Z:Nat) (a:bZ) (b:bh) (d:Int) (e:Bool) (f:Int) (k:Ev.Cont):evalFn tab (mH a b) (rA Z) cJ Z Tryz.f140 [.c (i6 d),.agg [.bool e,i6 f]] [] k=pz Z a b d e f (fun r=>match r with | g=>k (.c (.own 0),[.vec 163 (.pair ti ti) g true])):=by
 kernel_rfl
theorem wH (Z:Nat):GOK prog (nS Z):=
 gc (Dt Z) func127 kr rfl <|
 gc (CZ Z) func180 kr rfl <|
 gok_nil
theorem EY (Z:Nat):BlkOK prog Tryz.f140.ntmps (.block 0 (.loop (bodyOf 0 Tryz.f140))) (gT Z):=bo0 (wH Z) kr kr (L9 Z)
theorem Nn (Z:Nat):BlkOK prog Tryz.f140.ntmps (.block 2 (.loop (bodyOf 2 Tryz.f140))) (jh Z):=bo0 (wH Z) kr kr (OE Z)
theorem GZ (Z:Nat):FnOK prog 140 (evalFn tab (nS Z) (rA Z) cJ Z Tryz.f140):=
 fn_ok tab_ok (wH Z) mixed func140 (c:=(Tryz.f140.body).getD .skip) rfl (fun q hq=>by
  rw [(by kernel_rfl:obl (rA Z) ((Tryz.f140.body).getD .skip)= [(.block 0 (.loop (bodyOf 0 Tryz.f140)),gT Z),(.block 2 (.loop (bodyOf 2 Tryz.f140)),jh Z)])] at hq
  simp only [List.mem_cons,List.not_mem_nil,or_false] at hq
  rcases hq with rfl | rfl
  ·exact EY Z
  ·exact Nn Z)
def wX (F:mM):Ev.Spec:=fun args objs k=>match args,objs with | [.c (i6 a),.agg [.bool b,i6 d]],[]=>F a b d (fun r=>match r with | e=>k (.c (.own 0),[.vec 163 (.pair ti ti) e true])) | _,_=>none
theorem Md (Z:Nat):FnOK prog 140 (wX (fE Z)):=by
 intro args objs kk r h
 unfold wX at h
 split at h
 ·skip
  exact GZ Z _ _ kk r ((Hm Z (cg Z) (aJ Z) _ _ _ kk).trans h)
 ·cases h
def IA (i:Nat):Option (List Nat):=Ev.look i []
def IY (f:Nat):Option Ev.Spec:=Ev.look f []
def Bu (Z:Nat):Nat→Option Ev.Spec:=IY
def au (Z:Nat) (d:Int) (b:LI) (a c:Int) (k0:(Int)→OA):OA:=bif decide (a < 0) then k0 (2) else bif decide (a > i64.wrap ((↑b.length:Int) - c)) then k0 (2) else k0 (0)
abbrev bo:Type:=Int→LI→Int→Int→(Int→OA)→OA
theorem G6 (Z:Nat) (a:Int) (b:LI) (d e:Int) (k:Ev.Cont):evalFn tab (Bu Z) J0 IA Z Tryz.f138 [.agg [i6 a,.sl ti b],.c (i6 d),.c (i6 e)] [] k=au Z a b d e (fun r=>match r with | f=>k (.c (i6 f),[])):=by
 kernel_rfl
theorem Pt (Z:Nat):GOK prog (Bu Z):=
 gok_nil
def iu (F:bo):Ev.Spec:=fun args objs k=>match args,objs with | [.agg [i6 a,.sl ti b],.c (i6 d),.c (i6 e)],[]=>F a b d e (fun r=>match r with | f=>k (.c (i6 f),[])) | _,_=>none
theorem nu (Z:Nat):FnOK prog 138 (iu (au Z)):=by
 intro args objs kk r h
 unfold iu at h
 split at h
 ·skip
  exact fo0 (Pt Z) func138 rfl kr _ _ kk r ((G6 Z _ _ _ _ kk).trans h)
 ·cases h
def i0 (i:Nat):Option (List Nat):=Ev.look i [(2,[0,8,9,10,1000002]),(100000,[]),(400000,[4,1000002])]
def uL (a:ai) (f:Nat):Option Ev.Spec:=Ev.look f [(132,dI a)]
def CW (Z:Nat):Nat→Option Ev.Spec:=uL (ab Z)
abbrev pW:Type:=(List (Int×Int))×Int×Int×Int×Int×Int×Bool×LI×LI
abbrev zq:Type:=(Int×Int×Int×Int×Bool×LI×LI→OA)×(Int×Int×Int×Bool×LI×LI→OA)
def nz (Z:Nat) (s:ai) (k:(List (Int×Int))) (l a:Int) (m n o:Int) (p:Bool) (q r:LI) (c:pW→OA) (B:zq):OA:=match B with | (ret,b)=>bif decide (a < l) then bif decide (0≤a∧a < (↑k.length:Int)) then (s ((k.getD a.toNat (0,0)).fst) ((k.getD a.toNat (0,0)).snd) m n o p q r (fun (d,e,f,g,h,i,j)=>bif d != 0 then ret (d,e,f,g,h,i,j) else c (k,l,i64.wrap (a+1),e,f,g,h,i,j)) (fun (d,e,f,g,h,i,j)=>bif d != 0 then ret (d,e,f,g,h,i,j) else c (k,l,i64.wrap (a+1),e,f,g,h,i,j))) else none else b (m,n,o,p,q,r)
def iM (Z:Nat) (v:(List (Int×Int))×Int×Int×Int×Int×Int×Bool×LI×LI) (c:((List (Int×Int))×Int×Int×Int×Int×Int×Bool×LI×LI)→OA) (B:(Int×Int×Int×Int×Bool×LI×LI→OA)×(Int×Int×Int×Bool×LI×LI→OA)):OA:=match v with | (a,b,d,e,f,g,h,i,j)=>nz Z (ab Z) a b d e f g h i j c B
def D7 (Z:Nat) (v:pW) (ret:(Int×Int×Int×Int×Bool×LI×LI→OA)) (b:(Int×Int×Int×Bool×LI×LI→OA)):OA:=iter (iM Z) Z v (ret,b)
def tz (v:pW):Ev.St:=match v with | (a,b,d,e,f,g,h,i,j)=>⟨[(0,.c (.ptr 0 0)),(8,.c (.sl (.pair ti ti) a)),(9,.c (i6 b)),(10,.c (i6 d))],[(0,.cells 138 (i6 e::.own 1::ctb (.int .u64 f::.int .u64 g::.own 2::.bool h::[]))),(1,.vec 3 ti i false),(2,.vec 5 (.int .u8) j true)],3,3⟩
def sF (K:KT):zq:=((fun v=>match v with | (a,b,d,e,f,g,h)=>K .ret ⟨[(4,.c (i6 a))],[(0,.cells 138 (i6 b::.own 1::ctb (.int .u64 d::.int .u64 e::.own 2::.bool f::[]))),(1,.vec 3 ti g false),(2,.vec 5 (.int .u8) h true)],3,3⟩),(fun v=>match v with | (a,b,d,e,f,g)=>K .normal ⟨[],[(0,.cells 138 (i6 a::.own 1::ctb (.int .u64 b::.int .u64 d::.own 2::.bool e::[]))),(1,.vec 3 ti f false),(2,.vec 5 (.int .u8) g true)],3,3⟩))
theorem Qn (Z:Nat) (a:ai) (R:Ev.St→OA) (K:KT) (b:(List (Int×Int))) (c d:Int) (e f g:Int) (h:Bool) (i j:LI):evalCode tab (uL a) J0 i0 Z (bodyOf 0 Tryz.f139) (tz (b,c,d,e,f,g,h,i,j)) (lc i0 2 0 R K)=nz Z a b c d e f g h i j (fun v=>R (tz v)) (sF K):=by
 kernel_rfl
def mf (Z:Nat):Ev.Blk:=fun st K=>match canonO (i0 2) st with | some s=>(match s with | ⟨[(i,.c (.ptr j k)),(l,.c (.sl (.pair ti ti) m)),(n,.c (i6 o)),(p,.c (i6 q))],[(r,.cells t a),(u,.vec v ti w false),(b,.vec d (.int .u8) x true)],e,f⟩=>(match splitRun 2 ctn a with | some ([i6 y,.own g],[.int .u64 z,.int .u64 A,.own h,.bool B])=>bif qb [i,j,k,l,n,p,r,t,u,v,b,d,e,f,g,h] [0,0,0,8,9,10,0,138,1,3,2,5,3,3,1,2] then iter (iM Z) Z (m,o,q,y,z,A,B,w,x) (sF K) else none | _=>none) | _=>none) | none=>none
theorem I6 (Z:Nat) (st:Ev.St) (K:KT) (r:Ans) (h:mf Z st K=some r):evalCode tab (CW Z) J0 i0 Z (.block 0 (.loop (bodyOf 0 Tryz.f139))) st K=some r:=by
 unfold mf at h
 split at h
 ·rename_i s hs
  split at h
  ·skip
   split at h
   rotate_left 1
   ·cases h
   rename_i hsp
   have esp:=splitRun_eq hsp
   subst esp
   obtain ⟨hb,h⟩:=cond_some' h
   cases qb_eq hb
   exact blk_loop (S:=tz) (ks:=sF) (step:=iM Z) (v:=(_,_,_,_,_,_,_,_,_)) kr kr (fun R K v=>by obtain ⟨a,b,c,d,e,f,g,i,j⟩:=v; exact Qn Z (ab Z) R K a b c d e f g i j) hs h
  ·cases h
 ·cases h
def LW (Z:Nat) (i:Nat):Option Ev.Blk:=Ev.look i [(100000,mf Z)]
def sN (Z:Nat) (n:ai) (a:(List (Int×Int))) (h i j:Int) (k:Bool) (l m:LI) (k0:(Int×Int×Int×Int×Bool×LI×LI)→OA):OA:=(D7 Z (a,(↑a.length:Int),0,h,i,j,k,l,m) (fun (ret0_0,ret0_1,ret0_2,ret0_3,ret0_4,ret0_5,ret0_6)=>k0 (ret0_0,ret0_1,ret0_2,ret0_3,ret0_4,ret0_5,ret0_6)) (fun (b,c,d,e,f,g)=>k0 (0,b,c,d,e,f,g)))
abbrev el:Type:=((List (Int×Int)))→Int→Int→Int→Bool→LI→LI→((Int×Int×Int×Int×Bool×LI×LI)→OA)→OA
def bU (Z:Nat):el:=sN Z (ab Z)
theorem Me (Z:Nat) (a:ai) (b:(List (Int×Int))) (d e f:Int) (g:Bool) (h i:LI) (k:Ev.Cont):evalFn tab (uL a) (LW Z) i0 Z Tryz.f139 [.c (.ptr 0 0),.c (.sl (.pair ti ti) b)] [.cells 138 (i6 d::.own 1::ctb (.int .u64 e::.int .u64 f::.own 2::.bool g::[])),.vec 3 ti h false,.vec 5 (.int .u8) i false] k=sN Z a b d e f g h i (fun r=>match r with | (j,l,m,n,o,p,q)=>k (.c (i6 j),[.cells 138 (i6 l::.own 1::ctb (.int .u64 m::.int .u64 n::.own 2::.bool o::[])),.vec 3 ti p false,.vec 5 (.int .u8) q true])):=by
 kernel_rfl
theorem zQ (Z:Nat):GOK prog (CW Z):=
 gc (ef Z) func132 kr rfl <|
 gok_nil
theorem LB (Z:Nat):BlkOK prog Tryz.f139.ntmps (.block 0 (.loop (bodyOf 0 Tryz.f139))) (mf Z):=bo0 (zQ Z) kr kr (I6 Z)
def oy (F:el):Ev.Spec:=fun args objs k=>match args,objs with | [.c (.ptr b d),.c (.sl (.pair ti ti) e)],[.cells f a,.vec g ti h false,.vec i (.int .u8) j false]=>(match splitRun 2 ctn a with | some ([i6 l,.own m],[.int .u64 n,.int .u64 o,.own p,.bool q])=>bif qb [b,d,f,g,i,m,p] [0,0,138,3,5,1,2] then F e l n o q h j (fun r=>match r with | (s,t,u,v,w,x,y)=>k (.c (i6 s),[.cells 138 (i6 t::.own 1::ctb (.int .u64 u::.int .u64 v::.own 2::.bool w::[])),.vec 3 ti x false,.vec 5 (.int .u8) y true])) else none | _=>none) | _,_=>none
theorem DQ (Z:Nat):FnOK prog 139 (oy (bU Z)):=by
 intro args objs kk r h
 unfold oy at h
 split at h
 ·skip
  split at h
  rotate_left 1
  ·cases h
  rename_i hsp
  have esp:=splitRun_eq hsp
  subst esp
  obtain ⟨hb,h⟩:=cond_some' h
  cases qb_eq hb
  exact fo1 (zQ Z) func139 rfl (LB Z) kr _ _ kk r ((Me Z (ab Z) _ _ _ _ _ _ _ kk).trans h)
 ·cases h
def Bh (i:Nat):Option (List Nat):=Ev.look i [(600000,[])]
def AT (c:aC) (a:ai) (d:pm) (e:bo) (b:el) (g:mM) (f:Nat):Option Ev.Spec:=Ev.look f [(35,fp c),(132,dI a),(137,xD d),(138,iu e),(139,oy b),(140,wX g)]
def Ac (Z:Nat):Nat→Option Ev.Spec:=AT (am Z) (ab Z) (dO Z) (au Z) (bU Z) (fE Z)
def bx (Z:Nat) (n:Int) (o:Bool) (p C:Int) (D E:Int) (F:Bool) (G H:LI) (k0:(Int×Int×Int×Int×Bool×LI×LI)→OA):OA:=(ab Z ((-1:Int)) (0) C D E F G H (fun (z,a,b,c,d,e,f)=>bif z==7 then k0 (7,a,b,c,d,e,f) else (dO Z o p (fun B=>bif !B then k0 (2,a,b,c,d,e,f) else (am Z a b c d e f (fun (q,g,h,i,j,k,l,r)=>(au Z q r n (48) (fun m=>bif m != 0 then k0 (m,g,h,i,j,k,l) else (fE Z n o p (fun A=>(bU Z A g h i j k l (fun (s,t,u,v,w,x,y)=>k0 (s,t,u,v,w,x,y)))))))))))) (fun (z,a,b,c,d,e,f)=>bif z==7 then k0 (7,a,b,c,d,e,f) else (dO Z o p (fun B=>bif !B then k0 (2,a,b,c,d,e,f) else (am Z a b c d e f (fun (q,g,h,i,j,k,l,r)=>(au Z q r n (48) (fun m=>bif m != 0 then k0 (m,g,h,i,j,k,l) else (fE Z n o p (fun A=>(bU Z A g h i j k l (fun (s,t,u,v,w,x,y)=>k0 (s,t,u,v,w,x,y)))))))))))))
abbrev ch:Type:=Int→Bool→Int→Int→Int→Int→Bool→LI→LI→((Int×Int×Int×Int×Bool×LI×LI)→OA)→OA
theorem Gb (Z:Nat) (u:aC) (K:ai) (E:pm) (F:bo) (t:el) (G:mM) (p:Int) (q:Bool) (s L:Int) (M N:Int) (O:Bool) (P Q:LI) (k:Ev.Cont):evalFn tab (AT u K E F t G) J0 Bh Z Tryz.f80 [.c (.ptr 0 0),.c (i6 p),.agg [.bool q,i6 s]] [.cells 138 (i6 L::.own 1::ctb (.int .u64 M::.int .u64 N::.own 2::.bool O::[])),.vec 3 ti P false,.vec 5 (.int .u8) Q false] (wkC [1000002] k)=(fun  (k0:(Int×Int×Int×Int×Bool×LI×LI)→OA)=>
 (K ((-1:Int)) ((0:Int)) L M N O P Q
 (fun (H,a,b,d,e,f,g)=>
 bif H==(7:Int) then
 k0 ((7:Int),a,b,d,e,f,g)
 else
 (E q s
 (fun J=>
 bif !J then
 k0 ((2:Int),a,b,d,e,f,g)
 else
 (u a b d e f g
 (fun (v,h,i,j,l,m,n,w)=>
 (F v w p ((48:Int))
 (fun o=>
 bif o != (0:Int) then
 k0 (o,h,i,j,l,m,n)
 else
 (G p q s
 (fun I=>
 (t I h i j l m n
 (fun (x,y,z,A,B,C,D)=>
 k0 (x,y,z,A,B,C,D))))))))))))
 (fun (H,a,b,d,e,f,g)=>
 bif H==(7:Int) then
 k0 ((7:Int),a,b,d,e,f,g)
 else
 (E q s
 (fun J=>
 bif !J then
 k0 ((2:Int),a,b,d,e,f,g)
 else
 (u a b d e f g
 (fun (v,h,i,j,l,m,n,w)=>
 (F v w p ((48:Int))
 (fun o=>
 bif o != (0:Int) then
 k0 (o,h,i,j,l,m,n)
 else
 (G p q s
 (fun I=>
 (t I h i j l m n
 (fun (x,y,z,A,B,C,D)=>
 k0 (x,y,z,A,B,C,D)))))))))))))) (fun r=>match r with | (R,S,T,U,V,W,X)=>k (.c (i6 R),[.cells 138 (i6 S::.own 1::ctb (.int .u64 T::.int .u64 U::.own 2::.bool V::[])),.vec 3 ti W false,.vec 5 (.int .u8) X true])):=by
 kernel_rfl
theorem NZ (Z:Nat):GOK prog (Ac Z):=
 gc (ij Z) func35 kr rfl <|
 gc (ef Z) func132 kr rfl <|
 gc (OS Z) func137 kr rfl <|
 gc (nu Z) func138 kr rfl <|
 gc (DQ Z) func139 kr rfl <|
 gc (Md Z) func140 kr rfl <|
 gok_nil
theorem LF (Z:Nat):FnOK prog 80 (evalFn tab (Ac Z) J0 Bh Z Tryz.f80):=
 fn_ok tab_ok (NZ Z) mixed func80 (c:=(Tryz.f80.body).getD .skip) rfl (fun q hq=>by
  rw [(by kernel_rfl:obl J0 ((Tryz.f80.body).getD .skip)= [])] at hq
  cases hq)
def oa (F:ch):Ev.Spec:=fun args objs k=>match args,objs with | [.c (.ptr b d),.c (i6 e),.agg [.bool f,i6 g]],[.cells h a,.vec i ti j false,.vec l (.int .u8) m false]=>(match splitRun 2 ctn a with | some ([i6 n,.own o],[.int .u64 p,.int .u64 q,.own s,.bool t])=>bif qb [b,d,h,i,l,o,s] [0,0,138,3,5,1,2] then F e f g n p q t j m (fun r=>match r with | (u,v,w,x,y,z,A)=>k (.c (i6 u),[.cells 138 (i6 v::.own 1::ctb (.int .u64 w::.int .u64 x::.own 2::.bool y::[])),.vec 3 ti z false,.vec 5 (.int .u8) A true])) else none | _=>none) | _,_=>none
def pP (Z:Nat):Ev.Spec:=oa (bx Z)
theorem qu (Z:Nat):FnOK prog 80 (pP Z):=by
 intro args objs kk r h
 unfold pP oa at h
 split at h
 ·skip
  split at h
  rotate_left 1
  ·cases h
  rename_i hsp
  have esp:=splitRun_eq hsp
  subst esp
  obtain ⟨hb,h⟩:=cond_some' h
  cases qb_eq hb
  exact (LF Z).wk [1000002] _ _ kk r ((Gb Z (am Z) (ab Z) (dO Z) (au Z) (bU Z) (fE Z) _ _ _ _ _ _ _ _ _ kk).trans h)
 ·cases h
def HZ (i:Nat):Option (List Nat):=Ev.look i [(200001,[0]),(200002,[0])]
def Hn (f:Nat):Option Ev.Spec:=Ev.look f []
def Dn (Z:Nat):Nat→Option Ev.Spec:=Hn
def bA (Z:Nat) (c d:Int) (e a:Int) (f g:Int) (h i:Bool) (j b:LI) (k0:(Int×Int×Int×Int×Int×Int×Bool×Bool×LI×LI)→OA):OA:=bif decide (a < (↑b.length:Int)) then bif decide (0≤a∧a < (↑b.length:Int)) then k0 (c,d,e,i64.wrap (a+1),Ev.ior IntKind.u64 (Ev.iand IntKind.u64 (Ev.ishl IntKind.u64 f 8) 4294967295) (u64.wrap (b.getD a.toNat 0)),g,h,i,j,b) else none else k0 (c,d,e,i64.wrap (a+1),Ev.ior IntKind.u64 (Ev.iand IntKind.u64 (Ev.ishl IntKind.u64 f 8) 4294967295) (u64.wrap 0),i64.wrap (g+1),h,i,j,b)
abbrev co:Type:=Int→Int→Int→Int→Int→Int→Bool→Bool→LI→LI→((Int×Int×Int×Int×Int×Int×Bool×Bool×LI×LI)→OA)→OA
theorem MY (Z:Nat) (a b:Int) (d e:Int) (f g:Int) (h i:Bool) (j l:LI) (k:Ev.Cont):evalFn tab (Dn Z) J0 HZ Z Tryz.f84 [.c (.ptr 0 0)] [.cells 147 (i6 a::.own 1::ctb (.int .u64 b::.int .u64 d::.own 2::i6 e::.int .u64 f::i6 g::.bool h::.bool i::[])),.vec 3 ti j false,.vec 5 (.int .u8) l false] k=bA Z a b d e f g h i j l (fun r=>match r with | (m,n,o,p,q,s,t,u,v,w)=>k (.tup [],[.cells 147 (i6 m::.own 1::ctb (.int .u64 n::.int .u64 o::.own 2::i6 p::.int .u64 q::i6 s::.bool t::.bool u::[])),.vec 3 ti v false,.vec 5 (.int .u8) w false])):=by
 kernel_rfl
theorem Ij (Z:Nat):GOK prog (Dn Z):=
 gok_nil
def mV (F:co):Ev.Spec:=fun args objs k=>match args,objs with | [.c (.ptr b d)],[.cells e a,.vec f ti g false,.vec h (.int .u8) i false]=>(match splitRun 2 ctn a with | some ([i6 j,.own l],[.int .u64 m,.int .u64 n,.own o,i6 p,.int .u64 q,i6 s,.bool t,.bool u])=>bif qb [b,d,e,f,h,l,o] [0,0,147,3,5,1,2] then F j m n p q s t u g i (fun r=>match r with | (v,w,x,y,z,A,B,C,D,E)=>k (.tup [],[.cells 147 (i6 v::.own 1::ctb (.int .u64 w::.int .u64 x::.own 2::i6 y::.int .u64 z::i6 A::.bool B::.bool C::[])),.vec 3 ti D false,.vec 5 (.int .u8) E false])) else none | _=>none) | _,_=>none
def ql (Z:Nat):Ev.Spec:=mV (bA Z)
theorem yK (Z:Nat):FnOK prog 84 (ql Z):=by
 intro args objs kk r h
 unfold ql mV at h
 split at h
 ·skip
  split at h
  rotate_left 1
  ·cases h
  rename_i hsp
  have esp:=splitRun_eq hsp
  subst esp
  obtain ⟨hb,h⟩:=cond_some' h
  cases qb_eq hb
  exact fo0 (Ij Z) func84 rfl kr _ _ kk r ((MY Z _ _ _ _ _ _ _ _ _ _ kk).trans h)
 ·cases h
def iJ (i:Nat):Option (List Nat):=Ev.look i [(11,[0,1,3,10,11,12,1000002]),(100000,[0,11]),(400000,[8]),(600000,[])]
def u6 (c:aC) (a:ai) (d:bo) (b:el) (f:Nat):Option Ev.Spec:=Ev.look f [(35,fp c),(132,dI a),(138,iu d),(139,oy b)]
def xq (Z:Nat):Nat→Option Ev.Spec:=u6 (am Z) (ab Z) (au Z) (bU Z)
abbrev si:Type:=Int×Int×Int×Int×Int×Int×Int×Bool×LI×LI×(List (Int×Int))
abbrev qJ:Type:=(Int×Int×Int×Bool×LI×LI×(List (Int×Int))→OA)
def lr (Z:Nat) (p:aC) (n:ai) (q:bo) (o:el) (f d:Int) (g a:Int) (h i j:Int) (k:Bool) (l m:LI) (e:(List (Int×Int))) (c:si→OA) (B:qJ):OA:=match B with | b=>bif decide (a≥0) then bif decide (a < 0) then none else bif decide ((e.length+ [(i64.wrap (i64.wrap (f+g) - (1:Int)),Ev.iand IntKind.i64 (Ev.ishr IntKind.i64 d a) (1:Int))].length)*(16:Nat)≤(140737488355328:Nat)∧e.length+ [(i64.wrap (i64.wrap (f+g) - (1:Int)),Ev.iand IntKind.i64 (Ev.ishr IntKind.i64 d a) (1:Int))].length≤(140737488355328:Nat)) then c (f,d,i64.wrap (i64.wrap ((2:Int)*g)+Ev.iand IntKind.i64 (Ev.ishr IntKind.i64 d a) (1:Int)),i64.wrap (a - (1:Int)),h,i,j,k,l,m,e++ [(i64.wrap (i64.wrap (f+g) - (1:Int)),Ev.iand IntKind.i64 (Ev.ishr IntKind.i64 d a) (1:Int))]) else none else b (h,i,j,k,l,m,e)
def gO (Z:Nat) (v:Int×Int×Int×Int×Int×Int×Int×Bool×LI×LI×(List (Int×Int))) (c:(Int×Int×Int×Int×Int×Int×Int×Bool×LI×LI×(List (Int×Int)))→OA) (B:(Int×Int×Int×Bool×LI×LI×(List (Int×Int))→OA)):OA:=match v with | (b,d,e,f,g,h,i,j,k,l,a)=>lr Z (am Z) (ab Z) (au Z) (bU Z) b d e f g h i j k l a c B
def jc (Z:Nat) (v:si) (b:qJ):OA:=iter (gO Z) Z v b
def yd (v:si):Ev.St:=match v with | (b,d,e,f,g,h,i,j,k,l,a)=>⟨[(0,.c (.ptr 0 0)),(1,.c (i6 b)),(3,.c (i6 d)),(10,.c (i6 e)),(11,.c (.own 3)),(12,.c (i6 f))],[(0,.cells 138 (i6 g::.own 1::ctb (.int .u64 h::.int .u64 i::.own 2::.bool j::[]))),(1,.vec 3 ti k false),(2,.vec 5 (.int .u8) l true),(3,.vec 163 (.pair ti ti) a true)],4,3⟩
def xW (K:KT):qJ:=(fun v=>match v with | (a,b,d,e,f,g,h)=>K .normal ⟨[(0,.c (.ptr 0 0)),(11,.c (.own 3))],[(0,.cells 138 (i6 a::.own 1::ctb (.int .u64 b::.int .u64 d::.own 2::.bool e::[]))),(1,.vec 3 ti f false),(2,.vec 5 (.int .u8) g true),(3,.vec 163 (.pair ti ti) h true)],4,3⟩)
theorem Gf (Z:Nat) (c:aC) (a:ai) (d:bo) (b:el) (R:Ev.St→OA) (K:KT) (f g:Int) (h i:Int) (j k l:Int) (m:Bool) (n o:LI) (e:(List (Int×Int))):evalCode tab (u6 c a d b) J0 iJ Z (bodyOf 0 Tryz.f134) (yd (f,g,h,i,j,k,l,m,n,o,e)) (lc iJ 11 0 R K)=lr Z c a d b f g h i j k l m n o e (fun v=>R (yd v)) (xW K):=by
 kernel_rfl
def kG (Z:Nat):Ev.Blk:=fun st K=>match canonO (iJ 11) st with | some s=>(match s with | ⟨[(o,.c (.ptr p q)),(r,.c (i6 t)),(u,.c (i6 v)),(w,.c (i6 x)),(y,.c (.own z)),(A,.c (i6 B))],[(C,.cells a b),(d,.vec e ti D false),(f,.vec g (.int .u8) E true),(h,.vec i (.pair ti ti) j true)],k,l⟩=>(match splitRun 2 ctn b with | some ([i6 F,.own m],[.int .u64 G,.int .u64 H,.own n,.bool I])=>bif qb [o,p,q,r,u,w,y,z,A,C,a,d,e,f,g,h,i,k,l,m,n] [0,0,0,1,3,10,11,3,12,0,138,1,3,2,5,3,163,4,3,1,2] then iter (gO Z) Z (t,v,x,B,F,G,H,I,D,E,j) (xW K) else none | _=>none) | _=>none) | none=>none
theorem E0 (Z:Nat) (st:Ev.St) (K:KT) (r:Ans) (h:kG Z st K=some r):evalCode tab (xq Z) J0 iJ Z (.block 0 (.loop (bodyOf 0 Tryz.f134))) st K=some r:=by
 unfold kG at h
 split at h
 ·rename_i s hs
  split at h
  ·skip
   split at h
   rotate_left 1
   ·cases h
   rename_i hsp
   have esp:=splitRun_eq hsp
   subst esp
   obtain ⟨hb,h⟩:=cond_some' h
   cases qb_eq hb
   exact blk_loop (S:=yd) (ks:=xW) (step:=gO Z) (v:=(_,_,_,_,_,_,_,_,_,_,_)) kr kr (fun R K v=>by obtain ⟨b,c,d,e,f,g,i,j,k,l,a⟩:=v; exact Gf Z (am Z) (ab Z) (au Z) (bU Z) R K b c d e f g i j k l a) hs h
  ·cases h
 ·cases h
def rZ (Z:Nat) (i:Nat):Option Ev.Blk:=Ev.look i [(100000,kG Z)]
def dq (Z:Nat) (p a:Int) (h H:Int) (I J:Int) (K:Bool) (L M:LI) (k0:(Int×Int×Int×Int×Bool×LI×LI)→OA):OA:=(ab Z ((-1:Int)) (0) H I J K L M (fun (z,b,c,d,e,f,g)=>bif z==7 then k0 (7,b,c,d,e,f,g) else bif decide (a < 0) then k0 (2,b,c,d,e,f,g) else bif decide (a > 10) then k0 (2,b,c,d,e,f,g) else bif decide (h < 0) then k0 (2,b,c,d,e,f,g) else bif decide (a < 0) then none else bif decide (h≥Ev.ishl IntKind.i64 1 a) then k0 (2,b,c,d,e,f,g) else bif decide (a < 0) then none else (am Z b c d e f g (fun (q,i,j,k,l,m,n,r)=>(au Z q r p (i64.wrap (Ev.ishl IntKind.i64 1 a - 1)) (fun o=>bif o != 0 then k0 (o,i,j,k,l,m,n) else (jc Z (p,h,1,i64.wrap (a - 1),i,j,k,l,m,n,[]) (fun (A,B,C,D,E,F,G)=>(bU Z G A B C D E F (fun (s,t,u,v,w,x,y)=>k0 (s,t,u,v,w,x,y)))))))))) (fun (z,b,c,d,e,f,g)=>bif z==7 then k0 (7,b,c,d,e,f,g) else bif decide (a < 0) then k0 (2,b,c,d,e,f,g) else bif decide (a > 10) then k0 (2,b,c,d,e,f,g) else bif decide (h < 0) then k0 (2,b,c,d,e,f,g) else bif decide (a < 0) then none else bif decide (h≥Ev.ishl IntKind.i64 1 a) then k0 (2,b,c,d,e,f,g) else bif decide (a < 0) then none else (am Z b c d e f g (fun (q,i,j,k,l,m,n,r)=>(au Z q r p (i64.wrap (Ev.ishl IntKind.i64 1 a - 1)) (fun o=>bif o != 0 then k0 (o,i,j,k,l,m,n) else (jc Z (p,h,1,i64.wrap (a - 1),i,j,k,l,m,n,[]) (fun (A,B,C,D,E,F,G)=>(bU Z G A B C D E F (fun (s,t,u,v,w,x,y)=>k0 (s,t,u,v,w,x,y)))))))))))
abbrev xX:Type:=Int→Int→Int→Int→Int→Int→Bool→LI→LI→((Int×Int×Int×Int×Bool×LI×LI)→OA)→OA
theorem GL (Z:Nat) (u:aC) (N:ai) (E:bo) (t:el) (s a:Int) (i O:Int) (P Q:Int) (R:Bool) (S T:LI) (k:Ev.Cont):evalFn tab (u6 u N E t) (rZ Z) iJ Z Tryz.f134 [.c (.ptr 0 0),.c (i6 s),.c (i6 a),.c (i6 i)] [.cells 138 (i6 O::.own 1::ctb (.int .u64 P::.int .u64 Q::.own 2::.bool R::[])),.vec 3 ti S false,.vec 5 (.int .u8) T false] (wkC [1000002] k)=(fun  (k0:(Int×Int×Int×Int×Bool×LI×LI)→OA)=>
 (N ((-1:Int)) ((0:Int)) O P Q R S T
 (fun (F,b,d,e,f,g,h)=>
 bif F==(7:Int) then
 k0 ((7:Int),b,d,e,f,g,h)
 else
 bif decide (a < (0:Int)) then
 k0 ((2:Int),b,d,e,f,g,h)
 else
 bif decide (a > (10:Int)) then
 k0 ((2:Int),b,d,e,f,g,h)
 else
 bif decide (i < (0:Int)) then
 k0 ((2:Int),b,d,e,f,g,h)
 else
 bif decide (a < (0:Int)) then
 none
 else
 bif decide (i≥Ev.ishl IntKind.i64 (1:Int) a) then
 k0 ((2:Int),b,d,e,f,g,h)
 else
 bif decide (a < (0:Int)) then
 none
 else
 (u b d e f g h
 (fun (v,j,l,m,n,o,p,w)=>
 (E v w s (i64.wrap (Ev.ishl IntKind.i64 (1:Int) a - (1:Int)))
 (fun q=>
 bif q != (0:Int) then
 k0 (q,j,l,m,n,o,p)
 else
 (jc Z (s,i,(1:Int),i64.wrap (a - (1:Int)),j,l,m,n,o,p,[])
 (fun (G,H,I,J,K,L,M)=>
 (t M G H I J K L
 (fun (x,y,z,A,B,C,D)=>
 k0 (x,y,z,A,B,C,D))))))))))
 (fun (F,b,d,e,f,g,h)=>
 bif F==(7:Int) then
 k0 ((7:Int),b,d,e,f,g,h)
 else
 bif decide (a < (0:Int)) then
 k0 ((2:Int),b,d,e,f,g,h)
 else
 bif decide (a > (10:Int)) then
 k0 ((2:Int),b,d,e,f,g,h)
 else
 bif decide (i < (0:Int)) then
 k0 ((2:Int),b,d,e,f,g,h)
 else
 bif decide (a < (0:Int)) then
 none
 else
 bif decide (i≥Ev.ishl IntKind.i64 (1:Int) a) then
 k0 ((2:Int),b,d,e,f,g,h)
 else
 bif decide (a < (0:Int)) then
 none
 else
 (u b d e f g h
 (fun (v,j,l,m,n,o,p,w)=>
 (E v w s (i64.wrap (Ev.ishl IntKind.i64 (1:Int) a - (1:Int)))
 (fun q=>
 bif q != (0:Int) then
 k0 (q,j,l,m,n,o,p)
 else
 (jc Z (s,i,(1:Int),i64.wrap (a - (1:Int)),j,l,m,n,o,p,[])
 (fun (G,H,I,J,K,L,M)=>
 (t M G H I J K L
 (fun (x,y,z,A,B,C,D)=>
 k0 (x,y,z,A,B,C,D)))))))))))) (fun r=>match r with | (U,V,W,X,Y,a0,a1)=>k (.c (i6 U),[.cells 138 (i6 V::.own 1::ctb (.int .u64 W::.int .u64 X::.own 2::.bool Y::[])),.vec 3 ti a0 false,.vec 5 (.int .u8) a1 true])):=by
 kernel_rfl
theorem Cw (Z:Nat):GOK prog (xq Z):=
 gc (ij Z) func35 kr rfl <|
 gc (ef Z) func132 kr rfl <|
 gc (nu Z) func138 kr rfl <|
 gc (DQ Z) func139 kr rfl <|
 gok_nil
theorem F7 (Z:Nat):BlkOK prog Tryz.f134.ntmps (.block 0 (.loop (bodyOf 0 Tryz.f134))) (kG Z):=bo0 (Cw Z) kr kr (E0 Z)
theorem Ey (Z:Nat):FnOK prog 134 (evalFn tab (xq Z) (rZ Z) iJ Z Tryz.f134):=
 fn_ok tab_ok (Cw Z) mixed func134 (c:=(Tryz.f134.body).getD .skip) rfl (fun q hq=>by
  rw [(by kernel_rfl:obl (rZ Z) ((Tryz.f134.body).getD .skip)= [(.block 0 (.loop (bodyOf 0 Tryz.f134)),kG Z)])] at hq
  simp only [List.mem_cons,List.not_mem_nil,or_false] at hq
  subst hq
  ·exact F7 Z)
def pt (F:xX):Ev.Spec:=fun args objs k=>match args,objs with | [.c (.ptr b d),.c (i6 e),.c (i6 f),.c (i6 g)],[.cells h a,.vec i ti j false,.vec l (.int .u8) m false]=>(match splitRun 2 ctn a with | some ([i6 n,.own o],[.int .u64 p,.int .u64 q,.own s,.bool t])=>bif qb [b,d,h,i,l,o,s] [0,0,138,3,5,1,2] then F e f g n p q t j m (fun r=>match r with | (u,v,w,x,y,z,A)=>k (.c (i6 u),[.cells 138 (i6 v::.own 1::ctb (.int .u64 w::.int .u64 x::.own 2::.bool y::[])),.vec 3 ti z false,.vec 5 (.int .u8) A true])) else none | _=>none) | _,_=>none
def qE (Z:Nat):Ev.Spec:=pt (dq Z)
theorem D0 (Z:Nat):FnOK prog 134 (qE Z):=by
 intro args objs kk r h
 unfold qE pt at h
 split at h
 ·skip
  split at h
  rotate_left 1
  ·cases h
  rename_i hsp
  have esp:=splitRun_eq hsp
  subst esp
  obtain ⟨hb,h⟩:=cond_some' h
  cases qb_eq hb
  exact (Ey Z).wk [1000002] _ _ kk r ((GL Z (am Z) (ab Z) (au Z) (bU Z) _ _ _ _ _ _ _ _ _ kk).trans h)
 ·cases h
def NQ (i:Nat):Option (List Nat):=Ev.look i []
def Qj (f:Nat):Option Ev.Spec:=Ev.look f []
def CK (Z:Nat):Nat→Option Ev.Spec:=Qj
def dK (Z:Nat) (b a:Int) (c d:Int) (e f:Int) (g h:Bool) (i j:LI) (k0:(Int×Int×Int×Int×Int×Int×Int×Bool×Bool×LI×LI)→OA):OA:=k0 (u8.wrap (Ev.ishr IntKind.u64 a 24),b,Ev.iand IntKind.u64 (Ev.ishl IntKind.u64 a 8) 4294967295,Ev.ior IntKind.u64 (Ev.iand IntKind.u64 (Ev.ishl IntKind.u64 c 8) 4294967295) 255,d,e,f,g,h,i,j)
abbrev iC:Type:=Int→Int→Int→Int→Int→Int→Bool→Bool→LI→LI→((Int×Int×Int×Int×Int×Int×Int×Bool×Bool×LI×LI)→OA)→OA
theorem F2 (Z:Nat) (a b:Int) (d e:Int) (f g:Int) (h i:Bool) (j l:LI) (k:Ev.Cont):evalFn tab (CK Z) J0 NQ Z Tryz.f168 [.c (.ptr 0 0)] [.cells 147 (i6 a::.own 1::ctb (.int .u64 b::.int .u64 d::.own 2::i6 e::.int .u64 f::i6 g::.bool h::.bool i::[])),.vec 3 ti j false,.vec 5 (.int .u8) l false] k=dK Z a b d e f g h i j l (fun r=>match r with | (n,o,p,q,s,t,u,v,w,x,m)=>k (.c (.int .u8 n),[.cells 147 (i6 o::.own 1::ctb (.int .u64 p::.int .u64 q::.own 2::i6 s::.int .u64 t::i6 u::.bool v::.bool w::[])),.vec 3 ti x false,.vec 5 (.int .u8) m false])):=by
 kernel_rfl
theorem Oq (Z:Nat):GOK prog (CK Z):=
 gok_nil
def vI (F:iC):Ev.Spec:=fun args objs k=>match args,objs with | [.c (.ptr d e)],[.cells f a,.vec g ti h false,.vec i (.int .u8) j false]=>(match splitRun 2 ctn a with | some ([i6 l,.own m],[.int .u64 n,.int .u64 o,.own p,i6 q,.int .u64 s,i6 t,.bool u,.bool v])=>bif qb [d,e,f,g,i,m,p] [0,0,147,3,5,1,2] then F l n o q s t u v h j (fun r=>match r with | (w,x,y,z,A,B,C,D,E,G,b)=>k (.c (.int .u8 w),[.cells 147 (i6 x::.own 1::ctb (.int .u64 y::.int .u64 z::.own 2::i6 A::.int .u64 B::i6 C::.bool D::.bool E::[])),.vec 3 ti G false,.vec 5 (.int .u8) b false])) else none | _=>none) | _,_=>none
theorem I7 (Z:Nat):FnOK prog 168 (vI (dK Z)):=by
 intro args objs kk r h
 unfold vI at h
 split at h
 ·skip
  split at h
  rotate_left 1
  ·cases h
  rename_i hsp
  have esp:=splitRun_eq hsp
  subst esp
  obtain ⟨hb,h⟩:=cond_some' h
  cases qb_eq hb
  exact fo0 (Oq Z) func168 rfl kr _ _ kk r ((F2 Z _ _ _ _ _ _ _ _ _ _ kk).trans h)
 ·cases h
def FV (i:Nat):Option (List Nat):=Ev.look i [(200001,[0])]
def zo (a:fW) (f:Nat):Option Ev.Spec:=Ev.look f [(194,lE a)]
def J5 (Z:Nat):Nat→Option Ev.Spec:=zo (cv Z)
def pg (Z:Nat) (g:fW) (b e:Int) (a c:Int) (i j k:Int) (l m:Bool) (d h:LI) (k0:(Int×Int×Int×Int×Int×Int×Int×Bool×Bool×LI×LI)→OA):OA:=bif decide (0≤b∧b < (↑d.length:Int)) then (g e (d.getD b.toNat 0) (fun f=>k0 (u64.wrap (u64.wrap (a+u64.wrap (u64.wrap ((u64.wrap (c - a)).tdiv 4096)*u64.wrap f))+u64.wrap ((u64.wrap ((u64.wrap (c - a)).tmod 4096*u64.wrap f)).tdiv 4096)),e,a,c,i,j,k,l,m,d,h))) else none
abbrev eM:Type:=Int→Int→Int→Int→Int→Int→Int→Bool→Bool→LI→LI→((Int×Int×Int×Int×Int×Int×Int×Bool×Bool×LI×LI)→OA)→OA
def eI (Z:Nat):eM:=pg Z (cv Z)
theorem Nq (Z:Nat) (a:fW) (d e:Int) (f g:Int) (h i j:Int) (l m:Bool) (n b:LI) (k:Ev.Cont):evalFn tab (zo a) J0 FV Z Tryz.f166 [.c (.ptr 0 0),.c (i6 d)] [.cells 147 (i6 e::.own 1::ctb (.int .u64 f::.int .u64 g::.own 2::i6 h::.int .u64 i::i6 j::.bool l::.bool m::[])),.vec 3 ti n false,.vec 5 (.int .u8) b false] k=pg Z a d e f g h i j l m n b (fun r=>match r with | (p,q,s,t,u,v,w,x,y,z,o)=>k (.c (.int .u64 p),[.cells 147 (i6 q::.own 1::ctb (.int .u64 s::.int .u64 t::.own 2::i6 u::.int .u64 v::i6 w::.bool x::.bool y::[])),.vec 3 ti z false,.vec 5 (.int .u8) o false])):=by
 kernel_rfl
theorem NL (Z:Nat):GOK prog (J5 Z):=
 gc (Ag Z) func194 kr rfl <|
 gok_nil
def va (F:eM):Ev.Spec:=fun args objs k=>match args,objs with | [.c (.ptr e f),.c (i6 g)],[.cells h a,.vec i ti j false,.vec l (.int .u8) b false]=>(match splitRun 2 ctn a with | some ([i6 m,.own n],[.int .u64 o,.int .u64 p,.own q,i6 s,.int .u64 t,i6 u,.bool v,.bool w])=>bif qb [e,f,h,i,l,n,q] [0,0,147,3,5,1,2] then F g m o p s t u v w j b (fun r=>match r with | (x,y,z,A,B,C,D,E,G,H,d)=>k (.c (.int .u64 x),[.cells 147 (i6 y::.own 1::ctb (.int .u64 z::.int .u64 A::.own 2::i6 B::.int .u64 C::i6 D::.bool E::.bool G::[])),.vec 3 ti H false,.vec 5 (.int .u8) d false])) else none | _=>none) | _,_=>none
theorem HC (Z:Nat):FnOK prog 166 (va (eI Z)):=by
 intro args objs kk r h
 unfold va at h
 split at h
 ·skip
  split at h
  rotate_left 1
  ·cases h
  rename_i hsp
  have esp:=splitRun_eq hsp
  subst esp
  obtain ⟨hb,h⟩:=cond_some' h
  cases qb_eq hb
  exact fo0 (NL Z) func166 rfl kr _ _ kk r ((Nq Z (cv Z) _ _ _ _ _ _ _ _ _ _ _ kk).trans h)
 ·cases h
def Ha (i:Nat):Option (List Nat):=Ev.look i [(200001,[0])]
def HW (f:Nat):Option Ev.Spec:=Ev.look f []
def Da (Z:Nat):Nat→Option Ev.Spec:=HW
def du (Z:Nat) (c a:Int) (b d:Int) (e f:Int) (g h:Bool) (i j:LI) (k0:(Bool×Int×Int×Int×Int×Int×Int×Bool×Bool×LI×LI)→OA):OA:=k0 (Ev.ishr IntKind.u64 a 24==Ev.ishr IntKind.u64 b 24,c,a,b,d,e,f,g,h,i,j)
abbrev hU:Type:=Int→Int→Int→Int→Int→Int→Bool→Bool→LI→LI→((Bool×Int×Int×Int×Int×Int×Int×Bool×Bool×LI×LI)→OA)→OA
theorem Gr (Z:Nat) (a b:Int) (d e:Int) (f g:Int) (h i:Bool) (j l:LI) (k:Ev.Cont):evalFn tab (Da Z) J0 Ha Z Tryz.f167 [.c (.ptr 0 0)] [.cells 147 (i6 a::.own 1::ctb (.int .u64 b::.int .u64 d::.own 2::i6 e::.int .u64 f::i6 g::.bool h::.bool i::[])),.vec 3 ti j false,.vec 5 (.int .u8) l false] k=du Z a b d e f g h i j l (fun r=>match r with | (n,o,p,q,s,t,u,v,w,x,m)=>k (.c (.bool n),[.cells 147 (i6 o::.own 1::ctb (.int .u64 p::.int .u64 q::.own 2::i6 s::.int .u64 t::i6 u::.bool v::.bool w::[])),.vec 3 ti x false,.vec 5 (.int .u8) m false])):=by
 kernel_rfl
theorem JA (Z:Nat):GOK prog (Da Z):=
 gok_nil
def rn (F:hU):Ev.Spec:=fun args objs k=>match args,objs with | [.c (.ptr d e)],[.cells f a,.vec g ti h false,.vec i (.int .u8) j false]=>(match splitRun 2 ctn a with | some ([i6 l,.own m],[.int .u64 n,.int .u64 o,.own p,i6 q,.int .u64 s,i6 t,.bool u,.bool v])=>bif qb [d,e,f,g,i,m,p] [0,0,147,3,5,1,2] then F l n o q s t u v h j (fun r=>match r with | (w,x,y,z,A,B,C,D,E,G,b)=>k (.c (.bool w),[.cells 147 (i6 x::.own 1::ctb (.int .u64 y::.int .u64 z::.own 2::i6 A::.int .u64 B::i6 C::.bool D::.bool E::[])),.vec 3 ti G false,.vec 5 (.int .u8) b false])) else none | _=>none) | _,_=>none
theorem MC (Z:Nat):FnOK prog 167 (rn (du Z)):=by
 intro args objs kk r h
 unfold rn at h
 split at h
 ·skip
  split at h
  rotate_left 1
  ·cases h
  rename_i hsp
  have esp:=splitRun_eq hsp
  subst esp
  obtain ⟨hb,h⟩:=cond_some' h
  cases qb_eq hb
  exact fo0 (JA Z) func167 rfl kr _ _ kk r ((Gr Z _ _ _ _ _ _ _ _ _ _ kk).trans h)
 ·cases h
def JO (i:Nat):Option (List Nat):=Ev.look i [(200003,[0])]
def zW (a:eX) (f:Nat):Option Ev.Spec:=Ev.look f [(193,lW a)]
def Fh (Z:Nat):Nat→Option Ev.Spec:=zW (cD Z)
def tT (Z:Nat) (f:eX) (a d:Int) (i c:Int) (n o:Int) (j k l:Int) (m g:Bool) (b h:LI) (k0:(Int×Int×Int×Int×Int×Int×Bool×Bool×LI×LI)→OA):OA:=bif d==1 then bif decide (0≤a∧a < (↑b.length:Int)) then (f c (b.getD a.toNat 0) d (fun e=>bif decide (0≤a∧a < (↑b.length:Int)) then k0 (c,n,i,j,k,l,m,g,b.set a.toNat e,h) else none)) else none else bif decide (0≤a∧a < (↑b.length:Int)) then (f c (b.getD a.toNat 0) d (fun e=>bif decide (0≤a∧a < (↑b.length:Int)) then k0 (c,u64.wrap (i+1),o,j,k,l,m,g,b.set a.toNat e,h) else none)) else none
abbrev eW:Type:=Int→Int→Int→Int→Int→Int→Int→Int→Int→Bool→Bool→LI→LI→((Int×Int×Int×Int×Int×Int×Bool×Bool×LI×LI)→OA)→OA
def dm (Z:Nat):eW:=tT Z (cD Z)
theorem JL (Z:Nat) (a:eX) (f g:Int) (h i:Int) (j l:Int) (m n o:Int) (p b:Bool) (d e:LI) (k:Ev.Cont):evalFn tab (zW a) J0 JO Z Tryz.f165 [.c (.ptr 0 0),.c (i6 f),.c (i6 g),.c (.int .u64 h)] [.cells 147 (i6 i::.own 1::ctb (.int .u64 j::.int .u64 l::.own 2::i6 m::.int .u64 n::i6 o::.bool p::.bool b::[])),.vec 3 ti d false,.vec 5 (.int .u8) e false] k=tT Z a f g h i j l m n o p b d e (fun r=>match r with | (q,s,t,u,v,w,x,y,z,A)=>k (.tup [],[.cells 147 (i6 q::.own 1::ctb (.int .u64 s::.int .u64 t::.own 2::i6 u::.int .u64 v::i6 w::.bool x::.bool y::[])),.vec 3 ti z false,.vec 5 (.int .u8) A false])):=by
 kernel_rfl
theorem Qc (Z:Nat):GOK prog (Fh Z):=
 gc (zF Z) func193 kr rfl <|
 gok_nil
def wE (F:eW):Ev.Spec:=fun args objs k=>match args,objs with | [.c (.ptr f g),.c (i6 h),.c (i6 i),.c (.int .u64 j)],[.cells l a,.vec m ti b false,.vec n (.int .u8) d false]=>(match splitRun 2 ctn a with | some ([i6 o,.own p],[.int .u64 q,.int .u64 s,.own t,i6 u,.int .u64 v,i6 w,.bool x,.bool e])=>bif qb [f,g,l,m,n,p,t] [0,0,147,3,5,1,2] then F h i j o q s u v w x e b d (fun r=>match r with | (y,z,A,B,C,D,E,G,H,I)=>k (.tup [],[.cells 147 (i6 y::.own 1::ctb (.int .u64 z::.int .u64 A::.own 2::i6 B::.int .u64 C::i6 D::.bool E::.bool G::[])),.vec 3 ti H false,.vec 5 (.int .u8) I false])) else none | _=>none) | _,_=>none
theorem IQ (Z:Nat):FnOK prog 165 (wE (dm Z)):=by
 intro args objs kk r h
 unfold wE at h
 split at h
 ·skip
  split at h
  rotate_left 1
  ·cases h
  rename_i hsp
  have esp:=splitRun_eq hsp
  subst esp
  obtain ⟨hb,h⟩:=cond_some' h
  cases qb_eq hb
  exact fo0 (Qc Z) func165 rfl kr _ _ kk r ((JL Z (cD Z) _ _ _ _ _ _ _ _ _ _ _ _ _ kk).trans h)
 ·cases h
def ki (i:Nat):Option (List Nat):=Ev.look i [(12,[0,1,6,8,9]),(100001,[0,1,6,8,9]),(200010,[0]),(400001,[4,5])]
def sJ (e:co) (g:dr) (a:eW) (b:eM) (c:hU) (d:iC) (f:Nat):Option Ev.Spec:=Ev.look f [(84,mV e),(88,mv g),(165,wE a),(166,va b),(167,rn c),(168,vI d)]
def Bb (Z:Nat):Nat→Option Ev.Spec:=sJ (bA Z) (aS Z) (dm Z) (eI Z) (du Z) (dK Z)
abbrev xr:Type:=Int×Int×Int×Int×Int×Int×Int×Int×Int×Bool×Bool×LI×LI×Int×Int×Int×Int×Int×Int×Bool×Bool
abbrev uK:Type:=(Int×Int×Int×Int×Int×Int×Int×Int×Int×Bool×Bool×LI×LI×Int×Int×Int×Int×Int×Int×Bool×Bool→OA)
def mr (Z:Nat) (z:co) (a9:dr) (a7:eW) (a8:eM) (x:hU) (y:iC) (u v:Int) (w a0:Int) (a1 a2:Int) (a3 a4 a5:Int) (a6 W:Bool) (X Y:LI) (m n:Int) (o p:Int) (q r:Int) (s t:Bool) (c:xr→OA) (B:uK):OA:=match B with | b=>(x a0 a1 a2 a3 a4 a5 a6 W X Y (fun (M,d,e,f,g,h,i,j,k,l,a)=>bif M then (y d e f g h i j k l a (fun (b0,N,O,P,Q,R,S,T,U,V,A)=>(z N O P Q R S T U V A (fun (C,D,E,F,G,H,I,J,K,L)=>c (u,v,w,C,D,E,F,G,H,I,J,K,L,m,n,o,p,q,r,s,t))))) else b (u,v,w,d,e,f,g,h,i,j,k,l,a,m,n,o,p,q,r,s,t)))
def gp (Z:Nat) (v:Int×Int×Int×Int×Int×Int×Int×Int×Int×Bool×Bool×LI×LI×Int×Int×Int×Int×Int×Int×Bool×Bool) (c:(Int×Int×Int×Int×Int×Int×Int×Int×Int×Bool×Bool×LI×LI×Int×Int×Int×Int×Int×Int×Bool×Bool)→OA) (B:(Int×Int×Int×Int×Int×Int×Int×Int×Int×Bool×Bool×LI×LI×Int×Int×Int×Int×Int×Int×Bool×Bool→OA)):OA:=match v with | (m,n,o,p,q,r,s,t,u,w,a,b,d,e,f,g,h,i,j,k,l)=>mr Z (bA Z) (aS Z) (dm Z) (eI Z) (du Z) (dK Z) m n o p q r s t u w a b d e f g h i j k l c B
def dA (Z:Nat) (v:xr) (b:uK):OA:=iter (gp Z) Z v b
def tD (v:xr):Ev.St:=match v with | (m,n,o,p,q,r,s,t,u,w,a,b,d,e,f,g,h,i,j,k,l)=>⟨[(0,.c (.ptr 0 0)),(1,.c (i6 m)),(6,.c (i6 n)),(8,.c (.ptr 3 0)),(9,.c (i6 o))],[(0,.cells 147 (i6 p::.own 1::ctb (.int .u64 q::.int .u64 r::.own 2::i6 s::.int .u64 t::i6 u::.bool w::.bool a::[]))),(1,.vec 3 ti b false),(2,.vec 5 (.int .u8) d false),(3,.cells 147 (i6 e::.own 1::ctb (.int .u64 f::.int .u64 g::.own 2::i6 h::.int .u64 i::i6 j::.bool k::.bool l::[])))],4,3⟩
def pF (K:KT):uK:=(fun v=>match v with | (m,n,o,p,q,r,s,t,u,w,a,b,d,e,f,g,h,i,j,k,l)=>K .normal ⟨[(0,.c (.ptr 0 0)),(1,.c (i6 m)),(6,.c (i6 n)),(8,.c (.ptr 3 0)),(9,.c (i6 o))],[(0,.cells 147 (i6 p::.own 1::ctb (.int .u64 q::.int .u64 r::.own 2::i6 s::.int .u64 t::i6 u::.bool w::.bool a::[]))),(1,.vec 3 ti b false),(2,.vec 5 (.int .u8) d false),(3,.cells 147 (i6 e::.own 1::ctb (.int .u64 f::.int .u64 g::.own 2::i6 h::.int .u64 i::i6 j::.bool k::.bool l::[])))],4,3⟩)
theorem PT (Z:Nat) (e:co) (f:dr) (a:eW) (b:eM) (c:hU) (d:iC) (R:Ev.St→OA) (K:KT) (r s:Int) (t u:Int) (w x:Int) (y z A:Int) (B g:Bool) (h i:LI) (j k:Int) (l m:Int) (n o:Int) (p q:Bool):evalCode tab (sJ e f a b c d) J0 ki Z (bodyOf 1 Tryz.f143) (tD (r,s,t,u,w,x,y,z,A,B,g,h,i,j,k,l,m,n,o,p,q)) (lc ki 12 1 R K)=mr Z e f a b c d r s t u w x y z A B g h i j k l m n o p q (fun v=>R (tD v)) (pF K):=by
 kernel_rfl
def mS (Z:Nat):Ev.Blk:=fun st K=>match canonO (ki 12) st with | some s=>(match s with | ⟨[(C,.c (.ptr D E)),(F,.c (i6 G)),(H,.c (i6 I)),(J,.c (.ptr L M)),(N,.c (i6 O))],[(P,.cells a b),(d,.vec e ti f false),(g,.vec h (.int .u8) i false),(j,.cells k l)],m,n⟩=>(match splitRun 2 ctn b with | some ([i6 Q,.own o],[.int .u64 R,.int .u64 S,.own p,i6 T,.int .u64 U,i6 V,.bool W,.bool q])=>(match splitRun 2 ctn l with | some ([i6 r,.own t],[.int .u64 u,.int .u64 v,.own w,i6 x,.int .u64 y,i6 z,.bool A,.bool B])=>bif qb [C,D,E,F,H,J,L,M,N,P,a,d,e,g,h,j,k,m,n,o,p,t,w] [0,0,0,1,6,8,3,0,9,0,147,1,3,2,5,3,147,4,3,1,2,1,2] then iter (gp Z) Z (G,I,O,Q,R,S,T,U,V,W,q,f,i,r,u,v,x,y,z,A,B) (pF K) else none | _=>none) | _=>none) | _=>none) | none=>none
theorem GF (Z:Nat) (st:Ev.St) (K:KT) (r:Ans) (h:mS Z st K=some r):evalCode tab (Bb Z) J0 ki Z (.block 1 (.loop (bodyOf 1 Tryz.f143))) st K=some r:=by
 unfold mS at h
 split at h
 ·rename_i s hs
  split at h
  ·skip
   split at h
   rotate_left 1
   ·cases h
   rename_i hsp
   have esp:=splitRun_eq hsp
   subst esp
   split at h
   rotate_left 1
   ·cases h
   rename_i hsp
   have esp:=splitRun_eq hsp
   subst esp
   obtain ⟨hb,h⟩:=cond_some' h
   cases qb_eq hb
   exact blk_loop (S:=tD) (ks:=pF) (step:=gp Z) (v:=(_,_,_,_,_,_,_,_,_,_,_,_,_,_,_,_,_,_,_,_,_)) kr kr (fun R K v=>by obtain ⟨m,n,o,p,q,t,u,w,x,y,a,b,c,d,e,f,g,i,j,k,l⟩:=v; exact PT Z (bA Z) (aS Z) (dm Z) (eI Z) (du Z) (dK Z) R K m n o p q t u w x y a b c d e f g i j k l) hs h
  ·cases h
 ·cases h
def I0 (Z:Nat) (i:Nat):Option Ev.Blk:=Ev.look i [(100001,mS Z)]
def nI (Z:Nat) (c8:co) (b4:dr) (P:eW) (b3:eM) (c6:hU) (c7:iC) (a b7:Int) (b8 b9:Int) (c0 c1 c2:Int) (c3 c4:Bool) (c5 b6:LI) (k0:(Int×Int×Int×Int×Int×Int×Int×Int×Bool×Bool×LI×LI)→OA):OA:=(b4 b7 b8 b9 c0 c1 c2 c3 c4 c5 b6 (fun (b5,V,W,X,Y,a0,a1,R,a2,S,T)=>bif b5 then k0 (0,7,V,W,X,Y,a0,a1,R,a2,S,T) else bif decide (a < 0) then k0 (0,2,V,W,X,Y,a0,a1,R,a2,S,T) else bif decide (a≥(↑S.length:Int)) then k0 (0,2,V,W,X,Y,a0,a1,R,a2,S,T) else bif R then k0 (0,6,V,W,X,Y,a0,a1,R,a2,S,T) else (b3 a V W X Y a0 a1 R a2 S T (fun (E,h,i,j,k,g,l,m,n,f,Q)=>bif decide (g≤E) then bif decide (0≤a∧a < (↑f.length:Int)) then both ((P a (1) E h i j k g l m n f Q (fun (a3,a4,a5,a6,a7,a8,a9,b0,b1,b2)=>(dA Z (a,1,f.getD a.toNat 0,a3,a4,a5,a6,a7,a8,a9,b0,b1,b2,h,i,j,k,g,l,m,n) (fun (c,w,x,y,z,A,B,C,e,D,o,b,d,p,q,r,s,t,u,U,v)=>bif decide (e > 4) then bif decide (0≤c∧c < (↑b.length:Int)) then k0 (0,6,p,q,r,s,t,u,true,v,b.set c.toNat x,d) else none else k0 (w,0,y,z,A,B,C,e,D,o,b,d)))))) (both ((P a (1) E h i j k g l m n f Q (fun (F,G,H,I,J,K,L,M,N,O)=>(dA Z (a,1,f.getD a.toNat 0,F,G,H,I,J,K,L,M,N,O,h,i,j,k,g,l,m,n) (fun (c,w,x,y,z,A,B,C,e,D,o,b,d,p,q,r,s,t,u,U,v)=>bif decide (e > 4) then bif decide (0≤c∧c < (↑b.length:Int)) then k0 (0,6,p,q,r,s,t,u,true,v,b.set c.toNat x,d) else none else k0 (w,0,y,z,A,B,C,e,D,o,b,d)))))) ((P a (1) E h i j k g l m n f Q (fun (F,G,H,I,J,K,L,M,N,O)=>(dA Z (a,1,f.getD a.toNat 0,F,G,H,I,J,K,L,M,N,O,h,i,j,k,g,l,m,n) (fun (c,w,x,y,z,A,B,C,e,D,o,b,d,p,q,r,s,t,u,U,v)=>bif decide (e > 4) then bif decide (0≤c∧c < (↑b.length:Int)) then k0 (0,6,p,q,r,s,t,u,true,v,b.set c.toNat x,d) else none else k0 (w,0,y,z,A,B,C,e,D,o,b,d))))))) else none else bif decide (0≤a∧a < (↑f.length:Int)) then both ((P a (0) E h i j k g l m n f Q (fun (a3,a4,a5,a6,a7,a8,a9,b0,b1,b2)=>(dA Z (a,0,f.getD a.toNat 0,a3,a4,a5,a6,a7,a8,a9,b0,b1,b2,h,i,j,k,g,l,m,n) (fun (c,w,x,y,z,A,B,C,e,D,o,b,d,p,q,r,s,t,u,U,v)=>bif decide (e > 4) then bif decide (0≤c∧c < (↑b.length:Int)) then k0 (0,6,p,q,r,s,t,u,true,v,b.set c.toNat x,d) else none else k0 (w,0,y,z,A,B,C,e,D,o,b,d)))))) (both ((P a (0) E h i j k g l m n f Q (fun (F,G,H,I,J,K,L,M,N,O)=>(dA Z (a,0,f.getD a.toNat 0,F,G,H,I,J,K,L,M,N,O,h,i,j,k,g,l,m,n) (fun (c,w,x,y,z,A,B,C,e,D,o,b,d,p,q,r,s,t,u,U,v)=>bif decide (e > 4) then bif decide (0≤c∧c < (↑b.length:Int)) then k0 (0,6,p,q,r,s,t,u,true,v,b.set c.toNat x,d) else none else k0 (w,0,y,z,A,B,C,e,D,o,b,d)))))) ((P a (0) E h i j k g l m n f Q (fun (F,G,H,I,J,K,L,M,N,O)=>(dA Z (a,0,f.getD a.toNat 0,F,G,H,I,J,K,L,M,N,O,h,i,j,k,g,l,m,n) (fun (c,w,x,y,z,A,B,C,e,D,o,b,d,p,q,r,s,t,u,U,v)=>bif decide (e > 4) then bif decide (0≤c∧c < (↑b.length:Int)) then k0 (0,6,p,q,r,s,t,u,true,v,b.set c.toNat x,d) else none else k0 (w,0,y,z,A,B,C,e,D,o,b,d))))))) else none))))
abbrev ad:Type:=Int→Int→Int→Int→Int→Int→Int→Bool→Bool→LI→LI→((Int×Int×Int×Int×Int×Int×Int×Int×Bool×Bool×LI×LI)→OA)→OA
def aa (Z:Nat):ad:=nI Z (bA Z) (aS Z) (dm Z) (eI Z) (du Z) (dK Z)
theorem N1 (Z:Nat) (f:co) (g:dr) (a:eW) (b:eM) (d:hU) (e:iC) (i j:Int) (l m:Int) (n o p:Int) (q s:Bool) (t h:LI) (k:Ev.Cont):evalFn tab (sJ f g a b d e) (I0 Z) ki Z Tryz.f143 [.c (.ptr 0 0),.c (i6 i)] [.cells 147 (i6 j::.own 1::ctb (.int .u64 l::.int .u64 m::.own 2::i6 n::.int .u64 o::i6 p::.bool q::.bool s::[])),.vec 3 ti t false,.vec 5 (.int .u8) h false] k=nI Z f g a b d e i j l m n o p q s t h (fun r=>match r with | (w,x,y,z,A,B,C,D,E,F,u,v)=>k (.tup [(false,[i6 w]),(false,[i6 x])],[.cells 147 (i6 y::.own 1::ctb (.int .u64 z::.int .u64 A::.own 2::i6 B::.int .u64 C::i6 D::.bool E::.bool F::[])),.vec 3 ti u false,.vec 5 (.int .u8) v false])):=by
 kernel_rfl
theorem DR (Z:Nat):GOK prog (Bb Z):=
 gc (yK Z) func84 kr rfl <|
 gc (Dj Z) func88 kr rfl <|
 gc (IQ Z) func165 kr rfl <|
 gc (HC Z) func166 kr rfl <|
 gc (MC Z) func167 kr rfl <|
 gc (I7 Z) func168 kr rfl <|
 gok_nil
theorem Nj (Z:Nat):BlkOK prog Tryz.f143.ntmps (.block 1 (.loop (bodyOf 1 Tryz.f143))) (mS Z):=bo0 (DR Z) kr kr (GF Z)
def cZ (F:ad):Ev.Spec:=fun args objs k=>match args,objs with | [.c (.ptr f g),.c (i6 h)],[.cells i a,.vec j ti l false,.vec m (.int .u8) b false]=>(match splitRun 2 ctn a with | some ([i6 n,.own o],[.int .u64 p,.int .u64 q,.own s,i6 t,.int .u64 u,i6 v,.bool w,.bool x])=>bif qb [f,g,i,j,m,o,s] [0,0,147,3,5,1,2] then F h n p q t u v w x l b (fun r=>match r with | (y,z,A,B,C,D,E,G,H,I,d,e)=>k (.tup [(false,[i6 y]),(false,[i6 z])],[.cells 147 (i6 A::.own 1::ctb (.int .u64 B::.int .u64 C::.own 2::i6 D::.int .u64 E::i6 G::.bool H::.bool I::[])),.vec 3 ti d false,.vec 5 (.int .u8) e false])) else none | _=>none) | _,_=>none
def uM (Z:Nat):Ev.Spec:=cZ (aa Z)
theorem dk (Z:Nat):FnOK prog 143 (uM Z):=by
 intro args objs kk r h
 unfold uM cZ at h
 split at h
 ·skip
  split at h
  rotate_left 1
  ·cases h
  rename_i hsp
  have esp:=splitRun_eq hsp
  subst esp
  obtain ⟨hb,h⟩:=cond_some' h
  cases qb_eq hb
  exact fo1 (DR Z) func143 rfl (Nj Z) kr _ _ kk r ((N1 Z (bA Z) (aS Z) (dm Z) (eI Z) (du Z) (dK Z) _ _ _ _ _ _ _ _ _ _ _ kk).trans h)
 ·cases h
def db (i:Nat):Option (List Nat):=Ev.look i [(5,[0,1,4,8]),(14,[0,1,4,8,9,10,49,50]),(100000,[0,1,4,8]),(100002,[0,1,4,9]),(400000,[4,5]),(400002,[4,5])]
def nC (a:ad) (b:bh) (f:Nat):Option Ev.Spec:=Ev.look f [(143,cZ a),(180,lG b)]
def le (Z:Nat):Nat→Option Ev.Spec:=nC (aa Z) (aJ Z)
abbrev ru:Type:=Int×Int×Int×Int×Int×Int×Int×Int×Bool×Bool×LI×LI×Bool×Int
abbrev Ee:Type:=(Int×Int×Int×Int×Int×Int×Int×Bool×Bool×LI×LI×Bool×Int→OA)×(Int×Int×Int×Int×Int×Int×Int×Int×Bool×Bool×LI×LI×Bool×Int→OA)
def nO (Z:Nat) (C:ad) (E:bh) (d a:Int) (t u:Int) (v w:Int) (x y:Int) (z A:Bool) (r s:LI) (o:Bool) (p:Int) (c:ru→OA) (B:Ee):OA:=match B with | (ret,b)=>bif decide (a < 20) then (C (i64.wrap (i64.wrap (d+1)+a)) t u v w x y z A r s (fun (D,q,g,h,i,j,k,l,m,n,e,f)=>bif q != 0 then ret (q,g,h,i,j,k,l,m,n,e,f,false,0) else bif D==0 then b (d,a,g,h,i,j,k,l,m,n,e,f,o,p) else c (d,i64.wrap (a+1),g,h,i,j,k,l,m,n,e,f,o,p))) else b (d,a,t,u,v,w,x,y,z,A,r,s,o,p)
def gF (Z:Nat) (v:Int×Int×Int×Int×Int×Int×Int×Int×Bool×Bool×LI×LI×Bool×Int) (c:(Int×Int×Int×Int×Int×Int×Int×Int×Bool×Bool×LI×LI×Bool×Int)→OA) (B:(Int×Int×Int×Int×Int×Int×Int×Bool×Bool×LI×LI×Bool×Int→OA)×(Int×Int×Int×Int×Int×Int×Int×Int×Bool×Bool×LI×LI×Bool×Int→OA)):OA:=match v with | (f,g,h,i,j,k,l,m,n,o,a,b,d,e)=>nO Z (aa Z) (aJ Z) f g h i j k l m n o a b d e c B
def Bq (Z:Nat) (v:ru) (ret:(Int×Int×Int×Int×Int×Int×Int×Bool×Bool×LI×LI×Bool×Int→OA)) (b:(Int×Int×Int×Int×Int×Int×Int×Int×Bool×Bool×LI×LI×Bool×Int→OA)):OA:=iter (gF Z) Z v (ret,b)
def wz (v:ru):Ev.St:=match v with | (f,g,h,i,j,k,l,m,n,o,a,b,d,e)=>⟨[(0,.c (.ptr 0 0)),(1,.c (i6 f)),(4,.c (.ptr 3 0)),(8,.c (i6 g))],[(0,.cells 147 (i6 h::.own 1::ctb (.int .u64 i::.int .u64 j::.own 2::i6 k::.int .u64 l::i6 m::.bool n::.bool o::[]))),(1,.vec 3 ti a false),(2,.vec 5 (.int .u8) b false),(3,.cells 105 [.bool d,i6 e])],4,3⟩
def tK (K:KT):Ee:=((fun v=>match v with | (e,f,g,h,i,j,k,l,m,n,a,b,d)=>K .ret ⟨[(4,.c (.ptr 3 0)),(5,.c (i6 e))],[(0,.cells 147 (i6 f::.own 1::ctb (.int .u64 g::.int .u64 h::.own 2::i6 i::.int .u64 j::i6 k::.bool l::.bool m::[]))),(1,.vec 3 ti n false),(2,.vec 5 (.int .u8) a false),(3,.cells 105 [.bool b,i6 d])],4,3⟩),(fun v=>match v with | (e,f,g,h,i,j,k,l,m,n,a,b,d,o)=>K .normal ⟨[(0,.c (.ptr 0 0)),(1,.c (i6 e)),(4,.c (.ptr 3 0)),(8,.c (i6 f))],[(0,.cells 147 (i6 g::.own 1::ctb (.int .u64 h::.int .u64 i::.own 2::i6 j::.int .u64 k::i6 l::.bool m::.bool n::[]))),(1,.vec 3 ti a false),(2,.vec 5 (.int .u8) b false),(3,.cells 105 [.bool d,i6 o])],4,3⟩))
theorem Kp (Z:Nat) (a:ad) (b:bh) (R:Ev.St→OA) (K:KT) (g h:Int) (i j:Int) (k l:Int) (m n:Int) (o p:Bool) (c d:LI) (e:Bool) (f:Int):evalCode tab (nC a b) J0 db Z (bodyOf 0 Tryz.f181) (wz (g,h,i,j,k,l,m,n,o,p,c,d,e,f)) (lc db 5 0 R K)=nO Z a b g h i j k l m n o p c d e f (fun v=>R (wz v)) (tK K):=by
 kernel_rfl
def gw (Z:Nat):Ev.Blk:=fun st K=>match canonO (db 5) st with | some s=>(match s with | ⟨[(q,.c (.ptr r t)),(u,.c (i6 v)),(w,.c (.ptr x y)),(z,.c (i6 A))],[(B,.cells C a),(b,.vec d ti e false),(f,.vec g (.int .u8) h false),(i,.cells j [.bool k,i6 l])],m,n⟩=>(match splitRun 2 ctn a with | some ([i6 D,.own o],[.int .u64 E,.int .u64 F,.own p,i6 G,.int .u64 H,i6 I,.bool J,.bool L])=>bif qb [q,r,t,u,w,x,y,z,B,C,b,d,f,g,i,j,m,n,o,p] [0,0,0,1,4,3,0,8,0,147,1,3,2,5,3,105,4,3,1,2] then iter (gF Z) Z (v,A,D,E,F,G,H,I,J,L,e,h,k,l) (tK K) else none | _=>none) | _=>none) | none=>none
theorem PL (Z:Nat) (st:Ev.St) (K:KT) (r:Ans) (h:gw Z st K=some r):evalCode tab (le Z) J0 db Z (.block 0 (.loop (bodyOf 0 Tryz.f181))) st K=some r:=by
 unfold gw at h
 split at h
 ·rename_i s hs
  split at h
  ·skip
   split at h
   rotate_left 1
   ·cases h
   rename_i hsp
   have esp:=splitRun_eq hsp
   subst esp
   obtain ⟨hb,h⟩:=cond_some' h
   cases qb_eq hb
   exact blk_loop (S:=wz) (ks:=tK) (step:=gF Z) (v:=(_,_,_,_,_,_,_,_,_,_,_,_,_,_)) kr kr (fun R K v=>by obtain ⟨e,f,g,i,j,k,l,m,n,o,a,b,c,d⟩:=v; exact Kp Z (aa Z) (aJ Z) R K e f g i j k l m n o a b c d) hs h
  ·cases h
 ·cases h
abbrev rJ:Type:=Int×Int×Int×Int×Int×Int×Int×Int×Int×Int×Int×Bool×Bool×LI×LI×Bool×Int×Int
abbrev BL:Type:=(Int×Int×Int×Int×Int×Int×Int×Bool×Bool×LI×LI×Bool×Int→OA)×(Int×Int×Int×Int×Int×Int×Int×Int×Bool×Bool×LI×LI×Bool×Int→OA)
def lm (Z:Nat) (v:ad) (T:bh) (a n:Int) (o p:Int) (e q:Int) (r s:Int) (t u g:Int) (h i:Bool) (j k:LI) (l:Bool) (m S:Int) (c:rJ→OA) (B:BL):OA:=match B with | (ret,b)=>bif decide (e < p) then bif decide (e > 0) then (T S (fun (f,d)=>(v (i64.wrap (a+f)) q r s t u g h i j k (fun (U,A,C,D,E,F,G,H,I,J,w,x)=>bif A != 0 then ret (A,C,D,E,F,G,H,I,J,w,x,false,0) else c (a,n,i64.wrap (i64.wrap (2*o)+U),p,i64.wrap (e+1),C,D,E,F,G,H,I,J,w,x,l,m,d))))) else (v (i64.wrap (a+i64.wrap (23+n))) q r s t u g h i j k (fun (f,d,K,L,M,N,O,P,Q,R,y,z)=>bif d != 0 then ret (d,K,L,M,N,O,P,Q,R,y,z,false,0) else c (a,n,i64.wrap (i64.wrap (2*o)+f),p,i64.wrap (e+1),K,L,M,N,O,P,Q,R,y,z,l,m,S))) else b (a,o,q,r,s,t,u,g,h,i,j,k,l,m)
def fA (Z:Nat) (v:Int×Int×Int×Int×Int×Int×Int×Int×Int×Int×Int×Bool×Bool×LI×LI×Bool×Int×Int) (c:(Int×Int×Int×Int×Int×Int×Int×Int×Int×Int×Int×Bool×Bool×LI×LI×Bool×Int×Int)→OA) (B:(Int×Int×Int×Int×Int×Int×Int×Bool×Bool×LI×LI×Bool×Int→OA)×(Int×Int×Int×Int×Int×Int×Int×Int×Bool×Bool×LI×LI×Bool×Int→OA)):OA:=match v with | (j,k,l,m,n,o,p,q,r,s,a,b,d,e,f,g,h,i)=>lm Z (aa Z) (aJ Z) j k l m n o p q r s a b d e f g h i c B
def BZ (Z:Nat) (v:rJ) (ret:(Int×Int×Int×Int×Int×Int×Int×Bool×Bool×LI×LI×Bool×Int→OA)) (b:(Int×Int×Int×Int×Int×Int×Int×Int×Bool×Bool×LI×LI×Bool×Int→OA)):OA:=iter (fA Z) Z v (ret,b)
def CV (Z:Nat) (i:Nat):Option Ev.Blk:=Ev.look i [(100000,gw Z)]
def qf (v:rJ):Ev.St:=match v with | (j,k,l,m,n,o,p,q,r,s,a,b,d,e,f,g,h,i)=>⟨[(0,.c (.ptr 0 0)),(1,.c (i6 j)),(4,.c (.ptr 3 0)),(8,.c (i6 k)),(9,.c (i6 l)),(10,.c (.ptr 4 0)),(49,.c (i6 m)),(50,.c (i6 n))],[(0,.cells 147 (i6 o::.own 1::ctb (.int .u64 p::.int .u64 q::.own 2::i6 r::.int .u64 s::i6 a::.bool b::.bool d::[]))),(1,.vec 3 ti e false),(2,.vec 5 (.int .u8) f false),(3,.cells 105 [.bool g,i6 h]),(4,.cells 233 [i6 i])],5,3⟩
def vG (K:KT):BL:=((fun v=>match v with | (e,f,g,h,i,j,k,l,m,n,a,b,d)=>K .ret ⟨[(4,.c (.ptr 3 0)),(5,.c (i6 e))],[(0,.cells 147 (i6 f::.own 1::ctb (.int .u64 g::.int .u64 h::.own 2::i6 i::.int .u64 j::i6 k::.bool l::.bool m::[]))),(1,.vec 3 ti n false),(2,.vec 5 (.int .u8) a false),(3,.cells 105 [.bool b,i6 d])],4,3⟩),(fun v=>match v with | (e,f,g,h,i,j,k,l,m,n,a,b,d,o)=>K .normal ⟨[(0,.c (.ptr 0 0)),(1,.c (i6 e)),(4,.c (.ptr 3 0)),(9,.c (i6 f))],[(0,.cells 147 (i6 g::.own 1::ctb (.int .u64 h::.int .u64 i::.own 2::i6 j::.int .u64 k::i6 l::.bool m::.bool n::[]))),(1,.vec 3 ti a false),(2,.vec 5 (.int .u8) b false),(3,.cells 105 [.bool d,i6 o])],4,3⟩))
theorem Fb (Z:Nat) (a:ad) (b:bh) (R:Ev.St→OA) (K:KT) (k l:Int) (m n:Int) (o p:Int) (q r:Int) (s t c:Int) (d e:Bool) (f g:LI) (h:Bool) (i j:Int):evalCode tab (nC a b) (CV Z) db Z (bodyOf 2 Tryz.f181) (qf (k,l,m,n,o,p,q,r,s,t,c,d,e,f,g,h,i,j)) (lc db 14 2 R K)=lm Z a b k l m n o p q r s t c d e f g h i j (fun v=>R (qf v)) (vG K):=by
 kernel_rfl
def jy (Z:Nat):Ev.Blk:=fun st K=>match canonO (db 14) st with | some s=>(match s with | ⟨[(D,.c (.ptr E F)),(G,.c (i6 H)),(I,.c (.ptr J L)),(M,.c (i6 N)),(O,.c (i6 P)),(Q,.c (.ptr a b)),(d,.c (i6 R)),(e,.c (i6 S))],[(f,.cells g h),(i,.vec j ti k false),(l,.vec m (.int .u8) n false),(o,.cells p [.bool q,i6 r]),(t,.cells u [i6 v])],w,x⟩=>(match splitRun 2 ctn h with | some ([i6 T,.own y],[.int .u64 U,.int .u64 V,.own z,i6 W,.int .u64 X,i6 A,.bool B,.bool C])=>bif qb [D,E,F,G,I,J,L,M,O,Q,a,b,d,e,f,g,i,j,l,m,o,p,t,u,w,x,y,z] [0,0,0,1,4,3,0,8,9,10,4,0,49,50,0,147,1,3,2,5,3,105,4,233,5,3,1,2] then iter (fA Z) Z (H,N,P,R,S,T,U,V,W,X,A,B,C,k,n,q,r,v) (vG K) else none | _=>none) | _=>none) | none=>none
theorem GY (Z:Nat) (st:Ev.St) (K:KT) (r:Ans) (h:jy Z st K=some r):evalCode tab (le Z) (CV Z) db Z (.block 2 (.loop (bodyOf 2 Tryz.f181))) st K=some r:=by
 unfold jy at h
 split at h
 ·rename_i s hs
  split at h
  ·skip
   split at h
   rotate_left 1
   ·cases h
   rename_i hsp
   have esp:=splitRun_eq hsp
   subst esp
   obtain ⟨hb,h⟩:=cond_some' h
   cases qb_eq hb
   exact blk_loop (S:=qf) (ks:=vG) (step:=fA Z) (v:=(_,_,_,_,_,_,_,_,_,_,_,_,_,_,_,_,_,_)) kr kr (fun R K v=>by obtain ⟨j,k,l,m,n,o,p,q,t,u,a,b,c,d,e,f,g,i⟩:=v; exact Fb Z (aa Z) (aJ Z) R K j k l m n o p q t u a b c d e f g i) hs h
  ·cases h
 ·cases h
def tU (Z:Nat) (i:Nat):Option Ev.Blk:=Ev.look i [(100000,gw Z),(100002,jy Z)]
def xs (Z:Nat) (w:ad) (b3:bh) (J a2:Int) (a3 a4:Int) (a5 a6 a7:Int) (a8 a9:Bool) (b0 a1:LI) (k0:(Bool×Int×Int×Int×Int×Int×Int×Int×Int×Bool×Bool×LI×LI)→OA):OA:=(w J a2 a3 a4 a5 a6 a7 a8 a9 b0 a1 (fun (P,a,f,g,h,i,j,k,l,m,b,c)=>bif a != 0 then k0 (a==0,0,a,f,g,h,i,j,k,l,m,b,c) else bif P==1 then k0 (a==0,0,a,f,g,h,i,j,k,l,m,b,c) else (Bq Z (J,0,f,g,h,i,j,k,l,m,b,c,false,0) (fun (ret0_0,ret0_1,ret0_2,ret0_3,ret0_4,ret0_5,ret0_6,ret0_7,ret0_8,ret0_9,ret0_10,ret0_11,ret0_12)=>k0 (ret0_11,ret0_12,ret0_0,ret0_1,ret0_2,ret0_3,ret0_4,ret0_5,ret0_6,ret0_7,ret0_8,ret0_9,ret0_10)) (fun (Q,I,R,S,T,U,V,W,X,Y,K,L,M,N)=>(BZ Z (Q,I,1,I,0,R,S,T,U,V,W,X,Y,K,L,M,N,44) (fun (ret2_0,ret2_1,ret2_2,ret2_3,ret2_4,ret2_5,ret2_6,ret2_7,ret2_8,ret2_9,ret2_10,ret2_11,ret2_12)=>k0 (ret2_11,ret2_12,ret2_0,ret2_1,ret2_2,ret2_3,ret2_4,ret2_5,ret2_6,ret2_7,ret2_8,ret2_9,ret2_10)) (fun (a0,n,o,p,q,r,s,t,u,v,d,e,b1,b2)=>bif decide (n > 1048577) then k0 (false,0,3,o,p,q,r,s,t,u,v,d,e) else bif n==1 then k0 (false,0,0,o,p,q,r,s,t,u,v,d,e) else (w (i64.wrap (a0+22)) o p q r s t u v d e (fun (O,z,A,B,C,D,E,F,G,H,x,y)=>bif z != 0 then k0 (false,0,z,A,B,C,D,E,F,G,H,x,y) else k0 (false,i64.wrap (i64.wrap (n - 1)*i64.wrap (1 - i64.wrap (2*O))),0,A,B,C,D,E,F,G,H,x,y)))))))))
abbrev jl:Type:=Int→Int→Int→Int→Int→Int→Int→Bool→Bool→LI→LI→((Bool×Int×Int×Int×Int×Int×Int×Int×Int×Bool×Bool×LI×LI)→OA)→OA
def hH (Z:Nat):jl:=xs Z (aa Z) (aJ Z)
theorem Mz (Z:Nat) (a:ad) (b:bh) (e f:Int) (g h:Int) (i j l:Int) (m n:Bool) (o d:LI) (k:Ev.Cont):evalFn tab (nC a b) (tU Z) db Z Tryz.f181 [.c (.ptr 0 0),.c (i6 e)] [.cells 147 (i6 f::.own 1::ctb (.int .u64 g::.int .u64 h::.own 2::i6 i::.int .u64 j::i6 l::.bool m::.bool n::[])),.vec 3 ti o false,.vec 5 (.int .u8) d false] k=xs Z a b e f g h i j l m n o d (fun r=>match r with | (t,u,v,w,x,y,z,A,B,C,p,q,s)=>k (.tup [(true,[.bool t,i6 u]),(false,[i6 v])],[.cells 147 (i6 w::.own 1::ctb (.int .u64 x::.int .u64 y::.own 2::i6 z::.int .u64 A::i6 B::.bool C::.bool p::[])),.vec 3 ti q false,.vec 5 (.int .u8) s false])):=by
 kernel_rfl
theorem we (Z:Nat):GOK prog (le Z):=
 gc (dk Z) func143 kr rfl <|
 gc (CZ Z) func180 kr rfl <|
 gok_nil
theorem Hr (Z:Nat):BlkOK prog Tryz.f181.ntmps (.block 0 (.loop (bodyOf 0 Tryz.f181))) (gw Z):=bo0 (we Z) kr kr (PL Z)
theorem Lp (Z:Nat):BlkOK prog Tryz.f181.ntmps (.block 2 (.loop (bodyOf 2 Tryz.f181))) (jy Z):=bo0 (we Z) kr kr (GY Z)
theorem PI (Z:Nat):FnOK prog 181 (evalFn tab (le Z) (tU Z) db Z Tryz.f181):=
 fn_ok tab_ok (we Z) mixed func181 (c:=(Tryz.f181.body).getD .skip) rfl (fun q hq=>by
  rw [(by kernel_rfl:obl (tU Z) ((Tryz.f181.body).getD .skip)= [(.block 0 (.loop (bodyOf 0 Tryz.f181)),gw Z),(.block 2 (.loop (bodyOf 2 Tryz.f181)),jy Z)])] at hq
  simp only [List.mem_cons,List.not_mem_nil,or_false] at hq
  rcases hq with rfl | rfl
  ·exact Hr Z
  ·exact Lp Z)
def yy (F:jl):Ev.Spec:=fun args objs k=>match args,objs with | [.c (.ptr g h),.c (i6 i)],[.cells j a,.vec l ti m false,.vec n (.int .u8) b false]=>(match splitRun 2 ctn a with | some ([i6 o,.own p],[.int .u64 q,.int .u64 s,.own t,i6 u,.int .u64 v,i6 w,.bool x,.bool y])=>bif qb [g,h,j,l,n,p,t] [0,0,147,3,5,1,2] then F i o q s u v w x y m b (fun r=>match r with | (z,A,B,C,D,E,G,H,I,J,d,e,f)=>k (.tup [(true,[.bool z,i6 A]),(false,[i6 B])],[.cells 147 (i6 C::.own 1::ctb (.int .u64 D::.int .u64 E::.own 2::i6 G::.int .u64 H::i6 I::.bool J::.bool d::[])),.vec 3 ti e false,.vec 5 (.int .u8) f false])) else none | _=>none) | _,_=>none
theorem Nb (Z:Nat):FnOK prog 181 (yy (hH Z)):=by
 intro args objs kk r h
 unfold yy at h
 split at h
 ·skip
  split at h
  rotate_left 1
  ·cases h
  rename_i hsp
  have esp:=splitRun_eq hsp
  subst esp
  obtain ⟨hb,h⟩:=cond_some' h
  cases qb_eq hb
  exact PI Z _ _ kk r ((Mz Z (aa Z) (aJ Z) _ _ _ _ _ _ _ _ _ _ _ kk).trans h)
 ·cases h
def Oe (i:Nat):Option (List Nat):=Ev.look i []
def Eh (c:ao) (d:bo) (a:ad) (b:jl) (f:Nat):Option Ev.Spec:=Ev.look f [(40,fT c),(138,iu d),(143,cZ a),(181,yy b)]
def II (Z:Nat):Nat→Option Ev.Spec:=Eh (ak Z) (au Z) (aa Z) (hH Z)
def wB (Z:Nat) (z:ao) (O:bo) (x:ad) (y:jl) (w R:Int) (S T:Int) (U V W:Int) (X Y:Bool) (a0 Q:LI) (k0:(Bool×Int×Int×Int×Int×Int×Int×Int×Int×Bool×Bool×LI×LI)→OA):OA:=(x ((-1:Int)) R S T U V W X Y a0 Q (fun (a1,d,e,f,g,h,i,j,k,l,a,b)=>bif d==7 then k0 (false,0,d,e,f,g,h,i,j,k,l,a,b) else (z e f g h i j k l a b (fun (P,m,n,o,p,q,r,s,t,u,c,D)=>(O P D w (48) (fun v=>bif v != 0 then k0 (false,0,v,m,n,o,p,q,r,s,t,u,c) else (y w m n o p q r s t u c (fun (E,F,G,H,I,J,K,L,M,N,A,B,C)=>k0 (E,F,G,H,I,J,K,L,M,N,A,B,C)))))))))
abbrev kO:Type:=Int→Int→Int→Int→Int→Int→Int→Bool→Bool→LI→LI→((Bool×Int×Int×Int×Int×Int×Int×Int×Int×Bool×Bool×LI×LI)→OA)→OA
def iG (Z:Nat):kO:=wB Z (ak Z) (au Z) (aa Z) (hH Z)
theorem IL (Z:Nat) (d:ao) (e:bo) (a:ad) (b:jl) (g h:Int) (i j:Int) (l m n:Int) (o p:Bool) (q f:LI) (k:Ev.Cont):evalFn tab (Eh d e a b) J0 Oe Z Tryz.f141 [.c (.ptr 0 0),.c (i6 g)] [.cells 147 (i6 h::.own 1::ctb (.int .u64 i::.int .u64 j::.own 2::i6 l::.int .u64 m::i6 n::.bool o::.bool p::[])),.vec 3 ti q false,.vec 5 (.int .u8) f false] k=wB Z d e a b g h i j l m n o p q f (fun r=>match r with | (v,w,x,y,z,A,B,C,D,E,s,t,u)=>k (.tup [(true,[.bool v,i6 w]),(false,[i6 x])],[.cells 147 (i6 y::.own 1::ctb (.int .u64 z::.int .u64 A::.own 2::i6 B::.int .u64 C::i6 D::.bool E::.bool s::[])),.vec 3 ti t false,.vec 5 (.int .u8) u false])):=by
 kernel_rfl
theorem LL (Z:Nat):GOK prog (II Z):=
 gc (iz Z) func40 kr rfl <|
 gc (nu Z) func138 kr rfl <|
 gc (dk Z) func143 kr rfl <|
 gc (Nb Z) func181 kr rfl <|
 gok_nil
def rq (F:kO):Ev.Spec:=fun args objs k=>match args,objs with | [.c (.ptr g h),.c (i6 i)],[.cells j a,.vec l ti m false,.vec n (.int .u8) b false]=>(match splitRun 2 ctn a with | some ([i6 o,.own p],[.int .u64 q,.int .u64 s,.own t,i6 u,.int .u64 v,i6 w,.bool x,.bool y])=>bif qb [g,h,j,l,n,p,t] [0,0,147,3,5,1,2] then F i o q s u v w x y m b (fun r=>match r with | (z,A,B,C,D,E,G,H,I,J,d,e,f)=>k (.tup [(true,[.bool z,i6 A]),(false,[i6 B])],[.cells 147 (i6 C::.own 1::ctb (.int .u64 D::.int .u64 E::.own 2::i6 G::.int .u64 H::i6 I::.bool J::.bool d::[])),.vec 3 ti e false,.vec 5 (.int .u8) f false])) else none | _=>none) | _,_=>none
def u5 (Z:Nat):Ev.Spec:=rq (iG Z)
theorem zy (Z:Nat):FnOK prog 141 (u5 Z):=by
 intro args objs kk r h
 unfold u5 rq at h
 split at h
 ·skip
  split at h
  rotate_left 1
  ·cases h
  rename_i hsp
  have esp:=splitRun_eq hsp
  subst esp
  obtain ⟨hb,h⟩:=cond_some' h
  cases qb_eq hb
  exact fo0 (LL Z) func141 rfl kr _ _ kk r ((IL Z (ak Z) (au Z) (aa Z) (hH Z) _ _ _ _ _ _ _ _ _ _ _ kk).trans h)
 ·cases h
end
end Go.Proofs.YtohnjbmiaegofaaGreat

