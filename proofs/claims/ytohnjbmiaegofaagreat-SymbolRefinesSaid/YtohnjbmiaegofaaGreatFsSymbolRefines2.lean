/- What the functions that SymbolRefines reaches do: their typed texts, each with the proof that the machine does it. No condition. -/
import Derived.Test.YtohnjbmiaegofaaGreatEvX
import Derived.Test.YtohnjbmiaegofaaGreatFsSymbolRefines1
set_option linter.unusedVariables false
set_option linter.unusedSimpArgs false
set_option linter.unusedSectionVars false
set_option linter.unusedVariables false
set_option linter.unusedSimpArgs false
set_option maxRecDepth 100000
set_option maxHeartbeats 2000000
namespace Go.Proofs.YtohnjbmiaegofaaGreat
open Go Ev
open Go.IntKind (i64 u64 u8 i32 u32 u16)
noncomputable section
def zV (i:Nat):Option (List Nat):=Ev.look i []
def Kh (f:Nat):Option Ev.Spec:=Ev.look f []
def yh (fuel:Nat):Nat→Option Ev.Spec:=Kh
def aD (fuel:Nat) (a:Int) (k0:(Int×Int)→Option Ans):Option Ans:=k0 (a,bif decide (47 < i64.wrap (a+1)) then 47 else i64.wrap (a+1))
abbrev ba:Type:=Int→((Int×Int)→Option Ans)→Option Ans
theorem GA (fuel:Nat) (a:Int) (k:Ev.Cont):evalFn tab (yh fuel) J0 zV fuel Tryz.f180 [.c (.ptr 0 0)] [.cells 233 [i6 a]] k=aD fuel a (fun r=>match r with | (b,d)=>k (.c (i6 b),[.cells 233 [i6 d]])):=by
  kernel_rfl
theorem F7 (fuel:Nat):GOK Tryz.prog (yh fuel):=
  gok_nil
def iZ (F:ba):Ev.Spec:=fun args objs k=>match args,objs with | [.c (.ptr a b)],[.cells d [i6 e]]=>bif qb [a,b,d] [0,0,233] then F e (fun r=>match r with | (f,g)=>k (.c (i6 f),[.cells 233 [i6 g]])) else none | _,_=>none
theorem ve (fuel:Nat):FnOK Tryz.prog 180 (iZ (aD fuel)):=by
  intro args objs kk r h
  unfold iZ at h
  split at h
  · skip
    obtain ⟨hb,h⟩:=cond_some' h
    cases qb_eq hb
    exact fo0 (F7 fuel) Tryz.func180 rfl (by kernel_rfl) _ _ kk r ((GA fuel _ kk).trans h)
  · cases h
def cy (i:Nat):Option (List Nat):=Ev.look i [(7,[0,3,5,6,7,32,33]),(15,[0,3,5,6,7,9,10]),(100000,[0,3,5,6,7]),(100002,[0,3,5]),(400000,[4]),(400002,[4])]
def lB (a:bw) (b:ba) (f:Nat):Option Ev.Spec:=Ev.look f [(127,lM a),(180,iZ b)]
def lf (fuel:Nat):Nat→Option Ev.Spec:=lB (bu fuel) (aD fuel)
abbrev qs:Type:=Int×Int×Int×Int×Int×Bool×Int×(List (Int×Int))
abbrev qL:Type:=(Int×Int×Int×Bool×Int×(List (Int×Int))→OA)
def jW (fuel:Nat) (k:bw) (l:ba) (a f:Int) (g h d:Int) (i:Bool) (j:Int) (e:(List (Int×Int))) (c:qs→OA) (B:qL):OA:=match B with | b=>bif decide (d < h) then bif decide ((e.length+ [(i64.wrap (i64.wrap (a+(1:Int))+d),(1:Int))].length)*(16:Nat)≤(140737488355328:Nat)∧e.length+ [(i64.wrap (i64.wrap (a+(1:Int))+d),(1:Int))].length≤(140737488355328:Nat)) then c (a,f,g,h,i64.wrap (d+(1:Int)),i,j,e++ [(i64.wrap (i64.wrap (a+(1:Int))+d),(1:Int))]) else none else b (a,f,g,i,j,e)
def fC (fuel:Nat) (v:Int×Int×Int×Int×Int×Bool×Int×(List (Int×Int))) (c:(Int×Int×Int×Int×Int×Bool×Int×(List (Int×Int)))→Option Ans) (B:(Int×Int×Int×Bool×Int×(List (Int×Int))→Option Ans)):Option Ans:=match v with | (a,b,d,e,f,g,h,i)=>jW fuel (bu fuel) (aD fuel) a b d e f g h i c B
def yC (fuel:Nat) (v:qs) (b:qL):Option Ans:=iter (fC fuel) fuel v b
def mQ (v:qs):Ev.St:=match v with | (a,b,d,e,f,g,h,i)=>⟨[(0,.c (i6 a)),(3,.c (.ptr 0 0)),(5,.c (.own 1)),(6,.c (i6 b)),(7,.c (i6 d)),(32,.c (i6 e)),(33,.c (i6 f))],[(0,.cells 105 [.bool g,i6 h]),(1,.vec 163 (.pair (.int .i64) (.int .i64)) i true)],2,0⟩
def qu (K:KT):qL:=(fun v=>match v with | (a,b,d,e,f,g)=>K .normal ⟨[(0,.c (i6 a)),(3,.c (.ptr 0 0)),(5,.c (.own 1)),(6,.c (i6 b)),(7,.c (i6 d))],[(0,.cells 105 [.bool e,i6 f]),(1,.vec 163 (.pair (.int .i64) (.int .i64)) g true)],2,0⟩)
theorem JE (fuel:Nat) (a:bw) (b:ba) (R:Ev.St→OA) (K:KT) (c d:Int) (e f g:Int) (h:Bool) (i:Int) (j:(List (Int×Int))):evalCode tab (lB a b) J0 cy fuel (bodyOf 0 Tryz.f140) (mQ (c,d,e,f,g,h,i,j)) (lc cy 7 0 R K)=jW fuel a b c d e f g h i j (fun v=>R (mQ v)) (qu K):=by
  kernel_rfl
def gh (fuel:Nat):Ev.Blk:=fun st K=>match canonO (cy 7) st with | some s=>(match s with | ⟨[(h,.c (i6 i)),(j,.c (.ptr k l)),(m,.c (.own n)),(o,.c (i6 p)),(q,.c (i6 r)),(t,.c (i6 u)),(v,.c (i6 w))],[(a,.cells b [.bool x,i6 y]),(d,.vec e (.pair (.int .i64) (.int .i64)) z true)],f,g⟩=>bif qb [h,j,k,l,m,n,o,q,t,v,a,b,d,e,f,g] [0,3,0,0,5,1,6,7,32,33,0,105,1,163,2,0] then iter (fC fuel) fuel (i,p,r,u,w,x,y,z) (qu K) else none | _=>none) | none=>none
theorem IM (fuel:Nat) (st:Ev.St) (K:KT) (r:Ans) (h:gh fuel st K=some r):evalCode tab (lf fuel) J0 cy fuel (.block 0 (.loop (bodyOf 0 Tryz.f140))) st K=some r:=by
  unfold gh at h
  split at h
  · rename_i s hs
    split at h
    · skip
      obtain ⟨hb,h⟩:=cond_some' h
      cases qb_eq hb
      exact blk_loop (S:=mQ) (ks:=qu) (step:=fC fuel) (v:=(_,_,_,_,_,_,_,_)) (by kernel_rfl) (by kernel_rfl) (fun R K v=>by obtain ⟨a,b,c,d,e,f,g,i⟩:=v; exact JE fuel (bu fuel) (aD fuel) R K a b c d e f g i) hs h
    · cases h
  · cases h
abbrev nO:Type:=Int×Int×Int×Int×Bool×Int×(List (Int×Int))×Int
abbrev tk:Type:=(Int×Bool×Int×(List (Int×Int))→OA)
def ke (fuel:Nat) (n:bw) (l:ba) (d e:Int) (g a:Int) (i:Bool) (j:Int) (f:(List (Int×Int))) (k:Int) (c:nO→OA) (B:tk):OA:=match B with | b=>bif decide (a≥0) then bif decide (a < i64.wrap (g - 1)) then (l k (fun (h,m)=>bif decide (a < 0) then none else bif decide ((f.length+ [(i64.wrap (d+h),Ev.iand IntKind.i64 (Ev.ishr IntKind.i64 e a) (1:Int))].length)*(16:Nat)≤(140737488355328:Nat)∧f.length+ [(i64.wrap (d+h),Ev.iand IntKind.i64 (Ev.ishr IntKind.i64 e a) (1:Int))].length≤(140737488355328:Nat)) then c (d,e,g,i64.wrap (a - (1:Int)),i,j,f++ [(i64.wrap (d+h),Ev.iand IntKind.i64 (Ev.ishr IntKind.i64 e a) (1:Int))],m) else none)) else bif decide (a < 0) then none else bif decide ((f.length+ [(i64.wrap (d+i64.wrap ((23:Int)+g)),Ev.iand IntKind.i64 (Ev.ishr IntKind.i64 e a) (1:Int))].length)*(16:Nat)≤(140737488355328:Nat)∧f.length+ [(i64.wrap (d+i64.wrap ((23:Int)+g)),Ev.iand IntKind.i64 (Ev.ishr IntKind.i64 e a) (1:Int))].length≤(140737488355328:Nat)) then c (d,e,g,i64.wrap (a - (1:Int)),i,j,f++ [(i64.wrap (d+i64.wrap ((23:Int)+g)),Ev.iand IntKind.i64 (Ev.ishr IntKind.i64 e a) (1:Int))],k) else none else b (d,i,j,f)
def fU (fuel:Nat) (v:Int×Int×Int×Int×Bool×Int×(List (Int×Int))×Int) (c:(Int×Int×Int×Int×Bool×Int×(List (Int×Int))×Int)→Option Ans) (B:(Int×Bool×Int×(List (Int×Int))→Option Ans)):Option Ans:=match v with | (a,b,d,e,f,g,h,i)=>ke fuel (bu fuel) (aD fuel) a b d e f g h i c B
def lF (fuel:Nat) (v:nO) (b:tk):Option Ans:=iter (fU fuel) fuel v b
def u3 (fuel:Nat) (i:Nat):Option Ev.Blk:=Ev.look i [(100000,gh fuel)]
def so (v:nO):Ev.St:=match v with | (a,b,d,e,f,g,h,i)=>⟨[(0,.c (i6 a)),(3,.c (.ptr 0 0)),(5,.c (.own 1)),(6,.c (i6 b)),(7,.c (i6 d)),(9,.c (.ptr 2 0)),(10,.c (i6 e))],[(0,.cells 105 [.bool f,i6 g]),(1,.vec 163 (.pair (.int .i64) (.int .i64)) h true),(2,.cells 233 [i6 i])],3,0⟩
def oZ (K:KT):tk:=(fun v=>match v with | (a,b,d,e)=>K .normal ⟨[(0,.c (i6 a)),(3,.c (.ptr 0 0)),(5,.c (.own 1))],[(0,.cells 105 [.bool b,i6 d]),(1,.vec 163 (.pair (.int .i64) (.int .i64)) e true)],2,0⟩)
theorem JR (fuel:Nat) (a:bw) (b:ba) (R:Ev.St→OA) (K:KT) (c d:Int) (e f:Int) (g:Bool) (h:Int) (i:(List (Int×Int))) (j:Int):evalCode tab (lB a b) (u3 fuel) cy fuel (bodyOf 2 Tryz.f140) (so (c,d,e,f,g,h,i,j)) (lc cy 15 2 R K)=ke fuel a b c d e f g h i j (fun v=>R (so v)) (oZ K):=by
  kernel_rfl
def iC (fuel:Nat):Ev.Blk:=fun st K=>match canonO (cy 15) st with | some s=>(match s with | ⟨[(l,.c (i6 m)),(n,.c (.ptr o p)),(q,.c (.own r)),(t,.c (i6 u)),(v,.c (i6 w)),(x,.c (.ptr y a)),(b,.c (i6 z))],[(d,.cells e [.bool A,i6 B]),(f,.vec g (.pair (.int .i64) (.int .i64)) C true),(h,.cells i [i6 D])],j,k⟩=>bif qb [l,n,o,p,q,r,t,v,x,y,a,b,d,e,f,g,h,i,j,k] [0,3,0,0,5,1,6,7,9,2,0,10,0,105,1,163,2,233,3,0] then iter (fU fuel) fuel (m,u,w,z,A,B,C,D) (oZ K) else none | _=>none) | none=>none
theorem I5 (fuel:Nat) (st:Ev.St) (K:KT) (r:Ans) (h:iC fuel st K=some r):evalCode tab (lf fuel) (u3 fuel) cy fuel (.block 2 (.loop (bodyOf 2 Tryz.f140))) st K=some r:=by
  unfold iC at h
  split at h
  · rename_i s hs
    split at h
    · skip
      obtain ⟨hb,h⟩:=cond_some' h
      cases qb_eq hb
      exact blk_loop (S:=so) (ks:=oZ) (step:=fU fuel) (v:=(_,_,_,_,_,_,_,_)) (by kernel_rfl) (by kernel_rfl) (fun R K v=>by obtain ⟨a,b,c,d,e,f,g,i⟩:=v; exact JR fuel (bu fuel) (aD fuel) R K a b c d e f g i) hs h
    · cases h
  · cases h
def qO (fuel:Nat) (i:Nat):Option Ev.Blk:=Ev.look i [(100000,gh fuel),(100002,iC fuel)]
def om (fuel:Nat) (n:bw) (p:ba) (h:Int) (l:Bool) (c:Int) (k0:((List (Int×Int)))→OA):OA:=bif l then k0 ([(h,1)]) else (n (u64.wrap (i64.wrap ((bif decide (i64.wrap (0 - c) > c) then i64.wrap (0 - c) else c)+1))) (fun m=>(yC fuel (h,i64.wrap ((bif decide (i64.wrap (0 - c) > c) then i64.wrap (0 - c) else c)+1),i64.wrap (m - 1),i64.wrap (m - 1),0,l,c,[(h,0)]) (fun (e,i,d,j,k,g)=>bif decide (d < 20) then bif decide ((g.length+ [(i64.wrap (i64.wrap (e+(1:Int))+d),(0:Int))].length)*(16:Nat)≤(140737488355328:Nat)∧g.length+ [(i64.wrap (i64.wrap (e+(1:Int))+d),(0:Int))].length≤(140737488355328:Nat)) then (lF fuel (e,i,d,i64.wrap (d - (1:Int)),j,k,g++ [(i64.wrap (i64.wrap (e+(1:Int))+d),(0:Int))],(44:Int)) (fun (b,o,f,a)=>bif f != 0 then bif decide (f < 0) then bif decide ((a.length+ [(i64.wrap (b+(22:Int)),(1:Int))].length)*(16:Nat)≤(140737488355328:Nat)∧a.length+ [(i64.wrap (b+(22:Int)),(1:Int))].length≤(140737488355328:Nat)) then k0 (a++ [(i64.wrap (b+(22:Int)),(1:Int))]) else none else bif decide ((a.length+ [(i64.wrap (b+(22:Int)),(0:Int))].length)*(16:Nat)≤(140737488355328:Nat)∧a.length+ [(i64.wrap (b+(22:Int)),(0:Int))].length≤(140737488355328:Nat)) then k0 (a++ [(i64.wrap (b+(22:Int)),(0:Int))]) else none else k0 a)) else none else (lF fuel (e,i,d,i64.wrap (d - 1),j,k,g,44) (fun (b,o,f,a)=>bif f != 0 then bif decide (f < 0) then bif decide ((a.length+ [(i64.wrap (b+(22:Int)),(1:Int))].length)*(16:Nat)≤(140737488355328:Nat)∧a.length+ [(i64.wrap (b+(22:Int)),(1:Int))].length≤(140737488355328:Nat)) then k0 (a++ [(i64.wrap (b+(22:Int)),(1:Int))]) else none else bif decide ((a.length+ [(i64.wrap (b+(22:Int)),(0:Int))].length)*(16:Nat)≤(140737488355328:Nat)∧a.length+ [(i64.wrap (b+(22:Int)),(0:Int))].length≤(140737488355328:Nat)) then k0 (a++ [(i64.wrap (b+(22:Int)),(0:Int))]) else none else k0 a))))))
abbrev ly:Type:=Int→Bool→Int→(((List (Int×Int)))→Option Ans)→Option Ans
def eB (fuel:Nat):ly:=om fuel (bu fuel) (aD fuel)
theorem Kk (fuel:Nat) (a:bw) (b:ba) (d:Int) (e:Bool) (f:Int) (k:Ev.Cont):evalFn tab (lB a b) (qO fuel) cy fuel Tryz.f140 [.c (i6 d),.agg [.bool e,i6 f]] [] k=om fuel a b d e f (fun r=>match r with | g=>k (.c (.own 0),[.vec 163 (.pair (.int .i64) (.int .i64)) g true])):=by
  kernel_rfl
theorem nm (fuel:Nat):GOK Tryz.prog (lf fuel):=
  gc (vs fuel) Tryz.func127 (by kernel_rfl) rfl <|
  gc (ve fuel) Tryz.func180 (by kernel_rfl) rfl <|
  gok_nil
theorem FY (fuel:Nat):BlkOK Tryz.prog Tryz.f140.ntmps (.block 0 (.loop (bodyOf 0 Tryz.f140))) (gh fuel):=bo0 (nm fuel) (by kernel_rfl) (by kernel_rfl) (IM fuel)
theorem Bn (fuel:Nat):BlkOK Tryz.prog Tryz.f140.ntmps (.block 2 (.loop (bodyOf 2 Tryz.f140))) (iC fuel):=bo0 (nm fuel) (by kernel_rfl) (by kernel_rfl) (I5 fuel)
theorem Aq (fuel:Nat):FnOK Tryz.prog 140 (evalFn tab (lf fuel) (qO fuel) cy fuel Tryz.f140):=
  fn_ok tab_ok (nm fuel) mixed Tryz.func140 (c:=(Tryz.f140.body).getD .skip) rfl (fun q hq=>by
    rw [(by kernel_rfl:obl (qO fuel) ((Tryz.f140.body).getD .skip)= [(.block 0 (.loop (bodyOf 0 Tryz.f140)),gh fuel),(.block 2 (.loop (bodyOf 2 Tryz.f140)),iC fuel)])] at hq
    simp only [List.mem_cons,List.not_mem_nil,or_false] at hq
    rcases hq with rfl | rfl
    · exact FY fuel
    · exact Bn fuel)
def rd (F:ly):Ev.Spec:=fun args objs k=>match args,objs with | [.c (i6 a),.agg [.bool b,i6 d]],[]=>F a b d (fun r=>match r with | e=>k (.c (.own 0),[.vec 163 (.pair (.int .i64) (.int .i64)) e true])) | _,_=>none
theorem HQ (fuel:Nat):FnOK Tryz.prog 140 (rd (eB fuel)):=by
  intro args objs kk r h
  unfold rd at h
  split at h
  · skip
    exact Aq fuel _ _ kk r ((Kk fuel (bu fuel) (aD fuel) _ _ _ kk).trans h)
  · cases h
def Cb (i:Nat):Option (List Nat):=Ev.look i []
def Ft (f:Nat):Option Ev.Spec:=Ev.look f []
def ws (fuel:Nat):Nat→Option Ev.Spec:=Ft
def an (fuel:Nat) (d:Int) (b:(List Int)) (a c:Int) (k0:(Int)→Option Ans):Option Ans:=bif decide (a < 0) then k0 (2) else bif decide (a > i64.wrap ((↑b.length:Int) - c)) then k0 (2) else k0 (0)
abbrev aX:Type:=Int→LI→Int→Int→(Int→Option Ans)→Option Ans
theorem Gw (fuel:Nat) (a:Int) (b:LI) (d e:Int) (k:Ev.Cont):evalFn tab (ws fuel) J0 Cb fuel Tryz.f138 [.agg [i6 a,.sl (.int .i64) b],.c (i6 d),.c (i6 e)] [] k=an fuel a b d e (fun r=>match r with | f=>k (.c (i6 f),[])):=by
  kernel_rfl
theorem Jx (fuel:Nat):GOK Tryz.prog (ws fuel):=
  gok_nil
def fz (F:aX):Ev.Spec:=fun args objs k=>match args,objs with | [.agg [i6 a,.sl (.int .i64) b],.c (i6 d),.c (i6 e)],[]=>F a b d e (fun r=>match r with | f=>k (.c (i6 f),[])) | _,_=>none
theorem kn (fuel:Nat):FnOK Tryz.prog 138 (fz (an fuel)):=by
  intro args objs kk r h
  unfold fz at h
  split at h
  · skip
    exact fo0 (Jx fuel) Tryz.func138 rfl (by kernel_rfl) _ _ kk r ((Gw fuel _ _ _ _ kk).trans h)
  · cases h
def iO (i:Nat):Option (List Nat):=Ev.look i [(2,[0,8,9,10,1000002]),(100000,[]),(400000,[4,1000002])]
def pJ (a:ag) (f:Nat):Option Ev.Spec:=Ev.look f [(132,cS a)]
def vZ (fuel:Nat):Nat→Option Ev.Spec:=pJ (ab fuel)
abbrev mH:Type:=(List (Int×Int))×Int×Int×Int×Int×Int×Bool×LI×LI
abbrev wP:Type:=(Int×Int×Int×Int×Bool×LI×LI→OA)×(Int×Int×Int×Bool×LI×LI→OA)
def kE (fuel:Nat) (s:ag) (k:(List (Int×Int))) (l a:Int) (m n o:Int) (p:Bool) (q r:LI) (c:mH→OA) (B:wP):OA:=match B with | (ret,b)=>bif decide (a < l) then bif decide (0≤a∧a < (↑k.length:Int)) then (s ((k.getD a.toNat (0,0)).fst) ((k.getD a.toNat (0,0)).snd) m n o p q r (fun (d,e,f,g,h,i,j)=>bif d != 0 then ret (d,e,f,g,h,i,j) else c (k,l,i64.wrap (a+1),e,f,g,h,i,j)) (fun (d,e,f,g,h,i,j)=>bif d != 0 then ret (d,e,f,g,h,i,j) else c (k,l,i64.wrap (a+1),e,f,g,h,i,j))) else none else b (m,n,o,p,q,r)
def fM (fuel:Nat) (v:(List (Int×Int))×Int×Int×Int×Int×Int×Bool×(List Int)×(List Int)) (c:((List (Int×Int))×Int×Int×Int×Int×Int×Bool×(List Int)×(List Int))→Option Ans) (B:(Int×Int×Int×Int×Bool×(List Int)×(List Int)→Option Ans)×(Int×Int×Int×Bool×(List Int)×(List Int)→Option Ans)):Option Ans:=match v with | (a,b,d,e,f,g,h,i,j)=>kE fuel (ab fuel) a b d e f g h i j c B
def yX (fuel:Nat) (v:mH) (ret:(Int×Int×Int×Int×Bool×(List Int)×(List Int)→Option Ans)) (b:(Int×Int×Int×Bool×(List Int)×(List Int)→Option Ans)):Option Ans:=iter (fM fuel) fuel v (ret,b)
def tM (v:mH):Ev.St:=match v with | (a,b,d,e,f,g,h,i,j)=>⟨[(0,.c (.ptr 0 0)),(8,.c (.sl (.pair (.int .i64) (.int .i64)) a)),(9,.c (i6 b)),(10,.c (i6 d))],[(0,.cells 138 (i6 e::.own 1::ctb (.int .u64 f::.int .u64 g::.own 2::.bool h::[]))),(1,.vec 3 (.int .i64) i false),(2,.vec 5 (.int .u8) j true)],3,3⟩
def oY (K:KT):wP:=((fun v=>match v with | (a,b,d,e,f,g,h)=>K .ret ⟨[(4,.c (i6 a))],[(0,.cells 138 (i6 b::.own 1::ctb (.int .u64 d::.int .u64 e::.own 2::.bool f::[]))),(1,.vec 3 (.int .i64) g false),(2,.vec 5 (.int .u8) h true)],3,3⟩),(fun v=>match v with | (a,b,d,e,f,g)=>K .normal ⟨[],[(0,.cells 138 (i6 a::.own 1::ctb (.int .u64 b::.int .u64 d::.own 2::.bool e::[]))),(1,.vec 3 (.int .i64) f false),(2,.vec 5 (.int .u8) g true)],3,3⟩))
theorem Df (fuel:Nat) (a:ag) (R:Ev.St→OA) (K:KT) (b:(List (Int×Int))) (c d:Int) (e f g:Int) (h:Bool) (i j:LI):evalCode tab (pJ a) J0 iO fuel (bodyOf 0 Tryz.f139) (tM (b,c,d,e,f,g,h,i,j)) (lc iO 2 0 R K)=kE fuel a b c d e f g h i j (fun v=>R (tM v)) (oY K):=by
  kernel_rfl
def jP (fuel:Nat):Ev.Blk:=fun st K=>match canonO (iO 2) st with | some s=>(match s with | ⟨[(i,.c (.ptr j k)),(l,.c (.sl (.pair (.int .i64) (.int .i64)) m)),(n,.c (i6 o)),(p,.c (i6 q))],[(r,.cells t a),(u,.vec v (.int .i64) w false),(b,.vec d (.int .u8) x true)],e,f⟩=>(match splitRun 2 ctn a with | some ([i6 y,.own g],[.int .u64 z,.int .u64 A,.own h,.bool B])=>bif qb [i,j,k,l,n,p,r,t,u,v,b,d,e,f,g,h] [0,0,0,8,9,10,0,138,1,3,2,5,3,3,1,2] then iter (fM fuel) fuel (m,o,q,y,z,A,B,w,x) (oY K) else none | _=>none) | _=>none) | none=>none
theorem Ik (fuel:Nat) (st:Ev.St) (K:KT) (r:Ans) (h:jP fuel st K=some r):evalCode tab (vZ fuel) J0 iO fuel (.block 0 (.loop (bodyOf 0 Tryz.f139))) st K=some r:=by
  unfold jP at h
  split at h
  · rename_i s hs
    split at h
    · skip
      split at h
      rotate_left 1
      · cases h
      rename_i hsp
      have esp:=splitRun_eq hsp
      subst esp
      obtain ⟨hb,h⟩:=cond_some' h
      cases qb_eq hb
      exact blk_loop (S:=tM) (ks:=oY) (step:=fM fuel) (v:=(_,_,_,_,_,_,_,_,_)) (by kernel_rfl) (by kernel_rfl) (fun R K v=>by obtain ⟨a,b,c,d,e,f,g,i,j⟩:=v; exact Df fuel (ab fuel) R K a b c d e f g i j) hs h
    · cases h
  · cases h
def Ib (fuel:Nat) (i:Nat):Option Ev.Blk:=Ev.look i [(100000,jP fuel)]
def sP (fuel:Nat) (n:ag) (a:(List (Int×Int))) (h i j:Int) (k:Bool) (l m:LI) (k0:(Int×Int×Int×Int×Bool×LI×LI)→OA):OA:=(yX fuel (a,(↑a.length:Int),0,h,i,j,k,l,m) (fun (ret0_0,ret0_1,ret0_2,ret0_3,ret0_4,ret0_5,ret0_6)=>k0 (ret0_0,ret0_1,ret0_2,ret0_3,ret0_4,ret0_5,ret0_6)) (fun (b,c,d,e,f,g)=>k0 (0,b,c,d,e,f,g)))
abbrev dC:Type:=((List (Int×Int)))→Int→Int→Int→Bool→LI→LI→((Int×Int×Int×Int×Bool×LI×LI)→Option Ans)→Option Ans
def bo (fuel:Nat):dC:=sP fuel (ab fuel)
theorem IS (fuel:Nat) (a:ag) (b:(List (Int×Int))) (d e f:Int) (g:Bool) (h i:LI) (k:Ev.Cont):evalFn tab (pJ a) (Ib fuel) iO fuel Tryz.f139 [.c (.ptr 0 0),.c (.sl (.pair (.int .i64) (.int .i64)) b)] [.cells 138 (i6 d::.own 1::ctb (.int .u64 e::.int .u64 f::.own 2::.bool g::[])),.vec 3 (.int .i64) h false,.vec 5 (.int .u8) i false] k=sP fuel a b d e f g h i (fun r=>match r with | (j,l,m,n,o,p,q)=>k (.c (i6 j),[.cells 138 (i6 l::.own 1::ctb (.int .u64 m::.int .u64 n::.own 2::.bool o::[])),.vec 3 (.int .i64) p false,.vec 5 (.int .u8) q true])):=by
  kernel_rfl
theorem yE (fuel:Nat):GOK Tryz.prog (vZ fuel):=
  gc (di fuel) Tryz.func132 (by kernel_rfl) rfl <|
  gok_nil
theorem Bz (fuel:Nat):BlkOK Tryz.prog Tryz.f139.ntmps (.block 0 (.loop (bodyOf 0 Tryz.f139))) (jP fuel):=bo0 (yE fuel) (by kernel_rfl) (by kernel_rfl) (Ik fuel)
def lh (F:dC):Ev.Spec:=fun args objs k=>match args,objs with | [.c (.ptr b d),.c (.sl (.pair (.int .i64) (.int .i64)) e)],[.cells f a,.vec g (.int .i64) h false,.vec i (.int .u8) j false]=>(match splitRun 2 ctn a with | some ([i6 l,.own m],[.int .u64 n,.int .u64 o,.own p,.bool q])=>bif qb [b,d,f,g,i,m,p] [0,0,138,3,5,1,2] then F e l n o q h j (fun r=>match r with | (s,t,u,v,w,x,y)=>k (.c (i6 s),[.cells 138 (i6 t::.own 1::ctb (.int .u64 u::.int .u64 v::.own 2::.bool w::[])),.vec 3 (.int .i64) x false,.vec 5 (.int .u8) y true])) else none | _=>none) | _,_=>none
theorem zb (fuel:Nat):FnOK Tryz.prog 139 (lh (bo fuel)):=by
  intro args objs kk r h
  unfold lh at h
  split at h
  · skip
    split at h
    rotate_left 1
    · cases h
    rename_i hsp
    have esp:=splitRun_eq hsp
    subst esp
    obtain ⟨hb,h⟩:=cond_some' h
    cases qb_eq hb
    exact fo1 (yE fuel) Tryz.func139 rfl (Bz fuel) (by kernel_rfl) _ _ kk r ((IS fuel (ab fuel) _ _ _ _ _ _ _ kk).trans h)
  · cases h
def vO (i:Nat):Option (List Nat):=Ev.look i [(600000,[])]
def yU (c:az) (a:ag) (d:rx) (e:aX) (b:dC) (g:ly) (f:Nat):Option Ev.Spec:=Ev.look f [(35,eG c),(132,cS a),(137,rT d),(138,fz e),(139,lh b),(140,rd g)]
def wH (fuel:Nat):Nat→Option Ev.Spec:=yU (ak fuel) (ab fuel) (dD fuel) (an fuel) (bo fuel) (eB fuel)
def aZ (fuel:Nat) (n:Int) (o:Bool) (p C:Int) (D E:Int) (F:Bool) (G H:(List Int)) (k0:(Int×Int×Int×Int×Bool×(List Int)×(List Int))→Option Ans):Option Ans:=(ab fuel ((-1:Int)) (0) C D E F G H (fun (z,a,b,c,d,e,f)=>bif z==7 then k0 (7,a,b,c,d,e,f) else (dD fuel o p (fun B=>bif !B then k0 (2,a,b,c,d,e,f) else (ak fuel a b c d e f (fun (q,g,h,i,j,k,l,r)=>(an fuel q r n (48) (fun m=>bif m != 0 then k0 (m,g,h,i,j,k,l) else (eB fuel n o p (fun A=>(bo fuel A g h i j k l (fun (s,t,u,v,w,x,y)=>k0 (s,t,u,v,w,x,y)))))))))))) (fun (z,a,b,c,d,e,f)=>bif z==7 then k0 (7,a,b,c,d,e,f) else (dD fuel o p (fun B=>bif !B then k0 (2,a,b,c,d,e,f) else (ak fuel a b c d e f (fun (q,g,h,i,j,k,l,r)=>(an fuel q r n (48) (fun m=>bif m != 0 then k0 (m,g,h,i,j,k,l) else (eB fuel n o p (fun A=>(bo fuel A g h i j k l (fun (s,t,u,v,w,x,y)=>k0 (s,t,u,v,w,x,y)))))))))))))
abbrev bK:Type:=Int→Bool→Int→Int→Int→Int→Bool→LI→LI→((Int×Int×Int×Int×Bool×LI×LI)→Option Ans)→Option Ans
theorem ES (fuel:Nat) (u:az) (K:ag) (E:rx) (F:aX) (t:dC) (G:ly) (p:Int) (q:Bool) (s L:Int) (M N:Int) (O:Bool) (P Q:LI) (k:Ev.Cont):evalFn tab (yU u K E F t G) J0 vO fuel Tryz.f80 [.c (.ptr 0 0),.c (i6 p),.agg [.bool q,i6 s]] [.cells 138 (i6 L::.own 1::ctb (.int .u64 M::.int .u64 N::.own 2::.bool O::[])),.vec 3 (.int .i64) P false,.vec 5 (.int .u8) Q false] (wkC [1000002] k)=(fun  (k0:(Int×Int×Int×Int×Bool×LI×LI)→OA)=>
  (K ((-1:Int)) ((0:Int)) L M N O P Q
  (fun (H,a,b,d,e,f,g)=>
  bif H==(7:Int) then
  k0 ((7:Int),a,b,d,e,f,g)
  else
  (E q s
  (fun J=>
  bif !J then
  k0 ((2:Int),a,b,d,e,f,g)
  else
  (u a b d e f g
  (fun (v,h,i,j,l,m,n,w)=>
  (F v w p ((48:Int))
  (fun o=>
  bif o != (0:Int) then
  k0 (o,h,i,j,l,m,n)
  else
  (G p q s
  (fun I=>
  (t I h i j l m n
  (fun (x,y,z,A,B,C,D)=>
  k0 (x,y,z,A,B,C,D))))))))))))
  (fun (H,a,b,d,e,f,g)=>
  bif H==(7:Int) then
  k0 ((7:Int),a,b,d,e,f,g)
  else
  (E q s
  (fun J=>
  bif !J then
  k0 ((2:Int),a,b,d,e,f,g)
  else
  (u a b d e f g
  (fun (v,h,i,j,l,m,n,w)=>
  (F v w p ((48:Int))
  (fun o=>
  bif o != (0:Int) then
  k0 (o,h,i,j,l,m,n)
  else
  (G p q s
  (fun I=>
  (t I h i j l m n
  (fun (x,y,z,A,B,C,D)=>
  k0 (x,y,z,A,B,C,D)))))))))))))) (fun r=>match r with | (R,S,T,U,V,W,X)=>k (.c (i6 R),[.cells 138 (i6 S::.own 1::ctb (.int .u64 T::.int .u64 U::.own 2::.bool V::[])),.vec 3 (.int .i64) W false,.vec 5 (.int .u8) X true])):=by
  kernel_rfl
theorem Eb (fuel:Nat):GOK Tryz.prog (wH fuel):=
  gc (gd fuel) Tryz.func35 (by kernel_rfl) rfl <|
  gc (di fuel) Tryz.func132 (by kernel_rfl) rfl <|
  gc (AQ fuel) Tryz.func137 (by kernel_rfl) rfl <|
  gc (kn fuel) Tryz.func138 (by kernel_rfl) rfl <|
  gc (zb fuel) Tryz.func139 (by kernel_rfl) rfl <|
  gc (HQ fuel) Tryz.func140 (by kernel_rfl) rfl <|
  gok_nil
theorem GW (fuel:Nat):FnOK Tryz.prog 80 (evalFn tab (wH fuel) J0 vO fuel Tryz.f80):=
  fn_ok tab_ok (Eb fuel) mixed Tryz.func80 (c:=(Tryz.f80.body).getD .skip) rfl (fun q hq=>by
    rw [(by kernel_rfl:obl J0 ((Tryz.f80.body).getD .skip)= [])] at hq
    cases hq)
def jd (F:bK):Ev.Spec:=fun args objs k=>match args,objs with | [.c (.ptr b d),.c (i6 e),.agg [.bool f,i6 g]],[.cells h a,.vec i (.int .i64) j false,.vec l (.int .u8) m false]=>(match splitRun 2 ctn a with | some ([i6 n,.own o],[.int .u64 p,.int .u64 q,.own s,.bool t])=>bif qb [b,d,h,i,l,o,s] [0,0,138,3,5,1,2] then F e f g n p q t j m (fun r=>match r with | (u,v,w,x,y,z,A)=>k (.c (i6 u),[.cells 138 (i6 v::.own 1::ctb (.int .u64 w::.int .u64 x::.own 2::.bool y::[])),.vec 3 (.int .i64) z false,.vec 5 (.int .u8) A true])) else none | _=>none) | _,_=>none
def oe (fuel:Nat):Ev.Spec:=jd (aZ fuel)
theorem nJ (fuel:Nat):FnOK Tryz.prog 80 (oe fuel):=by
  intro args objs kk r h
  unfold oe jd at h
  split at h
  · skip
    split at h
    rotate_left 1
    · cases h
    rename_i hsp
    have esp:=splitRun_eq hsp
    subst esp
    obtain ⟨hb,h⟩:=cond_some' h
    cases qb_eq hb
    exact (GW fuel).wk [1000002] _ _ kk r ((ES fuel (ak fuel) (ab fuel) (dD fuel) (an fuel) (bo fuel) (eB fuel) _ _ _ _ _ _ _ _ _ kk).trans h)
  · cases h
def AE (i:Nat):Option (List Nat):=Ev.look i [(200001,[0]),(200002,[0])]
def G9 (f:Nat):Option Ev.Spec:=Ev.look f []
def wK (fuel:Nat):Nat→Option Ev.Spec:=G9
def aT (fuel:Nat) (c d:Int) (e a:Int) (f g:Int) (h i:Bool) (j b:(List Int)) (k0:(Int×Int×Int×Int×Int×Int×Bool×Bool×(List Int)×(List Int))→Option Ans):Option Ans:=bif decide (a < (↑b.length:Int)) then bif decide (0≤a∧a < (↑b.length:Int)) then k0 (c,d,e,i64.wrap (a+1),Ev.ior IntKind.u64 (Ev.iand IntKind.u64 (Ev.ishl IntKind.u64 f 8) 4294967295) (u64.wrap (b.getD a.toNat 0)),g,h,i,j,b) else none else k0 (c,d,e,i64.wrap (a+1),Ev.ior IntKind.u64 (Ev.iand IntKind.u64 (Ev.ishl IntKind.u64 f 8) 4294967295) (u64.wrap 0),i64.wrap (g+1),h,i,j,b)
abbrev bM:Type:=Int→Int→Int→Int→Int→Int→Bool→Bool→LI→LI→((Int×Int×Int×Int×Int×Int×Bool×Bool×LI×LI)→Option Ans)→Option Ans
theorem IB (fuel:Nat) (a b:Int) (d e:Int) (f g:Int) (h i:Bool) (j l:LI) (k:Ev.Cont):evalFn tab (wK fuel) J0 AE fuel Tryz.f84 [.c (.ptr 0 0)] [.cells 147 (i6 a::.own 1::ctb (.int .u64 b::.int .u64 d::.own 2::i6 e::.int .u64 f::i6 g::.bool h::.bool i::[])),.vec 3 (.int .i64) j false,.vec 5 (.int .u8) l false] k=aT fuel a b d e f g h i j l (fun r=>match r with | (m,n,o,p,q,s,t,u,v,w)=>k (.tup [],[.cells 147 (i6 m::.own 1::ctb (.int .u64 n::.int .u64 o::.own 2::i6 p::.int .u64 q::i6 s::.bool t::.bool u::[])),.vec 3 (.int .i64) v false,.vec 5 (.int .u8) w false])):=by
  kernel_rfl
theorem It (fuel:Nat):GOK Tryz.prog (wK fuel):=
  gok_nil
def kR (F:bM):Ev.Spec:=fun args objs k=>match args,objs with | [.c (.ptr b d)],[.cells e a,.vec f (.int .i64) g false,.vec h (.int .u8) i false]=>(match splitRun 2 ctn a with | some ([i6 j,.own l],[.int .u64 m,.int .u64 n,.own o,i6 p,.int .u64 q,i6 s,.bool t,.bool u])=>bif qb [b,d,e,f,h,l,o] [0,0,147,3,5,1,2] then F j m n p q s t u g i (fun r=>match r with | (v,w,x,y,z,A,B,C,D,E)=>k (.tup [],[.cells 147 (i6 v::.own 1::ctb (.int .u64 w::.int .u64 x::.own 2::i6 y::.int .u64 z::i6 A::.bool B::.bool C::[])),.vec 3 (.int .i64) D false,.vec 5 (.int .u8) E false])) else none | _=>none) | _,_=>none
def sN (fuel:Nat):Ev.Spec:=kR (aT fuel)
theorem nU (fuel:Nat):FnOK Tryz.prog 84 (sN fuel):=by
  intro args objs kk r h
  unfold sN kR at h
  split at h
  · skip
    split at h
    rotate_left 1
    · cases h
    rename_i hsp
    have esp:=splitRun_eq hsp
    subst esp
    obtain ⟨hb,h⟩:=cond_some' h
    cases qb_eq hb
    exact fo0 (It fuel) Tryz.func84 rfl (by kernel_rfl) _ _ kk r ((IB fuel _ _ _ _ _ _ _ _ _ _ kk).trans h)
  · cases h
def eJ (i:Nat):Option (List Nat):=Ev.look i [(11,[0,1,3,10,11,12,1000002]),(100000,[0,11]),(400000,[8]),(600000,[])]
def ox (c:az) (a:ag) (d:aX) (b:dC) (f:Nat):Option Ev.Spec:=Ev.look f [(35,eG c),(132,cS a),(138,fz d),(139,lh b)]
def mK (fuel:Nat):Nat→Option Ev.Spec:=ox (ak fuel) (ab fuel) (an fuel) (bo fuel)
abbrev my:Type:=Int×Int×Int×Int×Int×Int×Int×Bool×LI×LI×(List (Int×Int))
abbrev oF:Type:=(Int×Int×Int×Bool×LI×LI×(List (Int×Int))→OA)
def ju (fuel:Nat) (p:az) (n:ag) (q:aX) (o:dC) (f d:Int) (g a:Int) (h i j:Int) (k:Bool) (l m:LI) (e:(List (Int×Int))) (c:my→OA) (B:oF):OA:=match B with | b=>bif decide (a≥0) then bif decide (a < 0) then none else bif decide ((e.length+ [(i64.wrap (i64.wrap (f+g) - (1:Int)),Ev.iand IntKind.i64 (Ev.ishr IntKind.i64 d a) (1:Int))].length)*(16:Nat)≤(140737488355328:Nat)∧e.length+ [(i64.wrap (i64.wrap (f+g) - (1:Int)),Ev.iand IntKind.i64 (Ev.ishr IntKind.i64 d a) (1:Int))].length≤(140737488355328:Nat)) then c (f,d,i64.wrap (i64.wrap ((2:Int)*g)+Ev.iand IntKind.i64 (Ev.ishr IntKind.i64 d a) (1:Int)),i64.wrap (a - (1:Int)),h,i,j,k,l,m,e++ [(i64.wrap (i64.wrap (f+g) - (1:Int)),Ev.iand IntKind.i64 (Ev.ishr IntKind.i64 d a) (1:Int))]) else none else b (h,i,j,k,l,m,e)
def fL (fuel:Nat) (v:Int×Int×Int×Int×Int×Int×Int×Bool×(List Int)×(List Int)×(List (Int×Int))) (c:(Int×Int×Int×Int×Int×Int×Int×Bool×(List Int)×(List Int)×(List (Int×Int)))→Option Ans) (B:(Int×Int×Int×Bool×(List Int)×(List Int)×(List (Int×Int))→Option Ans)):Option Ans:=match v with | (b,d,e,f,g,h,i,j,k,l,a)=>ju fuel (ak fuel) (ab fuel) (an fuel) (bo fuel) b d e f g h i j k l a c B
def gr (fuel:Nat) (v:my) (b:oF):Option Ans:=iter (fL fuel) fuel v b
def mM (v:my):Ev.St:=match v with | (b,d,e,f,g,h,i,j,k,l,a)=>⟨[(0,.c (.ptr 0 0)),(1,.c (i6 b)),(3,.c (i6 d)),(10,.c (i6 e)),(11,.c (.own 3)),(12,.c (i6 f))],[(0,.cells 138 (i6 g::.own 1::ctb (.int .u64 h::.int .u64 i::.own 2::.bool j::[]))),(1,.vec 3 (.int .i64) k false),(2,.vec 5 (.int .u8) l true),(3,.vec 163 (.pair (.int .i64) (.int .i64)) a true)],4,3⟩
def qE (K:KT):oF:=(fun v=>match v with | (a,b,d,e,f,g,h)=>K .normal ⟨[(0,.c (.ptr 0 0)),(11,.c (.own 3))],[(0,.cells 138 (i6 a::.own 1::ctb (.int .u64 b::.int .u64 d::.own 2::.bool e::[]))),(1,.vec 3 (.int .i64) f false),(2,.vec 5 (.int .u8) g true),(3,.vec 163 (.pair (.int .i64) (.int .i64)) h true)],4,3⟩)
theorem Jj (fuel:Nat) (c:az) (a:ag) (d:aX) (b:dC) (R:Ev.St→OA) (K:KT) (f g:Int) (h i:Int) (j k l:Int) (m:Bool) (n o:LI) (e:(List (Int×Int))):evalCode tab (ox c a d b) J0 eJ fuel (bodyOf 0 Tryz.f134) (mM (f,g,h,i,j,k,l,m,n,o,e)) (lc eJ 11 0 R K)=ju fuel c a d b f g h i j k l m n o e (fun v=>R (mM v)) (qE K):=by
  kernel_rfl
def gU (fuel:Nat):Ev.Blk:=fun st K=>match canonO (eJ 11) st with | some s=>(match s with | ⟨[(o,.c (.ptr p q)),(r,.c (i6 t)),(u,.c (i6 v)),(w,.c (i6 x)),(y,.c (.own z)),(A,.c (i6 B))],[(C,.cells a b),(d,.vec e (.int .i64) D false),(f,.vec g (.int .u8) E true),(h,.vec i (.pair (.int .i64) (.int .i64)) j true)],k,l⟩=>(match splitRun 2 ctn b with | some ([i6 F,.own m],[.int .u64 G,.int .u64 H,.own n,.bool I])=>bif qb [o,p,q,r,u,w,y,z,A,C,a,d,e,f,g,h,i,k,l,m,n] [0,0,0,1,3,10,11,3,12,0,138,1,3,2,5,3,163,4,3,1,2] then iter (fL fuel) fuel (t,v,x,B,F,G,H,I,D,E,j) (qE K) else none | _=>none) | _=>none) | none=>none
theorem EQ (fuel:Nat) (st:Ev.St) (K:KT) (r:Ans) (h:gU fuel st K=some r):evalCode tab (mK fuel) J0 eJ fuel (.block 0 (.loop (bodyOf 0 Tryz.f134))) st K=some r:=by
  unfold gU at h
  split at h
  · rename_i s hs
    split at h
    · skip
      split at h
      rotate_left 1
      · cases h
      rename_i hsp
      have esp:=splitRun_eq hsp
      subst esp
      obtain ⟨hb,h⟩:=cond_some' h
      cases qb_eq hb
      exact blk_loop (S:=mM) (ks:=qE) (step:=fL fuel) (v:=(_,_,_,_,_,_,_,_,_,_,_)) (by kernel_rfl) (by kernel_rfl) (fun R K v=>by obtain ⟨b,c,d,e,f,g,i,j,k,l,a⟩:=v; exact Jj fuel (ak fuel) (ab fuel) (an fuel) (bo fuel) R K b c d e f g i j k l a) hs h
    · cases h
  · cases h
def qB (fuel:Nat) (i:Nat):Option Ev.Blk:=Ev.look i [(100000,gU fuel)]
def cB (fuel:Nat) (p a:Int) (h H:Int) (I J:Int) (K:Bool) (L M:(List Int)) (k0:(Int×Int×Int×Int×Bool×(List Int)×(List Int))→Option Ans):Option Ans:=(ab fuel ((-1:Int)) (0) H I J K L M (fun (z,b,c,d,e,f,g)=>bif z==7 then k0 (7,b,c,d,e,f,g) else bif decide (a < 0) then k0 (2,b,c,d,e,f,g) else bif decide (a > 10) then k0 (2,b,c,d,e,f,g) else bif decide (h < 0) then k0 (2,b,c,d,e,f,g) else bif decide (a < 0) then none else bif decide (h≥Ev.ishl IntKind.i64 1 a) then k0 (2,b,c,d,e,f,g) else bif decide (a < 0) then none else (ak fuel b c d e f g (fun (q,i,j,k,l,m,n,r)=>(an fuel q r p (i64.wrap (Ev.ishl IntKind.i64 1 a - 1)) (fun o=>bif o != 0 then k0 (o,i,j,k,l,m,n) else (gr fuel (p,h,1,i64.wrap (a - 1),i,j,k,l,m,n,[]) (fun (A,B,C,D,E,F,G)=>(bo fuel G A B C D E F (fun (s,t,u,v,w,x,y)=>k0 (s,t,u,v,w,x,y)))))))))) (fun (z,b,c,d,e,f,g)=>bif z==7 then k0 (7,b,c,d,e,f,g) else bif decide (a < 0) then k0 (2,b,c,d,e,f,g) else bif decide (a > 10) then k0 (2,b,c,d,e,f,g) else bif decide (h < 0) then k0 (2,b,c,d,e,f,g) else bif decide (a < 0) then none else bif decide (h≥Ev.ishl IntKind.i64 1 a) then k0 (2,b,c,d,e,f,g) else bif decide (a < 0) then none else (ak fuel b c d e f g (fun (q,i,j,k,l,m,n,r)=>(an fuel q r p (i64.wrap (Ev.ishl IntKind.i64 1 a - 1)) (fun o=>bif o != 0 then k0 (o,i,j,k,l,m,n) else (gr fuel (p,h,1,i64.wrap (a - 1),i,j,k,l,m,n,[]) (fun (A,B,C,D,E,F,G)=>(bo fuel G A B C D E F (fun (s,t,u,v,w,x,y)=>k0 (s,t,u,v,w,x,y)))))))))))
abbrev rb:Type:=Int→Int→Int→Int→Int→Int→Bool→LI→LI→((Int×Int×Int×Int×Bool×LI×LI)→Option Ans)→Option Ans
theorem HC (fuel:Nat) (u:az) (N:ag) (E:aX) (t:dC) (s a:Int) (i O:Int) (P Q:Int) (R:Bool) (S T:LI) (k:Ev.Cont):evalFn tab (ox u N E t) (qB fuel) eJ fuel Tryz.f134 [.c (.ptr 0 0),.c (i6 s),.c (i6 a),.c (i6 i)] [.cells 138 (i6 O::.own 1::ctb (.int .u64 P::.int .u64 Q::.own 2::.bool R::[])),.vec 3 (.int .i64) S false,.vec 5 (.int .u8) T false] (wkC [1000002] k)=(fun  (k0:(Int×Int×Int×Int×Bool×LI×LI)→OA)=>
  (N ((-1:Int)) ((0:Int)) O P Q R S T
  (fun (F,b,d,e,f,g,h)=>
  bif F==(7:Int) then
  k0 ((7:Int),b,d,e,f,g,h)
  else
  bif decide (a < (0:Int)) then
  k0 ((2:Int),b,d,e,f,g,h)
  else
  bif decide (a > (10:Int)) then
  k0 ((2:Int),b,d,e,f,g,h)
  else
  bif decide (i < (0:Int)) then
  k0 ((2:Int),b,d,e,f,g,h)
  else
  bif decide (a < (0:Int)) then
  none
  else
  bif decide (i≥Ev.ishl IntKind.i64 (1:Int) a) then
  k0 ((2:Int),b,d,e,f,g,h)
  else
  bif decide (a < (0:Int)) then
  none
  else
  (u b d e f g h
  (fun (v,j,l,m,n,o,p,w)=>
  (E v w s (i64.wrap (Ev.ishl IntKind.i64 (1:Int) a - (1:Int)))
  (fun q=>
  bif q != (0:Int) then
  k0 (q,j,l,m,n,o,p)
  else
  (gr fuel (s,i,(1:Int),i64.wrap (a - (1:Int)),j,l,m,n,o,p,[])
  (fun (G,H,I,J,K,L,M)=>
  (t M G H I J K L
  (fun (x,y,z,A,B,C,D)=>
  k0 (x,y,z,A,B,C,D))))))))))
  (fun (F,b,d,e,f,g,h)=>
  bif F==(7:Int) then
  k0 ((7:Int),b,d,e,f,g,h)
  else
  bif decide (a < (0:Int)) then
  k0 ((2:Int),b,d,e,f,g,h)
  else
  bif decide (a > (10:Int)) then
  k0 ((2:Int),b,d,e,f,g,h)
  else
  bif decide (i < (0:Int)) then
  k0 ((2:Int),b,d,e,f,g,h)
  else
  bif decide (a < (0:Int)) then
  none
  else
  bif decide (i≥Ev.ishl IntKind.i64 (1:Int) a) then
  k0 ((2:Int),b,d,e,f,g,h)
  else
  bif decide (a < (0:Int)) then
  none
  else
  (u b d e f g h
  (fun (v,j,l,m,n,o,p,w)=>
  (E v w s (i64.wrap (Ev.ishl IntKind.i64 (1:Int) a - (1:Int)))
  (fun q=>
  bif q != (0:Int) then
  k0 (q,j,l,m,n,o,p)
  else
  (gr fuel (s,i,(1:Int),i64.wrap (a - (1:Int)),j,l,m,n,o,p,[])
  (fun (G,H,I,J,K,L,M)=>
  (t M G H I J K L
  (fun (x,y,z,A,B,C,D)=>
  k0 (x,y,z,A,B,C,D)))))))))))) (fun r=>match r with | (U,V,W,X,Y,a0,a1)=>k (.c (i6 U),[.cells 138 (i6 V::.own 1::ctb (.int .u64 W::.int .u64 X::.own 2::.bool Y::[])),.vec 3 (.int .i64) a0 false,.vec 5 (.int .u8) a1 true])):=by
  kernel_rfl
theorem vq (fuel:Nat):GOK Tryz.prog (mK fuel):=
  gc (gd fuel) Tryz.func35 (by kernel_rfl) rfl <|
  gc (di fuel) Tryz.func132 (by kernel_rfl) rfl <|
  gc (kn fuel) Tryz.func138 (by kernel_rfl) rfl <|
  gc (zb fuel) Tryz.func139 (by kernel_rfl) rfl <|
  gok_nil
theorem Bi (fuel:Nat):BlkOK Tryz.prog Tryz.f134.ntmps (.block 0 (.loop (bodyOf 0 Tryz.f134))) (gU fuel):=bo0 (vq fuel) (by kernel_rfl) (by kernel_rfl) (EQ fuel)
theorem FM (fuel:Nat):FnOK Tryz.prog 134 (evalFn tab (mK fuel) (qB fuel) eJ fuel Tryz.f134):=
  fn_ok tab_ok (vq fuel) mixed Tryz.func134 (c:=(Tryz.f134.body).getD .skip) rfl (fun q hq=>by
    rw [(by kernel_rfl:obl (qB fuel) ((Tryz.f134.body).getD .skip)= [(.block 0 (.loop (bodyOf 0 Tryz.f134)),gU fuel)])] at hq
    simp only [List.mem_cons,List.not_mem_nil,or_false] at hq
    subst hq
    · exact Bi fuel)
def oX (F:rb):Ev.Spec:=fun args objs k=>match args,objs with | [.c (.ptr b d),.c (i6 e),.c (i6 f),.c (i6 g)],[.cells h a,.vec i (.int .i64) j false,.vec l (.int .u8) m false]=>(match splitRun 2 ctn a with | some ([i6 n,.own o],[.int .u64 p,.int .u64 q,.own s,.bool t])=>bif qb [b,d,h,i,l,o,s] [0,0,138,3,5,1,2] then F e f g n p q t j m (fun r=>match r with | (u,v,w,x,y,z,A)=>k (.c (i6 u),[.cells 138 (i6 v::.own 1::ctb (.int .u64 w::.int .u64 x::.own 2::.bool y::[])),.vec 3 (.int .i64) z false,.vec 5 (.int .u8) A true])) else none | _=>none) | _,_=>none
def uj (fuel:Nat):Ev.Spec:=oX (cB fuel)
theorem vn (fuel:Nat):FnOK Tryz.prog 134 (uj fuel):=by
  intro args objs kk r h
  unfold uj oX at h
  split at h
  · skip
    split at h
    rotate_left 1
    · cases h
    rename_i hsp
    have esp:=splitRun_eq hsp
    subst esp
    obtain ⟨hb,h⟩:=cond_some' h
    cases qb_eq hb
    exact (FM fuel).wk [1000002] _ _ kk r ((HC fuel (ak fuel) (ab fuel) (an fuel) (bo fuel) _ _ _ _ _ _ _ _ _ kk).trans h)
  · cases h
def E6 (i:Nat):Option (List Nat):=Ev.look i []
def Br (f:Nat):Option Ev.Spec:=Ev.look f []
def uX (fuel:Nat):Nat→Option Ev.Spec:=Br
def dh (fuel:Nat) (b a:Int) (c d:Int) (e f:Int) (g h:Bool) (i j:(List Int)) (k0:(Int×Int×Int×Int×Int×Int×Int×Bool×Bool×(List Int)×(List Int))→Option Ans):Option Ans:=k0 (u8.wrap (Ev.ishr IntKind.u64 a 24),b,Ev.iand IntKind.u64 (Ev.ishl IntKind.u64 a 8) 4294967295,Ev.ior IntKind.u64 (Ev.iand IntKind.u64 (Ev.ishl IntKind.u64 c 8) 4294967295) 255,d,e,f,g,h,i,j)
abbrev ge:Type:=Int→Int→Int→Int→Int→Int→Bool→Bool→LI→LI→((Int×Int×Int×Int×Int×Int×Int×Bool×Bool×LI×LI)→Option Ans)→Option Ans
theorem Bt (fuel:Nat) (a b:Int) (d e:Int) (f g:Int) (h i:Bool) (j l:LI) (k:Ev.Cont):evalFn tab (uX fuel) J0 E6 fuel Tryz.f168 [.c (.ptr 0 0)] [.cells 147 (i6 a::.own 1::ctb (.int .u64 b::.int .u64 d::.own 2::i6 e::.int .u64 f::i6 g::.bool h::.bool i::[])),.vec 3 (.int .i64) j false,.vec 5 (.int .u8) l false] k=dh fuel a b d e f g h i j l (fun r=>match r with | (n,o,p,q,s,t,u,v,w,x,m)=>k (.c (.int .u8 n),[.cells 147 (i6 o::.own 1::ctb (.int .u64 p::.int .u64 q::.own 2::i6 s::.int .u64 t::i6 u::.bool v::.bool w::[])),.vec 3 (.int .i64) x false,.vec 5 (.int .u8) m false])):=by
  kernel_rfl
theorem Cq (fuel:Nat):GOK Tryz.prog (uX fuel):=
  gok_nil
def qd (F:ge):Ev.Spec:=fun args objs k=>match args,objs with | [.c (.ptr d e)],[.cells f a,.vec g (.int .i64) h false,.vec i (.int .u8) j false]=>(match splitRun 2 ctn a with | some ([i6 l,.own m],[.int .u64 n,.int .u64 o,.own p,i6 q,.int .u64 s,i6 t,.bool u,.bool v])=>bif qb [d,e,f,g,i,m,p] [0,0,147,3,5,1,2] then F l n o q s t u v h j (fun r=>match r with | (w,x,y,z,A,B,C,D,E,G,b)=>k (.c (.int .u8 w),[.cells 147 (i6 x::.own 1::ctb (.int .u64 y::.int .u64 z::.own 2::i6 A::.int .u64 B::i6 C::.bool D::.bool E::[])),.vec 3 (.int .i64) G false,.vec 5 (.int .u8) b false])) else none | _=>none) | _,_=>none
theorem Fh (fuel:Nat):FnOK Tryz.prog 168 (qd (dh fuel)):=by
  intro args objs kk r h
  unfold qd at h
  split at h
  · skip
    split at h
    rotate_left 1
    · cases h
    rename_i hsp
    have esp:=splitRun_eq hsp
    subst esp
    obtain ⟨hb,h⟩:=cond_some' h
    cases qb_eq hb
    exact fo0 (Cq fuel) Tryz.func168 rfl (by kernel_rfl) _ _ kk r ((Bt fuel _ _ _ _ _ _ _ _ _ _ kk).trans h)
  · cases h
def Ce (i:Nat):Option (List Nat):=Ev.look i [(200001,[0])]
def zh (a:dK) (f:Nat):Option Ev.Spec:=Ev.look f [(194,jg a)]
def JI (fuel:Nat):Nat→Option Ev.Spec:=zh (bG fuel)
def uA (fuel:Nat) (g:dK) (b e:Int) (a c:Int) (i j k:Int) (l m:Bool) (d h:LI) (k0:(Int×Int×Int×Int×Int×Int×Int×Bool×Bool×LI×LI)→OA):OA:=bif decide (0≤b∧b < (↑d.length:Int)) then (g e (d.getD b.toNat 0) (fun f=>k0 (u64.wrap (u64.wrap (a+u64.wrap (u64.wrap ((u64.wrap (c - a)).tdiv 4096)*u64.wrap f))+u64.wrap ((u64.wrap ((u64.wrap (c - a)).tmod 4096*u64.wrap f)).tdiv 4096)),e,a,c,i,j,k,l,m,d,h))) else none
abbrev dT:Type:=Int→Int→Int→Int→Int→Int→Int→Bool→Bool→LI→LI→((Int×Int×Int×Int×Int×Int×Int×Bool×Bool×LI×LI)→Option Ans)→Option Ans
def dq (fuel:Nat):dT:=uA fuel (bG fuel)
theorem GV (fuel:Nat) (a:dK) (d e:Int) (f g:Int) (h i j:Int) (l m:Bool) (n b:LI) (k:Ev.Cont):evalFn tab (zh a) J0 Ce fuel Tryz.f166 [.c (.ptr 0 0),.c (i6 d)] [.cells 147 (i6 e::.own 1::ctb (.int .u64 f::.int .u64 g::.own 2::i6 h::.int .u64 i::i6 j::.bool l::.bool m::[])),.vec 3 (.int .i64) n false,.vec 5 (.int .u8) b false] k=uA fuel a d e f g h i j l m n b (fun r=>match r with | (p,q,s,t,u,v,w,x,y,z,o)=>k (.c (.int .u64 p),[.cells 147 (i6 q::.own 1::ctb (.int .u64 s::.int .u64 t::.own 2::i6 u::.int .u64 v::i6 w::.bool x::.bool y::[])),.vec 3 (.int .i64) z false,.vec 5 (.int .u8) o false])):=by
  kernel_rfl
theorem HA (fuel:Nat):GOK Tryz.prog (JI fuel):=
  gc (xU fuel) Tryz.func194 (by kernel_rfl) rfl <|
  gok_nil
def nG (F:dT):Ev.Spec:=fun args objs k=>match args,objs with | [.c (.ptr e f),.c (i6 g)],[.cells h a,.vec i (.int .i64) j false,.vec l (.int .u8) b false]=>(match splitRun 2 ctn a with | some ([i6 m,.own n],[.int .u64 o,.int .u64 p,.own q,i6 s,.int .u64 t,i6 u,.bool v,.bool w])=>bif qb [e,f,h,i,l,n,q] [0,0,147,3,5,1,2] then F g m o p s t u v w j b (fun r=>match r with | (x,y,z,A,B,C,D,E,G,H,d)=>k (.c (.int .u64 x),[.cells 147 (i6 y::.own 1::ctb (.int .u64 z::.int .u64 A::.own 2::i6 B::.int .u64 C::i6 D::.bool E::.bool G::[])),.vec 3 (.int .i64) H false,.vec 5 (.int .u8) d false])) else none | _=>none) | _,_=>none
theorem zI (fuel:Nat):FnOK Tryz.prog 166 (nG (dq fuel)):=by
  intro args objs kk r h
  unfold nG at h
  split at h
  · skip
    split at h
    rotate_left 1
    · cases h
    rename_i hsp
    have esp:=splitRun_eq hsp
    subst esp
    obtain ⟨hb,h⟩:=cond_some' h
    cases qb_eq hb
    exact fo0 (HA fuel) Tryz.func166 rfl (by kernel_rfl) _ _ kk r ((GV fuel (bG fuel) _ _ _ _ _ _ _ _ _ _ _ kk).trans h)
  · cases h
def BH (i:Nat):Option (List Nat):=Ev.look i [(200001,[0])]
def Gs (f:Nat):Option Ev.Spec:=Ev.look f []
def vU (fuel:Nat):Nat→Option Ev.Spec:=Gs
def cE (fuel:Nat) (c a:Int) (b d:Int) (e f:Int) (g h:Bool) (i j:(List Int)) (k0:(Bool×Int×Int×Int×Int×Int×Int×Bool×Bool×(List Int)×(List Int))→Option Ans):Option Ans:=k0 (Ev.ishr IntKind.u64 a 24==Ev.ishr IntKind.u64 b 24,c,a,b,d,e,f,g,h,i,j)
abbrev fF:Type:=Int→Int→Int→Int→Int→Int→Bool→Bool→LI→LI→((Bool×Int×Int×Int×Int×Int×Int×Bool×Bool×LI×LI)→Option Ans)→Option Ans
theorem G0 (fuel:Nat) (a b:Int) (d e:Int) (f g:Int) (h i:Bool) (j l:LI) (k:Ev.Cont):evalFn tab (vU fuel) J0 BH fuel Tryz.f167 [.c (.ptr 0 0)] [.cells 147 (i6 a::.own 1::ctb (.int .u64 b::.int .u64 d::.own 2::i6 e::.int .u64 f::i6 g::.bool h::.bool i::[])),.vec 3 (.int .i64) j false,.vec 5 (.int .u8) l false] k=cE fuel a b d e f g h i j l (fun r=>match r with | (n,o,p,q,s,t,u,v,w,x,m)=>k (.c (.bool n),[.cells 147 (i6 o::.own 1::ctb (.int .u64 p::.int .u64 q::.own 2::i6 s::.int .u64 t::i6 u::.bool v::.bool w::[])),.vec 3 (.int .i64) x false,.vec 5 (.int .u8) m false])):=by
  kernel_rfl
theorem Ho (fuel:Nat):GOK Tryz.prog (vU fuel):=
  gok_nil
def mB (F:fF):Ev.Spec:=fun args objs k=>match args,objs with | [.c (.ptr d e)],[.cells f a,.vec g (.int .i64) h false,.vec i (.int .u8) j false]=>(match splitRun 2 ctn a with | some ([i6 l,.own m],[.int .u64 n,.int .u64 o,.own p,i6 q,.int .u64 s,i6 t,.bool u,.bool v])=>bif qb [d,e,f,g,i,m,p] [0,0,147,3,5,1,2] then F l n o q s t u v h j (fun r=>match r with | (w,x,y,z,A,B,C,D,E,G,b)=>k (.c (.bool w),[.cells 147 (i6 x::.own 1::ctb (.int .u64 y::.int .u64 z::.own 2::i6 A::.int .u64 B::i6 C::.bool D::.bool E::[])),.vec 3 (.int .i64) G false,.vec 5 (.int .u8) b false])) else none | _=>none) | _,_=>none
theorem Kc (fuel:Nat):FnOK Tryz.prog 167 (mB (cE fuel)):=by
  intro args objs kk r h
  unfold mB at h
  split at h
  · skip
    split at h
    rotate_left 1
    · cases h
    rename_i hsp
    have esp:=splitRun_eq hsp
    subst esp
    obtain ⟨hb,h⟩:=cond_some' h
    cases qb_eq hb
    exact fo0 (Ho fuel) Tryz.func167 rfl (by kernel_rfl) _ _ kk r ((G0 fuel _ _ _ _ _ _ _ _ _ _ kk).trans h)
  · cases h
def Jz (i:Nat):Option (List Nat):=Ev.look i [(200003,[0])]
def yP (a:eh) (f:Nat):Option Ev.Spec:=Ev.look f [(193,jG a)]
def J7 (fuel:Nat):Nat→Option Ev.Spec:=yP (cc fuel)
def ml (fuel:Nat) (f:eh) (a d:Int) (i c:Int) (n o:Int) (j k l:Int) (m g:Bool) (b h:LI) (k0:(Int×Int×Int×Int×Int×Int×Bool×Bool×LI×LI)→OA):OA:=bif d==1 then bif decide (0≤a∧a < (↑b.length:Int)) then (f c (b.getD a.toNat 0) d (fun e=>bif decide (0≤a∧a < (↑b.length:Int)) then k0 (c,n,i,j,k,l,m,g,b.set a.toNat e,h) else none)) else none else bif decide (0≤a∧a < (↑b.length:Int)) then (f c (b.getD a.toNat 0) d (fun e=>bif decide (0≤a∧a < (↑b.length:Int)) then k0 (c,u64.wrap (i+1),o,j,k,l,m,g,b.set a.toNat e,h) else none)) else none
abbrev dJ:Type:=Int→Int→Int→Int→Int→Int→Int→Int→Int→Bool→Bool→LI→LI→((Int×Int×Int×Int×Int×Int×Bool×Bool×LI×LI)→Option Ans)→Option Ans
def cQ (fuel:Nat):dJ:=ml fuel (cc fuel)
theorem Hz (fuel:Nat) (a:eh) (f g:Int) (h i:Int) (j l:Int) (m n o:Int) (p b:Bool) (d e:LI) (k:Ev.Cont):evalFn tab (yP a) J0 Jz fuel Tryz.f165 [.c (.ptr 0 0),.c (i6 f),.c (i6 g),.c (.int .u64 h)] [.cells 147 (i6 i::.own 1::ctb (.int .u64 j::.int .u64 l::.own 2::i6 m::.int .u64 n::i6 o::.bool p::.bool b::[])),.vec 3 (.int .i64) d false,.vec 5 (.int .u8) e false] k=ml fuel a f g h i j l m n o p b d e (fun r=>match r with | (q,s,t,u,v,w,x,y,z,A)=>k (.tup [],[.cells 147 (i6 q::.own 1::ctb (.int .u64 s::.int .u64 t::.own 2::i6 u::.int .u64 v::i6 w::.bool x::.bool y::[])),.vec 3 (.int .i64) z false,.vec 5 (.int .u8) A false])):=by
  kernel_rfl
theorem EP (fuel:Nat):GOK Tryz.prog (J7 fuel):=
  gc (vL fuel) Tryz.func193 (by kernel_rfl) rfl <|
  gok_nil
def mY (F:dJ):Ev.Spec:=fun args objs k=>match args,objs with | [.c (.ptr f g),.c (i6 h),.c (i6 i),.c (.int .u64 j)],[.cells l a,.vec m (.int .i64) b false,.vec n (.int .u8) d false]=>(match splitRun 2 ctn a with | some ([i6 o,.own p],[.int .u64 q,.int .u64 s,.own t,i6 u,.int .u64 v,i6 w,.bool x,.bool e])=>bif qb [f,g,l,m,n,p,t] [0,0,147,3,5,1,2] then F h i j o q s u v w x e b d (fun r=>match r with | (y,z,A,B,C,D,E,G,H,I)=>k (.tup [],[.cells 147 (i6 y::.own 1::ctb (.int .u64 z::.int .u64 A::.own 2::i6 B::.int .u64 C::i6 D::.bool E::.bool G::[])),.vec 3 (.int .i64) H false,.vec 5 (.int .u8) I false])) else none | _=>none) | _,_=>none
theorem JG (fuel:Nat):FnOK Tryz.prog 165 (mY (cQ fuel)):=by
  intro args objs kk r h
  unfold mY at h
  split at h
  · skip
    split at h
    rotate_left 1
    · cases h
    rename_i hsp
    have esp:=splitRun_eq hsp
    subst esp
    obtain ⟨hb,h⟩:=cond_some' h
    cases qb_eq hb
    exact fo0 (EP fuel) Tryz.func165 rfl (by kernel_rfl) _ _ kk r ((Hz fuel (cc fuel) _ _ _ _ _ _ _ _ _ _ _ _ _ kk).trans h)
  · cases h
def ik (i:Nat):Option (List Nat):=Ev.look i [(12,[0,1,6,8,9]),(100001,[0,1,6,8,9]),(200010,[0]),(400001,[4,5])]
def pM (e:bM) (g:cC) (a:dJ) (b:dT) (c:fF) (d:ge) (f:Nat):Option Ev.Spec:=Ev.look f [(84,kR e),(88,lO g),(165,mY a),(166,nG b),(167,mB c),(168,qd d)]
def u9 (fuel:Nat):Nat→Option Ev.Spec:=pM (aT fuel) (aJ fuel) (cQ fuel) (dq fuel) (cE fuel) (dh fuel)
abbrev qy:Type:=Int×Int×Int×Int×Int×Int×Int×Int×Int×Bool×Bool×LI×LI×Int×Int×Int×Int×Int×Int×Bool×Bool
abbrev mO:Type:=(Int×Int×Int×Int×Int×Int×Int×Int×Int×Bool×Bool×LI×LI×Int×Int×Int×Int×Int×Int×Bool×Bool→OA)
def lA (fuel:Nat) (z:bM) (a9:cC) (a7:dJ) (a8:dT) (x:fF) (y:ge) (u v:Int) (w a0:Int) (a1 a2:Int) (a3 a4 a5:Int) (a6 W:Bool) (X Y:LI) (m n:Int) (o p:Int) (q r:Int) (s t:Bool) (c:qy→OA) (B:mO):OA:=match B with | b=>(x a0 a1 a2 a3 a4 a5 a6 W X Y (fun (M,d,e,f,g,h,i,j,k,l,a)=>bif M then (y d e f g h i j k l a (fun (b0,N,O,P,Q,R,S,T,U,V,A)=>(z N O P Q R S T U V A (fun (C,D,E,F,G,H,I,J,K,L)=>c (u,v,w,C,D,E,F,G,H,I,J,K,L,m,n,o,p,q,r,s,t))))) else b (u,v,w,d,e,f,g,h,i,j,k,l,a,m,n,o,p,q,r,s,t)))
def ga (fuel:Nat) (v:Int×Int×Int×Int×Int×Int×Int×Int×Int×Bool×Bool×(List Int)×(List Int)×Int×Int×Int×Int×Int×Int×Bool×Bool) (c:(Int×Int×Int×Int×Int×Int×Int×Int×Int×Bool×Bool×(List Int)×(List Int)×Int×Int×Int×Int×Int×Int×Bool×Bool)→Option Ans) (B:(Int×Int×Int×Int×Int×Int×Int×Int×Int×Bool×Bool×(List Int)×(List Int)×Int×Int×Int×Int×Int×Int×Bool×Bool→Option Ans)):Option Ans:=match v with | (m,n,o,p,q,r,s,t,u,w,a,b,d,e,f,g,h,i,j,k,l)=>lA fuel (aT fuel) (aJ fuel) (cQ fuel) (dq fuel) (cE fuel) (dh fuel) m n o p q r s t u w a b d e f g h i j k l c B
def cD (fuel:Nat) (v:qy) (b:mO):Option Ans:=iter (ga fuel) fuel v b
def nu (v:qy):Ev.St:=match v with | (m,n,o,p,q,r,s,t,u,w,a,b,d,e,f,g,h,i,j,k,l)=>⟨[(0,.c (.ptr 0 0)),(1,.c (i6 m)),(6,.c (i6 n)),(8,.c (.ptr 3 0)),(9,.c (i6 o))],[(0,.cells 147 (i6 p::.own 1::ctb (.int .u64 q::.int .u64 r::.own 2::i6 s::.int .u64 t::i6 u::.bool w::.bool a::[]))),(1,.vec 3 (.int .i64) b false),(2,.vec 5 (.int .u8) d false),(3,.cells 147 (i6 e::.own 1::ctb (.int .u64 f::.int .u64 g::.own 2::i6 h::.int .u64 i::i6 j::.bool k::.bool l::[])))],4,3⟩
def qS (K:KT):mO:=(fun v=>match v with | (m,n,o,p,q,r,s,t,u,w,a,b,d,e,f,g,h,i,j,k,l)=>K .normal ⟨[(0,.c (.ptr 0 0)),(1,.c (i6 m)),(6,.c (i6 n)),(8,.c (.ptr 3 0)),(9,.c (i6 o))],[(0,.cells 147 (i6 p::.own 1::ctb (.int .u64 q::.int .u64 r::.own 2::i6 s::.int .u64 t::i6 u::.bool w::.bool a::[]))),(1,.vec 3 (.int .i64) b false),(2,.vec 5 (.int .u8) d false),(3,.cells 147 (i6 e::.own 1::ctb (.int .u64 f::.int .u64 g::.own 2::i6 h::.int .u64 i::i6 j::.bool k::.bool l::[])))],4,3⟩)
theorem Gc (fuel:Nat) (e:bM) (f:cC) (a:dJ) (b:dT) (c:fF) (d:ge) (R:Ev.St→OA) (K:KT) (r s:Int) (t u:Int) (w x:Int) (y z A:Int) (B g:Bool) (h i:LI) (j k:Int) (l m:Int) (n o:Int) (p q:Bool):evalCode tab (pM e f a b c d) J0 ik fuel (bodyOf 1 Tryz.f143) (nu (r,s,t,u,w,x,y,z,A,B,g,h,i,j,k,l,m,n,o,p,q)) (lc ik 12 1 R K)=lA fuel e f a b c d r s t u w x y z A B g h i j k l m n o p q (fun v=>R (nu v)) (qS K):=by
  kernel_rfl
def jj (fuel:Nat):Ev.Blk:=fun st K=>match canonO (ik 12) st with | some s=>(match s with | ⟨[(C,.c (.ptr D E)),(F,.c (i6 G)),(H,.c (i6 I)),(J,.c (.ptr L M)),(N,.c (i6 O))],[(P,.cells a b),(d,.vec e (.int .i64) f false),(g,.vec h (.int .u8) i false),(j,.cells k l)],m,n⟩=>(match splitRun 2 ctn b with | some ([i6 Q,.own o],[.int .u64 R,.int .u64 S,.own p,i6 T,.int .u64 U,i6 V,.bool W,.bool q])=>(match splitRun 2 ctn l with | some ([i6 r,.own t],[.int .u64 u,.int .u64 v,.own w,i6 x,.int .u64 y,i6 z,.bool A,.bool B])=>bif qb [C,D,E,F,H,J,L,M,N,P,a,d,e,g,h,j,k,m,n,o,p,t,w] [0,0,0,1,6,8,3,0,9,0,147,1,3,2,5,3,147,4,3,1,2,1,2] then iter (ga fuel) fuel (G,I,O,Q,R,S,T,U,V,W,q,f,i,r,u,v,x,y,z,A,B) (qS K) else none | _=>none) | _=>none) | _=>none) | none=>none
theorem IT (fuel:Nat) (st:Ev.St) (K:KT) (r:Ans) (h:jj fuel st K=some r):evalCode tab (u9 fuel) J0 ik fuel (.block 1 (.loop (bodyOf 1 Tryz.f143))) st K=some r:=by
  unfold jj at h
  split at h
  · rename_i s hs
    split at h
    · skip
      split at h
      rotate_left 1
      · cases h
      rename_i hsp
      have esp:=splitRun_eq hsp
      subst esp
      split at h
      rotate_left 1
      · cases h
      rename_i hsp
      have esp:=splitRun_eq hsp
      subst esp
      obtain ⟨hb,h⟩:=cond_some' h
      cases qb_eq hb
      exact blk_loop (S:=nu) (ks:=qS) (step:=ga fuel) (v:=(_,_,_,_,_,_,_,_,_,_,_,_,_,_,_,_,_,_,_,_,_)) (by kernel_rfl) (by kernel_rfl) (fun R K v=>by obtain ⟨m,n,o,p,q,t,u,w,x,y,a,b,c,d,e,f,g,i,j,k,l⟩:=v; exact Gc fuel (aT fuel) (aJ fuel) (cQ fuel) (dq fuel) (cE fuel) (dh fuel) R K m n o p q t u w x y a b c d e f g i j k l) hs h
    · cases h
  · cases h
def D2 (fuel:Nat) (i:Nat):Option Ev.Blk:=Ev.look i [(100001,jj fuel)]
def jz (fuel:Nat) (c8:bM) (b4:cC) (P:dJ) (b3:dT) (c6:fF) (c7:ge) (a b7:Int) (b8 b9:Int) (c0 c1 c2:Int) (c3 c4:Bool) (c5 b6:LI) (k0:(Int×Int×Int×Int×Int×Int×Int×Int×Bool×Bool×LI×LI)→OA):OA:=(b4 b7 b8 b9 c0 c1 c2 c3 c4 c5 b6 (fun (b5,V,W,X,Y,a0,a1,R,a2,S,T)=>bif b5 then k0 (0,7,V,W,X,Y,a0,a1,R,a2,S,T) else bif decide (a < 0) then k0 (0,2,V,W,X,Y,a0,a1,R,a2,S,T) else bif decide (a≥(↑S.length:Int)) then k0 (0,2,V,W,X,Y,a0,a1,R,a2,S,T) else bif R then k0 (0,6,V,W,X,Y,a0,a1,R,a2,S,T) else (b3 a V W X Y a0 a1 R a2 S T (fun (E,h,i,j,k,g,l,m,n,f,Q)=>bif decide (g≤E) then bif decide (0≤a∧a < (↑f.length:Int)) then both ((P a (1) E h i j k g l m n f Q (fun (a3,a4,a5,a6,a7,a8,a9,b0,b1,b2)=>(cD fuel (a,1,f.getD a.toNat 0,a3,a4,a5,a6,a7,a8,a9,b0,b1,b2,h,i,j,k,g,l,m,n) (fun (c,w,x,y,z,A,B,C,e,D,o,b,d,p,q,r,s,t,u,U,v)=>bif decide (e > 4) then bif decide (0≤c∧c < (↑b.length:Int)) then k0 (0,6,p,q,r,s,t,u,true,v,b.set c.toNat x,d) else none else k0 (w,0,y,z,A,B,C,e,D,o,b,d)))))) (both ((P a (1) E h i j k g l m n f Q (fun (F,G,H,I,J,K,L,M,N,O)=>(cD fuel (a,1,f.getD a.toNat 0,F,G,H,I,J,K,L,M,N,O,h,i,j,k,g,l,m,n) (fun (c,w,x,y,z,A,B,C,e,D,o,b,d,p,q,r,s,t,u,U,v)=>bif decide (e > 4) then bif decide (0≤c∧c < (↑b.length:Int)) then k0 (0,6,p,q,r,s,t,u,true,v,b.set c.toNat x,d) else none else k0 (w,0,y,z,A,B,C,e,D,o,b,d)))))) ((P a (1) E h i j k g l m n f Q (fun (F,G,H,I,J,K,L,M,N,O)=>(cD fuel (a,1,f.getD a.toNat 0,F,G,H,I,J,K,L,M,N,O,h,i,j,k,g,l,m,n) (fun (c,w,x,y,z,A,B,C,e,D,o,b,d,p,q,r,s,t,u,U,v)=>bif decide (e > 4) then bif decide (0≤c∧c < (↑b.length:Int)) then k0 (0,6,p,q,r,s,t,u,true,v,b.set c.toNat x,d) else none else k0 (w,0,y,z,A,B,C,e,D,o,b,d))))))) else none else bif decide (0≤a∧a < (↑f.length:Int)) then both ((P a (0) E h i j k g l m n f Q (fun (a3,a4,a5,a6,a7,a8,a9,b0,b1,b2)=>(cD fuel (a,0,f.getD a.toNat 0,a3,a4,a5,a6,a7,a8,a9,b0,b1,b2,h,i,j,k,g,l,m,n) (fun (c,w,x,y,z,A,B,C,e,D,o,b,d,p,q,r,s,t,u,U,v)=>bif decide (e > 4) then bif decide (0≤c∧c < (↑b.length:Int)) then k0 (0,6,p,q,r,s,t,u,true,v,b.set c.toNat x,d) else none else k0 (w,0,y,z,A,B,C,e,D,o,b,d)))))) (both ((P a (0) E h i j k g l m n f Q (fun (F,G,H,I,J,K,L,M,N,O)=>(cD fuel (a,0,f.getD a.toNat 0,F,G,H,I,J,K,L,M,N,O,h,i,j,k,g,l,m,n) (fun (c,w,x,y,z,A,B,C,e,D,o,b,d,p,q,r,s,t,u,U,v)=>bif decide (e > 4) then bif decide (0≤c∧c < (↑b.length:Int)) then k0 (0,6,p,q,r,s,t,u,true,v,b.set c.toNat x,d) else none else k0 (w,0,y,z,A,B,C,e,D,o,b,d)))))) ((P a (0) E h i j k g l m n f Q (fun (F,G,H,I,J,K,L,M,N,O)=>(cD fuel (a,0,f.getD a.toNat 0,F,G,H,I,J,K,L,M,N,O,h,i,j,k,g,l,m,n) (fun (c,w,x,y,z,A,B,C,e,D,o,b,d,p,q,r,s,t,u,U,v)=>bif decide (e > 4) then bif decide (0≤c∧c < (↑b.length:Int)) then k0 (0,6,p,q,r,s,t,u,true,v,b.set c.toNat x,d) else none else k0 (w,0,y,z,A,B,C,e,D,o,b,d))))))) else none))))
abbrev ac:Type:=Int→Int→Int→Int→Int→Int→Int→Bool→Bool→LI→LI→((Int×Int×Int×Int×Int×Int×Int×Int×Bool×Bool×LI×LI)→Option Ans)→Option Ans
def aa (fuel:Nat):ac:=jz fuel (aT fuel) (aJ fuel) (cQ fuel) (dq fuel) (cE fuel) (dh fuel)
theorem IE (fuel:Nat) (f:bM) (g:cC) (a:dJ) (b:dT) (d:fF) (e:ge) (i j:Int) (l m:Int) (n o p:Int) (q s:Bool) (t h:LI) (k:Ev.Cont):evalFn tab (pM f g a b d e) (D2 fuel) ik fuel Tryz.f143 [.c (.ptr 0 0),.c (i6 i)] [.cells 147 (i6 j::.own 1::ctb (.int .u64 l::.int .u64 m::.own 2::i6 n::.int .u64 o::i6 p::.bool q::.bool s::[])),.vec 3 (.int .i64) t false,.vec 5 (.int .u8) h false] k=jz fuel f g a b d e i j l m n o p q s t h (fun r=>match r with | (w,x,y,z,A,B,C,D,E,F,u,v)=>k (.tup [(false,[i6 w]),(false,[i6 x])],[.cells 147 (i6 y::.own 1::ctb (.int .u64 z::.int .u64 A::.own 2::i6 B::.int .u64 C::i6 D::.bool E::.bool F::[])),.vec 3 (.int .i64) u false,.vec 5 (.int .u8) v false])):=by
  kernel_rfl
theorem wF (fuel:Nat):GOK Tryz.prog (u9 fuel):=
  gc (nU fuel) Tryz.func84 (by kernel_rfl) rfl <|
  gc (vj fuel) Tryz.func88 (by kernel_rfl) rfl <|
  gc (JG fuel) Tryz.func165 (by kernel_rfl) rfl <|
  gc (zI fuel) Tryz.func166 (by kernel_rfl) rfl <|
  gc (Kc fuel) Tryz.func167 (by kernel_rfl) rfl <|
  gc (Fh fuel) Tryz.func168 (by kernel_rfl) rfl <|
  gok_nil
theorem Ez (fuel:Nat):BlkOK Tryz.prog Tryz.f143.ntmps (.block 1 (.loop (bodyOf 1 Tryz.f143))) (jj fuel):=bo0 (wF fuel) (by kernel_rfl) (by kernel_rfl) (IT fuel)
def bW (F:ac):Ev.Spec:=fun args objs k=>match args,objs with | [.c (.ptr f g),.c (i6 h)],[.cells i a,.vec j (.int .i64) l false,.vec m (.int .u8) b false]=>(match splitRun 2 ctn a with | some ([i6 n,.own o],[.int .u64 p,.int .u64 q,.own s,i6 t,.int .u64 u,i6 v,.bool w,.bool x])=>bif qb [f,g,i,j,m,o,s] [0,0,147,3,5,1,2] then F h n p q t u v w x l b (fun r=>match r with | (y,z,A,B,C,D,E,G,H,I,d,e)=>k (.tup [(false,[i6 y]),(false,[i6 z])],[.cells 147 (i6 A::.own 1::ctb (.int .u64 B::.int .u64 C::.own 2::i6 D::.int .u64 E::i6 G::.bool H::.bool I::[])),.vec 3 (.int .i64) d false,.vec 5 (.int .u8) e false])) else none | _=>none) | _,_=>none
def qm (fuel:Nat):Ev.Spec:=bW (aa fuel)
theorem cA (fuel:Nat):FnOK Tryz.prog 143 (qm fuel):=by
  intro args objs kk r h
  unfold qm bW at h
  split at h
  · skip
    split at h
    rotate_left 1
    · cases h
    rename_i hsp
    have esp:=splitRun_eq hsp
    subst esp
    obtain ⟨hb,h⟩:=cond_some' h
    cases qb_eq hb
    exact fo1 (wF fuel) Tryz.func143 rfl (Ez fuel) (by kernel_rfl) _ _ kk r ((IE fuel (aT fuel) (aJ fuel) (cQ fuel) (dq fuel) (cE fuel) (dh fuel) _ _ _ _ _ _ _ _ _ _ _ kk).trans h)
  · cases h
def cv (i:Nat):Option (List Nat):=Ev.look i [(5,[0,1,4,8]),(14,[0,1,4,8,9,10,49,50]),(100000,[0,1,4,8]),(100002,[0,1,4,9]),(400000,[4,5]),(400002,[4,5])]
def lx (a:ac) (b:ba) (f:Nat):Option Ev.Spec:=Ev.look f [(143,bW a),(180,iZ b)]
def lE (fuel:Nat):Nat→Option Ev.Spec:=lx (aa fuel) (aD fuel)
abbrev qp:Type:=Int×Int×Int×Int×Int×Int×Int×Int×Bool×Bool×LI×LI×Bool×Int
abbrev ya:Type:=(Int×Int×Int×Int×Int×Int×Int×Bool×Bool×LI×LI×Bool×Int→OA)×(Int×Int×Int×Int×Int×Int×Int×Int×Bool×Bool×LI×LI×Bool×Int→OA)
def kL (fuel:Nat) (C:ac) (E:ba) (d a:Int) (t u:Int) (v w:Int) (x y:Int) (z A:Bool) (r s:LI) (o:Bool) (p:Int) (c:qp→OA) (B:ya):OA:=match B with | (ret,b)=>bif decide (a < 20) then (C (i64.wrap (i64.wrap (d+1)+a)) t u v w x y z A r s (fun (D,q,g,h,i,j,k,l,m,n,e,f)=>bif q != 0 then ret (q,g,h,i,j,k,l,m,n,e,f,false,0) else bif D==0 then b (d,a,g,h,i,j,k,l,m,n,e,f,o,p) else c (d,i64.wrap (a+1),g,h,i,j,k,l,m,n,e,f,o,p))) else b (d,a,t,u,v,w,x,y,z,A,r,s,o,p)
def ff (fuel:Nat) (v:Int×Int×Int×Int×Int×Int×Int×Int×Bool×Bool×(List Int)×(List Int)×Bool×Int) (c:(Int×Int×Int×Int×Int×Int×Int×Int×Bool×Bool×(List Int)×(List Int)×Bool×Int)→Option Ans) (B:(Int×Int×Int×Int×Int×Int×Int×Bool×Bool×(List Int)×(List Int)×Bool×Int→Option Ans)×(Int×Int×Int×Int×Int×Int×Int×Int×Bool×Bool×(List Int)×(List Int)×Bool×Int→Option Ans)):Option Ans:=match v with | (f,g,h,i,j,k,l,m,n,o,a,b,d,e)=>kL fuel (aa fuel) (aD fuel) f g h i j k l m n o a b d e c B
def uI (fuel:Nat) (v:qp) (ret:(Int×Int×Int×Int×Int×Int×Int×Bool×Bool×(List Int)×(List Int)×Bool×Int→Option Ans)) (b:(Int×Int×Int×Int×Int×Int×Int×Int×Bool×Bool×(List Int)×(List Int)×Bool×Int→Option Ans)):Option Ans:=iter (ff fuel) fuel v (ret,b)
def um (v:qp):Ev.St:=match v with | (f,g,h,i,j,k,l,m,n,o,a,b,d,e)=>⟨[(0,.c (.ptr 0 0)),(1,.c (i6 f)),(4,.c (.ptr 3 0)),(8,.c (i6 g))],[(0,.cells 147 (i6 h::.own 1::ctb (.int .u64 i::.int .u64 j::.own 2::i6 k::.int .u64 l::i6 m::.bool n::.bool o::[]))),(1,.vec 3 (.int .i64) a false),(2,.vec 5 (.int .u8) b false),(3,.cells 105 [.bool d,i6 e])],4,3⟩
def tW (K:KT):ya:=((fun v=>match v with | (e,f,g,h,i,j,k,l,m,n,a,b,d)=>K .ret ⟨[(4,.c (.ptr 3 0)),(5,.c (i6 e))],[(0,.cells 147 (i6 f::.own 1::ctb (.int .u64 g::.int .u64 h::.own 2::i6 i::.int .u64 j::i6 k::.bool l::.bool m::[]))),(1,.vec 3 (.int .i64) n false),(2,.vec 5 (.int .u8) a false),(3,.cells 105 [.bool b,i6 d])],4,3⟩),(fun v=>match v with | (e,f,g,h,i,j,k,l,m,n,a,b,d,o)=>K .normal ⟨[(0,.c (.ptr 0 0)),(1,.c (i6 e)),(4,.c (.ptr 3 0)),(8,.c (i6 f))],[(0,.cells 147 (i6 g::.own 1::ctb (.int .u64 h::.int .u64 i::.own 2::i6 j::.int .u64 k::i6 l::.bool m::.bool n::[]))),(1,.vec 3 (.int .i64) a false),(2,.vec 5 (.int .u8) b false),(3,.cells 105 [.bool d,i6 o])],4,3⟩))
theorem GS (fuel:Nat) (a:ac) (b:ba) (R:Ev.St→OA) (K:KT) (g h:Int) (i j:Int) (k l:Int) (m n:Int) (o p:Bool) (c d:LI) (e:Bool) (f:Int):evalCode tab (lx a b) J0 cv fuel (bodyOf 0 Tryz.f181) (um (g,h,i,j,k,l,m,n,o,p,c,d,e,f)) (lc cv 5 0 R K)=kL fuel a b g h i j k l m n o p c d e f (fun v=>R (um v)) (tW K):=by
  kernel_rfl
def fZ (fuel:Nat):Ev.Blk:=fun st K=>match canonO (cv 5) st with | some s=>(match s with | ⟨[(q,.c (.ptr r t)),(u,.c (i6 v)),(w,.c (.ptr x y)),(z,.c (i6 A))],[(B,.cells C a),(b,.vec d (.int .i64) e false),(f,.vec g (.int .u8) h false),(i,.cells j [.bool k,i6 l])],m,n⟩=>(match splitRun 2 ctn a with | some ([i6 D,.own o],[.int .u64 E,.int .u64 F,.own p,i6 G,.int .u64 H,i6 I,.bool J,.bool L])=>bif qb [q,r,t,u,w,x,y,z,B,C,b,d,f,g,i,j,m,n,o,p] [0,0,0,1,4,3,0,8,0,147,1,3,2,5,3,105,4,3,1,2] then iter (ff fuel) fuel (v,A,D,E,F,G,H,I,J,L,e,h,k,l) (tW K) else none | _=>none) | _=>none) | none=>none
theorem GZ (fuel:Nat) (st:Ev.St) (K:KT) (r:Ans) (h:fZ fuel st K=some r):evalCode tab (lE fuel) J0 cv fuel (.block 0 (.loop (bodyOf 0 Tryz.f181))) st K=some r:=by
  unfold fZ at h
  split at h
  · rename_i s hs
    split at h
    · skip
      split at h
      rotate_left 1
      · cases h
      rename_i hsp
      have esp:=splitRun_eq hsp
      subst esp
      obtain ⟨hb,h⟩:=cond_some' h
      cases qb_eq hb
      exact blk_loop (S:=um) (ks:=tW) (step:=ff fuel) (v:=(_,_,_,_,_,_,_,_,_,_,_,_,_,_)) (by kernel_rfl) (by kernel_rfl) (fun R K v=>by obtain ⟨e,f,g,i,j,k,l,m,n,o,a,b,c,d⟩:=v; exact GS fuel (aa fuel) (aD fuel) R K e f g i j k l m n o a b c d) hs h
    · cases h
  · cases h
abbrev ng:Type:=Int×Int×Int×Int×Int×Int×Int×Int×Int×Int×Int×Bool×Bool×LI×LI×Bool×Int×Int
abbrev vF:Type:=(Int×Int×Int×Int×Int×Int×Int×Bool×Bool×LI×LI×Bool×Int→OA)×(Int×Int×Int×Int×Int×Int×Int×Int×Bool×Bool×LI×LI×Bool×Int→OA)
def kK (fuel:Nat) (v:ac) (T:ba) (a n:Int) (o p:Int) (e q:Int) (r s:Int) (t u g:Int) (h i:Bool) (j k:LI) (l:Bool) (m S:Int) (c:ng→OA) (B:vF):OA:=match B with | (ret,b)=>bif decide (e < p) then bif decide (e > 0) then (T S (fun (f,d)=>(v (i64.wrap (a+f)) q r s t u g h i j k (fun (U,A,C,D,E,F,G,H,I,J,w,x)=>bif A != 0 then ret (A,C,D,E,F,G,H,I,J,w,x,false,0) else c (a,n,i64.wrap (i64.wrap (2*o)+U),p,i64.wrap (e+1),C,D,E,F,G,H,I,J,w,x,l,m,d))))) else (v (i64.wrap (a+i64.wrap (23+n))) q r s t u g h i j k (fun (f,d,K,L,M,N,O,P,Q,R,y,z)=>bif d != 0 then ret (d,K,L,M,N,O,P,Q,R,y,z,false,0) else c (a,n,i64.wrap (i64.wrap (2*o)+f),p,i64.wrap (e+1),K,L,M,N,O,P,Q,R,y,z,l,m,S))) else b (a,o,q,r,s,t,u,g,h,i,j,k,l,m)
def dX (fuel:Nat) (v:Int×Int×Int×Int×Int×Int×Int×Int×Int×Int×Int×Bool×Bool×(List Int)×(List Int)×Bool×Int×Int) (c:(Int×Int×Int×Int×Int×Int×Int×Int×Int×Int×Int×Bool×Bool×(List Int)×(List Int)×Bool×Int×Int)→Option Ans) (B:(Int×Int×Int×Int×Int×Int×Int×Bool×Bool×(List Int)×(List Int)×Bool×Int→Option Ans)×(Int×Int×Int×Int×Int×Int×Int×Int×Bool×Bool×(List Int)×(List Int)×Bool×Int→Option Ans)):Option Ans:=match v with | (j,k,l,m,n,o,p,q,r,s,a,b,d,e,f,g,h,i)=>kK fuel (aa fuel) (aD fuel) j k l m n o p q r s a b d e f g h i c B
def yu (fuel:Nat) (v:ng) (ret:(Int×Int×Int×Int×Int×Int×Int×Bool×Bool×(List Int)×(List Int)×Bool×Int→Option Ans)) (b:(Int×Int×Int×Int×Int×Int×Int×Int×Bool×Bool×(List Int)×(List Int)×Bool×Int→Option Ans)):Option Ans:=iter (dX fuel) fuel v (ret,b)
def xy (fuel:Nat) (i:Nat):Option Ev.Blk:=Ev.look i [(100000,fZ fuel)]
def ro (v:ng):Ev.St:=match v with | (j,k,l,m,n,o,p,q,r,s,a,b,d,e,f,g,h,i)=>⟨[(0,.c (.ptr 0 0)),(1,.c (i6 j)),(4,.c (.ptr 3 0)),(8,.c (i6 k)),(9,.c (i6 l)),(10,.c (.ptr 4 0)),(49,.c (i6 m)),(50,.c (i6 n))],[(0,.cells 147 (i6 o::.own 1::ctb (.int .u64 p::.int .u64 q::.own 2::i6 r::.int .u64 s::i6 a::.bool b::.bool d::[]))),(1,.vec 3 (.int .i64) e false),(2,.vec 5 (.int .u8) f false),(3,.cells 105 [.bool g,i6 h]),(4,.cells 233 [i6 i])],5,3⟩
def tD (K:KT):vF:=((fun v=>match v with | (e,f,g,h,i,j,k,l,m,n,a,b,d)=>K .ret ⟨[(4,.c (.ptr 3 0)),(5,.c (i6 e))],[(0,.cells 147 (i6 f::.own 1::ctb (.int .u64 g::.int .u64 h::.own 2::i6 i::.int .u64 j::i6 k::.bool l::.bool m::[]))),(1,.vec 3 (.int .i64) n false),(2,.vec 5 (.int .u8) a false),(3,.cells 105 [.bool b,i6 d])],4,3⟩),(fun v=>match v with | (e,f,g,h,i,j,k,l,m,n,a,b,d,o)=>K .normal ⟨[(0,.c (.ptr 0 0)),(1,.c (i6 e)),(4,.c (.ptr 3 0)),(9,.c (i6 f))],[(0,.cells 147 (i6 g::.own 1::ctb (.int .u64 h::.int .u64 i::.own 2::i6 j::.int .u64 k::i6 l::.bool m::.bool n::[]))),(1,.vec 3 (.int .i64) a false),(2,.vec 5 (.int .u8) b false),(3,.cells 105 [.bool d,i6 o])],4,3⟩))
theorem CG (fuel:Nat) (a:ac) (b:ba) (R:Ev.St→OA) (K:KT) (k l:Int) (m n:Int) (o p:Int) (q r:Int) (s t c:Int) (d e:Bool) (f g:LI) (h:Bool) (i j:Int):evalCode tab (lx a b) (xy fuel) cv fuel (bodyOf 2 Tryz.f181) (ro (k,l,m,n,o,p,q,r,s,t,c,d,e,f,g,h,i,j)) (lc cv 14 2 R K)=kK fuel a b k l m n o p q r s t c d e f g h i j (fun v=>R (ro v)) (tD K):=by
  kernel_rfl
def gA (fuel:Nat):Ev.Blk:=fun st K=>match canonO (cv 14) st with | some s=>(match s with | ⟨[(D,.c (.ptr E F)),(G,.c (i6 H)),(I,.c (.ptr J L)),(M,.c (i6 N)),(O,.c (i6 P)),(Q,.c (.ptr a b)),(d,.c (i6 R)),(e,.c (i6 S))],[(f,.cells g h),(i,.vec j (.int .i64) k false),(l,.vec m (.int .u8) n false),(o,.cells p [.bool q,i6 r]),(t,.cells u [i6 v])],w,x⟩=>(match splitRun 2 ctn h with | some ([i6 T,.own y],[.int .u64 U,.int .u64 V,.own z,i6 W,.int .u64 X,i6 A,.bool B,.bool C])=>bif qb [D,E,F,G,I,J,L,M,O,Q,a,b,d,e,f,g,i,j,l,m,o,p,t,u,w,x,y,z] [0,0,0,1,4,3,0,8,9,10,4,0,49,50,0,147,1,3,2,5,3,105,4,233,5,3,1,2] then iter (dX fuel) fuel (H,N,P,R,S,T,U,V,W,X,A,B,C,k,n,q,r,v) (tD K) else none | _=>none) | _=>none) | none=>none
theorem Jm (fuel:Nat) (st:Ev.St) (K:KT) (r:Ans) (h:gA fuel st K=some r):evalCode tab (lE fuel) (xy fuel) cv fuel (.block 2 (.loop (bodyOf 2 Tryz.f181))) st K=some r:=by
  unfold gA at h
  split at h
  · rename_i s hs
    split at h
    · skip
      split at h
      rotate_left 1
      · cases h
      rename_i hsp
      have esp:=splitRun_eq hsp
      subst esp
      obtain ⟨hb,h⟩:=cond_some' h
      cases qb_eq hb
      exact blk_loop (S:=ro) (ks:=tD) (step:=dX fuel) (v:=(_,_,_,_,_,_,_,_,_,_,_,_,_,_,_,_,_,_)) (by kernel_rfl) (by kernel_rfl) (fun R K v=>by obtain ⟨j,k,l,m,n,o,p,q,t,u,a,b,c,d,e,f,g,i⟩:=v; exact CG fuel (aa fuel) (aD fuel) R K j k l m n o p q t u a b c d e f g i) hs h
    · cases h
  · cases h
def uo (fuel:Nat) (i:Nat):Option Ev.Blk:=Ev.look i [(100000,fZ fuel),(100002,gA fuel)]
def tC (fuel:Nat) (w:ac) (b3:ba) (J a2:Int) (a3 a4:Int) (a5 a6 a7:Int) (a8 a9:Bool) (b0 a1:LI) (k0:(Bool×Int×Int×Int×Int×Int×Int×Int×Int×Bool×Bool×LI×LI)→OA):OA:=(w J a2 a3 a4 a5 a6 a7 a8 a9 b0 a1 (fun (P,a,f,g,h,i,j,k,l,m,b,c)=>bif a != 0 then k0 (a==0,0,a,f,g,h,i,j,k,l,m,b,c) else bif P==1 then k0 (a==0,0,a,f,g,h,i,j,k,l,m,b,c) else (uI fuel (J,0,f,g,h,i,j,k,l,m,b,c,false,0) (fun (ret0_0,ret0_1,ret0_2,ret0_3,ret0_4,ret0_5,ret0_6,ret0_7,ret0_8,ret0_9,ret0_10,ret0_11,ret0_12)=>k0 (ret0_11,ret0_12,ret0_0,ret0_1,ret0_2,ret0_3,ret0_4,ret0_5,ret0_6,ret0_7,ret0_8,ret0_9,ret0_10)) (fun (Q,I,R,S,T,U,V,W,X,Y,K,L,M,N)=>(yu fuel (Q,I,1,I,0,R,S,T,U,V,W,X,Y,K,L,M,N,44) (fun (ret2_0,ret2_1,ret2_2,ret2_3,ret2_4,ret2_5,ret2_6,ret2_7,ret2_8,ret2_9,ret2_10,ret2_11,ret2_12)=>k0 (ret2_11,ret2_12,ret2_0,ret2_1,ret2_2,ret2_3,ret2_4,ret2_5,ret2_6,ret2_7,ret2_8,ret2_9,ret2_10)) (fun (a0,n,o,p,q,r,s,t,u,v,d,e,b1,b2)=>bif decide (n > 1048577) then k0 (false,0,3,o,p,q,r,s,t,u,v,d,e) else bif n==1 then k0 (false,0,0,o,p,q,r,s,t,u,v,d,e) else (w (i64.wrap (a0+22)) o p q r s t u v d e (fun (O,z,A,B,C,D,E,F,G,H,x,y)=>bif z != 0 then k0 (false,0,z,A,B,C,D,E,F,G,H,x,y) else k0 (false,i64.wrap (i64.wrap (n - 1)*i64.wrap (1 - i64.wrap (2*O))),0,A,B,C,D,E,F,G,H,x,y)))))))))
abbrev gq:Type:=Int→Int→Int→Int→Int→Int→Int→Bool→Bool→LI→LI→((Bool×Int×Int×Int×Int×Int×Int×Int×Int×Bool×Bool×LI×LI)→Option Ans)→Option Ans
def fm (fuel:Nat):gq:=tC fuel (aa fuel) (aD fuel)
theorem CF (fuel:Nat) (a:ac) (b:ba) (e f:Int) (g h:Int) (i j l:Int) (m n:Bool) (o d:LI) (k:Ev.Cont):evalFn tab (lx a b) (uo fuel) cv fuel Tryz.f181 [.c (.ptr 0 0),.c (i6 e)] [.cells 147 (i6 f::.own 1::ctb (.int .u64 g::.int .u64 h::.own 2::i6 i::.int .u64 j::i6 l::.bool m::.bool n::[])),.vec 3 (.int .i64) o false,.vec 5 (.int .u8) d false] k=tC fuel a b e f g h i j l m n o d (fun r=>match r with | (t,u,v,w,x,y,z,A,B,C,p,q,s)=>k (.tup [(true,[.bool t,i6 u]),(false,[i6 v])],[.cells 147 (i6 w::.own 1::ctb (.int .u64 x::.int .u64 y::.own 2::i6 z::.int .u64 A::i6 B::.bool C::.bool p::[])),.vec 3 (.int .i64) q false,.vec 5 (.int .u8) s false])):=by
  kernel_rfl
theorem nv (fuel:Nat):GOK Tryz.prog (lE fuel):=
  gc (cA fuel) Tryz.func143 (by kernel_rfl) rfl <|
  gc (ve fuel) Tryz.func180 (by kernel_rfl) rfl <|
  gok_nil
theorem zu (fuel:Nat):BlkOK Tryz.prog Tryz.f181.ntmps (.block 0 (.loop (bodyOf 0 Tryz.f181))) (fZ fuel):=bo0 (nv fuel) (by kernel_rfl) (by kernel_rfl) (GZ fuel)
theorem Iu (fuel:Nat):BlkOK Tryz.prog Tryz.f181.ntmps (.block 2 (.loop (bodyOf 2 Tryz.f181))) (gA fuel):=bo0 (nv fuel) (by kernel_rfl) (by kernel_rfl) (Jm fuel)
theorem H7 (fuel:Nat):FnOK Tryz.prog 181 (evalFn tab (lE fuel) (uo fuel) cv fuel Tryz.f181):=
  fn_ok tab_ok (nv fuel) mixed Tryz.func181 (c:=(Tryz.f181.body).getD .skip) rfl (fun q hq=>by
    rw [(by kernel_rfl:obl (uo fuel) ((Tryz.f181.body).getD .skip)= [(.block 0 (.loop (bodyOf 0 Tryz.f181)),fZ fuel),(.block 2 (.loop (bodyOf 2 Tryz.f181)),gA fuel)])] at hq
    simp only [List.mem_cons,List.not_mem_nil,or_false] at hq
    rcases hq with rfl | rfl
    · exact zu fuel
    · exact Iu fuel)
def oj (F:gq):Ev.Spec:=fun args objs k=>match args,objs with | [.c (.ptr g h),.c (i6 i)],[.cells j a,.vec l (.int .i64) m false,.vec n (.int .u8) b false]=>(match splitRun 2 ctn a with | some ([i6 o,.own p],[.int .u64 q,.int .u64 s,.own t,i6 u,.int .u64 v,i6 w,.bool x,.bool y])=>bif qb [g,h,j,l,n,p,t] [0,0,147,3,5,1,2] then F i o q s u v w x y m b (fun r=>match r with | (z,A,B,C,D,E,G,H,I,J,d,e,f)=>k (.tup [(true,[.bool z,i6 A]),(false,[i6 B])],[.cells 147 (i6 C::.own 1::ctb (.int .u64 D::.int .u64 E::.own 2::i6 G::.int .u64 H::i6 I::.bool J::.bool d::[])),.vec 3 (.int .i64) e false,.vec 5 (.int .u8) f false])) else none | _=>none) | _,_=>none
theorem CK (fuel:Nat):FnOK Tryz.prog 181 (oj (fm fuel)):=by
  intro args objs kk r h
  unfold oj at h
  split at h
  · skip
    split at h
    rotate_left 1
    · cases h
    rename_i hsp
    have esp:=splitRun_eq hsp
    subst esp
    obtain ⟨hb,h⟩:=cond_some' h
    cases qb_eq hb
    exact H7 fuel _ _ kk r ((CF fuel (aa fuel) (aD fuel) _ _ _ _ _ _ _ _ _ _ _ kk).trans h)
  · cases h
def Hw (i:Nat):Option (List Nat):=Ev.look i []
def wZ (c:am) (d:aX) (a:ac) (b:gq) (f:Nat):Option Ev.Spec:=Ev.look f [(40,eA c),(138,fz d),(143,bW a),(181,oj b)]
def FB (fuel:Nat):Nat→Option Ev.Spec:=wZ (ah fuel) (an fuel) (aa fuel) (fm fuel)
def sW (fuel:Nat) (z:am) (O:aX) (x:ac) (y:gq) (w R:Int) (S T:Int) (U V W:Int) (X Y:Bool) (a0 Q:LI) (k0:(Bool×Int×Int×Int×Int×Int×Int×Int×Int×Bool×Bool×LI×LI)→OA):OA:=(x ((-1:Int)) R S T U V W X Y a0 Q (fun (a1,d,e,f,g,h,i,j,k,l,a,b)=>bif d==7 then k0 (false,0,d,e,f,g,h,i,j,k,l,a,b) else (z e f g h i j k l a b (fun (P,m,n,o,p,q,r,s,t,u,c,D)=>(O P D w (48) (fun v=>bif v != 0 then k0 (false,0,v,m,n,o,p,q,r,s,t,u,c) else (y w m n o p q r s t u c (fun (E,F,G,H,I,J,K,L,M,N,A,B,C)=>k0 (E,F,G,H,I,J,K,L,M,N,A,B,C)))))))))
abbrev iu:Type:=Int→Int→Int→Int→Int→Int→Int→Bool→Bool→LI→LI→((Bool×Int×Int×Int×Int×Int×Int×Int×Int×Bool×Bool×LI×LI)→Option Ans)→Option Ans
def eW (fuel:Nat):iu:=sW fuel (ah fuel) (an fuel) (aa fuel) (fm fuel)
theorem JQ (fuel:Nat) (d:am) (e:aX) (a:ac) (b:gq) (g h:Int) (i j:Int) (l m n:Int) (o p:Bool) (q f:LI) (k:Ev.Cont):evalFn tab (wZ d e a b) J0 Hw fuel Tryz.f141 [.c (.ptr 0 0),.c (i6 g)] [.cells 147 (i6 h::.own 1::ctb (.int .u64 i::.int .u64 j::.own 2::i6 l::.int .u64 m::i6 n::.bool o::.bool p::[])),.vec 3 (.int .i64) q false,.vec 5 (.int .u8) f false] k=sW fuel d e a b g h i j l m n o p q f (fun r=>match r with | (v,w,x,y,z,A,B,C,D,E,s,t,u)=>k (.tup [(true,[.bool v,i6 w]),(false,[i6 x])],[.cells 147 (i6 y::.own 1::ctb (.int .u64 z::.int .u64 A::.own 2::i6 B::.int .u64 C::i6 D::.bool E::.bool s::[])),.vec 3 (.int .i64) t false,.vec 5 (.int .u8) u false])):=by
  kernel_rfl
theorem DO (fuel:Nat):GOK Tryz.prog (FB fuel):=
  gc (eT fuel) Tryz.func40 (by kernel_rfl) rfl <|
  gc (kn fuel) Tryz.func138 (by kernel_rfl) rfl <|
  gc (cA fuel) Tryz.func143 (by kernel_rfl) rfl <|
  gc (CK fuel) Tryz.func181 (by kernel_rfl) rfl <|
  gok_nil
def ou (F:iu):Ev.Spec:=fun args objs k=>match args,objs with | [.c (.ptr g h),.c (i6 i)],[.cells j a,.vec l (.int .i64) m false,.vec n (.int .u8) b false]=>(match splitRun 2 ctn a with | some ([i6 o,.own p],[.int .u64 q,.int .u64 s,.own t,i6 u,.int .u64 v,i6 w,.bool x,.bool y])=>bif qb [g,h,j,l,n,p,t] [0,0,147,3,5,1,2] then F i o q s u v w x y m b (fun r=>match r with | (z,A,B,C,D,E,G,H,I,J,d,e,f)=>k (.tup [(true,[.bool z,i6 A]),(false,[i6 B])],[.cells 147 (i6 C::.own 1::ctb (.int .u64 D::.int .u64 E::.own 2::i6 G::.int .u64 H::i6 I::.bool J::.bool d::[])),.vec 3 (.int .i64) e false,.vec 5 (.int .u8) f false])) else none | _=>none) | _,_=>none
def sG (fuel:Nat):Ev.Spec:=ou (eW fuel)
theorem uN (fuel:Nat):FnOK Tryz.prog 141 (sG fuel):=by
  intro args objs kk r h
  unfold sG ou at h
  split at h
  · skip
    split at h
    rotate_left 1
    · cases h
    rename_i hsp
    have esp:=splitRun_eq hsp
    subst esp
    obtain ⟨hb,h⟩:=cond_some' h
    cases qb_eq hb
    exact fo0 (DO fuel) Tryz.func141 rfl (by kernel_rfl) _ _ kk r ((JQ fuel (ah fuel) (an fuel) (aa fuel) (fm fuel) _ _ _ _ _ _ _ _ _ _ _ kk).trans h)
  · cases h
end
end Go.Proofs.YtohnjbmiaegofaaGreat

