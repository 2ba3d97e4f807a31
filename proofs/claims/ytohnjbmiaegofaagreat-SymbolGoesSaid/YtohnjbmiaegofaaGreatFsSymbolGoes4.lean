/- What the functions that SymbolGoes reaches do: their typed texts, each with the proof that the machine does it. No condition. -/
import Derived.Test.YtohnjbmiaegofaaGreatEvX
import Derived.Test.YtohnjbmiaegofaaGreatFsSymbolGoes3
import Derived.Test.YtohnjbmiaegofaaGreatFsSymbolGoes2
import Derived.Test.YtohnjbmiaegofaaGreatFsSymbolGoes1
set_option linter.unusedVariables false
set_option linter.unusedSimpArgs false
set_option linter.unusedSectionVars false
set_option linter.unusedVariables false
set_option linter.unusedSimpArgs false
set_option maxRecDepth 100000
set_option maxHeartbeats 2000000
namespace Go.Proofs.YtohnjbmiaegofaaGreat
open Go Ev Tryz
open Go.IntKind (i64 u64 u8 i32 u32 u16)
noncomputable section
def Ot (i:Nat):Option (List Nat):=Ev.look i [(200001,[3,5])]
def AC (a:aD) (f:Nat):Option Ev.Spec:=Ev.look f [(129,gZ a)]
def K2 (Z:Nat):Nat→Option Ev.Spec:=AC (aB Z)
def wx (Z:Nat) (b:aD) (j:Int) (c:LI) (a d:Int) (e f:Int) (g:Bool) (h:Int) (k0:(Bool)→OA):OA:=bif decide (a≥0) then (b d e f g h (fun i=>k0 (decide (a≤i64.wrap (i64.wrap ((↑c.length:Int) - i) - 1))))) else k0 false
abbrev cH:Type:=Int→LI→Int→Int→Int→Int→Bool→Int→(Bool→OA)→OA
def cr (Z:Nat):cH:=wx Z (aB Z)
theorem GS (Z:Nat) (a:aD) (b:Int) (d:LI) (e f:Int) (g h:Int) (i:Bool) (j:Int) (k:Ev.Cont):evalFn tab (AC a) J0 Ot Z Tryz.f171 [.agg [i6 b,.sl ti d],.c (i6 e),.agg [i6 f,i6 g,i6 h,.bool i,i6 j]] [] k=wx Z a b d e f g h i j (fun r=>match r with | l=>k (.c (.bool l),[])):=by
 kernel_rfl
theorem Lg (Z:Nat):GOK prog (K2 Z):=
 gc (mR Z) func129 kr rfl <|
 gok_nil
def nb (F:cH):Ev.Spec:=fun args objs k=>match args,objs with | [.agg [i6 a,.sl ti b],.c (i6 d),.agg [i6 e,i6 f,i6 g,.bool h,i6 i]],[]=>F a b d e f g h i (fun r=>match r with | j=>k (.c (.bool j),[])) | _,_=>none
theorem Cr (Z:Nat):FnOK prog 171 (nb (cr Z)):=by
 intro args objs kk r h
 unfold nb at h
 split at h
 ·skip
  exact fo0 (Lg Z) func171 rfl kr _ _ kk r ((GS Z (aB Z) _ _ _ _ _ _ _ _ kk).trans h)
 ·cases h
def Fa (i:Nat):Option (List Nat):=Ev.look i [(200001,[3])]
def DS (a:fq) (f:Nat):Option Ev.Spec:=Ev.look f [(163,lU a)]
def Lu (Z:Nat):Nat→Option Ev.Spec:=DS (dc Z)
def sa (Z:Nat) (h:fq) (i c d:Int) (k:Bool) (l a b:Int) (k0:(Int×Int×LI×(List (Int×Int)))→OA):OA:=both (bif decide (0≤i64.wrap (a*b)∧i64.wrap (a*b)=i64.wrap (a*b)∧(↑(1:Nat):Int)*i64.wrap (a*b)≤281474976710656∧i64.wrap (a*b)≤281474976710656) then both ((h i (fun f=>bif decide ((f.length+ [(c,d)].length)*(16:Nat)≤(140737488355328:Nat)∧f.length+ [(c,d)].length≤(140737488355328:Nat)) then k0 (a,b,List.replicate (i64.wrap (a*b)).toNat (0:Int),f++ [(c,d)]) else none))) ((h i (fun f=>bif decide ((f.length+ [(c,d)].length)*(16:Nat)≤(140737488355328:Nat)∧f.length+ [(c,d)].length≤(140737488355328:Nat)) then k0 (a,b,List.replicate (i64.wrap (a*b)).toNat (0:Int),f++ [(c,d)]) else none))) else none) (both ((h i (fun e=>both (bif decide (0≤i64.wrap (a*b)∧i64.wrap (a*b)=i64.wrap (a*b)∧(↑(1:Nat):Int)*i64.wrap (a*b)≤281474976710656∧i64.wrap (a*b)≤281474976710656) then bif decide ((e.length+ [(c,d)].length)*(16:Nat)≤(140737488355328:Nat)∧e.length+ [(c,d)].length≤(140737488355328:Nat)) then k0 (a,b,List.replicate (i64.wrap (a*b)).toNat (0:Int),e++ [(c,d)]) else none else none) (both (bif decide (0≤i64.wrap (a*b)∧i64.wrap (a*b)=i64.wrap (a*b)∧(↑(1:Nat):Int)*i64.wrap (a*b)≤281474976710656∧i64.wrap (a*b)≤281474976710656) then bif decide ((e.length+ [(c,d)].length)*(16:Nat)≤(140737488355328:Nat)∧e.length+ [(c,d)].length≤(140737488355328:Nat)) then k0 (a,b,List.replicate (i64.wrap (a*b)).toNat (0:Int),e++ [(c,d)]) else none else none) (bif decide ((e.length+ [(c,d)].length)*(16:Nat)≤(140737488355328:Nat)∧e.length+ [(c,d)].length≤(140737488355328:Nat)) then bif decide (0≤i64.wrap (a*b)∧i64.wrap (a*b)=i64.wrap (a*b)∧(↑(1:Nat):Int)*i64.wrap (a*b)≤281474976710656∧i64.wrap (a*b)≤281474976710656) then k0 (a,b,List.replicate (i64.wrap (a*b)).toNat (0:Int),e++ [(c,d)]) else none else none))))) (both (bif decide (0≤i64.wrap (a*b)∧i64.wrap (a*b)=i64.wrap (a*b)∧(↑(1:Nat):Int)*i64.wrap (a*b)≤281474976710656∧i64.wrap (a*b)≤281474976710656) then (h i (fun j=>bif decide ((j.length+ [(c,d)].length)*(16:Nat)≤(140737488355328:Nat)∧j.length+ [(c,d)].length≤(140737488355328:Nat)) then k0 (a,b,List.replicate (i64.wrap (a*b)).toNat (0:Int),j++ [(c,d)]) else none)) else none) ((h i (fun g=>both (bif decide (0≤i64.wrap (a*b)∧i64.wrap (a*b)=i64.wrap (a*b)∧(↑(1:Nat):Int)*i64.wrap (a*b)≤281474976710656∧i64.wrap (a*b)≤281474976710656) then bif decide ((g.length+ [(c,d)].length)*(16:Nat)≤(140737488355328:Nat)∧g.length+ [(c,d)].length≤(140737488355328:Nat)) then k0 (a,b,List.replicate (i64.wrap (a*b)).toNat (0:Int),g++ [(c,d)]) else none else none) (bif decide ((g.length+ [(c,d)].length)*(16:Nat)≤(140737488355328:Nat)∧g.length+ [(c,d)].length≤(140737488355328:Nat)) then bif decide (0≤i64.wrap (a*b)∧i64.wrap (a*b)=i64.wrap (a*b)∧(↑(1:Nat):Int)*i64.wrap (a*b)≤281474976710656∧i64.wrap (a*b)≤281474976710656) then k0 (a,b,List.replicate (i64.wrap (a*b)).toNat (0:Int),g++ [(c,d)]) else none else none))))))
abbrev bG:Type:=Int→Int→Int→Bool→Int→Int→Int→((Int×Int×LI×(List (Int×Int)))→OA)→OA
def bm (Z:Nat):bG:=sa Z (dc Z)
theorem JX (Z:Nat) (a:fq) (b d e:Int) (f:Bool) (g h i:Int) (k:Ev.Cont):evalFn tab (DS a) J0 Fa Z Tryz.f183 [.agg [i6 b,i6 d,i6 e,.bool f,i6 g],.c (i6 h),.c (i6 i)] [] k=sa Z a b d e f g h i (fun r=>match r with | (j,l,m,n)=>k (.c (.ptr 0 0),[.cells 240 [i6 j,i6 l,.own 1,.own 2],.vec 5 (.int .u8) m true,.vec 22 (.pair ti ti) n true])):=by
 kernel_rfl
theorem OP (Z:Nat):GOK prog (Lu Z):=
 gc (Ai Z) func163 kr rfl <|
 gok_nil
def mp (F:bG):Ev.Spec:=fun args objs k=>match args,objs with | [.agg [i6 a,i6 b,i6 d,.bool e,i6 f],.c (i6 g),.c (i6 h)],[]=>F a b d e f g h (fun r=>match r with | (i,j,l,m)=>k (.c (.ptr 0 0),[.cells 240 [i6 i,i6 j,.own 1,.own 2],.vec 5 (.int .u8) l true,.vec 22 (.pair ti ti) m true])) | _,_=>none
theorem zD (Z:Nat):FnOK prog 183 (mp (bm Z)):=by
 intro args objs kk r h
 unfold mp at h
 split at h
 ·skip
  exact fo0 (OP Z) func183 rfl kr _ _ kk r ((JX Z (dc Z) _ _ _ _ _ _ _ kk).trans h)
 ·cases h
def Lh (i:Nat):Option (List Nat):=Ev.look i [(200003,[0])]
def Ne (f:Nat):Option Ev.Spec:=Ev.look f []
def Cz (Z:Nat):Nat→Option Ev.Spec:=Ne
def bJ (Z:Nat) (d e:Int) (a c:Int) (b:LI) (f:(List (Int×Int))) (k0:(Int×Int×Int×LI×(List (Int×Int)))→OA):OA:=bif decide (d < 0) then k0 (0,a,c,b,f) else bif decide (e < 0) then k0 (0,a,c,b,f) else bif decide (d≥a) then k0 (0,a,c,b,f) else bif decide (e≥c) then k0 (0,a,c,b,f) else bif decide (0≤i64.wrap (i64.wrap (e*a)+d)∧i64.wrap (i64.wrap (e*a)+d) < (↑b.length:Int)) then k0 (b.getD (i64.wrap (i64.wrap (e*a)+d)).toNat 0,a,c,b,f) else none
abbrev cj:Type:=Int→Int→Int→Int→LI→((List (Int×Int)))→((Int×Int×Int×LI×(List (Int×Int)))→OA)→OA
theorem O3 (Z:Nat) (a b:Int) (d e:Int) (f:LI) (g:(List (Int×Int))) (k:Ev.Cont):evalFn tab (Cz Z) J0 Lh Z Tryz.f203 [.c (.ptr 0 0),.c (i6 a),.c (i6 b)] [.cells 240 [i6 d,i6 e,.own 1,.own 2],.vec 5 (.int .u8) f false,.vec 22 (.pair ti ti) g false] k=bJ Z a b d e f g (fun r=>match r with | (h,i,j,l,m)=>k (.c (.int .u8 h),[.cells 240 [i6 i,i6 j,.own 1,.own 2],.vec 5 (.int .u8) l false,.vec 22 (.pair ti ti) m false])):=by
 kernel_rfl
theorem LJ (Z:Nat):GOK prog (Cz Z):=
 gok_nil
def ma (F:cj):Ev.Spec:=fun args objs k=>match args,objs with | [.c (.ptr a b),.c (i6 d),.c (i6 e)],[.cells f [i6 g,i6 h,.own i,.own j],.vec l (.int .u8) m false,.vec n (.pair ti ti) o false]=>bif qb [a,b,f,i,j,l,n] [0,0,240,1,2,5,22] then F d e g h m o (fun r=>match r with | (p,q,s,t,u)=>k (.c (.int .u8 p),[.cells 240 [i6 q,i6 s,.own 1,.own 2],.vec 5 (.int .u8) t false,.vec 22 (.pair ti ti) u false])) else none | _,_=>none
theorem BJ (Z:Nat):FnOK prog 203 (ma (bJ Z)):=by
 intro args objs kk r h
 unfold ma at h
 split at h
 ·skip
  obtain ⟨hb,h⟩:=cond_some' h
  cases qb_eq hb
  exact fo0 (LJ Z) func203 rfl kr _ _ kk r ((O3 Z _ _ _ _ _ _ kk).trans h)
 ·cases h
def H9 (i:Nat):Option (List Nat):=Ev.look i []
def H8 (f:Nat):Option Ev.Spec:=Ev.look f []
def Aj (Z:Nat):Nat→Option Ev.Spec:=H8
def ah (Z:Nat) (c d:Int) (a:LI) (b:Int) (k0:(Bool)→OA):OA:=bif decide ((↑a.length:Int) > 0) then bif decide (0≤b∧b < (↑a.length:Int)) then k0 (a.getD b.toNat (0:Int)==(1:Int)) else none else k0 false
abbrev al:Type:=Int→Int→LI→Int→(Bool→OA)→OA
theorem GD (Z:Nat) (a b:Int) (d:LI) (e:Int) (k:Ev.Cont):evalFn tab (Aj Z) J0 H9 Z Tryz.f195 [.agg [i6 a,i6 b,.sl (.int .u8) d],.c (i6 e)] [] k=ah Z a b d e (fun r=>match r with | f=>k (.c (.bool f),[])):=by
 kernel_rfl
theorem Io (Z:Nat):GOK prog (Aj Z):=
 gok_nil
def fL (F:al):Ev.Spec:=fun args objs k=>match args,objs with | [.agg [i6 a,i6 b,.sl (.int .u8) d],.c (i6 e)],[]=>F a b d e (fun r=>match r with | f=>k (.c (.bool f),[])) | _,_=>none
theorem jL (Z:Nat):FnOK prog 195 (fL (ah Z)):=by
 intro args objs kk r h
 unfold fL at h
 split at h
 ·skip
  exact fo0 (Io Z) func195 rfl kr _ _ kk r ((GD Z _ _ _ _ kk).trans h)
 ·cases h
def jT (i:Nat):Option (List Nat):=Ev.look i [(3,[0,1,5,7,15,16]),(100000,[7]),(200005,[0,5]),(400000,[6])]
def qI (b:al) (a:cj) (f:Nat):Option Ev.Spec:=Ev.look f [(195,fL b),(203,ma a)]
def CI (Z:Nat):Nat→Option Ev.Spec:=qI (ah Z) (bJ Z)
abbrev qz:Type:=Int×Int×Int×Int×Int×LI×(List (Int×Int))×Int×Int×LI×LI
abbrev xN:Type:=(Int×Int×LI×(List (Int×Int))×LI→OA)
def lz (Z:Nat) (o:al) (n:cj) (e g:Int) (a f h:Int) (i:LI) (j:(List (Int×Int))) (k l:Int) (m d:LI) (c:qz→OA) (B:xN):OA:=match B with | b=>bif decide (a < g) then (o k l m (i64.wrap (i64.wrap (e*f)+a)) (fun u=>bif !u then (n a (i64.wrap (e - 1)) f h i j (fun (p,q,r,s,t)=>bif decide (0≤a∧a < (↑d.length:Int)) then c (e,g,i64.wrap (a+1),q,r,s,t,k,l,m,d.set a.toNat p) else none)) else c (e,g,i64.wrap (a+1),f,h,i,j,k,l,m,d))) else b (f,h,i,j,d)
def gk (Z:Nat) (v:Int×Int×Int×Int×Int×LI×(List (Int×Int))×Int×Int×LI×LI) (c:(Int×Int×Int×Int×Int×LI×(List (Int×Int))×Int×Int×LI×LI)→OA) (B:(Int×Int×LI×(List (Int×Int))×LI→OA)):OA:=match v with | (b,d,e,f,g,h,i,j,k,l,a)=>lz Z (ah Z) (bJ Z) b d e f g h i j k l a c B
def BY (Z:Nat) (v:qz) (b:xN):OA:=iter (gk Z) Z v b
def xh (v:qz):Ev.St:=match v with | (b,d,e,f,g,h,i,j,k,l,a)=>⟨[(0,.c (.ptr 0 0)),(1,.c (i6 b)),(5,.c (.ptr 3 0)),(7,.c (.own 4)),(15,.c (i6 d)),(16,.c (i6 e))],[(0,.cells 240 [i6 f,i6 g,.own 1,.own 2]),(1,.vec 5 (.int .u8) h false),(2,.vec 22 (.pair ti ti) i false),(3,.cells 29 [i6 j,i6 k,.sl (.int .u8) l]),(4,.vec 5 (.int .u8) a true)],5,3⟩
def pZ (K:KT):xN:=(fun v=>match v with | (a,b,d,e,f)=>K .normal ⟨[(7,.c (.own 3))],[(0,.cells 240 [i6 a,i6 b,.own 1,.own 2]),(1,.vec 5 (.int .u8) d false),(2,.vec 22 (.pair ti ti) e false),(3,.vec 5 (.int .u8) f true)],4,3⟩)
theorem L5 (Z:Nat) (b:al) (a:cj) (R:Ev.St→OA) (K:KT) (d e:Int) (f g h:Int) (i:LI) (j:(List (Int×Int))) (k l:Int) (m c:LI):evalCode tab (qI b a) J0 jT Z (bodyOf 0 Tryz.f197) (xh (d,e,f,g,h,i,j,k,l,m,c)) (lc jT 3 0 R K)=lz Z b a d e f g h i j k l m c (fun v=>R (xh v)) (pZ K):=by
 kernel_rfl
def mt (Z:Nat):Ev.Blk:=fun st K=>match canonO (jT 3) st with | some s=>(match s with | ⟨[(r,.c (.ptr t u)),(v,.c (i6 w)),(x,.c (.ptr y z)),(A,.c (.own B)),(C,.c (i6 D)),(a,.c (i6 E))],[(b,.cells d [i6 F,i6 G,.own e,.own f]),(g,.vec h (.int .u8) H false),(i,.vec j (.pair ti ti) I false),(k,.cells l [i6 J,i6 L,.sl (.int .u8) M]),(m,.vec n (.int .u8) o true)],p,q⟩=>bif qb [r,t,u,v,x,y,z,A,B,C,a,b,d,e,f,g,h,i,j,k,l,m,n,p,q] [0,0,0,1,5,3,0,7,4,15,16,0,240,1,2,1,5,2,22,3,29,4,5,5,3] then iter (gk Z) Z (w,D,E,F,G,H,I,J,L,M,o) (pZ K) else none | _=>none) | none=>none
theorem PF (Z:Nat) (st:Ev.St) (K:KT) (r:Ans) (h:mt Z st K=some r):evalCode tab (CI Z) J0 jT Z (.block 0 (.loop (bodyOf 0 Tryz.f197))) st K=some r:=by
 unfold mt at h
 split at h
 ·rename_i s hs
  split at h
  ·skip
   obtain ⟨hb,h⟩:=cond_some' h
   cases qb_eq hb
   exact blk_loop (S:=xh) (ks:=pZ) (step:=gk Z) (v:=(_,_,_,_,_,_,_,_,_,_,_)) kr kr (fun R K v=>by obtain ⟨b,c,d,e,f,g,i,j,k,l,a⟩:=v; exact L5 Z (ah Z) (bJ Z) R K b c d e f g i j k l a) hs h
  ·cases h
 ·cases h
def EL (Z:Nat) (i:Nat):Option Ev.Blk:=Ev.look i [(100000,mt Z)]
def qF (Z:Nat) (o:al) (n:cj) (g h i:Int) (j:LI) (a k:Int) (l:LI) (m:(List (Int×Int))) (k0:(Int×Int×LI×(List (Int×Int))×LI)→OA):OA:=bif decide (0≤a∧a=a∧(↑(1:Nat):Int)*a≤281474976710656∧a≤281474976710656) then (BY Z (g,(↑(List.replicate a.toNat (0:Int)).length:Int),0,a,k,l,m,h,i,j,List.replicate a.toNat (0:Int)) (fun (b,c,d,e,f)=>k0 (b,c,d,e,f))) else none
abbrev fB:Type:=Int→Int→Int→LI→Int→Int→LI→((List (Int×Int)))→((Int×Int×LI×(List (Int×Int))×LI)→OA)→OA
def dW (Z:Nat):fB:=qF Z (ah Z) (bJ Z)
theorem Ms (Z:Nat) (b:al) (a:cj) (d e f:Int) (g:LI) (h i:Int) (j:LI) (l:(List (Int×Int))) (k:Ev.Cont):evalFn tab (qI b a) (EL Z) jT Z Tryz.f197 [.c (.ptr 0 0),.c (i6 d),.agg [i6 e,i6 f,.sl (.int .u8) g]] [.cells 240 [i6 h,i6 i,.own 1,.own 2],.vec 5 (.int .u8) j false,.vec 22 (.pair ti ti) l false] k=qF Z b a d e f g h i j l (fun r=>match r with | (m,n,o,p,q)=>k (.c (.own 3),[.cells 240 [i6 m,i6 n,.own 1,.own 2],.vec 5 (.int .u8) o false,.vec 22 (.pair ti ti) p false,.vec 5 (.int .u8) q true])):=by
 kernel_rfl
theorem DK (Z:Nat):GOK prog (CI Z):=
 gc (jL Z) func195 kr rfl <|
 gc (BJ Z) func203 kr rfl <|
 gok_nil
theorem Jx (Z:Nat):BlkOK prog Tryz.f197.ntmps (.block 0 (.loop (bodyOf 0 Tryz.f197))) (mt Z):=bo0 (DK Z) kr kr (PF Z)
def py (F:fB):Ev.Spec:=fun args objs k=>match args,objs with | [.c (.ptr a b),.c (i6 d),.agg [i6 e,i6 f,.sl (.int .u8) g]],[.cells h [i6 i,i6 j,.own l,.own m],.vec n (.int .u8) o false,.vec p (.pair ti ti) q false]=>bif qb [a,b,h,l,m,n,p] [0,0,240,1,2,5,22] then F d e f g i j o q (fun r=>match r with | (s,t,u,v,w)=>k (.c (.own 3),[.cells 240 [i6 s,i6 t,.own 1,.own 2],.vec 5 (.int .u8) u false,.vec 22 (.pair ti ti) v false,.vec 5 (.int .u8) w true])) else none | _,_=>none
theorem M0 (Z:Nat):FnOK prog 197 (py (dW Z)):=by
 intro args objs kk r h
 unfold py at h
 split at h
 ·skip
  obtain ⟨hb,h⟩:=cond_some' h
  cases qb_eq hb
  exact fo1 (DK Z) func197 rfl (Jx Z) kr _ _ kk r ((Ms Z (ah Z) (bJ Z) _ _ _ _ _ _ _ _ kk).trans h)
 ·cases h
def kE (i:Nat):Option (List Nat):=Ev.look i [(3,[0,1,2,7,13,14,15]),(100000,[7]),(400000,[6])]
def vi (a:cj) (f:Nat):Option Ev.Spec:=Ev.look f [(203,ma a)]
def De (Z:Nat):Nat→Option Ev.Spec:=vi (bJ Z)
abbrev wo:Type:=Int×Int×Int×Int×Int×Int×Int×LI×(List (Int×Int))
abbrev uU:Type:=(Int×Int×Int×LI×(List (Int×Int))→OA)
def lg (Z:Nat) (l:cj) (e f:Int) (g h:Int) (a i j:Int) (k:LI) (d:(List (Int×Int))) (c:wo→OA) (B:uU):OA:=match B with | b=>bif decide (a < h) then bif decide (0≤a∧a < (↑d.length:Int)) then (l (i64.wrap (e+(d.getD a.toNat (0,0)).fst)) (i64.wrap (f+(d.getD a.toNat (0,0)).snd)) i j k d (fun (m,n,o,p,q)=>c (e,f,i64.wrap (i64.wrap (2*g)+i64.wrap m),h,i64.wrap (a+1),n,o,p,q))) else none else b (g,i,j,k,d)
def gI (Z:Nat) (v:Int×Int×Int×Int×Int×Int×Int×LI×(List (Int×Int))) (c:(Int×Int×Int×Int×Int×Int×Int×LI×(List (Int×Int)))→OA) (B:(Int×Int×Int×LI×(List (Int×Int))→OA)):OA:=match v with | (a,b,d,e,f,g,h,i,j)=>lg Z (bJ Z) a b d e f g h i j c B
def Cj (Z:Nat) (v:wo) (b:uU):OA:=iter (gI Z) Z v b
def oX (v:wo):Ev.St:=match v with | (a,b,d,e,f,g,h,i,j)=>⟨[(0,.c (.ptr 0 0)),(1,.c (i6 a)),(2,.c (i6 b)),(7,.c (i6 d)),(13,.c (.own 2)),(14,.c (i6 e)),(15,.c (i6 f))],[(0,.cells 240 [i6 g,i6 h,.own 1,.own 2]),(1,.vec 5 (.int .u8) i false),(2,.vec 22 (.pair ti ti) j false)],3,3⟩
def sL (K:KT):uU:=(fun v=>match v with | (a,b,d,e,f)=>K .normal ⟨[(7,.c (i6 a))],[(0,.cells 240 [i6 b,i6 d,.own 1,.own 2]),(1,.vec 5 (.int .u8) e false),(2,.vec 22 (.pair ti ti) f false)],3,3⟩)
theorem Lj (Z:Nat) (a:cj) (R:Ev.St→OA) (K:KT) (b c:Int) (d e:Int) (f g h:Int) (i:LI) (j:(List (Int×Int))):evalCode tab (vi a) J0 kE Z (bodyOf 0 Tryz.f198) (oX (b,c,d,e,f,g,h,i,j)) (lc kE 3 0 R K)=lg Z a b c d e f g h i j (fun v=>R (oX v)) (sL K):=by
 kernel_rfl
def oF (Z:Nat):Ev.Blk:=fun st K=>match canonO (kE 3) st with | some s=>(match s with | ⟨[(l,.c (.ptr m n)),(o,.c (i6 p)),(q,.c (i6 r)),(t,.c (i6 u)),(v,.c (.own w)),(x,.c (i6 y)),(z,.c (i6 A))],[(a,.cells b [i6 B,i6 C,.own d,.own e]),(f,.vec g (.int .u8) D false),(h,.vec i (.pair ti ti) E false)],j,k⟩=>bif qb [l,m,n,o,q,t,v,w,x,z,a,b,d,e,f,g,h,i,j,k] [0,0,0,1,2,7,13,2,14,15,0,240,1,2,1,5,2,22,3,3] then iter (gI Z) Z (p,r,u,y,A,B,C,D,E) (sL K) else none | _=>none) | none=>none
theorem Nt (Z:Nat) (st:Ev.St) (K:KT) (r:Ans) (h:oF Z st K=some r):evalCode tab (De Z) J0 kE Z (.block 0 (.loop (bodyOf 0 Tryz.f198))) st K=some r:=by
 unfold oF at h
 split at h
 ·rename_i s hs
  split at h
  ·skip
   obtain ⟨hb,h⟩:=cond_some' h
   cases qb_eq hb
   exact blk_loop (S:=oX) (ks:=sL) (step:=gI Z) (v:=(_,_,_,_,_,_,_,_,_)) kr kr (fun R K v=>by obtain ⟨a,b,c,d,e,f,g,i,j⟩:=v; exact Lj Z (bJ Z) R K a b c d e f g i j) hs h
  ·cases h
 ·cases h
def M8 (Z:Nat) (i:Nat):Option Ev.Blk:=Ev.look i [(100000,oF Z)]
def uV (Z:Nat) (l:cj) (g h:Int) (i j:Int) (k:LI) (a:(List (Int×Int))) (k0:(Int×Int×Int×LI×(List (Int×Int)))→OA):OA:=(Cj Z (g,h,0,(↑a.length:Int),0,i,j,k,a) (fun (b,c,d,e,f)=>k0 (b,c,d,e,f)))
abbrev eL:Type:=Int→Int→Int→Int→LI→((List (Int×Int)))→((Int×Int×Int×LI×(List (Int×Int)))→OA)→OA
def ev (Z:Nat):eL:=uV Z (bJ Z)
theorem Lf (Z:Nat) (a:cj) (b d:Int) (e f:Int) (g:LI) (h:(List (Int×Int))) (k:Ev.Cont):evalFn tab (vi a) (M8 Z) kE Z Tryz.f198 [.c (.ptr 0 0),.c (i6 b),.c (i6 d)] [.cells 240 [i6 e,i6 f,.own 1,.own 2],.vec 5 (.int .u8) g false,.vec 22 (.pair ti ti) h false] k=uV Z a b d e f g h (fun r=>match r with | (i,j,l,m,n)=>k (.c (i6 i),[.cells 240 [i6 j,i6 l,.own 1,.own 2],.vec 5 (.int .u8) m false,.vec 22 (.pair ti ti) n false])):=by
 kernel_rfl
theorem AH (Z:Nat):GOK prog (De Z):=
 gc (BJ Z) func203 kr rfl <|
 gok_nil
theorem Nv (Z:Nat):BlkOK prog Tryz.f198.ntmps (.block 0 (.loop (bodyOf 0 Tryz.f198))) (oF Z):=bo0 (AH Z) kr kr (Nt Z)
def sj (F:eL):Ev.Spec:=fun args objs k=>match args,objs with | [.c (.ptr a b),.c (i6 d),.c (i6 e)],[.cells f [i6 g,i6 h,.own i,.own j],.vec l (.int .u8) m false,.vec n (.pair ti ti) o false]=>bif qb [a,b,f,i,j,l,n] [0,0,240,1,2,5,22] then F d e g h m o (fun r=>match r with | (p,q,s,t,u)=>k (.c (i6 p),[.cells 240 [i6 q,i6 s,.own 1,.own 2],.vec 5 (.int .u8) t false,.vec 22 (.pair ti ti) u false])) else none | _,_=>none
theorem OX (Z:Nat):FnOK prog 198 (sj (ev Z)):=by
 intro args objs kk r h
 unfold sj at h
 split at h
 ·skip
  obtain ⟨hb,h⟩:=cond_some' h
  cases qb_eq hb
  exact fo1 (AH Z) func198 rfl (Nv Z) kr _ _ kk r ((Lf Z (bJ Z) _ _ _ _ _ _ kk).trans h)
 ·cases h
def jp (i:Nat):Option (List Nat):=Ev.look i [(9,[0,1,2,4,11,53,54]),(100000,[]),(200006,[11]),(200011,[0,11]),(200015,[0]),(400000,[12])]
def vs (d:aD) (a:ad) (e:al) (b:fB) (c:eL) (f:Nat):Option Ev.Spec:=Ev.look f [(129,gZ d),(143,cZ a),(195,fL e),(197,py b),(198,sj c)]
def zk (Z:Nat):Nat→Option Ev.Spec:=vs (aB Z) (aa Z) (ah Z) (dW Z) (ev Z)
abbrev sR:Type:=Int×Int×Int×Int×Int×Int×Int×Int×Int×Int×Int×Int×Bool×Bool×LI×(List (Int×Int))×LI×LI×Int×Int×LI
abbrev DF:Type:=(Int×Int×Int×Int×Int×Int×Int×Int×Int×Bool×Bool×LI×(List (Int×Int))×LI×LI→OA)×(Int×Int×Int×Int×Int×Int×Int×Int×Bool×Bool×LI×(List (Int×Int))×LI×LI→OA)
def yA (Z:Nat) (U:aD) (N:ad) (Q:al) (T:fB) (O:eL) (s d:Int) (t a:Int) (f u:Int) (v w:Int) (x y:Int) (h i:Int) (j k:Bool) (l:LI) (m:(List (Int×Int))) (n o:LI) (p q:Int) (r:LI) (c:sR→OA) (B:DF):OA:=match B with | (ret,b)=>bif decide (a < t) then (Q p q r (i64.wrap (i64.wrap (d*f)+a)) (fun S=>bif S then c (s,d,t,i64.wrap (a+1),f,u,v,w,x,y,h,i,j,k,l,m,n,o,p,q,r) else (O a d f u l m (fun (R,e,L,g,M)=>(N (i64.wrap (s+R)) v w x y h i j k n o (fun (P,C,D,E,F,G,H,I,J,K,z,A)=>bif C != 0 then ret (C,e,L,D,E,F,G,H,I,J,K,g,M,z,A) else bif decide (0≤i64.wrap (i64.wrap (d*e)+a)∧i64.wrap (i64.wrap (d*e)+a) < (↑g.length:Int)) then c (s,d,t,i64.wrap (a+1),e,L,D,E,F,G,H,I,J,K,g.set (i64.wrap (i64.wrap (d*e)+a)).toNat (u8.wrap P),M,z,A,p,q,r) else none)))))) else b (f,u,v,w,x,y,h,i,j,k,l,m,n,o)
def kJ (Z:Nat) (v:Int×Int×Int×Int×Int×Int×Int×Int×Int×Int×Int×Int×Bool×Bool×LI×(List (Int×Int))×LI×LI×Int×Int×LI) (c:(Int×Int×Int×Int×Int×Int×Int×Int×Int×Int×Int×Int×Bool×Bool×LI×(List (Int×Int))×LI×LI×Int×Int×LI)→OA) (B:(Int×Int×Int×Int×Int×Int×Int×Int×Int×Bool×Bool×LI×(List (Int×Int))×LI×LI→OA)×(Int×Int×Int×Int×Int×Int×Int×Int×Bool×Bool×LI×(List (Int×Int))×LI×LI→OA)):OA:=match v with | (m,n,o,p,q,r,s,t,u,w,a,b,d,e,f,g,h,i,j,k,l)=>yA Z (aB Z) (aa Z) (ah Z) (dW Z) (ev Z) m n o p q r s t u w a b d e f g h i j k l c B
def oM (Z:Nat) (v:sR) (ret:(Int×Int×Int×Int×Int×Int×Int×Int×Int×Bool×Bool×LI×(List (Int×Int))×LI×LI→OA)) (b:(Int×Int×Int×Int×Int×Int×Int×Int×Bool×Bool×LI×(List (Int×Int))×LI×LI→OA)):OA:=iter (kJ Z) Z v (ret,b)
def qB (v:sR):Ev.St:=match v with | (m,n,o,p,q,r,s,t,u,w,a,b,d,e,f,g,h,i,j,k,l)=>⟨[(0,.c (.ptr 0 0)),(1,.c (.ptr 1 0)),(2,.c (i6 m)),(4,.c (i6 n)),(11,.c (.ptr 6 0)),(53,.c (i6 o)),(54,.c (i6 p))],[(0,.cells 240 [i6 q,i6 r,.own 2,.own 3]),(1,.cells 147 (i6 s::.own 4::ctb (.int .u64 t::.int .u64 u::.own 5::i6 w::.int .u64 a::i6 b::.bool d::.bool e::[]))),(2,.vec 5 (.int .u8) f false),(3,.vec 22 (.pair ti ti) g false),(4,.vec 3 ti h false),(5,.vec 5 (.int .u8) i false),(6,.cells 29 [i6 j,i6 k,.sl (.int .u8) l])],7,6⟩
def tp (K:KT):DF:=((fun v=>match v with | (f,g,h,i,j,k,l,m,n,o,a,b,d,e,p)=>K .ret ⟨[(12,.c (i6 f))],[(0,.cells 240 [i6 g,i6 h,.own 2,.own 3]),(1,.cells 147 (i6 i::.own 4::ctb (.int .u64 j::.int .u64 k::.own 5::i6 l::.int .u64 m::i6 n::.bool o::.bool a::[]))),(2,.vec 5 (.int .u8) b false),(3,.vec 22 (.pair ti ti) d false),(4,.vec 3 ti e false),(5,.vec 5 (.int .u8) p false)],6,6⟩),(fun v=>match v with | (f,g,h,i,j,k,l,m,n,o,a,b,d,e)=>K .normal ⟨[],[(0,.cells 240 [i6 f,i6 g,.own 2,.own 3]),(1,.cells 147 (i6 h::.own 4::ctb (.int .u64 i::.int .u64 j::.own 5::i6 k::.int .u64 l::i6 m::.bool n::.bool o::[]))),(2,.vec 5 (.int .u8) a false),(3,.vec 22 (.pair ti ti) b false),(4,.vec 3 ti d false),(5,.vec 5 (.int .u8) e false)],6,6⟩))
theorem ES (Z:Nat) (d:aD) (a:ad) (e:al) (b:fB) (c:eL) (R:Ev.St→OA) (K:KT) (q r:Int) (s t:Int) (u w:Int) (x y:Int) (z A:Int) (f g:Int) (h i:Bool) (j:LI) (k:(List (Int×Int))) (l m:LI) (n o:Int) (p:LI):evalCode tab (vs d a e b c) J0 jp Z (bodyOf 0 Tryz.f184) (qB (q,r,s,t,u,w,x,y,z,A,f,g,h,i,j,k,l,m,n,o,p)) (lc jp 9 0 R K)=yA Z d a e b c q r s t u w x y z A f g h i j k l m n o p (fun v=>R (qB v)) (tp K):=by
 kernel_rfl
def oC (Z:Nat):Ev.Blk:=fun st K=>match canonO (jp 9) st with | some s=>(match s with | ⟨[(M,.c (.ptr N O)),(P,.c (.ptr Q R)),(S,.c (i6 T)),(U,.c (i6 V)),(W,.c (.ptr X a)),(b,.c (i6 Y)),(d,.c (i6 a0))],[(e,.cells f [i6 a1,i6 a2,.own g,.own h]),(i,.cells j k),(l,.vec m (.int .u8) n false),(o,.vec p (.pair ti ti) q false),(r,.vec t ti u false),(v,.vec w (.int .u8) x false),(y,.cells z [i6 A,i6 B,.sl (.int .u8) C])],D,E⟩=>(match splitRun 2 ctn k with | some ([i6 a3,.own F],[.int .u64 a4,.int .u64 a5,.own G,i6 a6,.int .u64 H,i6 I,.bool J,.bool L])=>bif qb [M,N,O,P,Q,R,S,U,W,X,a,b,d,e,f,g,h,i,j,l,m,o,p,r,t,v,w,y,z,D,E,F,G] [0,0,0,1,1,0,2,4,11,6,0,53,54,0,240,2,3,1,147,2,5,3,22,4,3,5,5,6,29,7,6,4,5] then iter (kJ Z) Z (T,V,Y,a0,a1,a2,a3,a4,a5,a6,H,I,J,L,n,q,u,x,A,B,C) (tp K) else none | _=>none) | _=>none) | none=>none
theorem GW (Z:Nat) (st:Ev.St) (K:KT) (r:Ans) (h:oC Z st K=some r):evalCode tab (zk Z) J0 jp Z (.block 0 (.loop (bodyOf 0 Tryz.f184))) st K=some r:=by
 unfold oC at h
 split at h
 ·rename_i s hs
  split at h
  ·skip
   split at h
   rotate_left 1
   ·cases h
   rename_i hsp
   have esp:=splitRun_eq hsp
   subst esp
   obtain ⟨hb,h⟩:=cond_some' h
   cases qb_eq hb
   exact blk_loop (S:=qB) (ks:=tp) (step:=kJ Z) (v:=(_,_,_,_,_,_,_,_,_,_,_,_,_,_,_,_,_,_,_,_,_)) kr kr (fun R K v=>by obtain ⟨m,n,o,p,q,t,u,w,x,y,a,b,c,d,e,f,g,i,j,k,l⟩:=v; exact ES Z (aB Z) (aa Z) (ah Z) (dW Z) (ev Z) R K m n o p q t u w x y a b c d e f g i j k l) hs h
  ·cases h
 ·cases h
def Gu (Z:Nat) (i:Nat):Option Ev.Blk:=Ev.look i [(100000,oC Z)]
def ut (Z:Nat) (b6:aD) (a6:ad) (c4:al) (w:fB) (c3:eL) (N b8:Int) (b9 c0:Int) (a5:Bool) (c1 a:Int) (t u:Int) (v:LI) (b p:Int) (U V:Int) (W X:Int) (Y a0:Int) (a1 a2:Bool) (e:LI) (q:(List (Int×Int))) (a3 a4:LI) (k0:(Int×Int×Int×Int×Int×Int×Int×Int×Int×Bool×Bool×LI×(List (Int×Int))×LI×LI)→OA):OA:=bif a5 then (b6 b8 b9 c0 a5 c1 (fun c2=>(a6 (i64.wrap (N+c2)) U V W X Y a0 a1 a2 a3 a4 (fun (b7,T,h,i,j,k,l,m,n,o,f,g)=>bif T != 0 then k0 (T,b,p,h,i,j,k,l,m,n,o,e,q,f,g) else bif b7==1 then both (both (bif decide (0≤Ev.loOf (some (i64.wrap (a*b)))∧Ev.loOf (some (i64.wrap (a*b)))≤Ev.hiOf Option.none (↑e.length:Int)∧Ev.hiOf Option.none (↑e.length:Int)≤(↑e.length:Int)) then (w a t u v b p e q (fun (a7,a8,O,a9,P)=>k0 ((0:Int),a7,a8,h,i,j,k,l,m,n,o,List.take (Ev.loOf (some (i64.wrap (a*b)))).toNat O++List.take (Ev.hiOf Option.none (↑e.length:Int) - Ev.loOf (some (i64.wrap (a*b)))).toNat P++List.drop ((Ev.loOf (some (i64.wrap (a*b)))).toNat+Min.min (Ev.hiOf Option.none (↑e.length:Int) - Ev.loOf (some (i64.wrap (a*b)))).toNat P.length) O,a9,f,g))) else none) ((w a t u v b p e q (fun (c,x,d,y,r)=>bif decide (0≤Ev.loOf (some (i64.wrap (a*c)))∧Ev.loOf (some (i64.wrap (a*c)))≤Ev.hiOf Option.none (↑d.length:Int)∧Ev.hiOf Option.none (↑d.length:Int)≤(↑d.length:Int)) then k0 ((0:Int),c,x,h,i,j,k,l,m,n,o,List.take (Ev.loOf (some (i64.wrap (a*c)))).toNat d++List.take (Ev.hiOf Option.none (↑d.length:Int) - Ev.loOf (some (i64.wrap (a*c)))).toNat r++List.drop ((Ev.loOf (some (i64.wrap (a*c)))).toNat+Min.min (Ev.hiOf Option.none (↑d.length:Int) - Ev.loOf (some (i64.wrap (a*c)))).toNat r.length) d,y,f,g) else none)))) (both (both (bif decide (0≤Ev.loOf (some (i64.wrap (a*b)))∧Ev.loOf (some (i64.wrap (a*b)))≤Ev.hiOf Option.none (↑e.length:Int)∧Ev.hiOf Option.none (↑e.length:Int)≤(↑e.length:Int)) then (w a t u v b p e q (fun (b0,b1,Q,b2,R)=>k0 ((0:Int),b0,b1,h,i,j,k,l,m,n,o,List.take (Ev.loOf (some (i64.wrap (a*b)))).toNat Q++List.take (Ev.hiOf Option.none (↑e.length:Int) - Ev.loOf (some (i64.wrap (a*b)))).toNat R++List.drop ((Ev.loOf (some (i64.wrap (a*b)))).toNat+Min.min (Ev.hiOf Option.none (↑e.length:Int) - Ev.loOf (some (i64.wrap (a*b)))).toNat R.length) Q,b2,f,g))) else none) ((w a t u v b p e q (fun (b3,b4,s,b5,S)=>bif decide (0≤Ev.loOf (some (i64.wrap (a*b)))∧Ev.loOf (some (i64.wrap (a*b)))≤Ev.hiOf Option.none (↑s.length:Int)∧Ev.hiOf Option.none (↑s.length:Int)≤(↑s.length:Int)) then k0 ((0:Int),b3,b4,h,i,j,k,l,m,n,o,List.take (Ev.loOf (some (i64.wrap (a*b)))).toNat s++List.take (Ev.hiOf Option.none (↑s.length:Int) - Ev.loOf (some (i64.wrap (a*b)))).toNat S++List.drop ((Ev.loOf (some (i64.wrap (a*b)))).toNat+Min.min (Ev.hiOf Option.none (↑s.length:Int) - Ev.loOf (some (i64.wrap (a*b)))).toNat S.length) s,b5,f,g) else none)))) ((w a t u v b p e q (fun (c,x,d,y,r)=>both (bif decide (0≤Ev.loOf (some (i64.wrap (a*c)))∧Ev.loOf (some (i64.wrap (a*c)))≤Ev.hiOf Option.none (↑d.length:Int)∧Ev.hiOf Option.none (↑d.length:Int)≤(↑d.length:Int)) then k0 ((0:Int),c,x,h,i,j,k,l,m,n,o,List.take (Ev.loOf (some (i64.wrap (a*c)))).toNat d++List.take (Ev.hiOf Option.none (↑d.length:Int) - Ev.loOf (some (i64.wrap (a*c)))).toNat r++List.drop ((Ev.loOf (some (i64.wrap (a*c)))).toNat+Min.min (Ev.hiOf Option.none (↑d.length:Int) - Ev.loOf (some (i64.wrap (a*c)))).toNat r.length) d,y,f,g) else none) (bif decide (0≤Ev.loOf (some (i64.wrap (a*c)))∧Ev.loOf (some (i64.wrap (a*c)))≤Ev.hiOf Option.none (↑d.length:Int)∧Ev.hiOf Option.none (↑d.length:Int)≤(↑d.length:Int)) then k0 ((0:Int),c,x,h,i,j,k,l,m,n,o,List.take (Ev.loOf (some (i64.wrap (a*c)))).toNat d++List.take (Ev.hiOf Option.none (↑d.length:Int) - Ev.loOf (some (i64.wrap (a*c)))).toNat r++List.drop ((Ev.loOf (some (i64.wrap (a*c)))).toNat+Min.min (Ev.hiOf Option.none (↑d.length:Int) - Ev.loOf (some (i64.wrap (a*c)))).toNat r.length) d,y,f,g) else none))))) else (oM Z (N,a,b,0,b,p,h,i,j,k,l,m,n,o,e,q,f,g,t,u,v) (fun (ret0_0,ret0_1,ret0_2,ret0_3,ret0_4,ret0_5,ret0_6,ret0_7,ret0_8,ret0_9,ret0_10,ret0_11,ret0_12,ret0_13,ret0_14)=>k0 (ret0_0,ret0_1,ret0_2,ret0_3,ret0_4,ret0_5,ret0_6,ret0_7,ret0_8,ret0_9,ret0_10,ret0_11,ret0_12,ret0_13,ret0_14)) (fun (D,E,F,G,H,I,J,K,L,M,z,A,B,C)=>k0 (0,D,E,F,G,H,I,J,K,L,M,z,A,B,C))))))) else (oM Z (N,a,b,0,b,p,U,V,W,X,Y,a0,a1,a2,e,q,a3,a4,t,u,v) (fun (ret0_0,ret0_1,ret0_2,ret0_3,ret0_4,ret0_5,ret0_6,ret0_7,ret0_8,ret0_9,ret0_10,ret0_11,ret0_12,ret0_13,ret0_14)=>k0 (ret0_0,ret0_1,ret0_2,ret0_3,ret0_4,ret0_5,ret0_6,ret0_7,ret0_8,ret0_9,ret0_10,ret0_11,ret0_12,ret0_13,ret0_14)) (fun (D,E,F,G,H,I,J,K,L,M,z,A,B,C)=>k0 (0,D,E,F,G,H,I,J,K,L,M,z,A,B,C)))
abbrev fv:Type:=Int→Int→Int→Int→Bool→Int→Int→Int→Int→LI→Int→Int→Int→Int→Int→Int→Int→Int→Bool→Bool→LI→((List (Int×Int)))→LI→LI→((Int×Int×Int×Int×Int×Int×Int×Int×Int×Bool×Bool×LI×(List (Int×Int))×LI×LI)→OA)→OA
def eG (Z:Nat):fv:=ut Z (aB Z) (aa Z) (ah Z) (dW Z) (ev Z)
theorem OM (Z:Nat) (e:aD) (a:ad) (f:al) (b:fB) (d:eL) (w x:Int) (y z:Int) (A:Bool) (B C:Int) (D E:Int) (F:LI) (g h:Int) (i j:Int) (l m:Int) (n o:Int) (p q:Bool) (s:LI) (t:(List (Int×Int))) (u v:LI) (k:Ev.Cont):evalFn tab (vs e a f b d) (Gu Z) jp Z Tryz.f184 [.c (.ptr 0 0),.c (.ptr 1 0),.c (i6 w),.agg [i6 x,i6 y,i6 z,.bool A,i6 B],.c (i6 C),.agg [i6 D,i6 E,.sl (.int .u8) F]] [.cells 240 [i6 g,i6 h,.own 2,.own 3],.cells 147 (i6 i::.own 4::ctb (.int .u64 j::.int .u64 l::.own 5::i6 m::.int .u64 n::i6 o::.bool p::.bool q::[])),.vec 5 (.int .u8) s false,.vec 22 (.pair ti ti) t false,.vec 3 ti u false,.vec 5 (.int .u8) v false] k=ut Z e a f b d w x y z A B C D E F g h i j l m n o p q s t u v (fun r=>match r with | (L,M,N,O,P,Q,R,S,T,U,G,H,I,J,K)=>k (.c (i6 L),[.cells 240 [i6 M,i6 N,.own 2,.own 3],.cells 147 (i6 O::.own 4::ctb (.int .u64 P::.int .u64 Q::.own 5::i6 R::.int .u64 S::i6 T::.bool U::.bool G::[])),.vec 5 (.int .u8) H false,.vec 22 (.pair ti ti) I false,.vec 3 ti J false,.vec 5 (.int .u8) K false])):=by
 kernel_rfl
theorem Bz (Z:Nat):GOK prog (zk Z):=
 gc (mR Z) func129 kr rfl <|
 gc (dk Z) func143 kr rfl <|
 gc (jL Z) func195 kr rfl <|
 gc (M0 Z) func197 kr rfl <|
 gc (OX Z) func198 kr rfl <|
 gok_nil
theorem PU (Z:Nat):BlkOK prog Tryz.f184.ntmps (.block 0 (.loop (bodyOf 0 Tryz.f184))) (oC Z):=bo0 (Bz Z) kr kr (GW Z)
def yJ (F:fv):Ev.Spec:=fun args objs k=>match args,objs with | [.c (.ptr B C),.c (.ptr D E),.c (i6 G),.agg [i6 H,i6 I,i6 J,.bool K,i6 L],.c (i6 M),.agg [i6 N,i6 O,.sl (.int .u8) P]],[.cells Q [i6 a,i6 b,.own R,.own S],.cells T d,.vec U (.int .u8) e false,.vec V (.pair ti ti) f false,.vec g ti h false,.vec i (.int .u8) j false]=>(match splitRun 2 ctn d with | some ([i6 l,.own m],[.int .u64 n,.int .u64 o,.own p,i6 q,.int .u64 s,i6 t,.bool u,.bool v])=>bif qb [B,C,D,E,Q,R,S,T,U,V,g,i,m,p] [0,0,1,0,240,2,3,147,5,22,3,5,4,5] then F G H I J K L M N O P a b l n o q s t u v e f h j (fun r=>match r with | (W,X,Y,a0,a1,a2,a3,a4,a5,a6,w,x,y,z,A)=>k (.c (i6 W),[.cells 240 [i6 X,i6 Y,.own 2,.own 3],.cells 147 (i6 a0::.own 4::ctb (.int .u64 a1::.int .u64 a2::.own 5::i6 a3::.int .u64 a4::i6 a5::.bool a6::.bool w::[])),.vec 5 (.int .u8) x false,.vec 22 (.pair ti ti) y false,.vec 3 ti z false,.vec 5 (.int .u8) A false])) else none | _=>none) | _,_=>none
theorem Fo (Z:Nat):FnOK prog 184 (yJ (eG Z)):=by
 intro args objs kk r h
 unfold yJ at h
 split at h
 ·skip
  split at h
  rotate_left 1
  ·cases h
  rename_i hsp
  have esp:=splitRun_eq hsp
  subst esp
  obtain ⟨hb,h⟩:=cond_some' h
  cases qb_eq hb
  exact fo1 (Bz Z) func184 rfl (PU Z) kr _ _ kk r ((OM Z (aB Z) (aa Z) (ah Z) (dW Z) (ev Z) _ _ _ _ _ _ _ _ _ _ _ _ _ _ _ _ _ _ _ _ _ _ _ _ kk).trans h)
 ·cases h
def Id (i:Nat):Option (List Nat):=Ev.look i []
def OL (f:Nat):Option Ev.Spec:=Ev.look f []
def AR (Z:Nat):Nat→Option Ev.Spec:=OL
def aR (Z:Nat) (a b:Int) (e:LI) (c d:Int) (k0:(Bool)→OA):OA:=bif a==0 then bif b==0 then k0 true else bif a==c then k0 (b==d) else k0 false else bif a==c then k0 (b==d) else k0 false
abbrev bF:Type:=Int→Int→LI→Int→Int→(Bool→OA)→OA
theorem JN (Z:Nat) (a b:Int) (d:LI) (e f:Int) (k:Ev.Cont):evalFn tab (AR Z) J0 Id Z Tryz.f170 [.agg [i6 a,i6 b,.sl (.int .u8) d],.c (i6 e),.c (i6 f)] [] k=aR Z a b d e f (fun r=>match r with | g=>k (.c (.bool g),[])):=by
 kernel_rfl
theorem JJ (Z:Nat):GOK prog (AR Z):=
 gok_nil
def jg (F:bF):Ev.Spec:=fun args objs k=>match args,objs with | [.agg [i6 a,i6 b,.sl (.int .u8) d],.c (i6 e),.c (i6 f)],[]=>F a b d e f (fun r=>match r with | g=>k (.c (.bool g),[])) | _,_=>none
theorem yo (Z:Nat):FnOK prog 170 (jg (aR Z)):=by
 intro args objs kk r h
 unfold jg at h
 split at h
 ·skip
  exact fo0 (JJ Z) func170 rfl kr _ _ kk r ((JN Z _ _ _ _ _ kk).trans h)
 ·cases h
def iZ (i:Nat):Option (List Nat):=Ev.look i [(13,[0,1,3,4,8,11,12,18,66,67]),(100000,[3,4,12,18]),(200009,[8,11]),(400000,[12,13]),(600000,[])]
def sU (c:ao) (j:aq) (d:bk) (a:ad) (e:bF) (g:cH) (h:ca) (i:bG) (b:fv) (f:Nat):Option Ev.Spec:=Ev.look f [(40,fT c),(90,fC j),(128,gB d),(143,cZ a),(170,jg e),(171,nb g),(182,lT h),(183,mp i),(184,yJ b)]
def zv (Z:Nat):Nat→Option Ev.Spec:=sU (ak Z) (aj Z) (aN Z) (aa Z) (aR Z) (cr Z) (aX Z) (bm Z) (eG Z)
abbrev rX:Type:=Int×Int×Int×Int×Int×Int×Int×Int×Int×Int×Int×Bool×Bool×LI×LI×Int×Int×Int×Bool×Int×Int×Int×LI×Int×Int×Int×Int×LI×LI×(List (Int×Int))
abbrev C8:Type:=(Int×Int×Int×Int×Int×Int×Int×Bool×Bool×LI×LI×Int×Int×LI→OA)×(Int×Int×Int×Int×Int×Int×Int×Int×Bool×Bool×LI×LI×Int×Int×Int×Int×LI×LI×(List (Int×Int))→OA)
def wP (Z:Nat) (Y:ao) (a5:aq) (a0:bk) (X:ad) (a1:bF) (a2:cH) (a3:ca) (a4:bG) (S:fv) (J K:Int) (L M:Int) (a N:Int) (O P:Int) (Q R o:Int) (p q:Bool) (r s:LI) (t u v:Int) (w:Bool) (x y z:Int) (A:LI) (C D:Int) (E F:Int) (G H:LI) (I:(List (Int×Int))) (c:rX→OA) (B:C8):OA:=match B with | (ret,b)=>bif decide (a < M) then (S J t u v w x a y z A E F N O P Q R o p q H I r s (fun (g,V,W,h,i,j,k,l,m,n,d,T,U,e,f)=>bif g != 0 then ret (g,h,i,j,k,l,m,n,d,e,f,0,0,[]) else c (J,K,L,M,i64.wrap (a+1),h,i,j,k,l,m,n,d,e,f,t,u,v,w,x,y,z,A,C,D,V,W,G,T,U))) else b (K,L,N,O,P,Q,R,o,p,q,r,s,C,D,E,F,G,H,I)
def jV (Z:Nat) (v:Int×Int×Int×Int×Int×Int×Int×Int×Int×Int×Int×Bool×Bool×LI×LI×Int×Int×Int×Bool×Int×Int×Int×LI×Int×Int×Int×Int×LI×LI×(List (Int×Int))) (c:(Int×Int×Int×Int×Int×Int×Int×Int×Int×Int×Int×Bool×Bool×LI×LI×Int×Int×Int×Bool×Int×Int×Int×LI×Int×Int×Int×Int×LI×LI×(List (Int×Int)))→OA) (B:(Int×Int×Int×Int×Int×Int×Int×Bool×Bool×LI×LI×Int×Int×LI→OA)×(Int×Int×Int×Int×Int×Int×Int×Int×Bool×Bool×LI×LI×Int×Int×Int×Int×LI×LI×(List (Int×Int))→OA)):OA:=match v with | (w,x,y,z,A,C,D,E,F,G,a,b,d,e,f,g,h,i,j,k,l,m,n,o,p,q,r,s,t,u)=>wP Z (ak Z) (aj Z) (aN Z) (aa Z) (aR Z) (cr Z) (aX Z) (bm Z) (eG Z) w x y z A C D E F G a b d e f g h i j k l m n o p q r s t u c B
def DC (Z:Nat) (v:rX) (ret:(Int×Int×Int×Int×Int×Int×Int×Bool×Bool×LI×LI×Int×Int×LI→OA)) (b:(Int×Int×Int×Int×Int×Int×Int×Int×Bool×Bool×LI×LI×Int×Int×Int×Int×LI×LI×(List (Int×Int))→OA)):OA:=iter (jV Z) Z v (ret,b)
def rg (v:rX):Ev.St:=match v with | (w,x,y,z,A,B,C,D,E,F,a,b,d,e,f,g,h,i,j,k,l,m,n,o,p,q,r,s,t,u)=>⟨[(0,.c (.ptr 0 0)),(1,.c (i6 w)),(3,.c (i6 x)),(4,.c (i6 y)),(8,.c (.ptr 3 0)),(11,.c (.ptr 4 0)),(12,.c (.ptr 5 0)),(18,.c (.ptr 6 0)),(66,.c (i6 z)),(67,.c (i6 A))],[(0,.cells 147 (i6 B::.own 1::ctb (.int .u64 C::.int .u64 D::.own 2::i6 E::.int .u64 F::i6 a::.bool b::.bool d::[]))),(1,.vec 3 ti e false),(2,.vec 5 (.int .u8) f false),(3,.cells 24 [i6 g,i6 h,i6 i,.bool j,i6 k]),(4,.cells 29 [i6 l,i6 m,.sl (.int .u8) n]),(5,.cells 29 [i6 o,i6 p,.own 7]),(6,.cells 240 [i6 q,i6 r,.own 8,.own 9]),(7,.vec 5 (.int .u8) s true),(8,.vec 5 (.int .u8) t true),(9,.vec 22 (.pair ti ti) u true)],10,3⟩
def uY (K:KT):C8:=((fun v=>match v with | (f,g,h,i,j,k,l,m,n,o,a,b,d,e)=>K .ret ⟨[(12,.c (.ptr 3 0)),(13,.c (i6 f))],[(0,.cells 147 (i6 g::.own 1::ctb (.int .u64 h::.int .u64 i::.own 2::i6 j::.int .u64 k::i6 l::.bool m::.bool n::[]))),(1,.vec 3 ti o false),(2,.vec 5 (.int .u8) a false),(3,.cells 29 [i6 b,i6 d,.own 4]),(4,.vec 5 (.int .u8) e true)],5,3⟩),(fun v=>match v with | (f,g,h,i,j,k,l,m,n,o,a,b,d,e,p,q,r,s,t)=>K .normal ⟨[(3,.c (i6 f)),(4,.c (i6 g)),(12,.c (.ptr 3 0)),(18,.c (.ptr 4 0))],[(0,.cells 147 (i6 h::.own 1::ctb (.int .u64 i::.int .u64 j::.own 2::i6 k::.int .u64 l::i6 m::.bool n::.bool o::[]))),(1,.vec 3 ti a false),(2,.vec 5 (.int .u8) b false),(3,.cells 29 [i6 d,i6 e,.own 5]),(4,.cells 240 [i6 p,i6 q,.own 6,.own 7]),(5,.vec 5 (.int .u8) r true),(6,.vec 5 (.int .u8) s true),(7,.vec 22 (.pair ti ti) t true)],8,3⟩))
theorem LA (Z:Nat) (c:ao) (i:aq) (d:bk) (a:ad) (e:bF) (f:cH) (g:ca) (h:bG) (b:fv) (R:Ev.St→OA) (K:KT) (E F:Int) (G H:Int) (I J:Int) (L M:Int) (N O j:Int) (k l:Bool) (m n:LI) (o p q:Int) (r:Bool) (s t u:Int) (w:LI) (x y:Int) (z A:Int) (B C:LI) (D:(List (Int×Int))):evalCode tab (sU c i d a e f g h b) J0 iZ Z (bodyOf 0 Tryz.f144) (rg (E,F,G,H,I,J,L,M,N,O,j,k,l,m,n,o,p,q,r,s,t,u,w,x,y,z,A,B,C,D)) (lc iZ 13 0 R K)=wP Z c i d a e f g h b E F G H I J L M N O j k l m n o p q r s t u w x y z A B C D (fun v=>R (rg v)) (uY K):=by
 kernel_rfl
def mO (Z:Nat):Ev.Blk:=fun st K=>match canonO (iZ 13) st with | some s=>(match s with | ⟨[(b0,.c (.ptr b1 b2)),(b3,.c (i6 b4)),(b5,.c (i6 b6)),(b7,.c (i6 b8)),(b9,.c (.ptr c0 c1)),(c2,.c (.ptr a b)),(d,.c (.ptr e f)),(g,.c (.ptr h i)),(j,.c (i6 c3)),(k,.c (i6 c4))],[(l,.cells m n),(o,.vec p ti q false),(r,.vec t (.int .u8) u false),(v,.cells w [i6 x,i6 y,i6 z,.bool A,i6 B]),(C,.cells D [i6 E,i6 F,.sl (.int .u8) G]),(H,.cells I [i6 J,i6 L,.own M]),(N,.cells O [i6 P,i6 Q,.own R,.own S]),(T,.vec U (.int .u8) V true),(W,.vec X (.int .u8) Y true),(a0,.vec a1 (.pair ti ti) a2 true)],a3,a4⟩=>(match splitRun 2 ctn n with | some ([i6 c5,.own a5],[.int .u64 c6,.int .u64 c7,.own a6,i6 c8,.int .u64 c9,i6 a7,.bool a8,.bool a9])=>bif qb [b0,b1,b2,b3,b5,b7,b9,c0,c1,c2,a,b,d,e,f,g,h,i,j,k,l,m,o,p,r,t,v,w,C,D,H,I,M,N,O,R,S,T,U,W,X,a0,a1,a3,a4,a5,a6] [0,0,0,1,3,4,8,3,0,11,4,0,12,5,0,18,6,0,66,67,0,147,1,3,2,5,3,24,4,29,5,29,7,6,240,8,9,7,5,8,5,9,22,10,3,1,2] then iter (jV Z) Z (b4,b6,b8,c3,c4,c5,c6,c7,c8,c9,a7,a8,a9,q,u,x,y,z,A,B,E,F,G,J,L,P,Q,V,Y,a2) (uY K) else none | _=>none) | _=>none) | none=>none
theorem Ni (Z:Nat) (st:Ev.St) (K:KT) (r:Ans) (h:mO Z st K=some r):evalCode tab (zv Z) J0 iZ Z (.block 0 (.loop (bodyOf 0 Tryz.f144))) st K=some r:=by
 unfold mO at h
 split at h
 ·rename_i s hs
  split at h
  ·skip
   split at h
   rotate_left 1
   ·cases h
   rename_i hsp
   have esp:=splitRun_eq hsp
   subst esp
   obtain ⟨hb,h⟩:=cond_some' h
   cases qb_eq hb
   exact blk_loop (S:=rg) (ks:=uY) (step:=jV Z) (v:=(_,_,_,_,_,_,_,_,_,_,_,_,_,_,_,_,_,_,_,_,_,_,_,_,_,_,_,_,_,_)) kr kr (fun R K v=>by obtain ⟨y,z,A,B,C,D,E,F,G,H,a,b,c,d,e,f,g,i,j,k,l,m,n,o,p,q,t,u,w,x⟩:=v; exact LA Z (ak Z) (aj Z) (aN Z) (aa Z) (aR Z) (cr Z) (aX Z) (bm Z) (eG Z) R K y z A B C D E F G H a b c d e f g i j k l m n o p q t u w x) hs h
  ·cases h
 ·cases h
def Mq (Z:Nat) (i:Nat):Option Ev.Blk:=Ev.look i [(100000,mO Z)]
def pL (Z:Nat) (H:ao) (a8:aq) (S:bk) (G:ad) (T:bF) (U:cH) (V:ca) (W:bG) (c3:fv) (F l:Int) (m n:Int) (o:Bool) (p q:Int) (k s t:Int) (r:LI) (a9 b0:Int) (b1 b2:Int) (b3 b4:Int) (b5 b6:Bool) (b7 b8:LI) (k0:(Int×Int×LI×Int×Int×Int×Int×Int×Int×Int×Bool×Bool×LI×LI)→OA):OA:=(G ((-1:Int)) a9 b0 b1 b2 b3 b4 b5 b6 b7 b8 (fun (d3,E,c,d,e,f,g,h,i,j,a,b)=>bif E==7 then k0 (0,0,[],E,c,d,e,f,g,h,i,j,a,b) else (S l m n o p (fun c2=>bif !c2 then k0 (0,0,[],2,c,d,e,f,g,h,i,j,a,b) else (V q k (0) (fun (c4,c5,J,c6)=>bif J != 0 then k0 (0,0,[],30,c,d,e,f,g,h,i,j,a,b) else (a8 s t r (fun b9=>bif !b9 then k0 (0,0,[],30,c,d,e,f,g,h,i,j,a,b) else (T s t r q k (fun c0=>bif !c0 then k0 (0,0,[],2,c,d,e,f,g,h,i,j,a,b) else (H c d e f g h i j a b (fun (K,v,w,x,y,z,A,B,C,D,u,I)=>(U K I F l m n o p (fun c1=>bif !c1 then k0 (0,0,[],2,v,w,x,y,z,A,B,C,D,u) else (W l m n o p q k (fun (L,M,N,O)=>(DC Z (F,q,k,k,0,v,w,x,y,z,A,B,C,D,u,l,m,n,o,p,s,t,r,0,0,L,M,[],N,O) (fun (ret0_0,ret0_1,ret0_2,ret0_3,ret0_4,ret0_5,ret0_6,ret0_7,ret0_8,ret0_9,ret0_10,ret0_11,ret0_12,ret0_13)=>k0 (ret0_11,ret0_12,ret0_13,ret0_0,ret0_1,ret0_2,ret0_3,ret0_4,ret0_5,ret0_6,ret0_7,ret0_8,ret0_9,ret0_10)) (fun (X,Y,a0,a1,a2,a3,a4,a5,a6,a7,P,Q,c7,c8,c9,d0,d1,R,d2)=>k0 (X,Y,R,0,a0,a1,a2,a3,a4,a5,a6,a7,P,Q)))))))))))))))))))
abbrev lx:Type:=Int→Int→Int→Int→Bool→Int→Int→Int→Int→Int→LI→Int→Int→Int→Int→Int→Int→Bool→Bool→LI→LI→((Int×Int×LI×Int×Int×Int×Int×Int×Int×Int×Bool×Bool×LI×LI)→OA)→OA
def fJ (Z:Nat):lx:=pL Z (ak Z) (aj Z) (aN Z) (aa Z) (aR Z) (cr Z) (aX Z) (bm Z) (eG Z)
theorem E9 (Z:Nat) (d:ao) (j:aq) (e:bk) (a:ad) (f:bF) (g:cH) (h:ca) (i:bG) (b:fv) (x y:Int) (z A:Int) (B:Bool) (C D:Int) (E F G:Int) (l:LI) (m n:Int) (o p:Int) (q s:Int) (t u:Bool) (v w:LI) (k:Ev.Cont):evalFn tab (sU d j e a f g h i b) (Mq Z) iZ Z Tryz.f144 [.c (.ptr 0 0),.c (i6 x),.agg [i6 y,i6 z,i6 A,.bool B,i6 C],.c (i6 D),.c (i6 E),.agg [i6 F,i6 G,.sl (.int .u8) l]] [.cells 147 (i6 m::.own 1::ctb (.int .u64 n::.int .u64 o::.own 2::i6 p::.int .u64 q::i6 s::.bool t::.bool u::[])),.vec 3 ti v false,.vec 5 (.int .u8) w false] k=pL Z d j e a f g h i b x y z A B C D E F G l m n o p q s t u v w (fun r=>match r with | (L,M,N,O,P,Q,R,S,T,U,H,I,J,K)=>k (.tup [(true,[i6 L,i6 M,.sl (.int .u8) N]),(false,[i6 O])],[.cells 147 (i6 P::.own 1::ctb (.int .u64 Q::.int .u64 R::.own 2::i6 S::.int .u64 T::i6 U::.bool H::.bool I::[])),.vec 3 ti J false,.vec 5 (.int .u8) K false])):=by
 kernel_rfl
theorem DG (Z:Nat):GOK prog (zv Z):=
 gc (iz Z) func40 kr rfl <|
 gc (kT Z) func90 kr rfl <|
 gc (mL Z) func128 kr rfl <|
 gc (dk Z) func143 kr rfl <|
 gc (yo Z) func170 kr rfl <|
 gc (Cr Z) func171 kr rfl <|
 gc (BU Z) func182 kr rfl <|
 gc (zD Z) func183 kr rfl <|
 gc (Fo Z) func184 kr rfl <|
 gok_nil
theorem Py (Z:Nat):BlkOK prog Tryz.f144.ntmps (.block 0 (.loop (bodyOf 0 Tryz.f144))) (mO Z):=bo0 (DG Z) kr kr (Ni Z)
def uA (F:lx):Ev.Spec:=fun args objs k=>match args,objs with | [.c (.ptr t u),.c (i6 v),.agg [i6 w,i6 x,i6 y,.bool z,i6 A],.c (i6 B),.c (i6 C),.agg [i6 D,i6 E,.sl (.int .u8) a]],[.cells G b,.vec H ti d false,.vec I (.int .u8) e false]=>(match splitRun 2 ctn b with | some ([i6 f,.own J],[.int .u64 g,.int .u64 h,.own K,i6 i,.int .u64 j,i6 l,.bool m,.bool n])=>bif qb [t,u,G,H,I,J,K] [0,0,147,3,5,1,2] then F v w x y z A B C D E a f g h i j l m n d e (fun r=>match r with | (L,M,N,O,P,Q,R,S,T,U,o,p,q,s)=>k (.tup [(true,[i6 L,i6 M,.sl (.int .u8) N]),(false,[i6 O])],[.cells 147 (i6 P::.own 1::ctb (.int .u64 Q::.int .u64 R::.own 2::i6 S::.int .u64 T::i6 U::.bool o::.bool p::[])),.vec 3 ti q false,.vec 5 (.int .u8) s false])) else none | _=>none) | _,_=>none
theorem Mk (Z:Nat):FnOK prog 144 (uA (fJ Z)):=by
 intro args objs kk r h
 unfold uA at h
 split at h
 ·skip
  split at h
  rotate_left 1
  ·cases h
  rename_i hsp
  have esp:=splitRun_eq hsp
  subst esp
  obtain ⟨hb,h⟩:=cond_some' h
  cases qb_eq hb
  exact fo1 (DG Z) func144 rfl (Py Z) kr _ _ kk r ((E9 Z (ak Z) (aj Z) (aN Z) (aa Z) (aR Z) (cr Z) (aX Z) (bm Z) (eG Z) _ _ _ _ _ _ _ _ _ _ _ _ _ _ _ _ _ _ _ _ _ kk).trans h)
 ·cases h
def JH (i:Nat):Option (List Nat):=Ev.look i []
def Pr (f:Nat):Option Ev.Spec:=Ev.look f []
def zj (Z:Nat):Nat→Option Ev.Spec:=Pr
def aY (Z:Nat) (d a b:Int) (e:Bool) (c:Int) (k0:(Bool)→OA):OA:=bif d==0 then bif c==0 then bif decide ((bif decide (b < a) then b else a)≥(-200:Int)) then k0 (decide (Ev.imax (Ev.imax (Ev.imax a (i64.wrap (0 - a))) b) (i64.wrap (0 - b))≤200)) else k0 false else bif c==1 then bif decide ((bif decide (b < a) then b else a)≥(-200:Int)) then k0 (decide (Ev.imax (Ev.imax (Ev.imax a (i64.wrap (0 - a))) b) (i64.wrap (0 - b))≤200)) else k0 false else k0 false else bif d==1 then bif c==0 then bif decide ((bif decide (b < a) then b else a)≥(-200:Int)) then k0 (decide (Ev.imax (Ev.imax (Ev.imax a (i64.wrap (0 - a))) b) (i64.wrap (0 - b))≤200)) else k0 false else bif c==1 then bif decide ((bif decide (b < a) then b else a)≥(-200:Int)) then k0 (decide (Ev.imax (Ev.imax (Ev.imax a (i64.wrap (0 - a))) b) (i64.wrap (0 - b))≤200)) else k0 false else k0 false else k0 false
abbrev ce:Type:=Int→Int→Int→Bool→Int→(Bool→OA)→OA
theorem IE (Z:Nat) (a b d:Int) (e:Bool) (f:Int) (k:Ev.Cont):evalFn tab (zj Z) J0 JH Z Tryz.f173 [.agg [i6 a,i6 b,i6 d,.bool e,i6 f]] [] k=aY Z a b d e f (fun r=>match r with | g=>k (.c (.bool g),[])):=by
 kernel_rfl
theorem Ht (Z:Nat):GOK prog (zj Z):=
 gok_nil
def mK (F:ce):Ev.Spec:=fun args objs k=>match args,objs with | [.agg [i6 a,i6 b,i6 d,.bool e,i6 f]],[]=>F a b d e f (fun r=>match r with | g=>k (.c (.bool g),[])) | _,_=>none
theorem BP (Z:Nat):FnOK prog 173 (mK (aY Z)):=by
 intro args objs kk r h
 unfold mK at h
 split at h
 ·skip
  exact fo0 (Ht Z) func173 rfl kr _ _ kk r ((IE Z _ _ _ _ _ kk).trans h)
 ·cases h
def FB (i:Nat):Option (List Nat):=Ev.look i [(200001,[3,5])]
def Ao (a:aE) (f:Nat):Option Ev.Spec:=Ev.look f [(130,go a)]
def O6 (Z:Nat):Nat→Option Ev.Spec:=Ao (az Z)
def mj (Z:Nat) (b:aE) (f:Int) (c:LI) (a d:Int) (g h:Int) (i:Bool) (j:Int) (k0:(Bool)→OA):OA:=bif decide (a≥0) then (b d (fun e=>k0 (decide (a≤i64.wrap (i64.wrap ((↑c.length:Int) - e) - 1))))) else k0 false
abbrev bO:Type:=Int→LI→Int→Int→Int→Int→Bool→Int→(Bool→OA)→OA
def be (Z:Nat):bO:=mj Z (az Z)
theorem LT (Z:Nat) (a:aE) (b:Int) (d:LI) (e f:Int) (g h:Int) (i:Bool) (j:Int) (k:Ev.Cont):evalFn tab (Ao a) J0 FB Z Tryz.f174 [.agg [i6 b,.sl ti d],.c (i6 e),.agg [i6 f,i6 g,i6 h,.bool i,i6 j]] [] k=mj Z a b d e f g h i j (fun r=>match r with | l=>k (.c (.bool l),[])):=by
 kernel_rfl
theorem My (Z:Nat):GOK prog (O6 Z):=
 gc (lh Z) func130 kr rfl <|
 gok_nil
def mw (F:bO):Ev.Spec:=fun args objs k=>match args,objs with | [.agg [i6 a,.sl ti b],.c (i6 d),.agg [i6 e,i6 f,i6 g,.bool h,i6 i]],[]=>F a b d e f g h i (fun r=>match r with | j=>k (.c (.bool j),[])) | _,_=>none
theorem AL (Z:Nat):FnOK prog 174 (mw (be Z)):=by
 intro args objs kk r h
 unfold mw at h
 split at h
 ·skip
  exact fo0 (My Z) func174 rfl kr _ _ kk r ((LT Z (az Z) _ _ _ _ _ _ _ _ kk).trans h)
 ·cases h
def NE (i:Nat):Option (List Nat):=Ev.look i []
def M2 (f:Nat):Option Ev.Spec:=Ev.look f []
def Am (Z:Nat):Nat→Option Ev.Spec:=M2
def dX (Z:Nat) (b c d:Int) (e:Bool) (f g:Int) (h i j:Int) (k a:LI) (k0:(LI×Int×Int×Int×Bool×Int×Int×Int×Int×Int×LI)→OA):OA:=k0 (a,b,c,d,e,f,g,h,i,j,k)
abbrev iI:Type:=Int→Int→Int→Bool→Int→Int→Int→Int→Int→LI→LI→((LI×Int×Int×Int×Bool×Int×Int×Int×Int×Int×LI)→OA)→OA
theorem Fg (Z:Nat) (b d e:Int) (f:Bool) (g h:Int) (i j l:Int) (m a:LI) (k:Ev.Cont):evalFn tab (Am Z) J0 NE Z Tryz.f175 [.agg [i6 b,i6 d,i6 e,.bool f,i6 g],.c (i6 h),.c (i6 i),.c (.own 0),.agg [i6 j,i6 l,.sl (.int .u8) m]] [.vec 5 (.int .u8) a false] k=dX Z b d e f g h i j l m a (fun r=>match r with | (o,p,q,s,t,u,v,w,x,y,n)=>k (.c (.ptr 1 0),[.vec 5 (.int .u8) o false,.cells 230 [i6 p,i6 q,i6 s,.bool t,i6 u,i6 v,i6 w,.own 0,i6 x,i6 y,.sl (.int .u8) n]])):=by
 kernel_rfl
theorem Gg (Z:Nat):GOK prog (Am Z):=
 gok_nil
def wC (F:iI):Ev.Spec:=fun args objs k=>match args,objs with | [.agg [i6 d,i6 e,i6 f,.bool g,i6 h],.c (i6 i),.c (i6 j),.c (.own l),.agg [i6 m,i6 n,.sl (.int .u8) o]],[.vec p (.int .u8) a false]=>bif qb [l,p] [0,5] then F d e f g h i j m n o a (fun r=>match r with | (q,s,t,u,v,w,x,y,z,A,b)=>k (.c (.ptr 1 0),[.vec 5 (.int .u8) q false,.cells 230 [i6 s,i6 t,i6 u,.bool v,i6 w,i6 x,i6 y,.own 0,i6 z,i6 A,.sl (.int .u8) b]])) else none | _,_=>none
theorem It (Z:Nat):FnOK prog 175 (wC (dX Z)):=by
 intro args objs kk r h
 unfold wC at h
 split at h
 ·skip
  obtain ⟨hb,h⟩:=cond_some' h
  cases qb_eq hb
  exact fo0 (Gg Z) func175 rfl kr _ _ kk r ((Fg Z _ _ _ _ _ _ _ _ _ _ _ kk).trans h)
 ·cases h
def IK (i:Nat):Option (List Nat):=Ev.look i []
def Mf (f:Nat):Option Ev.Spec:=Ev.look f []
def Ct (Z:Nat):Nat→Option Ev.Spec:=Mf
def aI (Z:Nat)  (k0:((List (Int×Int)))→OA):OA:=k0 ([(0,0),((-1:Int),0),(1,0),(0,(-1:Int)),(0,1)])
abbrev br:Type:=(((List (Int×Int)))→OA)→OA
theorem Gh (Z:Nat)  (k:Ev.Cont):evalFn tab (Ct Z) J0 IK Z Tryz.f199 [] [] k=aI Z  (fun r=>match r with | a=>k (.c (.own 0),[.vec 22 (.pair ti ti) a true])):=by
 kernel_rfl
theorem LD (Z:Nat):GOK prog (Ct Z):=
 gok_nil
def ow (F:br):Ev.Spec:=fun args objs k=>match args,objs with | [],[]=>F  (fun r=>match r with | a=>k (.c (.own 0),[.vec 22 (.pair ti ti) a true])) | _,_=>none
theorem DA (Z:Nat):FnOK prog 199 (ow (aI Z)):=by
 intro args objs kk r h
 unfold ow at h
 split at h
 ·skip
  exact fo0 (LD Z) func199 rfl kr _ _ kk r ((Gh Z kk).trans h)
 ·cases h
def HT (i:Nat):Option (List Nat):=Ev.look i []
def KX (f:Nat):Option Ev.Spec:=Ev.look f []
def As (Z:Nat):Nat→Option Ev.Spec:=KX
def ac (Z:Nat) (c e:Int) (d:LI) (a b:Int) (k0:(Int)→OA):OA:=bif decide (a < 0) then k0 (0) else bif decide (b < 0) then k0 (0) else bif decide (a≥c) then k0 (0) else bif decide (b≥e) then k0 (0) else bif decide (0≤i64.wrap (i64.wrap (b*c)+a)∧i64.wrap (i64.wrap (b*c)+a) < (↑d.length:Int)) then k0 (d.getD (i64.wrap (i64.wrap (b*c)+a)).toNat 0) else none
abbrev ag:Type:=Int→Int→LI→Int→Int→(Int→OA)→OA
theorem HU (Z:Nat) (a b:Int) (d:LI) (e f:Int) (k:Ev.Cont):evalFn tab (As Z) J0 HT Z Tryz.f179 [.agg [i6 a,i6 b,.sl (.int .u8) d],.c (i6 e),.c (i6 f)] [] k=ac Z a b d e f (fun r=>match r with | g=>k (.c (.int .u8 g),[])):=by
 kernel_rfl
theorem JK (Z:Nat):GOK prog (As Z):=
 gok_nil
def eB (F:ag):Ev.Spec:=fun args objs k=>match args,objs with | [.agg [i6 a,i6 b,.sl (.int .u8) d],.c (i6 e),.c (i6 f)],[]=>F a b d e f (fun r=>match r with | g=>k (.c (.int .u8 g),[])) | _,_=>none
theorem ib (Z:Nat):FnOK prog 179 (eB (ac Z)):=by
 intro args objs kk r h
 unfold eB at h
 split at h
 ·skip
  exact fo0 (JK Z) func179 rfl kr _ _ kk r ((HU Z _ _ _ _ _ kk).trans h)
 ·cases h
def cB (i:Nat):Option (List Nat):=Ev.look i [(3,[0,1,2,7,17,18,19]),(8,[0,1,2,7,41,42,43]),(100000,[0,1,2,7]),(100002,[7]),(200005,[0,9]),(200010,[0,11]),(400000,[6]),(400002,[6])]
def lu (a:aL) (b:ag) (c:br) (f:Nat):Option Ev.Spec:=Ev.look f [(164,kR a),(179,eB b),(199,ow c)]
def mT (Z:Nat):Nat→Option Ev.Spec:=lu (ap Z) (ac Z) (aI Z)
abbrev pV:Type:=Int×Int×Int×Int×Int×Int×Int×Int×Bool×Int×Int×Int×Int×Int×LI×LI×(List (Int×Int))
abbrev ya:Type:=(Int×Int×Int×Int×Int×Int×Bool×Int×Int×Int×Int×Int×LI×LI→OA)
def oG (Z:Nat) (v:aL) (t:ag) (w:br) (h i:Int) (m n:Int) (a o:Int) (p q:Int) (r:Bool) (s e:Int) (f j k:Int) (l g:LI) (d:(List (Int×Int))) (c:pV→OA) (B:ya):OA:=match B with | b=>bif decide (a < n) then bif decide (0≤a∧a < (↑d.length:Int)) then (t e f g (i64.wrap (h+(d.getD a.toNat (0,0)).fst)) (i64.wrap (i+(d.getD a.toNat (0,0)).snd)) (fun u=>c (h,i,i64.wrap (i64.wrap (2*m)+i64.wrap u),n,i64.wrap (a+1),o,p,q,r,s,e,f,j,k,l,g,d))) else none else b (h,i,m,o,p,q,r,s,e,f,j,k,l,g)
def gh (Z:Nat) (v:Int×Int×Int×Int×Int×Int×Int×Int×Bool×Int×Int×Int×Int×Int×LI×LI×(List (Int×Int))) (c:(Int×Int×Int×Int×Int×Int×Int×Int×Bool×Int×Int×Int×Int×Int×LI×LI×(List (Int×Int)))→OA) (B:(Int×Int×Int×Int×Int×Int×Bool×Int×Int×Int×Int×Int×LI×LI→OA)):OA:=match v with | (i,j,k,l,m,n,o,p,q,r,a,b,d,e,f,g,h)=>oG Z (ap Z) (ac Z) (aI Z) i j k l m n o p q r a b d e f g h c B
def Bo (Z:Nat) (v:pV) (b:ya):OA:=iter (gh Z) Z v b
def pQ (v:pV):Ev.St:=match v with | (i,j,k,l,m,n,o,p,q,r,a,b,d,e,f,g,h)=>⟨[(0,.c (.ptr 0 0)),(1,.c (i6 i)),(2,.c (i6 j)),(7,.c (i6 k)),(17,.c (.own 2)),(18,.c (i6 l)),(19,.c (i6 m))],[(0,.cells 230 [i6 n,i6 o,i6 p,.bool q,i6 r,i6 a,i6 b,.own 1,i6 d,i6 e,.sl (.int .u8) f]),(1,.vec 5 (.int .u8) g false),(2,.vec 22 (.pair ti ti) h true)],3,2⟩
def wh (K:KT):ya:=(fun v=>match v with | (f,g,h,i,j,k,l,m,n,o,a,b,d,e)=>K .normal ⟨[(0,.c (.ptr 0 0)),(1,.c (i6 f)),(2,.c (i6 g)),(7,.c (i6 h))],[(0,.cells 230 [i6 i,i6 j,i6 k,.bool l,i6 m,i6 n,i6 o,.own 1,i6 a,i6 b,.sl (.int .u8) d]),(1,.vec 5 (.int .u8) e false)],2,2⟩)
theorem ED (Z:Nat) (a:aL) (b:ag) (c:br) (R:Ev.St→OA) (K:KT) (k l:Int) (m n:Int) (o p:Int) (q r:Int) (s:Bool) (t d:Int) (e f g:Int) (h i:LI) (j:(List (Int×Int))):evalCode tab (lu a b c) J0 cB Z (bodyOf 0 Tryz.f178) (pQ (k,l,m,n,o,p,q,r,s,t,d,e,f,g,h,i,j)) (lc cB 3 0 R K)=oG Z a b c k l m n o p q r s t d e f g h i j (fun v=>R (pQ v)) (wh K):=by
 kernel_rfl
def gV (Z:Nat):Ev.Blk:=fun st K=>match canonO (cB 3) st with | some s=>(match s with | ⟨[(r,.c (.ptr t u)),(v,.c (i6 w)),(x,.c (i6 y)),(z,.c (i6 A)),(B,.c (.own C)),(D,.c (i6 E)),(F,.c (i6 G))],[(a,.cells b [i6 H,i6 I,i6 J,.bool L,i6 M,i6 d,i6 e,.own f,i6 g,i6 h,.sl (.int .u8) i]),(j,.vec k (.int .u8) l false),(m,.vec n (.pair ti ti) o true)],p,q⟩=>bif qb [r,t,u,v,x,z,B,C,D,F,a,b,f,j,k,m,n,p,q] [0,0,0,1,2,7,17,2,18,19,0,230,1,1,5,2,22,3,2] then iter (gh Z) Z (w,y,A,E,G,H,I,J,L,M,d,e,g,h,i,l,o) (wh K) else none | _=>none) | none=>none
theorem ER (Z:Nat) (st:Ev.St) (K:KT) (r:Ans) (h:gV Z st K=some r):evalCode tab (mT Z) J0 cB Z (.block 0 (.loop (bodyOf 0 Tryz.f178))) st K=some r:=by
 unfold gV at h
 split at h
 ·rename_i s hs
  split at h
  ·skip
   obtain ⟨hb,h⟩:=cond_some' h
   cases qb_eq hb
   exact blk_loop (S:=pQ) (ks:=wh) (step:=gh Z) (v:=(_,_,_,_,_,_,_,_,_,_,_,_,_,_,_,_,_)) kr kr (fun R K v=>by obtain ⟨i,j,k,l,m,n,o,p,q,t,a,b,c,d,e,f,g⟩:=v; exact ED Z (ap Z) (ac Z) (aI Z) R K i j k l m n o p q t a b c d e f g) hs h
  ·cases h
 ·cases h
abbrev rb:Type:=Int×Int×Int×Int×Int×Int×Int×Int×Bool×Int×Int×Int×Int×Int×LI×LI×(List (Int×Int))
abbrev wL:Type:=(Int×Int×Int×Int×Bool×Int×Int×Int×Int×Int×LI×LI→OA)
def oH (Z:Nat) (v:aL) (t:ag) (w:br) (m n:Int) (o p:Int) (a q:Int) (h i:Int) (r:Bool) (s j:Int) (k e f:Int) (g l:LI) (d:(List (Int×Int))) (c:rb→OA) (B:wL):OA:=match B with | b=>bif decide (a < p) then bif decide (0≤a∧a < (↑d.length:Int)) then (t e f g (i64.wrap (i64.wrap (m - h)+(d.getD a.toNat (0,0)).fst)) (i64.wrap (i64.wrap (n - i)+(d.getD a.toNat (0,0)).snd)) (fun u=>c (m,n,i64.wrap (i64.wrap (2*o)+i64.wrap u),p,i64.wrap (a+1),q,h,i,r,s,j,k,e,f,g,l,d))) else none else b (o,q,h,i,r,s,j,k,e,f,g,l)
def iL (Z:Nat) (v:Int×Int×Int×Int×Int×Int×Int×Int×Bool×Int×Int×Int×Int×Int×LI×LI×(List (Int×Int))) (c:(Int×Int×Int×Int×Int×Int×Int×Int×Bool×Int×Int×Int×Int×Int×LI×LI×(List (Int×Int)))→OA) (B:(Int×Int×Int×Int×Bool×Int×Int×Int×Int×Int×LI×LI→OA)):OA:=match v with | (i,j,k,l,m,n,o,p,q,r,a,b,d,e,f,g,h)=>oH Z (ap Z) (ac Z) (aI Z) i j k l m n o p q r a b d e f g h c B
def Ck (Z:Nat) (v:rb) (b:wL):OA:=iter (iL Z) Z v b
def Cn (Z:Nat) (i:Nat):Option Ev.Blk:=Ev.look i [(100000,gV Z)]
def xj (v:rb):Ev.St:=match v with | (i,j,k,l,m,n,o,p,q,r,a,b,d,e,f,g,h)=>⟨[(0,.c (.ptr 0 0)),(1,.c (i6 i)),(2,.c (i6 j)),(7,.c (i6 k)),(41,.c (.own 2)),(42,.c (i6 l)),(43,.c (i6 m))],[(0,.cells 230 [i6 n,i6 o,i6 p,.bool q,i6 r,i6 a,i6 b,.own 1,i6 d,i6 e,.sl (.int .u8) f]),(1,.vec 5 (.int .u8) g false),(2,.vec 22 (.pair ti ti) h true)],3,2⟩
def yI (K:KT):wL:=(fun v=>match v with | (d,e,f,g,h,i,j,k,l,m,a,b)=>K .normal ⟨[(7,.c (i6 d))],[(0,.cells 230 [i6 e,i6 f,i6 g,.bool h,i6 i,i6 j,i6 k,.own 1,i6 l,i6 m,.sl (.int .u8) a]),(1,.vec 5 (.int .u8) b false)],2,2⟩)
theorem GE (Z:Nat) (a:aL) (b:ag) (c:br) (R:Ev.St→OA) (K:KT) (k l:Int) (m n:Int) (o p:Int) (q r:Int) (s:Bool) (t d:Int) (e f g:Int) (h i:LI) (j:(List (Int×Int))):evalCode tab (lu a b c) (Cn Z) cB Z (bodyOf 2 Tryz.f178) (xj (k,l,m,n,o,p,q,r,s,t,d,e,f,g,h,i,j)) (lc cB 8 2 R K)=oH Z a b c k l m n o p q r s t d e f g h i j (fun v=>R (xj v)) (yI K):=by
 kernel_rfl
def ko (Z:Nat):Ev.Blk:=fun st K=>match canonO (cB 8) st with | some s=>(match s with | ⟨[(r,.c (.ptr t u)),(v,.c (i6 w)),(x,.c (i6 y)),(z,.c (i6 A)),(B,.c (.own C)),(D,.c (i6 E)),(F,.c (i6 G))],[(a,.cells b [i6 H,i6 I,i6 J,.bool L,i6 M,i6 d,i6 e,.own f,i6 g,i6 h,.sl (.int .u8) i]),(j,.vec k (.int .u8) l false),(m,.vec n (.pair ti ti) o true)],p,q⟩=>bif qb [r,t,u,v,x,z,B,C,D,F,a,b,f,j,k,m,n,p,q] [0,0,0,1,2,7,41,2,42,43,0,230,1,1,5,2,22,3,2] then iter (iL Z) Z (w,y,A,E,G,H,I,J,L,M,d,e,g,h,i,l,o) (yI K) else none | _=>none) | none=>none
theorem IB (Z:Nat) (st:Ev.St) (K:KT) (r:Ans) (h:ko Z st K=some r):evalCode tab (mT Z) (Cn Z) cB Z (.block 2 (.loop (bodyOf 2 Tryz.f178))) st K=some r:=by
 unfold ko at h
 split at h
 ·rename_i s hs
  split at h
  ·skip
   obtain ⟨hb,h⟩:=cond_some' h
   cases qb_eq hb
   exact blk_loop (S:=xj) (ks:=yI) (step:=iL Z) (v:=(_,_,_,_,_,_,_,_,_,_,_,_,_,_,_,_,_)) kr kr (fun R K v=>by obtain ⟨i,j,k,l,m,n,o,p,q,t,a,b,c,d,e,f,g⟩:=v; exact GE Z (ap Z) (ac Z) (aI Z) R K i j k l m n o p q t a b c d e f g) hs h
  ·cases h
 ·cases h
def wM (Z:Nat) (i:Nat):Option Ev.Blk:=Ev.look i [(100000,gV Z),(100002,ko Z)]
def xt (Z:Nat) (j:aL) (R:ag) (k:br) (I J:Int) (b K L:Int) (M:Bool) (N O:Int) (P Q F:Int) (G H:LI) (k0:(Int×Int×Int×Int×Bool×Int×Int×Int×Int×Int×LI×LI)→OA):OA:=(j b (fun c=>(Bo Z (I,J,0,(↑c.length:Int),0,b,K,L,M,N,O,P,Q,F,G,H,c) (fun (l,m,n,o,p,q,r,s,t,u,d,e,f,g)=>(k (fun a=>(Ck Z (l,m,n,(↑a.length:Int),0,o,p,q,r,s,t,u,d,e,f,g,a) (fun (v,w,x,y,z,A,B,C,D,E,h,i)=>k0 (v,w,x,y,z,A,B,C,D,E,h,i)))))))))
abbrev fH:Type:=Int→Int→Int→Int→Int→Bool→Int→Int→Int→Int→Int→LI→LI→((Int×Int×Int×Int×Bool×Int×Int×Int×Int×Int×LI×LI)→OA)→OA
def ey (Z:Nat):fH:=xt Z (ap Z) (ac Z) (aI Z)
theorem HD (Z:Nat) (a:aL) (b:ag) (d:br) (h i:Int) (j l m:Int) (n:Bool) (o p:Int) (q s e:Int) (f g:LI) (k:Ev.Cont):evalFn tab (lu a b d) (wM Z) cB Z Tryz.f178 [.c (.ptr 0 0),.c (i6 h),.c (i6 i)] [.cells 230 [i6 j,i6 l,i6 m,.bool n,i6 o,i6 p,i6 q,.own 1,i6 s,i6 e,.sl (.int .u8) f],.vec 5 (.int .u8) g false] k=xt Z a b d h i j l m n o p q s e f g (fun r=>match r with | (v,w,x,y,z,A,B,C,D,E,t,u)=>k (.c (i6 v),[.cells 230 [i6 w,i6 x,i6 y,.bool z,i6 A,i6 B,i6 C,.own 1,i6 D,i6 E,.sl (.int .u8) t],.vec 5 (.int .u8) u false])):=by
 kernel_rfl
theorem vF (Z:Nat):GOK prog (mT Z):=
 gc (rG Z) func164 kr rfl <|
 gc (ib Z) func179 kr rfl <|
 gc (DA Z) func199 kr rfl <|
 gok_nil
theorem MP (Z:Nat):BlkOK prog Tryz.f178.ntmps (.block 0 (.loop (bodyOf 0 Tryz.f178))) (gV Z):=bo0 (vF Z) kr kr (ER Z)
theorem Oz (Z:Nat):BlkOK prog Tryz.f178.ntmps (.block 2 (.loop (bodyOf 2 Tryz.f178))) (ko Z):=bo0 (vF Z) kr kr (IB Z)
theorem Ft (Z:Nat):FnOK prog 178 (evalFn tab (mT Z) (wM Z) cB Z Tryz.f178):=
 fn_ok tab_ok (vF Z) mixed func178 (c:=(Tryz.f178.body).getD .skip) rfl (fun q hq=>by
  rw [(by kernel_rfl:obl (wM Z) ((Tryz.f178.body).getD .skip)= [(.block 0 (.loop (bodyOf 0 Tryz.f178)),gV Z),(.block 2 (.loop (bodyOf 2 Tryz.f178)),ko Z)])] at hq
  simp only [List.mem_cons,List.not_mem_nil,or_false] at hq
  rcases hq with rfl | rfl
  ·exact MP Z
  ·exact Oz Z)
def pf (F:fH):Ev.Spec:=fun args objs k=>match args,objs with | [.c (.ptr g h),.c (i6 i),.c (i6 j)],[.cells l [i6 m,i6 n,i6 o,.bool p,i6 q,i6 s,i6 t,.own u,i6 v,i6 a,.sl (.int .u8) b],.vec w (.int .u8) d false]=>bif qb [g,h,l,u,w] [0,0,230,1,5] then F i j m n o p q s t v a b d (fun r=>match r with | (x,y,z,A,B,C,D,E,G,H,e,f)=>k (.c (i6 x),[.cells 230 [i6 y,i6 z,i6 A,.bool B,i6 C,i6 D,i6 E,.own 1,i6 G,i6 H,.sl (.int .u8) e],.vec 5 (.int .u8) f false])) else none | _,_=>none
theorem Jw (Z:Nat):FnOK prog 178 (pf (ey Z)):=by
 intro args objs kk r h
 unfold pf at h
 split at h
 ·skip
  obtain ⟨hb,h⟩:=cond_some' h
  cases qb_eq hb
  exact Ft Z _ _ kk r ((HD Z (ap Z) (ac Z) (aI Z) _ _ _ _ _ _ _ _ _ _ _ _ _ kk).trans h)
 ·cases h
def jB (i:Nat):Option (List Nat):=Ev.look i [(3,[0,1,2,8,29]),(100000,[8]),(200001,[0]),(200005,[0]),(400000,[6,7])]
def rc (a:ag) (f:Nat):Option Ev.Spec:=Ev.look f [(179,eB a)]
def zt (Z:Nat):Nat→Option Ev.Spec:=rc (ac Z)
abbrev tC:Type:=Int×Int×Int×Int×Int×Int×Int×Bool×Int×Int×Int×Int×Int×LI×LI
abbrev zY:Type:=(Int×Bool×Int×Int×Int×Bool×Int×Int×Int×Int×Int×LI×LI→OA)×(Int×Int×Int×Int×Bool×Int×Int×Int×Int×Int×LI×LI→OA)
def nX (Z:Nat) (r:ag) (p q:Int) (k f:Int) (l g h:Int) (m:Bool) (n o:Int) (i a d:Int) (e j:LI) (c:tC→OA) (B:zY):OA:=match B with | (ret,b)=>bif decide (f < 9) then (r a d e (i64.wrap (i64.wrap (i64.wrap (p - g)+f.tmod 3) - 1)) (i64.wrap (i64.wrap (i64.wrap (q - h)+i64.wrap (f.tdiv 3)) - 1)) (fun s=>bif s != k then ret (0,false,l,g,h,m,n,o,i,a,d,e,j) else c (p,q,k,i64.wrap (f+1),l,g,h,m,n,o,i,a,d,e,j))) else b (k,l,g,h,m,n,o,i,a,d,e,j)
def em (Z:Nat) (v:Int×Int×Int×Int×Int×Int×Int×Bool×Int×Int×Int×Int×Int×LI×LI) (c:(Int×Int×Int×Int×Int×Int×Int×Bool×Int×Int×Int×Int×Int×LI×LI)→OA) (B:(Int×Bool×Int×Int×Int×Bool×Int×Int×Int×Int×Int×LI×LI→OA)×(Int×Int×Int×Int×Bool×Int×Int×Int×Int×Int×LI×LI→OA)):OA:=match v with | (g,h,i,j,k,l,m,n,o,p,a,b,d,e,f)=>nX Z (ac Z) g h i j k l m n o p a b d e f c B
def Dl (Z:Nat) (v:tC) (ret:(Int×Bool×Int×Int×Int×Bool×Int×Int×Int×Int×Int×LI×LI→OA)) (b:(Int×Int×Int×Int×Bool×Int×Int×Int×Int×Int×LI×LI→OA)):OA:=iter (em Z) Z v (ret,b)
def rE (v:tC):Ev.St:=match v with | (g,h,i,j,k,l,m,n,o,p,a,b,d,e,f)=>⟨[(0,.c (.ptr 0 0)),(1,.c (i6 g)),(2,.c (i6 h)),(8,.c (.int .u8 i)),(29,.c (i6 j))],[(0,.cells 230 [i6 k,i6 l,i6 m,.bool n,i6 o,i6 p,i6 a,.own 1,i6 b,i6 d,.sl (.int .u8) e]),(1,.vec 5 (.int .u8) f false)],2,2⟩
def vU (K:KT):zY:=((fun v=>match v with | (d,e,f,g,h,i,j,k,l,m,a,b,n)=>K .ret ⟨[(6,.c (.int .u8 d)),(7,.c (.bool e))],[(0,.cells 230 [i6 f,i6 g,i6 h,.bool i,i6 j,i6 k,i6 l,.own 1,i6 m,i6 a,.sl (.int .u8) b]),(1,.vec 5 (.int .u8) n false)],2,2⟩),(fun v=>match v with | (d,e,f,g,h,i,j,k,l,m,a,b)=>K .normal ⟨[(8,.c (.int .u8 d))],[(0,.cells 230 [i6 e,i6 f,i6 g,.bool h,i6 i,i6 j,i6 k,.own 1,i6 l,i6 m,.sl (.int .u8) a]),(1,.vec 5 (.int .u8) b false)],2,2⟩))
theorem MS (Z:Nat) (a:ag) (R:Ev.St→OA) (K:KT) (g h:Int) (i j:Int) (k l m:Int) (n:Bool) (o p:Int) (b c d:Int) (e f:LI):evalCode tab (rc a) J0 jB Z (bodyOf 0 Tryz.f177) (rE (g,h,i,j,k,l,m,n,o,p,b,c,d,e,f)) (lc jB 3 0 R K)=nX Z a g h i j k l m n o p b c d e f (fun v=>R (rE v)) (vU K):=by
 kernel_rfl
def mE (Z:Nat):Ev.Blk:=fun st K=>match canonO (jB 3) st with | some s=>(match s with | ⟨[(k,.c (.ptr l m)),(n,.c (i6 o)),(p,.c (i6 q)),(r,.c (.int .u8 t)),(u,.c (i6 v))],[(w,.cells x [i6 y,i6 z,i6 A,.bool B,i6 C,i6 D,i6 a,.own E,i6 b,i6 d,.sl (.int .u8) e]),(f,.vec g (.int .u8) h false)],i,j⟩=>bif qb [k,l,m,n,p,r,u,w,x,E,f,g,i,j] [0,0,0,1,2,8,29,0,230,1,1,5,2,2] then iter (em Z) Z (o,q,t,v,y,z,A,B,C,D,a,b,d,e,h) (vU K) else none | _=>none) | none=>none
theorem HS (Z:Nat) (st:Ev.St) (K:KT) (r:Ans) (h:mE Z st K=some r):evalCode tab (zt Z) J0 jB Z (.block 0 (.loop (bodyOf 0 Tryz.f177))) st K=some r:=by
 unfold mE at h
 split at h
 ·rename_i s hs
  split at h
  ·skip
   obtain ⟨hb,h⟩:=cond_some' h
   cases qb_eq hb
   exact blk_loop (S:=rE) (ks:=vU) (step:=em Z) (v:=(_,_,_,_,_,_,_,_,_,_,_,_,_,_,_)) kr kr (fun R K v=>by obtain ⟨f,g,i,j,k,l,m,n,o,p,a,b,c,d,e⟩:=v; exact MS Z (ac Z) R K f g i j k l m n o p a b c d e) hs h
  ·cases h
 ·cases h
def Mu (Z:Nat) (i:Nat):Option Ev.Blk:=Ev.look i [(100000,mE Z)]
def ri (Z:Nat) (j:ag) (c d:Int) (v e f:Int) (w:Bool) (x y:Int) (z g a:Int) (b u:LI) (k0:(Int×Bool×Int×Int×Int×Bool×Int×Int×Int×Int×Int×LI×LI)→OA):OA:=(j g a b (i64.wrap (c - e)) (i64.wrap (d - f)) (fun A=>(Dl Z (c,d,A,0,v,e,f,w,x,y,z,g,a,b,u) (fun (ret0_0,ret0_1,ret0_2,ret0_3,ret0_4,ret0_5,ret0_6,ret0_7,ret0_8,ret0_9,ret0_10,ret0_11,ret0_12)=>k0 (ret0_0,ret0_1,ret0_2,ret0_3,ret0_4,ret0_5,ret0_6,ret0_7,ret0_8,ret0_9,ret0_10,ret0_11,ret0_12)) (fun (k,l,m,n,o,p,q,r,s,t,h,i)=>k0 (k,true,l,m,n,o,p,q,r,s,t,h,i)))))
abbrev fo:Type:=Int→Int→Int→Int→Int→Bool→Int→Int→Int→Int→Int→LI→LI→((Int×Bool×Int×Int×Int×Bool×Int×Int×Int×Int×Int×LI×LI)→OA)→OA
def dL (Z:Nat):fo:=ri Z (ac Z)
theorem Gy (Z:Nat) (a:ag) (f g:Int) (h i j:Int) (l:Bool) (m n:Int) (o p b:Int) (d e:LI) (k:Ev.Cont):evalFn tab (rc a) (Mu Z) jB Z Tryz.f177 [.c (.ptr 0 0),.c (i6 f),.c (i6 g)] [.cells 230 [i6 h,i6 i,i6 j,.bool l,i6 m,i6 n,i6 o,.own 1,i6 p,i6 b,.sl (.int .u8) d],.vec 5 (.int .u8) e false] k=ri Z a f g h i j l m n o p b d e (fun r=>match r with | (u,v,w,x,y,z,A,B,C,D,q,s,t)=>k (.tup [(false,[.int .u8 u]),(false,[.bool v])],[.cells 230 [i6 w,i6 x,i6 y,.bool z,i6 A,i6 B,i6 C,.own 1,i6 D,i6 q,.sl (.int .u8) s],.vec 5 (.int .u8) t false])):=by
 kernel_rfl
theorem AS (Z:Nat):GOK prog (zt Z):=
 gc (ib Z) func179 kr rfl <|
 gok_nil
theorem IT (Z:Nat):BlkOK prog Tryz.f177.ntmps (.block 0 (.loop (bodyOf 0 Tryz.f177))) (mE Z):=bo0 (AS Z) kr kr (HS Z)
def ww (F:fo):Ev.Spec:=fun args objs k=>match args,objs with | [.c (.ptr h i),.c (i6 j),.c (i6 l)],[.cells m [i6 n,i6 o,i6 p,.bool q,i6 s,i6 t,i6 u,.own v,i6 w,i6 a,.sl (.int .u8) b],.vec x (.int .u8) d false]=>bif qb [h,i,m,v,x] [0,0,230,1,5] then F j l n o p q s t u w a b d (fun r=>match r with | (y,z,A,B,C,D,E,G,H,I,e,f,g)=>k (.tup [(false,[.int .u8 y]),(false,[.bool z])],[.cells 230 [i6 A,i6 B,i6 C,.bool D,i6 E,i6 G,i6 H,.own 1,i6 I,i6 e,.sl (.int .u8) f],.vec 5 (.int .u8) g false])) else none | _,_=>none
theorem Px (Z:Nat):FnOK prog 177 (ww (dL Z)):=by
 intro args objs kk r h
 unfold ww at h
 split at h
 ·skip
  obtain ⟨hb,h⟩:=cond_some' h
  cases qb_eq hb
  exact fo1 (AS Z) func177 rfl (IT Z) kr _ _ kk r ((Gy Z (ac Z) _ _ _ _ _ _ _ _ _ _ _ _ _ kk).trans h)
 ·cases h
def jP (i:Nat):Option (List Nat):=Ev.look i [(8,[0,1,2,3,9,44,45]),(100000,[]),(400000,[8])]
def vk (d:aE) (a:ad) (b:fo) (c:fH) (f:Nat):Option Ev.Spec:=Ev.look f [(130,go d),(143,cZ a),(177,ww b),(178,pf c)]
def Bs (Z:Nat):Nat→Option Ev.Spec:=vk (az Z) (aa Z) (dL Z) (ey Z)
abbrev qC:Type:=Int×Int×Int×Int×Int×Int×Int×Int×Bool×Int×Int×Int×Int×Int×LI×Int×Int×Int×Int×Int×Int×Bool×Bool×LI×LI×LI
abbrev DT:Type:=(Int×Int×Int×Int×Bool×Int×Int×Int×Int×Int×LI×Int×Int×Int×Int×Int×Int×Bool×Bool×LI×LI×LI→OA)×(Int×Int×Int×Bool×Int×Int×Int×Int×Int×LI×Int×Int×Int×Int×Int×Int×Bool×Bool×LI×LI×LI→OA)
def mY (Z:Nat) (e2:aE) (G:ad) (d5:fo) (H:fH) (f d:Int) (r s:Int) (a d0:Int) (d1 d2:Int) (d3:Bool) (d4 e:Int) (c5 c6 c7:Int) (c8:LI) (h i:Int) (j k:Int) (l m:Int) (n o:Bool) (c9 p q:LI) (c:qC→OA) (B:DT):OA:=match B with | (ret,b)=>bif decide (a < s) then (d5 a d d0 d1 d2 d3 d4 e c5 c6 c7 c8 c9 (fun (d8,d9,x,y,z,A,C,D,E,F,t,u,g)=>bif r==1 then bif d9 then bif decide (0≤i64.wrap (i64.wrap (d*e)+a)∧i64.wrap (i64.wrap (d*e)+a) < (↑g.length:Int)) then c (f,d,r,s,i64.wrap (a+1),x,y,z,A,C,D,E,F,t,u,h,i,j,k,l,m,n,o,g.set (i64.wrap (i64.wrap (d*e)+a)).toNat d8,p,q) else none else (H a d x y z A C D E F t u g (fun (e0,a7,a8,a9,b0,b1,b2,b3,b4,b5,M,v)=>(G (i64.wrap (f+e0)) h i j k l m n o p q (fun (d6,N,O,P,Q,R,S,T,U,V,I,J)=>bif N != 0 then ret (N,a7,a8,a9,b0,b1,b2,b3,b4,b5,M,O,P,Q,R,S,T,U,V,v,I,J) else bif decide (0≤i64.wrap (i64.wrap (d*e)+a)∧i64.wrap (i64.wrap (d*e)+a) < (↑v.length:Int)) then c (f,d,r,s,i64.wrap (a+1),a7,a8,a9,b0,b1,b2,b3,b4,b5,M,O,P,Q,R,S,T,U,V,v.set (i64.wrap (i64.wrap (d*e)+a)).toNat (u8.wrap d6),I,J) else none)))) else (H a d x y z A C D E F t u g (fun (e1,b6,b7,b8,b9,c0,c1,c2,c3,c4,W,w)=>(G (i64.wrap (f+e1)) h i j k l m n o p q (fun (d7,X,Y,a0,a1,a2,a3,a4,a5,a6,K,L)=>bif X != 0 then ret (X,b6,b7,b8,b9,c0,c1,c2,c3,c4,W,Y,a0,a1,a2,a3,a4,a5,a6,w,K,L) else bif decide (0≤i64.wrap (i64.wrap (d*e)+a)∧i64.wrap (i64.wrap (d*e)+a) < (↑w.length:Int)) then c (f,d,r,s,i64.wrap (a+1),b6,b7,b8,b9,c0,c1,c2,c3,c4,W,Y,a0,a1,a2,a3,a4,a5,a6,w.set (i64.wrap (i64.wrap (d*e)+a)).toNat (u8.wrap d7),K,L) else none)))))) else b (d0,d1,d2,d3,d4,e,c5,c6,c7,c8,h,i,j,k,l,m,n,o,c9,p,q)
def ir (Z:Nat) (v:Int×Int×Int×Int×Int×Int×Int×Int×Bool×Int×Int×Int×Int×Int×LI×Int×Int×Int×Int×Int×Int×Bool×Bool×LI×LI×LI) (c:(Int×Int×Int×Int×Int×Int×Int×Int×Bool×Int×Int×Int×Int×Int×LI×Int×Int×Int×Int×Int×Int×Bool×Bool×LI×LI×LI)→OA) (B:(Int×Int×Int×Int×Bool×Int×Int×Int×Int×Int×LI×Int×Int×Int×Int×Int×Int×Bool×Bool×LI×LI×LI→OA)×(Int×Int×Int×Bool×Int×Int×Int×Int×Int×LI×Int×Int×Int×Int×Int×Int×Bool×Bool×LI×LI×LI→OA)):OA:=match v with | (r,s,t,u,w,x,y,z,A,C,a,b,d,e,f,g,h,i,j,k,l,m,n,o,p,q)=>mY Z (az Z) (aa Z) (dL Z) (ey Z) r s t u w x y z A C a b d e f g h i j k l m n o p q c B
def yb (Z:Nat) (v:qC) (ret:(Int×Int×Int×Int×Bool×Int×Int×Int×Int×Int×LI×Int×Int×Int×Int×Int×Int×Bool×Bool×LI×LI×LI→OA)) (b:(Int×Int×Int×Bool×Int×Int×Int×Int×Int×LI×Int×Int×Int×Int×Int×Int×Bool×Bool×LI×LI×LI→OA)):OA:=iter (ir Z) Z v (ret,b)
def wm (v:qC):Ev.St:=match v with | (r,s,t,u,w,x,y,z,A,B,a,b,d,e,f,g,h,i,j,k,l,m,n,o,p,q)=>⟨[(0,.c (.ptr 0 0)),(1,.c (.ptr 1 0)),(2,.c (i6 r)),(3,.c (i6 s)),(9,.c (i6 t)),(44,.c (i6 u)),(45,.c (i6 w))],[(0,.cells 230 [i6 x,i6 y,i6 z,.bool A,i6 B,i6 a,i6 b,.own 2,i6 d,i6 e,.sl (.int .u8) f]),(1,.cells 147 (i6 g::.own 3::ctb (.int .u64 h::.int .u64 i::.own 4::i6 j::.int .u64 k::i6 l::.bool m::.bool n::[]))),(2,.vec 5 (.int .u8) o false),(3,.vec 3 ti p false),(4,.vec 5 (.int .u8) q false)],5,5⟩
def yj (K:KT):DT:=((fun v=>match v with | (m,n,o,p,q,r,s,t,u,w,a,b,d,e,f,g,h,i,j,k,l,x)=>K .ret ⟨[(8,.c (i6 m))],[(0,.cells 230 [i6 n,i6 o,i6 p,.bool q,i6 r,i6 s,i6 t,.own 2,i6 u,i6 w,.sl (.int .u8) a]),(1,.cells 147 (i6 b::.own 3::ctb (.int .u64 d::.int .u64 e::.own 4::i6 f::.int .u64 g::i6 h::.bool i::.bool j::[]))),(2,.vec 5 (.int .u8) k false),(3,.vec 3 ti l false),(4,.vec 5 (.int .u8) x false)],5,5⟩),(fun v=>match v with | (m,n,o,p,q,r,s,t,u,w,a,b,d,e,f,g,h,i,j,k,l)=>K .normal ⟨[],[(0,.cells 230 [i6 m,i6 n,i6 o,.bool p,i6 q,i6 r,i6 s,.own 2,i6 t,i6 u,.sl (.int .u8) w]),(1,.cells 147 (i6 a::.own 3::ctb (.int .u64 b::.int .u64 d::.own 4::i6 e::.int .u64 f::i6 g::.bool h::.bool i::[]))),(2,.vec 5 (.int .u8) j false),(3,.vec 3 ti k false),(4,.vec 5 (.int .u8) l false)],5,5⟩))
theorem NF (Z:Nat) (d:aE) (a:ad) (b:fo) (c:fH) (R:Ev.St→OA) (K:KT) (u w:Int) (x y:Int) (z A:Int) (B C:Int) (D:Bool) (E e:Int) (f g h:Int) (i:LI) (j k:Int) (l m:Int) (n o:Int) (p q:Bool) (r s t:LI):evalCode tab (vk d a b c) J0 jP Z (bodyOf 0 Tryz.f185) (wm (u,w,x,y,z,A,B,C,D,E,e,f,g,h,i,j,k,l,m,n,o,p,q,r,s,t)) (lc jP 8 0 R K)=mY Z d a b c u w x y z A B C D E e f g h i j k l m n o p q r s t (fun v=>R (wm v)) (yj K):=by
 kernel_rfl
def nv (Z:Nat):Ev.Blk:=fun st K=>match canonO (jP 8) st with | some s=>(match s with | ⟨[(J,.c (.ptr L M)),(N,.c (.ptr O P)),(Q,.c (i6 R)),(S,.c (i6 T)),(U,.c (i6 V)),(W,.c (i6 X)),(a,.c (i6 Y))],[(b,.cells d [i6 a0,i6 a1,i6 a2,.bool a3,i6 a4,i6 e,i6 f,.own g,i6 h,i6 i,.sl (.int .u8) j]),(k,.cells l m),(n,.vec o (.int .u8) p false),(q,.vec r ti t false),(u,.vec v (.int .u8) w false)],x,y⟩=>(match splitRun 2 ctn m with | some ([i6 z,.own A],[.int .u64 B,.int .u64 C,.own D,i6 E,.int .u64 F,i6 G,.bool H,.bool I])=>bif qb [J,L,M,N,O,P,Q,S,U,W,a,b,d,g,k,l,n,o,q,r,u,v,x,y,A,D] [0,0,0,1,1,0,2,3,9,44,45,0,230,2,1,147,2,5,3,3,4,5,5,5,3,4] then iter (ir Z) Z (R,T,V,X,Y,a0,a1,a2,a3,a4,e,f,h,i,j,z,B,C,E,F,G,H,I,p,t,w) (yj K) else none | _=>none) | _=>none) | none=>none
theorem HL (Z:Nat) (st:Ev.St) (K:KT) (r:Ans) (h:nv Z st K=some r):evalCode tab (Bs Z) J0 jP Z (.block 0 (.loop (bodyOf 0 Tryz.f185))) st K=some r:=by
 unfold nv at h
 split at h
 ·rename_i s hs
  split at h
  ·skip
   split at h
   rotate_left 1
   ·cases h
   rename_i hsp
   have esp:=splitRun_eq hsp
   subst esp
   obtain ⟨hb,h⟩:=cond_some' h
   cases qb_eq hb
   exact blk_loop (S:=wm) (ks:=yj) (step:=ir Z) (v:=(_,_,_,_,_,_,_,_,_,_,_,_,_,_,_,_,_,_,_,_,_,_,_,_,_,_)) kr kr (fun R K v=>by obtain ⟨t,u,w,x,y,z,A,B,C,D,a,b,c,d,e,f,g,i,j,k,l,m,n,o,p,q⟩:=v; exact NF Z (az Z) (aa Z) (dL Z) (ey Z) R K t u w x y z A B C D a b c d e f g i j k l m n o p q) hs h
  ·cases h
 ·cases h
def Er (Z:Nat) (i:Nat):Option Ev.Blk:=Ev.look i [(100000,nv Z)]
def tf (Z:Nat) (a5:aE) (a4:ad) (a8:fo) (a9:fH) (B a3:Int) (b C D:Int) (c:Bool) (E a:Int) (F G y:Int) (z:LI) (S T:Int) (U V:Int) (W X:Int) (Y a0:Bool) (A a1 a2:LI) (k0:(Int×Int×Int×Int×Bool×Int×Int×Int×Int×Int×LI×Int×Int×Int×Int×Int×Int×Bool×Bool×LI×LI×LI)→OA):OA:=bif c then (a5 b (fun a7=>(a4 (i64.wrap (B+a7)) S T U V W X Y a0 a1 a2 (fun (a6,J,K,L,M,N,O,P,Q,R,H,I)=>bif J != 0 then k0 (J,b,C,D,c,E,a,F,G,y,z,K,L,M,N,O,P,Q,R,A,H,I) else (yb Z (B,a3,a6,a,0,b,C,D,c,E,a,F,G,y,z,K,L,M,N,O,P,Q,R,A,H,I) (fun (ret0_0,ret0_1,ret0_2,ret0_3,ret0_4,ret0_5,ret0_6,ret0_7,ret0_8,ret0_9,ret0_10,ret0_11,ret0_12,ret0_13,ret0_14,ret0_15,ret0_16,ret0_17,ret0_18,ret0_19,ret0_20,ret0_21)=>k0 (ret0_0,ret0_1,ret0_2,ret0_3,ret0_4,ret0_5,ret0_6,ret0_7,ret0_8,ret0_9,ret0_10,ret0_11,ret0_12,ret0_13,ret0_14,ret0_15,ret0_16,ret0_17,ret0_18,ret0_19,ret0_20,ret0_21)) (fun (o,p,q,r,s,t,u,v,w,x,d,e,f,g,h,i,j,k,l,m,n)=>k0 (0,o,p,q,r,s,t,u,v,w,x,d,e,f,g,h,i,j,k,l,m,n))))))) else (yb Z (B,a3,0,a,0,b,C,D,c,E,a,F,G,y,z,S,T,U,V,W,X,Y,a0,A,a1,a2) (fun (ret0_0,ret0_1,ret0_2,ret0_3,ret0_4,ret0_5,ret0_6,ret0_7,ret0_8,ret0_9,ret0_10,ret0_11,ret0_12,ret0_13,ret0_14,ret0_15,ret0_16,ret0_17,ret0_18,ret0_19,ret0_20,ret0_21)=>k0 (ret0_0,ret0_1,ret0_2,ret0_3,ret0_4,ret0_5,ret0_6,ret0_7,ret0_8,ret0_9,ret0_10,ret0_11,ret0_12,ret0_13,ret0_14,ret0_15,ret0_16,ret0_17,ret0_18,ret0_19,ret0_20,ret0_21)) (fun (o,p,q,r,s,t,u,v,w,x,d,e,f,g,h,i,j,k,l,m,n)=>k0 (0,o,p,q,r,s,t,u,v,w,x,d,e,f,g,h,i,j,k,l,m,n)))
abbrev fY:Type:=Int→Int→Int→Int→Int→Bool→Int→Int→Int→Int→Int→LI→Int→Int→Int→Int→Int→Int→Bool→Bool→LI→LI→LI→((Int×Int×Int×Int×Bool×Int×Int×Int×Int×Int×LI×Int×Int×Int×Int×Int×Int×Bool×Bool×LI×LI×LI)→OA)→OA
def dP (Z:Nat):fY:=tf Z (az Z) (aa Z) (dL Z) (ey Z)
theorem NG (Z:Nat) (e:aE) (a:ad) (b:fo) (d:fH) (u v:Int) (w x y:Int) (z:Bool) (A B:Int) (C D f:Int) (g:LI) (h i:Int) (j l:Int) (m n:Int) (o p:Bool) (q s t:LI) (k:Ev.Cont):evalFn tab (vk e a b d) (Er Z) jP Z Tryz.f185 [.c (.ptr 0 0),.c (.ptr 1 0),.c (i6 u),.c (i6 v)] [.cells 230 [i6 w,i6 x,i6 y,.bool z,i6 A,i6 B,i6 C,.own 2,i6 D,i6 f,.sl (.int .u8) g],.cells 147 (i6 h::.own 3::ctb (.int .u64 i::.int .u64 j::.own 4::i6 l::.int .u64 m::i6 n::.bool o::.bool p::[])),.vec 5 (.int .u8) q false,.vec 3 ti s false,.vec 5 (.int .u8) t false] k=tf Z e a b d u v w x y z A B C D f g h i j l m n o p q s t (fun r=>match r with | (Q,R,S,T,U,V,W,X,Y,a0,E,F,G,H,I,J,K,L,M,N,O,P)=>k (.c (i6 Q),[.cells 230 [i6 R,i6 S,i6 T,.bool U,i6 V,i6 W,i6 X,.own 2,i6 Y,i6 a0,.sl (.int .u8) E],.cells 147 (i6 F::.own 3::ctb (.int .u64 G::.int .u64 H::.own 4::i6 I::.int .u64 J::i6 K::.bool L::.bool M::[])),.vec 5 (.int .u8) N false,.vec 3 ti O false,.vec 5 (.int .u8) P false])):=by
 kernel_rfl
theorem DH (Z:Nat):GOK prog (Bs Z):=
 gc (lh Z) func130 kr rfl <|
 gc (dk Z) func143 kr rfl <|
 gc (Px Z) func177 kr rfl <|
 gc (Jw Z) func178 kr rfl <|
 gok_nil
theorem K3 (Z:Nat):BlkOK prog Tryz.f185.ntmps (.block 0 (.loop (bodyOf 0 Tryz.f185))) (nv Z):=bo0 (DH Z) kr kr (HL Z)
def yM (F:fY):Ev.Spec:=fun args objs k=>match args,objs with | [.c (.ptr G H),.c (.ptr I J),.c (i6 K),.c (i6 L)],[.cells M [i6 N,i6 O,i6 P,.bool Q,i6 R,i6 S,i6 T,.own U,i6 V,i6 a,.sl (.int .u8) b],.cells W d,.vec X (.int .u8) e false,.vec Y ti f false,.vec a0 (.int .u8) g false]=>(match splitRun 2 ctn d with | some ([i6 h,.own i],[.int .u64 j,.int .u64 l,.own m,i6 n,.int .u64 o,i6 p,.bool q,.bool s])=>bif qb [G,H,I,J,M,U,W,X,Y,a0,i,m] [0,0,1,0,230,2,147,5,3,5,3,4] then F K L N O P Q R S T V a b h j l n o p q s e f g (fun r=>match r with | (a1,a2,a3,a4,a5,a6,a7,a8,a9,b0,t,u,v,w,x,y,z,A,B,C,D,E)=>k (.c (i6 a1),[.cells 230 [i6 a2,i6 a3,i6 a4,.bool a5,i6 a6,i6 a7,i6 a8,.own 2,i6 a9,i6 b0,.sl (.int .u8) t],.cells 147 (i6 u::.own 3::ctb (.int .u64 v::.int .u64 w::.own 4::i6 x::.int .u64 y::i6 z::.bool A::.bool B::[])),.vec 5 (.int .u8) C false,.vec 3 ti D false,.vec 5 (.int .u8) E false])) else none | _=>none) | _,_=>none
theorem JD (Z:Nat):FnOK prog 185 (yM (dP Z)):=by
 intro args objs kk r h
 unfold yM at h
 split at h
 ·skip
  split at h
  rotate_left 1
  ·cases h
  rename_i hsp
  have esp:=splitRun_eq hsp
  subst esp
  obtain ⟨hb,h⟩:=cond_some' h
  cases qb_eq hb
  exact fo1 (DH Z) func185 rfl (K3 Z) kr _ _ kk r ((NG Z (az Z) (aa Z) (dL Z) (ey Z) _ _ _ _ _ _ _ _ _ _ _ _ _ _ _ _ _ _ _ _ _ _ _ kk).trans h)
 ·cases h
end
end Go.Proofs.YtohnjbmiaegofaaGreat

