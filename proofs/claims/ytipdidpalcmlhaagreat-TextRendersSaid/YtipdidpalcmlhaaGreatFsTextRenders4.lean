/- What the functions that TextRenders reaches do: their typed texts, each with the proof that the machine does it. No condition. -/
import Derived.Test.YtipdidpalcmlhaaGreatEvX
import Derived.Test.YtipdidpalcmlhaaGreatFsTextRenders3
import Derived.Test.YtipdidpalcmlhaaGreatFsTextRenders1
set_option linter.unusedVariables false
set_option linter.unusedSimpArgs false
set_option linter.unusedSectionVars false
set_option linter.unusedVariables false
set_option linter.unusedSimpArgs false
set_option maxRecDepth 100000
set_option maxHeartbeats 2000000
namespace Go.Proofs.YtipdidpalcmlhaaGreat
open Go Ev
open Go.IntKind (i64 u64 u8 i32 u32 u16)
noncomputable section
def kp122 (i:Nat):Option (List Nat):=Ev.look i [(4,[23,24,25]),(100000,[]),(400000,[2])]
def Gg122 (a:YF212) (f:Nat):Option Ev.Spec:=Ev.look f [(212,spg212 a)]
def G122 (fuel:Nat):Nat→Option Ev.Spec:=Gg122 (F_bitmap_fits fuel)
def Sg_bitmap_Valid_0 (fuel:Nat) (f:YF212) (d:LI) (e a:Int) (c:(LI×Int×Int)→OA) (B:(Bool→OA)×(Unit→OA)):OA:=match B with | (ret,b)=>bif decide (a < e) then bif decide (0≤a∧a < (↑d.length:Int)) then bif decide (d.getD a.toNat (0:Int) > (1:Int)) then ret false else c (d,e,i64.wrap (a+1)) else none else b ()
def S_bitmap_Valid_0 (fuel:Nat) (v:(List Int)×Int×Int) (c:((List Int)×Int×Int)→Option Ans) (B:(Bool→Option Ans)×(Unit→Option Ans)):Option Ans:=match v with | (a,b,d)=>Sg_bitmap_Valid_0 fuel (F_bitmap_fits fuel) a b d c B
def L_bitmap_Valid_0 (fuel:Nat) (v:(List Int)×Int×Int) (ret:(Bool→Option Ans)) (b:(Unit→Option Ans)):Option Ans:=iter (S_bitmap_Valid_0 fuel) fuel v (ret,b)
def T122_0 (v:LI×Int×Int):Ev.St:=match v with | (a,b,d)=>⟨[(23,.c (.sl (.int .u8) a)),(24,.c (i6 b)),(25,.c (i6 d))],[],0,0⟩
def E122_0 (K:KT):(Bool→OA)×(Unit→OA):=((fun v=>match v with | a=>K .ret ⟨[(2,.c (.bool a))],[],0,0⟩),(fun v=>match v with | ()=>K .normal ⟨[],[],0,0⟩))
theorem S122_0_okg (fuel:Nat) (a:YF212) (R:Ev.St→OA) (K:KT) (b:LI) (c d:Int):evalCode tab (Gg122 a) J0 kp122 fuel (bodyOf 0 Tryz.f122) (T122_0 (b,c,d)) (lc kp122 4 0 R K)=Sg_bitmap_Valid_0 fuel a b c d (fun v=>R (T122_0 v)) (E122_0 K):=by
  kernel_rfl
def B122_0 (fuel:Nat):Ev.Blk:=fun st K=>match canonO (kp122 4) st with | some s=>(match s with | ⟨[(a,.c (.sl (.int .u8) b)),(d,.c (i6 e)),(f,.c (i6 g))],[],h,i⟩=>bif qb [a,d,f,h,i] [23,24,25,0,0] then iter (S_bitmap_Valid_0 fuel) fuel (b,e,g) (E122_0 K) else none | _=>none) | none=>none
theorem B122_0_ok (fuel:Nat) (st:Ev.St) (K:KT) (r:Ans) (h:B122_0 fuel st K=some r):evalCode tab (G122 fuel) J0 kp122 fuel (.block 0 (.loop (bodyOf 0 Tryz.f122))) st K=some r:=by
  unfold B122_0 at h
  split at h
  · rename_i s hs
    split at h
    · skip
      obtain ⟨hb,h⟩:=cond_some' h
      cases qb_eq hb
      exact blk_loop (S:=T122_0) (ks:=E122_0) (step:=S_bitmap_Valid_0 fuel) (v:=(_,_,_)) (by kernel_rfl) (by kernel_rfl) (fun R K v=>by obtain ⟨a,b,c⟩:=v; exact S122_0_okg fuel (F_bitmap_fits fuel) R K a b c) hs h
    · cases h
  · cases h
def J122 (fuel:Nat) (i:Nat):Option Ev.Blk:=Ev.look i [(100000,B122_0 fuel)]
def Fg_bitmap_Valid (fuel:Nat) (d:YF212) (b c:Int) (a:LI) (k0:(Bool)→OA):OA:=(d b c (fun e=>bif !e then k0 false else bif (↑a.length:Int) != i64.wrap (b*c) then k0 false else (L_bitmap_Valid_0 fuel (a,(↑a.length:Int),0) (fun ret0_0=>k0 ret0_0) (fun ()=>k0 true))))
abbrev YF122:Type:=Int→Int→LI→(Bool→Option Ans)→Option Ans
def F_bitmap_Valid (fuel:Nat):YF122:=Fg_bitmap_Valid fuel (F_bitmap_fits fuel)
theorem F122_eqg (fuel:Nat) (a:YF212) (b d:Int) (e:LI) (k:Ev.Cont):evalFn tab (Gg122 a) (J122 fuel) kp122 fuel Tryz.f122 [.agg [i6 b,i6 d,.sl (.int .u8) e]] [] k=Fg_bitmap_Valid fuel a b d e (fun r=>match r with | f=>k (.c (.bool f),[])):=by
  kernel_rfl
theorem hG122 (fuel:Nat):GOK Tryz.prog (G122 fuel):=
  gc (ok212 fuel) Tryz.func212 (by kernel_rfl) rfl <|
  gok_nil
theorem B122_0_blk (fuel:Nat):BlkOK Tryz.prog Tryz.f122.ntmps (.block 0 (.loop (bodyOf 0 Tryz.f122))) (B122_0 fuel):=bo0 (hG122 fuel) (by kernel_rfl) (by kernel_rfl) (B122_0_ok fuel)
def spg122 (F:YF122):Ev.Spec:=fun args objs k=>match args,objs with | [.agg [i6 a,i6 b,.sl (.int .u8) d]],[]=>F a b d (fun r=>match r with | e=>k (.c (.bool e),[])) | _,_=>none
theorem ok122 (fuel:Nat):FnOK Tryz.prog 122 (spg122 (F_bitmap_Valid fuel)):=by
  intro args objs kk r h
  unfold spg122 at h
  split at h
  · skip
    exact fo1 (hG122 fuel) Tryz.func122 rfl (B122_0_blk fuel) (by kernel_rfl) _ _ kk r ((F122_eqg fuel (F_bitmap_fits fuel) _ _ _ kk).trans h)
  · cases h
def kp199 (i:Nat):Option (List Nat):=Ev.look i []
def Gg199 (f:Nat):Option Ev.Spec:=Ev.look f []
def G199 (fuel:Nat):Nat→Option Ev.Spec:=Gg199
def F_bitmap_at (fuel:Nat) (c e:Int) (d:(List Int)) (a b:Int) (k0:(Int)→Option Ans):Option Ans:=bif decide (a < 0) then k0 (0) else bif decide (b < 0) then k0 (0) else bif decide (a≥c) then k0 (0) else bif decide (b≥e) then k0 (0) else bif decide (0≤i64.wrap (i64.wrap (b*c)+a)∧i64.wrap (i64.wrap (b*c)+a) < (↑d.length:Int)) then k0 (d.getD (i64.wrap (i64.wrap (b*c)+a)).toNat 0) else none
abbrev YF199:Type:=Int→Int→LI→Int→Int→(Int→Option Ans)→Option Ans
theorem F199_eq (fuel:Nat) (a b:Int) (d:LI) (e f:Int) (k:Ev.Cont):evalFn tab (G199 fuel) J0 kp199 fuel Tryz.f199 [.agg [i6 a,i6 b,.sl (.int .u8) d],.c (i6 e),.c (i6 f)] [] k=F_bitmap_at fuel a b d e f (fun r=>match r with | g=>k (.c (.int .u8 g),[])):=by
  kernel_rfl
theorem hG199 (fuel:Nat):GOK Tryz.prog (G199 fuel):=
  gok_nil
def spg199 (F:YF199):Ev.Spec:=fun args objs k=>match args,objs with | [.agg [i6 a,i6 b,.sl (.int .u8) d],.c (i6 e),.c (i6 f)],[]=>F a b d e f (fun r=>match r with | g=>k (.c (.int .u8 g),[])) | _,_=>none
theorem ok199 (fuel:Nat):FnOK Tryz.prog 199 (spg199 (F_bitmap_at fuel)):=by
  intro args objs kk r h
  unfold spg199 at h
  split at h
  · skip
    exact fo0 (hG199 fuel) Tryz.func199 rfl (by kernel_rfl) _ _ kk r ((F199_eq fuel _ _ _ _ _ kk).trans h)
  · cases h
def kp245 (i:Nat):Option (List Nat):=Ev.look i []
def Gg245 (f:Nat):Option Ev.Spec:=Ev.look f []
def G245 (fuel:Nat):Nat→Option Ev.Spec:=Gg245
def F_bytes_Clone (fuel:Nat) (a:(List Int)) (k0:((List Int))→Option Ans):Option Ans:=bif decide ((↑a.length:Int)=0) then both (k0 []) (bif decide (((0:Nat)+a.length)*(1:Nat)≤(140737488355328:Nat)∧(0:Nat)+a.length≤(140737488355328:Nat)) then k0 ([]++a) else none) else bif decide (((0:Nat)+a.length)*(1:Nat)≤(140737488355328:Nat)∧(0:Nat)+a.length≤(140737488355328:Nat)) then k0 ([]++a) else none
abbrev YF245:Type:=LI→(LI→Option Ans)→Option Ans
theorem F245_eq (fuel:Nat) (a:LI) (k:Ev.Cont):evalFn tab (G245 fuel) J0 kp245 fuel Tryz.f245 [.c (.sl (.int .u8) a)] [] k=F_bytes_Clone fuel a (fun r=>match r with | b=>k (.c (.own 0),[.vec 5 (.int .u8) b true])):=by
  kernel_rfl
theorem hG245 (fuel:Nat):GOK Tryz.prog (G245 fuel):=
  gok_nil
def spg245 (F:YF245):Ev.Spec:=fun args objs k=>match args,objs with | [.c (.sl (.int .u8) a)],[]=>F a (fun r=>match r with | b=>k (.c (.own 0),[.vec 5 (.int .u8) b true])) | _,_=>none
theorem ok245 (fuel:Nat):FnOK Tryz.prog 245 (spg245 (F_bytes_Clone fuel)):=by
  intro args objs kk r h
  unfold spg245 at h
  split at h
  · skip
    exact fo0 (hG245 fuel) Tryz.func245 rfl (by kernel_rfl) _ _ kk r ((F245_eq fuel _ kk).trans h)
  · cases h
def kp197 (i:Nat):Option (List Nat):=Ev.look i [(200001,[1])]
def Gg197 (a:YF245) (f:Nat):Option Ev.Spec:=Ev.look f [(245,spg245 a)]
def G197 (fuel:Nat):Nat→Option Ev.Spec:=Gg197 (F_bytes_Clone fuel)
def Fg_bitmap_clone (fuel:Nat) (a:YF245) (b c:Int) (d:LI) (k0:(Int×Int×LI)→OA):OA:=(a d (fun e=>k0 (b,c,e)))
abbrev YF197:Type:=Int→Int→LI→((Int×Int×LI)→Option Ans)→Option Ans
def F_bitmap_clone (fuel:Nat):YF197:=Fg_bitmap_clone fuel (F_bytes_Clone fuel)
theorem F197_eqg (fuel:Nat) (a:YF245) (b c:Int) (d:LI) (k:Ev.Cont):evalFn tab (Gg197 a) J0 kp197 fuel Tryz.f197 [.agg [i6 b,i6 c,.sl (.int .u8) d]] [] k=Fg_bitmap_clone fuel a b c d (fun r=>match r with | (e,f,g)=>k (.agg [i6 e,i6 f,.own 0],[.vec 5 (.int .u8) g true])):=by
  kernel_rfl
theorem hG197 (fuel:Nat):GOK Tryz.prog (G197 fuel):=
  gc (ok245 fuel) Tryz.func245 (by kernel_rfl) rfl <|
  gok_nil
def spg197 (F:YF197):Ev.Spec:=fun args objs k=>match args,objs with | [.agg [i6 a,i6 b,.sl (.int .u8) c]],[]=>F a b c (fun r=>match r with | (d,e,f)=>k (.agg [i6 d,i6 e,.own 0],[.vec 5 (.int .u8) f true])) | _,_=>none
theorem ok197 (fuel:Nat):FnOK Tryz.prog 197 (spg197 (F_bitmap_clone fuel)):=by
  intro args objs kk r h
  unfold spg197 at h
  split at h
  · skip
    exact fo0 (hG197 fuel) Tryz.func197 rfl (by kernel_rfl) _ _ kk r ((F197_eqg fuel (F_bytes_Clone fuel) _ _ _ kk).trans h)
  · cases h
def kp198 (i:Nat):Option (List Nat):=Ev.look i []
def Gg198 (f:Nat):Option Ev.Spec:=Ev.look f []
def G198 (fuel:Nat):Nat→Option Ev.Spec:=Gg198
def F_bitmap_combine (fuel:Nat) (b a c:Int) (k0:(Int)→Option Ans):Option Ans:=bif c==1 then k0 (Ev.ior IntKind.u8 b a) else bif c==2 then k0 (Ev.iand IntKind.u8 b a) else bif c==3 then k0 (Ev.ixor IntKind.u8 b a) else bif c==4 then k0 (Ev.ixor IntKind.u8 (u8.wrap (1 - b)) a) else k0 a
abbrev YF198:Type:=Int→Int→Int→(Int→Option Ans)→Option Ans
theorem F198_eq (fuel:Nat) (a b d:Int) (k:Ev.Cont):evalFn tab (G198 fuel) J0 kp198 fuel Tryz.f198 [.c (.int .u8 a),.c (.int .u8 b),.c (i6 d)] [] k=F_bitmap_combine fuel a b d (fun r=>match r with | e=>k (.c (.int .u8 e),[])):=by
  kernel_rfl
theorem hG198 (fuel:Nat):GOK Tryz.prog (G198 fuel):=
  gok_nil
def spg198 (F:YF198):Ev.Spec:=fun args objs k=>match args,objs with | [.c (.int .u8 a),.c (.int .u8 b),.c (i6 d)],[]=>F a b d (fun r=>match r with | e=>k (.c (.int .u8 e),[])) | _,_=>none
theorem ok198 (fuel:Nat):FnOK Tryz.prog 198 (spg198 (F_bitmap_combine fuel)):=by
  intro args objs kk r h
  unfold spg198 at h
  split at h
  · skip
    exact fo0 (hG198 fuel) Tryz.func198 rfl (by kernel_rfl) _ _ kk r ((F198_eq fuel _ _ _ kk).trans h)
  · cases h
def kp196 (i:Nat):Option (List Nat):=Ev.look i []
def Gg196 (f:Nat):Option Ev.Spec:=Ev.look f []
def G196 (fuel:Nat):Nat→Option Ev.Spec:=Gg196
def F_bitmap_isShift (fuel:Nat) (a b:Int) (k0:(Bool)→Option Ans):Option Ans:=bif decide ((bif decide (b < a) then b else a)≥(-100000:Int)) then k0 (decide ((bif decide (b > a) then b else a)≤100000)) else k0 false
abbrev YF196:Type:=Int→Int→(Bool→Option Ans)→Option Ans
theorem F196_eq (fuel:Nat) (a b:Int) (k:Ev.Cont):evalFn tab (G196 fuel) J0 kp196 fuel Tryz.f196 [.c (i6 a),.c (i6 b)] [] k=F_bitmap_isShift fuel a b (fun r=>match r with | d=>k (.c (.bool d),[])):=by
  kernel_rfl
theorem hG196 (fuel:Nat):GOK Tryz.prog (G196 fuel):=
  gok_nil
def spg196 (F:YF196):Ev.Spec:=fun args objs k=>match args,objs with | [.c (i6 a),.c (i6 b)],[]=>F a b (fun r=>match r with | d=>k (.c (.bool d),[])) | _,_=>none
theorem ok196 (fuel:Nat):FnOK Tryz.prog 196 (spg196 (F_bitmap_isShift fuel)):=by
  intro args objs kk r h
  unfold spg196 at h
  split at h
  · skip
    exact fo0 (hG196 fuel) Tryz.func196 rfl (by kernel_rfl) _ _ kk r ((F196_eq fuel _ _ kk).trans h)
  · cases h
def kp106 (i:Nat):Option (List Nat):=Ev.look i [(7,[2,3,4,5,6,10,12,45,46]),(10,[2,3,4,5,6,10,12,13,45,46,50,51]),(100001,[10,12]),(100003,[2,3,4,5,6,10,12,45,46]),(200015,[6]),(400001,[10,11]),(400003,[10,11])]
def Gg106 (a:YF122) (b:YF196) (c:YF197) (d:YF198) (e:YF199) (f:Nat):Option Ev.Spec:=Ev.look f [(122,spg122 a),(196,spg196 b),(197,spg197 c),(198,spg198 d),(199,spg199 e)]
def G106 (fuel:Nat):Nat→Option Ev.Spec:=Gg106 (F_bitmap_Valid fuel) (F_bitmap_isShift fuel) (F_bitmap_clone fuel) (F_bitmap_combine fuel) (F_bitmap_at fuel)
abbrev V_bitmap_Draw_3:Type:=Int×Int×Int×Int×Int×Int×Int×Int×Int×Int×LI×Int×Int×LI×Int×Int×Int×Int×LI×LI
abbrev W_bitmap_Draw_3:Type:=(Int×Int×Int×Int×Int×Int×Int×LI×Int×Int×LI×Int×Int×Int×Int×LI×LI→OA)
def Sg_bitmap_Draw_3 (fuel:Nat) (A:YF122) (C:YF196) (D:YF197) (y:YF198) (z:YF199) (e f:Int) (l d:Int) (t u:Int) (v a:Int) (g m:Int) (n:LI) (i j:Int) (k:LI) (o p:Int) (q r:Int) (s h:LI) (c:V_bitmap_Draw_3→OA) (B:W_bitmap_Draw_3):OA:=match B with | b=>bif decide (a < v) then bif decide (i64.wrap (e+a)≥0) then bif decide (i64.wrap (f+d)≥0) then bif decide (i64.wrap (e+a) < g) then bif decide (i64.wrap (f+d) < m) then bif decide (0≤i64.wrap (i64.wrap (i64.wrap (f+d)*g)+i64.wrap (e+a))∧i64.wrap (i64.wrap (i64.wrap (f+d)*g)+i64.wrap (e+a)) < (↑h.length:Int)) then both ((z i j k a d (fun w=>(y (h.getD (i64.wrap (i64.wrap (i64.wrap (f+d)*g)+i64.wrap (e+a))).toNat 0) w l (fun x=>c (e,f,l,d,t,u,v,i64.wrap (a+1),g,m,n,i,j,k,o,p,q,r,s,h.set (i64.wrap (i64.wrap (i64.wrap (f+d)*g)+i64.wrap (e+a))).toNat x)))))) ((z i j k a d (fun w=>(y (h.getD (i64.wrap (i64.wrap (i64.wrap (f+d)*g)+i64.wrap (e+a))).toNat 0) w l (fun x=>c (e,f,l,d,t,u,v,i64.wrap (a+1),g,m,n,i,j,k,o,p,q,r,s,h.set (i64.wrap (i64.wrap (i64.wrap (f+d)*g)+i64.wrap (e+a))).toNat x)))))) else none else c (e,f,l,d,t,u,v,i64.wrap (a+1),g,m,n,i,j,k,o,p,q,r,s,h) else c (e,f,l,d,t,u,v,i64.wrap (a+1),g,m,n,i,j,k,o,p,q,r,s,h) else c (e,f,l,d,t,u,v,i64.wrap (a+1),g,m,n,i,j,k,o,p,q,r,s,h) else c (e,f,l,d,t,u,v,i64.wrap (a+1),g,m,n,i,j,k,o,p,q,r,s,h) else b (e,f,l,t,u,g,m,n,i,j,k,o,p,q,r,s,h)
def S_bitmap_Draw_3 (fuel:Nat) (v:Int×Int×Int×Int×Int×Int×Int×Int×Int×Int×(List Int)×Int×Int×(List Int)×Int×Int×Int×Int×(List Int)×(List Int)) (c:(Int×Int×Int×Int×Int×Int×Int×Int×Int×Int×(List Int)×Int×Int×(List Int)×Int×Int×Int×Int×(List Int)×(List Int))→Option Ans) (B:(Int×Int×Int×Int×Int×Int×Int×(List Int)×Int×Int×(List Int)×Int×Int×Int×Int×(List Int)×(List Int)→Option Ans)):Option Ans:=match v with | (l,m,n,o,p,q,r,s,t,u,a,b,d,e,f,g,h,i,j,k)=>Sg_bitmap_Draw_3 fuel (F_bitmap_Valid fuel) (F_bitmap_isShift fuel) (F_bitmap_clone fuel) (F_bitmap_combine fuel) (F_bitmap_at fuel) l m n o p q r s t u a b d e f g h i j k c B
def L_bitmap_Draw_3 (fuel:Nat) (v:V_bitmap_Draw_3) (b:W_bitmap_Draw_3):Option Ans:=iter (S_bitmap_Draw_3 fuel) fuel v b
def T106_3 (v:V_bitmap_Draw_3):Ev.St:=match v with | (l,m,n,o,p,q,r,s,t,u,a,b,d,e,f,g,h,i,j,k)=>⟨[(2,.c (i6 l)),(3,.c (i6 m)),(4,.c (i6 n)),(5,.c (.ptr 0 0)),(6,.c (.ptr 1 0)),(10,.c (.ptr 2 0)),(12,.c (.ptr 3 0)),(13,.c (i6 o)),(45,.c (i6 p)),(46,.c (i6 q)),(50,.c (i6 r)),(51,.c (i6 s))],[(0,.cells 51 [i6 t,i6 u,.sl (.int .u8) a]),(1,.cells 51 [i6 b,i6 d,.sl (.int .u8) e]),(2,.cells 51 [i6 f,i6 g,.own 4]),(3,.cells 51 [i6 h,i6 i,.own 5]),(4,.vec 5 (.int .u8) j true),(5,.vec 5 (.int .u8) k true)],6,0⟩
def E106_3 (K:KT):W_bitmap_Draw_3:=(fun v=>match v with | (i,j,k,l,m,n,o,p,q,r,a,b,d,e,f,g,h)=>K .normal ⟨[(2,.c (i6 i)),(3,.c (i6 j)),(4,.c (i6 k)),(5,.c (.ptr 0 0)),(6,.c (.ptr 1 0)),(10,.c (.ptr 2 0)),(12,.c (.ptr 3 0)),(45,.c (i6 l)),(46,.c (i6 m))],[(0,.cells 51 [i6 n,i6 o,.sl (.int .u8) p]),(1,.cells 51 [i6 q,i6 r,.sl (.int .u8) a]),(2,.cells 51 [i6 b,i6 d,.own 4]),(3,.cells 51 [i6 e,i6 f,.own 5]),(4,.vec 5 (.int .u8) g true),(5,.vec 5 (.int .u8) h true)],6,0⟩)
theorem S106_3_okg (fuel:Nat) (a:YF122) (b:YF196) (c:YF197) (d:YF198) (e:YF199) (R:Ev.St→OA) (K:KT) (p q:Int) (r s:Int) (t u:Int) (w x:Int) (y z:Int) (f:LI) (g h:Int) (i:LI) (j k:Int) (l m:Int) (n o:LI):evalCode tab (Gg106 a b c d e) J0 kp106 fuel (bodyOf 3 Tryz.f106) (T106_3 (p,q,r,s,t,u,w,x,y,z,f,g,h,i,j,k,l,m,n,o)) (lc kp106 10 3 R K)=Sg_bitmap_Draw_3 fuel a b c d e p q r s t u w x y z f g h i j k l m n o (fun v=>R (T106_3 v)) (E106_3 K):=by
  kernel_rfl
def B106_3 (fuel:Nat):Ev.Blk:=fun st K=>match canonO (kp106 10) st with | some s=>(match s with | ⟨[(N,.c (i6 O)),(P,.c (i6 Q)),(R,.c (i6 S)),(T,.c (.ptr U V)),(W,.c (.ptr X Y)),(Z,.c (.ptr a b)),(d,.c (.ptr e f)),(g,.c (i6 a0)),(h,.c (i6 a1)),(i,.c (i6 a2)),(j,.c (i6 a3)),(k,.c (i6 a4))],[(l,.cells m [i6 a5,i6 a6,.sl (.int .u8) n]),(o,.cells p [i6 q,i6 r,.sl (.int .u8) t]),(u,.cells v [i6 w,i6 x,.own y]),(z,.cells A [i6 B,i6 C,.own D]),(E,.vec F (.int .u8) G true),(H,.vec I (.int .u8) J true)],L,M⟩=>bif qb [N,P,R,T,U,V,W,X,Y,Z,a,b,d,e,f,g,h,i,j,k,l,m,o,p,u,v,y,z,A,D,E,F,H,I,L,M] [2,3,4,5,0,0,6,1,0,10,2,0,12,3,0,13,45,46,50,51,0,51,1,51,2,51,4,3,51,5,4,5,5,5,6,0] then iter (S_bitmap_Draw_3 fuel) fuel (O,Q,S,a0,a1,a2,a3,a4,a5,a6,n,q,r,t,w,x,B,C,G,J) (E106_3 K) else none | _=>none) | none=>none
theorem B106_3_ok (fuel:Nat) (st:Ev.St) (K:KT) (r:Ans) (h:B106_3 fuel st K=some r):evalCode tab (G106 fuel) J0 kp106 fuel (.block 3 (.loop (bodyOf 3 Tryz.f106))) st K=some r:=by
  unfold B106_3 at h
  split at h
  · rename_i s hs
    split at h
    · skip
      obtain ⟨hb,h⟩:=cond_some' h
      cases qb_eq hb
      exact blk_loop (S:=T106_3) (ks:=E106_3) (step:=S_bitmap_Draw_3 fuel) (v:=(_,_,_,_,_,_,_,_,_,_,_,_,_,_,_,_,_,_,_,_)) (by kernel_rfl) (by kernel_rfl) (fun R K v=>by obtain ⟨l,m,n,o,p,q,t,u,w,x,a,b,c,d,e,f,g,i,j,k⟩:=v; exact S106_3_okg fuel (F_bitmap_Valid fuel) (F_bitmap_isShift fuel) (F_bitmap_clone fuel) (F_bitmap_combine fuel) (F_bitmap_at fuel) R K l m n o p q t u w x a b c d e f g i j k) hs h
    · cases h
  · cases h
abbrev V_bitmap_Draw_1:Type:=Int×Int×Int×Int×Int×Int×Int×LI×Int×Int×LI×Int×Int×Int×Int×LI×LI
abbrev W_bitmap_Draw_1:Type:=(Int×Int×Int×Int×LI×LI→OA)
def Sg_bitmap_Draw_1 (fuel:Nat) (L:YF122) (M:YF196) (N:YF197) (O:YF198) (P:YF199) (E F:Int) (G j:Int) (a H I:Int) (J:LI) (k K:Int) (D:LI) (d e:Int) (f g:Int) (h i:LI) (c:V_bitmap_Draw_1→OA) (B:W_bitmap_Draw_1):OA:=match B with | b=>bif decide (a < j) then (L_bitmap_Draw_3 fuel (E,F,G,a,j,a,k,0,H,I,J,k,K,D,d,e,f,g,h,i) (fun (s,t,u,v,w,x,y,z,A,C,l,m,n,o,p,q,r)=>c (s,t,u,v,i64.wrap (w+1),x,y,z,A,C,l,m,n,o,p,q,r))) else b (d,e,f,g,h,i)
def S_bitmap_Draw_1 (fuel:Nat) (v:Int×Int×Int×Int×Int×Int×Int×(List Int)×Int×Int×(List Int)×Int×Int×Int×Int×(List Int)×(List Int)) (c:(Int×Int×Int×Int×Int×Int×Int×(List Int)×Int×Int×(List Int)×Int×Int×Int×Int×(List Int)×(List Int))→Option Ans) (B:(Int×Int×Int×Int×(List Int)×(List Int)→Option Ans)):Option Ans:=match v with | (i,j,k,l,m,n,o,p,q,r,a,b,d,e,f,g,h)=>Sg_bitmap_Draw_1 fuel (F_bitmap_Valid fuel) (F_bitmap_isShift fuel) (F_bitmap_clone fuel) (F_bitmap_combine fuel) (F_bitmap_at fuel) i j k l m n o p q r a b d e f g h c B
def L_bitmap_Draw_1 (fuel:Nat) (v:V_bitmap_Draw_1) (b:W_bitmap_Draw_1):Option Ans:=iter (S_bitmap_Draw_1 fuel) fuel v b
def J106_1 (fuel:Nat) (i:Nat):Option Ev.Blk:=Ev.look i [(100003,B106_3 fuel)]
def T106_1 (v:V_bitmap_Draw_1):Ev.St:=match v with | (i,j,k,l,m,n,o,p,q,r,a,b,d,e,f,g,h)=>⟨[(2,.c (i6 i)),(3,.c (i6 j)),(4,.c (i6 k)),(5,.c (.ptr 0 0)),(6,.c (.ptr 1 0)),(10,.c (.ptr 2 0)),(12,.c (.ptr 3 0)),(45,.c (i6 l)),(46,.c (i6 m))],[(0,.cells 51 [i6 n,i6 o,.sl (.int .u8) p]),(1,.cells 51 [i6 q,i6 r,.sl (.int .u8) a]),(2,.cells 51 [i6 b,i6 d,.own 4]),(3,.cells 51 [i6 e,i6 f,.own 5]),(4,.vec 5 (.int .u8) g true),(5,.vec 5 (.int .u8) h true)],6,0⟩
def E106_1 (K:KT):W_bitmap_Draw_1:=(fun v=>match v with | (a,b,d,e,f,g)=>K .normal ⟨[(10,.c (.ptr 0 0)),(12,.c (.ptr 1 0))],[(0,.cells 51 [i6 a,i6 b,.own 2]),(1,.cells 51 [i6 d,i6 e,.own 3]),(2,.vec 5 (.int .u8) f true),(3,.vec 5 (.int .u8) g true)],4,0⟩)
theorem S106_1_okg (fuel:Nat) (a:YF122) (b:YF196) (c:YF197) (d:YF198) (e:YF199) (R:Ev.St→OA) (K:KT) (m n:Int) (o p:Int) (q r s:Int) (t:LI) (u w:Int) (f:LI) (g h:Int) (i j:Int) (k l:LI):evalCode tab (Gg106 a b c d e) (J106_1 fuel) kp106 fuel (bodyOf 1 Tryz.f106) (T106_1 (m,n,o,p,q,r,s,t,u,w,f,g,h,i,j,k,l)) (lc kp106 7 1 R K)=Sg_bitmap_Draw_1 fuel a b c d e m n o p q r s t u w f g h i j k l (fun v=>R (T106_1 v)) (E106_1 K):=by
  kernel_rfl
def B106_1 (fuel:Nat):Ev.Blk:=fun st K=>match canonO (kp106 7) st with | some s=>(match s with | ⟨[(G,.c (i6 H)),(I,.c (i6 J)),(L,.c (i6 M)),(N,.c (.ptr O P)),(Q,.c (.ptr R S)),(T,.c (.ptr a b)),(d,.c (.ptr e f)),(g,.c (i6 U)),(h,.c (i6 V))],[(i,.cells j [i6 W,i6 X,.sl (.int .u8) Y]),(k,.cells l [i6 Z,i6 a0,.sl (.int .u8) m]),(n,.cells o [i6 p,i6 q,.own r]),(t,.cells u [i6 v,i6 w,.own x]),(y,.vec z (.int .u8) A true),(B,.vec C (.int .u8) D true)],E,F⟩=>bif qb [G,I,L,N,O,P,Q,R,S,T,a,b,d,e,f,g,h,i,j,k,l,n,o,r,t,u,x,y,z,B,C,E,F] [2,3,4,5,0,0,6,1,0,10,2,0,12,3,0,45,46,0,51,1,51,2,51,4,3,51,5,4,5,5,5,6,0] then iter (S_bitmap_Draw_1 fuel) fuel (H,J,M,U,V,W,X,Y,Z,a0,m,p,q,v,w,A,D) (E106_1 K) else none | _=>none) | none=>none
theorem B106_1_ok (fuel:Nat) (st:Ev.St) (K:KT) (r:Ans) (h:B106_1 fuel st K=some r):evalCode tab (G106 fuel) (J106_1 fuel) kp106 fuel (.block 1 (.loop (bodyOf 1 Tryz.f106))) st K=some r:=by
  unfold B106_1 at h
  split at h
  · rename_i s hs
    split at h
    · skip
      obtain ⟨hb,h⟩:=cond_some' h
      cases qb_eq hb
      exact blk_loop (S:=T106_1) (ks:=E106_1) (step:=S_bitmap_Draw_1 fuel) (v:=(_,_,_,_,_,_,_,_,_,_,_,_,_,_,_,_,_)) (by kernel_rfl) (by kernel_rfl) (fun R K v=>by obtain ⟨i,j,k,l,m,n,o,p,q,t,a,b,c,d,e,f,g⟩:=v; exact S106_1_okg fuel (F_bitmap_Valid fuel) (F_bitmap_isShift fuel) (F_bitmap_clone fuel) (F_bitmap_combine fuel) (F_bitmap_at fuel) R K i j k l m n o p q t a b c d e f g) hs h
    · cases h
  · cases h
def J106 (fuel:Nat) (i:Nat):Option Ev.Blk:=Ev.look i [(100003,B106_3 fuel),(100001,B106_1 fuel)]
def Fg_bitmap_Draw (fuel:Nat) (f:YF122) (n:YF196) (o:YF197) (v:YF198) (w:YF199) (a b:Int) (c:LI) (g d:Int) (h:LI) (i j e:Int) (k0:(Int×Int×Int×LI)→OA):OA:=(f a b c (fun t=>bif !t then k0 (0,0,30,[]) else (f g d h (fun u=>bif !u then k0 (0,0,30,[]) else bif decide (e < 0) then k0 (0,0,2,[]) else bif decide (e > 4) then k0 (0,0,2,[]) else (n i j (fun s=>bif !s then k0 (0,0,2,[]) else (o a b c (fun (k,l,m)=>(L_bitmap_Draw_1 fuel (i,j,e,d,0,a,b,c,g,d,h,0,0,k,l,[],m) (fun (x,y,p,q,z,r)=>k0 (p,q,0,r)))))))))))
abbrev YF106:Type:=Int→Int→LI→Int→Int→LI→Int→Int→Int→((Int×Int×Int×LI)→Option Ans)→Option Ans
def F_bitmap_Draw (fuel:Nat):YF106:=Fg_bitmap_Draw fuel (F_bitmap_Valid fuel) (F_bitmap_isShift fuel) (F_bitmap_clone fuel) (F_bitmap_combine fuel) (F_bitmap_at fuel)
theorem F106_eqg (fuel:Nat) (a:YF122) (b:YF196) (d:YF197) (e:YF198) (f:YF199) (g h:Int) (i:LI) (j l:Int) (m:LI) (n o p:Int) (k:Ev.Cont):evalFn tab (Gg106 a b d e f) (J106 fuel) kp106 fuel Tryz.f106 [.agg [i6 g,i6 h,.sl (.int .u8) i],.agg [i6 j,i6 l,.sl (.int .u8) m],.c (i6 n),.c (i6 o),.c (i6 p)] [] k=Fg_bitmap_Draw fuel a b d e f g h i j l m n o p (fun r=>match r with | (q,s,t,u)=>k (.tup [(true,[i6 q,i6 s,.own 0]),(false,[i6 t])],[.vec 5 (.int .u8) u true])):=by
  kernel_rfl
theorem hG106 (fuel:Nat):GOK Tryz.prog (G106 fuel):=
  gc (ok122 fuel) Tryz.func122 (by kernel_rfl) rfl <|
  gc (ok196 fuel) Tryz.func196 (by kernel_rfl) rfl <|
  gc (ok197 fuel) Tryz.func197 (by kernel_rfl) rfl <|
  gc (ok198 fuel) Tryz.func198 (by kernel_rfl) rfl <|
  gc (ok199 fuel) Tryz.func199 (by kernel_rfl) rfl <|
  gok_nil
theorem B106_3_blk (fuel:Nat):BlkOK Tryz.prog Tryz.f106.ntmps (.block 3 (.loop (bodyOf 3 Tryz.f106))) (B106_3 fuel):=bo0 (hG106 fuel) (by kernel_rfl) (by kernel_rfl) (B106_3_ok fuel)
theorem B106_1_blk (fuel:Nat):BlkOK Tryz.prog Tryz.f106.ntmps (.block 1 (.loop (bodyOf 1 Tryz.f106))) (B106_1 fuel):=
  blk_of (blk_of_code tab_ok (hG106 fuel) mixed (J:=J106_1 fuel) (kp:=kp106) (fuel:=fuel) (by kernel_rfl) (fun q hq=>by
    rw [(by kernel_rfl:obl (J106_1 fuel) (.block 1 (.loop (bodyOf 1 Tryz.f106)))= [(.block 3 (.loop (bodyOf 3 Tryz.f106)),B106_3 fuel)])] at hq
    simp only [List.mem_cons,List.not_mem_nil,or_false] at hq
    subst hq
    · exact B106_3_blk fuel)) (B106_1_ok fuel)
def spg106 (F:YF106):Ev.Spec:=fun args objs k=>match args,objs with | [.agg [i6 a,i6 b,.sl (.int .u8) d],.agg [i6 e,i6 f,.sl (.int .u8) g],.c (i6 h),.c (i6 i),.c (i6 j)],[]=>F a b d e f g h i j (fun r=>match r with | (l,m,n,o)=>k (.tup [(true,[i6 l,i6 m,.own 0]),(false,[i6 n])],[.vec 5 (.int .u8) o true])) | _,_=>none
theorem ok106 (fuel:Nat):FnOK Tryz.prog 106 (spg106 (F_bitmap_Draw fuel)):=by
  intro args objs kk r h
  unfold spg106 at h
  split at h
  · skip
    exact fo1 (hG106 fuel) Tryz.func106 rfl (B106_1_blk fuel) (by kernel_rfl) _ _ kk r ((F106_eqg fuel (F_bitmap_Valid fuel) (F_bitmap_isShift fuel) (F_bitmap_clone fuel) (F_bitmap_combine fuel) (F_bitmap_at fuel) _ _ _ _ _ _ _ _ _ kk).trans h)
  · cases h
def kp195 (i:Nat):Option (List Nat):=Ev.look i []
def Gg195 (a:YF212) (f:Nat):Option Ev.Spec:=Ev.look f [(212,spg212 a)]
def G195 (fuel:Nat):Nat→Option Ev.Spec:=Gg195 (F_bitmap_fits fuel)
def Fg_bitmap_blank (fuel:Nat) (c:YF212) (a b:Int) (k0:(Int×Int×Int×LI)→OA):OA:=(c a b (fun d=>bif !d then k0 (0,0,4,[]) else bif decide (0≤i64.wrap (a*b)∧i64.wrap (a*b)=i64.wrap (a*b)∧(↑(1:Nat):Int)*i64.wrap (a*b)≤281474976710656∧i64.wrap (a*b)≤281474976710656) then k0 (a,b,0,List.replicate (i64.wrap (a*b)).toNat (0:Int)) else none))
abbrev YF195:Type:=Int→Int→((Int×Int×Int×LI)→Option Ans)→Option Ans
def F_bitmap_blank (fuel:Nat):YF195:=Fg_bitmap_blank fuel (F_bitmap_fits fuel)
theorem F195_eqg (fuel:Nat) (a:YF212) (b d:Int) (k:Ev.Cont):evalFn tab (Gg195 a) J0 kp195 fuel Tryz.f195 [.c (i6 b),.c (i6 d)] [] k=Fg_bitmap_blank fuel a b d (fun r=>match r with | (e,f,g,h)=>k (.tup [(true,[i6 e,i6 f,.own 0]),(false,[i6 g])],[.vec 5 (.int .u8) h true])):=by
  kernel_rfl
theorem hG195 (fuel:Nat):GOK Tryz.prog (G195 fuel):=
  gc (ok212 fuel) Tryz.func212 (by kernel_rfl) rfl <|
  gok_nil
def spg195 (F:YF195):Ev.Spec:=fun args objs k=>match args,objs with | [.c (i6 a),.c (i6 b)],[]=>F a b (fun r=>match r with | (d,e,f,g)=>k (.tup [(true,[i6 d,i6 e,.own 0]),(false,[i6 f])],[.vec 5 (.int .u8) g true])) | _,_=>none
theorem ok195 (fuel:Nat):FnOK Tryz.prog 195 (spg195 (F_bitmap_blank fuel)):=by
  intro args objs kk r h
  unfold spg195 at h
  split at h
  · skip
    exact fo0 (hG195 fuel) Tryz.func195 rfl (by kernel_rfl) _ _ kk r ((F195_eqg fuel (F_bitmap_fits fuel) _ _ kk).trans h)
  · cases h
def kp105 (i:Nat):Option (List Nat):=Ev.look i [(5,[2,6,8,9,34,35]),(100000,[6,8,9]),(400000,[6,7])]
def Gg105 (a:YF195) (f:Nat):Option Ev.Spec:=Ev.look f [(195,spg195 a)]
def G105 (fuel:Nat):Nat→Option Ev.Spec:=Gg105 (F_bitmap_blank fuel)
abbrev V_bitmap_New_0:Type:=Int×Int×Int×Int×Int×Int×Int×Int×LI×LI
abbrev W_bitmap_New_0:Type:=(Int×Int×Int×Int×Int×LI×LI→OA)
def Sg_bitmap_New_0 (fuel:Nat) (m:YF195) (e f:Int) (g a:Int) (h i:Int) (j k:Int) (l d:LI) (c:V_bitmap_New_0→OA) (B:W_bitmap_New_0):OA:=match B with | b=>bif decide (a < g) then bif decide (0≤a∧a < (↑d.length:Int)) then c (e,f,g,i64.wrap (a+1),h,i,j,k,l,d.set a.toNat (u8.wrap e)) else none else b (f,h,i,j,k,l,d)
def S_bitmap_New_0 (fuel:Nat) (v:Int×Int×Int×Int×Int×Int×Int×Int×(List Int)×(List Int)) (c:(Int×Int×Int×Int×Int×Int×Int×Int×(List Int)×(List Int))→Option Ans) (B:(Int×Int×Int×Int×Int×(List Int)×(List Int)→Option Ans)):Option Ans:=match v with | (a,b,d,e,f,g,h,i,j,k)=>Sg_bitmap_New_0 fuel (F_bitmap_blank fuel) a b d e f g h i j k c B
def L_bitmap_New_0 (fuel:Nat) (v:V_bitmap_New_0) (b:W_bitmap_New_0):Option Ans:=iter (S_bitmap_New_0 fuel) fuel v b
def T105_0 (v:V_bitmap_New_0):Ev.St:=match v with | (a,b,d,e,f,g,h,i,j,k)=>⟨[(2,.c (i6 a)),(6,.c (.ptr 0 0)),(8,.c (.ptr 1 0)),(9,.c (i6 b)),(34,.c (i6 d)),(35,.c (i6 e))],[(0,.cells 51 [i6 f,i6 g,.own 2]),(1,.cells 51 [i6 h,i6 i,.own 3]),(2,.vec 5 (.int .u8) j true),(3,.vec 5 (.int .u8) k true)],4,0⟩
def E105_0 (K:KT):W_bitmap_New_0:=(fun v=>match v with | (a,b,d,e,f,g,h)=>K .normal ⟨[(6,.c (.ptr 0 0)),(8,.c (.ptr 1 0)),(9,.c (i6 a))],[(0,.cells 51 [i6 b,i6 d,.own 2]),(1,.cells 51 [i6 e,i6 f,.own 3]),(2,.vec 5 (.int .u8) g true),(3,.vec 5 (.int .u8) h true)],4,0⟩)
theorem S105_0_okg (fuel:Nat) (a:YF195) (R:Ev.St→OA) (K:KT) (b c:Int) (d e:Int) (f g:Int) (h i:Int) (j k:LI):evalCode tab (Gg105 a) J0 kp105 fuel (bodyOf 0 Tryz.f105) (T105_0 (b,c,d,e,f,g,h,i,j,k)) (lc kp105 5 0 R K)=Sg_bitmap_New_0 fuel a b c d e f g h i j k (fun v=>R (T105_0 v)) (E105_0 K):=by
  kernel_rfl
def B105_0 (fuel:Nat):Ev.Blk:=fun st K=>match canonO (kp105 5) st with | some s=>(match s with | ⟨[(n,.c (i6 o)),(p,.c (.ptr q r)),(t,.c (.ptr u v)),(w,.c (i6 x)),(y,.c (i6 z)),(A,.c (i6 B))],[(a,.cells b [i6 C,i6 D,.own d]),(e,.cells f [i6 E,i6 F,.own g]),(h,.vec i (.int .u8) G true),(j,.vec k (.int .u8) H true)],l,m⟩=>bif qb [n,p,q,r,t,u,v,w,y,A,a,b,d,e,f,g,h,i,j,k,l,m] [2,6,0,0,8,1,0,9,34,35,0,51,2,1,51,3,2,5,3,5,4,0] then iter (S_bitmap_New_0 fuel) fuel (o,x,z,B,C,D,E,F,G,H) (E105_0 K) else none | _=>none) | none=>none
theorem B105_0_ok (fuel:Nat) (st:Ev.St) (K:KT) (r:Ans) (h:B105_0 fuel st K=some r):evalCode tab (G105 fuel) J0 kp105 fuel (.block 0 (.loop (bodyOf 0 Tryz.f105))) st K=some r:=by
  unfold B105_0 at h
  split at h
  · rename_i s hs
    split at h
    · skip
      obtain ⟨hb,h⟩:=cond_some' h
      cases qb_eq hb
      exact blk_loop (S:=T105_0) (ks:=E105_0) (step:=S_bitmap_New_0 fuel) (v:=(_,_,_,_,_,_,_,_,_,_)) (by kernel_rfl) (by kernel_rfl) (fun R K v=>by obtain ⟨a,b,c,d,e,f,g,i,j,k⟩:=v; exact S105_0_okg fuel (F_bitmap_blank fuel) R K a b c d e f g i j k) hs h
    · cases h
  · cases h
def J105 (fuel:Nat) (i:Nat):Option Ev.Blk:=Ev.look i [(100000,B105_0 fuel)]
def Fg_bitmap_New (fuel:Nat) (h:YF195) (f g a:Int) (k0:(Int×Int×Int×LI)→OA):OA:=bif decide (f < 0) then k0 (0,0,2,[]) else bif decide (g < 0) then k0 (0,0,2,[]) else bif a != 0 then bif a != 1 then k0 (0,0,2,[]) else (h f g (fun (k,l,m,i)=>(L_bitmap_New_0 fuel (a,m,(↑i.length:Int),0,0,0,k,l,[],i) (fun (b,n,o,c,d,p,e)=>k0 (c,d,b,e))))) else (h f g (fun (q,r,s,j)=>(L_bitmap_New_0 fuel (a,s,(↑j.length:Int),0,0,0,q,r,[],j) (fun (b,n,o,c,d,p,e)=>k0 (c,d,b,e)))))
abbrev YF105:Type:=Int→Int→Int→((Int×Int×Int×LI)→Option Ans)→Option Ans
def F_bitmap_New (fuel:Nat):YF105:=Fg_bitmap_New fuel (F_bitmap_blank fuel)
theorem F105_eqg (fuel:Nat) (a:YF195) (b d e:Int) (k:Ev.Cont):evalFn tab (Gg105 a) (J105 fuel) kp105 fuel Tryz.f105 [.c (i6 b),.c (i6 d),.c (i6 e)] [] k=Fg_bitmap_New fuel a b d e (fun r=>match r with | (f,g,h,i)=>k (.tup [(true,[i6 f,i6 g,.own 0]),(false,[i6 h])],[.vec 5 (.int .u8) i true])):=by
  kernel_rfl
theorem hG105 (fuel:Nat):GOK Tryz.prog (G105 fuel):=
  gc (ok195 fuel) Tryz.func195 (by kernel_rfl) rfl <|
  gok_nil
theorem B105_0_blk (fuel:Nat):BlkOK Tryz.prog Tryz.f105.ntmps (.block 0 (.loop (bodyOf 0 Tryz.f105))) (B105_0 fuel):=bo0 (hG105 fuel) (by kernel_rfl) (by kernel_rfl) (B105_0_ok fuel)
def spg105 (F:YF105):Ev.Spec:=fun args objs k=>match args,objs with | [.c (i6 a),.c (i6 b),.c (i6 d)],[]=>F a b d (fun r=>match r with | (e,f,g,h)=>k (.tup [(true,[i6 e,i6 f,.own 0]),(false,[i6 g])],[.vec 5 (.int .u8) h true])) | _,_=>none
theorem ok105 (fuel:Nat):FnOK Tryz.prog 105 (spg105 (F_bitmap_New fuel)):=by
  intro args objs kk r h
  unfold spg105 at h
  split at h
  · skip
    exact fo1 (hG105 fuel) Tryz.func105 rfl (B105_0_blk fuel) (by kernel_rfl) _ _ kk r ((F105_eqg fuel (F_bitmap_blank fuel) _ _ _ kk).trans h)
  · cases h
def kp160 (i:Nat):Option (List Nat):=Ev.look i []
def Gg160 (a:YF122) (f:Nat):Option Ev.Spec:=Ev.look f [(122,spg122 a)]
def G160 (fuel:Nat):Nat→Option Ev.Spec:=Gg160 (F_bitmap_Valid fuel)
def Fg_text_isShape (fuel:Nat) (c:YF122) (a b:Int) (d:LI) (k0:(Bool)→OA):OA:=(c a b d (fun e=>bif e then bif decide (a≥1) then bif decide (a≤40) then bif decide (b≥1) then k0 (decide (b≤40)) else k0 false else k0 false else k0 false else k0 false))
abbrev YF160:Type:=Int→Int→LI→(Bool→Option Ans)→Option Ans
def F_text_isShape (fuel:Nat):YF160:=Fg_text_isShape fuel (F_bitmap_Valid fuel)
theorem F160_eqg (fuel:Nat) (a:YF122) (b d:Int) (e:LI) (k:Ev.Cont):evalFn tab (Gg160 a) J0 kp160 fuel Tryz.f160 [.agg [i6 b,i6 d,.sl (.int .u8) e]] [] k=Fg_text_isShape fuel a b d e (fun r=>match r with | f=>k (.c (.bool f),[])):=by
  kernel_rfl
theorem hG160 (fuel:Nat):GOK Tryz.prog (G160 fuel):=
  gc (ok122 fuel) Tryz.func122 (by kernel_rfl) rfl <|
  gok_nil
def spg160 (F:YF160):Ev.Spec:=fun args objs k=>match args,objs with | [.agg [i6 a,i6 b,.sl (.int .u8) d]],[]=>F a b d (fun r=>match r with | e=>k (.c (.bool e),[])) | _,_=>none
theorem ok160 (fuel:Nat):FnOK Tryz.prog 160 (spg160 (F_text_isShape fuel)):=by
  intro args objs kk r h
  unfold spg160 at h
  split at h
  · skip
    exact fo0 (hG160 fuel) Tryz.func160 rfl (by kernel_rfl) _ _ kk r ((F160_eqg fuel (F_bitmap_Valid fuel) _ _ _ kk).trans h)
  · cases h
def kp159 (i:Nat):Option (List Nat):=Ev.look i []
def Gg159 (a:YF160) (f:Nat):Option Ev.Spec:=Ev.look f [(160,spg160 a)]
def G159 (fuel:Nat):Nat→Option Ev.Spec:=Gg159 (F_text_isShape fuel)
def Fg_text_begun_1 (fuel:Nat) (a:YF160) (b c:Int) (d:LI) (k0:(Bool)→OA):OA:=(a b c d (fun e=>k0 !e))
abbrev YF159:Type:=Int→Int→LI→(Bool→Option Ans)→Option Ans
def F_text_begun_1 (fuel:Nat):YF159:=Fg_text_begun_1 fuel (F_text_isShape fuel)
theorem F159_eqg (fuel:Nat) (a:YF160) (b d:Int) (e:LI) (k:Ev.Cont):evalFn tab (Gg159 a) J0 kp159 fuel Tryz.f159 [.agg [i6 b,i6 d,.sl (.int .u8) e]] [] k=Fg_text_begun_1 fuel a b d e (fun r=>match r with | f=>k (.c (.bool f),[])):=by
  kernel_rfl
theorem hG159 (fuel:Nat):GOK Tryz.prog (G159 fuel):=
  gc (ok160 fuel) Tryz.func160 (by kernel_rfl) rfl <|
  gok_nil
def spg159 (F:YF159):Ev.Spec:=fun args objs k=>match args,objs with | [.agg [i6 a,i6 b,.sl (.int .u8) d]],[]=>F a b d (fun r=>match r with | e=>k (.c (.bool e),[])) | _,_=>none
theorem ok159 (fuel:Nat):FnOK Tryz.prog 159 (spg159 (F_text_begun_1 fuel)):=by
  intro args objs kk r h
  unfold spg159 at h
  split at h
  · skip
    exact fo0 (hG159 fuel) Tryz.func159 rfl (by kernel_rfl) _ _ kk r ((F159_eqg fuel (F_text_isShape fuel) _ _ _ kk).trans h)
  · cases h
def kp226_261 (i:Nat):Option (List Nat):=Ev.look i [(2,[0,1,7,8]),(100000,[]),(400000,[4])]
def Gg226_261 (a:YF159) (f:Nat):Option Ev.Spec:=Ev.look f [(159,spg159 a)]
def G226_261 (fuel:Nat):Nat→Option Ev.Spec:=Gg226_261 (F_text_begun_1 fuel)
abbrev V_slices_IndexFunc_api_Bitmap_api_Bitmap_261_0:Type:=(List (Int×(Int×LI)))×Int×Int
abbrev W_slices_IndexFunc_api_Bitmap_api_Bitmap_261_0:Type:=(Int→OA)×(Unit→OA)
def Sg_slices_IndexFunc_api_Bitmap_api_Bitmap_261_0 (fuel:Nat) (f:YF159) (d:(List (Int×(Int×LI)))) (e a:Int) (c:V_slices_IndexFunc_api_Bitmap_api_Bitmap_261_0→OA) (B:W_slices_IndexFunc_api_Bitmap_api_Bitmap_261_0):OA:=match B with | (ret,b)=>bif decide (a < e) then bif decide (0≤a∧a < (↑d.length:Int)) then (f ((d.getD a.toNat (0,0,[])).fst) ((d.getD a.toNat (0,0,[])).snd.fst) ((d.getD a.toNat (0,0,[])).snd.snd) (fun g=>bif g then ret a else c (d,e,i64.wrap (a+1)))) else none else b ()
def S_slices_IndexFunc_api_Bitmap_api_Bitmap_261_0 (fuel:Nat) (v:(List (Int×(Int×(List Int))))×Int×Int) (c:((List (Int×(Int×(List Int))))×Int×Int)→Option Ans) (B:(Int→Option Ans)×(Unit→Option Ans)):Option Ans:=match v with | (a,b,d)=>Sg_slices_IndexFunc_api_Bitmap_api_Bitmap_261_0 fuel (F_text_begun_1 fuel) a b d c B
def L_slices_IndexFunc_api_Bitmap_api_Bitmap_261_0 (fuel:Nat) (v:V_slices_IndexFunc_api_Bitmap_api_Bitmap_261_0) (ret:(Int→Option Ans)) (b:(Unit→Option Ans)):Option Ans:=iter (S_slices_IndexFunc_api_Bitmap_api_Bitmap_261_0 fuel) fuel v (ret,b)
def T226_261_0 (v:V_slices_IndexFunc_api_Bitmap_api_Bitmap_261_0):Ev.St:=match v with | (a,b,d)=>⟨[(0,.c (.sl (.pair (.int .i64) (.pair (.int .i64) (.sl (.int .u8)))) a)),(1,.c (.clo 159 [])),(7,.c (i6 b)),(8,.c (i6 d))],[],0,0⟩
def E226_261_0 (K:KT):W_slices_IndexFunc_api_Bitmap_api_Bitmap_261_0:=((fun v=>match v with | a=>K .ret ⟨[(4,.c (i6 a))],[],0,0⟩),(fun v=>match v with | ()=>K .normal ⟨[],[],0,0⟩))
theorem S226_261_0_okg (fuel:Nat) (a:YF159) (R:Ev.St→OA) (K:KT) (b:(List (Int×(Int×LI)))) (c d:Int):evalCode tab (Gg226_261 a) J0 kp226_261 fuel (bodyOf 0 Tryz.f226) (T226_261_0 (b,c,d)) (lc kp226_261 2 0 R K)=Sg_slices_IndexFunc_api_Bitmap_api_Bitmap_261_0 fuel a b c d (fun v=>R (T226_261_0 v)) (E226_261_0 K):=by
  kernel_rfl
def B226_261_0 (fuel:Nat):Ev.Blk:=fun st K=>match canonO (kp226_261 2) st with | some s=>(match s with | ⟨[(a,.c (.sl (.pair (.int .i64) (.pair (.int .i64) (.sl (.int .u8)))) b)),(d,.c (.clo e [])),(f,.c (i6 g)),(h,.c (i6 i))],[],j,k⟩=>bif qb [a,d,e,f,h,j,k] [0,1,159,7,8,0,0] then iter (S_slices_IndexFunc_api_Bitmap_api_Bitmap_261_0 fuel) fuel (b,g,i) (E226_261_0 K) else none | _=>none) | none=>none
theorem B226_261_0_ok (fuel:Nat) (st:Ev.St) (K:KT) (r:Ans) (h:B226_261_0 fuel st K=some r):evalCode tab (G226_261 fuel) J0 kp226_261 fuel (.block 0 (.loop (bodyOf 0 Tryz.f226))) st K=some r:=by
  unfold B226_261_0 at h
  split at h
  · rename_i s hs
    split at h
    · skip
      obtain ⟨hb,h⟩:=cond_some' h
      cases qb_eq hb
      exact blk_loop (S:=T226_261_0) (ks:=E226_261_0) (step:=S_slices_IndexFunc_api_Bitmap_api_Bitmap_261_0 fuel) (v:=(_,_,_)) (by kernel_rfl) (by kernel_rfl) (fun R K v=>by obtain ⟨a,b,c⟩:=v; exact S226_261_0_okg fuel (F_text_begun_1 fuel) R K a b c) hs h
    · cases h
  · cases h
def J226_261 (fuel:Nat) (i:Nat):Option Ev.Blk:=Ev.look i [(100000,B226_261_0 fuel)]
def Fg_slices_IndexFunc_api_Bitmap_api_Bitmap_261 (fuel:Nat) (b:YF159) (a:(List (Int×(Int×LI)))) (k0:(Int)→OA):OA:=(L_slices_IndexFunc_api_Bitmap_api_Bitmap_261_0 fuel (a,(↑a.length:Int),0) (fun ret0_0=>k0 ret0_0) (fun ()=>k0 ((-1:Int))))
abbrev YF226_261:Type:=((List (Int×(Int×LI))))→(Int→Option Ans)→Option Ans
def F_slices_IndexFunc_api_Bitmap_api_Bitmap_261 (fuel:Nat):YF226_261:=Fg_slices_IndexFunc_api_Bitmap_api_Bitmap_261 fuel (F_text_begun_1 fuel)
theorem F226_261_eqg (fuel:Nat) (a:YF159) (b:(List (Int×(Int×LI)))) (k:Ev.Cont):evalFn tab (Gg226_261 a) (J226_261 fuel) kp226_261 fuel Tryz.f226 [.c (.sl (.pair (.int .i64) (.pair (.int .i64) (.sl (.int .u8)))) b),.c (.clo 159 [])] [] k=Fg_slices_IndexFunc_api_Bitmap_api_Bitmap_261 fuel a b (fun r=>match r with | d=>k (.c (i6 d),[])):=by
  kernel_rfl
theorem hG226_261 (fuel:Nat):GOK Tryz.prog (G226_261 fuel):=
  gc (ok159 fuel) Tryz.func159 (by kernel_rfl) rfl <|
  gok_nil
theorem B226_261_0_blk (fuel:Nat):BlkOK Tryz.prog Tryz.f226.ntmps (.block 0 (.loop (bodyOf 0 Tryz.f226))) (B226_261_0 fuel):=bo0 (hG226_261 fuel) (by kernel_rfl) (by kernel_rfl) (B226_261_0_ok fuel)
def spg226_261 (F:YF226_261):Ev.Spec:=fun args objs k=>match args,objs with | [.c (.sl (.pair (.int .i64) (.pair (.int .i64) (.sl (.int .u8)))) a),.c (.clo b [])],[]=>bif qb [b] [159] then F a (fun r=>match r with | d=>k (.c (i6 d),[])) else none | _,_=>none
theorem ok226_261 (fuel:Nat):FnOK Tryz.prog 226 (spg226_261 (F_slices_IndexFunc_api_Bitmap_api_Bitmap_261 fuel)):=by
  intro args objs kk r h
  unfold spg226_261 at h
  split at h
  · skip
    obtain ⟨hb,h⟩:=cond_some' h
    cases qb_eq hb
    exact fo1 (hG226_261 fuel) Tryz.func226 rfl (B226_261_0_blk fuel) (by kernel_rfl) _ _ kk r ((F226_261_eqg fuel (F_text_begun_1 fuel) _ kk).trans h)
  · cases h
def kp158_261 (i:Nat):Option (List Nat):=Ev.look i []
def Gg158_261 (a:YF226_261) (f:Nat):Option Ev.Spec:=Ev.look f [(226,spg226_261 a)]
def G158_261 (fuel:Nat):Nat→Option Ev.Spec:=Gg158_261 (F_slices_IndexFunc_api_Bitmap_api_Bitmap_261 fuel)
def Fg_slices_ContainsFunc_api_Bitmap_api_Bitmap_261 (fuel:Nat) (a:YF226_261) (b:(List (Int×(Int×LI)))) (k0:(Bool)→OA):OA:=(a b (fun c=>k0 (decide (c≥0))))
abbrev YF158_261:Type:=((List (Int×(Int×LI))))→(Bool→Option Ans)→Option Ans
def F_slices_ContainsFunc_api_Bitmap_api_Bitmap_261 (fuel:Nat):YF158_261:=Fg_slices_ContainsFunc_api_Bitmap_api_Bitmap_261 fuel (F_slices_IndexFunc_api_Bitmap_api_Bitmap_261 fuel)
theorem F158_261_eqg (fuel:Nat) (a:YF226_261) (b:(List (Int×(Int×LI)))) (k:Ev.Cont):evalFn tab (Gg158_261 a) J0 kp158_261 fuel Tryz.f158 [.c (.sl (.pair (.int .i64) (.pair (.int .i64) (.sl (.int .u8)))) b),.c (.clo 159 [])] [] k=Fg_slices_ContainsFunc_api_Bitmap_api_Bitmap_261 fuel a b (fun r=>match r with | d=>k (.c (.bool d),[])):=by
  kernel_rfl
theorem hG158_261 (fuel:Nat):GOK Tryz.prog (G158_261 fuel):=
  gc (ok226_261 fuel) Tryz.func226 (by kernel_rfl) rfl <|
  gok_nil
def spg158_261 (F:YF158_261):Ev.Spec:=fun args objs k=>match args,objs with | [.c (.sl (.pair (.int .i64) (.pair (.int .i64) (.sl (.int .u8)))) a),.c (.clo b [])],[]=>bif qb [b] [159] then F a (fun r=>match r with | d=>k (.c (.bool d),[])) else none | _,_=>none
theorem ok158_261 (fuel:Nat):FnOK Tryz.prog 158 (spg158_261 (F_slices_ContainsFunc_api_Bitmap_api_Bitmap_261 fuel)):=by
  intro args objs kk r h
  unfold spg158_261 at h
  split at h
  · skip
    obtain ⟨hb,h⟩:=cond_some' h
    cases qb_eq hb
    exact fo0 (hG158_261 fuel) Tryz.func158 rfl (by kernel_rfl) _ _ kk r ((F158_261_eqg fuel (F_slices_IndexFunc_api_Bitmap_api_Bitmap_261 fuel) _ kk).trans h)
  · cases h
def kp162 (i:Nat):Option (List Nat):=Ev.look i []
def Gg162 (a:YF160) (f:Nat):Option Ev.Spec:=Ev.look f [(160,spg160 a)]
def G162 (fuel:Nat):Nat→Option Ev.Spec:=Gg162 (F_text_isShape fuel)
def Fg_text_begun_2 (fuel:Nat) (a:YF160) (g h i:Int) (b:Bool) (j k:Int) (c d:Int) (e:LI) (k0:(Bool)→OA):OA:=bif b then (a c d e (fun f=>k0 !f)) else k0 false
abbrev YF162:Type:=Int→Int→Int→Bool→Int→Int→Int→Int→LI→(Bool→Option Ans)→Option Ans
def F_text_begun_2 (fuel:Nat):YF162:=Fg_text_begun_2 fuel (F_text_isShape fuel)
theorem F162_eqg (fuel:Nat) (a:YF160) (b d e:Int) (f:Bool) (g h:Int) (i j:Int) (l:LI) (k:Ev.Cont):evalFn tab (Gg162 a) J0 kp162 fuel Tryz.f162 [.agg [i6 b,i6 d,i6 e,.bool f,i6 g,i6 h,i6 i,i6 j,.sl (.int .u8) l]] [] k=Fg_text_begun_2 fuel a b d e f g h i j l (fun r=>match r with | m=>k (.c (.bool m),[])):=by
  kernel_rfl
theorem hG162 (fuel:Nat):GOK Tryz.prog (G162 fuel):=
  gc (ok160 fuel) Tryz.func160 (by kernel_rfl) rfl <|
  gok_nil
def spg162 (F:YF162):Ev.Spec:=fun args objs k=>match args,objs with | [.agg [i6 a,i6 b,i6 d,.bool e,i6 f,i6 g,i6 h,i6 i,.sl (.int .u8) j]],[]=>F a b d e f g h i j (fun r=>match r with | l=>k (.c (.bool l),[])) | _,_=>none
theorem ok162 (fuel:Nat):FnOK Tryz.prog 162 (spg162 (F_text_begun_2 fuel)):=by
  intro args objs kk r h
  unfold spg162 at h
  split at h
  · skip
    exact fo0 (hG162 fuel) Tryz.func162 rfl (by kernel_rfl) _ _ kk r ((F162_eqg fuel (F_text_isShape fuel) _ _ _ _ _ _ _ _ _ kk).trans h)
  · cases h
def kp227_177 (i:Nat):Option (List Nat):=Ev.look i [(2,[0,1,7,8]),(100000,[]),(400000,[4])]
def Gg227_177 (a:YF162) (f:Nat):Option Ev.Spec:=Ev.look f [(162,spg162 a)]
def G227_177 (fuel:Nat):Nat→Option Ev.Spec:=Gg227_177 (F_text_begun_2 fuel)
abbrev V_slices_IndexFunc_api_Item_api_Item_177_0:Type:=(List (Int×(Int×(Int×(Bool×(Int×(Int×(Int×(Int×LI)))))))))×Int×Int
abbrev W_slices_IndexFunc_api_Item_api_Item_177_0:Type:=(Int→OA)×(Unit→OA)
def Sg_slices_IndexFunc_api_Item_api_Item_177_0 (fuel:Nat) (f:YF162) (d:(List (Int×(Int×(Int×(Bool×(Int×(Int×(Int×(Int×LI)))))))))) (e a:Int) (c:V_slices_IndexFunc_api_Item_api_Item_177_0→OA) (B:W_slices_IndexFunc_api_Item_api_Item_177_0):OA:=match B with | (ret,b)=>bif decide (a < e) then bif decide (0≤a∧a < (↑d.length:Int)) then (f ((d.getD a.toNat (0,0,0,false,0,0,0,0,[])).fst) ((d.getD a.toNat (0,0,0,false,0,0,0,0,[])).snd.fst) ((d.getD a.toNat (0,0,0,false,0,0,0,0,[])).snd.snd.fst) ((d.getD a.toNat (0,0,0,false,0,0,0,0,[])).snd.snd.snd.fst) ((d.getD a.toNat (0,0,0,false,0,0,0,0,[])).snd.snd.snd.snd.fst) ((d.getD a.toNat (0,0,0,false,0,0,0,0,[])).snd.snd.snd.snd.snd.fst) ((d.getD a.toNat (0,0,0,false,0,0,0,0,[])).snd.snd.snd.snd.snd.snd.fst) ((d.getD a.toNat (0,0,0,false,0,0,0,0,[])).snd.snd.snd.snd.snd.snd.snd.fst) ((d.getD a.toNat (0,0,0,false,0,0,0,0,[])).snd.snd.snd.snd.snd.snd.snd.snd) (fun g=>bif g then ret a else c (d,e,i64.wrap (a+1)))) else none else b ()
def S_slices_IndexFunc_api_Item_api_Item_177_0 (fuel:Nat) (v:(List (Int×(Int×(Int×(Bool×(Int×(Int×(Int×(Int×(List Int))))))))))×Int×Int) (c:((List (Int×(Int×(Int×(Bool×(Int×(Int×(Int×(Int×(List Int))))))))))×Int×Int)→Option Ans) (B:(Int→Option Ans)×(Unit→Option Ans)):Option Ans:=match v with | (a,b,d)=>Sg_slices_IndexFunc_api_Item_api_Item_177_0 fuel (F_text_begun_2 fuel) a b d c B
def L_slices_IndexFunc_api_Item_api_Item_177_0 (fuel:Nat) (v:V_slices_IndexFunc_api_Item_api_Item_177_0) (ret:(Int→Option Ans)) (b:(Unit→Option Ans)):Option Ans:=iter (S_slices_IndexFunc_api_Item_api_Item_177_0 fuel) fuel v (ret,b)
def T227_177_0 (v:V_slices_IndexFunc_api_Item_api_Item_177_0):Ev.St:=match v with | (a,b,d)=>⟨[(0,.c (.sl (.pair (.int .i64) (.pair (.int .i64) (.pair (.int .i64) (.pair .bool (.pair (.int .i64) (.pair (.int .i64) (.pair (.int .i64) (.pair (.int .i64) (.sl (.int .u8)))))))))) a)),(1,.c (.clo 162 [])),(7,.c (i6 b)),(8,.c (i6 d))],[],0,0⟩
def E227_177_0 (K:KT):W_slices_IndexFunc_api_Item_api_Item_177_0:=((fun v=>match v with | a=>K .ret ⟨[(4,.c (i6 a))],[],0,0⟩),(fun v=>match v with | ()=>K .normal ⟨[],[],0,0⟩))
theorem S227_177_0_okg (fuel:Nat) (a:YF162) (R:Ev.St→OA) (K:KT) (b:(List (Int×(Int×(Int×(Bool×(Int×(Int×(Int×(Int×LI)))))))))) (c d:Int):evalCode tab (Gg227_177 a) J0 kp227_177 fuel (bodyOf 0 Tryz.f227) (T227_177_0 (b,c,d)) (lc kp227_177 2 0 R K)=Sg_slices_IndexFunc_api_Item_api_Item_177_0 fuel a b c d (fun v=>R (T227_177_0 v)) (E227_177_0 K):=by
  kernel_rfl
def B227_177_0 (fuel:Nat):Ev.Blk:=fun st K=>match canonO (kp227_177 2) st with | some s=>(match s with | ⟨[(a,.c (.sl (.pair (.int .i64) (.pair (.int .i64) (.pair (.int .i64) (.pair .bool (.pair (.int .i64) (.pair (.int .i64) (.pair (.int .i64) (.pair (.int .i64) (.sl (.int .u8)))))))))) b)),(d,.c (.clo e [])),(f,.c (i6 g)),(h,.c (i6 i))],[],j,k⟩=>bif qb [a,d,e,f,h,j,k] [0,1,162,7,8,0,0] then iter (S_slices_IndexFunc_api_Item_api_Item_177_0 fuel) fuel (b,g,i) (E227_177_0 K) else none | _=>none) | none=>none
theorem B227_177_0_ok (fuel:Nat) (st:Ev.St) (K:KT) (r:Ans) (h:B227_177_0 fuel st K=some r):evalCode tab (G227_177 fuel) J0 kp227_177 fuel (.block 0 (.loop (bodyOf 0 Tryz.f227))) st K=some r:=by
  unfold B227_177_0 at h
  split at h
  · rename_i s hs
    split at h
    · skip
      obtain ⟨hb,h⟩:=cond_some' h
      cases qb_eq hb
      exact blk_loop (S:=T227_177_0) (ks:=E227_177_0) (step:=S_slices_IndexFunc_api_Item_api_Item_177_0 fuel) (v:=(_,_,_)) (by kernel_rfl) (by kernel_rfl) (fun R K v=>by obtain ⟨a,b,c⟩:=v; exact S227_177_0_okg fuel (F_text_begun_2 fuel) R K a b c) hs h
    · cases h
  · cases h
def J227_177 (fuel:Nat) (i:Nat):Option Ev.Blk:=Ev.look i [(100000,B227_177_0 fuel)]
def Fg_slices_IndexFunc_api_Item_api_Item_177 (fuel:Nat) (b:YF162) (a:(List (Int×(Int×(Int×(Bool×(Int×(Int×(Int×(Int×LI)))))))))) (k0:(Int)→OA):OA:=(L_slices_IndexFunc_api_Item_api_Item_177_0 fuel (a,(↑a.length:Int),0) (fun ret0_0=>k0 ret0_0) (fun ()=>k0 ((-1:Int))))
abbrev YF227_177:Type:=((List (Int×(Int×(Int×(Bool×(Int×(Int×(Int×(Int×LI))))))))))→(Int→Option Ans)→Option Ans
def F_slices_IndexFunc_api_Item_api_Item_177 (fuel:Nat):YF227_177:=Fg_slices_IndexFunc_api_Item_api_Item_177 fuel (F_text_begun_2 fuel)
theorem F227_177_eqg (fuel:Nat) (a:YF162) (b:(List (Int×(Int×(Int×(Bool×(Int×(Int×(Int×(Int×LI)))))))))) (k:Ev.Cont):evalFn tab (Gg227_177 a) (J227_177 fuel) kp227_177 fuel Tryz.f227 [.c (.sl (.pair (.int .i64) (.pair (.int .i64) (.pair (.int .i64) (.pair .bool (.pair (.int .i64) (.pair (.int .i64) (.pair (.int .i64) (.pair (.int .i64) (.sl (.int .u8)))))))))) b),.c (.clo 162 [])] [] k=Fg_slices_IndexFunc_api_Item_api_Item_177 fuel a b (fun r=>match r with | d=>k (.c (i6 d),[])):=by
  kernel_rfl
theorem hG227_177 (fuel:Nat):GOK Tryz.prog (G227_177 fuel):=
  gc (ok162 fuel) Tryz.func162 (by kernel_rfl) rfl <|
  gok_nil
theorem B227_177_0_blk (fuel:Nat):BlkOK Tryz.prog Tryz.f227.ntmps (.block 0 (.loop (bodyOf 0 Tryz.f227))) (B227_177_0 fuel):=bo0 (hG227_177 fuel) (by kernel_rfl) (by kernel_rfl) (B227_177_0_ok fuel)
def spg227_177 (F:YF227_177):Ev.Spec:=fun args objs k=>match args,objs with | [.c (.sl (.pair (.int .i64) (.pair (.int .i64) (.pair (.int .i64) (.pair .bool (.pair (.int .i64) (.pair (.int .i64) (.pair (.int .i64) (.pair (.int .i64) (.sl (.int .u8)))))))))) a),.c (.clo b [])],[]=>bif qb [b] [162] then F a (fun r=>match r with | d=>k (.c (i6 d),[])) else none | _,_=>none
theorem ok227_177 (fuel:Nat):FnOK Tryz.prog 227 (spg227_177 (F_slices_IndexFunc_api_Item_api_Item_177 fuel)):=by
  intro args objs kk r h
  unfold spg227_177 at h
  split at h
  · skip
    obtain ⟨hb,h⟩:=cond_some' h
    cases qb_eq hb
    exact fo1 (hG227_177 fuel) Tryz.func227 rfl (B227_177_0_blk fuel) (by kernel_rfl) _ _ kk r ((F227_177_eqg fuel (F_text_begun_2 fuel) _ kk).trans h)
  · cases h
def kp161_177 (i:Nat):Option (List Nat):=Ev.look i []
def Gg161_177 (a:YF227_177) (f:Nat):Option Ev.Spec:=Ev.look f [(227,spg227_177 a)]
def G161_177 (fuel:Nat):Nat→Option Ev.Spec:=Gg161_177 (F_slices_IndexFunc_api_Item_api_Item_177 fuel)
def Fg_slices_ContainsFunc_api_Item_api_Item_177 (fuel:Nat) (a:YF227_177) (b:(List (Int×(Int×(Int×(Bool×(Int×(Int×(Int×(Int×LI)))))))))) (k0:(Bool)→OA):OA:=(a b (fun c=>k0 (decide (c≥0))))
abbrev YF161_177:Type:=((List (Int×(Int×(Int×(Bool×(Int×(Int×(Int×(Int×LI))))))))))→(Bool→Option Ans)→Option Ans
def F_slices_ContainsFunc_api_Item_api_Item_177 (fuel:Nat):YF161_177:=Fg_slices_ContainsFunc_api_Item_api_Item_177 fuel (F_slices_IndexFunc_api_Item_api_Item_177 fuel)
theorem F161_177_eqg (fuel:Nat) (a:YF227_177) (b:(List (Int×(Int×(Int×(Bool×(Int×(Int×(Int×(Int×LI)))))))))) (k:Ev.Cont):evalFn tab (Gg161_177 a) J0 kp161_177 fuel Tryz.f161 [.c (.sl (.pair (.int .i64) (.pair (.int .i64) (.pair (.int .i64) (.pair .bool (.pair (.int .i64) (.pair (.int .i64) (.pair (.int .i64) (.pair (.int .i64) (.sl (.int .u8)))))))))) b),.c (.clo 162 [])] [] k=Fg_slices_ContainsFunc_api_Item_api_Item_177 fuel a b (fun r=>match r with | d=>k (.c (.bool d),[])):=by
  kernel_rfl
theorem hG161_177 (fuel:Nat):GOK Tryz.prog (G161_177 fuel):=
  gc (ok227_177 fuel) Tryz.func227 (by kernel_rfl) rfl <|
  gok_nil
def spg161_177 (F:YF161_177):Ev.Spec:=fun args objs k=>match args,objs with | [.c (.sl (.pair (.int .i64) (.pair (.int .i64) (.pair (.int .i64) (.pair .bool (.pair (.int .i64) (.pair (.int .i64) (.pair (.int .i64) (.pair (.int .i64) (.sl (.int .u8)))))))))) a),.c (.clo b [])],[]=>bif qb [b] [162] then F a (fun r=>match r with | d=>k (.c (.bool d),[])) else none | _,_=>none
theorem ok161_177 (fuel:Nat):FnOK Tryz.prog 161 (spg161_177 (F_slices_ContainsFunc_api_Item_api_Item_177 fuel)):=by
  intro args objs kk r h
  unfold spg161_177 at h
  split at h
  · skip
    obtain ⟨hb,h⟩:=cond_some' h
    cases qb_eq hb
    exact fo0 (hG161_177 fuel) Tryz.func161 rfl (by kernel_rfl) _ _ kk r ((F161_177_eqg fuel (F_slices_IndexFunc_api_Item_api_Item_177 fuel) _ kk).trans h)
  · cases h
def kp194 (i:Nat):Option (List Nat):=Ev.look i [(2,[0,1,7,8]),(100000,[]),(400000,[4])]
def Gg194 (f:Nat):Option Ev.Spec:=Ev.look f []
def G194 (fuel:Nat):Nat→Option Ev.Spec:=Gg194
def S_slices_Index_int_int_0 (fuel:Nat) (v:(List Int)×Int×Int×Int) (c:((List Int)×Int×Int×Int)→Option Ans) (B:(Int→Option Ans)×(Unit→Option Ans)):Option Ans:=match v,B with | (d,e,f,a),(ret,b)=>bif decide (a < f) then bif decide ((0:Int)≤a∧a < (↑d.length:Int)) then bif e==d.getD a.toNat (0:Int) then ret a else c (d,e,f,i64.wrap (a+(1:Int))) else none else b ()
def L_slices_Index_int_int_0 (fuel:Nat) (v:(List Int)×Int×Int×Int) (ret:(Int→Option Ans)) (b:(Unit→Option Ans)):Option Ans:=iter (S_slices_Index_int_int_0 fuel) fuel v (ret,b)
def T194_0 (v:LI×Int×Int×Int):Ev.St:=match v with | (a,b,d,e)=>⟨[(0,.c (.sl (.int .i64) a)),(1,.c (i6 b)),(7,.c (i6 d)),(8,.c (i6 e))],[],0,0⟩
def E194_0 (K:KT):(Int→OA)×(Unit→OA):=((fun v=>match v with | a=>K .ret ⟨[(4,.c (i6 a))],[],0,0⟩),(fun v=>match v with | ()=>K .normal ⟨[],[],0,0⟩))
theorem S194_0_ok (fuel:Nat) (R:Ev.St→OA) (K:KT) (a:LI) (b c d:Int):evalCode tab (G194 fuel) J0 kp194 fuel (bodyOf 0 Tryz.f194) (T194_0 (a,b,c,d)) (lc kp194 2 0 R K)=S_slices_Index_int_int_0 fuel (a,b,c,d) (fun v=>R (T194_0 v)) (E194_0 K):=by
  kernel_rfl
def B194_0 (fuel:Nat):Ev.Blk:=fun st K=>match canonO (kp194 2) st with | some s=>(match s with | ⟨[(a,.c (.sl (.int .i64) b)),(d,.c (i6 e)),(f,.c (i6 g)),(h,.c (i6 i))],[],j,k⟩=>bif qb [a,d,f,h,j,k] [0,1,7,8,0,0] then iter (S_slices_Index_int_int_0 fuel) fuel (b,e,g,i) (E194_0 K) else none | _=>none) | none=>none
theorem B194_0_ok (fuel:Nat) (st:Ev.St) (K:KT) (r:Ans) (h:B194_0 fuel st K=some r):evalCode tab (G194 fuel) J0 kp194 fuel (.block 0 (.loop (bodyOf 0 Tryz.f194))) st K=some r:=by
  unfold B194_0 at h
  split at h
  · rename_i s hs
    split at h
    · skip
      obtain ⟨hb,h⟩:=cond_some' h
      cases qb_eq hb
      exact blk_loop (S:=T194_0) (ks:=E194_0) (step:=S_slices_Index_int_int_0 fuel) (v:=(_,_,_,_)) (by kernel_rfl) (by kernel_rfl) (fun R K v=>by obtain ⟨a,b,c,d⟩:=v; exact S194_0_ok fuel R K a b c d) hs h
    · cases h
  · cases h
def J194 (fuel:Nat) (i:Nat):Option Ev.Blk:=Ev.look i [(100000,B194_0 fuel)]
def F_slices_Index_int_int (fuel:Nat) (a:(List Int)) (b:Int) (k0:(Int)→Option Ans):Option Ans:=(L_slices_Index_int_int_0 fuel (a,b,(↑a.length:Int),0) (fun ret0_0=>k0 ret0_0) (fun ()=>k0 ((-1:Int))))
abbrev YF194:Type:=LI→Int→(Int→Option Ans)→Option Ans
theorem F194_eq (fuel:Nat) (a:LI) (b:Int) (k:Ev.Cont):evalFn tab (G194 fuel) (J194 fuel) kp194 fuel Tryz.f194 [.c (.sl (.int .i64) a),.c (i6 b)] [] k=F_slices_Index_int_int fuel a b (fun r=>match r with | d=>k (.c (i6 d),[])):=by
  kernel_rfl
theorem hG194 (fuel:Nat):GOK Tryz.prog (G194 fuel):=
  gok_nil
theorem B194_0_blk (fuel:Nat):BlkOK Tryz.prog Tryz.f194.ntmps (.block 0 (.loop (bodyOf 0 Tryz.f194))) (B194_0 fuel):=bo0 (hG194 fuel) (by kernel_rfl) (by kernel_rfl) (B194_0_ok fuel)
def spg194 (F:YF194):Ev.Spec:=fun args objs k=>match args,objs with | [.c (.sl (.int .i64) a),.c (i6 b)],[]=>F a b (fun r=>match r with | d=>k (.c (i6 d),[])) | _,_=>none
theorem ok194 (fuel:Nat):FnOK Tryz.prog 194 (spg194 (F_slices_Index_int_int fuel)):=by
  intro args objs kk r h
  unfold spg194 at h
  split at h
  · skip
    exact fo1 (hG194 fuel) Tryz.func194 rfl (B194_0_blk fuel) (by kernel_rfl) _ _ kk r ((F194_eq fuel _ _ kk).trans h)
  · cases h
def kp102 (i:Nat):Option (List Nat):=Ev.look i []
def Gg102 (a:YF194) (f:Nat):Option Ev.Spec:=Ev.look f [(194,spg194 a)]
def G102 (fuel:Nat):Nat→Option Ev.Spec:=Gg102 (F_slices_Index_int_int fuel)
def Fg_slices_Contains_int_int (fuel:Nat) (a:YF194) (b:LI) (c:Int) (k0:(Bool)→OA):OA:=(a b c (fun d=>k0 (decide (d≥0))))
abbrev YF102:Type:=LI→Int→(Bool→Option Ans)→Option Ans
def F_slices_Contains_int_int (fuel:Nat):YF102:=Fg_slices_Contains_int_int fuel (F_slices_Index_int_int fuel)
theorem F102_eqg (fuel:Nat) (a:YF194) (b:LI) (d:Int) (k:Ev.Cont):evalFn tab (Gg102 a) J0 kp102 fuel Tryz.f102 [.c (.sl (.int .i64) b),.c (i6 d)] [] k=Fg_slices_Contains_int_int fuel a b d (fun r=>match r with | e=>k (.c (.bool e),[])):=by
  kernel_rfl
theorem hG102 (fuel:Nat):GOK Tryz.prog (G102 fuel):=
  gc (ok194 fuel) Tryz.func194 (by kernel_rfl) rfl <|
  gok_nil
def spg102 (F:YF102):Ev.Spec:=fun args objs k=>match args,objs with | [.c (.sl (.int .i64) a),.c (i6 b)],[]=>F a b (fun r=>match r with | d=>k (.c (.bool d),[])) | _,_=>none
theorem ok102 (fuel:Nat):FnOK Tryz.prog 102 (spg102 (F_slices_Contains_int_int fuel)):=by
  intro args objs kk r h
  unfold spg102 at h
  split at h
  · skip
    exact fo0 (hG102 fuel) Tryz.func102 rfl (by kernel_rfl) _ _ kk r ((F102_eqg fuel (F_slices_Index_int_int fuel) _ _ kk).trans h)
  · cases h
def kp31 (i:Nat):Option (List Nat):=Ev.look i []
def Gg31 (a:YF102) (f:Nat):Option Ev.Spec:=Ev.look f [(102,spg102 a)]
def G31 (fuel:Nat):Nat→Option Ev.Spec:=Gg31 (F_slices_Contains_int_int fuel)
def Fg_text_Valid (fuel:Nat) (f:YF102) (g b:Int) (i:Bool) (c d e:Int) (j:Bool) (a:Int) (k0:(Bool)→OA):OA:=(f ([1,2,4,8]) g (fun h=>bif h then bif decide (b≥0) then bif decide (b≤3) then bif decide (c≥(-16:Int)) then bif decide (c≤16) then bif decide (d≥0) then bif decide (d≤4) then bif e==0 then bif a==0 then k0 true else k0 (a==1) else bif e==1 then bif a==0 then k0 true else k0 (a==1) else k0 false else k0 false else k0 false else k0 false else k0 false else k0 false else k0 false else k0 false))
abbrev YF31:Type:=Int→Int→Bool→Int→Int→Int→Bool→Int→(Bool→Option Ans)→Option Ans
def F_text_Valid (fuel:Nat):YF31:=Fg_text_Valid fuel (F_slices_Contains_int_int fuel)
theorem F31_eqg (fuel:Nat) (a:YF102) (b d:Int) (e:Bool) (f g h:Int) (i:Bool) (j:Int) (k:Ev.Cont):evalFn tab (Gg31 a) J0 kp31 fuel Tryz.f31 [.agg [i6 b,i6 d,.bool e,i6 f,i6 g,i6 h,.bool i,i6 j]] [] k=Fg_text_Valid fuel a b d e f g h i j (fun r=>match r with | l=>k (.c (.bool l),[])):=by
  kernel_rfl
theorem hG31 (fuel:Nat):GOK Tryz.prog (G31 fuel):=
  gc (ok102 fuel) Tryz.func102 (by kernel_rfl) rfl <|
  gok_nil
def spg31 (F:YF31):Ev.Spec:=fun args objs k=>match args,objs with | [.agg [i6 a,i6 b,.bool d,i6 e,i6 f,i6 g,.bool h,i6 i]],[]=>F a b d e f g h i (fun r=>match r with | j=>k (.c (.bool j),[])) | _,_=>none
theorem ok31 (fuel:Nat):FnOK Tryz.prog 31 (spg31 (F_text_Valid fuel)):=by
  intro args objs kk r h
  unfold spg31 at h
  split at h
  · skip
    exact fo0 (hG31 fuel) Tryz.func31 rfl (by kernel_rfl) _ _ kk r ((F31_eqg fuel (F_slices_Contains_int_int fuel) _ _ _ _ _ _ _ _ kk).trans h)
  · cases h
def kp73 (i:Nat):Option (List Nat):=Ev.look i []
def Gg73 (c:YF31) (a:YF158_261) (b:YF161_177) (f:Nat):Option Ev.Spec:=Ev.look f [(31,spg31 c),(158,spg158_261 a),(161,spg161_177 b)]
def G73 (fuel:Nat):Nat→Option Ev.Spec:=Gg73 (F_text_Valid fuel) (F_slices_ContainsFunc_api_Bitmap_api_Bitmap_261 fuel) (F_slices_ContainsFunc_api_Item_api_Item_177 fuel)
def Fg_text_begun (fuel:Nat) (c:YF31) (a:YF158_261) (b:YF161_177) (e f:Int) (g:Bool) (h i j:Int) (k:Bool) (l:Int) (m:(List (Int×Int×LI))) (n:(List (Int×Int×Int×Bool×Int×Int×(Int×Int×LI)))) (k0:(Int)→OA):OA:=(c e f g h i j k l (fun o=>bif !o then k0 (2) else (a m (fun p=>bif p then k0 (30) else (b n (fun d=>bif d then k0 (30) else k0 (0)))))))
abbrev YF73:Type:=Int→Int→Bool→Int→Int→Int→Bool→Int→((List (Int×Int×LI)))→((List (Int×Int×Int×Bool×Int×Int×(Int×Int×LI))))→(Int→Option Ans)→Option Ans
def F_text_begun (fuel:Nat):YF73:=Fg_text_begun fuel (F_text_Valid fuel) (F_slices_ContainsFunc_api_Bitmap_api_Bitmap_261 fuel) (F_slices_ContainsFunc_api_Item_api_Item_177 fuel)
theorem F73_eqg (fuel:Nat) (d:YF31) (a:YF158_261) (b:YF161_177) (e f:Int) (g:Bool) (h i j:Int) (l:Bool) (m:Int) (n:(List (Int×Int×LI))) (o:(List (Int×Int×Int×Bool×Int×Int×(Int×Int×LI)))) (k:Ev.Cont):evalFn tab (Gg73 d a b) J0 kp73 fuel Tryz.f73 [.agg [i6 e,i6 f,.bool g,i6 h,i6 i,i6 j,.bool l,i6 m],.c (.sl (.pair (.int .i64) (.pair (.int .i64) (.sl (.int .u8)))) n),.c (.sl (.pair (.int .i64) (.pair (.int .i64) (.pair (.int .i64) (.pair .bool (.pair (.int .i64) (.pair (.int .i64) (.pair (.int .i64) (.pair (.int .i64) (.sl (.int .u8)))))))))) o)] [] k=Fg_text_begun fuel d a b e f g h i j l m n o (fun r=>match r with | p=>k (.c (i6 p),[])):=by
  kernel_rfl
theorem hG73 (fuel:Nat):GOK Tryz.prog (G73 fuel):=
  gc (ok31 fuel) Tryz.func31 (by kernel_rfl) rfl <|
  gc (ok158_261 fuel) Tryz.func158 (by kernel_rfl) rfl <|
  gc (ok161_177 fuel) Tryz.func161 (by kernel_rfl) rfl <|
  gok_nil
def spg73 (F:YF73):Ev.Spec:=fun args objs k=>match args,objs with | [.agg [i6 a,i6 b,.bool d,i6 e,i6 f,i6 g,.bool h,i6 i],.c (.sl (.pair (.int .i64) (.pair (.int .i64) (.sl (.int .u8)))) j),.c (.sl (.pair (.int .i64) (.pair (.int .i64) (.pair (.int .i64) (.pair .bool (.pair (.int .i64) (.pair (.int .i64) (.pair (.int .i64) (.pair (.int .i64) (.sl (.int .u8)))))))))) l)],[]=>F a b d e f g h i j l (fun r=>match r with | m=>k (.c (i6 m),[])) | _,_=>none
theorem ok73 (fuel:Nat):FnOK Tryz.prog 73 (spg73 (F_text_begun fuel)):=by
  intro args objs kk r h
  unfold spg73 at h
  split at h
  · skip
    exact fo0 (hG73 fuel) Tryz.func73 rfl (by kernel_rfl) _ _ kk r ((F73_eqg fuel (F_text_Valid fuel) (F_slices_ContainsFunc_api_Bitmap_api_Bitmap_261 fuel) (F_slices_ContainsFunc_api_Item_api_Item_177 fuel) _ _ _ _ _ _ _ _ _ _ kk).trans h)
  · cases h
def kp107 (i:Nat):Option (List Nat):=Ev.look i []
def Gg107 (f:Nat):Option Ev.Spec:=Ev.look f []
def G107 (fuel:Nat):Nat→Option Ev.Spec:=Gg107
def F_text_drawn (fuel:Nat) (b:(List (Int×Int×(List Int)))) (a g h:Int) (c:Bool) (i j:Int) (d e:Int) (f:(List Int)) (k0:(Int×Int×(List Int))→Option Ans):Option Ans:=bif c then k0 (d,e,f) else bif decide (0≤a∧a < (↑b.length:Int)) then k0 ((b.getD a.toNat (0,0,[])).fst,(b.getD a.toNat (0,0,[])).snd.fst,(b.getD a.toNat (0,0,[])).snd.snd) else none
abbrev YF107:Type:=((List (Int×Int×LI)))→Int→Int→Int→Bool→Int→Int→Int→Int→LI→((Int×Int×LI)→Option Ans)→Option Ans
theorem F107_eq (fuel:Nat) (a:(List (Int×Int×LI))) (b d e:Int) (f:Bool) (g h:Int) (i j:Int) (l:LI) (k:Ev.Cont):evalFn tab (G107 fuel) J0 kp107 fuel Tryz.f107 [.c (.sl (.pair (.int .i64) (.pair (.int .i64) (.sl (.int .u8)))) a),.agg [i6 b,i6 d,i6 e,.bool f,i6 g,i6 h,i6 i,i6 j,.sl (.int .u8) l]] [] k=F_text_drawn fuel a b d e f g h i j l (fun r=>match r with | (m,n,o)=>k (.agg [i6 m,i6 n,.sl (.int .u8) o],[])):=by
  kernel_rfl
theorem hG107 (fuel:Nat):GOK Tryz.prog (G107 fuel):=
  gok_nil
def spg107 (F:YF107):Ev.Spec:=fun args objs k=>match args,objs with | [.c (.sl (.pair (.int .i64) (.pair (.int .i64) (.sl (.int .u8)))) a),.agg [i6 b,i6 d,i6 e,.bool f,i6 g,i6 h,i6 i,i6 j,.sl (.int .u8) l]],[]=>F a b d e f g h i j l (fun r=>match r with | (m,n,o)=>k (.agg [i6 m,i6 n,.sl (.int .u8) o],[])) | _,_=>none
theorem ok107 (fuel:Nat):FnOK Tryz.prog 107 (spg107 (F_text_drawn fuel)):=by
  intro args objs kk r h
  unfold spg107 at h
  split at h
  · skip
    exact fo0 (hG107 fuel) Tryz.func107 rfl (by kernel_rfl) _ _ kk r ((F107_eq fuel _ _ _ _ _ _ _ _ _ _ kk).trans h)
  · cases h
def kp103 (i:Nat):Option (List Nat):=Ev.look i []
def Gg103 (f:Nat):Option Ev.Spec:=Ev.look f []
def G103 (fuel:Nat):Nat→Option Ev.Spec:=Gg103
def F_text_corner (fuel:Nat) (e a:Int) (f:Bool) (g h i:Int) (j:Bool) (k b c:Int) (d:(List Int)) (k0:(Int×Int)→Option Ans):Option Ans:=bif a.tmod (2:Int)==(1:Int) then bif decide (a≥2) then k0 (i64.wrap (b - 1),i64.wrap (c - 1)) else k0 (i64.wrap (b - 1),0) else bif decide (a≥2) then k0 (0,i64.wrap (c - 1)) else k0 (0,0)
abbrev YF103:Type:=Int→Int→Bool→Int→Int→Int→Bool→Int→Int→Int→LI→((Int×Int)→Option Ans)→Option Ans
theorem F103_eq (fuel:Nat) (b c:Int) (d:Bool) (e f g:Int) (h:Bool) (i j l:Int) (a:LI) (k:Ev.Cont):evalFn tab (G103 fuel) J0 kp103 fuel Tryz.f103 [.agg [i6 b,i6 c,.bool d,i6 e,i6 f,i6 g,.bool h,i6 i],.agg [i6 j,i6 l,.sl (.int .u8) a]] [] k=F_text_corner fuel b c d e f g h i j l a (fun r=>match r with | (m,n)=>k (.tup [(false,[i6 m]),(false,[i6 n])],[])):=by
  kernel_rfl
theorem hG103 (fuel:Nat):GOK Tryz.prog (G103 fuel):=
  gok_nil
def spg103 (F:YF103):Ev.Spec:=fun args objs k=>match args,objs with | [.agg [i6 b,i6 c,.bool d,i6 e,i6 f,i6 g,.bool h,i6 i],.agg [i6 j,i6 l,.sl (.int .u8) a]],[]=>F b c d e f g h i j l a (fun r=>match r with | (m,n)=>k (.tup [(false,[i6 m]),(false,[i6 n])],[])) | _,_=>none
theorem ok103 (fuel:Nat):FnOK Tryz.prog 103 (spg103 (F_text_corner fuel)):=by
  intro args objs kk r h
  unfold spg103 at h
  split at h
  · skip
    exact fo0 (hG103 fuel) Tryz.func103 rfl (by kernel_rfl) _ _ kk r ((F103_eq fuel _ _ _ _ _ _ _ _ _ _ _ kk).trans h)
  · cases h
def kp99 (i:Nat):Option (List Nat):=Ev.look i [(200001,[5]),(200004,[3,5])]
def Gg99 (a:YF103) (b:YF107) (f:Nat):Option Ev.Spec:=Ev.look f [(103,spg103 a),(107,spg107 b)]
def G99 (fuel:Nat):Nat→Option Ev.Spec:=Gg99 (F_text_corner fuel) (F_text_drawn fuel)
def Fg_text_place (fuel:Nat) (i:YF103) (j:YF107) (q r:Int) (h:Bool) (s t u:Int) (v:Bool) (w:Int) (x:(List (Int×Int×LI))) (y a b:Int) (k:Bool) (l m:Int) (n o:Int) (p:LI) (k0:(Int×Int)→OA):OA:=bif h then (j x y a b k l m n o p (fun (c,d,e)=>(i q r h s t u v w c d e (fun (f,g)=>k0 (i64.wrap (b - f),i64.wrap (a - g)))))) else (j x y a b k l m n o p (fun (c,d,e)=>(i q r h s t u v w c d e (fun (f,g)=>k0 (i64.wrap (a - f),i64.wrap (b - g))))))
abbrev YF99:Type:=Int→Int→Bool→Int→Int→Int→Bool→Int→((List (Int×Int×LI)))→Int→Int→Int→Bool→Int→Int→Int→Int→LI→((Int×Int)→Option Ans)→Option Ans
def F_text_place (fuel:Nat):YF99:=Fg_text_place fuel (F_text_corner fuel) (F_text_drawn fuel)
theorem F99_eqg (fuel:Nat) (a:YF103) (b:YF107) (m n:Int) (o:Bool) (p q s:Int) (t:Bool) (u:Int) (v:(List (Int×Int×LI))) (w d e:Int) (f:Bool) (g h:Int) (i j:Int) (l:LI) (k:Ev.Cont):evalFn tab (Gg99 a b) J0 kp99 fuel Tryz.f99 [.agg [i6 m,i6 n,.bool o,i6 p,i6 q,i6 s,.bool t,i6 u],.c (.sl (.pair (.int .i64) (.pair (.int .i64) (.sl (.int .u8)))) v),.agg [i6 w,i6 d,i6 e,.bool f,i6 g,i6 h,i6 i,i6 j,.sl (.int .u8) l]] [] k=Fg_text_place fuel a b m n o p q s t u v w d e f g h i j l (fun r=>match r with | (x,y)=>k (.tup [(false,[i6 x]),(false,[i6 y])],[])):=by
  kernel_rfl
theorem hG99 (fuel:Nat):GOK Tryz.prog (G99 fuel):=
  gc (ok103 fuel) Tryz.func103 (by kernel_rfl) rfl <|
  gc (ok107 fuel) Tryz.func107 (by kernel_rfl) rfl <|
  gok_nil
def spg99 (F:YF99):Ev.Spec:=fun args objs k=>match args,objs with | [.agg [i6 j,i6 l,.bool m,i6 n,i6 o,i6 p,.bool q,i6 s],.c (.sl (.pair (.int .i64) (.pair (.int .i64) (.sl (.int .u8)))) t),.agg [i6 u,i6 a,i6 b,.bool d,i6 e,i6 f,i6 g,i6 h,.sl (.int .u8) i]],[]=>F j l m n o p q s t u a b d e f g h i (fun r=>match r with | (v,w)=>k (.tup [(false,[i6 v]),(false,[i6 w])],[])) | _,_=>none
theorem ok99 (fuel:Nat):FnOK Tryz.prog 99 (spg99 (F_text_place fuel)):=by
  intro args objs kk r h
  unfold spg99 at h
  split at h
  · skip
    exact fo0 (hG99 fuel) Tryz.func99 rfl (by kernel_rfl) _ _ kk r ((F99_eqg fuel (F_text_corner fuel) (F_text_drawn fuel) _ _ _ _ _ _ _ _ _ _ _ _ _ _ _ _ _ _ kk).trans h)
  · cases h
def kp93 (i:Nat):Option (List Nat):=Ev.look i []
def Gg93 (f:Nat):Option Ev.Spec:=Ev.look f []
def G93 (fuel:Nat):Nat→Option Ev.Spec:=Gg93
def F_text_near (fuel:Nat) (a b:Int) (k0:(Bool)→Option Ans):Option Ans:=bif decide (a≥i64.wrap (0 - b)) then k0 (decide (a≤b)) else k0 false
abbrev YF93:Type:=Int→Int→(Bool→Option Ans)→Option Ans
theorem F93_eq (fuel:Nat) (a b:Int) (k:Ev.Cont):evalFn tab (G93 fuel) J0 kp93 fuel Tryz.f93 [.c (i6 a),.c (i6 b)] [] k=F_text_near fuel a b (fun r=>match r with | d=>k (.c (.bool d),[])):=by
  kernel_rfl
theorem hG93 (fuel:Nat):GOK Tryz.prog (G93 fuel):=
  gok_nil
def spg93 (F:YF93):Ev.Spec:=fun args objs k=>match args,objs with | [.c (i6 a),.c (i6 b)],[]=>F a b (fun r=>match r with | d=>k (.c (.bool d),[])) | _,_=>none
theorem ok93 (fuel:Nat):FnOK Tryz.prog 93 (spg93 (F_text_near fuel)):=by
  intro args objs kk r h
  unfold spg93 at h
  split at h
  · skip
    exact fo0 (hG93 fuel) Tryz.func93 rfl (by kernel_rfl) _ _ kk r ((F93_eq fuel _ _ kk).trans h)
  · cases h
def kp104 (i:Nat):Option (List Nat):=Ev.look i []
def Gg104 (a:YF93) (f:Nat):Option Ev.Spec:=Ev.look f [(93,spg93 a)]
def G104 (fuel:Nat):Nat→Option Ev.Spec:=Gg104 (F_text_near fuel)
def Fg_text_rightItem (fuel:Nat) (a:YF93) (q r:Int) (s:Bool) (t u v:Int) (m:Bool) (w n:Int) (d e f:Int) (g:Bool) (b c:Int) (h i:Int) (j:LI) (k0:(Bool)→OA):OA:=bif decide (d < 0) then k0 false else bif decide (d≥n) then k0 false else (a e (100000) (fun o=>bif !o then k0 false else (a f (100000) (fun p=>bif !p then k0 false else bif !g then bif b==0 then bif c==0 then bif h==0 then bif i==0 then k0 ((↑j.length:Int)==0) else k0 false else k0 false else k0 false else k0 false else bif m then (a b (200) (fun k=>bif k then (a c (200) (fun l=>k0 l)) else k0 false)) else k0 false))))
abbrev YF104:Type:=Int→Int→Bool→Int→Int→Int→Bool→Int→Int→Int→Int→Int→Bool→Int→Int→Int→Int→LI→(Bool→Option Ans)→Option Ans
def F_text_rightItem (fuel:Nat):YF104:=Fg_text_rightItem fuel (F_text_near fuel)
theorem F104_eqg (fuel:Nat) (a:YF93) (l m:Int) (n:Bool) (o p q:Int) (s:Bool) (t u:Int) (v b d:Int) (e:Bool) (f g:Int) (h i:Int) (j:LI) (k:Ev.Cont):evalFn tab (Gg104 a) J0 kp104 fuel Tryz.f104 [.agg [i6 l,i6 m,.bool n,i6 o,i6 p,i6 q,.bool s,i6 t],.c (i6 u),.agg [i6 v,i6 b,i6 d,.bool e,i6 f,i6 g,i6 h,i6 i,.sl (.int .u8) j]] [] k=Fg_text_rightItem fuel a l m n o p q s t u v b d e f g h i j (fun r=>match r with | w=>k (.c (.bool w),[])):=by
  kernel_rfl
theorem hG104 (fuel:Nat):GOK Tryz.prog (G104 fuel):=
  gc (ok93 fuel) Tryz.func93 (by kernel_rfl) rfl <|
  gok_nil
def spg104 (F:YF104):Ev.Spec:=fun args objs k=>match args,objs with | [.agg [i6 j,i6 l,.bool m,i6 n,i6 o,i6 p,.bool q,i6 s],.c (i6 t),.agg [i6 u,i6 a,i6 b,.bool d,i6 e,i6 f,i6 g,i6 h,.sl (.int .u8) i]],[]=>F j l m n o p q s t u a b d e f g h i (fun r=>match r with | v=>k (.c (.bool v),[])) | _,_=>none
theorem ok104 (fuel:Nat):FnOK Tryz.prog 104 (spg104 (F_text_rightItem fuel)):=by
  intro args objs kk r h
  unfold spg104 at h
  split at h
  · skip
    exact fo0 (hG104 fuel) Tryz.func104 rfl (by kernel_rfl) _ _ kk r ((F104_eqg fuel (F_text_near fuel) _ _ _ _ _ _ _ _ _ _ _ _ _ _ _ _ _ _ kk).trans h)
  · cases h
def kp164_e36 (i:Nat):Option (List Nat):=Ev.look i []
def Gg164_e36 (a:YF104) (f:Nat):Option Ev.Spec:=Ev.look f [(104,spg104 a)]
def G164_e36 (fuel:Nat):Nat→Option Ev.Spec:=Gg164_e36 (F_text_rightItem fuel)
def Fg_text_right_1_e36 (fuel:Nat) (j:YF104) (k l m:Int) (n:Bool) (o p:Int) (q r:Int) (s:LI) (i a:Int) (b:Bool) (c d e:Int) (f:Bool) (g h:Int) (k0:(Bool×Int×Int×Bool×Int×Int×Int×Bool×Int×Int)→OA):OA:=(j i a b c d e f g h k l m n o p q r s (fun t=>k0 (!t,i,a,b,c,d,e,f,g,h)))
abbrev YF164_e36:Type:=Int→Int→Int→Bool→Int→Int→Int→Int→LI→Int→Int→Bool→Int→Int→Int→Bool→Int→Int→((Bool×Int×Int×Bool×Int×Int×Int×Bool×Int×Int)→Option Ans)→Option Ans
def F_text_right_1_e36 (fuel:Nat):YF164_e36:=Fg_text_right_1_e36 fuel (F_text_rightItem fuel)
theorem F164_e36_eqg (fuel:Nat) (a:YF104) (l m n:Int) (o:Bool) (p q:Int) (s t:Int) (u:LI) (v b:Int) (d:Bool) (e f g:Int) (h:Bool) (i j:Int) (k:Ev.Cont):evalFn tab (Gg164_e36 a) J0 kp164_e36 fuel Tryz.f164 [.agg [i6 l,i6 m,i6 n,.bool o,i6 p,i6 q,i6 s,i6 t,.sl (.int .u8) u],.c (.ptr 0 0),.c (.ptr 1 0)] [.cells 40 [i6 v,i6 b,.bool d,i6 e,i6 f,i6 g,.bool h,i6 i],.cells 3 [i6 j]] k=Fg_text_right_1_e36 fuel a l m n o p q s t u v b d e f g h i j (fun r=>match r with | (w,x,y,z,A,B,C,D,E,F)=>k (.c (.bool w),[.cells 40 [i6 x,i6 y,.bool z,i6 A,i6 B,i6 C,.bool D,i6 E],.cells 3 [i6 F]])):=by
  kernel_rfl
theorem hG164_e36 (fuel:Nat):GOK Tryz.prog (G164_e36 fuel):=
  gc (ok104 fuel) Tryz.func104 (by kernel_rfl) rfl <|
  gok_nil
def spg164_e36 (F:YF164_e36):Ev.Spec:=fun args objs k=>match args,objs with | [.agg [i6 j,i6 l,i6 m,.bool n,i6 o,i6 p,i6 q,i6 s,.sl (.int .u8) t],.c (.ptr u v),.c (.ptr w x)],[.cells y [i6 z,i6 a,.bool b,i6 d,i6 e,i6 f,.bool g,i6 h],.cells A [i6 i]]=>bif qb [u,v,w,x,y,A] [0,0,1,0,40,3] then F j l m n o p q s t z a b d e f g h i (fun r=>match r with | (B,C,D,E,G,H,I,J,K,L)=>k (.c (.bool B),[.cells 40 [i6 C,i6 D,.bool E,i6 G,i6 H,i6 I,.bool J,i6 K],.cells 3 [i6 L]])) else none | _,_=>none
theorem ok164_e36 (fuel:Nat):FnOK Tryz.prog 164 (spg164_e36 (F_text_right_1_e36 fuel)):=by
  intro args objs kk r h
  unfold spg164_e36 at h
  split at h
  · skip
    obtain ⟨hb,h⟩:=cond_some' h
    cases qb_eq hb
    exact fo0 (hG164_e36 fuel) Tryz.func164 rfl (by kernel_rfl) _ _ kk r ((F164_e36_eqg fuel (F_text_rightItem fuel) _ _ _ _ _ _ _ _ _ _ _ _ _ _ _ _ _ _ kk).trans h)
  · cases h
def kp227_766 (i:Nat):Option (List Nat):=Ev.look i [(2,[0,1,7,8]),(100000,[]),(400000,[4])]
def Gg227_766 (a:YF164_e36) (f:Nat):Option Ev.Spec:=Ev.look f [(164,spg164_e36 a)]
def G227_766 (fuel:Nat):Nat→Option Ev.Spec:=Gg227_766 (F_text_right_1_e36 fuel)
abbrev V_slices_IndexFunc_api_Item_api_Item_766_0:Type:=(List (Int×(Int×(Int×(Bool×(Int×(Int×(Int×(Int×LI)))))))))×Int×Int×Int×Int×Bool×Int×Int×Int×Bool×Int×Int
abbrev W_slices_IndexFunc_api_Item_api_Item_766_0:Type:=(Int×Int×Int×Bool×Int×Int×Int×Bool×Int×Int→OA)×(Int×Int×Bool×Int×Int×Int×Bool×Int×Int→OA)
def Sg_slices_IndexFunc_api_Item_api_Item_766_0 (fuel:Nat) (x:YF164_e36) (d:(List (Int×(Int×(Int×(Bool×(Int×(Int×(Int×(Int×LI)))))))))) (p a:Int) (q r:Int) (s:Bool) (t u v:Int) (w:Bool) (n o:Int) (c:V_slices_IndexFunc_api_Item_api_Item_766_0→OA) (B:W_slices_IndexFunc_api_Item_api_Item_766_0):OA:=match B with | (ret,b)=>bif decide (a < p) then bif decide (0≤a∧a < (↑d.length:Int)) then (x ((d.getD a.toNat (0,0,0,false,0,0,0,0,[])).fst) ((d.getD a.toNat (0,0,0,false,0,0,0,0,[])).snd.fst) ((d.getD a.toNat (0,0,0,false,0,0,0,0,[])).snd.snd.fst) ((d.getD a.toNat (0,0,0,false,0,0,0,0,[])).snd.snd.snd.fst) ((d.getD a.toNat (0,0,0,false,0,0,0,0,[])).snd.snd.snd.snd.fst) ((d.getD a.toNat (0,0,0,false,0,0,0,0,[])).snd.snd.snd.snd.snd.fst) ((d.getD a.toNat (0,0,0,false,0,0,0,0,[])).snd.snd.snd.snd.snd.snd.fst) ((d.getD a.toNat (0,0,0,false,0,0,0,0,[])).snd.snd.snd.snd.snd.snd.snd.fst) ((d.getD a.toNat (0,0,0,false,0,0,0,0,[])).snd.snd.snd.snd.snd.snd.snd.snd) q r s t u v w n o (fun (y,e,f,g,h,i,j,k,l,m)=>bif y then ret (a,e,f,g,h,i,j,k,l,m) else c (d,p,i64.wrap (a+1),e,f,g,h,i,j,k,l,m))) else none else b (q,r,s,t,u,v,w,n,o)
def S_slices_IndexFunc_api_Item_api_Item_766_0 (fuel:Nat) (v:(List (Int×(Int×(Int×(Bool×(Int×(Int×(Int×(Int×(List Int))))))))))×Int×Int×Int×Int×Bool×Int×Int×Int×Bool×Int×Int) (c:((List (Int×(Int×(Int×(Bool×(Int×(Int×(Int×(Int×(List Int))))))))))×Int×Int×Int×Int×Bool×Int×Int×Int×Bool×Int×Int)→Option Ans) (B:(Int×Int×Int×Bool×Int×Int×Int×Bool×Int×Int→Option Ans)×(Int×Int×Bool×Int×Int×Int×Bool×Int×Int→Option Ans)):Option Ans:=match v with | (d,e,f,g,h,i,j,k,l,m,a,b)=>Sg_slices_IndexFunc_api_Item_api_Item_766_0 fuel (F_text_right_1_e36 fuel) d e f g h i j k l m a b c B
def L_slices_IndexFunc_api_Item_api_Item_766_0 (fuel:Nat) (v:V_slices_IndexFunc_api_Item_api_Item_766_0) (ret:(Int×Int×Int×Bool×Int×Int×Int×Bool×Int×Int→Option Ans)) (b:(Int×Int×Bool×Int×Int×Int×Bool×Int×Int→Option Ans)):Option Ans:=iter (S_slices_IndexFunc_api_Item_api_Item_766_0 fuel) fuel v (ret,b)
def T227_766_0 (v:V_slices_IndexFunc_api_Item_api_Item_766_0):Ev.St:=match v with | (d,e,f,g,h,i,j,k,l,m,a,b)=>⟨[(0,.c (.sl (.pair (.int .i64) (.pair (.int .i64) (.pair (.int .i64) (.pair .bool (.pair (.int .i64) (.pair (.int .i64) (.pair (.int .i64) (.pair (.int .i64) (.sl (.int .u8)))))))))) d)),(1,.c (.clo 164 [0,1])),(7,.c (i6 e)),(8,.c (i6 f))],[(0,.cells 40 [i6 g,i6 h,.bool i,i6 j,i6 k,i6 l,.bool m,i6 a]),(1,.cells 3 [i6 b])],2,2⟩
def E227_766_0 (K:KT):W_slices_IndexFunc_api_Item_api_Item_766_0:=((fun v=>match v with | (a,b,d,e,f,g,h,i,j,k)=>K .ret ⟨[(4,.c (i6 a))],[(0,.cells 40 [i6 b,i6 d,.bool e,i6 f,i6 g,i6 h,.bool i,i6 j]),(1,.cells 3 [i6 k])],2,2⟩),(fun v=>match v with | (a,b,d,e,f,g,h,i,j)=>K .normal ⟨[],[(0,.cells 40 [i6 a,i6 b,.bool d,i6 e,i6 f,i6 g,.bool h,i6 i]),(1,.cells 3 [i6 j])],2,2⟩))
theorem S227_766_0_okg (fuel:Nat) (a:YF164_e36) (R:Ev.St→OA) (K:KT) (d:(List (Int×(Int×(Int×(Bool×(Int×(Int×(Int×(Int×LI)))))))))) (e f:Int) (g h:Int) (i:Bool) (j k l:Int) (m:Bool) (b c:Int):evalCode tab (Gg227_766 a) J0 kp227_766 fuel (bodyOf 0 Tryz.f227) (T227_766_0 (d,e,f,g,h,i,j,k,l,m,b,c)) (lc kp227_766 2 0 R K)=Sg_slices_IndexFunc_api_Item_api_Item_766_0 fuel a d e f g h i j k l m b c (fun v=>R (T227_766_0 v)) (E227_766_0 K):=by
  kernel_rfl
def B227_766_0 (fuel:Nat):Ev.Blk:=fun st K=>match canonO (kp227_766 2) st with | some s=>(match s with | ⟨[(g,.c (.sl (.pair (.int .i64) (.pair (.int .i64) (.pair (.int .i64) (.pair .bool (.pair (.int .i64) (.pair (.int .i64) (.pair (.int .i64) (.pair (.int .i64) (.sl (.int .u8)))))))))) h)),(i,.c (.clo j [k,l])),(m,.c (i6 n)),(o,.c (i6 p))],[(q,.cells r [i6 t,i6 u,.bool v,i6 w,i6 x,i6 y,.bool z,i6 a]),(A,.cells b [i6 d])],e,f⟩=>bif qb [g,i,j,k,l,m,o,q,r,A,b,e,f] [0,1,164,0,1,7,8,0,40,1,3,2,2] then iter (S_slices_IndexFunc_api_Item_api_Item_766_0 fuel) fuel (h,n,p,t,u,v,w,x,y,z,a,d) (E227_766_0 K) else none | _=>none) | none=>none
theorem B227_766_0_ok (fuel:Nat) (st:Ev.St) (K:KT) (r:Ans) (h:B227_766_0 fuel st K=some r):evalCode tab (G227_766 fuel) J0 kp227_766 fuel (.block 0 (.loop (bodyOf 0 Tryz.f227))) st K=some r:=by
  unfold B227_766_0 at h
  split at h
  · rename_i s hs
    split at h
    · skip
      obtain ⟨hb,h⟩:=cond_some' h
      cases qb_eq hb
      exact blk_loop (S:=T227_766_0) (ks:=E227_766_0) (step:=S_slices_IndexFunc_api_Item_api_Item_766_0 fuel) (v:=(_,_,_,_,_,_,_,_,_,_,_,_)) (by kernel_rfl) (by kernel_rfl) (fun R K v=>by obtain ⟨c,d,e,f,g,i,j,k,l,m,a,b⟩:=v; exact S227_766_0_okg fuel (F_text_right_1_e36 fuel) R K c d e f g i j k l m a b) hs h
    · cases h
  · cases h
def J227_766 (fuel:Nat) (i:Nat):Option Ev.Blk:=Ev.look i [(100000,B227_766_0 fuel)]
def Fg_slices_IndexFunc_api_Item_api_Item_766 (fuel:Nat) (t:YF164_e36) (a:(List (Int×(Int×(Int×(Bool×(Int×(Int×(Int×(Int×LI)))))))))) (k l:Int) (m:Bool) (n o p:Int) (q:Bool) (r s:Int) (k0:(Int×Int×Int×Bool×Int×Int×Int×Bool×Int×Int)→OA):OA:=(L_slices_IndexFunc_api_Item_api_Item_766_0 fuel (a,(↑a.length:Int),0,k,l,m,n,o,p,q,r,s) (fun (ret0_0,ret0_1,ret0_2,ret0_3,ret0_4,ret0_5,ret0_6,ret0_7,ret0_8,ret0_9)=>k0 (ret0_0,ret0_1,ret0_2,ret0_3,ret0_4,ret0_5,ret0_6,ret0_7,ret0_8,ret0_9)) (fun (b,c,d,e,f,g,h,i,j)=>k0 ((-1:Int),b,c,d,e,f,g,h,i,j)))
abbrev YF227_766:Type:=((List (Int×(Int×(Int×(Bool×(Int×(Int×(Int×(Int×LI))))))))))→Int→Int→Bool→Int→Int→Int→Bool→Int→Int→((Int×Int×Int×Bool×Int×Int×Int×Bool×Int×Int)→Option Ans)→Option Ans
def F_slices_IndexFunc_api_Item_api_Item_766 (fuel:Nat):YF227_766:=Fg_slices_IndexFunc_api_Item_api_Item_766 fuel (F_text_right_1_e36 fuel)
theorem F227_766_eqg (fuel:Nat) (a:YF164_e36) (b:(List (Int×(Int×(Int×(Bool×(Int×(Int×(Int×(Int×LI)))))))))) (d e:Int) (f:Bool) (g h i:Int) (j:Bool) (l m:Int) (k:Ev.Cont):evalFn tab (Gg227_766 a) (J227_766 fuel) kp227_766 fuel Tryz.f227 [.c (.sl (.pair (.int .i64) (.pair (.int .i64) (.pair (.int .i64) (.pair .bool (.pair (.int .i64) (.pair (.int .i64) (.pair (.int .i64) (.pair (.int .i64) (.sl (.int .u8)))))))))) b),.c (.clo 164 [0,1])] [.cells 40 [i6 d,i6 e,.bool f,i6 g,i6 h,i6 i,.bool j,i6 l],.cells 3 [i6 m]] k=Fg_slices_IndexFunc_api_Item_api_Item_766 fuel a b d e f g h i j l m (fun r=>match r with | (n,o,p,q,s,t,u,v,w,x)=>k (.c (i6 n),[.cells 40 [i6 o,i6 p,.bool q,i6 s,i6 t,i6 u,.bool v,i6 w],.cells 3 [i6 x]])):=by
  kernel_rfl
theorem hG227_766 (fuel:Nat):GOK Tryz.prog (G227_766 fuel):=
  gc (ok164_e36 fuel) Tryz.func164 (by kernel_rfl) rfl <|
  gok_nil
theorem B227_766_0_blk (fuel:Nat):BlkOK Tryz.prog Tryz.f227.ntmps (.block 0 (.loop (bodyOf 0 Tryz.f227))) (B227_766_0 fuel):=bo0 (hG227_766 fuel) (by kernel_rfl) (by kernel_rfl) (B227_766_0_ok fuel)
def spg227_766 (F:YF227_766):Ev.Spec:=fun args objs k=>match args,objs with | [.c (.sl (.pair (.int .i64) (.pair (.int .i64) (.pair (.int .i64) (.pair .bool (.pair (.int .i64) (.pair (.int .i64) (.pair (.int .i64) (.pair (.int .i64) (.sl (.int .u8)))))))))) a),.c (.clo b [d,e])],[.cells f [i6 g,i6 h,.bool i,i6 j,i6 l,i6 m,.bool n,i6 o],.cells p [i6 q]]=>bif qb [b,d,e,f,p] [164,0,1,40,3] then F a g h i j l m n o q (fun r=>match r with | (s,t,u,v,w,x,y,z,A,B)=>k (.c (i6 s),[.cells 40 [i6 t,i6 u,.bool v,i6 w,i6 x,i6 y,.bool z,i6 A],.cells 3 [i6 B]])) else none | _,_=>none
theorem ok227_766 (fuel:Nat):FnOK Tryz.prog 227 (spg227_766 (F_slices_IndexFunc_api_Item_api_Item_766 fuel)):=by
  intro args objs kk r h
  unfold spg227_766 at h
  split at h
  · skip
    obtain ⟨hb,h⟩:=cond_some' h
    cases qb_eq hb
    exact fo1 (hG227_766 fuel) Tryz.func227 rfl (B227_766_0_blk fuel) (by kernel_rfl) _ _ kk r ((F227_766_eqg fuel (F_text_right_1_e36 fuel) _ _ _ _ _ _ _ _ _ _ kk).trans h)
  · cases h
def kp161_766 (i:Nat):Option (List Nat):=Ev.look i []
def Gg161_766 (a:YF227_766) (f:Nat):Option Ev.Spec:=Ev.look f [(227,spg227_766 a)]
def G161_766 (fuel:Nat):Nat→Option Ev.Spec:=Gg161_766 (F_slices_IndexFunc_api_Item_api_Item_766 fuel)
def Fg_slices_ContainsFunc_api_Item_api_Item_766 (fuel:Nat) (a:YF227_766) (l:(List (Int×(Int×(Int×(Bool×(Int×(Int×(Int×(Int×LI)))))))))) (m n:Int) (o:Bool) (p q r:Int) (s:Bool) (t u:Int) (k0:(Bool×Int×Int×Bool×Int×Int×Int×Bool×Int×Int)→OA):OA:=(a l m n o p q r s t u (fun (b,c,d,e,f,g,h,i,j,k)=>k0 (decide (b≥0),c,d,e,f,g,h,i,j,k)))
abbrev YF161_766:Type:=((List (Int×(Int×(Int×(Bool×(Int×(Int×(Int×(Int×LI))))))))))→Int→Int→Bool→Int→Int→Int→Bool→Int→Int→((Bool×Int×Int×Bool×Int×Int×Int×Bool×Int×Int)→Option Ans)→Option Ans
def F_slices_ContainsFunc_api_Item_api_Item_766 (fuel:Nat):YF161_766:=Fg_slices_ContainsFunc_api_Item_api_Item_766 fuel (F_slices_IndexFunc_api_Item_api_Item_766 fuel)
theorem F161_766_eqg (fuel:Nat) (a:YF227_766) (b:(List (Int×(Int×(Int×(Bool×(Int×(Int×(Int×(Int×LI)))))))))) (d e:Int) (f:Bool) (g h i:Int) (j:Bool) (l m:Int) (k:Ev.Cont):evalFn tab (Gg161_766 a) J0 kp161_766 fuel Tryz.f161 [.c (.sl (.pair (.int .i64) (.pair (.int .i64) (.pair (.int .i64) (.pair .bool (.pair (.int .i64) (.pair (.int .i64) (.pair (.int .i64) (.pair (.int .i64) (.sl (.int .u8)))))))))) b),.c (.clo 164 [0,1])] [.cells 40 [i6 d,i6 e,.bool f,i6 g,i6 h,i6 i,.bool j,i6 l],.cells 3 [i6 m]] k=Fg_slices_ContainsFunc_api_Item_api_Item_766 fuel a b d e f g h i j l m (fun r=>match r with | (n,o,p,q,s,t,u,v,w,x)=>k (.c (.bool n),[.cells 40 [i6 o,i6 p,.bool q,i6 s,i6 t,i6 u,.bool v,i6 w],.cells 3 [i6 x]])):=by
  kernel_rfl
theorem hG161_766 (fuel:Nat):GOK Tryz.prog (G161_766 fuel):=
  gc (ok227_766 fuel) Tryz.func227 (by kernel_rfl) rfl <|
  gok_nil
def spg161_766 (F:YF161_766):Ev.Spec:=fun args objs k=>match args,objs with | [.c (.sl (.pair (.int .i64) (.pair (.int .i64) (.pair (.int .i64) (.pair .bool (.pair (.int .i64) (.pair (.int .i64) (.pair (.int .i64) (.pair (.int .i64) (.sl (.int .u8)))))))))) a),.c (.clo b [d,e])],[.cells f [i6 g,i6 h,.bool i,i6 j,i6 l,i6 m,.bool n,i6 o],.cells p [i6 q]]=>bif qb [b,d,e,f,p] [164,0,1,40,3] then F a g h i j l m n o q (fun r=>match r with | (s,t,u,v,w,x,y,z,A,B)=>k (.c (.bool s),[.cells 40 [i6 t,i6 u,.bool v,i6 w,i6 x,i6 y,.bool z,i6 A],.cells 3 [i6 B]])) else none | _,_=>none
theorem ok161_766 (fuel:Nat):FnOK Tryz.prog 161 (spg161_766 (F_slices_ContainsFunc_api_Item_api_Item_766 fuel)):=by
  intro args objs kk r h
  unfold spg161_766 at h
  split at h
  · skip
    obtain ⟨hb,h⟩:=cond_some' h
    cases qb_eq hb
    exact fo0 (hG161_766 fuel) Tryz.func161 rfl (by kernel_rfl) _ _ kk r ((F161_766_eqg fuel (F_slices_IndexFunc_api_Item_api_Item_766 fuel) _ _ _ _ _ _ _ _ _ _ kk).trans h)
  · cases h
def kp77 (i:Nat):Option (List Nat):=Ev.look i []
def Gg77 (a:YF161_766) (f:Nat):Option Ev.Spec:=Ev.look f [(161,spg161_766 a)]
def G77 (fuel:Nat):Nat→Option Ev.Spec:=Gg77 (F_slices_ContainsFunc_api_Item_api_Item_766 fuel)
def Fg_text_right (fuel:Nat) (c:YF161_766) (e f:Int) (g:Bool) (h i j:Int) (k:Bool) (l a:Int) (b:(List (Int×Int×Int×Bool×Int×Int×(Int×Int×LI)))) (k0:(Bool)→OA):OA:=bif decide (a≤60) then bif decide ((↑b.length:Int)≤300) then (c b e f g h i j k l a (fun (d,m,n,o,p,q,r,s,t,u)=>k0 !d)) else k0 false else k0 false
abbrev YF77:Type:=Int→Int→Bool→Int→Int→Int→Bool→Int→Int→((List (Int×Int×Int×Bool×Int×Int×(Int×Int×LI))))→(Bool→Option Ans)→Option Ans
def F_text_right (fuel:Nat):YF77:=Fg_text_right fuel (F_slices_ContainsFunc_api_Item_api_Item_766 fuel)
theorem F77_eqg (fuel:Nat) (a:YF161_766) (b d:Int) (e:Bool) (f g h:Int) (i:Bool) (j l:Int) (m:(List (Int×Int×Int×Bool×Int×Int×(Int×Int×LI)))) (k:Ev.Cont):evalFn tab (Gg77 a) J0 kp77 fuel Tryz.f77 [.agg [i6 b,i6 d,.bool e,i6 f,i6 g,i6 h,.bool i,i6 j],.c (i6 l),.c (.sl (.pair (.int .i64) (.pair (.int .i64) (.pair (.int .i64) (.pair .bool (.pair (.int .i64) (.pair (.int .i64) (.pair (.int .i64) (.pair (.int .i64) (.sl (.int .u8)))))))))) m)] [] k=Fg_text_right fuel a b d e f g h i j l m (fun r=>match r with | n=>k (.c (.bool n),[])):=by
  kernel_rfl
theorem hG77 (fuel:Nat):GOK Tryz.prog (G77 fuel):=
  gc (ok161_766 fuel) Tryz.func161 (by kernel_rfl) rfl <|
  gok_nil
def spg77 (F:YF77):Ev.Spec:=fun args objs k=>match args,objs with | [.agg [i6 a,i6 b,.bool d,i6 e,i6 f,i6 g,.bool h,i6 i],.c (i6 j),.c (.sl (.pair (.int .i64) (.pair (.int .i64) (.pair (.int .i64) (.pair .bool (.pair (.int .i64) (.pair (.int .i64) (.pair (.int .i64) (.pair (.int .i64) (.sl (.int .u8)))))))))) l)],[]=>F a b d e f g h i j l (fun r=>match r with | m=>k (.c (.bool m),[])) | _,_=>none
theorem ok77 (fuel:Nat):FnOK Tryz.prog 77 (spg77 (F_text_right fuel)):=by
  intro args objs kk r h
  unfold spg77 at h
  split at h
  · skip
    exact fo0 (hG77 fuel) Tryz.func77 rfl (by kernel_rfl) _ _ kk r ((F77_eqg fuel (F_slices_ContainsFunc_api_Item_api_Item_766 fuel) _ _ _ _ _ _ _ _ _ _ kk).trans h)
  · cases h
def kp36 (i:Nat):Option (List Nat):=Ev.look i [(10,[1,5,10,13,47,48,49]),(100001,[10,13]),(200013,[5,13,16]),(400001,[10,11])]
def Gg36 (d:YF73) (e:YF77) (g:YF99) (a:YF105) (b:YF106) (c:YF107) (f:Nat):Option Ev.Spec:=Ev.look f [(73,spg73 d),(77,spg77 e),(99,spg99 g),(105,spg105 a),(106,spg106 b),(107,spg107 c)]
def G36 (fuel:Nat):Nat→Option Ev.Spec:=Gg36 (F_text_begun fuel) (F_text_right fuel) (F_text_place fuel) (F_bitmap_New fuel) (F_bitmap_Draw fuel) (F_text_drawn fuel)
abbrev V_text_Render_1:Type:=(List (Int×(Int×LI)))×(List (Int×(Int×(Int×(Bool×(Int×(Int×(Int×(Int×LI)))))))))×Int×Int×Int×Int×Bool×Int×Int×Int×Bool×Int×Int×Int×Int×Int×LI×LI
abbrev W_text_Render_1:Type:=(Int×Int×Int×Int×LI×LI→OA)
def Sg_text_Render_1 (fuel:Nat) (M:YF73) (N:YF77) (K:YF99) (L:YF105) (C:YF106) (F:YF107) (f:(List (Int×(Int×LI)))) (d:(List (Int×(Int×(Int×(Bool×(Int×(Int×(Int×(Int×LI)))))))))) (o a:Int) (p q:Int) (r:Bool) (s e t:Int) (g:Bool) (h i:Int) (j k l:Int) (m n:LI) (c:V_text_Render_1→OA) (B:W_text_Render_1):OA:=match B with | b=>bif decide (a < o) then bif decide (0≤a∧a < (↑d.length:Int)) then (K p q r s e t g h f ((d.getD a.toNat (0,0,0,false,0,0,0,0,[])).fst) ((d.getD a.toNat (0,0,0,false,0,0,0,0,[])).snd.fst) ((d.getD a.toNat (0,0,0,false,0,0,0,0,[])).snd.snd.fst) ((d.getD a.toNat (0,0,0,false,0,0,0,0,[])).snd.snd.snd.fst) ((d.getD a.toNat (0,0,0,false,0,0,0,0,[])).snd.snd.snd.snd.fst) ((d.getD a.toNat (0,0,0,false,0,0,0,0,[])).snd.snd.snd.snd.snd.fst) ((d.getD a.toNat (0,0,0,false,0,0,0,0,[])).snd.snd.snd.snd.snd.snd.fst) ((d.getD a.toNat (0,0,0,false,0,0,0,0,[])).snd.snd.snd.snd.snd.snd.snd.fst) ((d.getD a.toNat (0,0,0,false,0,0,0,0,[])).snd.snd.snd.snd.snd.snd.snd.snd) (fun (D,E)=>both ((F f ((d.getD a.toNat (0,0,0,false,0,0,0,0,[])).fst) ((d.getD a.toNat (0,0,0,false,0,0,0,0,[])).snd.fst) ((d.getD a.toNat (0,0,0,false,0,0,0,0,[])).snd.snd.fst) ((d.getD a.toNat (0,0,0,false,0,0,0,0,[])).snd.snd.snd.fst) ((d.getD a.toNat (0,0,0,false,0,0,0,0,[])).snd.snd.snd.snd.fst) ((d.getD a.toNat (0,0,0,false,0,0,0,0,[])).snd.snd.snd.snd.snd.fst) ((d.getD a.toNat (0,0,0,false,0,0,0,0,[])).snd.snd.snd.snd.snd.snd.fst) ((d.getD a.toNat (0,0,0,false,0,0,0,0,[])).snd.snd.snd.snd.snd.snd.snd.fst) ((d.getD a.toNat (0,0,0,false,0,0,0,0,[])).snd.snd.snd.snd.snd.snd.snd.snd) (fun (u,v,w)=>both ((C k l n u v w D E e (fun (x,y,z,A)=>bif z==0 then c (f,d,o,i64.wrap (a+1),p,q,r,s,e,t,g,h,i,j,x,y,m,A) else c (f,d,o,i64.wrap (a+1),p,q,r,s,e,t,g,h,i,j,k,l,m,n)))) ((C k l n u v w D E e (fun (x,y,z,A)=>bif z==0 then c (f,d,o,i64.wrap (a+1),p,q,r,s,e,t,g,h,i,j,x,y,m,A) else c (f,d,o,i64.wrap (a+1),p,q,r,s,e,t,g,h,i,j,k,l,m,n))))))) ((F f ((d.getD a.toNat (0,0,0,false,0,0,0,0,[])).fst) ((d.getD a.toNat (0,0,0,false,0,0,0,0,[])).snd.fst) ((d.getD a.toNat (0,0,0,false,0,0,0,0,[])).snd.snd.fst) ((d.getD a.toNat (0,0,0,false,0,0,0,0,[])).snd.snd.snd.fst) ((d.getD a.toNat (0,0,0,false,0,0,0,0,[])).snd.snd.snd.snd.fst) ((d.getD a.toNat (0,0,0,false,0,0,0,0,[])).snd.snd.snd.snd.snd.fst) ((d.getD a.toNat (0,0,0,false,0,0,0,0,[])).snd.snd.snd.snd.snd.snd.fst) ((d.getD a.toNat (0,0,0,false,0,0,0,0,[])).snd.snd.snd.snd.snd.snd.snd.fst) ((d.getD a.toNat (0,0,0,false,0,0,0,0,[])).snd.snd.snd.snd.snd.snd.snd.snd) (fun (u,v,w)=>(C k l n u v w D E e (fun (G,H,I,J)=>bif I==0 then c (f,d,o,i64.wrap (a+1),p,q,r,s,e,t,g,h,i,j,G,H,m,J) else c (f,d,o,i64.wrap (a+1),p,q,r,s,e,t,g,h,i,j,k,l,m,n)))))))) else none else b (i,j,k,l,m,n)
def S_text_Render_1 (fuel:Nat) (v:(List (Int×(Int×(List Int))))×(List (Int×(Int×(Int×(Bool×(Int×(Int×(Int×(Int×(List Int))))))))))×Int×Int×Int×Int×Bool×Int×Int×Int×Bool×Int×Int×Int×Int×Int×(List Int)×(List Int)) (c:((List (Int×(Int×(List Int))))×(List (Int×(Int×(Int×(Bool×(Int×(Int×(Int×(Int×(List Int))))))))))×Int×Int×Int×Int×Bool×Int×Int×Int×Bool×Int×Int×Int×Int×Int×(List Int)×(List Int))→Option Ans) (B:(Int×Int×Int×Int×(List Int)×(List Int)→Option Ans)):Option Ans:=match v with | (j,k,l,m,n,o,p,q,r,s,a,b,d,e,f,g,h,i)=>Sg_text_Render_1 fuel (F_text_begun fuel) (F_text_right fuel) (F_text_place fuel) (F_bitmap_New fuel) (F_bitmap_Draw fuel) (F_text_drawn fuel) j k l m n o p q r s a b d e f g h i c B
def L_text_Render_1 (fuel:Nat) (v:V_text_Render_1) (b:W_text_Render_1):Option Ans:=iter (S_text_Render_1 fuel) fuel v b
def T36_1 (v:V_text_Render_1):Ev.St:=match v with | (j,k,l,m,n,o,p,q,r,s,a,b,d,e,f,g,h,i)=>⟨[(1,.c (.sl (.pair (.int .i64) (.pair (.int .i64) (.sl (.int .u8)))) j)),(5,.c (.ptr 0 0)),(10,.c (.ptr 1 0)),(13,.c (.ptr 2 0)),(47,.c (.sl (.pair (.int .i64) (.pair (.int .i64) (.pair (.int .i64) (.pair .bool (.pair (.int .i64) (.pair (.int .i64) (.pair (.int .i64) (.pair (.int .i64) (.sl (.int .u8)))))))))) k)),(48,.c (i6 l)),(49,.c (i6 m))],[(0,.cells 40 [i6 n,i6 o,.bool p,i6 q,i6 r,i6 s,.bool a,i6 b]),(1,.cells 51 [i6 d,i6 e,.own 3]),(2,.cells 51 [i6 f,i6 g,.own 4]),(3,.vec 5 (.int .u8) h true),(4,.vec 5 (.int .u8) i true)],5,0⟩
def E36_1 (K:KT):W_text_Render_1:=(fun v=>match v with | (a,b,d,e,f,g)=>K .normal ⟨[(10,.c (.ptr 0 0)),(13,.c (.ptr 1 0))],[(0,.cells 51 [i6 a,i6 b,.own 2]),(1,.cells 51 [i6 d,i6 e,.own 3]),(2,.vec 5 (.int .u8) f true),(3,.vec 5 (.int .u8) g true)],4,0⟩)
theorem S36_1_okg (fuel:Nat) (d:YF73) (e:YF77) (f:YF99) (a:YF105) (b:YF106) (c:YF107) (R:Ev.St→OA) (K:KT) (o:(List (Int×(Int×LI)))) (p:(List (Int×(Int×(Int×(Bool×(Int×(Int×(Int×(Int×LI)))))))))) (q r:Int) (s t:Int) (u:Bool) (w x y:Int) (g:Bool) (h i:Int) (j k l:Int) (m n:LI):evalCode tab (Gg36 d e f a b c) J0 kp36 fuel (bodyOf 1 Tryz.f36) (T36_1 (o,p,q,r,s,t,u,w,x,y,g,h,i,j,k,l,m,n)) (lc kp36 10 1 R K)=Sg_text_Render_1 fuel d e f a b c o p q r s t u w x y g h i j k l m n (fun v=>R (T36_1 v)) (E36_1 K):=by
  kernel_rfl
def B36_1 (fuel:Nat):Ev.Blk:=fun st K=>match canonO (kp36 10) st with | some s=>(match s with | ⟨[(B,.c (.sl (.pair (.int .i64) (.pair (.int .i64) (.sl (.int .u8)))) C)),(D,.c (.ptr E F)),(G,.c (.ptr H I)),(J,.c (.ptr L M)),(a,.c (.sl (.pair (.int .i64) (.pair (.int .i64) (.pair (.int .i64) (.pair .bool (.pair (.int .i64) (.pair (.int .i64) (.pair (.int .i64) (.pair (.int .i64) (.sl (.int .u8)))))))))) N)),(b,.c (i6 O)),(d,.c (i6 P))],[(e,.cells f [i6 Q,i6 R,.bool S,i6 T,i6 U,i6 V,.bool g,i6 h]),(i,.cells j [i6 k,i6 l,.own m]),(n,.cells o [i6 p,i6 q,.own r]),(t,.vec u (.int .u8) v true),(w,.vec x (.int .u8) y true)],z,A⟩=>bif qb [B,D,E,F,G,H,I,J,L,M,a,b,d,e,f,i,j,m,n,o,r,t,u,w,x,z,A] [1,5,0,0,10,1,0,13,2,0,47,48,49,0,40,1,51,3,2,51,4,3,5,4,5,5,0] then iter (S_text_Render_1 fuel) fuel (C,N,O,P,Q,R,S,T,U,V,g,h,k,l,p,q,v,y) (E36_1 K) else none | _=>none) | none=>none
theorem B36_1_ok (fuel:Nat) (st:Ev.St) (K:KT) (r:Ans) (h:B36_1 fuel st K=some r):evalCode tab (G36 fuel) J0 kp36 fuel (.block 1 (.loop (bodyOf 1 Tryz.f36))) st K=some r:=by
  unfold B36_1 at h
  split at h
  · rename_i s hs
    split at h
    · skip
      obtain ⟨hb,h⟩:=cond_some' h
      cases qb_eq hb
      exact blk_loop (S:=T36_1) (ks:=E36_1) (step:=S_text_Render_1 fuel) (v:=(_,_,_,_,_,_,_,_,_,_,_,_,_,_,_,_,_,_)) (by kernel_rfl) (by kernel_rfl) (fun R K v=>by obtain ⟨j,k,l,m,n,o,p,q,t,u,a,b,c,d,e,f,g,i⟩:=v; exact S36_1_okg fuel (F_text_begun fuel) (F_text_right fuel) (F_text_place fuel) (F_bitmap_New fuel) (F_bitmap_Draw fuel) (F_text_drawn fuel) R K j k l m n o p q t u a b c d e f g i) hs h
    · cases h
  · cases h
def J36 (fuel:Nat) (i:Nat):Option Ev.Blk:=Ev.look i [(100001,B36_1 fuel)]
def Fg_text_Render (fuel:Nat) (t:YF73) (u:YF77) (D:YF99) (l:YF105) (y:YF106) (z:YF107) (b c:Int) (d:Bool) (e f g:Int) (h:Bool) (i:Int) (j:(List (Int×Int×LI))) (a:(List (Int×Int×Int×Bool×Int×Int×(Int×Int×LI)))) (v w:Int) (k0:(Int×Int×Int×LI)→OA):OA:=(t b c d e f g h i j a (fun k=>bif k != 0 then k0 (0,0,k,[]) else (l v w (0) (fun (m,n,o,p)=>bif o != 0 then k0 (0,0,30,[]) else (u b c d e f g h i ((↑j.length:Int)) a (fun x=>bif !x then k0 (0,0,2,[]) else (L_text_Render_1 fuel (j,a,(↑a.length:Int),0,b,c,d,e,f,g,h,i,0,0,m,n,[],p) (fun (A,B,q,r,C,s)=>k0 (q,r,0,s)))))))))
abbrev YF36:Type:=Int→Int→Bool→Int→Int→Int→Bool→Int→((List (Int×Int×LI)))→((List (Int×Int×Int×Bool×Int×Int×(Int×Int×LI))))→Int→Int→((Int×Int×Int×LI)→Option Ans)→Option Ans
def F_text_Render (fuel:Nat):YF36:=Fg_text_Render fuel (F_text_begun fuel) (F_text_right fuel) (F_text_place fuel) (F_bitmap_New fuel) (F_bitmap_Draw fuel) (F_text_drawn fuel)
theorem F36_eqg (fuel:Nat) (e:YF73) (f:YF77) (g:YF99) (a:YF105) (b:YF106) (d:YF107) (j l:Int) (m:Bool) (n o p:Int) (q:Bool) (s:Int) (t:(List (Int×Int×LI))) (u:(List (Int×Int×Int×Bool×Int×Int×(Int×Int×LI)))) (h i:Int) (k:Ev.Cont):evalFn tab (Gg36 e f g a b d) (J36 fuel) kp36 fuel Tryz.f36 [.agg [i6 j,i6 l,.bool m,i6 n,i6 o,i6 p,.bool q,i6 s],.c (.sl (.pair (.int .i64) (.pair (.int .i64) (.sl (.int .u8)))) t),.c (.sl (.pair (.int .i64) (.pair (.int .i64) (.pair (.int .i64) (.pair .bool (.pair (.int .i64) (.pair (.int .i64) (.pair (.int .i64) (.pair (.int .i64) (.sl (.int .u8)))))))))) u),.c (i6 h),.c (i6 i)] [] k=Fg_text_Render fuel e f g a b d j l m n o p q s t u h i (fun r=>match r with | (v,w,x,y)=>k (.tup [(true,[i6 v,i6 w,.own 0]),(false,[i6 x])],[.vec 5 (.int .u8) y true])):=by
  kernel_rfl
theorem hG36 (fuel:Nat):GOK Tryz.prog (G36 fuel):=
  gc (ok73 fuel) Tryz.func73 (by kernel_rfl) rfl <|
  gc (ok77 fuel) Tryz.func77 (by kernel_rfl) rfl <|
  gc (ok99 fuel) Tryz.func99 (by kernel_rfl) rfl <|
  gc (ok105 fuel) Tryz.func105 (by kernel_rfl) rfl <|
  gc (ok106 fuel) Tryz.func106 (by kernel_rfl) rfl <|
  gc (ok107 fuel) Tryz.func107 (by kernel_rfl) rfl <|
  gok_nil
theorem B36_1_blk (fuel:Nat):BlkOK Tryz.prog Tryz.f36.ntmps (.block 1 (.loop (bodyOf 1 Tryz.f36))) (B36_1 fuel):=bo0 (hG36 fuel) (by kernel_rfl) (by kernel_rfl) (B36_1_ok fuel)
def spg36 (F:YF36):Ev.Spec:=fun args objs k=>match args,objs with | [.agg [i6 d,i6 e,.bool f,i6 g,i6 h,i6 i,.bool j,i6 l],.c (.sl (.pair (.int .i64) (.pair (.int .i64) (.sl (.int .u8)))) m),.c (.sl (.pair (.int .i64) (.pair (.int .i64) (.pair (.int .i64) (.pair .bool (.pair (.int .i64) (.pair (.int .i64) (.pair (.int .i64) (.pair (.int .i64) (.sl (.int .u8)))))))))) n),.c (i6 a),.c (i6 b)],[]=>F d e f g h i j l m n a b (fun r=>match r with | (o,p,q,s)=>k (.tup [(true,[i6 o,i6 p,.own 0]),(false,[i6 q])],[.vec 5 (.int .u8) s true])) | _,_=>none
theorem ok36 (fuel:Nat):FnOK Tryz.prog 36 (spg36 (F_text_Render fuel)):=by
  intro args objs kk r h
  unfold spg36 at h
  split at h
  · skip
    exact fo1 (hG36 fuel) Tryz.func36 rfl (B36_1_blk fuel) (by kernel_rfl) _ _ kk r ((F36_eqg fuel (F_text_begun fuel) (F_text_right fuel) (F_text_place fuel) (F_bitmap_New fuel) (F_bitmap_Draw fuel) (F_text_drawn fuel) _ _ _ _ _ _ _ _ _ _ _ _ kk).trans h)
  · cases h
def kp9 (i:Nat):Option (List Nat):=Ev.look i []
def Gg9 (a:YF21) (b:YF22) (c:YF36) (d:YF37) (e:YF38) (f:Nat):Option Ev.Spec:=Ev.look f [(21,spg21 a),(22,spg22 b),(36,spg36 c),(37,spg37 d),(38,spg38 e)]
def G9 (fuel:Nat):Nat→Option Ev.Spec:=Gg9 (F_law10_long fuel) (F_law10_Awake fuel) (F_text_Render fuel) (F_ref10_Render fuel) (F_ref06_SameBitmap fuel)
def Fg_law10_TextRenders (fuel:Nat) (v:YF21) (c:YF22) (w:YF36) (x:YF37) (y:YF38) (f g:Int) (h:Bool) (i j k:Int) (l:Bool) (m:Int) (a:(List (Int×Int×LI))) (b:(List (Int×Int×Int×Bool×Int×Int×(Int×Int×LI)))) (d e:Int) (k0:(Bool)→OA):OA:=(v a b (fun B=>bif B then (c (fun C=>k0 C)) else (w f g h i j k l m a b d e (fun (r,s,t,u)=>(x f g h i j k l m a b d e (fun (n,o,p,q)=>bif t==p then (y r s u n o q (fun z=>bif z then (c (fun A=>k0 A)) else k0 false)) else k0 false))))))
abbrev YF9:Type:=Int→Int→Bool→Int→Int→Int→Bool→Int→((List (Int×Int×LI)))→((List (Int×Int×Int×Bool×Int×Int×(Int×Int×LI))))→Int→Int→(Bool→Option Ans)→Option Ans
def F_law10_TextRenders (fuel:Nat):YF9:=Fg_law10_TextRenders fuel (F_law10_long fuel) (F_law10_Awake fuel) (F_text_Render fuel) (F_ref10_Render fuel) (F_ref06_SameBitmap fuel)
theorem F9_eqg (fuel:Nat) (a:YF21) (b:YF22) (d:YF36) (e:YF37) (f:YF38) (i j:Int) (l:Bool) (m n o:Int) (p:Bool) (q:Int) (s:(List (Int×Int×LI))) (t:(List (Int×Int×Int×Bool×Int×Int×(Int×Int×LI)))) (g h:Int) (k:Ev.Cont):evalFn tab (Gg9 a b d e f) J0 kp9 fuel Tryz.f9 [.agg [i6 i,i6 j,.bool l,i6 m,i6 n,i6 o,.bool p,i6 q],.c (.sl (.pair (.int .i64) (.pair (.int .i64) (.sl (.int .u8)))) s),.c (.sl (.pair (.int .i64) (.pair (.int .i64) (.pair (.int .i64) (.pair .bool (.pair (.int .i64) (.pair (.int .i64) (.pair (.int .i64) (.pair (.int .i64) (.sl (.int .u8)))))))))) t),.c (i6 g),.c (i6 h)] [] k=Fg_law10_TextRenders fuel a b d e f i j l m n o p q s t g h (fun r=>match r with | u=>k (.c (.bool u),[])):=by
  kernel_rfl
theorem hG9 (fuel:Nat):GOK Tryz.prog (G9 fuel):=
  gc (ok21 fuel) Tryz.func21 (by kernel_rfl) rfl <|
  gc (ok22 fuel) Tryz.func22 (by kernel_rfl) rfl <|
  gc (ok36 fuel) Tryz.func36 (by kernel_rfl) rfl <|
  gc (ok37 fuel) Tryz.func37 (by kernel_rfl) rfl <|
  gc (ok38 fuel) Tryz.func38 (by kernel_rfl) rfl <|
  gok_nil
def spg9 (F:YF9):Ev.Spec:=fun args objs k=>match args,objs with | [.agg [i6 d,i6 e,.bool f,i6 g,i6 h,i6 i,.bool j,i6 l],.c (.sl (.pair (.int .i64) (.pair (.int .i64) (.sl (.int .u8)))) m),.c (.sl (.pair (.int .i64) (.pair (.int .i64) (.pair (.int .i64) (.pair .bool (.pair (.int .i64) (.pair (.int .i64) (.pair (.int .i64) (.pair (.int .i64) (.sl (.int .u8)))))))))) n),.c (i6 a),.c (i6 b)],[]=>F d e f g h i j l m n a b (fun r=>match r with | o=>k (.c (.bool o),[])) | _,_=>none
def spec9 (fuel:Nat):Ev.Spec:=spg9 (F_law10_TextRenders fuel)
theorem ok9 (fuel:Nat):FnOK Tryz.prog 9 (spec9 fuel):=by
  intro args objs kk r h
  unfold spec9 spg9 at h
  split at h
  · skip
    exact fo0 (hG9 fuel) Tryz.func9 rfl (by kernel_rfl) _ _ kk r ((F9_eqg fuel (F_law10_long fuel) (F_law10_Awake fuel) (F_text_Render fuel) (F_ref10_Render fuel) (F_ref06_SameBitmap fuel) _ _ _ _ _ _ _ _ _ _ _ _ kk).trans h)
  · cases h
end
end Go.Proofs.YtipdidpalcmlhaaGreat

