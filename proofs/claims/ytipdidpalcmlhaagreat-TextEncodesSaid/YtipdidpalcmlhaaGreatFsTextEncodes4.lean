/- What the functions that TextEncodes reaches do: their typed texts, each with the proof that the machine does it. No condition. -/
import Derived.Test.YtipdidpalcmlhaaGreatEvX
import Derived.Test.YtipdidpalcmlhaaGreatFsTextEncodes3
import Derived.Test.YtipdidpalcmlhaaGreatFsTextEncodes1
set_option linter.unusedVariables false
set_option linter.unusedSimpArgs false
set_option linter.unusedSectionVars false
set_option linter.unusedVariables false
set_option linter.unusedSimpArgs false
set_option maxRecDepth 100000
set_option maxHeartbeats 2000000
namespace Go.Proofs.YtipdidpalcmlhaaGreat
open Go Ev
open Go.IntKind (i64 u64 u8 i32 u32 u16)
noncomputable section
def kp87_9d8 (i:Nat):Option (List Nat):=Ev.look i [(5,[0,1,3,9,10,1000002]),(100000,[]),(400000,[8])]
def Gg87_9d8 (b:YF88_e89) (a:YF138_2fe) (c:YF176) (d:YF178) (f:Nat):Option Ev.Spec:=Ev.look f [(88,spg88_e89 b),(138,spg138_2fe a),(176,spg176 c),(178,spg178 d)]
def G87_9d8 (fuel:Nat):Nat→Option Ev.Spec:=Gg87_9d8 (F_ref02_Encoder_Put_e89 fuel) (F_ref02_Encoder_Model_2fe fuel) (F_ref03_room fuel) (F_ref03_isId fuel)
abbrev V_ref03_PutId_9d8_0:Type:=Int×Int×Int×Int×Int×Int×Int×LI×LI
abbrev W_ref03_PutId_9d8_0:Type:=(Int×Int×Int×LI×LI→OA)
def Sg_ref03_PutId_9d8_0 (fuel:Nat) (q:YF88_e89) (s:YF138_2fe) (t:YF176) (u:YF178) (j d:Int) (k a:Int) (l m n:Int) (o p:LI) (c:V_ref03_PutId_9d8_0→OA) (B:W_ref03_PutId_9d8_0):OA:=match B with | b=>bif decide (a≥0) then bif decide (a < 0) then none else (q (i64.wrap (i64.wrap (j+k) - 1)) (Ev.iand IntKind.i64 (Ev.ishr IntKind.i64 d a) 1) l m n o p (fun (r,e,f,g,h,i)=>c (j,d,i64.wrap (i64.wrap (2*k)+Ev.iand IntKind.i64 (Ev.ishr IntKind.i64 d a) 1),i64.wrap (a - 1),e,f,g,h,i)) (fun (r,e,f,g,h,i)=>c (j,d,i64.wrap (i64.wrap (2*k)+Ev.iand IntKind.i64 (Ev.ishr IntKind.i64 d a) 1),i64.wrap (a - 1),e,f,g,h,i))) else b (l,m,n,o,p)
def S_ref03_PutId_9d8_0 (fuel:Nat) (v:Int×Int×Int×Int×Int×Int×Int×(List Int)×(List Int)) (c:(Int×Int×Int×Int×Int×Int×Int×(List Int)×(List Int))→Option Ans) (B:(Int×Int×Int×(List Int)×(List Int)→Option Ans)):Option Ans:=match v with | (a,b,d,e,f,g,h,i,j)=>Sg_ref03_PutId_9d8_0 fuel (F_ref02_Encoder_Put_e89 fuel) (F_ref02_Encoder_Model_2fe fuel) (F_ref03_room fuel) (F_ref03_isId fuel) a b d e f g h i j c B
def L_ref03_PutId_9d8_0 (fuel:Nat) (v:V_ref03_PutId_9d8_0) (b:W_ref03_PutId_9d8_0):Option Ans:=iter (S_ref03_PutId_9d8_0 fuel) fuel v b
def T87_9d8_0 (v:V_ref03_PutId_9d8_0):Ev.St:=match v with | (a,b,d,e,f,g,h,i,j)=>⟨[(0,.c (.ptr 0 0)),(1,.c (i6 a)),(3,.c (i6 b)),(9,.c (i6 d)),(10,.c (i6 e))],[(0,.cells 187 [i6 f,.own 1,.int .u64 g,.int .u64 h,.own 2]),(1,.vec 3 (.int .i64) i false),(2,.vec 5 (.int .u8) j true)],3,3⟩
def E87_9d8_0 (K:KT):W_ref03_PutId_9d8_0:=(fun v=>match v with | (a,b,c,d,e)=>K .normal ⟨[],[(0,.cells 187 [i6 a,.own 1,.int .u64 b,.int .u64 c,.own 2]),(1,.vec 3 (.int .i64) d false),(2,.vec 5 (.int .u8) e true)],3,3⟩)
theorem S87_9d8_0_okg (fuel:Nat) (b:YF88_e89) (a:YF138_2fe) (c:YF176) (d:YF178) (R:Ev.St→OA) (K:KT) (e f:Int) (g h:Int) (i j k:Int) (l m:LI):evalCode tab (Gg87_9d8 b a c d) J0 kp87_9d8 fuel (bodyOf 0 Tryz.f87) (T87_9d8_0 (e,f,g,h,i,j,k,l,m)) (lc kp87_9d8 5 0 R K)=Sg_ref03_PutId_9d8_0 fuel b a c d e f g h i j k l m (fun v=>R (T87_9d8_0 v)) (E87_9d8_0 K):=by
  kernel_rfl
def B87_9d8_0 (fuel:Nat):Ev.Blk:=fun st K=>match canonO (kp87_9d8 5) st with | some s=>(match s with | ⟨[(i,.c (.ptr j k)),(l,.c (i6 m)),(n,.c (i6 o)),(p,.c (i6 q)),(r,.c (i6 t))],[(u,.cells v [i6 w,.own x,.int .u64 y,.int .u64 z,.own a]),(b,.vec d (.int .i64) A false),(e,.vec f (.int .u8) B true)],g,h⟩=>bif qb [i,j,k,l,n,p,r,u,v,x,a,b,d,e,f,g,h] [0,0,0,1,3,9,10,0,187,1,2,1,3,2,5,3,3] then iter (S_ref03_PutId_9d8_0 fuel) fuel (m,o,q,t,w,y,z,A,B) (E87_9d8_0 K) else none | _=>none) | none=>none
theorem B87_9d8_0_ok (fuel:Nat) (st:Ev.St) (K:KT) (r:Ans) (h:B87_9d8_0 fuel st K=some r):evalCode tab (G87_9d8 fuel) J0 kp87_9d8 fuel (.block 0 (.loop (bodyOf 0 Tryz.f87))) st K=some r:=by
  unfold B87_9d8_0 at h
  split at h
  · rename_i s hs
    split at h
    · skip
      obtain ⟨hb,h⟩:=cond_some' h
      cases qb_eq hb
      exact blk_loop (S:=T87_9d8_0) (ks:=E87_9d8_0) (step:=S_ref03_PutId_9d8_0 fuel) (v:=(_,_,_,_,_,_,_,_,_)) (by kernel_rfl) (by kernel_rfl) (fun R K v=>by obtain ⟨a,b,c,d,e,f,g,i,j⟩:=v; exact S87_9d8_0_okg fuel (F_ref02_Encoder_Put_e89 fuel) (F_ref02_Encoder_Model_2fe fuel) (F_ref03_room fuel) (F_ref03_isId fuel) R K a b c d e f g i j) hs h
    · cases h
  · cases h
def J87_9d8 (fuel:Nat) (i:Nat):Option Ev.Blk:=Ev.look i [(100000,B87_9d8_0 fuel)]
def F_ref03_PutId_9d8 (fuel:Nat) (g a:Int) (h i:Int) (j k:Int) (l m:(List Int)) (k0:(Int×Int×Int×Int×(List Int)×(List Int))→Option Ans):Option Ans:=(F_ref03_isId fuel a h (fun u=>bif !u then k0 (2,i,j,k,l,m) else bif decide (a < 0) then none else (F_ref02_Encoder_Model_2fe fuel i j k l m (fun (v,b,c,d,e,f,n)=>(F_ref03_room fuel ((↑n.length:Int)) g (i64.wrap (Ev.ishl IntKind.i64 1 a - 1)) (fun t=>bif !t then k0 (2,b,c,d,e,f) else (L_ref03_PutId_9d8_0 fuel (g,h,1,i64.wrap (a - 1),b,c,d,e,f) (fun (o,p,q,r,s)=>k0 (0,o,p,q,r,s)))))))))
abbrev YF87_9d8:Type:=Int→Int→Int→Int→Int→Int→LI→LI→((Int×Int×Int×Int×LI×LI)→Option Ans)→Option Ans
theorem F87_9d8_eqg (fuel:Nat) (t:YF88_e89) (j:YF138_2fe) (l:YF176) (m:YF178) (b a:Int) (d e:Int) (f g:Int) (h i:LI) (k:Ev.Cont):evalFn tab (Gg87_9d8 t j l m) (J87_9d8 fuel) kp87_9d8 fuel Tryz.f87 [.c (.ptr 0 0),.c (i6 b),.c (i6 a),.c (i6 d)] [.cells 187 [i6 e,.own 1,.int .u64 f,.int .u64 g,.own 2],.vec 3 (.int .i64) h false,.vec 5 (.int .u8) i false] (wkC [1000002] k)=(fun  (k0:(Int×Int×Int×Int×LI×LI)→OA)=>
  (m a d
  (fun B=>
  bif !B then
  k0 ((2:Int),e,f,g,h,i)
  else
  bif decide (a < (0:Int)) then
  none
  else
  (j e f g h i
  (fun (I,n,o,p,q,s,u)=>
  (l ((↑u.length:Int)) b (i64.wrap (Ev.ishl IntKind.i64 (1:Int) a - (1:Int)))
  (fun A=>
  bif !A then
  k0 ((2:Int),n,o,p,q,s)
  else
  (L_ref03_PutId_9d8_0 fuel (b,d,(1:Int),i64.wrap (a - (1:Int)),n,o,p,q,s)
  (fun (v,w,x,y,z)=>
  k0 ((0:Int),v,w,x,y,z)))))))))) (fun r=>match r with | (C,D,E,F,G,H)=>k (.c (i6 C),[.cells 187 [i6 D,.own 1,.int .u64 E,.int .u64 F,.own 2],.vec 3 (.int .i64) G false,.vec 5 (.int .u8) H true])):=by
  kernel_rfl
theorem hG87_9d8 (fuel:Nat):GOK Tryz.prog (G87_9d8 fuel):=
  gc (ok88_e89 fuel) Tryz.func88 (by kernel_rfl) rfl <|
  gc (ok138_2fe fuel) Tryz.func138 (by kernel_rfl) rfl <|
  gc (ok176 fuel) Tryz.func176 (by kernel_rfl) rfl <|
  gc (ok178 fuel) Tryz.func178 (by kernel_rfl) rfl <|
  gok_nil
theorem B87_9d8_0_blk (fuel:Nat):BlkOK Tryz.prog Tryz.f87.ntmps (.block 0 (.loop (bodyOf 0 Tryz.f87))) (B87_9d8_0 fuel):=bo0 (hG87_9d8 fuel) (by kernel_rfl) (by kernel_rfl) (B87_9d8_0_ok fuel)
theorem fok87_9d8 (fuel:Nat):FnOK Tryz.prog 87 (evalFn tab (G87_9d8 fuel) (J87_9d8 fuel) kp87_9d8 fuel Tryz.f87):=
  fn_ok tab_ok (hG87_9d8 fuel) mixed Tryz.func87 (c:=(Tryz.f87.body).getD .skip) rfl (fun q hq=>by
    rw [(by kernel_rfl:obl (J87_9d8 fuel) ((Tryz.f87.body).getD .skip)= [(.block 0 (.loop (bodyOf 0 Tryz.f87)),B87_9d8_0 fuel)])] at hq
    simp only [List.mem_cons,List.not_mem_nil,or_false] at hq
    subst hq
    · exact B87_9d8_0_blk fuel)
def spg87_9d8 (F:YF87_9d8):Ev.Spec:=fun args objs k=>match args,objs with | [.c (.ptr a b),.c (i6 d),.c (i6 e),.c (i6 f)],[.cells g [i6 h,.own i,.int .u64 j,.int .u64 l,.own m],.vec n (.int .i64) o false,.vec p (.int .u8) q false]=>bif qb [a,b,g,i,m,n,p] [0,0,187,1,2,3,5] then F d e f h j l o q (fun r=>match r with | (s,t,u,v,w,x)=>k (.c (i6 s),[.cells 187 [i6 t,.own 1,.int .u64 u,.int .u64 v,.own 2],.vec 3 (.int .i64) w false,.vec 5 (.int .u8) x true])) else none | _,_=>none
theorem ok87_9d8 (fuel:Nat):FnOK Tryz.prog 87 (spg87_9d8 (F_ref03_PutId_9d8 fuel)):=by
  intro args objs kk r h
  unfold spg87_9d8 at h
  split at h
  · skip
    obtain ⟨hb,h⟩:=cond_some' h
    cases qb_eq hb
    exact (fok87_9d8 fuel).wk [1000002] _ _ kk r ((F87_9d8_eqg fuel (F_ref02_Encoder_Put_e89 fuel) (F_ref02_Encoder_Model_2fe fuel) (F_ref03_room fuel) (F_ref03_isId fuel) _ _ _ _ _ _ _ _ kk).trans h)
  · cases h
def kp200 (i:Nat):Option (List Nat):=Ev.look i [(2,[5,6,7]),(100000,[]),(400000,[2])]
def Gg200 (f:Nat):Option Ev.Spec:=Ev.look f []
def G200 (fuel:Nat):Nat→Option Ev.Spec:=Gg200
def S_ref06_IsRow_0 (fuel:Nat) (v:(List Int)×Int×Int) (c:((List Int)×Int×Int)→Option Ans) (B:(Bool→Option Ans)×(Unit→Option Ans)):Option Ans:=match v,B with | (d,e,a),(ret,b)=>bif decide (a < e) then bif decide ((0:Int)≤a∧a < (↑d.length:Int)) then bif decide (d.getD a.toNat (0:Int) > (1:Int)) then ret false else c (d,e,i64.wrap (a+(1:Int))) else none else b ()
def L_ref06_IsRow_0 (fuel:Nat) (v:(List Int)×Int×Int) (ret:(Bool→Option Ans)) (b:(Unit→Option Ans)):Option Ans:=iter (S_ref06_IsRow_0 fuel) fuel v (ret,b)
def T200_0 (v:LI×Int×Int):Ev.St:=match v with | (a,b,d)=>⟨[(5,.c (.sl (.int .u8) a)),(6,.c (i6 b)),(7,.c (i6 d))],[],0,0⟩
def E200_0 (K:KT):(Bool→OA)×(Unit→OA):=((fun v=>match v with | a=>K .ret ⟨[(2,.c (.bool a))],[],0,0⟩),(fun v=>match v with | ()=>K .normal ⟨[],[],0,0⟩))
theorem S200_0_ok (fuel:Nat) (R:Ev.St→OA) (K:KT) (a:LI) (b c:Int):evalCode tab (G200 fuel) J0 kp200 fuel (bodyOf 0 Tryz.f200) (T200_0 (a,b,c)) (lc kp200 2 0 R K)=S_ref06_IsRow_0 fuel (a,b,c) (fun v=>R (T200_0 v)) (E200_0 K):=by
  kernel_rfl
def B200_0 (fuel:Nat):Ev.Blk:=fun st K=>match canonO (kp200 2) st with | some s=>(match s with | ⟨[(a,.c (.sl (.int .u8) b)),(d,.c (i6 e)),(f,.c (i6 g))],[],h,i⟩=>bif qb [a,d,f,h,i] [5,6,7,0,0] then iter (S_ref06_IsRow_0 fuel) fuel (b,e,g) (E200_0 K) else none | _=>none) | none=>none
theorem B200_0_ok (fuel:Nat) (st:Ev.St) (K:KT) (r:Ans) (h:B200_0 fuel st K=some r):evalCode tab (G200 fuel) J0 kp200 fuel (.block 0 (.loop (bodyOf 0 Tryz.f200))) st K=some r:=by
  unfold B200_0 at h
  split at h
  · rename_i s hs
    split at h
    · skip
      obtain ⟨hb,h⟩:=cond_some' h
      cases qb_eq hb
      exact blk_loop (S:=T200_0) (ks:=E200_0) (step:=S_ref06_IsRow_0 fuel) (v:=(_,_,_)) (by kernel_rfl) (by kernel_rfl) (fun R K v=>by obtain ⟨a,b,c⟩:=v; exact S200_0_ok fuel R K a b c) hs h
    · cases h
  · cases h
def J200 (fuel:Nat) (i:Nat):Option Ev.Blk:=Ev.look i [(100000,B200_0 fuel)]
def F_ref06_IsRow (fuel:Nat) (a:(List Int)) (k0:(Bool)→Option Ans):Option Ans:=(L_ref06_IsRow_0 fuel (a,(↑a.length:Int),0) (fun ret0_0=>k0 ret0_0) (fun ()=>k0 true))
abbrev YF200:Type:=LI→(Bool→Option Ans)→Option Ans
theorem F200_eq (fuel:Nat) (a:LI) (k:Ev.Cont):evalFn tab (G200 fuel) (J200 fuel) kp200 fuel Tryz.f200 [.c (.sl (.int .u8) a)] [] k=F_ref06_IsRow fuel a (fun r=>match r with | b=>k (.c (.bool b),[])):=by
  kernel_rfl
theorem hG200 (fuel:Nat):GOK Tryz.prog (G200 fuel):=
  gok_nil
theorem B200_0_blk (fuel:Nat):BlkOK Tryz.prog Tryz.f200.ntmps (.block 0 (.loop (bodyOf 0 Tryz.f200))) (B200_0 fuel):=bo0 (hG200 fuel) (by kernel_rfl) (by kernel_rfl) (B200_0_ok fuel)
def spg200 (F:YF200):Ev.Spec:=fun args objs k=>match args,objs with | [.c (.sl (.int .u8) a)],[]=>F a (fun r=>match r with | b=>k (.c (.bool b),[])) | _,_=>none
theorem ok200 (fuel:Nat):FnOK Tryz.prog 200 (spg200 (F_ref06_IsRow fuel)):=by
  intro args objs kk r h
  unfold spg200 at h
  split at h
  · skip
    exact fo1 (hG200 fuel) Tryz.func200 rfl (B200_0_blk fuel) (by kernel_rfl) _ _ kk r ((F200_eq fuel _ kk).trans h)
  · cases h
def kp108 (i:Nat):Option (List Nat):=Ev.look i []
def Gg108 (f:Nat):Option Ev.Spec:=Ev.look f []
def G108 (fuel:Nat):Nat→Option Ev.Spec:=Gg108
def F_ref06_IsSize (fuel:Nat) (a b:Int) (k0:(Bool)→Option Ans):Option Ans:=bif decide (a≥0) then bif decide (a≤200) then bif decide (b≥0) then bif decide (b≤200) then k0 (decide (i64.wrap (a*b)≤8192)) else k0 false else k0 false else k0 false else k0 false
abbrev YF108:Type:=Int→Int→(Bool→Option Ans)→Option Ans
theorem F108_eq (fuel:Nat) (a b:Int) (k:Ev.Cont):evalFn tab (G108 fuel) J0 kp108 fuel Tryz.f108 [.c (i6 a),.c (i6 b)] [] k=F_ref06_IsSize fuel a b (fun r=>match r with | d=>k (.c (.bool d),[])):=by
  kernel_rfl
theorem hG108 (fuel:Nat):GOK Tryz.prog (G108 fuel):=
  gok_nil
def spg108 (F:YF108):Ev.Spec:=fun args objs k=>match args,objs with | [.c (i6 a),.c (i6 b)],[]=>F a b (fun r=>match r with | d=>k (.c (.bool d),[])) | _,_=>none
theorem ok108 (fuel:Nat):FnOK Tryz.prog 108 (spg108 (F_ref06_IsSize fuel)):=by
  intro args objs kk r h
  unfold spg108 at h
  split at h
  · skip
    exact fo0 (hG108 fuel) Tryz.func108 rfl (by kernel_rfl) _ _ kk r ((F108_eq fuel _ _ kk).trans h)
  · cases h
def kp110 (i:Nat):Option (List Nat):=Ev.look i []
def Gg110 (a:YF108) (b:YF200) (f:Nat):Option Ev.Spec:=Ev.look f [(108,spg108 a),(200,spg200 b)]
def G110 (fuel:Nat):Nat→Option Ev.Spec:=Gg110 (F_ref06_IsSize fuel) (F_ref06_IsRow fuel)
def Fg_ref06_IsBitmap (fuel:Nat) (d:YF108) (e:YF200) (a b:Int) (c:LI) (k0:(Bool)→OA):OA:=(d a b (fun f=>bif f then bif (↑c.length:Int)==i64.wrap (a*b) then (e c (fun g=>k0 g)) else k0 false else k0 false))
abbrev YF110:Type:=Int→Int→LI→(Bool→Option Ans)→Option Ans
def F_ref06_IsBitmap (fuel:Nat):YF110:=Fg_ref06_IsBitmap fuel (F_ref06_IsSize fuel) (F_ref06_IsRow fuel)
theorem F110_eqg (fuel:Nat) (a:YF108) (b:YF200) (d e:Int) (f:LI) (k:Ev.Cont):evalFn tab (Gg110 a b) J0 kp110 fuel Tryz.f110 [.agg [i6 d,i6 e,.sl (.int .u8) f]] [] k=Fg_ref06_IsBitmap fuel a b d e f (fun r=>match r with | g=>k (.c (.bool g),[])):=by
  kernel_rfl
theorem hG110 (fuel:Nat):GOK Tryz.prog (G110 fuel):=
  gc (ok108 fuel) Tryz.func108 (by kernel_rfl) rfl <|
  gc (ok200 fuel) Tryz.func200 (by kernel_rfl) rfl <|
  gok_nil
def spg110 (F:YF110):Ev.Spec:=fun args objs k=>match args,objs with | [.agg [i6 a,i6 b,.sl (.int .u8) d]],[]=>F a b d (fun r=>match r with | e=>k (.c (.bool e),[])) | _,_=>none
theorem ok110 (fuel:Nat):FnOK Tryz.prog 110 (spg110 (F_ref06_IsBitmap fuel)):=by
  intro args objs kk r h
  unfold spg110 at h
  split at h
  · skip
    exact fo0 (hG110 fuel) Tryz.func110 rfl (by kernel_rfl) _ _ kk r ((F110_eqg fuel (F_ref06_IsSize fuel) (F_ref06_IsRow fuel) _ _ _ kk).trans h)
  · cases h
def kp40 (i:Nat):Option (List Nat):=Ev.look i []
def Gg40 (f:Nat):Option Ev.Spec:=Ev.look f []
def G40 (fuel:Nat):Nat→Option Ev.Spec:=Gg40
def F_ref06_Pix (fuel:Nat) (c e:Int) (d:(List Int)) (a b:Int) (k0:(Int)→Option Ans):Option Ans:=bif decide (a < 0) then k0 (0) else bif decide (b < 0) then k0 (0) else bif decide (a≥c) then k0 (0) else bif decide (b≥e) then k0 (0) else bif decide (0≤i64.wrap (i64.wrap (b*c)+a)∧i64.wrap (i64.wrap (b*c)+a) < (↑d.length:Int)) then k0 (d.getD (i64.wrap (i64.wrap (b*c)+a)).toNat 0) else none
abbrev YF40:Type:=Int→Int→LI→Int→Int→(Int→Option Ans)→Option Ans
theorem F40_eq (fuel:Nat) (a b:Int) (d:LI) (e f:Int) (k:Ev.Cont):evalFn tab (G40 fuel) J0 kp40 fuel Tryz.f40 [.agg [i6 a,i6 b,.sl (.int .u8) d],.c (i6 e),.c (i6 f)] [] k=F_ref06_Pix fuel a b d e f (fun r=>match r with | g=>k (.c (.int .u8 g),[])):=by
  kernel_rfl
theorem hG40 (fuel:Nat):GOK Tryz.prog (G40 fuel):=
  gok_nil
def spg40 (F:YF40):Ev.Spec:=fun args objs k=>match args,objs with | [.agg [i6 a,i6 b,.sl (.int .u8) d],.c (i6 e),.c (i6 f)],[]=>F a b d e f (fun r=>match r with | g=>k (.c (.int .u8 g),[])) | _,_=>none
theorem ok40 (fuel:Nat):FnOK Tryz.prog 40 (spg40 (F_ref06_Pix fuel)):=by
  intro args objs kk r h
  unfold spg40 at h
  split at h
  · skip
    exact fo0 (hG40 fuel) Tryz.func40 rfl (by kernel_rfl) _ _ kk r ((F40_eq fuel _ _ _ _ _ kk).trans h)
  · cases h
def kp187 (i:Nat):Option (List Nat):=Ev.look i [(3,[2,3,4,5,10,11]),(100000,[10]),(400000,[8,9])]
def Gg187 (a:YF40) (f:Nat):Option Ev.Spec:=Ev.look f [(40,spg40 a)]
def G187 (fuel:Nat):Nat→Option Ev.Spec:=Gg187 (F_ref06_Pix fuel)
abbrev V_ref08_Alike_0:Type:=Int×Int×Int×Int×Int×Int×Int×Bool×Int×Int×Int×LI
abbrev W_ref08_Alike_0:Type:=(Int×Bool→OA)×(Int→OA)
def Sg_ref08_Alike_0 (fuel:Nat) (l:YF40) (g h:Int) (d a:Int) (m i j:Int) (n:Bool) (o k e:Int) (f:LI) (c:V_ref08_Alike_0→OA) (B:W_ref08_Alike_0):OA:=match B with | (ret,b)=>bif decide (a < 9) then (l k e f (i64.wrap (i64.wrap (i64.wrap (g - i)+a.tmod 3) - 1)) (i64.wrap (i64.wrap (i64.wrap (h - j)+i64.wrap (a.tdiv 3)) - 1)) (fun p=>bif p != d then ret (0,false) else c (g,h,d,i64.wrap (a+1),m,i,j,n,o,k,e,f))) else b d
def S_ref08_Alike_0 (fuel:Nat) (v:Int×Int×Int×Int×Int×Int×Int×Bool×Int×Int×Int×(List Int)) (c:(Int×Int×Int×Int×Int×Int×Int×Bool×Int×Int×Int×(List Int))→Option Ans) (B:(Int×Bool→Option Ans)×(Int→Option Ans)):Option Ans:=match v with | (d,e,f,g,h,i,j,k,l,m,a,b)=>Sg_ref08_Alike_0 fuel (F_ref06_Pix fuel) d e f g h i j k l m a b c B
def L_ref08_Alike_0 (fuel:Nat) (v:V_ref08_Alike_0) (ret:(Int×Bool→Option Ans)) (b:(Int→Option Ans)):Option Ans:=iter (S_ref08_Alike_0 fuel) fuel v (ret,b)
def T187_0 (v:V_ref08_Alike_0):Ev.St:=match v with | (d,e,f,g,h,i,j,k,l,m,a,b)=>⟨[(2,.c (i6 d)),(3,.c (i6 e)),(4,.c (.ptr 0 0)),(5,.c (.ptr 1 0)),(10,.c (.int .u8 f)),(11,.c (i6 g))],[(0,.cells 135 [i6 h,i6 i,i6 j,.bool k,i6 l]),(1,.cells 51 [i6 m,i6 a,.sl (.int .u8) b])],2,0⟩
def E187_0 (K:KT):W_ref08_Alike_0:=((fun v=>match v with | (a,b)=>K .ret ⟨[(8,.c (.int .u8 a)),(9,.c (.bool b))],[],0,0⟩),(fun v=>match v with | a=>K .normal ⟨[(10,.c (.int .u8 a))],[],0,0⟩))
theorem S187_0_okg (fuel:Nat) (a:YF40) (R:Ev.St→OA) (K:KT) (d e:Int) (f g:Int) (h i j:Int) (k:Bool) (l m b:Int) (c:LI):evalCode tab (Gg187 a) J0 kp187 fuel (bodyOf 0 Tryz.f187) (T187_0 (d,e,f,g,h,i,j,k,l,m,b,c)) (lc kp187 3 0 R K)=Sg_ref08_Alike_0 fuel a d e f g h i j k l m b c (fun v=>R (T187_0 v)) (E187_0 K):=by
  kernel_rfl
def B187_0 (fuel:Nat):Ev.Blk:=fun st K=>match canonO (kp187 3) st with | some s=>(match s with | ⟨[(j,.c (i6 k)),(l,.c (i6 m)),(n,.c (.ptr o p)),(q,.c (.ptr r t)),(u,.c (.int .u8 v)),(w,.c (i6 x))],[(a,.cells b [i6 y,i6 z,i6 A,.bool B,i6 C]),(d,.cells e [i6 D,i6 f,.sl (.int .u8) g])],h,i⟩=>bif qb [j,l,n,o,p,q,r,t,u,w,a,b,d,e,h,i] [2,3,4,0,0,5,1,0,10,11,0,135,1,51,2,0] then iter (S_ref08_Alike_0 fuel) fuel (k,m,v,x,y,z,A,B,C,D,f,g) (E187_0 K) else none | _=>none) | none=>none
theorem B187_0_ok (fuel:Nat) (st:Ev.St) (K:KT) (r:Ans) (h:B187_0 fuel st K=some r):evalCode tab (G187 fuel) J0 kp187 fuel (.block 0 (.loop (bodyOf 0 Tryz.f187))) st K=some r:=by
  unfold B187_0 at h
  split at h
  · rename_i s hs
    split at h
    · skip
      obtain ⟨hb,h⟩:=cond_some' h
      cases qb_eq hb
      exact blk_loop (S:=T187_0) (ks:=E187_0) (step:=S_ref08_Alike_0 fuel) (v:=(_,_,_,_,_,_,_,_,_,_,_,_)) (by kernel_rfl) (by kernel_rfl) (fun R K v=>by obtain ⟨c,d,e,f,g,i,j,k,l,m,a,b⟩:=v; exact S187_0_okg fuel (F_ref06_Pix fuel) R K c d e f g i j k l m a b) hs h
    · cases h
  · cases h
def J187 (fuel:Nat) (i:Nat):Option Ev.Blk:=Ev.look i [(100000,B187_0 fuel)]
def Fg_ref08_Alike (fuel:Nat) (i:YF40) (j a b:Int) (k:Bool) (l c d:Int) (e:LI) (f g:Int) (k0:(Int×Bool)→OA):OA:=(i c d e (i64.wrap (f - a)) (i64.wrap (g - b)) (fun m=>(L_ref08_Alike_0 fuel (f,g,m,0,j,a,b,k,l,c,d,e) (fun (ret0_0,ret0_1)=>k0 (ret0_0,ret0_1)) (fun h=>k0 (h,true)))))
abbrev YF187:Type:=Int→Int→Int→Bool→Int→Int→Int→LI→Int→Int→((Int×Bool)→Option Ans)→Option Ans
def F_ref08_Alike (fuel:Nat):YF187:=Fg_ref08_Alike fuel (F_ref06_Pix fuel)
theorem F187_eqg (fuel:Nat) (a:YF40) (b d e:Int) (f:Bool) (g h i:Int) (j:LI) (l m:Int) (k:Ev.Cont):evalFn tab (Gg187 a) (J187 fuel) kp187 fuel Tryz.f187 [.agg [i6 b,i6 d,i6 e,.bool f,i6 g],.agg [i6 h,i6 i,.sl (.int .u8) j],.c (i6 l),.c (i6 m)] [] k=Fg_ref08_Alike fuel a b d e f g h i j l m (fun r=>match r with | (n,o)=>k (.tup [(false,[.int .u8 n]),(false,[.bool o])],[])):=by
  kernel_rfl
theorem hG187 (fuel:Nat):GOK Tryz.prog (G187 fuel):=
  gc (ok40 fuel) Tryz.func40 (by kernel_rfl) rfl <|
  gok_nil
theorem B187_0_blk (fuel:Nat):BlkOK Tryz.prog Tryz.f187.ntmps (.block 0 (.loop (bodyOf 0 Tryz.f187))) (B187_0 fuel):=bo0 (hG187 fuel) (by kernel_rfl) (by kernel_rfl) (B187_0_ok fuel)
def spg187 (F:YF187):Ev.Spec:=fun args objs k=>match args,objs with | [.agg [i6 a,i6 b,i6 d,.bool e,i6 f],.agg [i6 g,i6 h,.sl (.int .u8) i],.c (i6 j),.c (i6 l)],[]=>F a b d e f g h i j l (fun r=>match r with | (m,n)=>k (.tup [(false,[.int .u8 m]),(false,[.bool n])],[])) | _,_=>none
theorem ok187 (fuel:Nat):FnOK Tryz.prog 187 (spg187 (F_ref08_Alike fuel)):=by
  intro args objs kk r h
  unfold spg187 at h
  split at h
  · skip
    exact fo1 (hG187 fuel) Tryz.func187 rfl (B187_0_blk fuel) (by kernel_rfl) _ _ kk r ((F187_eqg fuel (F_ref06_Pix fuel) _ _ _ _ _ _ _ _ _ _ kk).trans h)
  · cases h
def kp188 (i:Nat):Option (List Nat):=Ev.look i [(6,[3,4,5,6,7,12,28,29,30]),(11,[3,4,5,7,12,54,55,56]),(100000,[3,4,5,7,12]),(100002,[12]),(400000,[10]),(400002,[10])]
def Gg188 (a:YF40) (f:Nat):Option Ev.Spec:=Ev.look f [(40,spg40 a)]
def G188 (fuel:Nat):Nat→Option Ev.Spec:=Gg188 (F_ref06_Pix fuel)
abbrev V_ref08_Context_0:Type:=Int×Int×Int×Int×Int×Int×Int×Int×Bool×Int×Int×Int×LI×Int×Int×LI×(List (Int×Int))
abbrev W_ref08_Context_0:Type:=(Int×Int×Int×Int×Int×Int×Bool×Int×Int×Int×LI→OA)
def Sg_ref08_Context_0 (fuel:Nat) (t:YF40) (e f:Int) (m n:Int) (a o:Int) (p q:Int) (r:Bool) (s g h:Int) (i:LI) (j k:Int) (l:LI) (d:(List (Int×Int))) (c:V_ref08_Context_0→OA) (B:W_ref08_Context_0):OA:=match B with | b=>bif decide (a < n) then bif decide (0≤a∧a < (↑d.length:Int)) then (t g h i (i64.wrap (e+(d.getD a.toNat (0,0)).fst)) (i64.wrap (f+(d.getD a.toNat (0,0)).snd)) (fun u=>c (e,f,i64.wrap (i64.wrap (2*m)+i64.wrap u),n,i64.wrap (a+1),o,p,q,r,s,g,h,i,j,k,l,d))) else none else b (e,f,m,o,p,q,r,s,j,k,l)
def S_ref08_Context_0 (fuel:Nat) (v:Int×Int×Int×Int×Int×Int×Int×Int×Bool×Int×Int×Int×(List Int)×Int×Int×(List Int)×(List (Int×Int))) (c:(Int×Int×Int×Int×Int×Int×Int×Int×Bool×Int×Int×Int×(List Int)×Int×Int×(List Int)×(List (Int×Int)))→Option Ans) (B:(Int×Int×Int×Int×Int×Int×Bool×Int×Int×Int×(List Int)→Option Ans)):Option Ans:=match v with | (i,j,k,l,m,n,o,p,q,r,a,b,d,e,f,g,h)=>Sg_ref08_Context_0 fuel (F_ref06_Pix fuel) i j k l m n o p q r a b d e f g h c B
def L_ref08_Context_0 (fuel:Nat) (v:V_ref08_Context_0) (b:W_ref08_Context_0):Option Ans:=iter (S_ref08_Context_0 fuel) fuel v b
def T188_0 (v:V_ref08_Context_0):Ev.St:=match v with | (i,j,k,l,m,n,o,p,q,r,a,b,d,e,f,g,h)=>⟨[(3,.c (i6 i)),(4,.c (i6 j)),(5,.c (.ptr 0 0)),(6,.c (.ptr 1 0)),(7,.c (.ptr 2 0)),(12,.c (i6 k)),(28,.c (.own 3)),(29,.c (i6 l)),(30,.c (i6 m))],[(0,.cells 135 [i6 n,i6 o,i6 p,.bool q,i6 r]),(1,.cells 51 [i6 a,i6 b,.sl (.int .u8) d]),(2,.cells 51 [i6 e,i6 f,.sl (.int .u8) g]),(3,.vec 76 (.pair (.int .i64) (.int .i64)) h true)],4,0⟩
def E188_0 (K:KT):W_ref08_Context_0:=(fun v=>match v with | (b,d,e,f,g,h,i,j,k,l,a)=>K .normal ⟨[(3,.c (i6 b)),(4,.c (i6 d)),(5,.c (.ptr 0 0)),(7,.c (.ptr 1 0)),(12,.c (i6 e))],[(0,.cells 135 [i6 f,i6 g,i6 h,.bool i,i6 j]),(1,.cells 51 [i6 k,i6 l,.sl (.int .u8) a])],2,0⟩)
theorem S188_0_okg (fuel:Nat) (a:YF40) (R:Ev.St→OA) (K:KT) (i j:Int) (k l:Int) (m n:Int) (o p:Int) (q:Bool) (r b c:Int) (d:LI) (e f:Int) (g:LI) (h:(List (Int×Int))):evalCode tab (Gg188 a) J0 kp188 fuel (bodyOf 0 Tryz.f188) (T188_0 (i,j,k,l,m,n,o,p,q,r,b,c,d,e,f,g,h)) (lc kp188 6 0 R K)=Sg_ref08_Context_0 fuel a i j k l m n o p q r b c d e f g h (fun v=>R (T188_0 v)) (E188_0 K):=by
  kernel_rfl
def B188_0 (fuel:Nat):Ev.Blk:=fun st K=>match canonO (kp188 6) st with | some s=>(match s with | ⟨[(z,.c (i6 A)),(B,.c (i6 C)),(D,.c (.ptr E F)),(G,.c (.ptr H I)),(J,.c (.ptr L a)),(b,.c (i6 M)),(d,.c (.own e)),(f,.c (i6 N)),(g,.c (i6 O))],[(h,.cells i [i6 P,i6 Q,i6 R,.bool S,i6 T]),(j,.cells k [i6 l,i6 m,.sl (.int .u8) n]),(o,.cells p [i6 q,i6 r,.sl (.int .u8) t]),(u,.vec v (.pair (.int .i64) (.int .i64)) w true)],x,y⟩=>bif qb [z,B,D,E,F,G,H,I,J,L,a,b,d,e,f,g,h,i,j,k,o,p,u,v,x,y] [3,4,5,0,0,6,1,0,7,2,0,12,28,3,29,30,0,135,1,51,2,51,3,76,4,0] then iter (S_ref08_Context_0 fuel) fuel (A,C,M,N,O,P,Q,R,S,T,l,m,n,q,r,t,w) (E188_0 K) else none | _=>none) | none=>none
theorem B188_0_ok (fuel:Nat) (st:Ev.St) (K:KT) (r:Ans) (h:B188_0 fuel st K=some r):evalCode tab (G188 fuel) J0 kp188 fuel (.block 0 (.loop (bodyOf 0 Tryz.f188))) st K=some r:=by
  unfold B188_0 at h
  split at h
  · rename_i s hs
    split at h
    · skip
      obtain ⟨hb,h⟩:=cond_some' h
      cases qb_eq hb
      exact blk_loop (S:=T188_0) (ks:=E188_0) (step:=S_ref08_Context_0 fuel) (v:=(_,_,_,_,_,_,_,_,_,_,_,_,_,_,_,_,_)) (by kernel_rfl) (by kernel_rfl) (fun R K v=>by obtain ⟨i,j,k,l,m,n,o,p,q,t,a,b,c,d,e,f,g⟩:=v; exact S188_0_okg fuel (F_ref06_Pix fuel) R K i j k l m n o p q t a b c d e f g) hs h
    · cases h
  · cases h
abbrev V_ref08_Context_2:Type:=Int×Int×Int×Int×Int×Int×Int×Int×Bool×Int×Int×Int×LI×(List (Int×Int))
abbrev W_ref08_Context_2:Type:=(Int→OA)
def Sg_ref08_Context_2 (fuel:Nat) (n:YF40) (h i:Int) (j k:Int) (a o:Int) (l m:Int) (p:Bool) (q e f:Int) (g:LI) (d:(List (Int×Int))) (c:V_ref08_Context_2→OA) (B:W_ref08_Context_2):OA:=match B with | b=>bif decide (a < k) then bif decide (0≤a∧a < (↑d.length:Int)) then (n e f g (i64.wrap (i64.wrap (h - l)+(d.getD a.toNat (0,0)).fst)) (i64.wrap (i64.wrap (i - m)+(d.getD a.toNat (0,0)).snd)) (fun r=>c (h,i,i64.wrap (i64.wrap (2*j)+i64.wrap r),k,i64.wrap (a+1),o,l,m,p,q,e,f,g,d))) else none else b j
def S_ref08_Context_2 (fuel:Nat) (v:Int×Int×Int×Int×Int×Int×Int×Int×Bool×Int×Int×Int×(List Int)×(List (Int×Int))) (c:(Int×Int×Int×Int×Int×Int×Int×Int×Bool×Int×Int×Int×(List Int)×(List (Int×Int)))→Option Ans) (B:(Int→Option Ans)):Option Ans:=match v with | (f,g,h,i,j,k,l,m,n,o,a,b,d,e)=>Sg_ref08_Context_2 fuel (F_ref06_Pix fuel) f g h i j k l m n o a b d e c B
def L_ref08_Context_2 (fuel:Nat) (v:V_ref08_Context_2) (b:W_ref08_Context_2):Option Ans:=iter (S_ref08_Context_2 fuel) fuel v b
def J188_2 (fuel:Nat) (i:Nat):Option Ev.Blk:=Ev.look i [(100000,B188_0 fuel)]
def T188_2 (v:V_ref08_Context_2):Ev.St:=match v with | (f,g,h,i,j,k,l,m,n,o,a,b,d,e)=>⟨[(3,.c (i6 f)),(4,.c (i6 g)),(5,.c (.ptr 0 0)),(7,.c (.ptr 1 0)),(12,.c (i6 h)),(54,.c (.own 2)),(55,.c (i6 i)),(56,.c (i6 j))],[(0,.cells 135 [i6 k,i6 l,i6 m,.bool n,i6 o]),(1,.cells 51 [i6 a,i6 b,.sl (.int .u8) d]),(2,.vec 76 (.pair (.int .i64) (.int .i64)) e true)],3,0⟩
def E188_2 (K:KT):W_ref08_Context_2:=(fun v=>match v with | a=>K .normal ⟨[(12,.c (i6 a))],[],0,0⟩)
theorem S188_2_okg (fuel:Nat) (a:YF40) (R:Ev.St→OA) (K:KT) (f g:Int) (h i:Int) (j k:Int) (l m:Int) (n:Bool) (o b c:Int) (d:LI) (e:(List (Int×Int))):evalCode tab (Gg188 a) (J188_2 fuel) kp188 fuel (bodyOf 2 Tryz.f188) (T188_2 (f,g,h,i,j,k,l,m,n,o,b,c,d,e)) (lc kp188 11 2 R K)=Sg_ref08_Context_2 fuel a f g h i j k l m n o b c d e (fun v=>R (T188_2 v)) (E188_2 K):=by
  kernel_rfl
def B188_2 (fuel:Nat):Ev.Blk:=fun st K=>match canonO (kp188 11) st with | some s=>(match s with | ⟨[(q,.c (i6 r)),(t,.c (i6 u)),(v,.c (.ptr w x)),(y,.c (.ptr z A)),(B,.c (i6 C)),(D,.c (.own a)),(b,.c (i6 E)),(d,.c (i6 F))],[(e,.cells f [i6 G,i6 H,i6 I,.bool J,i6 L]),(g,.cells h [i6 i,i6 j,.sl (.int .u8) k]),(l,.vec m (.pair (.int .i64) (.int .i64)) n true)],o,p⟩=>bif qb [q,t,v,w,x,y,z,A,B,D,a,b,d,e,f,g,h,l,m,o,p] [3,4,5,0,0,7,1,0,12,54,2,55,56,0,135,1,51,2,76,3,0] then iter (S_ref08_Context_2 fuel) fuel (r,u,C,E,F,G,H,I,J,L,i,j,k,n) (E188_2 K) else none | _=>none) | none=>none
theorem B188_2_ok (fuel:Nat) (st:Ev.St) (K:KT) (r:Ans) (h:B188_2 fuel st K=some r):evalCode tab (G188 fuel) (J188_2 fuel) kp188 fuel (.block 2 (.loop (bodyOf 2 Tryz.f188))) st K=some r:=by
  unfold B188_2 at h
  split at h
  · rename_i s hs
    split at h
    · skip
      obtain ⟨hb,h⟩:=cond_some' h
      cases qb_eq hb
      exact blk_loop (S:=T188_2) (ks:=E188_2) (step:=S_ref08_Context_2 fuel) (v:=(_,_,_,_,_,_,_,_,_,_,_,_,_,_)) (by kernel_rfl) (by kernel_rfl) (fun R K v=>by obtain ⟨e,f,g,i,j,k,l,m,n,o,a,b,c,d⟩:=v; exact S188_2_okg fuel (F_ref06_Pix fuel) R K e f g i j k l m n o a b c d) hs h
    · cases h
  · cases h
def J188 (fuel:Nat) (i:Nat):Option Ev.Blk:=Ev.look i [(100000,B188_0 fuel),(100002,B188_2 fuel)]
def Fg_ref08_Context (fuel:Nat) (z:YF40) (m q r:Int) (s:Bool) (t u v:Int) (w:LI) (x y:Int) (n:LI) (o p:Int) (k0:(Int)→OA):OA:=bif m==1 then (L_ref08_Context_0 fuel (o,p,(0:Int),(↑[((0:Int),(-1:Int)),((-1:Int),(0:Int))].length:Int),(0:Int),m,q,r,s,t,u,v,w,x,y,n,[((0:Int),(-1:Int)),((-1:Int),(0:Int))]) (fun (b,c,d,e,f,g,h,i,j,k,a)=>(L_ref08_Context_2 fuel (b,c,d,(↑[((0:Int),(0:Int)),((-1:Int),(0:Int)),((1:Int),(0:Int)),((0:Int),(-1:Int)),((0:Int),(1:Int))].length:Int),(0:Int),e,f,g,h,i,j,k,a,[((0:Int),(0:Int)),((-1:Int),(0:Int)),((1:Int),(0:Int)),((0:Int),(-1:Int)),((0:Int),(1:Int))]) (fun l=>k0 l)))) else (L_ref08_Context_0 fuel (o,p,(0:Int),(↑[((-1:Int),(-1:Int)),((0:Int),(-1:Int)),((1:Int),(-1:Int)),((-1:Int),(0:Int))].length:Int),(0:Int),m,q,r,s,t,u,v,w,x,y,n,[((-1:Int),(-1:Int)),((0:Int),(-1:Int)),((1:Int),(-1:Int)),((-1:Int),(0:Int))]) (fun (b,c,d,e,f,g,h,i,j,k,a)=>(L_ref08_Context_2 fuel (b,c,d,(↑[((0:Int),(0:Int)),((-1:Int),(0:Int)),((1:Int),(0:Int)),((0:Int),(-1:Int)),((0:Int),(1:Int))].length:Int),(0:Int),e,f,g,h,i,j,k,a,[((0:Int),(0:Int)),((-1:Int),(0:Int)),((1:Int),(0:Int)),((0:Int),(-1:Int)),((0:Int),(1:Int))]) (fun l=>k0 l))))
abbrev YF188:Type:=Int→Int→Int→Bool→Int→Int→Int→LI→Int→Int→LI→Int→Int→(Int→Option Ans)→Option Ans
def F_ref08_Context (fuel:Nat):YF188:=Fg_ref08_Context fuel (F_ref06_Pix fuel)
theorem F188_eqg (fuel:Nat) (a:YF40) (f g h:Int) (i:Bool) (j l m:Int) (n:LI) (o p:Int) (b:LI) (d e:Int) (k:Ev.Cont):evalFn tab (Gg188 a) (J188 fuel) kp188 fuel Tryz.f188 [.agg [i6 f,i6 g,i6 h,.bool i,i6 j],.agg [i6 l,i6 m,.sl (.int .u8) n],.agg [i6 o,i6 p,.sl (.int .u8) b],.c (i6 d),.c (i6 e)] [] k=Fg_ref08_Context fuel a f g h i j l m n o p b d e (fun r=>match r with | q=>k (.c (i6 q),[])):=by
  kernel_rfl
theorem hG188 (fuel:Nat):GOK Tryz.prog (G188 fuel):=
  gc (ok40 fuel) Tryz.func40 (by kernel_rfl) rfl <|
  gok_nil
theorem B188_0_blk (fuel:Nat):BlkOK Tryz.prog Tryz.f188.ntmps (.block 0 (.loop (bodyOf 0 Tryz.f188))) (B188_0 fuel):=bo0 (hG188 fuel) (by kernel_rfl) (by kernel_rfl) (B188_0_ok fuel)
theorem B188_2_blk (fuel:Nat):BlkOK Tryz.prog Tryz.f188.ntmps (.block 2 (.loop (bodyOf 2 Tryz.f188))) (B188_2 fuel):=bo0 (hG188 fuel) (by kernel_rfl) (by kernel_rfl) (B188_2_ok fuel)
theorem fok188 (fuel:Nat):FnOK Tryz.prog 188 (evalFn tab (G188 fuel) (J188 fuel) kp188 fuel Tryz.f188):=
  fn_ok tab_ok (hG188 fuel) mixed Tryz.func188 (c:=(Tryz.f188.body).getD .skip) rfl (fun q hq=>by
    rw [(by kernel_rfl:obl (J188 fuel) ((Tryz.f188.body).getD .skip)= [(.block 0 (.loop (bodyOf 0 Tryz.f188)),B188_0 fuel),(.block 2 (.loop (bodyOf 2 Tryz.f188)),B188_2 fuel)])] at hq
    simp only [List.mem_cons,List.not_mem_nil,or_false] at hq
    rcases hq with rfl | rfl
    · exact B188_0_blk fuel
    · exact B188_2_blk fuel)
def spg188 (F:YF188):Ev.Spec:=fun args objs k=>match args,objs with | [.agg [i6 e,i6 f,i6 g,.bool h,i6 i],.agg [i6 j,i6 l,.sl (.int .u8) m],.agg [i6 n,i6 o,.sl (.int .u8) a],.c (i6 b),.c (i6 d)],[]=>F e f g h i j l m n o a b d (fun r=>match r with | p=>k (.c (i6 p),[])) | _,_=>none
theorem ok188 (fuel:Nat):FnOK Tryz.prog 188 (spg188 (F_ref08_Context fuel)):=by
  intro args objs kk r h
  unfold spg188 at h
  split at h
  · skip
    exact fok188 fuel _ _ kk r ((F188_eqg fuel (F_ref06_Pix fuel) _ _ _ _ _ _ _ _ _ _ _ _ _ kk).trans h)
  · cases h
def kp186 (i:Nat):Option (List Nat):=Ev.look i [(2,[3,4,5,6,9]),(100000,[]),(400000,[8])]
def Gg186 (b:YF40) (a:YF187) (f:Nat):Option Ev.Spec:=Ev.look f [(40,spg40 b),(187,spg187 a)]
def G186 (fuel:Nat):Nat→Option Ev.Spec:=Gg186 (F_ref06_Pix fuel) (F_ref08_Alike fuel)
abbrev V_ref08_Row_0:Type:=Int×Int×Int×Int×Int×Bool×Int×Int×Int×LI×Int×Int×LI
abbrev W_ref08_Row_0:Type:=(Bool→OA)×(Unit→OA)
def Sg_ref08_Row_0 (fuel:Nat) (s:YF40) (p:YF187) (d a:Int) (i j k:Int) (l:Bool) (m e n:Int) (o:LI) (f g:Int) (h:LI) (c:V_ref08_Row_0→OA) (B:W_ref08_Row_0):OA:=match B with | (ret,b)=>bif decide (a < e) then (p i j k l m f g h a d (fun (q,r)=>bif r then (s e n o a d (fun t=>bif t != q then ret false else c (d,i64.wrap (a+1),i,j,k,l,m,e,n,o,f,g,h))) else c (d,i64.wrap (a+1),i,j,k,l,m,e,n,o,f,g,h))) else b ()
def S_ref08_Row_0 (fuel:Nat) (v:Int×Int×Int×Int×Int×Bool×Int×Int×Int×(List Int)×Int×Int×(List Int)) (c:(Int×Int×Int×Int×Int×Bool×Int×Int×Int×(List Int)×Int×Int×(List Int))→Option Ans) (B:(Bool→Option Ans)×(Unit→Option Ans)):Option Ans:=match v with | (e,f,g,h,i,j,k,l,m,n,a,b,d)=>Sg_ref08_Row_0 fuel (F_ref06_Pix fuel) (F_ref08_Alike fuel) e f g h i j k l m n a b d c B
def L_ref08_Row_0 (fuel:Nat) (v:V_ref08_Row_0) (ret:(Bool→Option Ans)) (b:(Unit→Option Ans)):Option Ans:=iter (S_ref08_Row_0 fuel) fuel v (ret,b)
def T186_0 (v:V_ref08_Row_0):Ev.St:=match v with | (e,f,g,h,i,j,k,l,m,n,a,b,d)=>⟨[(3,.c (i6 e)),(4,.c (.ptr 0 0)),(5,.c (.ptr 1 0)),(6,.c (.ptr 2 0)),(9,.c (i6 f))],[(0,.cells 135 [i6 g,i6 h,i6 i,.bool j,i6 k]),(1,.cells 51 [i6 l,i6 m,.sl (.int .u8) n]),(2,.cells 51 [i6 a,i6 b,.sl (.int .u8) d])],3,0⟩
def E186_0 (K:KT):W_ref08_Row_0:=((fun v=>match v with | a=>K .ret ⟨[(8,.c (.bool a))],[],0,0⟩),(fun v=>match v with | ()=>K .normal ⟨[],[],0,0⟩))
theorem S186_0_okg (fuel:Nat) (b:YF40) (a:YF187) (R:Ev.St→OA) (K:KT) (f g:Int) (h i j:Int) (k:Bool) (l m n:Int) (o:LI) (c d:Int) (e:LI):evalCode tab (Gg186 b a) J0 kp186 fuel (bodyOf 0 Tryz.f186) (T186_0 (f,g,h,i,j,k,l,m,n,o,c,d,e)) (lc kp186 2 0 R K)=Sg_ref08_Row_0 fuel b a f g h i j k l m n o c d e (fun v=>R (T186_0 v)) (E186_0 K):=by
  kernel_rfl
def B186_0 (fuel:Nat):Ev.Blk:=fun st K=>match canonO (kp186 2) st with | some s=>(match s with | ⟨[(n,.c (i6 o)),(p,.c (.ptr q r)),(t,.c (.ptr u v)),(w,.c (.ptr x y)),(a,.c (i6 z))],[(b,.cells d [i6 A,i6 B,i6 C,.bool D,i6 E]),(e,.cells f [i6 F,i6 G,.sl (.int .u8) H]),(g,.cells h [i6 i,i6 j,.sl (.int .u8) k])],l,m⟩=>bif qb [n,p,q,r,t,u,v,w,x,y,a,b,d,e,f,g,h,l,m] [3,4,0,0,5,1,0,6,2,0,9,0,135,1,51,2,51,3,0] then iter (S_ref08_Row_0 fuel) fuel (o,z,A,B,C,D,E,F,G,H,i,j,k) (E186_0 K) else none | _=>none) | none=>none
theorem B186_0_ok (fuel:Nat) (st:Ev.St) (K:KT) (r:Ans) (h:B186_0 fuel st K=some r):evalCode tab (G186 fuel) J0 kp186 fuel (.block 0 (.loop (bodyOf 0 Tryz.f186))) st K=some r:=by
  unfold B186_0 at h
  split at h
  · rename_i s hs
    split at h
    · skip
      obtain ⟨hb,h⟩:=cond_some' h
      cases qb_eq hb
      exact blk_loop (S:=T186_0) (ks:=E186_0) (step:=S_ref08_Row_0 fuel) (v:=(_,_,_,_,_,_,_,_,_,_,_,_,_)) (by kernel_rfl) (by kernel_rfl) (fun R K v=>by obtain ⟨d,e,f,g,i,j,k,l,m,n,a,b,c⟩:=v; exact S186_0_okg fuel (F_ref06_Pix fuel) (F_ref08_Alike fuel) R K d e f g i j k l m n a b c) hs h
    · cases h
  · cases h
def J186 (fuel:Nat) (i:Nat):Option Ev.Blk:=Ev.look i [(100000,B186_0 fuel)]
def Fg_ref08_Row (fuel:Nat) (n:YF40) (m:YF187) (c d e:Int) (f:Bool) (g h i:Int) (j:LI) (k l:Int) (a:LI) (b:Int) (k0:(Bool)→OA):OA:=(L_ref08_Row_0 fuel (b,0,c,d,e,f,g,h,i,j,k,l,a) (fun ret0_0=>k0 ret0_0) (fun ()=>k0 true))
abbrev YF186:Type:=Int→Int→Int→Bool→Int→Int→Int→LI→Int→Int→LI→Int→(Bool→Option Ans)→Option Ans
def F_ref08_Row (fuel:Nat):YF186:=Fg_ref08_Row fuel (F_ref06_Pix fuel) (F_ref08_Alike fuel)
theorem F186_eqg (fuel:Nat) (b:YF40) (a:YF187) (f g h:Int) (i:Bool) (j l m:Int) (n:LI) (o p:Int) (d:LI) (e:Int) (k:Ev.Cont):evalFn tab (Gg186 b a) (J186 fuel) kp186 fuel Tryz.f186 [.agg [i6 f,i6 g,i6 h,.bool i,i6 j],.agg [i6 l,i6 m,.sl (.int .u8) n],.agg [i6 o,i6 p,.sl (.int .u8) d],.c (i6 e)] [] k=Fg_ref08_Row fuel b a f g h i j l m n o p d e (fun r=>match r with | q=>k (.c (.bool q),[])):=by
  kernel_rfl
theorem hG186 (fuel:Nat):GOK Tryz.prog (G186 fuel):=
  gc (ok40 fuel) Tryz.func40 (by kernel_rfl) rfl <|
  gc (ok187 fuel) Tryz.func187 (by kernel_rfl) rfl <|
  gok_nil
theorem B186_0_blk (fuel:Nat):BlkOK Tryz.prog Tryz.f186.ntmps (.block 0 (.loop (bodyOf 0 Tryz.f186))) (B186_0 fuel):=bo0 (hG186 fuel) (by kernel_rfl) (by kernel_rfl) (B186_0_ok fuel)
def spg186 (F:YF186):Ev.Spec:=fun args objs k=>match args,objs with | [.agg [i6 d,i6 e,i6 f,.bool g,i6 h],.agg [i6 i,i6 j,.sl (.int .u8) l],.agg [i6 m,i6 n,.sl (.int .u8) a],.c (i6 b)],[]=>F d e f g h i j l m n a b (fun r=>match r with | o=>k (.c (.bool o),[])) | _,_=>none
theorem ok186 (fuel:Nat):FnOK Tryz.prog 186 (spg186 (F_ref08_Row fuel)):=by
  intro args objs kk r h
  unfold spg186 at h
  split at h
  · skip
    exact fo1 (hG186 fuel) Tryz.func186 rfl (B186_0_blk fuel) (by kernel_rfl) _ _ kk r ((F186_eqg fuel (F_ref06_Pix fuel) (F_ref08_Alike fuel) _ _ _ _ _ _ _ _ _ _ _ _ kk).trans h)
  · cases h
def kp239 (i:Nat):Option (List Nat):=Ev.look i []
def Gg239 (f:Nat):Option Ev.Spec:=Ev.look f []
def G239 (fuel:Nat):Nat→Option Ev.Spec:=Gg239
def F_ref08_Valid (fuel:Nat) (a b c:Int) (e:Bool) (d:Int) (k0:(Bool)→Option Ans):Option Ans:=bif decide (b≥(-200:Int)) then bif decide (b≤200) then bif decide (c≥(-200:Int)) then bif decide (c≤200) then bif decide (a≥0) then bif decide (a≤1) then bif decide (d≥0) then k0 (decide (d≤1)) else k0 false else k0 false else k0 false else k0 false else k0 false else k0 false else k0 false
abbrev YF239:Type:=Int→Int→Int→Bool→Int→(Bool→Option Ans)→Option Ans
theorem F239_eq (fuel:Nat) (a b d:Int) (e:Bool) (f:Int) (k:Ev.Cont):evalFn tab (G239 fuel) J0 kp239 fuel Tryz.f239 [.agg [i6 a,i6 b,i6 d,.bool e,i6 f]] [] k=F_ref08_Valid fuel a b d e f (fun r=>match r with | g=>k (.c (.bool g),[])):=by
  kernel_rfl
theorem hG239 (fuel:Nat):GOK Tryz.prog (G239 fuel):=
  gok_nil
def spg239 (F:YF239):Ev.Spec:=fun args objs k=>match args,objs with | [.agg [i6 a,i6 b,i6 d,.bool e,i6 f]],[]=>F a b d e f (fun r=>match r with | g=>k (.c (.bool g),[])) | _,_=>none
theorem ok239 (fuel:Nat):FnOK Tryz.prog 239 (spg239 (F_ref08_Valid fuel)):=by
  intro args objs kk r h
  unfold spg239 at h
  split at h
  · skip
    exact fo0 (hG239 fuel) Tryz.func239 rfl (by kernel_rfl) _ _ kk r ((F239_eq fuel _ _ _ _ _ kk).trans h)
  · cases h
def kp185 (i:Nat):Option (List Nat):=Ev.look i []
def Gg185 (f:Nat):Option Ev.Spec:=Ev.look f []
def G185 (fuel:Nat):Nat→Option Ev.Spec:=Gg185
def F_ref08_size (fuel:Nat) (a:Int) (k0:(Int)→Option Ans):Option Ans:=bif a==0 then k0 (513) else k0 (129)
abbrev YF185:Type:=Int→(Int→Option Ans)→Option Ans
theorem F185_eq (fuel:Nat) (a:Int) (k:Ev.Cont):evalFn tab (G185 fuel) J0 kp185 fuel Tryz.f185 [.c (i6 a)] [] k=F_ref08_size fuel a (fun r=>match r with | b=>k (.c (i6 b),[])):=by
  kernel_rfl
theorem hG185 (fuel:Nat):GOK Tryz.prog (G185 fuel):=
  gok_nil
def spg185 (F:YF185):Ev.Spec:=fun args objs k=>match args,objs with | [.c (i6 a)],[]=>F a (fun r=>match r with | b=>k (.c (i6 b),[])) | _,_=>none
theorem ok185 (fuel:Nat):FnOK Tryz.prog 185 (spg185 (F_ref08_size fuel)):=by
  intro args objs kk r h
  unfold spg185 at h
  split at h
  · skip
    exact fo0 (hG185 fuel) Tryz.func185 rfl (by kernel_rfl) _ _ kk r ((F185_eq fuel _ kk).trans h)
  · cases h
def kp184 (i:Nat):Option (List Nat):=Ev.look i [(200005,[4,7])]
def Gg184 (a:YF185) (b:YF239) (f:Nat):Option Ev.Spec:=Ev.look f [(185,spg185 a),(239,spg239 b)]
def G184 (fuel:Nat):Nat→Option Ev.Spec:=Gg184 (F_ref08_size fuel) (F_ref08_Valid fuel)
def Fg_ref08_asked (fuel:Nat) (c:YF185) (d:YF239) (a e f:Int) (g:Bool) (h:Int) (i:Bool) (b m:Int) (j:LI) (k0:(Int)→OA):OA:=(d a e f g h (fun k=>bif !k then k0 (2) else bif !i then k0 (30) else bif decide (b < 0) then k0 (2) else (c a (fun l=>bif decide (b > i64.wrap ((↑j.length:Int) - l)) then k0 (2) else k0 (0)))))
abbrev YF184:Type:=Int→Int→Int→Bool→Int→Bool→Int→Int→LI→(Int→Option Ans)→Option Ans
def F_ref08_asked (fuel:Nat):YF184:=Fg_ref08_asked fuel (F_ref08_size fuel) (F_ref08_Valid fuel)
theorem F184_eqg (fuel:Nat) (a:YF185) (b:YF239) (d e f:Int) (g:Bool) (h:Int) (i:Bool) (j l:Int) (m:LI) (k:Ev.Cont):evalFn tab (Gg184 a b) J0 kp184 fuel Tryz.f184 [.agg [i6 d,i6 e,i6 f,.bool g,i6 h],.c (.bool i),.c (i6 j),.agg [i6 l,.sl (.int .i64) m]] [] k=Fg_ref08_asked fuel a b d e f g h i j l m (fun r=>match r with | n=>k (.c (i6 n),[])):=by
  kernel_rfl
theorem hG184 (fuel:Nat):GOK Tryz.prog (G184 fuel):=
  gc (ok185 fuel) Tryz.func185 (by kernel_rfl) rfl <|
  gc (ok239 fuel) Tryz.func239 (by kernel_rfl) rfl <|
  gok_nil
def spg184 (F:YF184):Ev.Spec:=fun args objs k=>match args,objs with | [.agg [i6 a,i6 b,i6 d,.bool e,i6 f],.c (.bool g),.c (i6 h),.agg [i6 i,.sl (.int .i64) j]],[]=>F a b d e f g h i j (fun r=>match r with | l=>k (.c (i6 l),[])) | _,_=>none
theorem ok184 (fuel:Nat):FnOK Tryz.prog 184 (spg184 (F_ref08_asked fuel)):=by
  intro args objs kk r h
  unfold spg184 at h
  split at h
  · skip
    exact fo0 (hG184 fuel) Tryz.func184 rfl (by kernel_rfl) _ _ kk r ((F184_eqg fuel (F_ref08_size fuel) (F_ref08_Valid fuel) _ _ _ _ _ _ _ _ _ kk).trans h)
  · cases h
def kp89_6c1 (i:Nat):Option (List Nat):=Ev.look i [(8,[0,1,7,8,9,12,13,1000002]),(17,[0,1,7,8,9,12,13,14,16,1000002]),(100000,[]),(100002,[0,1,7,8,9,12,13]),(200003,[0,7,8,9]),(200021,[7,8,9]),(400000,[10]),(400002,[10])]
def Gg89_6c1 (i:YF40) (a:YF88_e89) (b:YF110) (c:YF184) (d:YF185) (e:YF186) (g:YF187) (h:YF188) (f:Nat):Option Ev.Spec:=Ev.look f [(40,spg40 i),(88,spg88_e89 a),(110,spg110 b),(184,spg184 c),(185,spg185 d),(186,spg186 e),(187,spg187 g),(188,spg188 h)]
def G89_6c1 (fuel:Nat):Nat→Option Ev.Spec:=Gg89_6c1 (F_ref06_Pix fuel) (F_ref02_Encoder_Put_e89 fuel) (F_ref06_IsBitmap fuel) (F_ref08_asked fuel) (F_ref08_size fuel) (F_ref08_Row fuel) (F_ref08_Alike fuel) (F_ref08_Context fuel)
abbrev V_ref08_Put_6c1_2:Type:=Int×Int×Int×Bool×Int×Int×Int×Int×LI×LI×Int×Int×Int×Bool×Int×Int×Int×LI×Int×Int×LI
abbrev W_ref08_Put_6c1_2:Type:=(Int×Int×Int×Int×Int×Int×LI×LI×Int×Int×Int×Bool×Int×Int×Int×LI×Int×Int×LI→OA)
def Sg_ref08_Put_6c1_2 (fuel:Nat) (K:YF40) (I:YF88_e89) (T:YF110) (U:YF184) (V:YF185) (W:YF186) (N:YF187) (J:YF188) (p q d:Int) (r:Bool) (e s:Int) (t u:Int) (v w:LI) (h i j:Int) (k:Bool) (l a f:Int) (g:LI) (m n:Int) (o:LI) (c:V_ref08_Put_6c1_2→OA) (B:W_ref08_Put_6c1_2):OA:=match B with | b=>bif decide (e < a) then (N h i j k l m n o e d (fun (X,O)=>bif !r then (J h i j k l a f g m n o e d (fun R=>(K a f g e d (fun P=>(I (i64.wrap (p+R)) (i64.wrap P) s t u v w (fun (L,x,y,z,A,C)=>c (p,q,d,r,i64.wrap (e+1),x,y,z,A,C,h,i,j,k,l,a,f,g,m,n,o)) (fun (L,x,y,z,A,C)=>c (p,q,d,r,i64.wrap (e+1),x,y,z,A,C,h,i,j,k,l,a,f,g,m,n,o))))))) else bif !O then (J h i j k l a f g m n o e d (fun S=>(K a f g e d (fun Q=>(I (i64.wrap (p+S)) (i64.wrap Q) s t u v w (fun (M,D,E,F,G,H)=>c (p,q,d,r,i64.wrap (e+1),D,E,F,G,H,h,i,j,k,l,a,f,g,m,n,o)) (fun (M,D,E,F,G,H)=>c (p,q,d,r,i64.wrap (e+1),D,E,F,G,H,h,i,j,k,l,a,f,g,m,n,o))))))) else c (p,q,d,r,i64.wrap (e+1),s,t,u,v,w,h,i,j,k,l,a,f,g,m,n,o))) else b (p,q,d,s,t,u,v,w,h,i,j,k,l,a,f,g,m,n,o)
def S_ref08_Put_6c1_2 (fuel:Nat) (v:Int×Int×Int×Bool×Int×Int×Int×Int×(List Int)×(List Int)×Int×Int×Int×Bool×Int×Int×Int×(List Int)×Int×Int×(List Int)) (c:(Int×Int×Int×Bool×Int×Int×Int×Int×(List Int)×(List Int)×Int×Int×Int×Bool×Int×Int×Int×(List Int)×Int×Int×(List Int))→Option Ans) (B:(Int×Int×Int×Int×Int×Int×(List Int)×(List Int)×Int×Int×Int×Bool×Int×Int×Int×(List Int)×Int×Int×(List Int)→Option Ans)):Option Ans:=match v with | (m,n,o,p,q,r,s,t,u,w,a,b,d,e,f,g,h,i,j,k,l)=>Sg_ref08_Put_6c1_2 fuel (F_ref06_Pix fuel) (F_ref02_Encoder_Put_e89 fuel) (F_ref06_IsBitmap fuel) (F_ref08_asked fuel) (F_ref08_size fuel) (F_ref08_Row fuel) (F_ref08_Alike fuel) (F_ref08_Context fuel) m n o p q r s t u w a b d e f g h i j k l c B
def L_ref08_Put_6c1_2 (fuel:Nat) (v:V_ref08_Put_6c1_2) (b:W_ref08_Put_6c1_2):Option Ans:=iter (S_ref08_Put_6c1_2 fuel) fuel v b
def T89_6c1_2 (v:V_ref08_Put_6c1_2):Ev.St:=match v with | (m,n,o,p,q,r,s,t,u,w,a,b,d,e,f,g,h,i,j,k,l)=>⟨[(0,.c (.ptr 0 0)),(1,.c (i6 m)),(7,.c (.ptr 3 0)),(8,.c (.ptr 4 0)),(9,.c (.ptr 5 0)),(12,.c (i6 n)),(13,.c (i6 o)),(14,.c (.bool p)),(16,.c (i6 q))],[(0,.cells 187 [i6 r,.own 1,.int .u64 s,.int .u64 t,.own 2]),(1,.vec 3 (.int .i64) u false),(2,.vec 5 (.int .u8) w true),(3,.cells 135 [i6 a,i6 b,i6 d,.bool e,i6 f]),(4,.cells 51 [i6 g,i6 h,.sl (.int .u8) i]),(5,.cells 51 [i6 j,i6 k,.sl (.int .u8) l])],6,3⟩
def E89_6c1_2 (K:KT):W_ref08_Put_6c1_2:=(fun v=>match v with | (k,l,m,n,o,p,q,r,s,t,a,b,d,e,f,g,h,i,j)=>K .normal ⟨[(0,.c (.ptr 0 0)),(1,.c (i6 k)),(7,.c (.ptr 3 0)),(8,.c (.ptr 4 0)),(9,.c (.ptr 5 0)),(12,.c (i6 l)),(13,.c (i6 m))],[(0,.cells 187 [i6 n,.own 1,.int .u64 o,.int .u64 p,.own 2]),(1,.vec 3 (.int .i64) q false),(2,.vec 5 (.int .u8) r true),(3,.cells 135 [i6 s,i6 t,i6 a,.bool b,i6 d]),(4,.cells 51 [i6 e,i6 f,.sl (.int .u8) g]),(5,.cells 51 [i6 h,i6 i,.sl (.int .u8) j])],6,3⟩)
theorem S89_6c1_2_okg (fuel:Nat) (h:YF40) (a:YF88_e89) (b:YF110) (c:YF184) (d:YF185) (e:YF186) (f:YF187) (g:YF188) (R:Ev.St→OA) (K:KT) (t u w:Int) (x:Bool) (y z:Int) (A B:Int) (C D:LI) (i j k:Int) (l:Bool) (m n o:Int) (p:LI) (q r:Int) (s:LI):evalCode tab (Gg89_6c1 h a b c d e f g) J0 kp89_6c1 fuel (bodyOf 2 Tryz.f89) (T89_6c1_2 (t,u,w,x,y,z,A,B,C,D,i,j,k,l,m,n,o,p,q,r,s)) (lc kp89_6c1 17 2 R K)=Sg_ref08_Put_6c1_2 fuel h a b c d e f g t u w x y z A B C D i j k l m n o p q r s (fun v=>R (T89_6c1_2 v)) (E89_6c1_2 K):=by
  kernel_rfl
def B89_6c1_2 (fuel:Nat):Ev.Blk:=fun st K=>match canonO (kp89_6c1 17) st with | some s=>(match s with | ⟨[(L,.c (.ptr M N)),(O,.c (i6 P)),(Q,.c (.ptr R S)),(T,.c (.ptr U V)),(a,.c (.ptr b d)),(e,.c (i6 W)),(f,.c (i6 X)),(g,.c (.bool Y)),(h,.c (i6 Z))],[(i,.cells j [i6 a0,.own k,.int .u64 a1,.int .u64 a2,.own l]),(m,.vec n (.int .i64) a3 false),(o,.vec p (.int .u8) a4 true),(q,.cells r [i6 t,i6 u,i6 v,.bool w,i6 x]),(y,.cells z [i6 A,i6 B,.sl (.int .u8) C]),(D,.cells E [i6 F,i6 G,.sl (.int .u8) H])],I,J⟩=>bif qb [L,M,N,O,Q,R,S,T,U,V,a,b,d,e,f,g,h,i,j,k,l,m,n,o,p,q,r,y,z,D,E,I,J] [0,0,0,1,7,3,0,8,4,0,9,5,0,12,13,14,16,0,187,1,2,1,3,2,5,3,135,4,51,5,51,6,3] then iter (S_ref08_Put_6c1_2 fuel) fuel (P,W,X,Y,Z,a0,a1,a2,a3,a4,t,u,v,w,x,A,B,C,F,G,H) (E89_6c1_2 K) else none | _=>none) | none=>none
theorem B89_6c1_2_ok (fuel:Nat) (st:Ev.St) (K:KT) (r:Ans) (h:B89_6c1_2 fuel st K=some r):evalCode tab (G89_6c1 fuel) J0 kp89_6c1 fuel (.block 2 (.loop (bodyOf 2 Tryz.f89))) st K=some r:=by
  unfold B89_6c1_2 at h
  split at h
  · rename_i s hs
    split at h
    · skip
      obtain ⟨hb,h⟩:=cond_some' h
      cases qb_eq hb
      exact blk_loop (S:=T89_6c1_2) (ks:=E89_6c1_2) (step:=S_ref08_Put_6c1_2 fuel) (v:=(_,_,_,_,_,_,_,_,_,_,_,_,_,_,_,_,_,_,_,_,_)) (by kernel_rfl) (by kernel_rfl) (fun R K v=>by obtain ⟨m,n,o,p,q,t,u,w,x,y,a,b,c,d,e,f,g,i,j,k,l⟩:=v; exact S89_6c1_2_okg fuel (F_ref06_Pix fuel) (F_ref02_Encoder_Put_e89 fuel) (F_ref06_IsBitmap fuel) (F_ref08_asked fuel) (F_ref08_size fuel) (F_ref08_Row fuel) (F_ref08_Alike fuel) (F_ref08_Context fuel) R K m n o p q t u w x y a b c d e f g i j k l) hs h
    · cases h
  · cases h
abbrev V_ref08_Put_6c1_0:Type:=Int×Int×Int×Int×Int×Int×LI×LI×Int×Int×Int×Bool×Int×Int×Int×LI×Int×Int×LI
abbrev W_ref08_Put_6c1_0:Type:=(Int×Int×Int×LI×LI→OA)
def Sg_ref08_Put_6c1_0 (fuel:Nat) (a9:YF40) (V:YF88_e89) (a4:YF110) (a5:YF184) (a6:YF185) (a2:YF186) (a7:YF187) (a8:YF188) (J w:Int) (y P:Int) (Q R:Int) (S T:LI) (H I z:Int) (v:Bool) (A C x:Int) (D:LI) (E F:Int) (G:LI) (c:V_ref08_Put_6c1_0→OA) (B:W_ref08_Put_6c1_0):OA:=match B with | b=>bif decide (y < x) then bif v then (a2 H I z v A C x D E F G y (fun U=>bif v then bif U then (V w (1) P Q R S T (fun (W,K,L,M,N,O)=>(L_ref08_Put_6c1_2 fuel (J,w,y,U,0,K,L,M,N,O,H,I,z,v,A,C,x,D,E,F,G) (fun (l,m,n,o,p,q,r,s,t,u,a,d,e,f,g,h,i,j,k)=>c (l,m,i64.wrap (n+1),o,p,q,r,s,t,u,a,d,e,f,g,h,i,j,k)))) (fun (W,K,L,M,N,O)=>(L_ref08_Put_6c1_2 fuel (J,w,y,U,0,K,L,M,N,O,H,I,z,v,A,C,x,D,E,F,G) (fun (l,m,n,o,p,q,r,s,t,u,a,d,e,f,g,h,i,j,k)=>c (l,m,i64.wrap (n+1),o,p,q,r,s,t,u,a,d,e,f,g,h,i,j,k))))) else (V w (0) P Q R S T (fun (W,K,L,M,N,O)=>(L_ref08_Put_6c1_2 fuel (J,w,y,U,0,K,L,M,N,O,H,I,z,v,A,C,x,D,E,F,G) (fun (l,m,n,o,p,q,r,s,t,u,a,d,e,f,g,h,i,j,k)=>c (l,m,i64.wrap (n+1),o,p,q,r,s,t,u,a,d,e,f,g,h,i,j,k)))) (fun (W,K,L,M,N,O)=>(L_ref08_Put_6c1_2 fuel (J,w,y,U,0,K,L,M,N,O,H,I,z,v,A,C,x,D,E,F,G) (fun (l,m,n,o,p,q,r,s,t,u,a,d,e,f,g,h,i,j,k)=>c (l,m,i64.wrap (n+1),o,p,q,r,s,t,u,a,d,e,f,g,h,i,j,k))))) else (L_ref08_Put_6c1_2 fuel (J,w,y,U,0,P,Q,R,S,T,H,I,z,v,A,C,x,D,E,F,G) (fun (l,m,n,o,p,q,r,s,t,u,a,d,e,f,g,h,i,j,k)=>c (l,m,i64.wrap (n+1),o,p,q,r,s,t,u,a,d,e,f,g,h,i,j,k))))) else bif v then (V w (0) P Q R S T (fun (a3,X,Y,Z,a0,a1)=>(L_ref08_Put_6c1_2 fuel (J,w,y,false,0,X,Y,Z,a0,a1,H,I,z,v,A,C,x,D,E,F,G) (fun (l,m,n,o,p,q,r,s,t,u,a,d,e,f,g,h,i,j,k)=>c (l,m,i64.wrap (n+1),o,p,q,r,s,t,u,a,d,e,f,g,h,i,j,k)))) (fun (a3,X,Y,Z,a0,a1)=>(L_ref08_Put_6c1_2 fuel (J,w,y,false,0,X,Y,Z,a0,a1,H,I,z,v,A,C,x,D,E,F,G) (fun (l,m,n,o,p,q,r,s,t,u,a,d,e,f,g,h,i,j,k)=>c (l,m,i64.wrap (n+1),o,p,q,r,s,t,u,a,d,e,f,g,h,i,j,k))))) else (L_ref08_Put_6c1_2 fuel (J,w,y,false,0,P,Q,R,S,T,H,I,z,v,A,C,x,D,E,F,G) (fun (l,m,n,o,p,q,r,s,t,u,a,d,e,f,g,h,i,j,k)=>c (l,m,i64.wrap (n+1),o,p,q,r,s,t,u,a,d,e,f,g,h,i,j,k))) else b (P,Q,R,S,T)
def S_ref08_Put_6c1_0 (fuel:Nat) (v:Int×Int×Int×Int×Int×Int×(List Int)×(List Int)×Int×Int×Int×Bool×Int×Int×Int×(List Int)×Int×Int×(List Int)) (c:(Int×Int×Int×Int×Int×Int×(List Int)×(List Int)×Int×Int×Int×Bool×Int×Int×Int×(List Int)×Int×Int×(List Int))→Option Ans) (B:(Int×Int×Int×(List Int)×(List Int)→Option Ans)):Option Ans:=match v with | (k,l,m,n,o,p,q,r,s,t,a,b,d,e,f,g,h,i,j)=>Sg_ref08_Put_6c1_0 fuel (F_ref06_Pix fuel) (F_ref02_Encoder_Put_e89 fuel) (F_ref06_IsBitmap fuel) (F_ref08_asked fuel) (F_ref08_size fuel) (F_ref08_Row fuel) (F_ref08_Alike fuel) (F_ref08_Context fuel) k l m n o p q r s t a b d e f g h i j c B
def L_ref08_Put_6c1_0 (fuel:Nat) (v:V_ref08_Put_6c1_0) (b:W_ref08_Put_6c1_0):Option Ans:=iter (S_ref08_Put_6c1_0 fuel) fuel v b
def J89_6c1_0 (fuel:Nat) (i:Nat):Option Ev.Blk:=Ev.look i [(100002,B89_6c1_2 fuel)]
def T89_6c1_0 (v:V_ref08_Put_6c1_0):Ev.St:=match v with | (k,l,m,n,o,p,q,r,s,t,a,b,d,e,f,g,h,i,j)=>⟨[(0,.c (.ptr 0 0)),(1,.c (i6 k)),(7,.c (.ptr 3 0)),(8,.c (.ptr 4 0)),(9,.c (.ptr 5 0)),(12,.c (i6 l)),(13,.c (i6 m))],[(0,.cells 187 [i6 n,.own 1,.int .u64 o,.int .u64 p,.own 2]),(1,.vec 3 (.int .i64) q false),(2,.vec 5 (.int .u8) r true),(3,.cells 135 [i6 s,i6 t,i6 a,.bool b,i6 d]),(4,.cells 51 [i6 e,i6 f,.sl (.int .u8) g]),(5,.cells 51 [i6 h,i6 i,.sl (.int .u8) j])],6,3⟩
def E89_6c1_0 (K:KT):W_ref08_Put_6c1_0:=(fun v=>match v with | (a,b,c,d,e)=>K .normal ⟨[],[(0,.cells 187 [i6 a,.own 1,.int .u64 b,.int .u64 c,.own 2]),(1,.vec 3 (.int .i64) d false),(2,.vec 5 (.int .u8) e true)],3,3⟩)
theorem S89_6c1_0_okg (fuel:Nat) (h:YF40) (a:YF88_e89) (b:YF110) (c:YF184) (d:YF185) (e:YF186) (f:YF187) (g:YF188) (R:Ev.St→OA) (K:KT) (r s:Int) (t u:Int) (w x:Int) (y z:LI) (A B i:Int) (j:Bool) (k l m:Int) (n:LI) (o p:Int) (q:LI):evalCode tab (Gg89_6c1 h a b c d e f g) (J89_6c1_0 fuel) kp89_6c1 fuel (bodyOf 0 Tryz.f89) (T89_6c1_0 (r,s,t,u,w,x,y,z,A,B,i,j,k,l,m,n,o,p,q)) (lc kp89_6c1 8 0 R K)=Sg_ref08_Put_6c1_0 fuel h a b c d e f g r s t u w x y z A B i j k l m n o p q (fun v=>R (T89_6c1_0 v)) (E89_6c1_0 K):=by
  kernel_rfl
def B89_6c1_0 (fuel:Nat):Ev.Blk:=fun st K=>match canonO (kp89_6c1 8) st with | some s=>(match s with | ⟨[(G,.c (.ptr H I)),(J,.c (i6 L)),(M,.c (.ptr N O)),(P,.c (.ptr Q R)),(a,.c (.ptr b d)),(e,.c (i6 S)),(f,.c (i6 T))],[(g,.cells h [i6 U,.own i,.int .u64 V,.int .u64 W,.own j]),(k,.vec l (.int .i64) X false),(m,.vec n (.int .u8) Y true),(o,.cells p [i6 Z,i6 a0,i6 q,.bool r,i6 t]),(u,.cells v [i6 w,i6 x,.sl (.int .u8) y]),(z,.cells A [i6 B,i6 C,.sl (.int .u8) D])],E,F⟩=>bif qb [G,H,I,J,M,N,O,P,Q,R,a,b,d,e,f,g,h,i,j,k,l,m,n,o,p,u,v,z,A,E,F] [0,0,0,1,7,3,0,8,4,0,9,5,0,12,13,0,187,1,2,1,3,2,5,3,135,4,51,5,51,6,3] then iter (S_ref08_Put_6c1_0 fuel) fuel (L,S,T,U,V,W,X,Y,Z,a0,q,r,t,w,x,y,B,C,D) (E89_6c1_0 K) else none | _=>none) | none=>none
theorem B89_6c1_0_ok (fuel:Nat) (st:Ev.St) (K:KT) (r:Ans) (h:B89_6c1_0 fuel st K=some r):evalCode tab (G89_6c1 fuel) (J89_6c1_0 fuel) kp89_6c1 fuel (.block 0 (.loop (bodyOf 0 Tryz.f89))) st K=some r:=by
  unfold B89_6c1_0 at h
  split at h
  · rename_i s hs
    split at h
    · skip
      obtain ⟨hb,h⟩:=cond_some' h
      cases qb_eq hb
      exact blk_loop (S:=T89_6c1_0) (ks:=E89_6c1_0) (step:=S_ref08_Put_6c1_0 fuel) (v:=(_,_,_,_,_,_,_,_,_,_,_,_,_,_,_,_,_,_,_)) (by kernel_rfl) (by kernel_rfl) (fun R K v=>by obtain ⟨k,l,m,n,o,p,q,t,u,w,a,b,c,d,e,f,g,i,j⟩:=v; exact S89_6c1_0_okg fuel (F_ref06_Pix fuel) (F_ref02_Encoder_Put_e89 fuel) (F_ref06_IsBitmap fuel) (F_ref08_asked fuel) (F_ref08_size fuel) (F_ref08_Row fuel) (F_ref08_Alike fuel) (F_ref08_Context fuel) R K k l m n o p q t u w a b c d e f g i j) hs h
    · cases h
  · cases h
def J89_6c1 (fuel:Nat) (i:Nat):Option Ev.Blk:=Ev.look i [(100002,B89_6c1_2 fuel),(100000,B89_6c1_0 fuel)]
def F_ref08_Put_6c1 (fuel:Nat) (c d:Int) (h i:Int) (j:Bool) (k t u:Int) (v:(List Int)) (w r:Int) (s:(List Int)) (a e f:Int) (b g:(List Int)) (k0:(Int×Int×Int×Int×(List Int)×(List Int))→Option Ans):Option Ans:=(F_ref06_IsBitmap fuel t u v (fun A=>bif A then (F_ref06_IsBitmap fuel w r s (fun l=>(F_ref08_asked fuel d h i j k l c a b (fun x=>bif x != 0 then k0 (x,a,e,f,b,g) else (F_ref08_size fuel d (fun y=>(L_ref08_Put_6c1_0 fuel (c,i64.wrap (i64.wrap (c+y) - 1),0,a,e,f,b,g,d,h,i,j,k,t,u,v,w,r,s) (fun (m,n,o,p,q)=>k0 (0,m,n,o,p,q))))))))) else (F_ref08_asked fuel d h i j k (false) c a b (fun l=>bif l != 0 then k0 (l,a,e,f,b,g) else (F_ref08_size fuel d (fun z=>(L_ref08_Put_6c1_0 fuel (c,i64.wrap (i64.wrap (c+z) - 1),0,a,e,f,b,g,d,h,i,j,k,t,u,v,w,r,s) (fun (m,n,o,p,q)=>k0 (0,m,n,o,p,q)))))))))
abbrev YF89_6c1:Type:=Int→Int→Int→Int→Bool→Int→Int→Int→LI→Int→Int→LI→Int→Int→Int→LI→LI→((Int×Int×Int×Int×LI×LI)→Option Ans)→Option Ans
theorem F89_6c1_eqg (fuel:Nat) (I:YF40) (E:YF88_e89) (v:YF110) (w:YF184) (x:YF185) (F:YF186) (G:YF187) (H:YF188) (d e:Int) (i j:Int) (l:Bool) (m p q:Int) (s:LI) (t n:Int) (o:LI) (a f g:Int) (b h:LI) (k:Ev.Cont):evalFn tab (Gg89_6c1 I E v w x F G H) (J89_6c1 fuel) kp89_6c1 fuel Tryz.f89 [.c (.ptr 0 0),.c (i6 d),.agg [i6 e,i6 i,i6 j,.bool l,i6 m],.agg [i6 p,i6 q,.sl (.int .u8) s],.agg [i6 t,i6 n,.sl (.int .u8) o]] [.cells 187 [i6 a,.own 1,.int .u64 f,.int .u64 g,.own 2],.vec 3 (.int .i64) b false,.vec 5 (.int .u8) h false] (wkC [1000002] k)=(fun  (k0:(Int×Int×Int×Int×LI×LI)→OA)=>
  (v p q s
  (fun L=>
  bif L then
  (v t n o
  (fun u=>
  (w e i j l m u d a b
  (fun D=>
  bif D != (0:Int) then
  k0 (D,a,f,g,b,h)
  else
  (x e
  (fun J=>
  (L_ref08_Put_6c1_0 fuel (d,i64.wrap (i64.wrap (d+J) - (1:Int)),(0:Int),a,f,g,b,h,e,i,j,l,m,p,q,s,t,n,o)
  (fun (y,z,A,B,C)=>
  k0 ((0:Int),y,z,A,B,C)))))))))
  else
  (w e i j l m (false) d a b
  (fun u=>
  bif u != (0:Int) then
  k0 (u,a,f,g,b,h)
  else
  (x e
  (fun K=>
  (L_ref08_Put_6c1_0 fuel (d,i64.wrap (i64.wrap (d+K) - (1:Int)),(0:Int),a,f,g,b,h,e,i,j,l,m,p,q,s,t,n,o)
  (fun (y,z,A,B,C)=>
  k0 ((0:Int),y,z,A,B,C)))))))))) (fun r=>match r with | (M,N,O,P,Q,R)=>k (.c (i6 M),[.cells 187 [i6 N,.own 1,.int .u64 O,.int .u64 P,.own 2],.vec 3 (.int .i64) Q false,.vec 5 (.int .u8) R true])):=by
  kernel_rfl
theorem hG89_6c1 (fuel:Nat):GOK Tryz.prog (G89_6c1 fuel):=
  gc (ok40 fuel) Tryz.func40 (by kernel_rfl) rfl <|
  gc (ok88_e89 fuel) Tryz.func88 (by kernel_rfl) rfl <|
  gc (ok110 fuel) Tryz.func110 (by kernel_rfl) rfl <|
  gc (ok184 fuel) Tryz.func184 (by kernel_rfl) rfl <|
  gc (ok185 fuel) Tryz.func185 (by kernel_rfl) rfl <|
  gc (ok186 fuel) Tryz.func186 (by kernel_rfl) rfl <|
  gc (ok187 fuel) Tryz.func187 (by kernel_rfl) rfl <|
  gc (ok188 fuel) Tryz.func188 (by kernel_rfl) rfl <|
  gok_nil
theorem B89_6c1_2_blk (fuel:Nat):BlkOK Tryz.prog Tryz.f89.ntmps (.block 2 (.loop (bodyOf 2 Tryz.f89))) (B89_6c1_2 fuel):=bo0 (hG89_6c1 fuel) (by kernel_rfl) (by kernel_rfl) (B89_6c1_2_ok fuel)
theorem B89_6c1_0_blk (fuel:Nat):BlkOK Tryz.prog Tryz.f89.ntmps (.block 0 (.loop (bodyOf 0 Tryz.f89))) (B89_6c1_0 fuel):=
  blk_of (blk_of_code tab_ok (hG89_6c1 fuel) mixed (J:=J89_6c1_0 fuel) (kp:=kp89_6c1) (fuel:=fuel) (by kernel_rfl) (fun q hq=>by
    rw [(by kernel_rfl:obl (J89_6c1_0 fuel) (.block 0 (.loop (bodyOf 0 Tryz.f89)))= [(.block 2 (.loop (bodyOf 2 Tryz.f89)),B89_6c1_2 fuel)])] at hq
    simp only [List.mem_cons,List.not_mem_nil,or_false] at hq
    subst hq
    · exact B89_6c1_2_blk fuel)) (B89_6c1_0_ok fuel)
theorem fok89_6c1 (fuel:Nat):FnOK Tryz.prog 89 (evalFn tab (G89_6c1 fuel) (J89_6c1 fuel) kp89_6c1 fuel Tryz.f89):=
  fn_ok tab_ok (hG89_6c1 fuel) mixed Tryz.func89 (c:=(Tryz.f89.body).getD .skip) rfl (fun q hq=>by
    rw [(by kernel_rfl:obl (J89_6c1 fuel) ((Tryz.f89.body).getD .skip)= [(.block 0 (.loop (bodyOf 0 Tryz.f89)),B89_6c1_0 fuel)])] at hq
    simp only [List.mem_cons,List.not_mem_nil,or_false] at hq
    subst hq
    · exact B89_6c1_0_blk fuel)
def spg89_6c1 (F:YF89_6c1):Ev.Spec:=fun args objs k=>match args,objs with | [.c (.ptr i j),.c (i6 l),.agg [i6 m,i6 n,i6 o,.bool p,i6 q],.agg [i6 s,i6 t,.sl (.int .u8) u],.agg [i6 v,i6 a,.sl (.int .u8) b]],[.cells w [i6 d,.own x,.int .u64 e,.int .u64 f,.own y],.vec z (.int .i64) g false,.vec A (.int .u8) h false]=>bif qb [i,j,w,x,y,z,A] [0,0,187,1,2,3,5] then F l m n o p q s t u v a b d e f g h (fun r=>match r with | (B,C,D,E,G,H)=>k (.c (i6 B),[.cells 187 [i6 C,.own 1,.int .u64 D,.int .u64 E,.own 2],.vec 3 (.int .i64) G false,.vec 5 (.int .u8) H true])) else none | _,_=>none
theorem ok89_6c1 (fuel:Nat):FnOK Tryz.prog 89 (spg89_6c1 (F_ref08_Put_6c1 fuel)):=by
  intro args objs kk r h
  unfold spg89_6c1 at h
  split at h
  · skip
    obtain ⟨hb,h⟩:=cond_some' h
    cases qb_eq hb
    exact (fok89_6c1 fuel).wk [1000002] _ _ kk r ((F89_6c1_eqg fuel (F_ref06_Pix fuel) (F_ref02_Encoder_Put_e89 fuel) (F_ref06_IsBitmap fuel) (F_ref08_asked fuel) (F_ref08_size fuel) (F_ref08_Row fuel) (F_ref08_Alike fuel) (F_ref08_Context fuel) _ _ _ _ _ _ _ _ _ _ _ _ _ _ _ _ _ kk).trans h)
  · cases h
def kp59 (i:Nat):Option (List Nat):=Ev.look i [(2,[0,3]),(100000,[0,3]),(400000,[2])]
def Gg59 (f:Nat):Option Ev.Spec:=Ev.look f []
def G59 (fuel:Nat):Nat→Option Ev.Spec:=Gg59
def S_ref03_Width_0 (fuel:Nat) (v:Int×Int) (c:(Int×Int)→Option Ans) (B:(Int×Int→Option Ans)):Option Ans:=match v,B with | (d,a),b=>bif decide (a < (62:Int)) then bif decide (a < (0:Int)) then none else bif decide (Ev.ishl IntKind.i64 (1:Int) a < d) then c (d,i64.wrap (a+(1:Int))) else b (d,a) else b (d,a)
def L_ref03_Width_0 (fuel:Nat) (v:Int×Int) (b:(Int×Int→Option Ans)):Option Ans:=iter (S_ref03_Width_0 fuel) fuel v b
def T59_0 (v:Int×Int):Ev.St:=match v with | (a,b)=>⟨[(0,.c (i6 a)),(3,.c (i6 b))],[],0,0⟩
def E59_0 (K:KT):(Int×Int→OA):=(fun v=>match v with | (a,b)=>K .normal ⟨[(0,.c (i6 a)),(3,.c (i6 b))],[],0,0⟩)
theorem S59_0_ok (fuel:Nat) (R:Ev.St→OA) (K:KT) (a b:Int):evalCode tab (G59 fuel) J0 kp59 fuel (bodyOf 0 Tryz.f59) (T59_0 (a,b)) (lc kp59 2 0 R K)=S_ref03_Width_0 fuel (a,b) (fun v=>R (T59_0 v)) (E59_0 K):=by
  kernel_rfl
def B59_0 (fuel:Nat):Ev.Blk:=fun st K=>match canonO (kp59 2) st with | some s=>(match s with | ⟨[(a,.c (i6 b)),(d,.c (i6 e))],[],f,g⟩=>bif qb [a,d,f,g] [0,3,0,0] then iter (S_ref03_Width_0 fuel) fuel (b,e) (E59_0 K) else none | _=>none) | none=>none
theorem B59_0_ok (fuel:Nat) (st:Ev.St) (K:KT) (r:Ans) (h:B59_0 fuel st K=some r):evalCode tab (G59 fuel) J0 kp59 fuel (.block 0 (.loop (bodyOf 0 Tryz.f59))) st K=some r:=by
  unfold B59_0 at h
  split at h
  · rename_i s hs
    split at h
    · skip
      obtain ⟨hb,h⟩:=cond_some' h
      cases qb_eq hb
      exact blk_loop (S:=T59_0) (ks:=E59_0) (step:=S_ref03_Width_0 fuel) (v:=(_,_)) (by kernel_rfl) (by kernel_rfl) (fun R K v=>by obtain ⟨a,b⟩:=v; exact S59_0_ok fuel R K a b) hs h
    · cases h
  · cases h
def J59 (fuel:Nat) (i:Nat):Option Ev.Blk:=Ev.look i [(100000,B59_0 fuel)]
def F_ref03_Width (fuel:Nat) (c:Int) (k0:(Int)→Option Ans):Option Ans:=(L_ref03_Width_0 fuel (c,0) (fun (b,a)=>bif decide (a < 0) then none else bif decide (Ev.ishl IntKind.i64 1 a < b) then k0 (63) else k0 a))
abbrev YF59:Type:=Int→(Int→Option Ans)→Option Ans
theorem F59_eq (fuel:Nat) (a:Int) (k:Ev.Cont):evalFn tab (G59 fuel) (J59 fuel) kp59 fuel Tryz.f59 [.c (i6 a)] [] k=F_ref03_Width fuel a (fun r=>match r with | b=>k (.c (i6 b),[])):=by
  kernel_rfl
theorem hG59 (fuel:Nat):GOK Tryz.prog (G59 fuel):=
  gok_nil
theorem B59_0_blk (fuel:Nat):BlkOK Tryz.prog Tryz.f59.ntmps (.block 0 (.loop (bodyOf 0 Tryz.f59))) (B59_0 fuel):=bo0 (hG59 fuel) (by kernel_rfl) (by kernel_rfl) (B59_0_ok fuel)
def spg59 (F:YF59):Ev.Spec:=fun args objs k=>match args,objs with | [.c (i6 a)],[]=>F a (fun r=>match r with | b=>k (.c (i6 b),[])) | _,_=>none
theorem ok59 (fuel:Nat):FnOK Tryz.prog 59 (spg59 (F_ref03_Width fuel)):=by
  intro args objs kk r h
  unfold spg59 at h
  split at h
  · skip
    exact fo1 (hG59 fuel) Tryz.func59 rfl (B59_0_blk fuel) (by kernel_rfl) _ _ kk r ((F59_eq fuel _ kk).trans h)
  · cases h
def kp174 (i:Nat):Option (List Nat):=Ev.look i []
def Gg174 (a:YF185) (f:Nat):Option Ev.Spec:=Ev.look f [(185,spg185 a)]
def G174 (fuel:Nat):Nat→Option Ev.Spec:=Gg174 (F_ref08_size fuel)
def Fg_ref08_Size (fuel:Nat) (b:YF185) (a:Int) (k0:(Int×Int)→OA):OA:=bif decide (a < 0) then k0 (0,2) else bif decide (a > 1) then k0 (0,2) else (b a (fun c=>k0 (c,0)))
abbrev YF174:Type:=Int→((Int×Int)→Option Ans)→Option Ans
def F_ref08_Size (fuel:Nat):YF174:=Fg_ref08_Size fuel (F_ref08_size fuel)
theorem F174_eqg (fuel:Nat) (a:YF185) (b:Int) (k:Ev.Cont):evalFn tab (Gg174 a) J0 kp174 fuel Tryz.f174 [.c (i6 b)] [] k=Fg_ref08_Size fuel a b (fun r=>match r with | (d,e)=>k (.tup [(false,[i6 d]),(false,[i6 e])],[])):=by
  kernel_rfl
theorem hG174 (fuel:Nat):GOK Tryz.prog (G174 fuel):=
  gc (ok185 fuel) Tryz.func185 (by kernel_rfl) rfl <|
  gok_nil
def spg174 (F:YF174):Ev.Spec:=fun args objs k=>match args,objs with | [.c (i6 a)],[]=>F a (fun r=>match r with | (b,d)=>k (.tup [(false,[i6 b]),(false,[i6 d])],[])) | _,_=>none
theorem ok174 (fuel:Nat):FnOK Tryz.prog 174 (spg174 (F_ref08_Size fuel)):=by
  intro args objs kk r h
  unfold spg174 at h
  split at h
  · skip
    exact fo0 (hG174 fuel) Tryz.func174 rfl (by kernel_rfl) _ _ kk r ((F174_eqg fuel (F_ref08_size fuel) _ kk).trans h)
  · cases h
def kp84 (i:Nat):Option (List Nat):=Ev.look i [(200006,[2])]
def Gg84 (b:YF59) (a:YF174) (f:Nat):Option Ev.Spec:=Ev.look f [(59,spg59 b),(174,spg174 a)]
def G84 (fuel:Nat):Nat→Option Ev.Spec:=Gg84 (F_ref03_Width fuel) (F_ref08_Size fuel)
def Fg_ref10_Model (fuel:Nat) (e:YF59) (d:YF174) (j k:Int) (l:Bool) (m n c:Int) (f:Bool) (g h:Int) (k0:(Int×Int×LI)→OA):OA:=(e h (fun a=>bif decide (a < 0) then none else bif f then (d g (fun (b,i)=>bif decide (0≤i64.wrap (i64.wrap (i64.wrap (385+Ev.ishl IntKind.i64 1 a) - 1)+b)∧i64.wrap (i64.wrap (i64.wrap (385+Ev.ishl IntKind.i64 1 a) - 1)+b)=i64.wrap (i64.wrap (i64.wrap (385+Ev.ishl IntKind.i64 1 a) - 1)+b)∧(↑(8:Nat):Int)*i64.wrap (i64.wrap (i64.wrap (385+Ev.ishl IntKind.i64 1 a) - 1)+b)≤281474976710656∧i64.wrap (i64.wrap (i64.wrap (385+Ev.ishl IntKind.i64 1 a) - 1)+b)≤281474976710656) then k0 (c,a,List.replicate (i64.wrap (i64.wrap (i64.wrap (385+Ev.ishl IntKind.i64 1 a) - 1)+b)).toNat (0:Int)) else none)) else bif decide (0≤i64.wrap (i64.wrap (385+Ev.ishl IntKind.i64 1 a) - 1)∧i64.wrap (i64.wrap (385+Ev.ishl IntKind.i64 1 a) - 1)=i64.wrap (i64.wrap (385+Ev.ishl IntKind.i64 1 a) - 1)∧(↑(8:Nat):Int)*i64.wrap (i64.wrap (385+Ev.ishl IntKind.i64 1 a) - 1)≤281474976710656∧i64.wrap (i64.wrap (385+Ev.ishl IntKind.i64 1 a) - 1)≤281474976710656) then k0 (c,a,List.replicate (i64.wrap (i64.wrap (385+Ev.ishl IntKind.i64 1 a) - 1)).toNat (0:Int)) else none))
abbrev YF84:Type:=Int→Int→Bool→Int→Int→Int→Bool→Int→Int→((Int×Int×LI)→Option Ans)→Option Ans
def F_ref10_Model (fuel:Nat):YF84:=Fg_ref10_Model fuel (F_ref03_Width fuel) (F_ref08_Size fuel)
theorem F84_eqg (fuel:Nat) (b:YF59) (a:YF174) (d e:Int) (f:Bool) (g h i:Int) (j:Bool) (l m:Int) (k:Ev.Cont):evalFn tab (Gg84 b a) J0 kp84 fuel Tryz.f84 [.agg [i6 d,i6 e,.bool f,i6 g,i6 h,i6 i,.bool j,i6 l],.c (i6 m)] [] k=Fg_ref10_Model fuel b a d e f g h i j l m (fun r=>match r with | (n,o,p)=>k (.tup [(true,[i6 n,.own 0]),(false,[i6 o])],[.vec 3 (.int .i64) p true])):=by
  kernel_rfl
theorem hG84 (fuel:Nat):GOK Tryz.prog (G84 fuel):=
  gc (ok59 fuel) Tryz.func59 (by kernel_rfl) rfl <|
  gc (ok174 fuel) Tryz.func174 (by kernel_rfl) rfl <|
  gok_nil
def spg84 (F:YF84):Ev.Spec:=fun args objs k=>match args,objs with | [.agg [i6 a,i6 b,.bool d,i6 e,i6 f,i6 g,.bool h,i6 i],.c (i6 j)],[]=>F a b d e f g h i j (fun r=>match r with | (l,m,n)=>k (.tup [(true,[i6 l,.own 0]),(false,[i6 m])],[.vec 3 (.int .i64) n true])) | _,_=>none
theorem ok84 (fuel:Nat):FnOK Tryz.prog 84 (spg84 (F_ref10_Model fuel)):=by
  intro args objs kk r h
  unfold spg84 at h
  split at h
  · skip
    exact fo0 (hG84 fuel) Tryz.func84 rfl (by kernel_rfl) _ _ kk r ((F84_eqg fuel (F_ref03_Width fuel) (F_ref08_Size fuel) _ _ _ _ _ _ _ _ _ kk).trans h)
  · cases h
def kp83 (i:Nat):Option (List Nat):=Ev.look i []
def Gg83 (f:Nat):Option Ev.Spec:=Ev.look f []
def G83 (fuel:Nat):Nat→Option Ev.Spec:=Gg83
def F_ref10_Strip (fuel:Nat) (a c:Int) (d:Bool) (e f g:Int) (h:Bool) (i b:Int) (k0:(Int)→Option Ans):Option Ans:=bif decide (a=0) then none else bif decide (i64.wrap (i64.wrap (b.tdiv a)*a) > b) then k0 (i64.wrap (i64.wrap (b.tdiv a) - 1)) else k0 (i64.wrap (b.tdiv a))
abbrev YF83:Type:=Int→Int→Bool→Int→Int→Int→Bool→Int→Int→(Int→Option Ans)→Option Ans
theorem F83_eq (fuel:Nat) (a b:Int) (d:Bool) (e f g:Int) (h:Bool) (i j:Int) (k:Ev.Cont):evalFn tab (G83 fuel) J0 kp83 fuel Tryz.f83 [.agg [i6 a,i6 b,.bool d,i6 e,i6 f,i6 g,.bool h,i6 i],.c (i6 j)] [] k=F_ref10_Strip fuel a b d e f g h i j (fun r=>match r with | l=>k (.c (i6 l),[])):=by
  kernel_rfl
theorem hG83 (fuel:Nat):GOK Tryz.prog (G83 fuel):=
  gok_nil
def spg83 (F:YF83):Ev.Spec:=fun args objs k=>match args,objs with | [.agg [i6 a,i6 b,.bool d,i6 e,i6 f,i6 g,.bool h,i6 i],.c (i6 j)],[]=>F a b d e f g h i j (fun r=>match r with | l=>k (.c (i6 l),[])) | _,_=>none
theorem ok83 (fuel:Nat):FnOK Tryz.prog 83 (spg83 (F_ref10_Strip fuel)):=by
  intro args objs kk r h
  unfold spg83 at h
  split at h
  · skip
    exact fo0 (hG83 fuel) Tryz.func83 rfl (by kernel_rfl) _ _ kk r ((F83_eq fuel _ _ _ _ _ _ _ _ _ kk).trans h)
  · cases h
def kp39 (i:Nat):Option (List Nat):=Ev.look i []
def Gg39 (a:YF110) (f:Nat):Option Ev.Spec:=Ev.look f [(110,spg110 a)]
def G39 (fuel:Nat):Nat→Option Ev.Spec:=Gg39 (F_ref06_IsBitmap fuel)
def Fg_ref10_IsShape (fuel:Nat) (c:YF110) (a b:Int) (d:LI) (k0:(Bool)→OA):OA:=(c a b d (fun e=>bif e then bif decide (a≥1) then bif decide (a≤40) then bif decide (b≥1) then k0 (decide (b≤40)) else k0 false else k0 false else k0 false else k0 false))
abbrev YF39:Type:=Int→Int→LI→(Bool→Option Ans)→Option Ans
def F_ref10_IsShape (fuel:Nat):YF39:=Fg_ref10_IsShape fuel (F_ref06_IsBitmap fuel)
theorem F39_eqg (fuel:Nat) (a:YF110) (b d:Int) (e:LI) (k:Ev.Cont):evalFn tab (Gg39 a) J0 kp39 fuel Tryz.f39 [.agg [i6 b,i6 d,.sl (.int .u8) e]] [] k=Fg_ref10_IsShape fuel a b d e (fun r=>match r with | f=>k (.c (.bool f),[])):=by
  kernel_rfl
theorem hG39 (fuel:Nat):GOK Tryz.prog (G39 fuel):=
  gc (ok110 fuel) Tryz.func110 (by kernel_rfl) rfl <|
  gok_nil
def spg39 (F:YF39):Ev.Spec:=fun args objs k=>match args,objs with | [.agg [i6 a,i6 b,.sl (.int .u8) d]],[]=>F a b d (fun r=>match r with | e=>k (.c (.bool e),[])) | _,_=>none
theorem ok39 (fuel:Nat):FnOK Tryz.prog 39 (spg39 (F_ref10_IsShape fuel)):=by
  intro args objs kk r h
  unfold spg39 at h
  split at h
  · skip
    exact fo0 (hG39 fuel) Tryz.func39 rfl (by kernel_rfl) _ _ kk r ((F39_eqg fuel (F_ref06_IsBitmap fuel) _ _ _ kk).trans h)
  · cases h
def kp32 (i:Nat):Option (List Nat):=Ev.look i []
def Gg32 (f:Nat):Option Ev.Spec:=Ev.look f []
def G32 (fuel:Nat):Nat→Option Ev.Spec:=Gg32
def F_ref10_Valid (fuel:Nat) (f a:Int) (g:Bool) (b c d:Int) (h:Bool) (e:Int) (k0:(Bool)→Option Ans):Option Ans:=bif f != 1 then bif f != 2 then bif f != 4 then bif f != 8 then k0 false else bif decide (a≥0) then bif decide (a≤3) then bif decide (b≥(-16:Int)) then bif decide (b≤16) then bif decide (c≥0) then bif decide (c≤4) then bif decide (d≥0) then bif decide (d≤1) then bif decide (e≥0) then k0 (decide (e≤1)) else k0 false else k0 false else k0 false else k0 false else k0 false else k0 false else k0 false else k0 false else k0 false else bif decide (a≥0) then bif decide (a≤3) then bif decide (b≥(-16:Int)) then bif decide (b≤16) then bif decide (c≥0) then bif decide (c≤4) then bif decide (d≥0) then bif decide (d≤1) then bif decide (e≥0) then k0 (decide (e≤1)) else k0 false else k0 false else k0 false else k0 false else k0 false else k0 false else k0 false else k0 false else k0 false else bif decide (a≥0) then bif decide (a≤3) then bif decide (b≥(-16:Int)) then bif decide (b≤16) then bif decide (c≥0) then bif decide (c≤4) then bif decide (d≥0) then bif decide (d≤1) then bif decide (e≥0) then k0 (decide (e≤1)) else k0 false else k0 false else k0 false else k0 false else k0 false else k0 false else k0 false else k0 false else k0 false else bif decide (a≥0) then bif decide (a≤3) then bif decide (b≥(-16:Int)) then bif decide (b≤16) then bif decide (c≥0) then bif decide (c≤4) then bif decide (d≥0) then bif decide (d≤1) then bif decide (e≥0) then k0 (decide (e≤1)) else k0 false else k0 false else k0 false else k0 false else k0 false else k0 false else k0 false else k0 false else k0 false
abbrev YF32:Type:=Int→Int→Bool→Int→Int→Int→Bool→Int→(Bool→Option Ans)→Option Ans
theorem F32_eq (fuel:Nat) (a b:Int) (d:Bool) (e f g:Int) (h:Bool) (i:Int) (k:Ev.Cont):evalFn tab (G32 fuel) J0 kp32 fuel Tryz.f32 [.agg [i6 a,i6 b,.bool d,i6 e,i6 f,i6 g,.bool h,i6 i]] [] k=F_ref10_Valid fuel a b d e f g h i (fun r=>match r with | j=>k (.c (.bool j),[])):=by
  kernel_rfl
theorem hG32 (fuel:Nat):GOK Tryz.prog (G32 fuel):=
  gok_nil
def spg32 (F:YF32):Ev.Spec:=fun args objs k=>match args,objs with | [.agg [i6 a,i6 b,.bool d,i6 e,i6 f,i6 g,.bool h,i6 i]],[]=>F a b d e f g h i (fun r=>match r with | j=>k (.c (.bool j),[])) | _,_=>none
theorem ok32 (fuel:Nat):FnOK Tryz.prog 32 (spg32 (F_ref10_Valid fuel)):=by
  intro args objs kk r h
  unfold spg32 at h
  split at h
  · skip
    exact fo0 (hG32 fuel) Tryz.func32 rfl (by kernel_rfl) _ _ kk r ((F32_eq fuel _ _ _ _ _ _ _ _ kk).trans h)
  · cases h
def kp97 (i:Nat):Option (List Nat):=Ev.look i []
def Gg97 (f:Nat):Option Ev.Spec:=Ev.look f []
def G97 (fuel:Nat):Nat→Option Ev.Spec:=Gg97
def F_ref10_isShift (fuel:Nat) (a:Int) (k0:(Bool)→Option Ans):Option Ans:=bif decide (a≥(-100000:Int)) then k0 (decide (a≤100000)) else k0 false
abbrev YF97:Type:=Int→(Bool→Option Ans)→Option Ans
theorem F97_eq (fuel:Nat) (a:Int) (k:Ev.Cont):evalFn tab (G97 fuel) J0 kp97 fuel Tryz.f97 [.c (i6 a)] [] k=F_ref10_isShift fuel a (fun r=>match r with | b=>k (.c (.bool b),[])):=by
  kernel_rfl
theorem hG97 (fuel:Nat):GOK Tryz.prog (G97 fuel):=
  gok_nil
def spg97 (F:YF97):Ev.Spec:=fun args objs k=>match args,objs with | [.c (i6 a)],[]=>F a (fun r=>match r with | b=>k (.c (.bool b),[])) | _,_=>none
theorem ok97 (fuel:Nat):FnOK Tryz.prog 97 (spg97 (F_ref10_isShift fuel)):=by
  intro args objs kk r h
  unfold spg97 at h
  split at h
  · skip
    exact fo0 (hG97 fuel) Tryz.func97 rfl (by kernel_rfl) _ _ kk r ((F97_eq fuel _ kk).trans h)
  · cases h
def kp237 (i:Nat):Option (List Nat):=Ev.look i []
def Gg237 (f:Nat):Option Ev.Spec:=Ev.look f []
def G237 (fuel:Nat):Nat→Option Ev.Spec:=Gg237
def F_ref10_isSide (fuel:Nat) (a:Int) (k0:(Bool)→Option Ans):Option Ans:=bif decide (a≥(-200:Int)) then k0 (decide (a≤200)) else k0 false
abbrev YF237:Type:=Int→(Bool→Option Ans)→Option Ans
theorem F237_eq (fuel:Nat) (a:Int) (k:Ev.Cont):evalFn tab (G237 fuel) J0 kp237 fuel Tryz.f237 [.c (i6 a)] [] k=F_ref10_isSide fuel a (fun r=>match r with | b=>k (.c (.bool b),[])):=by
  kernel_rfl
theorem hG237 (fuel:Nat):GOK Tryz.prog (G237 fuel):=
  gok_nil
def spg237 (F:YF237):Ev.Spec:=fun args objs k=>match args,objs with | [.c (i6 a)],[]=>F a (fun r=>match r with | b=>k (.c (.bool b),[])) | _,_=>none
theorem ok237 (fuel:Nat):FnOK Tryz.prog 237 (spg237 (F_ref10_isSide fuel)):=by
  intro args objs kk r h
  unfold spg237 at h
  split at h
  · skip
    exact fo0 (hG237 fuel) Tryz.func237 rfl (by kernel_rfl) _ _ kk r ((F237_eq fuel _ kk).trans h)
  · cases h
def kp173 (i:Nat):Option (List Nat):=Ev.look i []
def Gg173 (b:YF97) (a:YF237) (f:Nat):Option Ev.Spec:=Ev.look f [(97,spg97 b),(237,spg237 a)]
def G173 (fuel:Nat):Nat→Option Ev.Spec:=Gg173 (F_ref10_isShift fuel) (F_ref10_isSide fuel)
def Fg_ref10_isItem (fuel:Nat) (b:YF97) (a:YF237) (r s:Int) (t:Bool) (u v w:Int) (n:Bool) (x o:Int) (e f g:Int) (h:Bool) (c d:Int) (i j:Int) (k:LI) (k0:(Bool)→OA):OA:=bif decide (e < 0) then k0 false else bif decide (e≥o) then k0 false else (b f (fun p=>bif !p then k0 false else (b g (fun q=>bif !q then k0 false else bif h then bif n then (a c (fun l=>bif l then (a d (fun m=>k0 m)) else k0 false)) else k0 false else bif c==0 then bif d==0 then bif i==0 then bif j==0 then k0 ((↑k.length:Int)==0) else k0 false else k0 false else k0 false else k0 false))))
abbrev YF173:Type:=Int→Int→Bool→Int→Int→Int→Bool→Int→Int→Int→Int→Int→Bool→Int→Int→Int→Int→LI→(Bool→Option Ans)→Option Ans
def F_ref10_isItem (fuel:Nat):YF173:=Fg_ref10_isItem fuel (F_ref10_isShift fuel) (F_ref10_isSide fuel)
theorem F173_eqg (fuel:Nat) (b:YF97) (a:YF237) (m n:Int) (o:Bool) (p q s:Int) (t:Bool) (u v:Int) (w d e:Int) (f:Bool) (g h:Int) (i j:Int) (l:LI) (k:Ev.Cont):evalFn tab (Gg173 b a) J0 kp173 fuel Tryz.f173 [.agg [i6 m,i6 n,.bool o,i6 p,i6 q,i6 s,.bool t,i6 u],.c (i6 v),.agg [i6 w,i6 d,i6 e,.bool f,i6 g,i6 h,i6 i,i6 j,.sl (.int .u8) l]] [] k=Fg_ref10_isItem fuel b a m n o p q s t u v w d e f g h i j l (fun r=>match r with | x=>k (.c (.bool x),[])):=by
  kernel_rfl
theorem hG173 (fuel:Nat):GOK Tryz.prog (G173 fuel):=
  gc (ok97 fuel) Tryz.func97 (by kernel_rfl) rfl <|
  gc (ok237 fuel) Tryz.func237 (by kernel_rfl) rfl <|
  gok_nil
def spg173 (F:YF173):Ev.Spec:=fun args objs k=>match args,objs with | [.agg [i6 j,i6 l,.bool m,i6 n,i6 o,i6 p,.bool q,i6 s],.c (i6 t),.agg [i6 u,i6 a,i6 b,.bool d,i6 e,i6 f,i6 g,i6 h,.sl (.int .u8) i]],[]=>F j l m n o p q s t u a b d e f g h i (fun r=>match r with | v=>k (.c (.bool v),[])) | _,_=>none
theorem ok173 (fuel:Nat):FnOK Tryz.prog 173 (spg173 (F_ref10_isItem fuel)):=by
  intro args objs kk r h
  unfold spg173 at h
  split at h
  · skip
    exact fo0 (hG173 fuel) Tryz.func173 rfl (by kernel_rfl) _ _ kk r ((F173_eqg fuel (F_ref10_isShift fuel) (F_ref10_isSide fuel) _ _ _ _ _ _ _ _ _ _ _ _ _ _ _ _ _ _ kk).trans h)
  · cases h
def kp82 (i:Nat):Option (List Nat):=Ev.look i [(4,[1,2,3,4,5,20,21,22]),(9,[1,2,3,4,5,32,33,34]),(18,[4,5,60,61,62]),(100000,[1,2,3,4,5]),(100002,[1,2,3,4,5]),(100004,[]),(400000,[10]),(400002,[10]),(400004,[10])]
def Gg82 (b:YF32) (c:YF39) (a:YF173) (f:Nat):Option Ev.Spec:=Ev.look f [(32,spg32 b),(39,spg39 c),(173,spg173 a)]
def G82 (fuel:Nat):Nat→Option Ev.Spec:=Gg82 (F_ref10_Valid fuel) (F_ref10_IsShape fuel) (F_ref10_isItem fuel)
abbrev V_ref10_asked_0:Type:=(List (Int×(Int×LI)))×(List (Int×(Int×(Int×(Bool×(Int×(Int×(Int×(Int×LI)))))))))×Bool×Int×(List (Int×(Int×LI)))×Int×Int×Int×Int×Bool×Int×Int×Int×Bool×Int
abbrev W_ref10_asked_0:Type:=((List (Int×(Int×LI)))×(List (Int×(Int×(Int×(Bool×(Int×(Int×(Int×(Int×LI)))))))))×Bool×Int×Int×Int×Bool×Int×Int×Int×Bool×Int→OA)
def Sg_ref10_asked_0 (fuel:Nat) (u:YF32) (r:YF39) (t:YF173) (j:(List (Int×(Int×LI)))) (k:(List (Int×(Int×(Int×(Bool×(Int×(Int×(Int×(Int×LI)))))))))) (q:Bool) (l:Int) (d:(List (Int×(Int×LI)))) (m a:Int) (n o:Int) (p:Bool) (e f g:Int) (h:Bool) (i:Int) (c:V_ref10_asked_0→OA) (B:W_ref10_asked_0):OA:=match B with | b=>bif decide (a < m) then bif decide (0≤a∧a < (↑d.length:Int)) then bif q then (r ((d.getD a.toNat (0,0,[])).fst) ((d.getD a.toNat (0,0,[])).snd.fst) ((d.getD a.toNat (0,0,[])).snd.snd) (fun s=>c (j,k,s,l,d,m,i64.wrap (a+1),n,o,p,e,f,g,h,i))) else c (j,k,false,l,d,m,i64.wrap (a+1),n,o,p,e,f,g,h,i) else none else b (j,k,q,l,n,o,p,e,f,g,h,i)
def S_ref10_asked_0 (fuel:Nat) (v:(List (Int×(Int×(List Int))))×(List (Int×(Int×(Int×(Bool×(Int×(Int×(Int×(Int×(List Int))))))))))×Bool×Int×(List (Int×(Int×(List Int))))×Int×Int×Int×Int×Bool×Int×Int×Int×Bool×Int) (c:((List (Int×(Int×(List Int))))×(List (Int×(Int×(Int×(Bool×(Int×(Int×(Int×(Int×(List Int))))))))))×Bool×Int×(List (Int×(Int×(List Int))))×Int×Int×Int×Int×Bool×Int×Int×Int×Bool×Int)→Option Ans) (B:((List (Int×(Int×(List Int))))×(List (Int×(Int×(Int×(Bool×(Int×(Int×(Int×(Int×(List Int))))))))))×Bool×Int×Int×Int×Bool×Int×Int×Int×Bool×Int→Option Ans)):Option Ans:=match v with | (g,h,i,j,k,l,m,n,o,p,a,b,d,e,f)=>Sg_ref10_asked_0 fuel (F_ref10_Valid fuel) (F_ref10_IsShape fuel) (F_ref10_isItem fuel) g h i j k l m n o p a b d e f c B
def L_ref10_asked_0 (fuel:Nat) (v:V_ref10_asked_0) (b:W_ref10_asked_0):Option Ans:=iter (S_ref10_asked_0 fuel) fuel v b
def T82_0 (v:V_ref10_asked_0):Ev.St:=match v with | (g,h,i,j,k,l,m,n,o,p,a,b,d,e,f)=>⟨[(1,.c (.sl (.pair (.int .i64) (.pair (.int .i64) (.sl (.int .u8)))) g)),(2,.c (.sl (.pair (.int .i64) (.pair (.int .i64) (.pair (.int .i64) (.pair .bool (.pair (.int .i64) (.pair (.int .i64) (.pair (.int .i64) (.pair (.int .i64) (.sl (.int .u8)))))))))) h)),(3,.c (.bool i)),(4,.c (i6 j)),(5,.c (.ptr 0 0)),(20,.c (.sl (.pair (.int .i64) (.pair (.int .i64) (.sl (.int .u8)))) k)),(21,.c (i6 l)),(22,.c (i6 m))],[(0,.cells 40 [i6 n,i6 o,.bool p,i6 a,i6 b,i6 d,.bool e,i6 f])],1,0⟩
def E82_0 (K:KT):W_ref10_asked_0:=(fun v=>match v with | (d,e,f,g,h,i,j,k,l,m,a,b)=>K .normal ⟨[(1,.c (.sl (.pair (.int .i64) (.pair (.int .i64) (.sl (.int .u8)))) d)),(2,.c (.sl (.pair (.int .i64) (.pair (.int .i64) (.pair (.int .i64) (.pair .bool (.pair (.int .i64) (.pair (.int .i64) (.pair (.int .i64) (.pair (.int .i64) (.sl (.int .u8)))))))))) e)),(3,.c (.bool f)),(4,.c (i6 g)),(5,.c (.ptr 0 0))],[(0,.cells 40 [i6 h,i6 i,.bool j,i6 k,i6 l,i6 m,.bool a,i6 b])],1,0⟩)
theorem S82_0_okg (fuel:Nat) (b:YF32) (c:YF39) (a:YF173) (R:Ev.St→OA) (K:KT) (i:(List (Int×(Int×LI)))) (j:(List (Int×(Int×(Int×(Bool×(Int×(Int×(Int×(Int×LI)))))))))) (k:Bool) (l:Int) (m:(List (Int×(Int×LI)))) (n o:Int) (p q:Int) (r:Bool) (d e f:Int) (g:Bool) (h:Int):evalCode tab (Gg82 b c a) J0 kp82 fuel (bodyOf 0 Tryz.f82) (T82_0 (i,j,k,l,m,n,o,p,q,r,d,e,f,g,h)) (lc kp82 4 0 R K)=Sg_ref10_asked_0 fuel b c a i j k l m n o p q r d e f g h (fun v=>R (T82_0 v)) (E82_0 K):=by
  kernel_rfl
def B82_0 (fuel:Nat):Ev.Blk:=fun st K=>match canonO (kp82 4) st with | some s=>(match s with | ⟨[(k,.c (.sl (.pair (.int .i64) (.pair (.int .i64) (.sl (.int .u8)))) l)),(m,.c (.sl (.pair (.int .i64) (.pair (.int .i64) (.pair (.int .i64) (.pair .bool (.pair (.int .i64) (.pair (.int .i64) (.pair (.int .i64) (.pair (.int .i64) (.sl (.int .u8)))))))))) n)),(o,.c (.bool p)),(q,.c (i6 r)),(t,.c (.ptr u v)),(w,.c (.sl (.pair (.int .i64) (.pair (.int .i64) (.sl (.int .u8)))) x)),(y,.c (i6 z)),(A,.c (i6 B))],[(a,.cells b [i6 C,i6 D,.bool E,i6 d,i6 e,i6 f,.bool g,i6 h])],i,j⟩=>bif qb [k,m,o,q,t,u,v,w,y,A,a,b,i,j] [1,2,3,4,5,0,0,20,21,22,0,40,1,0] then iter (S_ref10_asked_0 fuel) fuel (l,n,p,r,x,z,B,C,D,E,d,e,f,g,h) (E82_0 K) else none | _=>none) | none=>none
theorem B82_0_ok (fuel:Nat) (st:Ev.St) (K:KT) (r:Ans) (h:B82_0 fuel st K=some r):evalCode tab (G82 fuel) J0 kp82 fuel (.block 0 (.loop (bodyOf 0 Tryz.f82))) st K=some r:=by
  unfold B82_0 at h
  split at h
  · rename_i s hs
    split at h
    · skip
      obtain ⟨hb,h⟩:=cond_some' h
      cases qb_eq hb
      exact blk_loop (S:=T82_0) (ks:=E82_0) (step:=S_ref10_asked_0 fuel) (v:=(_,_,_,_,_,_,_,_,_,_,_,_,_,_,_)) (by kernel_rfl) (by kernel_rfl) (fun R K v=>by obtain ⟨f,g,i,j,k,l,m,n,o,p,a,b,c,d,e⟩:=v; exact S82_0_okg fuel (F_ref10_Valid fuel) (F_ref10_IsShape fuel) (F_ref10_isItem fuel) R K f g i j k l m n o p a b c d e) hs h
    · cases h
  · cases h
abbrev V_ref10_asked_2:Type:=(List (Int×(Int×LI)))×(List (Int×(Int×(Int×(Bool×(Int×(Int×(Int×(Int×LI)))))))))×Bool×Int×(List (Int×(Int×(Int×(Bool×(Int×(Int×(Int×(Int×LI)))))))))×Int×Int×Int×Int×Bool×Int×Int×Int×Bool×Int
abbrev W_ref10_asked_2:Type:=((List (Int×(Int×LI)))×(List (Int×(Int×(Int×(Bool×(Int×(Int×(Int×(Int×LI)))))))))×Bool×Int×Int×Int×Bool×Int×Int×Int×Bool×Int→OA)
def Sg_ref10_asked_2 (fuel:Nat) (u:YF32) (r:YF39) (t:YF173) (j:(List (Int×(Int×LI)))) (k:(List (Int×(Int×(Int×(Bool×(Int×(Int×(Int×(Int×LI)))))))))) (q:Bool) (l:Int) (d:(List (Int×(Int×(Int×(Bool×(Int×(Int×(Int×(Int×LI)))))))))) (m a:Int) (n o:Int) (p:Bool) (e f g:Int) (h:Bool) (i:Int) (c:V_ref10_asked_2→OA) (B:W_ref10_asked_2):OA:=match B with | b=>bif decide (a < m) then bif decide (0≤a∧a < (↑d.length:Int)) then bif q then bif !(d.getD a.toNat (0,0,0,false,0,0,0,0,[])).snd.snd.snd.fst then c (j,k,true,l,d,m,i64.wrap (a+1),n,o,p,e,f,g,h,i) else (r ((d.getD a.toNat (0,0,0,false,0,0,0,0,[])).snd.snd.snd.snd.snd.snd.fst) ((d.getD a.toNat (0,0,0,false,0,0,0,0,[])).snd.snd.snd.snd.snd.snd.snd.fst) ((d.getD a.toNat (0,0,0,false,0,0,0,0,[])).snd.snd.snd.snd.snd.snd.snd.snd) (fun s=>c (j,k,s,l,d,m,i64.wrap (a+1),n,o,p,e,f,g,h,i))) else c (j,k,false,l,d,m,i64.wrap (a+1),n,o,p,e,f,g,h,i) else none else b (j,k,q,l,n,o,p,e,f,g,h,i)
def S_ref10_asked_2 (fuel:Nat) (v:(List (Int×(Int×(List Int))))×(List (Int×(Int×(Int×(Bool×(Int×(Int×(Int×(Int×(List Int))))))))))×Bool×Int×(List (Int×(Int×(Int×(Bool×(Int×(Int×(Int×(Int×(List Int))))))))))×Int×Int×Int×Int×Bool×Int×Int×Int×Bool×Int) (c:((List (Int×(Int×(List Int))))×(List (Int×(Int×(Int×(Bool×(Int×(Int×(Int×(Int×(List Int))))))))))×Bool×Int×(List (Int×(Int×(Int×(Bool×(Int×(Int×(Int×(Int×(List Int))))))))))×Int×Int×Int×Int×Bool×Int×Int×Int×Bool×Int)→Option Ans) (B:((List (Int×(Int×(List Int))))×(List (Int×(Int×(Int×(Bool×(Int×(Int×(Int×(Int×(List Int))))))))))×Bool×Int×Int×Int×Bool×Int×Int×Int×Bool×Int→Option Ans)):Option Ans:=match v with | (g,h,i,j,k,l,m,n,o,p,a,b,d,e,f)=>Sg_ref10_asked_2 fuel (F_ref10_Valid fuel) (F_ref10_IsShape fuel) (F_ref10_isItem fuel) g h i j k l m n o p a b d e f c B
def L_ref10_asked_2 (fuel:Nat) (v:V_ref10_asked_2) (b:W_ref10_asked_2):Option Ans:=iter (S_ref10_asked_2 fuel) fuel v b
def J82_2 (fuel:Nat) (i:Nat):Option Ev.Blk:=Ev.look i [(100000,B82_0 fuel)]
def T82_2 (v:V_ref10_asked_2):Ev.St:=match v with | (g,h,i,j,k,l,m,n,o,p,a,b,d,e,f)=>⟨[(1,.c (.sl (.pair (.int .i64) (.pair (.int .i64) (.sl (.int .u8)))) g)),(2,.c (.sl (.pair (.int .i64) (.pair (.int .i64) (.pair (.int .i64) (.pair .bool (.pair (.int .i64) (.pair (.int .i64) (.pair (.int .i64) (.pair (.int .i64) (.sl (.int .u8)))))))))) h)),(3,.c (.bool i)),(4,.c (i6 j)),(5,.c (.ptr 0 0)),(32,.c (.sl (.pair (.int .i64) (.pair (.int .i64) (.pair (.int .i64) (.pair .bool (.pair (.int .i64) (.pair (.int .i64) (.pair (.int .i64) (.pair (.int .i64) (.sl (.int .u8)))))))))) k)),(33,.c (i6 l)),(34,.c (i6 m))],[(0,.cells 40 [i6 n,i6 o,.bool p,i6 a,i6 b,i6 d,.bool e,i6 f])],1,0⟩
def E82_2 (K:KT):W_ref10_asked_2:=(fun v=>match v with | (d,e,f,g,h,i,j,k,l,m,a,b)=>K .normal ⟨[(1,.c (.sl (.pair (.int .i64) (.pair (.int .i64) (.sl (.int .u8)))) d)),(2,.c (.sl (.pair (.int .i64) (.pair (.int .i64) (.pair (.int .i64) (.pair .bool (.pair (.int .i64) (.pair (.int .i64) (.pair (.int .i64) (.pair (.int .i64) (.sl (.int .u8)))))))))) e)),(3,.c (.bool f)),(4,.c (i6 g)),(5,.c (.ptr 0 0))],[(0,.cells 40 [i6 h,i6 i,.bool j,i6 k,i6 l,i6 m,.bool a,i6 b])],1,0⟩)
theorem S82_2_okg (fuel:Nat) (b:YF32) (c:YF39) (a:YF173) (R:Ev.St→OA) (K:KT) (i:(List (Int×(Int×LI)))) (j:(List (Int×(Int×(Int×(Bool×(Int×(Int×(Int×(Int×LI)))))))))) (k:Bool) (l:Int) (m:(List (Int×(Int×(Int×(Bool×(Int×(Int×(Int×(Int×LI)))))))))) (n o:Int) (p q:Int) (r:Bool) (d e f:Int) (g:Bool) (h:Int):evalCode tab (Gg82 b c a) (J82_2 fuel) kp82 fuel (bodyOf 2 Tryz.f82) (T82_2 (i,j,k,l,m,n,o,p,q,r,d,e,f,g,h)) (lc kp82 9 2 R K)=Sg_ref10_asked_2 fuel b c a i j k l m n o p q r d e f g h (fun v=>R (T82_2 v)) (E82_2 K):=by
  kernel_rfl
def B82_2 (fuel:Nat):Ev.Blk:=fun st K=>match canonO (kp82 9) st with | some s=>(match s with | ⟨[(k,.c (.sl (.pair (.int .i64) (.pair (.int .i64) (.sl (.int .u8)))) l)),(m,.c (.sl (.pair (.int .i64) (.pair (.int .i64) (.pair (.int .i64) (.pair .bool (.pair (.int .i64) (.pair (.int .i64) (.pair (.int .i64) (.pair (.int .i64) (.sl (.int .u8)))))))))) n)),(o,.c (.bool p)),(q,.c (i6 r)),(t,.c (.ptr u v)),(w,.c (.sl (.pair (.int .i64) (.pair (.int .i64) (.pair (.int .i64) (.pair .bool (.pair (.int .i64) (.pair (.int .i64) (.pair (.int .i64) (.pair (.int .i64) (.sl (.int .u8)))))))))) x)),(y,.c (i6 z)),(A,.c (i6 B))],[(a,.cells b [i6 C,i6 D,.bool E,i6 d,i6 e,i6 f,.bool g,i6 h])],i,j⟩=>bif qb [k,m,o,q,t,u,v,w,y,A,a,b,i,j] [1,2,3,4,5,0,0,32,33,34,0,40,1,0] then iter (S_ref10_asked_2 fuel) fuel (l,n,p,r,x,z,B,C,D,E,d,e,f,g,h) (E82_2 K) else none | _=>none) | none=>none
theorem B82_2_ok (fuel:Nat) (st:Ev.St) (K:KT) (r:Ans) (h:B82_2 fuel st K=some r):evalCode tab (G82 fuel) (J82_2 fuel) kp82 fuel (.block 2 (.loop (bodyOf 2 Tryz.f82))) st K=some r:=by
  unfold B82_2 at h
  split at h
  · rename_i s hs
    split at h
    · skip
      obtain ⟨hb,h⟩:=cond_some' h
      cases qb_eq hb
      exact blk_loop (S:=T82_2) (ks:=E82_2) (step:=S_ref10_asked_2 fuel) (v:=(_,_,_,_,_,_,_,_,_,_,_,_,_,_,_)) (by kernel_rfl) (by kernel_rfl) (fun R K v=>by obtain ⟨f,g,i,j,k,l,m,n,o,p,a,b,c,d,e⟩:=v; exact S82_2_okg fuel (F_ref10_Valid fuel) (F_ref10_IsShape fuel) (F_ref10_isItem fuel) R K f g i j k l m n o p a b c d e) hs h
    · cases h
  · cases h
abbrev V_ref10_asked_4:Type:=Int×(List (Int×(Int×(Int×(Bool×(Int×(Int×(Int×(Int×LI)))))))))×Int×Int×Int×Int×Bool×Int×Int×Int×Bool×Int
abbrev W_ref10_asked_4:Type:=(Int→OA)×(Unit→OA)
def Sg_ref10_asked_4 (fuel:Nat) (q:YF32) (r:YF39) (o:YF173) (g:Int) (d:(List (Int×(Int×(Int×(Bool×(Int×(Int×(Int×(Int×LI)))))))))) (h a:Int) (i j:Int) (k:Bool) (l m n:Int) (e:Bool) (f:Int) (c:V_ref10_asked_4→OA) (B:W_ref10_asked_4):OA:=match B with | (ret,b)=>bif decide (a < h) then bif decide (0≤a∧a < (↑d.length:Int)) then (o i j k l m n e f g ((d.getD a.toNat (0,0,0,false,0,0,0,0,[])).fst) ((d.getD a.toNat (0,0,0,false,0,0,0,0,[])).snd.fst) ((d.getD a.toNat (0,0,0,false,0,0,0,0,[])).snd.snd.fst) ((d.getD a.toNat (0,0,0,false,0,0,0,0,[])).snd.snd.snd.fst) ((d.getD a.toNat (0,0,0,false,0,0,0,0,[])).snd.snd.snd.snd.fst) ((d.getD a.toNat (0,0,0,false,0,0,0,0,[])).snd.snd.snd.snd.snd.fst) ((d.getD a.toNat (0,0,0,false,0,0,0,0,[])).snd.snd.snd.snd.snd.snd.fst) ((d.getD a.toNat (0,0,0,false,0,0,0,0,[])).snd.snd.snd.snd.snd.snd.snd.fst) ((d.getD a.toNat (0,0,0,false,0,0,0,0,[])).snd.snd.snd.snd.snd.snd.snd.snd) (fun p=>bif !p then ret (2) else c (g,d,h,i64.wrap (a+1),i,j,k,l,m,n,e,f))) else none else b ()
def S_ref10_asked_4 (fuel:Nat) (v:Int×(List (Int×(Int×(Int×(Bool×(Int×(Int×(Int×(Int×(List Int))))))))))×Int×Int×Int×Int×Bool×Int×Int×Int×Bool×Int) (c:(Int×(List (Int×(Int×(Int×(Bool×(Int×(Int×(Int×(Int×(List Int))))))))))×Int×Int×Int×Int×Bool×Int×Int×Int×Bool×Int)→Option Ans) (B:(Int→Option Ans)×(Unit→Option Ans)):Option Ans:=match v with | (d,e,f,g,h,i,j,k,l,m,a,b)=>Sg_ref10_asked_4 fuel (F_ref10_Valid fuel) (F_ref10_IsShape fuel) (F_ref10_isItem fuel) d e f g h i j k l m a b c B
def L_ref10_asked_4 (fuel:Nat) (v:V_ref10_asked_4) (ret:(Int→Option Ans)) (b:(Unit→Option Ans)):Option Ans:=iter (S_ref10_asked_4 fuel) fuel v (ret,b)
def J82_4 (fuel:Nat) (i:Nat):Option Ev.Blk:=Ev.look i [(100000,B82_0 fuel),(100002,B82_2 fuel)]
def T82_4 (v:V_ref10_asked_4):Ev.St:=match v with | (d,e,f,g,h,i,j,k,l,m,a,b)=>⟨[(4,.c (i6 d)),(5,.c (.ptr 0 0)),(60,.c (.sl (.pair (.int .i64) (.pair (.int .i64) (.pair (.int .i64) (.pair .bool (.pair (.int .i64) (.pair (.int .i64) (.pair (.int .i64) (.pair (.int .i64) (.sl (.int .u8)))))))))) e)),(61,.c (i6 f)),(62,.c (i6 g))],[(0,.cells 40 [i6 h,i6 i,.bool j,i6 k,i6 l,i6 m,.bool a,i6 b])],1,0⟩
def E82_4 (K:KT):W_ref10_asked_4:=((fun v=>match v with | a=>K .ret ⟨[(10,.c (i6 a))],[],0,0⟩),(fun v=>match v with | ()=>K .normal ⟨[],[],0,0⟩))
theorem S82_4_okg (fuel:Nat) (b:YF32) (c:YF39) (a:YF173) (R:Ev.St→OA) (K:KT) (f:Int) (g:(List (Int×(Int×(Int×(Bool×(Int×(Int×(Int×(Int×LI)))))))))) (h i:Int) (j k:Int) (l:Bool) (m n o:Int) (d:Bool) (e:Int):evalCode tab (Gg82 b c a) (J82_4 fuel) kp82 fuel (bodyOf 4 Tryz.f82) (T82_4 (f,g,h,i,j,k,l,m,n,o,d,e)) (lc kp82 18 4 R K)=Sg_ref10_asked_4 fuel b c a f g h i j k l m n o d e (fun v=>R (T82_4 v)) (E82_4 K):=by
  kernel_rfl
def B82_4 (fuel:Nat):Ev.Blk:=fun st K=>match canonO (kp82 18) st with | some s=>(match s with | ⟨[(e,.c (i6 f)),(g,.c (.ptr h i)),(j,.c (.sl (.pair (.int .i64) (.pair (.int .i64) (.pair (.int .i64) (.pair .bool (.pair (.int .i64) (.pair (.int .i64) (.pair (.int .i64) (.pair (.int .i64) (.sl (.int .u8)))))))))) k)),(l,.c (i6 m)),(n,.c (i6 o))],[(p,.cells q [i6 r,i6 t,.bool u,i6 v,i6 w,i6 x,.bool a,i6 b])],y,d⟩=>bif qb [e,g,h,i,j,l,n,p,q,y,d] [4,5,0,0,60,61,62,0,40,1,0] then iter (S_ref10_asked_4 fuel) fuel (f,k,m,o,r,t,u,v,w,x,a,b) (E82_4 K) else none | _=>none) | none=>none
theorem B82_4_ok (fuel:Nat) (st:Ev.St) (K:KT) (r:Ans) (h:B82_4 fuel st K=some r):evalCode tab (G82 fuel) (J82_4 fuel) kp82 fuel (.block 4 (.loop (bodyOf 4 Tryz.f82))) st K=some r:=by
  unfold B82_4 at h
  split at h
  · rename_i s hs
    split at h
    · skip
      obtain ⟨hb,h⟩:=cond_some' h
      cases qb_eq hb
      exact blk_loop (S:=T82_4) (ks:=E82_4) (step:=S_ref10_asked_4 fuel) (v:=(_,_,_,_,_,_,_,_,_,_,_,_)) (by kernel_rfl) (by kernel_rfl) (fun R K v=>by obtain ⟨c,d,e,f,g,i,j,k,l,m,a,b⟩:=v; exact S82_4_okg fuel (F_ref10_Valid fuel) (F_ref10_IsShape fuel) (F_ref10_isItem fuel) R K c d e f g i j k l m a b) hs h
    · cases h
  · cases h
def J82 (fuel:Nat) (i:Nat):Option Ev.Blk:=Ev.look i [(100000,B82_0 fuel),(100002,B82_2 fuel),(100004,B82_4 fuel)]
def Fg_ref10_asked (fuel:Nat) (H:YF32) (N:YF39) (M:YF173) (d e:Int) (f:Bool) (g h i:Int) (j:Bool) (k:Int) (c:(List (Int×Int×LI))) (K:(List (Int×Int×Int×Bool×Int×Int×(Int×Int×LI)))) (I:Bool) (J:Int) (k0:(Int)→OA):OA:=(H d e f g h i j k (fun L=>bif !L then k0 (2) else (L_ref10_asked_0 fuel (c,K,I,J,c,(↑c.length:Int),0,d,e,f,g,h,i,j,k) (fun (p,a,q,r,s,t,u,v,w,x,l,m)=>(L_ref10_asked_2 fuel (p,a,q,r,a,(↑a.length:Int),0,s,t,u,v,w,x,l,m) (fun (y,b,z,A,B,C,D,E,F,G,n,o)=>bif !z then k0 (30) else bif decide ((↑y.length:Int) > 60) then k0 (2) else bif decide ((↑b.length:Int) > 300) then k0 (2) else (L_ref10_asked_4 fuel (A,b,(↑b.length:Int),0,B,C,D,E,F,G,n,o) (fun ret4_0=>k0 ret4_0) (fun ()=>k0 (0)))))))))
abbrev YF82:Type:=Int→Int→Bool→Int→Int→Int→Bool→Int→((List (Int×Int×LI)))→((List (Int×Int×Int×Bool×Int×Int×(Int×Int×LI))))→Bool→Int→(Int→Option Ans)→Option Ans
def F_ref10_asked (fuel:Nat):YF82:=Fg_ref10_asked fuel (F_ref10_Valid fuel) (F_ref10_IsShape fuel) (F_ref10_isItem fuel)
theorem F82_eqg (fuel:Nat) (b:YF32) (d:YF39) (a:YF173) (g h:Int) (i:Bool) (j l m:Int) (n:Bool) (o:Int) (p:(List (Int×Int×LI))) (q:(List (Int×Int×Int×Bool×Int×Int×(Int×Int×LI)))) (e:Bool) (f:Int) (k:Ev.Cont):evalFn tab (Gg82 b d a) (J82 fuel) kp82 fuel Tryz.f82 [.agg [i6 g,i6 h,.bool i,i6 j,i6 l,i6 m,.bool n,i6 o],.c (.sl (.pair (.int .i64) (.pair (.int .i64) (.sl (.int .u8)))) p),.c (.sl (.pair (.int .i64) (.pair (.int .i64) (.pair (.int .i64) (.pair .bool (.pair (.int .i64) (.pair (.int .i64) (.pair (.int .i64) (.pair (.int .i64) (.sl (.int .u8)))))))))) q),.c (.bool e),.c (i6 f)] [] k=Fg_ref10_asked fuel b d a g h i j l m n o p q e f (fun r=>match r with | s=>k (.c (i6 s),[])):=by
  kernel_rfl
theorem hG82 (fuel:Nat):GOK Tryz.prog (G82 fuel):=
  gc (ok32 fuel) Tryz.func32 (by kernel_rfl) rfl <|
  gc (ok39 fuel) Tryz.func39 (by kernel_rfl) rfl <|
  gc (ok173 fuel) Tryz.func173 (by kernel_rfl) rfl <|
  gok_nil
theorem B82_0_blk (fuel:Nat):BlkOK Tryz.prog Tryz.f82.ntmps (.block 0 (.loop (bodyOf 0 Tryz.f82))) (B82_0 fuel):=bo0 (hG82 fuel) (by kernel_rfl) (by kernel_rfl) (B82_0_ok fuel)
theorem B82_2_blk (fuel:Nat):BlkOK Tryz.prog Tryz.f82.ntmps (.block 2 (.loop (bodyOf 2 Tryz.f82))) (B82_2 fuel):=bo0 (hG82 fuel) (by kernel_rfl) (by kernel_rfl) (B82_2_ok fuel)
theorem B82_4_blk (fuel:Nat):BlkOK Tryz.prog Tryz.f82.ntmps (.block 4 (.loop (bodyOf 4 Tryz.f82))) (B82_4 fuel):=bo0 (hG82 fuel) (by kernel_rfl) (by kernel_rfl) (B82_4_ok fuel)
theorem fok82 (fuel:Nat):FnOK Tryz.prog 82 (evalFn tab (G82 fuel) (J82 fuel) kp82 fuel Tryz.f82):=
  fn_ok tab_ok (hG82 fuel) mixed Tryz.func82 (c:=(Tryz.f82.body).getD .skip) rfl (fun q hq=>by
    rw [(by kernel_rfl:obl (J82 fuel) ((Tryz.f82.body).getD .skip)= [(.block 0 (.loop (bodyOf 0 Tryz.f82)),B82_0 fuel),(.block 2 (.loop (bodyOf 2 Tryz.f82)),B82_2 fuel),(.block 4 (.loop (bodyOf 4 Tryz.f82)),B82_4 fuel)])] at hq
    simp only [List.mem_cons,List.not_mem_nil,or_false] at hq
    rcases hq with rfl | rfl | rfl
    · exact B82_0_blk fuel
    · exact B82_2_blk fuel
    · exact B82_4_blk fuel)
def spg82 (F:YF82):Ev.Spec:=fun args objs k=>match args,objs with | [.agg [i6 d,i6 e,.bool f,i6 g,i6 h,i6 i,.bool j,i6 l],.c (.sl (.pair (.int .i64) (.pair (.int .i64) (.sl (.int .u8)))) m),.c (.sl (.pair (.int .i64) (.pair (.int .i64) (.pair (.int .i64) (.pair .bool (.pair (.int .i64) (.pair (.int .i64) (.pair (.int .i64) (.pair (.int .i64) (.sl (.int .u8)))))))))) n),.c (.bool a),.c (i6 b)],[]=>F d e f g h i j l m n a b (fun r=>match r with | o=>k (.c (i6 o),[])) | _,_=>none
theorem ok82 (fuel:Nat):FnOK Tryz.prog 82 (spg82 (F_ref10_asked fuel)):=by
  intro args objs kk r h
  unfold spg82 at h
  split at h
  · skip
    exact fok82 fuel _ _ kk r ((F82_eqg fuel (F_ref10_Valid fuel) (F_ref10_IsShape fuel) (F_ref10_isItem fuel) _ _ _ _ _ _ _ _ _ _ _ _ kk).trans h)
  · cases h
def kp86_e89 (i:Nat):Option (List Nat):=Ev.look i []
def Gg86_e89 (a:YF85_9ac) (f:Nat):Option Ev.Spec:=Ev.look f [(85,spg85_9ac a)]
def G86_e89 (fuel:Nat):Nat→Option Ev.Spec:=Gg86_e89 (F_ref03_Put_9ac fuel)
def Fg_ref10_put_e89 (fuel:Nat) (a:YF85_9ac) (g h:Int) (i j k:Int) (l m:LI) (k0:(Int×Int×Int×LI×LI)→OA):OA:=(a g (false) h i j k l m (fun (n,b,c,d,e,f)=>k0 (b,c,d,e,f)))
abbrev YF86_e89:Type:=Int→Int→Int→Int→Int→LI→LI→((Int×Int×Int×LI×LI)→Option Ans)→Option Ans
def F_ref10_put_e89 (fuel:Nat):YF86_e89:=Fg_ref10_put_e89 fuel (F_ref03_Put_9ac fuel)
theorem F86_e89_eqg (fuel:Nat) (a:YF85_9ac) (b d:Int) (e f g:Int) (h i:LI) (k:Ev.Cont):evalFn tab (Gg86_e89 a) J0 kp86_e89 fuel Tryz.f86 [.c (.ptr 0 0),.c (i6 b),.c (i6 d)] [.cells 187 [i6 e,.own 1,.int .u64 f,.int .u64 g,.own 2],.vec 3 (.int .i64) h false,.vec 5 (.int .u8) i false] k=Fg_ref10_put_e89 fuel a b d e f g h i (fun r=>match r with | (j,l,m,n,o)=>k (.tup [],[.cells 187 [i6 j,.own 1,.int .u64 l,.int .u64 m,.own 2],.vec 3 (.int .i64) n false,.vec 5 (.int .u8) o true])):=by
  kernel_rfl
theorem hG86_e89 (fuel:Nat):GOK Tryz.prog (G86_e89 fuel):=
  gc (ok85_9ac fuel) Tryz.func85 (by kernel_rfl) rfl <|
  gok_nil
def spg86_e89 (F:YF86_e89):Ev.Spec:=fun args objs k=>match args,objs with | [.c (.ptr a b),.c (i6 d),.c (i6 e)],[.cells f [i6 g,.own h,.int .u64 i,.int .u64 j,.own l],.vec m (.int .i64) n false,.vec o (.int .u8) p false]=>bif qb [a,b,f,h,l,m,o] [0,0,187,1,2,3,5] then F d e g i j n p (fun r=>match r with | (q,s,t,u,v)=>k (.tup [],[.cells 187 [i6 q,.own 1,.int .u64 s,.int .u64 t,.own 2],.vec 3 (.int .i64) u false,.vec 5 (.int .u8) v true])) else none | _,_=>none
theorem ok86_e89 (fuel:Nat):FnOK Tryz.prog 86 (spg86_e89 (F_ref10_put_e89 fuel)):=by
  intro args objs kk r h
  unfold spg86_e89 at h
  split at h
  · skip
    obtain ⟨hb,h⟩:=cond_some' h
    cases qb_eq hb
    exact fo0 (hG86_e89 fuel) Tryz.func86 rfl (by kernel_rfl) _ _ kk r ((F86_e89_eqg fuel (F_ref03_Put_9ac fuel) _ _ _ _ _ _ _ kk).trans h)
  · cases h
def kp90 (i:Nat):Option (List Nat):=Ev.look i []
def Gg90 (f:Nat):Option Ev.Spec:=Ev.look f []
def G90 (fuel:Nat):Nat→Option Ev.Spec:=Gg90
def F_ref10_refine (fuel:Nat) (e f:Int) (g:Bool) (h i a:Int) (j:Bool) (b c d:Int) (k0:(Int×Int×Int×Bool×Int)→Option Ans):Option Ans:=k0 (b,c,d,false,a)
abbrev YF90:Type:=Int→Int→Bool→Int→Int→Int→Bool→Int→Int→Int→((Int×Int×Int×Bool×Int)→Option Ans)→Option Ans
theorem F90_eq (fuel:Nat) (a b:Int) (d:Bool) (e f g:Int) (h:Bool) (i j l:Int) (k:Ev.Cont):evalFn tab (G90 fuel) J0 kp90 fuel Tryz.f90 [.agg [i6 a,i6 b,.bool d,i6 e,i6 f,i6 g,.bool h,i6 i],.c (i6 j),.c (i6 l)] [] k=F_ref10_refine fuel a b d e f g h i j l (fun r=>match r with | (m,n,o,p,q)=>k (.agg [i6 m,i6 n,i6 o,.bool p,i6 q],[])):=by
  kernel_rfl
theorem hG90 (fuel:Nat):GOK Tryz.prog (G90 fuel):=
  gok_nil
def spg90 (F:YF90):Ev.Spec:=fun args objs k=>match args,objs with | [.agg [i6 a,i6 b,.bool d,i6 e,i6 f,i6 g,.bool h,i6 i],.c (i6 j),.c (i6 l)],[]=>F a b d e f g h i j l (fun r=>match r with | (m,n,o,p,q)=>k (.agg [i6 m,i6 n,i6 o,.bool p,i6 q],[])) | _,_=>none
theorem ok90 (fuel:Nat):FnOK Tryz.prog 90 (spg90 (F_ref10_refine fuel)):=by
  intro args objs kk r h
  unfold spg90 at h
  split at h
  · skip
    exact fo0 (hG90 fuel) Tryz.func90 rfl (by kernel_rfl) _ _ kk r ((F90_eq fuel _ _ _ _ _ _ _ _ _ _ kk).trans h)
  · cases h
end
end Go.Proofs.YtipdidpalcmlhaaGreat

