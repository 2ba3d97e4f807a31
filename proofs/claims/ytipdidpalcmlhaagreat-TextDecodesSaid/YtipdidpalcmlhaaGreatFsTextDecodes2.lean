/- What the functions that TextDecodes reaches do: their typed texts, each with the proof that the machine does it. No condition. -/
import Derived.Test.YtipdidpalcmlhaaGreatEvX
import Derived.Test.YtipdidpalcmlhaaGreatFsTextDecodes1
set_option linter.unusedVariables false
set_option linter.unusedSimpArgs false
set_option linter.unusedSectionVars false
set_option linter.unusedVariables false
set_option linter.unusedSimpArgs false
set_option maxRecDepth 100000
set_option maxHeartbeats 2000000
namespace Go.Proofs.YtipdidpalcmlhaaGreat
open Go Ev
open Go.IntKind (i64 u64 u8 i32 u32 u16)
noncomputable section
def kp208_546 (i:Nat):Option (List Nat):=Ev.look i [(200003,[0])]
def Gg208_546 (a:YF246) (f:Nat):Option Ev.Spec:=Ev.look f [(246,spg246 a)]
def G208_546 (fuel:Nat):Nat→Option Ev.Spec:=Gg208_546 (F_coder_next fuel)
def Fg_coder_interval_take_546 (fuel:Nat) (f:YF246) (a d:Int) (g c:Int) (j k:Int) (h:Bool) (b i:LI) (k0:(Int×Int×Int×Bool×LI×LI)→OA):OA:=bif d==1 then bif decide (0≤a∧a < (↑b.length:Int)) then (f c (b.getD a.toNat 0) d (fun e=>bif decide (0≤a∧a < (↑b.length:Int)) then k0 (c,j,g,h,b.set a.toNat e,i) else none)) else none else bif decide (0≤a∧a < (↑b.length:Int)) then (f c (b.getD a.toNat 0) d (fun e=>bif decide (0≤a∧a < (↑b.length:Int)) then k0 (c,u64.wrap (g+1),k,h,b.set a.toNat e,i) else none)) else none
abbrev YF208_546:Type:=Int→Int→Int→Int→Int→Int→Bool→LI→LI→((Int×Int×Int×Bool×LI×LI)→Option Ans)→Option Ans
def F_coder_interval_take_546 (fuel:Nat):YF208_546:=Fg_coder_interval_take_546 fuel (F_coder_next fuel)
theorem F208_546_eqg (fuel:Nat) (a:YF246) (b d:Int) (e f:Int) (g h:Int) (i:Bool) (j l:LI) (k:Ev.Cont):evalFn tab (Gg208_546 a) J0 kp208_546 fuel Tryz.f208 [.c (.ptr 0 0),.c (i6 b),.c (i6 d),.c (.int .u64 e)] [.cells 173 (i6 f::.own 1::ctb (.int .u64 g::.int .u64 h::.own 2::.bool i::[])),.vec 3 (.int .i64) j false,.vec 5 (.int .u8) l false] k=Fg_coder_interval_take_546 fuel a b d e f g h i j l (fun r=>match r with | (m,n,o,p,q,s)=>k (.tup [],[.cells 173 (i6 m::.own 1::ctb (.int .u64 n::.int .u64 o::.own 2::.bool p::[])),.vec 3 (.int .i64) q false,.vec 5 (.int .u8) s false])):=by
  kernel_rfl
theorem hG208_546 (fuel:Nat):GOK Tryz.prog (G208_546 fuel):=
  gc (ok246 fuel) Tryz.func246 (by kernel_rfl) rfl <|
  gok_nil
def spg208_546 (F:YF208_546):Ev.Spec:=fun args objs k=>match args,objs with | [.c (.ptr b d),.c (i6 e),.c (i6 f),.c (.int .u64 g)],[.cells h a,.vec i (.int .i64) j false,.vec l (.int .u8) m false]=>(match splitRun 2 ctn a with | some ([i6 n,.own o],[.int .u64 p,.int .u64 q,.own s,.bool t])=>bif qb [b,d,h,i,l,o,s] [0,0,173,3,5,1,2] then F e f g n p q t j m (fun r=>match r with | (u,v,w,x,y,z)=>k (.tup [],[.cells 173 (i6 u::.own 1::ctb (.int .u64 v::.int .u64 w::.own 2::.bool x::[])),.vec 3 (.int .i64) y false,.vec 5 (.int .u8) z false])) else none | _=>none) | _,_=>none
theorem ok208_546 (fuel:Nat):FnOK Tryz.prog 208 (spg208_546 (F_coder_interval_take_546 fuel)):=by
  intro args objs kk r h
  unfold spg208_546 at h
  split at h
  · skip
    split at h
    rotate_left 1
    · cases h
    rename_i hsp
    have esp:=splitRun_eq hsp
    subst esp
    obtain ⟨hb,h⟩:=cond_some' h
    cases qb_eq hb
    exact fo0 (hG208_546 fuel) Tryz.func208 rfl (by kernel_rfl) _ _ kk r ((F208_546_eqg fuel (F_coder_next fuel) _ _ _ _ _ _ _ _ _ kk).trans h)
  · cases h
def kp121_cf0 (i:Nat):Option (List Nat):=Ev.look i [(6,[0,1000002]),(100001,[]),(400001,[6]),(600000,[])]
def Gg121_cf0 (a:YF128_a20) (b:YF208_546) (c:YF209_402) (d:YF210_a20) (e:YF211_a20) (f:Nat):Option Ev.Spec:=Ev.look f [(128,spg128_a20 a),(208,spg208_546 b),(209,spg209_402 c),(210,spg210_a20 d),(211,spg211_a20 e)]
def G121_cf0 (fuel:Nat):Nat→Option Ev.Spec:=Gg121_cf0 (F_coder_Encoder_none_a20 fuel) (F_coder_interval_take_546 fuel) (F_coder_interval_mid_402 fuel) (F_coder_interval_same_a20 fuel) (F_coder_interval_lose_a20 fuel)
abbrev V_coder_Encoder_Put_cf0_1:Type:=Int×Int×Int×Bool×LI×LI
abbrev W_coder_Encoder_Put_cf0_1:Type:=(Int×Int×Int×Bool×LI×LI→OA)
def Sg_coder_Encoder_Put_cf0_1 (fuel:Nat) (y:YF128_a20) (z:YF208_546) (A:YF209_402) (q:YF210_a20) (p:YF211_a20) (s t u:Int) (v:Bool) (w x:LI) (c:V_coder_Encoder_Put_cf0_1→OA) (B:W_coder_Encoder_Put_cf0_1):OA:=match B with | b=>(q s t u v w x (fun (r,j,k,l,m,n,o)=>bif r then both ((p j k l m n o (fun (a,e,f,g,h,i,d)=>bif decide ((d.length+ [a].length)*(1:Nat)≤(140737488355328:Nat)∧d.length+ [a].length≤(140737488355328:Nat)) then c (e,f,g,h,i,d++ [a]) else none))) ((p j k l m n o (fun (a,e,f,g,h,i,d)=>both (bif decide ((d.length+ [a].length)*(1:Nat)≤(140737488355328:Nat)∧d.length+ [a].length≤(140737488355328:Nat)) then c (e,f,g,h,i,d++ [a]) else none) (bif decide ((d.length+ [a].length)*(1:Nat)≤(140737488355328:Nat)∧d.length+ [a].length≤(140737488355328:Nat)) then c (e,f,g,h,i,d++ [a]) else none)))) else b (j,k,l,m,n,o)))
def S_coder_Encoder_Put_cf0_1 (fuel:Nat) (v:Int×Int×Int×Bool×(List Int)×(List Int)) (c:(Int×Int×Int×Bool×(List Int)×(List Int))→Option Ans) (B:(Int×Int×Int×Bool×(List Int)×(List Int)→Option Ans)):Option Ans:=match v with | (a,b,d,e,f,g)=>Sg_coder_Encoder_Put_cf0_1 fuel (F_coder_Encoder_none_a20 fuel) (F_coder_interval_take_546 fuel) (F_coder_interval_mid_402 fuel) (F_coder_interval_same_a20 fuel) (F_coder_interval_lose_a20 fuel) a b d e f g c B
def L_coder_Encoder_Put_cf0_1 (fuel:Nat) (v:V_coder_Encoder_Put_cf0_1) (b:W_coder_Encoder_Put_cf0_1):Option Ans:=iter (S_coder_Encoder_Put_cf0_1 fuel) fuel v b
def T121_cf0_1 (v:V_coder_Encoder_Put_cf0_1):Ev.St:=match v with | (a,b,d,e,f,g)=>⟨[(0,.c (.ptr 0 0))],[(0,.cells 173 (i6 a::.own 1::ctb (.int .u64 b::.int .u64 d::.own 2::.bool e::[]))),(1,.vec 3 (.int .i64) f false),(2,.vec 5 (.int .u8) g true)],3,3⟩
def E121_cf0_1 (K:KT):W_coder_Encoder_Put_cf0_1:=(fun v=>match v with | (a,b,c,d,e,f)=>K .normal ⟨[],[(0,.cells 173 (i6 a::.own 1::ctb (.int .u64 b::.int .u64 c::.own 2::.bool d::[]))),(1,.vec 3 (.int .i64) e false),(2,.vec 5 (.int .u8) f true)],3,3⟩)
theorem S121_cf0_1_okg (fuel:Nat) (a:YF128_a20) (b:YF208_546) (c:YF209_402) (d:YF210_a20) (e:YF211_a20) (R:Ev.St→OA) (K:KT) (f g h:Int) (i:Bool) (j k:LI):evalCode tab (Gg121_cf0 a b c d e) J0 kp121_cf0 fuel (bodyOf 1 Tryz.f121) (T121_cf0_1 (f,g,h,i,j,k)) (lc kp121_cf0 6 1 R K)=Sg_coder_Encoder_Put_cf0_1 fuel a b c d e f g h i j k (fun v=>R (T121_cf0_1 v)) (E121_cf0_1 K):=by
  kernel_rfl
def B121_cf0_1 (fuel:Nat):Ev.Blk:=fun st K=>match canonO (kp121_cf0 6) st with | some s=>(match s with | ⟨[(f,.c (.ptr g h))],[(i,.cells j a),(k,.vec l (.int .i64) m false),(n,.vec o (.int .u8) p true)],q,b⟩=>(match splitRun 2 ctn a with | some ([i6 r,.own d],[.int .u64 t,.int .u64 u,.own e,.bool v])=>bif qb [f,g,h,i,j,k,l,n,o,q,b,d,e] [0,0,0,0,173,1,3,2,5,3,3,1,2] then iter (S_coder_Encoder_Put_cf0_1 fuel) fuel (r,t,u,v,m,p) (E121_cf0_1 K) else none | _=>none) | _=>none) | none=>none
theorem B121_cf0_1_ok (fuel:Nat) (st:Ev.St) (K:KT) (r:Ans) (h:B121_cf0_1 fuel st K=some r):evalCode tab (G121_cf0 fuel) J0 kp121_cf0 fuel (.block 1 (.loop (bodyOf 1 Tryz.f121))) st K=some r:=by
  unfold B121_cf0_1 at h
  split at h
  · rename_i s hs
    split at h
    · skip
      split at h
      rotate_left 1
      · cases h
      rename_i hsp
      have esp:=splitRun_eq hsp
      subst esp
      obtain ⟨hb,h⟩:=cond_some' h
      cases qb_eq hb
      exact blk_loop (S:=T121_cf0_1) (ks:=E121_cf0_1) (step:=S_coder_Encoder_Put_cf0_1 fuel) (v:=(_,_,_,_,_,_)) (by kernel_rfl) (by kernel_rfl) (fun R K v=>by obtain ⟨a,b,c,d,e,f⟩:=v; exact S121_cf0_1_okg fuel (F_coder_Encoder_none_a20 fuel) (F_coder_interval_take_546 fuel) (F_coder_interval_mid_402 fuel) (F_coder_interval_same_a20 fuel) (F_coder_interval_lose_a20 fuel) R K a b c d e f) hs h
    · cases h
  · cases h
def J121_cf0 (fuel:Nat) (i:Nat):Option Ev.Blk:=Ev.look i [(100001,B121_cf0_1 fuel)]
def Fg_coder_Encoder_Put_cf0 (fuel:Nat) (q:YF128_a20) (o:YF208_546) (p:YF209_402) (Y:YF210_a20) (Z:YF211_a20) (g h:Int) (S T U:Int) (V:Bool) (W X:LI) (k0:(Int×Int×Int×Int×Bool×LI×LI)→OA) (k1:(Int×Int×Int×Int×Bool×LI×LI)→OA):OA:=(q S T U V W X (fun (R,b,c,d,e,a,f)=>bif R then k0 (7,b,c,d,e,a,f) else bif decide (g < 0) then k0 (2,b,c,d,e,a,f) else bif decide (g≥(↑a.length:Int)) then k0 (2,b,c,d,e,a,f) else bif h != 0 then bif h != 1 then k0 (2,b,c,d,e,a,f) else (p g b c d e a f (fun (r,s,t,u,v,w,x)=>(o g h r s t u v w x (fun (y,z,A,B,C,D)=>(L_coder_Encoder_Put_cf0_1 fuel (y,z,A,B,C,D) (fun (i,j,k,l,m,n)=>k1 (0,i,j,k,l,m,n))))))) else (p g b c d e a f (fun (E,F,G,H,I,J,K)=>(o g h E F G H I J K (fun (L,M,N,O,P,Q)=>(L_coder_Encoder_Put_cf0_1 fuel (L,M,N,O,P,Q) (fun (i,j,k,l,m,n)=>k1 (0,i,j,k,l,m,n)))))))))
abbrev YF121_cf0:Type:=Int→Int→Int→Int→Int→Bool→LI→LI→((Int×Int×Int×Int×Bool×LI×LI)→Option Ans)→((Int×Int×Int×Int×Bool×LI×LI)→Option Ans)→Option Ans
def F_coder_Encoder_Put_cf0 (fuel:Nat):YF121_cf0:=Fg_coder_Encoder_Put_cf0 fuel (F_coder_Encoder_none_a20 fuel) (F_coder_interval_take_546 fuel) (F_coder_interval_mid_402 fuel) (F_coder_interval_same_a20 fuel) (F_coder_interval_lose_a20 fuel)
theorem F121_cf0_eqg (fuel:Nat) (i:YF128_a20) (j:YF208_546) (l:YF209_402) (m:YF210_a20) (n:YF211_a20) (o p:Int) (q s t:Int) (u:Bool) (v w:LI) (k:Ev.Cont):evalFn tab (Gg121_cf0 i j l m n) (J121_cf0 fuel) kp121_cf0 fuel Tryz.f121 [.c (.ptr 0 0),.c (i6 o),.c (i6 p)] [.cells 173 (i6 q::.own 1::ctb (.int .u64 s::.int .u64 t::.own 2::.bool u::[])),.vec 3 (.int .i64) v false,.vec 5 (.int .u8) w false] k=Fg_coder_Encoder_Put_cf0 fuel i j l m n o p q s t u v w (fun r=>match r with | (a,b,d,e,f,g,h)=>k (.c (i6 a),[.cells 173 (i6 b::.own 1::ctb (.int .u64 d::.int .u64 e::.own 2::.bool f::[])),.vec 3 (.int .i64) g false,.vec 5 (.int .u8) h false])) (fun r=>match r with | (a,b,d,e,f,g,h)=>k (.c (i6 a),[.cells 173 (i6 b::.own 1::ctb (.int .u64 d::.int .u64 e::.own 2::.bool f::[])),.vec 3 (.int .i64) g false,.vec 5 (.int .u8) h true])):=by
  kernel_rfl
theorem hG121_cf0 (fuel:Nat):GOK Tryz.prog (G121_cf0 fuel):=
  gc (ok128_a20 fuel) Tryz.func128 (by kernel_rfl) rfl <|
  gc (ok208_546 fuel) Tryz.func208 (by kernel_rfl) rfl <|
  gc (ok209_402 fuel) Tryz.func209 (by kernel_rfl) rfl <|
  gc (ok210_a20 fuel) Tryz.func210 (by kernel_rfl) rfl <|
  gc (ok211_a20 fuel) Tryz.func211 (by kernel_rfl) rfl <|
  gok_nil
theorem B121_cf0_1_blk (fuel:Nat):BlkOK Tryz.prog Tryz.f121.ntmps (.block 1 (.loop (bodyOf 1 Tryz.f121))) (B121_cf0_1 fuel):=bo0 (hG121_cf0 fuel) (by kernel_rfl) (by kernel_rfl) (B121_cf0_1_ok fuel)
def spg121_cf0 (F:YF121_cf0):Ev.Spec:=fun args objs k=>match args,objs with | [.c (.ptr j l),.c (i6 m),.c (i6 n)],[.cells o i,.vec p (.int .i64) q false,.vec s (.int .u8) t false]=>(match splitRun 2 ctn i with | some ([i6 u,.own v],[.int .u64 w,.int .u64 x,.own y,.bool z])=>bif qb [j,l,o,p,s,v,y] [0,0,173,3,5,1,2] then F m n u w x z q t (fun r=>match r with | (a,b,d,e,f,g,h)=>k (.c (i6 a),[.cells 173 (i6 b::.own 1::ctb (.int .u64 d::.int .u64 e::.own 2::.bool f::[])),.vec 3 (.int .i64) g false,.vec 5 (.int .u8) h false])) (fun r=>match r with | (a,b,d,e,f,g,h)=>k (.c (i6 a),[.cells 173 (i6 b::.own 1::ctb (.int .u64 d::.int .u64 e::.own 2::.bool f::[])),.vec 3 (.int .i64) g false,.vec 5 (.int .u8) h true])) else none | _=>none) | _,_=>none
def spec121_cf0 (fuel:Nat):Ev.Spec:=spg121_cf0 (F_coder_Encoder_Put_cf0 fuel)
theorem ok121_cf0 (fuel:Nat):FnOK Tryz.prog 121 (spec121_cf0 fuel):=by
  intro args objs kk r h
  unfold spec121_cf0 spg121_cf0 at h
  split at h
  · skip
    split at h
    rotate_left 1
    · cases h
    rename_i hsp
    have esp:=splitRun_eq hsp
    subst esp
    obtain ⟨hb,h⟩:=cond_some' h
    cases qb_eq hb
    exact fo1 (hG121_cf0 fuel) Tryz.func121 rfl (B121_cf0_1_blk fuel) (by kernel_rfl) _ _ kk r ((F121_cf0_eqg fuel (F_coder_Encoder_none_a20 fuel) (F_coder_interval_take_546 fuel) (F_coder_interval_mid_402 fuel) (F_coder_interval_same_a20 fuel) (F_coder_interval_lose_a20 fuel) _ _ _ _ _ _ _ _ kk).trans h)
  · cases h
def kp169 (i:Nat):Option (List Nat):=Ev.look i []
def Gg169 (f:Nat):Option Ev.Spec:=Ev.look f []
def G169 (fuel:Nat):Nat→Option Ev.Spec:=Gg169
def F_number_Valid (fuel:Nat) (b:Bool) (a:Int) (k0:(Bool)→Option Ans):Option Ans:=bif b then k0 (a==0) else bif decide (a≥(-1048576:Int)) then k0 (decide (a≤1048576)) else k0 false
abbrev YF169:Type:=Bool→Int→(Bool→Option Ans)→Option Ans
theorem F169_eq (fuel:Nat) (a:Bool) (b:Int) (k:Ev.Cont):evalFn tab (G169 fuel) J0 kp169 fuel Tryz.f169 [.agg [.bool a,i6 b]] [] k=F_number_Valid fuel a b (fun r=>match r with | d=>k (.c (.bool d),[])):=by
  kernel_rfl
theorem hG169 (fuel:Nat):GOK Tryz.prog (G169 fuel):=
  gok_nil
def spg169 (F:YF169):Ev.Spec:=fun args objs k=>match args,objs with | [.agg [.bool a,i6 b]],[]=>F a b (fun r=>match r with | d=>k (.c (.bool d),[])) | _,_=>none
theorem ok169 (fuel:Nat):FnOK Tryz.prog 169 (spg169 (F_number_Valid fuel)):=by
  intro args objs kk r h
  unfold spg169 at h
  split at h
  · skip
    exact fo0 (hG169 fuel) Tryz.func169 rfl (by kernel_rfl) _ _ kk r ((F169_eq fuel _ _ kk).trans h)
  · cases h
def kp236 (i:Nat):Option (List Nat):=Ev.look i []
def Gg236 (f:Nat):Option Ev.Spec:=Ev.look f []
def G236 (fuel:Nat):Nat→Option Ev.Spec:=Gg236
def F_number_tail_take (fuel:Nat) (a:Int) (k0:(Int×Int)→Option Ans):Option Ans:=k0 (a,bif decide (47 < i64.wrap (a+1)) then 47 else i64.wrap (a+1))
abbrev YF236:Type:=Int→((Int×Int)→Option Ans)→Option Ans
theorem F236_eq (fuel:Nat) (a:Int) (k:Ev.Cont):evalFn tab (G236 fuel) J0 kp236 fuel Tryz.f236 [.c (.ptr 0 0)] [.cells 269 [i6 a]] k=F_number_tail_take fuel a (fun r=>match r with | (b,d)=>k (.c (i6 b),[.cells 269 [i6 d]])):=by
  kernel_rfl
theorem hG236 (fuel:Nat):GOK Tryz.prog (G236 fuel):=
  gok_nil
def spg236 (F:YF236):Ev.Spec:=fun args objs k=>match args,objs with | [.c (.ptr a b)],[.cells d [i6 e]]=>bif qb [a,b,d] [0,0,269] then F e (fun r=>match r with | (f,g)=>k (.c (i6 f),[.cells 269 [i6 g]])) else none | _,_=>none
theorem ok236 (fuel:Nat):FnOK Tryz.prog 236 (spg236 (F_number_tail_take fuel)):=by
  intro args objs kk r h
  unfold spg236 at h
  split at h
  · skip
    obtain ⟨hb,h⟩:=cond_some' h
    cases qb_eq hb
    exact fo0 (hG236 fuel) Tryz.func236 rfl (by kernel_rfl) _ _ kk r ((F236_eq fuel _ kk).trans h)
  · cases h
def kp172 (i:Nat):Option (List Nat):=Ev.look i [(7,[0,3,5,6,7,32,33]),(15,[0,3,5,6,7,9,10]),(100000,[0,3,5,6,7]),(100002,[0,3,5]),(400000,[4]),(400002,[4])]
def Gg172 (a:YF120) (b:YF236) (f:Nat):Option Ev.Spec:=Ev.look f [(120,spg120 a),(236,spg236 b)]
def G172 (fuel:Nat):Nat→Option Ev.Spec:=Gg172 (F_math_bits_Len fuel) (F_number_tail_take fuel)
abbrev V_number_events_0:Type:=Int×Int×Int×Int×Int×Bool×Int×(List (Int×Int))
abbrev W_number_events_0:Type:=(Int×Int×Int×Bool×Int×(List (Int×Int))→OA)
def Sg_number_events_0 (fuel:Nat) (k:YF120) (l:YF236) (a f:Int) (g h d:Int) (i:Bool) (j:Int) (e:(List (Int×Int))) (c:V_number_events_0→OA) (B:W_number_events_0):OA:=match B with | b=>bif decide (d < h) then bif decide ((e.length+ [(i64.wrap (i64.wrap (a+(1:Int))+d),(1:Int))].length)*(16:Nat)≤(140737488355328:Nat)∧e.length+ [(i64.wrap (i64.wrap (a+(1:Int))+d),(1:Int))].length≤(140737488355328:Nat)) then c (a,f,g,h,i64.wrap (d+(1:Int)),i,j,e++ [(i64.wrap (i64.wrap (a+(1:Int))+d),(1:Int))]) else none else b (a,f,g,i,j,e)
def S_number_events_0 (fuel:Nat) (v:Int×Int×Int×Int×Int×Bool×Int×(List (Int×Int))) (c:(Int×Int×Int×Int×Int×Bool×Int×(List (Int×Int)))→Option Ans) (B:(Int×Int×Int×Bool×Int×(List (Int×Int))→Option Ans)):Option Ans:=match v with | (a,b,d,e,f,g,h,i)=>Sg_number_events_0 fuel (F_math_bits_Len fuel) (F_number_tail_take fuel) a b d e f g h i c B
def L_number_events_0 (fuel:Nat) (v:V_number_events_0) (b:W_number_events_0):Option Ans:=iter (S_number_events_0 fuel) fuel v b
def T172_0 (v:V_number_events_0):Ev.St:=match v with | (a,b,d,e,f,g,h,i)=>⟨[(0,.c (i6 a)),(3,.c (.ptr 0 0)),(5,.c (.own 1)),(6,.c (i6 b)),(7,.c (i6 d)),(32,.c (i6 e)),(33,.c (i6 f))],[(0,.cells 124 [.bool g,i6 h]),(1,.vec 221 (.pair (.int .i64) (.int .i64)) i true)],2,0⟩
def E172_0 (K:KT):W_number_events_0:=(fun v=>match v with | (a,b,d,e,f,g)=>K .normal ⟨[(0,.c (i6 a)),(3,.c (.ptr 0 0)),(5,.c (.own 1)),(6,.c (i6 b)),(7,.c (i6 d))],[(0,.cells 124 [.bool e,i6 f]),(1,.vec 221 (.pair (.int .i64) (.int .i64)) g true)],2,0⟩)
theorem S172_0_okg (fuel:Nat) (a:YF120) (b:YF236) (R:Ev.St→OA) (K:KT) (c d:Int) (e f g:Int) (h:Bool) (i:Int) (j:(List (Int×Int))):evalCode tab (Gg172 a b) J0 kp172 fuel (bodyOf 0 Tryz.f172) (T172_0 (c,d,e,f,g,h,i,j)) (lc kp172 7 0 R K)=Sg_number_events_0 fuel a b c d e f g h i j (fun v=>R (T172_0 v)) (E172_0 K):=by
  kernel_rfl
def B172_0 (fuel:Nat):Ev.Blk:=fun st K=>match canonO (kp172 7) st with | some s=>(match s with | ⟨[(h,.c (i6 i)),(j,.c (.ptr k l)),(m,.c (.own n)),(o,.c (i6 p)),(q,.c (i6 r)),(t,.c (i6 u)),(v,.c (i6 w))],[(a,.cells b [.bool x,i6 y]),(d,.vec e (.pair (.int .i64) (.int .i64)) z true)],f,g⟩=>bif qb [h,j,k,l,m,n,o,q,t,v,a,b,d,e,f,g] [0,3,0,0,5,1,6,7,32,33,0,124,1,221,2,0] then iter (S_number_events_0 fuel) fuel (i,p,r,u,w,x,y,z) (E172_0 K) else none | _=>none) | none=>none
theorem B172_0_ok (fuel:Nat) (st:Ev.St) (K:KT) (r:Ans) (h:B172_0 fuel st K=some r):evalCode tab (G172 fuel) J0 kp172 fuel (.block 0 (.loop (bodyOf 0 Tryz.f172))) st K=some r:=by
  unfold B172_0 at h
  split at h
  · rename_i s hs
    split at h
    · skip
      obtain ⟨hb,h⟩:=cond_some' h
      cases qb_eq hb
      exact blk_loop (S:=T172_0) (ks:=E172_0) (step:=S_number_events_0 fuel) (v:=(_,_,_,_,_,_,_,_)) (by kernel_rfl) (by kernel_rfl) (fun R K v=>by obtain ⟨a,b,c,d,e,f,g,i⟩:=v; exact S172_0_okg fuel (F_math_bits_Len fuel) (F_number_tail_take fuel) R K a b c d e f g i) hs h
    · cases h
  · cases h
abbrev V_number_events_2:Type:=Int×Int×Int×Int×Bool×Int×(List (Int×Int))×Int
abbrev W_number_events_2:Type:=(Int×Bool×Int×(List (Int×Int))→OA)
def Sg_number_events_2 (fuel:Nat) (n:YF120) (l:YF236) (d e:Int) (g a:Int) (i:Bool) (j:Int) (f:(List (Int×Int))) (k:Int) (c:V_number_events_2→OA) (B:W_number_events_2):OA:=match B with | b=>bif decide (a≥0) then bif decide (a < i64.wrap (g - 1)) then (l k (fun (h,m)=>bif decide (a < 0) then none else bif decide ((f.length+ [(i64.wrap (d+h),Ev.iand IntKind.i64 (Ev.ishr IntKind.i64 e a) (1:Int))].length)*(16:Nat)≤(140737488355328:Nat)∧f.length+ [(i64.wrap (d+h),Ev.iand IntKind.i64 (Ev.ishr IntKind.i64 e a) (1:Int))].length≤(140737488355328:Nat)) then c (d,e,g,i64.wrap (a - (1:Int)),i,j,f++ [(i64.wrap (d+h),Ev.iand IntKind.i64 (Ev.ishr IntKind.i64 e a) (1:Int))],m) else none)) else bif decide (a < 0) then none else bif decide ((f.length+ [(i64.wrap (d+i64.wrap ((23:Int)+g)),Ev.iand IntKind.i64 (Ev.ishr IntKind.i64 e a) (1:Int))].length)*(16:Nat)≤(140737488355328:Nat)∧f.length+ [(i64.wrap (d+i64.wrap ((23:Int)+g)),Ev.iand IntKind.i64 (Ev.ishr IntKind.i64 e a) (1:Int))].length≤(140737488355328:Nat)) then c (d,e,g,i64.wrap (a - (1:Int)),i,j,f++ [(i64.wrap (d+i64.wrap ((23:Int)+g)),Ev.iand IntKind.i64 (Ev.ishr IntKind.i64 e a) (1:Int))],k) else none else b (d,i,j,f)
def S_number_events_2 (fuel:Nat) (v:Int×Int×Int×Int×Bool×Int×(List (Int×Int))×Int) (c:(Int×Int×Int×Int×Bool×Int×(List (Int×Int))×Int)→Option Ans) (B:(Int×Bool×Int×(List (Int×Int))→Option Ans)):Option Ans:=match v with | (a,b,d,e,f,g,h,i)=>Sg_number_events_2 fuel (F_math_bits_Len fuel) (F_number_tail_take fuel) a b d e f g h i c B
def L_number_events_2 (fuel:Nat) (v:V_number_events_2) (b:W_number_events_2):Option Ans:=iter (S_number_events_2 fuel) fuel v b
def J172_2 (fuel:Nat) (i:Nat):Option Ev.Blk:=Ev.look i [(100000,B172_0 fuel)]
def T172_2 (v:V_number_events_2):Ev.St:=match v with | (a,b,d,e,f,g,h,i)=>⟨[(0,.c (i6 a)),(3,.c (.ptr 0 0)),(5,.c (.own 1)),(6,.c (i6 b)),(7,.c (i6 d)),(9,.c (.ptr 2 0)),(10,.c (i6 e))],[(0,.cells 124 [.bool f,i6 g]),(1,.vec 221 (.pair (.int .i64) (.int .i64)) h true),(2,.cells 269 [i6 i])],3,0⟩
def E172_2 (K:KT):W_number_events_2:=(fun v=>match v with | (a,b,d,e)=>K .normal ⟨[(0,.c (i6 a)),(3,.c (.ptr 0 0)),(5,.c (.own 1))],[(0,.cells 124 [.bool b,i6 d]),(1,.vec 221 (.pair (.int .i64) (.int .i64)) e true)],2,0⟩)
theorem S172_2_okg (fuel:Nat) (a:YF120) (b:YF236) (R:Ev.St→OA) (K:KT) (c d:Int) (e f:Int) (g:Bool) (h:Int) (i:(List (Int×Int))) (j:Int):evalCode tab (Gg172 a b) (J172_2 fuel) kp172 fuel (bodyOf 2 Tryz.f172) (T172_2 (c,d,e,f,g,h,i,j)) (lc kp172 15 2 R K)=Sg_number_events_2 fuel a b c d e f g h i j (fun v=>R (T172_2 v)) (E172_2 K):=by
  kernel_rfl
def B172_2 (fuel:Nat):Ev.Blk:=fun st K=>match canonO (kp172 15) st with | some s=>(match s with | ⟨[(l,.c (i6 m)),(n,.c (.ptr o p)),(q,.c (.own r)),(t,.c (i6 u)),(v,.c (i6 w)),(x,.c (.ptr y a)),(b,.c (i6 z))],[(d,.cells e [.bool A,i6 B]),(f,.vec g (.pair (.int .i64) (.int .i64)) C true),(h,.cells i [i6 D])],j,k⟩=>bif qb [l,n,o,p,q,r,t,v,x,y,a,b,d,e,f,g,h,i,j,k] [0,3,0,0,5,1,6,7,9,2,0,10,0,124,1,221,2,269,3,0] then iter (S_number_events_2 fuel) fuel (m,u,w,z,A,B,C,D) (E172_2 K) else none | _=>none) | none=>none
theorem B172_2_ok (fuel:Nat) (st:Ev.St) (K:KT) (r:Ans) (h:B172_2 fuel st K=some r):evalCode tab (G172 fuel) (J172_2 fuel) kp172 fuel (.block 2 (.loop (bodyOf 2 Tryz.f172))) st K=some r:=by
  unfold B172_2 at h
  split at h
  · rename_i s hs
    split at h
    · skip
      obtain ⟨hb,h⟩:=cond_some' h
      cases qb_eq hb
      exact blk_loop (S:=T172_2) (ks:=E172_2) (step:=S_number_events_2 fuel) (v:=(_,_,_,_,_,_,_,_)) (by kernel_rfl) (by kernel_rfl) (fun R K v=>by obtain ⟨a,b,c,d,e,f,g,i⟩:=v; exact S172_2_okg fuel (F_math_bits_Len fuel) (F_number_tail_take fuel) R K a b c d e f g i) hs h
    · cases h
  · cases h
def J172 (fuel:Nat) (i:Nat):Option Ev.Blk:=Ev.look i [(100000,B172_0 fuel),(100002,B172_2 fuel)]
def Fg_number_events (fuel:Nat) (n:YF120) (p:YF236) (h:Int) (l:Bool) (c:Int) (k0:((List (Int×Int)))→OA):OA:=bif l then k0 ([(h,1)]) else (n (u64.wrap (i64.wrap ((bif decide (i64.wrap (0 - c) > c) then i64.wrap (0 - c) else c)+1))) (fun m=>(L_number_events_0 fuel (h,i64.wrap ((bif decide (i64.wrap (0 - c) > c) then i64.wrap (0 - c) else c)+1),i64.wrap (m - 1),i64.wrap (m - 1),0,l,c,[(h,0)]) (fun (e,i,d,j,k,g)=>bif decide (d < 20) then bif decide ((g.length+ [(i64.wrap (i64.wrap (e+(1:Int))+d),(0:Int))].length)*(16:Nat)≤(140737488355328:Nat)∧g.length+ [(i64.wrap (i64.wrap (e+(1:Int))+d),(0:Int))].length≤(140737488355328:Nat)) then (L_number_events_2 fuel (e,i,d,i64.wrap (d - (1:Int)),j,k,g++ [(i64.wrap (i64.wrap (e+(1:Int))+d),(0:Int))],(44:Int)) (fun (b,o,f,a)=>bif f != 0 then bif decide (f < 0) then bif decide ((a.length+ [(i64.wrap (b+(22:Int)),(1:Int))].length)*(16:Nat)≤(140737488355328:Nat)∧a.length+ [(i64.wrap (b+(22:Int)),(1:Int))].length≤(140737488355328:Nat)) then k0 (a++ [(i64.wrap (b+(22:Int)),(1:Int))]) else none else bif decide ((a.length+ [(i64.wrap (b+(22:Int)),(0:Int))].length)*(16:Nat)≤(140737488355328:Nat)∧a.length+ [(i64.wrap (b+(22:Int)),(0:Int))].length≤(140737488355328:Nat)) then k0 (a++ [(i64.wrap (b+(22:Int)),(0:Int))]) else none else k0 a)) else none else (L_number_events_2 fuel (e,i,d,i64.wrap (d - 1),j,k,g,44) (fun (b,o,f,a)=>bif f != 0 then bif decide (f < 0) then bif decide ((a.length+ [(i64.wrap (b+(22:Int)),(1:Int))].length)*(16:Nat)≤(140737488355328:Nat)∧a.length+ [(i64.wrap (b+(22:Int)),(1:Int))].length≤(140737488355328:Nat)) then k0 (a++ [(i64.wrap (b+(22:Int)),(1:Int))]) else none else bif decide ((a.length+ [(i64.wrap (b+(22:Int)),(0:Int))].length)*(16:Nat)≤(140737488355328:Nat)∧a.length+ [(i64.wrap (b+(22:Int)),(0:Int))].length≤(140737488355328:Nat)) then k0 (a++ [(i64.wrap (b+(22:Int)),(0:Int))]) else none else k0 a))))))
abbrev YF172:Type:=Int→Bool→Int→(((List (Int×Int)))→Option Ans)→Option Ans
def F_number_events (fuel:Nat):YF172:=Fg_number_events fuel (F_math_bits_Len fuel) (F_number_tail_take fuel)
theorem F172_eqg (fuel:Nat) (a:YF120) (b:YF236) (d:Int) (e:Bool) (f:Int) (k:Ev.Cont):evalFn tab (Gg172 a b) (J172 fuel) kp172 fuel Tryz.f172 [.c (i6 d),.agg [.bool e,i6 f]] [] k=Fg_number_events fuel a b d e f (fun r=>match r with | g=>k (.c (.own 0),[.vec 221 (.pair (.int .i64) (.int .i64)) g true])):=by
  kernel_rfl
theorem hG172 (fuel:Nat):GOK Tryz.prog (G172 fuel):=
  gc (ok120 fuel) Tryz.func120 (by kernel_rfl) rfl <|
  gc (ok236 fuel) Tryz.func236 (by kernel_rfl) rfl <|
  gok_nil
theorem B172_0_blk (fuel:Nat):BlkOK Tryz.prog Tryz.f172.ntmps (.block 0 (.loop (bodyOf 0 Tryz.f172))) (B172_0 fuel):=bo0 (hG172 fuel) (by kernel_rfl) (by kernel_rfl) (B172_0_ok fuel)
theorem B172_2_blk (fuel:Nat):BlkOK Tryz.prog Tryz.f172.ntmps (.block 2 (.loop (bodyOf 2 Tryz.f172))) (B172_2 fuel):=bo0 (hG172 fuel) (by kernel_rfl) (by kernel_rfl) (B172_2_ok fuel)
theorem fok172 (fuel:Nat):FnOK Tryz.prog 172 (evalFn tab (G172 fuel) (J172 fuel) kp172 fuel Tryz.f172):=
  fn_ok tab_ok (hG172 fuel) mixed Tryz.func172 (c:=(Tryz.f172.body).getD .skip) rfl (fun q hq=>by
    rw [(by kernel_rfl:obl (J172 fuel) ((Tryz.f172.body).getD .skip)= [(.block 0 (.loop (bodyOf 0 Tryz.f172)),B172_0 fuel),(.block 2 (.loop (bodyOf 2 Tryz.f172)),B172_2 fuel)])] at hq
    simp only [List.mem_cons,List.not_mem_nil,or_false] at hq
    rcases hq with rfl | rfl
    · exact B172_0_blk fuel
    · exact B172_2_blk fuel)
def spg172 (F:YF172):Ev.Spec:=fun args objs k=>match args,objs with | [.c (i6 a),.agg [.bool b,i6 d]],[]=>F a b d (fun r=>match r with | e=>k (.c (.own 0),[.vec 221 (.pair (.int .i64) (.int .i64)) e true])) | _,_=>none
theorem ok172 (fuel:Nat):FnOK Tryz.prog 172 (spg172 (F_number_events fuel)):=by
  intro args objs kk r h
  unfold spg172 at h
  split at h
  · skip
    exact fok172 fuel _ _ kk r ((F172_eqg fuel (F_math_bits_Len fuel) (F_number_tail_take fuel) _ _ _ kk).trans h)
  · cases h
def kp170 (i:Nat):Option (List Nat):=Ev.look i []
def Gg170 (f:Nat):Option Ev.Spec:=Ev.look f []
def G170 (fuel:Nat):Nat→Option Ev.Spec:=Gg170
def F_number_fits (fuel:Nat) (d:Int) (b:(List Int)) (a c:Int) (k0:(Int)→Option Ans):Option Ans:=bif decide (a < 0) then k0 (2) else bif decide (a > i64.wrap ((↑b.length:Int) - c)) then k0 (2) else k0 (0)
abbrev YF170:Type:=Int→LI→Int→Int→(Int→Option Ans)→Option Ans
theorem F170_eq (fuel:Nat) (a:Int) (b:LI) (d e:Int) (k:Ev.Cont):evalFn tab (G170 fuel) J0 kp170 fuel Tryz.f170 [.agg [i6 a,.sl (.int .i64) b],.c (i6 d),.c (i6 e)] [] k=F_number_fits fuel a b d e (fun r=>match r with | f=>k (.c (i6 f),[])):=by
  kernel_rfl
theorem hG170 (fuel:Nat):GOK Tryz.prog (G170 fuel):=
  gok_nil
def spg170 (F:YF170):Ev.Spec:=fun args objs k=>match args,objs with | [.agg [i6 a,.sl (.int .i64) b],.c (i6 d),.c (i6 e)],[]=>F a b d e (fun r=>match r with | f=>k (.c (i6 f),[])) | _,_=>none
theorem ok170 (fuel:Nat):FnOK Tryz.prog 170 (spg170 (F_number_fits fuel)):=by
  intro args objs kk r h
  unfold spg170 at h
  split at h
  · skip
    exact fo0 (hG170 fuel) Tryz.func170 rfl (by kernel_rfl) _ _ kk r ((F170_eq fuel _ _ _ _ kk).trans h)
  · cases h
def kp171_2d4 (i:Nat):Option (List Nat):=Ev.look i [(2,[0,8,9,10,1000002]),(100000,[]),(400000,[4,1000002])]
def Gg171_2d4 (a:YF121_cf0) (f:Nat):Option Ev.Spec:=Ev.look f [(121,spg121_cf0 a)]
def G171_2d4 (fuel:Nat):Nat→Option Ev.Spec:=Gg171_2d4 (F_coder_Encoder_Put_cf0 fuel)
abbrev V_number_put_2d4_0:Type:=(List (Int×Int))×Int×Int×Int×Int×Int×Bool×LI×LI
abbrev W_number_put_2d4_0:Type:=(Int×Int×Int×Int×Bool×LI×LI→OA)×(Int×Int×Int×Bool×LI×LI→OA)
def Sg_number_put_2d4_0 (fuel:Nat) (s:YF121_cf0) (k:(List (Int×Int))) (l a:Int) (m n o:Int) (p:Bool) (q r:LI) (c:V_number_put_2d4_0→OA) (B:W_number_put_2d4_0):OA:=match B with | (ret,b)=>bif decide (a < l) then bif decide (0≤a∧a < (↑k.length:Int)) then (s ((k.getD a.toNat (0,0)).fst) ((k.getD a.toNat (0,0)).snd) m n o p q r (fun (d,e,f,g,h,i,j)=>bif d != 0 then ret (d,e,f,g,h,i,j) else c (k,l,i64.wrap (a+1),e,f,g,h,i,j)) (fun (d,e,f,g,h,i,j)=>bif d != 0 then ret (d,e,f,g,h,i,j) else c (k,l,i64.wrap (a+1),e,f,g,h,i,j))) else none else b (m,n,o,p,q,r)
def S_number_put_2d4_0 (fuel:Nat) (v:(List (Int×Int))×Int×Int×Int×Int×Int×Bool×(List Int)×(List Int)) (c:((List (Int×Int))×Int×Int×Int×Int×Int×Bool×(List Int)×(List Int))→Option Ans) (B:(Int×Int×Int×Int×Bool×(List Int)×(List Int)→Option Ans)×(Int×Int×Int×Bool×(List Int)×(List Int)→Option Ans)):Option Ans:=match v with | (a,b,d,e,f,g,h,i,j)=>Sg_number_put_2d4_0 fuel (F_coder_Encoder_Put_cf0 fuel) a b d e f g h i j c B
def L_number_put_2d4_0 (fuel:Nat) (v:V_number_put_2d4_0) (ret:(Int×Int×Int×Int×Bool×(List Int)×(List Int)→Option Ans)) (b:(Int×Int×Int×Bool×(List Int)×(List Int)→Option Ans)):Option Ans:=iter (S_number_put_2d4_0 fuel) fuel v (ret,b)
def T171_2d4_0 (v:V_number_put_2d4_0):Ev.St:=match v with | (a,b,d,e,f,g,h,i,j)=>⟨[(0,.c (.ptr 0 0)),(8,.c (.sl (.pair (.int .i64) (.int .i64)) a)),(9,.c (i6 b)),(10,.c (i6 d))],[(0,.cells 173 (i6 e::.own 1::ctb (.int .u64 f::.int .u64 g::.own 2::.bool h::[]))),(1,.vec 3 (.int .i64) i false),(2,.vec 5 (.int .u8) j true)],3,3⟩
def E171_2d4_0 (K:KT):W_number_put_2d4_0:=((fun v=>match v with | (a,b,d,e,f,g,h)=>K .ret ⟨[(4,.c (i6 a))],[(0,.cells 173 (i6 b::.own 1::ctb (.int .u64 d::.int .u64 e::.own 2::.bool f::[]))),(1,.vec 3 (.int .i64) g false),(2,.vec 5 (.int .u8) h true)],3,3⟩),(fun v=>match v with | (a,b,d,e,f,g)=>K .normal ⟨[],[(0,.cells 173 (i6 a::.own 1::ctb (.int .u64 b::.int .u64 d::.own 2::.bool e::[]))),(1,.vec 3 (.int .i64) f false),(2,.vec 5 (.int .u8) g true)],3,3⟩))
theorem S171_2d4_0_okg (fuel:Nat) (a:YF121_cf0) (R:Ev.St→OA) (K:KT) (b:(List (Int×Int))) (c d:Int) (e f g:Int) (h:Bool) (i j:LI):evalCode tab (Gg171_2d4 a) J0 kp171_2d4 fuel (bodyOf 0 Tryz.f171) (T171_2d4_0 (b,c,d,e,f,g,h,i,j)) (lc kp171_2d4 2 0 R K)=Sg_number_put_2d4_0 fuel a b c d e f g h i j (fun v=>R (T171_2d4_0 v)) (E171_2d4_0 K):=by
  kernel_rfl
def B171_2d4_0 (fuel:Nat):Ev.Blk:=fun st K=>match canonO (kp171_2d4 2) st with | some s=>(match s with | ⟨[(i,.c (.ptr j k)),(l,.c (.sl (.pair (.int .i64) (.int .i64)) m)),(n,.c (i6 o)),(p,.c (i6 q))],[(r,.cells t a),(u,.vec v (.int .i64) w false),(b,.vec d (.int .u8) x true)],e,f⟩=>(match splitRun 2 ctn a with | some ([i6 y,.own g],[.int .u64 z,.int .u64 A,.own h,.bool B])=>bif qb [i,j,k,l,n,p,r,t,u,v,b,d,e,f,g,h] [0,0,0,8,9,10,0,173,1,3,2,5,3,3,1,2] then iter (S_number_put_2d4_0 fuel) fuel (m,o,q,y,z,A,B,w,x) (E171_2d4_0 K) else none | _=>none) | _=>none) | none=>none
theorem B171_2d4_0_ok (fuel:Nat) (st:Ev.St) (K:KT) (r:Ans) (h:B171_2d4_0 fuel st K=some r):evalCode tab (G171_2d4 fuel) J0 kp171_2d4 fuel (.block 0 (.loop (bodyOf 0 Tryz.f171))) st K=some r:=by
  unfold B171_2d4_0 at h
  split at h
  · rename_i s hs
    split at h
    · skip
      split at h
      rotate_left 1
      · cases h
      rename_i hsp
      have esp:=splitRun_eq hsp
      subst esp
      obtain ⟨hb,h⟩:=cond_some' h
      cases qb_eq hb
      exact blk_loop (S:=T171_2d4_0) (ks:=E171_2d4_0) (step:=S_number_put_2d4_0 fuel) (v:=(_,_,_,_,_,_,_,_,_)) (by kernel_rfl) (by kernel_rfl) (fun R K v=>by obtain ⟨a,b,c,d,e,f,g,i,j⟩:=v; exact S171_2d4_0_okg fuel (F_coder_Encoder_Put_cf0 fuel) R K a b c d e f g i j) hs h
    · cases h
  · cases h
def J171_2d4 (fuel:Nat) (i:Nat):Option Ev.Blk:=Ev.look i [(100000,B171_2d4_0 fuel)]
def Fg_number_put_2d4 (fuel:Nat) (n:YF121_cf0) (a:(List (Int×Int))) (h i j:Int) (k:Bool) (l m:LI) (k0:(Int×Int×Int×Int×Bool×LI×LI)→OA):OA:=(L_number_put_2d4_0 fuel (a,(↑a.length:Int),0,h,i,j,k,l,m) (fun (ret0_0,ret0_1,ret0_2,ret0_3,ret0_4,ret0_5,ret0_6)=>k0 (ret0_0,ret0_1,ret0_2,ret0_3,ret0_4,ret0_5,ret0_6)) (fun (b,c,d,e,f,g)=>k0 (0,b,c,d,e,f,g)))
abbrev YF171_2d4:Type:=((List (Int×Int)))→Int→Int→Int→Bool→LI→LI→((Int×Int×Int×Int×Bool×LI×LI)→Option Ans)→Option Ans
def F_number_put_2d4 (fuel:Nat):YF171_2d4:=Fg_number_put_2d4 fuel (F_coder_Encoder_Put_cf0 fuel)
theorem F171_2d4_eqg (fuel:Nat) (a:YF121_cf0) (b:(List (Int×Int))) (d e f:Int) (g:Bool) (h i:LI) (k:Ev.Cont):evalFn tab (Gg171_2d4 a) (J171_2d4 fuel) kp171_2d4 fuel Tryz.f171 [.c (.ptr 0 0),.c (.sl (.pair (.int .i64) (.int .i64)) b)] [.cells 173 (i6 d::.own 1::ctb (.int .u64 e::.int .u64 f::.own 2::.bool g::[])),.vec 3 (.int .i64) h false,.vec 5 (.int .u8) i false] k=Fg_number_put_2d4 fuel a b d e f g h i (fun r=>match r with | (j,l,m,n,o,p,q)=>k (.c (i6 j),[.cells 173 (i6 l::.own 1::ctb (.int .u64 m::.int .u64 n::.own 2::.bool o::[])),.vec 3 (.int .i64) p false,.vec 5 (.int .u8) q true])):=by
  kernel_rfl
theorem hG171_2d4 (fuel:Nat):GOK Tryz.prog (G171_2d4 fuel):=
  gc (ok121_cf0 fuel) Tryz.func121 (by kernel_rfl) rfl <|
  gok_nil
theorem B171_2d4_0_blk (fuel:Nat):BlkOK Tryz.prog Tryz.f171.ntmps (.block 0 (.loop (bodyOf 0 Tryz.f171))) (B171_2d4_0 fuel):=bo0 (hG171_2d4 fuel) (by kernel_rfl) (by kernel_rfl) (B171_2d4_0_ok fuel)
def spg171_2d4 (F:YF171_2d4):Ev.Spec:=fun args objs k=>match args,objs with | [.c (.ptr b d),.c (.sl (.pair (.int .i64) (.int .i64)) e)],[.cells f a,.vec g (.int .i64) h false,.vec i (.int .u8) j false]=>(match splitRun 2 ctn a with | some ([i6 l,.own m],[.int .u64 n,.int .u64 o,.own p,.bool q])=>bif qb [b,d,f,g,i,m,p] [0,0,173,3,5,1,2] then F e l n o q h j (fun r=>match r with | (s,t,u,v,w,x,y)=>k (.c (i6 s),[.cells 173 (i6 t::.own 1::ctb (.int .u64 u::.int .u64 v::.own 2::.bool w::[])),.vec 3 (.int .i64) x false,.vec 5 (.int .u8) y true])) else none | _=>none) | _,_=>none
theorem ok171_2d4 (fuel:Nat):FnOK Tryz.prog 171 (spg171_2d4 (F_number_put_2d4 fuel)):=by
  intro args objs kk r h
  unfold spg171_2d4 at h
  split at h
  · skip
    split at h
    rotate_left 1
    · cases h
    rename_i hsp
    have esp:=splitRun_eq hsp
    subst esp
    obtain ⟨hb,h⟩:=cond_some' h
    cases qb_eq hb
    exact fo1 (hG171_2d4 fuel) Tryz.func171 rfl (B171_2d4_0_blk fuel) (by kernel_rfl) _ _ kk r ((F171_2d4_eqg fuel (F_coder_Encoder_Put_cf0 fuel) _ _ _ _ _ _ _ kk).trans h)
  · cases h
def kp81_856 (i:Nat):Option (List Nat):=Ev.look i [(600000,[])]
def Gg81_856 (a:YF121_cf0) (b:YF126_a20) (d:YF169) (e:YF170) (c:YF171_2d4) (g:YF172) (f:Nat):Option Ev.Spec:=Ev.look f [(121,spg121_cf0 a),(126,spg126_a20 b),(169,spg169 d),(170,spg170 e),(171,spg171_2d4 c),(172,spg172 g)]
def G81_856 (fuel:Nat):Nat→Option Ev.Spec:=Gg81_856 (F_coder_Encoder_Put_cf0 fuel) (F_coder_Encoder_Model_a20 fuel) (F_number_Valid fuel) (F_number_fits fuel) (F_number_put_2d4 fuel) (F_number_events fuel)
def F_number_Put_856 (fuel:Nat) (n:Int) (o:Bool) (p C:Int) (D E:Int) (F:Bool) (G H:(List Int)) (k0:(Int×Int×Int×Int×Bool×(List Int)×(List Int))→Option Ans):Option Ans:=(F_coder_Encoder_Put_cf0 fuel ((-1:Int)) (0) C D E F G H (fun (z,a,b,c,d,e,f)=>bif z==7 then k0 (7,a,b,c,d,e,f) else (F_number_Valid fuel o p (fun B=>bif !B then k0 (2,a,b,c,d,e,f) else (F_coder_Encoder_Model_a20 fuel a b c d e f (fun (q,g,h,i,j,k,l,r)=>(F_number_fits fuel q r n (48) (fun m=>bif m != 0 then k0 (m,g,h,i,j,k,l) else (F_number_events fuel n o p (fun A=>(F_number_put_2d4 fuel A g h i j k l (fun (s,t,u,v,w,x,y)=>k0 (s,t,u,v,w,x,y)))))))))))) (fun (z,a,b,c,d,e,f)=>bif z==7 then k0 (7,a,b,c,d,e,f) else (F_number_Valid fuel o p (fun B=>bif !B then k0 (2,a,b,c,d,e,f) else (F_coder_Encoder_Model_a20 fuel a b c d e f (fun (q,g,h,i,j,k,l,r)=>(F_number_fits fuel q r n (48) (fun m=>bif m != 0 then k0 (m,g,h,i,j,k,l) else (F_number_events fuel n o p (fun A=>(F_number_put_2d4 fuel A g h i j k l (fun (s,t,u,v,w,x,y)=>k0 (s,t,u,v,w,x,y)))))))))))))
abbrev YF81_856:Type:=Int→Bool→Int→Int→Int→Int→Bool→LI→LI→((Int×Int×Int×Int×Bool×LI×LI)→Option Ans)→Option Ans
theorem F81_856_eqg (fuel:Nat) (K:YF121_cf0) (t:YF126_a20) (E:YF169) (F:YF170) (u:YF171_2d4) (G:YF172) (p:Int) (q:Bool) (s L:Int) (M N:Int) (O:Bool) (P Q:LI) (k:Ev.Cont):evalFn tab (Gg81_856 K t E F u G) J0 kp81_856 fuel Tryz.f81 [.c (.ptr 0 0),.c (i6 p),.agg [.bool q,i6 s]] [.cells 173 (i6 L::.own 1::ctb (.int .u64 M::.int .u64 N::.own 2::.bool O::[])),.vec 3 (.int .i64) P false,.vec 5 (.int .u8) Q false] (wkC [1000002] k)=(fun  (k0:(Int×Int×Int×Int×Bool×LI×LI)→OA)=>
  (K ((-1:Int)) ((0:Int)) L M N O P Q
  (fun (H,a,b,d,e,f,g)=>
  bif H==(7:Int) then
  k0 ((7:Int),a,b,d,e,f,g)
  else
  (E q s
  (fun J=>
  bif !J then
  k0 ((2:Int),a,b,d,e,f,g)
  else
  (t a b d e f g
  (fun (v,h,i,j,l,m,n,w)=>
  (F v w p ((48:Int))
  (fun o=>
  bif o != (0:Int) then
  k0 (o,h,i,j,l,m,n)
  else
  (G p q s
  (fun I=>
  (u I h i j l m n
  (fun (x,y,z,A,B,C,D)=>
  k0 (x,y,z,A,B,C,D))))))))))))
  (fun (H,a,b,d,e,f,g)=>
  bif H==(7:Int) then
  k0 ((7:Int),a,b,d,e,f,g)
  else
  (E q s
  (fun J=>
  bif !J then
  k0 ((2:Int),a,b,d,e,f,g)
  else
  (t a b d e f g
  (fun (v,h,i,j,l,m,n,w)=>
  (F v w p ((48:Int))
  (fun o=>
  bif o != (0:Int) then
  k0 (o,h,i,j,l,m,n)
  else
  (G p q s
  (fun I=>
  (u I h i j l m n
  (fun (x,y,z,A,B,C,D)=>
  k0 (x,y,z,A,B,C,D)))))))))))))) (fun r=>match r with | (R,S,T,U,V,W,X)=>k (.c (i6 R),[.cells 173 (i6 S::.own 1::ctb (.int .u64 T::.int .u64 U::.own 2::.bool V::[])),.vec 3 (.int .i64) W false,.vec 5 (.int .u8) X true])):=by
  kernel_rfl
theorem hG81_856 (fuel:Nat):GOK Tryz.prog (G81_856 fuel):=
  gc (ok121_cf0 fuel) Tryz.func121 (by kernel_rfl) rfl <|
  gc (ok126_a20 fuel) Tryz.func126 (by kernel_rfl) rfl <|
  gc (ok169 fuel) Tryz.func169 (by kernel_rfl) rfl <|
  gc (ok170 fuel) Tryz.func170 (by kernel_rfl) rfl <|
  gc (ok171_2d4 fuel) Tryz.func171 (by kernel_rfl) rfl <|
  gc (ok172 fuel) Tryz.func172 (by kernel_rfl) rfl <|
  gok_nil
theorem fok81_856 (fuel:Nat):FnOK Tryz.prog 81 (evalFn tab (G81_856 fuel) J0 kp81_856 fuel Tryz.f81):=
  fn_ok tab_ok (hG81_856 fuel) mixed Tryz.func81 (c:=(Tryz.f81.body).getD .skip) rfl (fun q hq=>by
    rw [(by kernel_rfl:obl J0 ((Tryz.f81.body).getD .skip)= [])] at hq
    cases hq)
def spg81_856 (F:YF81_856):Ev.Spec:=fun args objs k=>match args,objs with | [.c (.ptr b d),.c (i6 e),.agg [.bool f,i6 g]],[.cells h a,.vec i (.int .i64) j false,.vec l (.int .u8) m false]=>(match splitRun 2 ctn a with | some ([i6 n,.own o],[.int .u64 p,.int .u64 q,.own s,.bool t])=>bif qb [b,d,h,i,l,o,s] [0,0,173,3,5,1,2] then F e f g n p q t j m (fun r=>match r with | (u,v,w,x,y,z,A)=>k (.c (i6 u),[.cells 173 (i6 v::.own 1::ctb (.int .u64 w::.int .u64 x::.own 2::.bool y::[])),.vec 3 (.int .i64) z false,.vec 5 (.int .u8) A true])) else none | _=>none) | _,_=>none
def spec81_856 (fuel:Nat):Ev.Spec:=spg81_856 (F_number_Put_856 fuel)
theorem ok81_856 (fuel:Nat):FnOK Tryz.prog 81 (spec81_856 fuel):=by
  intro args objs kk r h
  unfold spec81_856 spg81_856 at h
  split at h
  · skip
    split at h
    rotate_left 1
    · cases h
    rename_i hsp
    have esp:=splitRun_eq hsp
    subst esp
    obtain ⟨hb,h⟩:=cond_some' h
    cases qb_eq hb
    exact (fok81_856 fuel).wk [1000002] _ _ kk r ((F81_856_eqg fuel (F_coder_Encoder_Put_cf0 fuel) (F_coder_Encoder_Model_a20 fuel) (F_number_Valid fuel) (F_number_fits fuel) (F_number_put_2d4 fuel) (F_number_events fuel) _ _ _ _ _ _ _ _ _ kk).trans h)
  · cases h
def kp222_40a (i:Nat):Option (List Nat):=Ev.look i []
def Gg222_40a (f:Nat):Option Ev.Spec:=Ev.look f []
def G222_40a (fuel:Nat):Nat→Option Ev.Spec:=Gg222_40a
def F_coder_Decoder_none_40a (fuel:Nat) (b c:Int) (d e:Int) (f g:Int) (h a:Bool) (i j:(List Int)) (k0:(Bool×Int×Int×Int×Int×Int×Int×Bool×Bool×(List Int)×(List Int))→Option Ans):Option Ans:=k0 (!a,b,c,d,e,f,g,h,a,i,j)
abbrev YF222_40a:Type:=Int→Int→Int→Int→Int→Int→Bool→Bool→LI→LI→((Bool×Int×Int×Int×Int×Int×Int×Bool×Bool×LI×LI)→Option Ans)→Option Ans
theorem F222_40a_eq (fuel:Nat) (a b:Int) (d e:Int) (f g:Int) (h i:Bool) (j l:LI) (k:Ev.Cont):evalFn tab (G222_40a fuel) J0 kp222_40a fuel Tryz.f222 [.c (.ptr 0 0)] [.cells 194 (i6 a::.own 1::ctb (.int .u64 b::.int .u64 d::.own 2::i6 e::.int .u64 f::i6 g::.bool h::.bool i::[])),.vec 3 (.int .i64) j false,.vec 5 (.int .u8) l false] k=F_coder_Decoder_none_40a fuel a b d e f g h i j l (fun r=>match r with | (n,o,p,q,s,t,u,v,w,x,m)=>k (.c (.bool n),[.cells 194 (i6 o::.own 1::ctb (.int .u64 p::.int .u64 q::.own 2::i6 s::.int .u64 t::i6 u::.bool v::.bool w::[])),.vec 3 (.int .i64) x false,.vec 5 (.int .u8) m false])):=by
  kernel_rfl
theorem hG222_40a (fuel:Nat):GOK Tryz.prog (G222_40a fuel):=
  gok_nil
def spg222_40a (F:YF222_40a):Ev.Spec:=fun args objs k=>match args,objs with | [.c (.ptr d e)],[.cells f a,.vec g (.int .i64) h false,.vec i (.int .u8) j false]=>(match splitRun 2 ctn a with | some ([i6 l,.own m],[.int .u64 n,.int .u64 o,.own p,i6 q,.int .u64 s,i6 t,.bool u,.bool v])=>bif qb [d,e,f,g,i,m,p] [0,0,194,3,5,1,2] then F l n o q s t u v h j (fun r=>match r with | (w,x,y,z,A,B,C,D,E,G,b)=>k (.c (.bool w),[.cells 194 (i6 x::.own 1::ctb (.int .u64 y::.int .u64 z::.own 2::i6 A::.int .u64 B::i6 C::.bool D::.bool E::[])),.vec 3 (.int .i64) G false,.vec 5 (.int .u8) b false])) else none | _=>none) | _,_=>none
theorem ok222_40a (fuel:Nat):FnOK Tryz.prog 222 (spg222_40a (F_coder_Decoder_none_40a fuel)):=by
  intro args objs kk r h
  unfold spg222_40a at h
  split at h
  · skip
    split at h
    rotate_left 1
    · cases h
    rename_i hsp
    have esp:=splitRun_eq hsp
    subst esp
    obtain ⟨hb,h⟩:=cond_some' h
    cases qb_eq hb
    exact fo0 (hG222_40a fuel) Tryz.func222 rfl (by kernel_rfl) _ _ kk r ((F222_40a_eq fuel _ _ _ _ _ _ _ _ _ _ kk).trans h)
  · cases h
def kp211_40a (i:Nat):Option (List Nat):=Ev.look i []
def Gg211_40a (f:Nat):Option Ev.Spec:=Ev.look f []
def G211_40a (fuel:Nat):Nat→Option Ev.Spec:=Gg211_40a
def F_coder_interval_lose_40a (fuel:Nat) (b a:Int) (c d:Int) (e f:Int) (g h:Bool) (i j:(List Int)) (k0:(Int×Int×Int×Int×Int×Int×Int×Bool×Bool×(List Int)×(List Int))→Option Ans):Option Ans:=k0 (u8.wrap (Ev.ishr IntKind.u64 a 24),b,Ev.iand IntKind.u64 (Ev.ishl IntKind.u64 a 8) 4294967295,Ev.ior IntKind.u64 (Ev.iand IntKind.u64 (Ev.ishl IntKind.u64 c 8) 4294967295) 255,d,e,f,g,h,i,j)
abbrev YF211_40a:Type:=Int→Int→Int→Int→Int→Int→Bool→Bool→LI→LI→((Int×Int×Int×Int×Int×Int×Int×Bool×Bool×LI×LI)→Option Ans)→Option Ans
theorem F211_40a_eq (fuel:Nat) (a b:Int) (d e:Int) (f g:Int) (h i:Bool) (j l:LI) (k:Ev.Cont):evalFn tab (G211_40a fuel) J0 kp211_40a fuel Tryz.f211 [.c (.ptr 0 0)] [.cells 194 (i6 a::.own 1::ctb (.int .u64 b::.int .u64 d::.own 2::i6 e::.int .u64 f::i6 g::.bool h::.bool i::[])),.vec 3 (.int .i64) j false,.vec 5 (.int .u8) l false] k=F_coder_interval_lose_40a fuel a b d e f g h i j l (fun r=>match r with | (n,o,p,q,s,t,u,v,w,x,m)=>k (.c (.int .u8 n),[.cells 194 (i6 o::.own 1::ctb (.int .u64 p::.int .u64 q::.own 2::i6 s::.int .u64 t::i6 u::.bool v::.bool w::[])),.vec 3 (.int .i64) x false,.vec 5 (.int .u8) m false])):=by
  kernel_rfl
theorem hG211_40a (fuel:Nat):GOK Tryz.prog (G211_40a fuel):=
  gok_nil
def spg211_40a (F:YF211_40a):Ev.Spec:=fun args objs k=>match args,objs with | [.c (.ptr d e)],[.cells f a,.vec g (.int .i64) h false,.vec i (.int .u8) j false]=>(match splitRun 2 ctn a with | some ([i6 l,.own m],[.int .u64 n,.int .u64 o,.own p,i6 q,.int .u64 s,i6 t,.bool u,.bool v])=>bif qb [d,e,f,g,i,m,p] [0,0,194,3,5,1,2] then F l n o q s t u v h j (fun r=>match r with | (w,x,y,z,A,B,C,D,E,G,b)=>k (.c (.int .u8 w),[.cells 194 (i6 x::.own 1::ctb (.int .u64 y::.int .u64 z::.own 2::i6 A::.int .u64 B::i6 C::.bool D::.bool E::[])),.vec 3 (.int .i64) G false,.vec 5 (.int .u8) b false])) else none | _=>none) | _,_=>none
theorem ok211_40a (fuel:Nat):FnOK Tryz.prog 211 (spg211_40a (F_coder_interval_lose_40a fuel)):=by
  intro args objs kk r h
  unfold spg211_40a at h
  split at h
  · skip
    split at h
    rotate_left 1
    · cases h
    rename_i hsp
    have esp:=splitRun_eq hsp
    subst esp
    obtain ⟨hb,h⟩:=cond_some' h
    cases qb_eq hb
    exact fo0 (hG211_40a fuel) Tryz.func211 rfl (by kernel_rfl) _ _ kk r ((F211_40a_eq fuel _ _ _ _ _ _ _ _ _ _ kk).trans h)
  · cases h
def kp209_aa3 (i:Nat):Option (List Nat):=Ev.look i [(200001,[0])]
def Gg209_aa3 (a:YF247_bb9) (f:Nat):Option Ev.Spec:=Ev.look f [(247,spg247_bb9 a)]
def G209_aa3 (fuel:Nat):Nat→Option Ev.Spec:=Gg209_aa3 (F_coder_table_chance_bb9 fuel)
def Fg_coder_interval_mid_aa3 (fuel:Nat) (g:YF247_bb9) (b e:Int) (a c:Int) (i j k:Int) (l m:Bool) (d h:LI) (k0:(Int×Int×Int×Int×Int×Int×Int×Bool×Bool×LI×LI)→OA):OA:=bif decide (0≤b∧b < (↑d.length:Int)) then (g e (d.getD b.toNat 0) (fun f=>k0 (u64.wrap (u64.wrap (a+u64.wrap (u64.wrap ((u64.wrap (c - a)).tdiv 4096)*u64.wrap f))+u64.wrap ((u64.wrap ((u64.wrap (c - a)).tmod 4096*u64.wrap f)).tdiv 4096)),e,a,c,i,j,k,l,m,d,h))) else none
abbrev YF209_aa3:Type:=Int→Int→Int→Int→Int→Int→Int→Bool→Bool→LI→LI→((Int×Int×Int×Int×Int×Int×Int×Bool×Bool×LI×LI)→Option Ans)→Option Ans
def F_coder_interval_mid_aa3 (fuel:Nat):YF209_aa3:=Fg_coder_interval_mid_aa3 fuel (F_coder_table_chance_bb9 fuel)
theorem F209_aa3_eqg (fuel:Nat) (a:YF247_bb9) (d e:Int) (f g:Int) (h i j:Int) (l m:Bool) (n b:LI) (k:Ev.Cont):evalFn tab (Gg209_aa3 a) J0 kp209_aa3 fuel Tryz.f209 [.c (.ptr 0 0),.c (i6 d)] [.cells 194 (i6 e::.own 1::ctb (.int .u64 f::.int .u64 g::.own 2::i6 h::.int .u64 i::i6 j::.bool l::.bool m::[])),.vec 3 (.int .i64) n false,.vec 5 (.int .u8) b false] k=Fg_coder_interval_mid_aa3 fuel a d e f g h i j l m n b (fun r=>match r with | (p,q,s,t,u,v,w,x,y,z,o)=>k (.c (.int .u64 p),[.cells 194 (i6 q::.own 1::ctb (.int .u64 s::.int .u64 t::.own 2::i6 u::.int .u64 v::i6 w::.bool x::.bool y::[])),.vec 3 (.int .i64) z false,.vec 5 (.int .u8) o false])):=by
  kernel_rfl
theorem hG209_aa3 (fuel:Nat):GOK Tryz.prog (G209_aa3 fuel):=
  gc (ok247_bb9 fuel) Tryz.func247 (by kernel_rfl) rfl <|
  gok_nil
def spg209_aa3 (F:YF209_aa3):Ev.Spec:=fun args objs k=>match args,objs with | [.c (.ptr e f),.c (i6 g)],[.cells h a,.vec i (.int .i64) j false,.vec l (.int .u8) b false]=>(match splitRun 2 ctn a with | some ([i6 m,.own n],[.int .u64 o,.int .u64 p,.own q,i6 s,.int .u64 t,i6 u,.bool v,.bool w])=>bif qb [e,f,h,i,l,n,q] [0,0,194,3,5,1,2] then F g m o p s t u v w j b (fun r=>match r with | (x,y,z,A,B,C,D,E,G,H,d)=>k (.c (.int .u64 x),[.cells 194 (i6 y::.own 1::ctb (.int .u64 z::.int .u64 A::.own 2::i6 B::.int .u64 C::i6 D::.bool E::.bool G::[])),.vec 3 (.int .i64) H false,.vec 5 (.int .u8) d false])) else none | _=>none) | _,_=>none
theorem ok209_aa3 (fuel:Nat):FnOK Tryz.prog 209 (spg209_aa3 (F_coder_interval_mid_aa3 fuel)):=by
  intro args objs kk r h
  unfold spg209_aa3 at h
  split at h
  · skip
    split at h
    rotate_left 1
    · cases h
    rename_i hsp
    have esp:=splitRun_eq hsp
    subst esp
    obtain ⟨hb,h⟩:=cond_some' h
    cases qb_eq hb
    exact fo0 (hG209_aa3 fuel) Tryz.func209 rfl (by kernel_rfl) _ _ kk r ((F209_aa3_eqg fuel (F_coder_table_chance_bb9 fuel) _ _ _ _ _ _ _ _ _ _ _ kk).trans h)
  · cases h
def kp210_40a (i:Nat):Option (List Nat):=Ev.look i [(200001,[0])]
def Gg210_40a (f:Nat):Option Ev.Spec:=Ev.look f []
def G210_40a (fuel:Nat):Nat→Option Ev.Spec:=Gg210_40a
def F_coder_interval_same_40a (fuel:Nat) (c a:Int) (b d:Int) (e f:Int) (g h:Bool) (i j:(List Int)) (k0:(Bool×Int×Int×Int×Int×Int×Int×Bool×Bool×(List Int)×(List Int))→Option Ans):Option Ans:=k0 (Ev.ishr IntKind.u64 a 24==Ev.ishr IntKind.u64 b 24,c,a,b,d,e,f,g,h,i,j)
abbrev YF210_40a:Type:=Int→Int→Int→Int→Int→Int→Bool→Bool→LI→LI→((Bool×Int×Int×Int×Int×Int×Int×Bool×Bool×LI×LI)→Option Ans)→Option Ans
theorem F210_40a_eq (fuel:Nat) (a b:Int) (d e:Int) (f g:Int) (h i:Bool) (j l:LI) (k:Ev.Cont):evalFn tab (G210_40a fuel) J0 kp210_40a fuel Tryz.f210 [.c (.ptr 0 0)] [.cells 194 (i6 a::.own 1::ctb (.int .u64 b::.int .u64 d::.own 2::i6 e::.int .u64 f::i6 g::.bool h::.bool i::[])),.vec 3 (.int .i64) j false,.vec 5 (.int .u8) l false] k=F_coder_interval_same_40a fuel a b d e f g h i j l (fun r=>match r with | (n,o,p,q,s,t,u,v,w,x,m)=>k (.c (.bool n),[.cells 194 (i6 o::.own 1::ctb (.int .u64 p::.int .u64 q::.own 2::i6 s::.int .u64 t::i6 u::.bool v::.bool w::[])),.vec 3 (.int .i64) x false,.vec 5 (.int .u8) m false])):=by
  kernel_rfl
theorem hG210_40a (fuel:Nat):GOK Tryz.prog (G210_40a fuel):=
  gok_nil
def spg210_40a (F:YF210_40a):Ev.Spec:=fun args objs k=>match args,objs with | [.c (.ptr d e)],[.cells f a,.vec g (.int .i64) h false,.vec i (.int .u8) j false]=>(match splitRun 2 ctn a with | some ([i6 l,.own m],[.int .u64 n,.int .u64 o,.own p,i6 q,.int .u64 s,i6 t,.bool u,.bool v])=>bif qb [d,e,f,g,i,m,p] [0,0,194,3,5,1,2] then F l n o q s t u v h j (fun r=>match r with | (w,x,y,z,A,B,C,D,E,G,b)=>k (.c (.bool w),[.cells 194 (i6 x::.own 1::ctb (.int .u64 y::.int .u64 z::.own 2::i6 A::.int .u64 B::i6 C::.bool D::.bool E::[])),.vec 3 (.int .i64) G false,.vec 5 (.int .u8) b false])) else none | _=>none) | _,_=>none
theorem ok210_40a (fuel:Nat):FnOK Tryz.prog 210 (spg210_40a (F_coder_interval_same_40a fuel)):=by
  intro args objs kk r h
  unfold spg210_40a at h
  split at h
  · skip
    split at h
    rotate_left 1
    · cases h
    rename_i hsp
    have esp:=splitRun_eq hsp
    subst esp
    obtain ⟨hb,h⟩:=cond_some' h
    cases qb_eq hb
    exact fo0 (hG210_40a fuel) Tryz.func210 rfl (by kernel_rfl) _ _ kk r ((F210_40a_eq fuel _ _ _ _ _ _ _ _ _ _ kk).trans h)
  · cases h
def kp208_7ec (i:Nat):Option (List Nat):=Ev.look i [(200003,[0])]
def Gg208_7ec (a:YF246) (f:Nat):Option Ev.Spec:=Ev.look f [(246,spg246 a)]
def G208_7ec (fuel:Nat):Nat→Option Ev.Spec:=Gg208_7ec (F_coder_next fuel)
def Fg_coder_interval_take_7ec (fuel:Nat) (f:YF246) (a d:Int) (i c:Int) (n o:Int) (j k l:Int) (m g:Bool) (b h:LI) (k0:(Int×Int×Int×Int×Int×Int×Bool×Bool×LI×LI)→OA):OA:=bif d==1 then bif decide (0≤a∧a < (↑b.length:Int)) then (f c (b.getD a.toNat 0) d (fun e=>bif decide (0≤a∧a < (↑b.length:Int)) then k0 (c,n,i,j,k,l,m,g,b.set a.toNat e,h) else none)) else none else bif decide (0≤a∧a < (↑b.length:Int)) then (f c (b.getD a.toNat 0) d (fun e=>bif decide (0≤a∧a < (↑b.length:Int)) then k0 (c,u64.wrap (i+1),o,j,k,l,m,g,b.set a.toNat e,h) else none)) else none
abbrev YF208_7ec:Type:=Int→Int→Int→Int→Int→Int→Int→Int→Int→Bool→Bool→LI→LI→((Int×Int×Int×Int×Int×Int×Bool×Bool×LI×LI)→Option Ans)→Option Ans
def F_coder_interval_take_7ec (fuel:Nat):YF208_7ec:=Fg_coder_interval_take_7ec fuel (F_coder_next fuel)
theorem F208_7ec_eqg (fuel:Nat) (a:YF246) (f g:Int) (h i:Int) (j l:Int) (m n o:Int) (p b:Bool) (d e:LI) (k:Ev.Cont):evalFn tab (Gg208_7ec a) J0 kp208_7ec fuel Tryz.f208 [.c (.ptr 0 0),.c (i6 f),.c (i6 g),.c (.int .u64 h)] [.cells 194 (i6 i::.own 1::ctb (.int .u64 j::.int .u64 l::.own 2::i6 m::.int .u64 n::i6 o::.bool p::.bool b::[])),.vec 3 (.int .i64) d false,.vec 5 (.int .u8) e false] k=Fg_coder_interval_take_7ec fuel a f g h i j l m n o p b d e (fun r=>match r with | (q,s,t,u,v,w,x,y,z,A)=>k (.tup [],[.cells 194 (i6 q::.own 1::ctb (.int .u64 s::.int .u64 t::.own 2::i6 u::.int .u64 v::i6 w::.bool x::.bool y::[])),.vec 3 (.int .i64) z false,.vec 5 (.int .u8) A false])):=by
  kernel_rfl
theorem hG208_7ec (fuel:Nat):GOK Tryz.prog (G208_7ec fuel):=
  gc (ok246 fuel) Tryz.func246 (by kernel_rfl) rfl <|
  gok_nil
def spg208_7ec (F:YF208_7ec):Ev.Spec:=fun args objs k=>match args,objs with | [.c (.ptr f g),.c (i6 h),.c (i6 i),.c (.int .u64 j)],[.cells l a,.vec m (.int .i64) b false,.vec n (.int .u8) d false]=>(match splitRun 2 ctn a with | some ([i6 o,.own p],[.int .u64 q,.int .u64 s,.own t,i6 u,.int .u64 v,i6 w,.bool x,.bool e])=>bif qb [f,g,l,m,n,p,t] [0,0,194,3,5,1,2] then F h i j o q s u v w x e b d (fun r=>match r with | (y,z,A,B,C,D,E,G,H,I)=>k (.tup [],[.cells 194 (i6 y::.own 1::ctb (.int .u64 z::.int .u64 A::.own 2::i6 B::.int .u64 C::i6 D::.bool E::.bool G::[])),.vec 3 (.int .i64) H false,.vec 5 (.int .u8) I false])) else none | _=>none) | _,_=>none
theorem ok208_7ec (fuel:Nat):FnOK Tryz.prog 208 (spg208_7ec (F_coder_interval_take_7ec fuel)):=by
  intro args objs kk r h
  unfold spg208_7ec at h
  split at h
  · skip
    split at h
    rotate_left 1
    · cases h
    rename_i hsp
    have esp:=splitRun_eq hsp
    subst esp
    obtain ⟨hb,h⟩:=cond_some' h
    cases qb_eq hb
    exact fo0 (hG208_7ec fuel) Tryz.func208 rfl (by kernel_rfl) _ _ kk r ((F208_7ec_eqg fuel (F_coder_next fuel) _ _ _ _ _ _ _ _ _ _ _ _ _ kk).trans h)
  · cases h
def kp146_aa3 (i:Nat):Option (List Nat):=Ev.look i [(12,[0,1,6,8,9]),(100001,[0,1,6,8,9]),(200010,[0]),(400001,[4,5])]
def Gg146_aa3 (a:YF145_40a) (b:YF208_7ec) (c:YF209_aa3) (d:YF210_40a) (e:YF211_40a) (g:YF222_40a) (f:Nat):Option Ev.Spec:=Ev.look f [(145,spg145_40a a),(208,spg208_7ec b),(209,spg209_aa3 c),(210,spg210_40a d),(211,spg211_40a e),(222,spg222_40a g)]
def G146_aa3 (fuel:Nat):Nat→Option Ev.Spec:=Gg146_aa3 (F_coder_Decoder_shift_40a fuel) (F_coder_interval_take_7ec fuel) (F_coder_interval_mid_aa3 fuel) (F_coder_interval_same_40a fuel) (F_coder_interval_lose_40a fuel) (F_coder_Decoder_none_40a fuel)
abbrev V_coder_Decoder_Get_aa3_1:Type:=Int×Int×Int×Int×Int×Int×Int×Int×Int×Bool×Bool×LI×LI×Int×Int×Int×Int×Int×Int×Bool×Bool
abbrev W_coder_Decoder_Get_aa3_1:Type:=(Int×Int×Int×Int×Int×Int×Int×Int×Int×Bool×Bool×LI×LI×Int×Int×Int×Int×Int×Int×Bool×Bool→OA)
def Sg_coder_Decoder_Get_aa3_1 (fuel:Nat) (x:YF145_40a) (a6:YF208_7ec) (a7:YF209_aa3) (y:YF210_40a) (z:YF211_40a) (a8:YF222_40a) (u v:Int) (w Z:Int) (a0 a1:Int) (a2 a3 a4:Int) (a5 W:Bool) (X Y:LI) (m n:Int) (o p:Int) (q r:Int) (s t:Bool) (c:V_coder_Decoder_Get_aa3_1→OA) (B:W_coder_Decoder_Get_aa3_1):OA:=match B with | b=>(y Z a0 a1 a2 a3 a4 a5 W X Y (fun (M,d,e,f,g,h,i,j,k,l,a)=>bif M then (z d e f g h i j k l a (fun (a9,N,O,P,Q,R,S,T,U,V,A)=>(x N O P Q R S T U V A (fun (C,D,E,F,G,H,I,J,K,L)=>c (u,v,w,C,D,E,F,G,H,I,J,K,L,m,n,o,p,q,r,s,t))))) else b (u,v,w,d,e,f,g,h,i,j,k,l,a,m,n,o,p,q,r,s,t)))
def S_coder_Decoder_Get_aa3_1 (fuel:Nat) (v:Int×Int×Int×Int×Int×Int×Int×Int×Int×Bool×Bool×(List Int)×(List Int)×Int×Int×Int×Int×Int×Int×Bool×Bool) (c:(Int×Int×Int×Int×Int×Int×Int×Int×Int×Bool×Bool×(List Int)×(List Int)×Int×Int×Int×Int×Int×Int×Bool×Bool)→Option Ans) (B:(Int×Int×Int×Int×Int×Int×Int×Int×Int×Bool×Bool×(List Int)×(List Int)×Int×Int×Int×Int×Int×Int×Bool×Bool→Option Ans)):Option Ans:=match v with | (m,n,o,p,q,r,s,t,u,w,a,b,d,e,f,g,h,i,j,k,l)=>Sg_coder_Decoder_Get_aa3_1 fuel (F_coder_Decoder_shift_40a fuel) (F_coder_interval_take_7ec fuel) (F_coder_interval_mid_aa3 fuel) (F_coder_interval_same_40a fuel) (F_coder_interval_lose_40a fuel) (F_coder_Decoder_none_40a fuel) m n o p q r s t u w a b d e f g h i j k l c B
def L_coder_Decoder_Get_aa3_1 (fuel:Nat) (v:V_coder_Decoder_Get_aa3_1) (b:W_coder_Decoder_Get_aa3_1):Option Ans:=iter (S_coder_Decoder_Get_aa3_1 fuel) fuel v b
def T146_aa3_1 (v:V_coder_Decoder_Get_aa3_1):Ev.St:=match v with | (m,n,o,p,q,r,s,t,u,w,a,b,d,e,f,g,h,i,j,k,l)=>⟨[(0,.c (.ptr 0 0)),(1,.c (i6 m)),(6,.c (i6 n)),(8,.c (.ptr 3 0)),(9,.c (i6 o))],[(0,.cells 194 (i6 p::.own 1::ctb (.int .u64 q::.int .u64 r::.own 2::i6 s::.int .u64 t::i6 u::.bool w::.bool a::[]))),(1,.vec 3 (.int .i64) b false),(2,.vec 5 (.int .u8) d false),(3,.cells 194 (i6 e::.own 1::ctb (.int .u64 f::.int .u64 g::.own 2::i6 h::.int .u64 i::i6 j::.bool k::.bool l::[])))],4,3⟩
def E146_aa3_1 (K:KT):W_coder_Decoder_Get_aa3_1:=(fun v=>match v with | (m,n,o,p,q,r,s,t,u,w,a,b,d,e,f,g,h,i,j,k,l)=>K .normal ⟨[(0,.c (.ptr 0 0)),(1,.c (i6 m)),(6,.c (i6 n)),(8,.c (.ptr 3 0)),(9,.c (i6 o))],[(0,.cells 194 (i6 p::.own 1::ctb (.int .u64 q::.int .u64 r::.own 2::i6 s::.int .u64 t::i6 u::.bool w::.bool a::[]))),(1,.vec 3 (.int .i64) b false),(2,.vec 5 (.int .u8) d false),(3,.cells 194 (i6 e::.own 1::ctb (.int .u64 f::.int .u64 g::.own 2::i6 h::.int .u64 i::i6 j::.bool k::.bool l::[])))],4,3⟩)
theorem S146_aa3_1_okg (fuel:Nat) (a:YF145_40a) (b:YF208_7ec) (c:YF209_aa3) (d:YF210_40a) (e:YF211_40a) (f:YF222_40a) (R:Ev.St→OA) (K:KT) (r s:Int) (t u:Int) (w x:Int) (y z A:Int) (B g:Bool) (h i:LI) (j k:Int) (l m:Int) (n o:Int) (p q:Bool):evalCode tab (Gg146_aa3 a b c d e f) J0 kp146_aa3 fuel (bodyOf 1 Tryz.f146) (T146_aa3_1 (r,s,t,u,w,x,y,z,A,B,g,h,i,j,k,l,m,n,o,p,q)) (lc kp146_aa3 12 1 R K)=Sg_coder_Decoder_Get_aa3_1 fuel a b c d e f r s t u w x y z A B g h i j k l m n o p q (fun v=>R (T146_aa3_1 v)) (E146_aa3_1 K):=by
  kernel_rfl
def B146_aa3_1 (fuel:Nat):Ev.Blk:=fun st K=>match canonO (kp146_aa3 12) st with | some s=>(match s with | ⟨[(C,.c (.ptr D E)),(F,.c (i6 G)),(H,.c (i6 I)),(J,.c (.ptr L M)),(N,.c (i6 O))],[(P,.cells a b),(d,.vec e (.int .i64) f false),(g,.vec h (.int .u8) i false),(j,.cells k l)],m,n⟩=>(match splitRun 2 ctn b with | some ([i6 Q,.own o],[.int .u64 R,.int .u64 S,.own p,i6 T,.int .u64 U,i6 V,.bool W,.bool q])=>(match splitRun 2 ctn l with | some ([i6 r,.own t],[.int .u64 u,.int .u64 v,.own w,i6 x,.int .u64 y,i6 z,.bool A,.bool B])=>bif qb [C,D,E,F,H,J,L,M,N,P,a,d,e,g,h,j,k,m,n,o,p,t,w] [0,0,0,1,6,8,3,0,9,0,194,1,3,2,5,3,194,4,3,1,2,1,2] then iter (S_coder_Decoder_Get_aa3_1 fuel) fuel (G,I,O,Q,R,S,T,U,V,W,q,f,i,r,u,v,x,y,z,A,B) (E146_aa3_1 K) else none | _=>none) | _=>none) | _=>none) | none=>none
theorem B146_aa3_1_ok (fuel:Nat) (st:Ev.St) (K:KT) (r:Ans) (h:B146_aa3_1 fuel st K=some r):evalCode tab (G146_aa3 fuel) J0 kp146_aa3 fuel (.block 1 (.loop (bodyOf 1 Tryz.f146))) st K=some r:=by
  unfold B146_aa3_1 at h
  split at h
  · rename_i s hs
    split at h
    · skip
      split at h
      rotate_left 1
      · cases h
      rename_i hsp
      have esp:=splitRun_eq hsp
      subst esp
      split at h
      rotate_left 1
      · cases h
      rename_i hsp
      have esp:=splitRun_eq hsp
      subst esp
      obtain ⟨hb,h⟩:=cond_some' h
      cases qb_eq hb
      exact blk_loop (S:=T146_aa3_1) (ks:=E146_aa3_1) (step:=S_coder_Decoder_Get_aa3_1 fuel) (v:=(_,_,_,_,_,_,_,_,_,_,_,_,_,_,_,_,_,_,_,_,_)) (by kernel_rfl) (by kernel_rfl) (fun R K v=>by obtain ⟨m,n,o,p,q,t,u,w,x,y,a,b,c,d,e,f,g,i,j,k,l⟩:=v; exact S146_aa3_1_okg fuel (F_coder_Decoder_shift_40a fuel) (F_coder_interval_take_7ec fuel) (F_coder_interval_mid_aa3 fuel) (F_coder_interval_same_40a fuel) (F_coder_interval_lose_40a fuel) (F_coder_Decoder_none_40a fuel) R K m n o p q t u w x y a b c d e f g i j k l) hs h
    · cases h
  · cases h
def J146_aa3 (fuel:Nat) (i:Nat):Option Ev.Blk:=Ev.look i [(100001,B146_aa3_1 fuel)]
def Fg_coder_Decoder_Get_aa3 (fuel:Nat) (c5:YF145_40a) (P:YF208_7ec) (b2:YF209_aa3) (c6:YF210_40a) (c7:YF211_40a) (b3:YF222_40a) (a b6:Int) (b7 b8:Int) (b9 c0 c1:Int) (c2 c3:Bool) (c4 b5:LI) (k0:(Int×Int×Int×Int×Int×Int×Int×Int×Bool×Bool×LI×LI)→OA):OA:=(b3 b6 b7 b8 b9 c0 c1 c2 c3 c4 b5 (fun (b4,V,W,X,Y,Z,a0,R,a1,S,T)=>bif b4 then k0 (0,7,V,W,X,Y,Z,a0,R,a1,S,T) else bif decide (a < 0) then k0 (0,2,V,W,X,Y,Z,a0,R,a1,S,T) else bif decide (a≥(↑S.length:Int)) then k0 (0,2,V,W,X,Y,Z,a0,R,a1,S,T) else bif R then k0 (0,6,V,W,X,Y,Z,a0,R,a1,S,T) else (b2 a V W X Y Z a0 R a1 S T (fun (E,h,i,j,k,g,l,m,n,f,Q)=>bif decide (g≤E) then bif decide (0≤a∧a < (↑f.length:Int)) then both ((P a (1) E h i j k g l m n f Q (fun (a2,a3,a4,a5,a6,a7,a8,a9,b0,b1)=>(L_coder_Decoder_Get_aa3_1 fuel (a,1,f.getD a.toNat 0,a2,a3,a4,a5,a6,a7,a8,a9,b0,b1,h,i,j,k,g,l,m,n) (fun (c,w,x,y,z,A,B,C,e,D,o,b,d,p,q,r,s,t,u,U,v)=>bif decide (e > 4) then bif decide (0≤c∧c < (↑b.length:Int)) then k0 (0,6,p,q,r,s,t,u,true,v,b.set c.toNat x,d) else none else k0 (w,0,y,z,A,B,C,e,D,o,b,d)))))) (both ((P a (1) E h i j k g l m n f Q (fun (F,G,H,I,J,K,L,M,N,O)=>(L_coder_Decoder_Get_aa3_1 fuel (a,1,f.getD a.toNat 0,F,G,H,I,J,K,L,M,N,O,h,i,j,k,g,l,m,n) (fun (c,w,x,y,z,A,B,C,e,D,o,b,d,p,q,r,s,t,u,U,v)=>bif decide (e > 4) then bif decide (0≤c∧c < (↑b.length:Int)) then k0 (0,6,p,q,r,s,t,u,true,v,b.set c.toNat x,d) else none else k0 (w,0,y,z,A,B,C,e,D,o,b,d)))))) ((P a (1) E h i j k g l m n f Q (fun (F,G,H,I,J,K,L,M,N,O)=>(L_coder_Decoder_Get_aa3_1 fuel (a,1,f.getD a.toNat 0,F,G,H,I,J,K,L,M,N,O,h,i,j,k,g,l,m,n) (fun (c,w,x,y,z,A,B,C,e,D,o,b,d,p,q,r,s,t,u,U,v)=>bif decide (e > 4) then bif decide (0≤c∧c < (↑b.length:Int)) then k0 (0,6,p,q,r,s,t,u,true,v,b.set c.toNat x,d) else none else k0 (w,0,y,z,A,B,C,e,D,o,b,d))))))) else none else bif decide (0≤a∧a < (↑f.length:Int)) then both ((P a (0) E h i j k g l m n f Q (fun (a2,a3,a4,a5,a6,a7,a8,a9,b0,b1)=>(L_coder_Decoder_Get_aa3_1 fuel (a,0,f.getD a.toNat 0,a2,a3,a4,a5,a6,a7,a8,a9,b0,b1,h,i,j,k,g,l,m,n) (fun (c,w,x,y,z,A,B,C,e,D,o,b,d,p,q,r,s,t,u,U,v)=>bif decide (e > 4) then bif decide (0≤c∧c < (↑b.length:Int)) then k0 (0,6,p,q,r,s,t,u,true,v,b.set c.toNat x,d) else none else k0 (w,0,y,z,A,B,C,e,D,o,b,d)))))) (both ((P a (0) E h i j k g l m n f Q (fun (F,G,H,I,J,K,L,M,N,O)=>(L_coder_Decoder_Get_aa3_1 fuel (a,0,f.getD a.toNat 0,F,G,H,I,J,K,L,M,N,O,h,i,j,k,g,l,m,n) (fun (c,w,x,y,z,A,B,C,e,D,o,b,d,p,q,r,s,t,u,U,v)=>bif decide (e > 4) then bif decide (0≤c∧c < (↑b.length:Int)) then k0 (0,6,p,q,r,s,t,u,true,v,b.set c.toNat x,d) else none else k0 (w,0,y,z,A,B,C,e,D,o,b,d)))))) ((P a (0) E h i j k g l m n f Q (fun (F,G,H,I,J,K,L,M,N,O)=>(L_coder_Decoder_Get_aa3_1 fuel (a,0,f.getD a.toNat 0,F,G,H,I,J,K,L,M,N,O,h,i,j,k,g,l,m,n) (fun (c,w,x,y,z,A,B,C,e,D,o,b,d,p,q,r,s,t,u,U,v)=>bif decide (e > 4) then bif decide (0≤c∧c < (↑b.length:Int)) then k0 (0,6,p,q,r,s,t,u,true,v,b.set c.toNat x,d) else none else k0 (w,0,y,z,A,B,C,e,D,o,b,d))))))) else none))))
abbrev YF146_aa3:Type:=Int→Int→Int→Int→Int→Int→Int→Bool→Bool→LI→LI→((Int×Int×Int×Int×Int×Int×Int×Int×Bool×Bool×LI×LI)→Option Ans)→Option Ans
def F_coder_Decoder_Get_aa3 (fuel:Nat):YF146_aa3:=Fg_coder_Decoder_Get_aa3 fuel (F_coder_Decoder_shift_40a fuel) (F_coder_interval_take_7ec fuel) (F_coder_interval_mid_aa3 fuel) (F_coder_interval_same_40a fuel) (F_coder_interval_lose_40a fuel) (F_coder_Decoder_none_40a fuel)
theorem F146_aa3_eqg (fuel:Nat) (a:YF145_40a) (b:YF208_7ec) (d:YF209_aa3) (e:YF210_40a) (f:YF211_40a) (g:YF222_40a) (i j:Int) (l m:Int) (n o p:Int) (q s:Bool) (t h:LI) (k:Ev.Cont):evalFn tab (Gg146_aa3 a b d e f g) (J146_aa3 fuel) kp146_aa3 fuel Tryz.f146 [.c (.ptr 0 0),.c (i6 i)] [.cells 194 (i6 j::.own 1::ctb (.int .u64 l::.int .u64 m::.own 2::i6 n::.int .u64 o::i6 p::.bool q::.bool s::[])),.vec 3 (.int .i64) t false,.vec 5 (.int .u8) h false] k=Fg_coder_Decoder_Get_aa3 fuel a b d e f g i j l m n o p q s t h (fun r=>match r with | (w,x,y,z,A,B,C,D,E,F,u,v)=>k (.tup [(false,[i6 w]),(false,[i6 x])],[.cells 194 (i6 y::.own 1::ctb (.int .u64 z::.int .u64 A::.own 2::i6 B::.int .u64 C::i6 D::.bool E::.bool F::[])),.vec 3 (.int .i64) u false,.vec 5 (.int .u8) v false])):=by
  kernel_rfl
theorem hG146_aa3 (fuel:Nat):GOK Tryz.prog (G146_aa3 fuel):=
  gc (ok145_40a fuel) Tryz.func145 (by kernel_rfl) rfl <|
  gc (ok208_7ec fuel) Tryz.func208 (by kernel_rfl) rfl <|
  gc (ok209_aa3 fuel) Tryz.func209 (by kernel_rfl) rfl <|
  gc (ok210_40a fuel) Tryz.func210 (by kernel_rfl) rfl <|
  gc (ok211_40a fuel) Tryz.func211 (by kernel_rfl) rfl <|
  gc (ok222_40a fuel) Tryz.func222 (by kernel_rfl) rfl <|
  gok_nil
theorem B146_aa3_1_blk (fuel:Nat):BlkOK Tryz.prog Tryz.f146.ntmps (.block 1 (.loop (bodyOf 1 Tryz.f146))) (B146_aa3_1 fuel):=bo0 (hG146_aa3 fuel) (by kernel_rfl) (by kernel_rfl) (B146_aa3_1_ok fuel)
def spg146_aa3 (F:YF146_aa3):Ev.Spec:=fun args objs k=>match args,objs with | [.c (.ptr f g),.c (i6 h)],[.cells i a,.vec j (.int .i64) l false,.vec m (.int .u8) b false]=>(match splitRun 2 ctn a with | some ([i6 n,.own o],[.int .u64 p,.int .u64 q,.own s,i6 t,.int .u64 u,i6 v,.bool w,.bool x])=>bif qb [f,g,i,j,m,o,s] [0,0,194,3,5,1,2] then F h n p q t u v w x l b (fun r=>match r with | (y,z,A,B,C,D,E,G,H,I,d,e)=>k (.tup [(false,[i6 y]),(false,[i6 z])],[.cells 194 (i6 A::.own 1::ctb (.int .u64 B::.int .u64 C::.own 2::i6 D::.int .u64 E::i6 G::.bool H::.bool I::[])),.vec 3 (.int .i64) d false,.vec 5 (.int .u8) e false])) else none | _=>none) | _,_=>none
def spec146_aa3 (fuel:Nat):Ev.Spec:=spg146_aa3 (F_coder_Decoder_Get_aa3 fuel)
theorem ok146_aa3 (fuel:Nat):FnOK Tryz.prog 146 (spec146_aa3 fuel):=by
  intro args objs kk r h
  unfold spec146_aa3 spg146_aa3 at h
  split at h
  · skip
    split at h
    rotate_left 1
    · cases h
    rename_i hsp
    have esp:=splitRun_eq hsp
    subst esp
    obtain ⟨hb,h⟩:=cond_some' h
    cases qb_eq hb
    exact fo1 (hG146_aa3 fuel) Tryz.func146 rfl (B146_aa3_1_blk fuel) (by kernel_rfl) _ _ kk r ((F146_aa3_eqg fuel (F_coder_Decoder_shift_40a fuel) (F_coder_interval_take_7ec fuel) (F_coder_interval_mid_aa3 fuel) (F_coder_interval_same_40a fuel) (F_coder_interval_lose_40a fuel) (F_coder_Decoder_none_40a fuel) _ _ _ _ _ _ _ _ _ _ _ kk).trans h)
  · cases h
def kp147_40a (i:Nat):Option (List Nat):=Ev.look i []
def Gg147_40a (b:YF204) (a:YF222_40a) (f:Nat):Option Ev.Spec:=Ev.look f [(204,spg204 b),(222,spg222_40a a)]
def G147_40a (fuel:Nat):Nat→Option Ev.Spec:=Gg147_40a (F_coder_clone fuel) (F_coder_Decoder_none_40a fuel)
def Fg_coder_Decoder_Model_40a (fuel:Nat) (l:YF204) (k:YF222_40a) (p q:Int) (r s:Int) (t u:Int) (v w:Bool) (x y:LI) (k0:(Int×Int×Int×Int×Int×Int×Int×Bool×Bool×LI×LI×LI)→OA):OA:=(k p q r s t u v w x y (fun (m,a,d,e,f,g,h,i,j,b,c)=>bif m then k0 (0,a,d,e,f,g,h,i,j,b,c,[]) else (l a b (fun (n,o)=>k0 (n,a,d,e,f,g,h,i,j,b,c,o)))))
abbrev YF147_40a:Type:=Int→Int→Int→Int→Int→Int→Bool→Bool→LI→LI→((Int×Int×Int×Int×Int×Int×Int×Bool×Bool×LI×LI×LI)→Option Ans)→Option Ans
def F_coder_Decoder_Model_40a (fuel:Nat):YF147_40a:=Fg_coder_Decoder_Model_40a fuel (F_coder_clone fuel) (F_coder_Decoder_none_40a fuel)
theorem F147_40a_eqg (fuel:Nat) (b:YF204) (a:YF222_40a) (d e:Int) (f g:Int) (h i:Int) (j l:Bool) (m n:LI) (k:Ev.Cont):evalFn tab (Gg147_40a b a) J0 kp147_40a fuel Tryz.f147 [.c (.ptr 0 0)] [.cells 194 (i6 d::.own 1::ctb (.int .u64 e::.int .u64 f::.own 2::i6 g::.int .u64 h::i6 i::.bool j::.bool l::[])),.vec 3 (.int .i64) m false,.vec 5 (.int .u8) n false] k=Fg_coder_Decoder_Model_40a fuel b a d e f g h i j l m n (fun r=>match r with | (q,s,t,u,v,w,x,y,z,A,o,p)=>k (.agg [i6 q,.own 3],[.cells 194 (i6 s::.own 1::ctb (.int .u64 t::.int .u64 u::.own 2::i6 v::.int .u64 w::i6 x::.bool y::.bool z::[])),.vec 3 (.int .i64) A false,.vec 5 (.int .u8) o false,.vec 3 (.int .i64) p true])):=by
  kernel_rfl
theorem hG147_40a (fuel:Nat):GOK Tryz.prog (G147_40a fuel):=
  gc (ok204 fuel) Tryz.func204 (by kernel_rfl) rfl <|
  gc (ok222_40a fuel) Tryz.func222 (by kernel_rfl) rfl <|
  gok_nil
def spg147_40a (F:YF147_40a):Ev.Spec:=fun args objs k=>match args,objs with | [.c (.ptr e f)],[.cells g a,.vec h (.int .i64) i false,.vec j (.int .u8) l false]=>(match splitRun 2 ctn a with | some ([i6 m,.own n],[.int .u64 o,.int .u64 p,.own q,i6 s,.int .u64 t,i6 u,.bool v,.bool w])=>bif qb [e,f,g,h,j,n,q] [0,0,194,3,5,1,2] then F m o p s t u v w i l (fun r=>match r with | (x,y,z,A,B,C,D,E,G,H,b,d)=>k (.agg [i6 x,.own 3],[.cells 194 (i6 y::.own 1::ctb (.int .u64 z::.int .u64 A::.own 2::i6 B::.int .u64 C::i6 D::.bool E::.bool G::[])),.vec 3 (.int .i64) H false,.vec 5 (.int .u8) b false,.vec 3 (.int .i64) d true])) else none | _=>none) | _,_=>none
def spec147_40a (fuel:Nat):Ev.Spec:=spg147_40a (F_coder_Decoder_Model_40a fuel)
theorem ok147_40a (fuel:Nat):FnOK Tryz.prog 147 (spec147_40a fuel):=by
  intro args objs kk r h
  unfold spec147_40a spg147_40a at h
  split at h
  · skip
    split at h
    rotate_left 1
    · cases h
    rename_i hsp
    have esp:=splitRun_eq hsp
    subst esp
    obtain ⟨hb,h⟩:=cond_some' h
    cases qb_eq hb
    exact fo0 (hG147_40a fuel) Tryz.func147 rfl (by kernel_rfl) _ _ kk r ((F147_40a_eqg fuel (F_coder_clone fuel) (F_coder_Decoder_none_40a fuel) _ _ _ _ _ _ _ _ _ _ kk).trans h)
  · cases h
def kp166_b82 (i:Nat):Option (List Nat):=Ev.look i [(11,[0,1,3,10,11,12,1000002]),(100000,[0,11]),(400000,[8]),(600000,[])]
def Gg166_b82 (a:YF121_cf0) (b:YF126_a20) (d:YF170) (c:YF171_2d4) (f:Nat):Option Ev.Spec:=Ev.look f [(121,spg121_cf0 a),(126,spg126_a20 b),(170,spg170 d),(171,spg171_2d4 c)]
def G166_b82 (fuel:Nat):Nat→Option Ev.Spec:=Gg166_b82 (F_coder_Encoder_Put_cf0 fuel) (F_coder_Encoder_Model_a20 fuel) (F_number_fits fuel) (F_number_put_2d4 fuel)
abbrev V_number_PutId_b82_0:Type:=Int×Int×Int×Int×Int×Int×Int×Bool×LI×LI×(List (Int×Int))
abbrev W_number_PutId_b82_0:Type:=(Int×Int×Int×Bool×LI×LI×(List (Int×Int))→OA)
def Sg_number_PutId_b82_0 (fuel:Nat) (n:YF121_cf0) (o:YF126_a20) (q:YF170) (p:YF171_2d4) (f d:Int) (g a:Int) (h i j:Int) (k:Bool) (l m:LI) (e:(List (Int×Int))) (c:V_number_PutId_b82_0→OA) (B:W_number_PutId_b82_0):OA:=match B with | b=>bif decide (a≥0) then bif decide (a < 0) then none else bif decide ((e.length+ [(i64.wrap (i64.wrap (f+g) - (1:Int)),Ev.iand IntKind.i64 (Ev.ishr IntKind.i64 d a) (1:Int))].length)*(16:Nat)≤(140737488355328:Nat)∧e.length+ [(i64.wrap (i64.wrap (f+g) - (1:Int)),Ev.iand IntKind.i64 (Ev.ishr IntKind.i64 d a) (1:Int))].length≤(140737488355328:Nat)) then c (f,d,i64.wrap (i64.wrap ((2:Int)*g)+Ev.iand IntKind.i64 (Ev.ishr IntKind.i64 d a) (1:Int)),i64.wrap (a - (1:Int)),h,i,j,k,l,m,e++ [(i64.wrap (i64.wrap (f+g) - (1:Int)),Ev.iand IntKind.i64 (Ev.ishr IntKind.i64 d a) (1:Int))]) else none else b (h,i,j,k,l,m,e)
def S_number_PutId_b82_0 (fuel:Nat) (v:Int×Int×Int×Int×Int×Int×Int×Bool×(List Int)×(List Int)×(List (Int×Int))) (c:(Int×Int×Int×Int×Int×Int×Int×Bool×(List Int)×(List Int)×(List (Int×Int)))→Option Ans) (B:(Int×Int×Int×Bool×(List Int)×(List Int)×(List (Int×Int))→Option Ans)):Option Ans:=match v with | (b,d,e,f,g,h,i,j,k,l,a)=>Sg_number_PutId_b82_0 fuel (F_coder_Encoder_Put_cf0 fuel) (F_coder_Encoder_Model_a20 fuel) (F_number_fits fuel) (F_number_put_2d4 fuel) b d e f g h i j k l a c B
def L_number_PutId_b82_0 (fuel:Nat) (v:V_number_PutId_b82_0) (b:W_number_PutId_b82_0):Option Ans:=iter (S_number_PutId_b82_0 fuel) fuel v b
def T166_b82_0 (v:V_number_PutId_b82_0):Ev.St:=match v with | (b,d,e,f,g,h,i,j,k,l,a)=>⟨[(0,.c (.ptr 0 0)),(1,.c (i6 b)),(3,.c (i6 d)),(10,.c (i6 e)),(11,.c (.own 3)),(12,.c (i6 f))],[(0,.cells 173 (i6 g::.own 1::ctb (.int .u64 h::.int .u64 i::.own 2::.bool j::[]))),(1,.vec 3 (.int .i64) k false),(2,.vec 5 (.int .u8) l true),(3,.vec 221 (.pair (.int .i64) (.int .i64)) a true)],4,3⟩
def E166_b82_0 (K:KT):W_number_PutId_b82_0:=(fun v=>match v with | (a,b,d,e,f,g,h)=>K .normal ⟨[(0,.c (.ptr 0 0)),(11,.c (.own 3))],[(0,.cells 173 (i6 a::.own 1::ctb (.int .u64 b::.int .u64 d::.own 2::.bool e::[]))),(1,.vec 3 (.int .i64) f false),(2,.vec 5 (.int .u8) g true),(3,.vec 221 (.pair (.int .i64) (.int .i64)) h true)],4,3⟩)
theorem S166_b82_0_okg (fuel:Nat) (a:YF121_cf0) (b:YF126_a20) (d:YF170) (c:YF171_2d4) (R:Ev.St→OA) (K:KT) (f g:Int) (h i:Int) (j k l:Int) (m:Bool) (n o:LI) (e:(List (Int×Int))):evalCode tab (Gg166_b82 a b d c) J0 kp166_b82 fuel (bodyOf 0 Tryz.f166) (T166_b82_0 (f,g,h,i,j,k,l,m,n,o,e)) (lc kp166_b82 11 0 R K)=Sg_number_PutId_b82_0 fuel a b d c f g h i j k l m n o e (fun v=>R (T166_b82_0 v)) (E166_b82_0 K):=by
  kernel_rfl
def B166_b82_0 (fuel:Nat):Ev.Blk:=fun st K=>match canonO (kp166_b82 11) st with | some s=>(match s with | ⟨[(o,.c (.ptr p q)),(r,.c (i6 t)),(u,.c (i6 v)),(w,.c (i6 x)),(y,.c (.own z)),(A,.c (i6 B))],[(C,.cells a b),(d,.vec e (.int .i64) D false),(f,.vec g (.int .u8) E true),(h,.vec i (.pair (.int .i64) (.int .i64)) j true)],k,l⟩=>(match splitRun 2 ctn b with | some ([i6 F,.own m],[.int .u64 G,.int .u64 H,.own n,.bool I])=>bif qb [o,p,q,r,u,w,y,z,A,C,a,d,e,f,g,h,i,k,l,m,n] [0,0,0,1,3,10,11,3,12,0,173,1,3,2,5,3,221,4,3,1,2] then iter (S_number_PutId_b82_0 fuel) fuel (t,v,x,B,F,G,H,I,D,E,j) (E166_b82_0 K) else none | _=>none) | _=>none) | none=>none
theorem B166_b82_0_ok (fuel:Nat) (st:Ev.St) (K:KT) (r:Ans) (h:B166_b82_0 fuel st K=some r):evalCode tab (G166_b82 fuel) J0 kp166_b82 fuel (.block 0 (.loop (bodyOf 0 Tryz.f166))) st K=some r:=by
  unfold B166_b82_0 at h
  split at h
  · rename_i s hs
    split at h
    · skip
      split at h
      rotate_left 1
      · cases h
      rename_i hsp
      have esp:=splitRun_eq hsp
      subst esp
      obtain ⟨hb,h⟩:=cond_some' h
      cases qb_eq hb
      exact blk_loop (S:=T166_b82_0) (ks:=E166_b82_0) (step:=S_number_PutId_b82_0 fuel) (v:=(_,_,_,_,_,_,_,_,_,_,_)) (by kernel_rfl) (by kernel_rfl) (fun R K v=>by obtain ⟨b,c,d,e,f,g,i,j,k,l,a⟩:=v; exact S166_b82_0_okg fuel (F_coder_Encoder_Put_cf0 fuel) (F_coder_Encoder_Model_a20 fuel) (F_number_fits fuel) (F_number_put_2d4 fuel) R K b c d e f g i j k l a) hs h
    · cases h
  · cases h
def J166_b82 (fuel:Nat) (i:Nat):Option Ev.Blk:=Ev.look i [(100000,B166_b82_0 fuel)]
def F_number_PutId_b82 (fuel:Nat) (p a:Int) (h H:Int) (I J:Int) (K:Bool) (L M:(List Int)) (k0:(Int×Int×Int×Int×Bool×(List Int)×(List Int))→Option Ans):Option Ans:=(F_coder_Encoder_Put_cf0 fuel ((-1:Int)) (0) H I J K L M (fun (z,b,c,d,e,f,g)=>bif z==7 then k0 (7,b,c,d,e,f,g) else bif decide (a < 0) then k0 (2,b,c,d,e,f,g) else bif decide (a > 10) then k0 (2,b,c,d,e,f,g) else bif decide (h < 0) then k0 (2,b,c,d,e,f,g) else bif decide (a < 0) then none else bif decide (h≥Ev.ishl IntKind.i64 1 a) then k0 (2,b,c,d,e,f,g) else bif decide (a < 0) then none else (F_coder_Encoder_Model_a20 fuel b c d e f g (fun (q,i,j,k,l,m,n,r)=>(F_number_fits fuel q r p (i64.wrap (Ev.ishl IntKind.i64 1 a - 1)) (fun o=>bif o != 0 then k0 (o,i,j,k,l,m,n) else (L_number_PutId_b82_0 fuel (p,h,1,i64.wrap (a - 1),i,j,k,l,m,n,[]) (fun (A,B,C,D,E,F,G)=>(F_number_put_2d4 fuel G A B C D E F (fun (s,t,u,v,w,x,y)=>k0 (s,t,u,v,w,x,y)))))))))) (fun (z,b,c,d,e,f,g)=>bif z==7 then k0 (7,b,c,d,e,f,g) else bif decide (a < 0) then k0 (2,b,c,d,e,f,g) else bif decide (a > 10) then k0 (2,b,c,d,e,f,g) else bif decide (h < 0) then k0 (2,b,c,d,e,f,g) else bif decide (a < 0) then none else bif decide (h≥Ev.ishl IntKind.i64 1 a) then k0 (2,b,c,d,e,f,g) else bif decide (a < 0) then none else (F_coder_Encoder_Model_a20 fuel b c d e f g (fun (q,i,j,k,l,m,n,r)=>(F_number_fits fuel q r p (i64.wrap (Ev.ishl IntKind.i64 1 a - 1)) (fun o=>bif o != 0 then k0 (o,i,j,k,l,m,n) else (L_number_PutId_b82_0 fuel (p,h,1,i64.wrap (a - 1),i,j,k,l,m,n,[]) (fun (A,B,C,D,E,F,G)=>(F_number_put_2d4 fuel G A B C D E F (fun (s,t,u,v,w,x,y)=>k0 (s,t,u,v,w,x,y)))))))))))
abbrev YF166_b82:Type:=Int→Int→Int→Int→Int→Int→Bool→LI→LI→((Int×Int×Int×Int×Bool×LI×LI)→Option Ans)→Option Ans
theorem F166_b82_eqg (fuel:Nat) (N:YF121_cf0) (t:YF126_a20) (E:YF170) (u:YF171_2d4) (s a:Int) (i O:Int) (P Q:Int) (R:Bool) (S T:LI) (k:Ev.Cont):evalFn tab (Gg166_b82 N t E u) (J166_b82 fuel) kp166_b82 fuel Tryz.f166 [.c (.ptr 0 0),.c (i6 s),.c (i6 a),.c (i6 i)] [.cells 173 (i6 O::.own 1::ctb (.int .u64 P::.int .u64 Q::.own 2::.bool R::[])),.vec 3 (.int .i64) S false,.vec 5 (.int .u8) T false] (wkC [1000002] k)=(fun  (k0:(Int×Int×Int×Int×Bool×LI×LI)→OA)=>
  (N ((-1:Int)) ((0:Int)) O P Q R S T
  (fun (F,b,d,e,f,g,h)=>
  bif F==(7:Int) then
  k0 ((7:Int),b,d,e,f,g,h)
  else
  bif decide (a < (0:Int)) then
  k0 ((2:Int),b,d,e,f,g,h)
  else
  bif decide (a > (10:Int)) then
  k0 ((2:Int),b,d,e,f,g,h)
  else
  bif decide (i < (0:Int)) then
  k0 ((2:Int),b,d,e,f,g,h)
  else
  bif decide (a < (0:Int)) then
  none
  else
  bif decide (i≥Ev.ishl IntKind.i64 (1:Int) a) then
  k0 ((2:Int),b,d,e,f,g,h)
  else
  bif decide (a < (0:Int)) then
  none
  else
  (t b d e f g h
  (fun (v,j,l,m,n,o,p,w)=>
  (E v w s (i64.wrap (Ev.ishl IntKind.i64 (1:Int) a - (1:Int)))
  (fun q=>
  bif q != (0:Int) then
  k0 (q,j,l,m,n,o,p)
  else
  (L_number_PutId_b82_0 fuel (s,i,(1:Int),i64.wrap (a - (1:Int)),j,l,m,n,o,p,[])
  (fun (G,H,I,J,K,L,M)=>
  (u M G H I J K L
  (fun (x,y,z,A,B,C,D)=>
  k0 (x,y,z,A,B,C,D))))))))))
  (fun (F,b,d,e,f,g,h)=>
  bif F==(7:Int) then
  k0 ((7:Int),b,d,e,f,g,h)
  else
  bif decide (a < (0:Int)) then
  k0 ((2:Int),b,d,e,f,g,h)
  else
  bif decide (a > (10:Int)) then
  k0 ((2:Int),b,d,e,f,g,h)
  else
  bif decide (i < (0:Int)) then
  k0 ((2:Int),b,d,e,f,g,h)
  else
  bif decide (a < (0:Int)) then
  none
  else
  bif decide (i≥Ev.ishl IntKind.i64 (1:Int) a) then
  k0 ((2:Int),b,d,e,f,g,h)
  else
  bif decide (a < (0:Int)) then
  none
  else
  (t b d e f g h
  (fun (v,j,l,m,n,o,p,w)=>
  (E v w s (i64.wrap (Ev.ishl IntKind.i64 (1:Int) a - (1:Int)))
  (fun q=>
  bif q != (0:Int) then
  k0 (q,j,l,m,n,o,p)
  else
  (L_number_PutId_b82_0 fuel (s,i,(1:Int),i64.wrap (a - (1:Int)),j,l,m,n,o,p,[])
  (fun (G,H,I,J,K,L,M)=>
  (u M G H I J K L
  (fun (x,y,z,A,B,C,D)=>
  k0 (x,y,z,A,B,C,D)))))))))))) (fun r=>match r with | (U,V,W,X,Y,Z,a0)=>k (.c (i6 U),[.cells 173 (i6 V::.own 1::ctb (.int .u64 W::.int .u64 X::.own 2::.bool Y::[])),.vec 3 (.int .i64) Z false,.vec 5 (.int .u8) a0 true])):=by
  kernel_rfl
theorem hG166_b82 (fuel:Nat):GOK Tryz.prog (G166_b82 fuel):=
  gc (ok121_cf0 fuel) Tryz.func121 (by kernel_rfl) rfl <|
  gc (ok126_a20 fuel) Tryz.func126 (by kernel_rfl) rfl <|
  gc (ok170 fuel) Tryz.func170 (by kernel_rfl) rfl <|
  gc (ok171_2d4 fuel) Tryz.func171 (by kernel_rfl) rfl <|
  gok_nil
theorem B166_b82_0_blk (fuel:Nat):BlkOK Tryz.prog Tryz.f166.ntmps (.block 0 (.loop (bodyOf 0 Tryz.f166))) (B166_b82_0 fuel):=bo0 (hG166_b82 fuel) (by kernel_rfl) (by kernel_rfl) (B166_b82_0_ok fuel)
theorem fok166_b82 (fuel:Nat):FnOK Tryz.prog 166 (evalFn tab (G166_b82 fuel) (J166_b82 fuel) kp166_b82 fuel Tryz.f166):=
  fn_ok tab_ok (hG166_b82 fuel) mixed Tryz.func166 (c:=(Tryz.f166.body).getD .skip) rfl (fun q hq=>by
    rw [(by kernel_rfl:obl (J166_b82 fuel) ((Tryz.f166.body).getD .skip)= [(.block 0 (.loop (bodyOf 0 Tryz.f166)),B166_b82_0 fuel)])] at hq
    simp only [List.mem_cons,List.not_mem_nil,or_false] at hq
    subst hq
    · exact B166_b82_0_blk fuel)
def spg166_b82 (F:YF166_b82):Ev.Spec:=fun args objs k=>match args,objs with | [.c (.ptr b d),.c (i6 e),.c (i6 f),.c (i6 g)],[.cells h a,.vec i (.int .i64) j false,.vec l (.int .u8) m false]=>(match splitRun 2 ctn a with | some ([i6 n,.own o],[.int .u64 p,.int .u64 q,.own s,.bool t])=>bif qb [b,d,h,i,l,o,s] [0,0,173,3,5,1,2] then F e f g n p q t j m (fun r=>match r with | (u,v,w,x,y,z,A)=>k (.c (i6 u),[.cells 173 (i6 v::.own 1::ctb (.int .u64 w::.int .u64 x::.own 2::.bool y::[])),.vec 3 (.int .i64) z false,.vec 5 (.int .u8) A true])) else none | _=>none) | _,_=>none
def spec166_b82 (fuel:Nat):Ev.Spec:=spg166_b82 (F_number_PutId_b82 fuel)
theorem ok166_b82 (fuel:Nat):FnOK Tryz.prog 166 (spec166_b82 fuel):=by
  intro args objs kk r h
  unfold spec166_b82 spg166_b82 at h
  split at h
  · skip
    split at h
    rotate_left 1
    · cases h
    rename_i hsp
    have esp:=splitRun_eq hsp
    subst esp
    obtain ⟨hb,h⟩:=cond_some' h
    cases qb_eq hb
    exact (fok166_b82 fuel).wk [1000002] _ _ kk r ((F166_b82_eqg fuel (F_coder_Encoder_Put_cf0 fuel) (F_coder_Encoder_Model_a20 fuel) (F_number_fits fuel) (F_number_put_2d4 fuel) _ _ _ _ _ _ _ _ _ kk).trans h)
  · cases h
end
end Go.Proofs.YtipdidpalcmlhaaGreat

