/- What the functions that TextOrder reaches do: their typed texts, each with the proof that the machine does it. No condition. -/
import Derived.Test.YtmjeeaemmbkioaaGreatEvX
import Derived.Test.YtmjeeaemmbkioaaGreatFsTextOrder1
set_option linter.unusedVariables false
set_option linter.unusedSimpArgs false
set_option linter.unusedSectionVars false
set_option linter.unusedVariables false
set_option linter.unusedSimpArgs false
set_option maxRecDepth 100000
set_option maxHeartbeats 2000000
namespace Go.Proofs.YtmjeeaemmbkioaaGreat
open Go Ev
open Go.IntKind (i64 u64 u8 i32 u32 u16)
noncomputable section
def kp136 (i:Nat):Option (List Nat):=Ev.look i [(7,[0,3,5,6,7,32,33]),(15,[0,3,5,6,7,9,10]),(100000,[0,3,5,6,7]),(100002,[0,3,5]),(400000,[4]),(400002,[4])]
def Gg136 (a:YF107) (b:YF172) (f:Nat):Option Ev.Spec:=Ev.look f [(107,spg107 a),(172,spg172 b)]
def G136 (fuel:Nat):Nat→Option Ev.Spec:=Gg136 (F_math_bits_Len fuel) (F_number_tail_take fuel)
abbrev V_number_events_0:Type:=Int×Int×Int×Int×Int×Bool×Int×(List (Int×Int))
abbrev W_number_events_0:Type:=(Int×Int×Int×Bool×Int×(List (Int×Int))→OA)
def Sg_number_events_0 (fuel:Nat) (k:YF107) (l:YF172) (a f:Int) (g h d:Int) (i:Bool) (j:Int) (e:(List (Int×Int))) (c:V_number_events_0→OA) (B:W_number_events_0):OA:=match B with | b=>bif decide (d < h) then bif decide ((e.length+ [(i64.wrap (i64.wrap (a+(1:Int))+d),(1:Int))].length)*(16:Nat)≤(140737488355328:Nat)∧e.length+ [(i64.wrap (i64.wrap (a+(1:Int))+d),(1:Int))].length≤(140737488355328:Nat)) then c (a,f,g,h,i64.wrap (d+(1:Int)),i,j,e++ [(i64.wrap (i64.wrap (a+(1:Int))+d),(1:Int))]) else none else b (a,f,g,i,j,e)
def S_number_events_0 (fuel:Nat) (v:Int×Int×Int×Int×Int×Bool×Int×(List (Int×Int))) (c:(Int×Int×Int×Int×Int×Bool×Int×(List (Int×Int)))→Option Ans) (B:(Int×Int×Int×Bool×Int×(List (Int×Int))→Option Ans)):Option Ans:=match v with | (a,b,d,e,f,g,h,i)=>Sg_number_events_0 fuel (F_math_bits_Len fuel) (F_number_tail_take fuel) a b d e f g h i c B
def L_number_events_0 (fuel:Nat) (v:V_number_events_0) (b:W_number_events_0):Option Ans:=iter (S_number_events_0 fuel) fuel v b
def T136_0 (v:V_number_events_0):Ev.St:=match v with | (a,b,d,e,f,g,h,i)=>⟨[(0,.c (i6 a)),(3,.c (.ptr 0 0)),(5,.c (.own 1)),(6,.c (i6 b)),(7,.c (i6 d)),(32,.c (i6 e)),(33,.c (i6 f))],[(0,.cells 138 [.bool g,i6 h]),(1,.vec 205 (.pair (.int .i64) (.int .i64)) i true)],2,0⟩
def E136_0 (K:KT):W_number_events_0:=(fun v=>match v with | (a,b,d,e,f,g)=>K .normal ⟨[(0,.c (i6 a)),(3,.c (.ptr 0 0)),(5,.c (.own 1)),(6,.c (i6 b)),(7,.c (i6 d))],[(0,.cells 138 [.bool e,i6 f]),(1,.vec 205 (.pair (.int .i64) (.int .i64)) g true)],2,0⟩)
theorem S136_0_okg (fuel:Nat) (a:YF107) (b:YF172) (R:Ev.St→OA) (K:KT) (c d:Int) (e f g:Int) (h:Bool) (i:Int) (j:(List (Int×Int))):evalCode tab (Gg136 a b) J0 kp136 fuel (bodyOf 0 Tryz.f136) (T136_0 (c,d,e,f,g,h,i,j)) (lc kp136 7 0 R K)=Sg_number_events_0 fuel a b c d e f g h i j (fun v=>R (T136_0 v)) (E136_0 K):=by
  kernel_rfl
def B136_0 (fuel:Nat):Ev.Blk:=fun st K=>match canonO (kp136 7) st with | some s=>(match s with | ⟨[(h,.c (i6 i)),(j,.c (.ptr k l)),(m,.c (.own n)),(o,.c (i6 p)),(q,.c (i6 r)),(t,.c (i6 u)),(v,.c (i6 w))],[(a,.cells b [.bool x,i6 y]),(d,.vec e (.pair (.int .i64) (.int .i64)) z true)],f,g⟩=>bif qb [h,j,k,l,m,n,o,q,t,v,a,b,d,e,f,g] [0,3,0,0,5,1,6,7,32,33,0,138,1,205,2,0] then iter (S_number_events_0 fuel) fuel (i,p,r,u,w,x,y,z) (E136_0 K) else none | _=>none) | none=>none
theorem B136_0_ok (fuel:Nat) (st:Ev.St) (K:KT) (r:Ans) (h:B136_0 fuel st K=some r):evalCode tab (G136 fuel) J0 kp136 fuel (.block 0 (.loop (bodyOf 0 Tryz.f136))) st K=some r:=by
  unfold B136_0 at h
  split at h
  · rename_i s hs
    split at h
    · skip
      obtain ⟨hb,h⟩:=cond_some' h
      cases qb_eq hb
      exact blk_loop (S:=T136_0) (ks:=E136_0) (step:=S_number_events_0 fuel) (v:=(_,_,_,_,_,_,_,_)) (by kernel_rfl) (by kernel_rfl) (fun R K v=>by obtain ⟨a,b,c,d,e,f,g,i⟩:=v; exact S136_0_okg fuel (F_math_bits_Len fuel) (F_number_tail_take fuel) R K a b c d e f g i) hs h
    · cases h
  · cases h
abbrev V_number_events_2:Type:=Int×Int×Int×Int×Bool×Int×(List (Int×Int))×Int
abbrev W_number_events_2:Type:=(Int×Bool×Int×(List (Int×Int))→OA)
def Sg_number_events_2 (fuel:Nat) (n:YF107) (l:YF172) (d e:Int) (g a:Int) (i:Bool) (j:Int) (f:(List (Int×Int))) (k:Int) (c:V_number_events_2→OA) (B:W_number_events_2):OA:=match B with | b=>bif decide (a≥0) then bif decide (a < i64.wrap (g - 1)) then (l k (fun (h,m)=>bif decide (a < 0) then none else bif decide ((f.length+ [(i64.wrap (d+h),Ev.iand IntKind.i64 (Ev.ishr IntKind.i64 e a) (1:Int))].length)*(16:Nat)≤(140737488355328:Nat)∧f.length+ [(i64.wrap (d+h),Ev.iand IntKind.i64 (Ev.ishr IntKind.i64 e a) (1:Int))].length≤(140737488355328:Nat)) then c (d,e,g,i64.wrap (a - (1:Int)),i,j,f++ [(i64.wrap (d+h),Ev.iand IntKind.i64 (Ev.ishr IntKind.i64 e a) (1:Int))],m) else none)) else bif decide (a < 0) then none else bif decide ((f.length+ [(i64.wrap (d+i64.wrap ((23:Int)+g)),Ev.iand IntKind.i64 (Ev.ishr IntKind.i64 e a) (1:Int))].length)*(16:Nat)≤(140737488355328:Nat)∧f.length+ [(i64.wrap (d+i64.wrap ((23:Int)+g)),Ev.iand IntKind.i64 (Ev.ishr IntKind.i64 e a) (1:Int))].length≤(140737488355328:Nat)) then c (d,e,g,i64.wrap (a - (1:Int)),i,j,f++ [(i64.wrap (d+i64.wrap ((23:Int)+g)),Ev.iand IntKind.i64 (Ev.ishr IntKind.i64 e a) (1:Int))],k) else none else b (d,i,j,f)
def S_number_events_2 (fuel:Nat) (v:Int×Int×Int×Int×Bool×Int×(List (Int×Int))×Int) (c:(Int×Int×Int×Int×Bool×Int×(List (Int×Int))×Int)→Option Ans) (B:(Int×Bool×Int×(List (Int×Int))→Option Ans)):Option Ans:=match v with | (a,b,d,e,f,g,h,i)=>Sg_number_events_2 fuel (F_math_bits_Len fuel) (F_number_tail_take fuel) a b d e f g h i c B
def L_number_events_2 (fuel:Nat) (v:V_number_events_2) (b:W_number_events_2):Option Ans:=iter (S_number_events_2 fuel) fuel v b
def J136_2 (fuel:Nat) (i:Nat):Option Ev.Blk:=Ev.look i [(100000,B136_0 fuel)]
def T136_2 (v:V_number_events_2):Ev.St:=match v with | (a,b,d,e,f,g,h,i)=>⟨[(0,.c (i6 a)),(3,.c (.ptr 0 0)),(5,.c (.own 1)),(6,.c (i6 b)),(7,.c (i6 d)),(9,.c (.ptr 2 0)),(10,.c (i6 e))],[(0,.cells 138 [.bool f,i6 g]),(1,.vec 205 (.pair (.int .i64) (.int .i64)) h true),(2,.cells 221 [i6 i])],3,0⟩
def E136_2 (K:KT):W_number_events_2:=(fun v=>match v with | (a,b,d,e)=>K .normal ⟨[(0,.c (i6 a)),(3,.c (.ptr 0 0)),(5,.c (.own 1))],[(0,.cells 138 [.bool b,i6 d]),(1,.vec 205 (.pair (.int .i64) (.int .i64)) e true)],2,0⟩)
theorem S136_2_okg (fuel:Nat) (a:YF107) (b:YF172) (R:Ev.St→OA) (K:KT) (c d:Int) (e f:Int) (g:Bool) (h:Int) (i:(List (Int×Int))) (j:Int):evalCode tab (Gg136 a b) (J136_2 fuel) kp136 fuel (bodyOf 2 Tryz.f136) (T136_2 (c,d,e,f,g,h,i,j)) (lc kp136 15 2 R K)=Sg_number_events_2 fuel a b c d e f g h i j (fun v=>R (T136_2 v)) (E136_2 K):=by
  kernel_rfl
def B136_2 (fuel:Nat):Ev.Blk:=fun st K=>match canonO (kp136 15) st with | some s=>(match s with | ⟨[(l,.c (i6 m)),(n,.c (.ptr o p)),(q,.c (.own r)),(t,.c (i6 u)),(v,.c (i6 w)),(x,.c (.ptr y a)),(b,.c (i6 z))],[(d,.cells e [.bool A,i6 B]),(f,.vec g (.pair (.int .i64) (.int .i64)) C true),(h,.cells i [i6 D])],j,k⟩=>bif qb [l,n,o,p,q,r,t,v,x,y,a,b,d,e,f,g,h,i,j,k] [0,3,0,0,5,1,6,7,9,2,0,10,0,138,1,205,2,221,3,0] then iter (S_number_events_2 fuel) fuel (m,u,w,z,A,B,C,D) (E136_2 K) else none | _=>none) | none=>none
theorem B136_2_ok (fuel:Nat) (st:Ev.St) (K:KT) (r:Ans) (h:B136_2 fuel st K=some r):evalCode tab (G136 fuel) (J136_2 fuel) kp136 fuel (.block 2 (.loop (bodyOf 2 Tryz.f136))) st K=some r:=by
  unfold B136_2 at h
  split at h
  · rename_i s hs
    split at h
    · skip
      obtain ⟨hb,h⟩:=cond_some' h
      cases qb_eq hb
      exact blk_loop (S:=T136_2) (ks:=E136_2) (step:=S_number_events_2 fuel) (v:=(_,_,_,_,_,_,_,_)) (by kernel_rfl) (by kernel_rfl) (fun R K v=>by obtain ⟨a,b,c,d,e,f,g,i⟩:=v; exact S136_2_okg fuel (F_math_bits_Len fuel) (F_number_tail_take fuel) R K a b c d e f g i) hs h
    · cases h
  · cases h
def J136 (fuel:Nat) (i:Nat):Option Ev.Blk:=Ev.look i [(100000,B136_0 fuel),(100002,B136_2 fuel)]
def Fg_number_events (fuel:Nat) (n:YF107) (p:YF172) (h:Int) (l:Bool) (c:Int) (k0:((List (Int×Int)))→OA):OA:=bif l then k0 ([(h,1)]) else (n (u64.wrap (i64.wrap ((bif decide (i64.wrap (0 - c) > c) then i64.wrap (0 - c) else c)+1))) (fun m=>(L_number_events_0 fuel (h,i64.wrap ((bif decide (i64.wrap (0 - c) > c) then i64.wrap (0 - c) else c)+1),i64.wrap (m - 1),i64.wrap (m - 1),0,l,c,[(h,0)]) (fun (e,i,d,j,k,g)=>bif decide (d < 20) then bif decide ((g.length+ [(i64.wrap (i64.wrap (e+(1:Int))+d),(0:Int))].length)*(16:Nat)≤(140737488355328:Nat)∧g.length+ [(i64.wrap (i64.wrap (e+(1:Int))+d),(0:Int))].length≤(140737488355328:Nat)) then (L_number_events_2 fuel (e,i,d,i64.wrap (d - (1:Int)),j,k,g++ [(i64.wrap (i64.wrap (e+(1:Int))+d),(0:Int))],(44:Int)) (fun (b,o,f,a)=>bif f != 0 then bif decide (f < 0) then bif decide ((a.length+ [(i64.wrap (b+(22:Int)),(1:Int))].length)*(16:Nat)≤(140737488355328:Nat)∧a.length+ [(i64.wrap (b+(22:Int)),(1:Int))].length≤(140737488355328:Nat)) then k0 (a++ [(i64.wrap (b+(22:Int)),(1:Int))]) else none else bif decide ((a.length+ [(i64.wrap (b+(22:Int)),(0:Int))].length)*(16:Nat)≤(140737488355328:Nat)∧a.length+ [(i64.wrap (b+(22:Int)),(0:Int))].length≤(140737488355328:Nat)) then k0 (a++ [(i64.wrap (b+(22:Int)),(0:Int))]) else none else k0 a)) else none else (L_number_events_2 fuel (e,i,d,i64.wrap (d - 1),j,k,g,44) (fun (b,o,f,a)=>bif f != 0 then bif decide (f < 0) then bif decide ((a.length+ [(i64.wrap (b+(22:Int)),(1:Int))].length)*(16:Nat)≤(140737488355328:Nat)∧a.length+ [(i64.wrap (b+(22:Int)),(1:Int))].length≤(140737488355328:Nat)) then k0 (a++ [(i64.wrap (b+(22:Int)),(1:Int))]) else none else bif decide ((a.length+ [(i64.wrap (b+(22:Int)),(0:Int))].length)*(16:Nat)≤(140737488355328:Nat)∧a.length+ [(i64.wrap (b+(22:Int)),(0:Int))].length≤(140737488355328:Nat)) then k0 (a++ [(i64.wrap (b+(22:Int)),(0:Int))]) else none else k0 a))))))
abbrev YF136:Type:=Int→Bool→Int→(((List (Int×Int)))→Option Ans)→Option Ans
def F_number_events (fuel:Nat):YF136:=Fg_number_events fuel (F_math_bits_Len fuel) (F_number_tail_take fuel)
theorem F136_eqg (fuel:Nat) (a:YF107) (b:YF172) (d:Int) (e:Bool) (f:Int) (k:Ev.Cont):evalFn tab (Gg136 a b) (J136 fuel) kp136 fuel Tryz.f136 [.c (i6 d),.agg [.bool e,i6 f]] [] k=Fg_number_events fuel a b d e f (fun r=>match r with | g=>k (.c (.own 0),[.vec 205 (.pair (.int .i64) (.int .i64)) g true])):=by
  kernel_rfl
theorem hG136 (fuel:Nat):GOK Tryz.prog (G136 fuel):=
  gc (ok107 fuel) Tryz.func107 (by kernel_rfl) rfl <|
  gc (ok172 fuel) Tryz.func172 (by kernel_rfl) rfl <|
  gok_nil
theorem B136_0_blk (fuel:Nat):BlkOK Tryz.prog Tryz.f136.ntmps (.block 0 (.loop (bodyOf 0 Tryz.f136))) (B136_0 fuel):=bo0 (hG136 fuel) (by kernel_rfl) (by kernel_rfl) (B136_0_ok fuel)
theorem B136_2_blk (fuel:Nat):BlkOK Tryz.prog Tryz.f136.ntmps (.block 2 (.loop (bodyOf 2 Tryz.f136))) (B136_2 fuel):=bo0 (hG136 fuel) (by kernel_rfl) (by kernel_rfl) (B136_2_ok fuel)
theorem fok136 (fuel:Nat):FnOK Tryz.prog 136 (evalFn tab (G136 fuel) (J136 fuel) kp136 fuel Tryz.f136):=
  fn_ok tab_ok (hG136 fuel) mixed Tryz.func136 (c:=(Tryz.f136.body).getD .skip) rfl (fun q hq=>by
    rw [(by kernel_rfl:obl (J136 fuel) ((Tryz.f136.body).getD .skip)= [(.block 0 (.loop (bodyOf 0 Tryz.f136)),B136_0 fuel),(.block 2 (.loop (bodyOf 2 Tryz.f136)),B136_2 fuel)])] at hq
    simp only [List.mem_cons,List.not_mem_nil,or_false] at hq
    rcases hq with rfl | rfl
    · exact B136_0_blk fuel
    · exact B136_2_blk fuel)
def spg136 (F:YF136):Ev.Spec:=fun args objs k=>match args,objs with | [.c (i6 a),.agg [.bool b,i6 d]],[]=>F a b d (fun r=>match r with | e=>k (.c (.own 0),[.vec 205 (.pair (.int .i64) (.int .i64)) e true])) | _,_=>none
theorem ok136 (fuel:Nat):FnOK Tryz.prog 136 (spg136 (F_number_events fuel)):=by
  intro args objs kk r h
  unfold spg136 at h
  split at h
  · skip
    exact fok136 fuel _ _ kk r ((F136_eqg fuel (F_math_bits_Len fuel) (F_number_tail_take fuel) _ _ _ kk).trans h)
  · cases h
def kp134 (i:Nat):Option (List Nat):=Ev.look i []
def Gg134 (f:Nat):Option Ev.Spec:=Ev.look f []
def G134 (fuel:Nat):Nat→Option Ev.Spec:=Gg134
def F_number_fits (fuel:Nat) (d:Int) (b:(List Int)) (a c:Int) (k0:(Int)→Option Ans):Option Ans:=bif decide (a < 0) then k0 (2) else bif decide (a > i64.wrap ((↑b.length:Int) - c)) then k0 (2) else k0 (0)
abbrev YF134:Type:=Int→LI→Int→Int→(Int→Option Ans)→Option Ans
theorem F134_eq (fuel:Nat) (a:Int) (b:LI) (d e:Int) (k:Ev.Cont):evalFn tab (G134 fuel) J0 kp134 fuel Tryz.f134 [.agg [i6 a,.sl (.int .i64) b],.c (i6 d),.c (i6 e)] [] k=F_number_fits fuel a b d e (fun r=>match r with | f=>k (.c (i6 f),[])):=by
  kernel_rfl
theorem hG134 (fuel:Nat):GOK Tryz.prog (G134 fuel):=
  gok_nil
def spg134 (F:YF134):Ev.Spec:=fun args objs k=>match args,objs with | [.agg [i6 a,.sl (.int .i64) b],.c (i6 d),.c (i6 e)],[]=>F a b d e (fun r=>match r with | f=>k (.c (i6 f),[])) | _,_=>none
theorem ok134 (fuel:Nat):FnOK Tryz.prog 134 (spg134 (F_number_fits fuel)):=by
  intro args objs kk r h
  unfold spg134 at h
  split at h
  · skip
    exact fo0 (hG134 fuel) Tryz.func134 rfl (by kernel_rfl) _ _ kk r ((F134_eq fuel _ _ _ _ kk).trans h)
  · cases h
def kp135_2d4 (i:Nat):Option (List Nat):=Ev.look i [(2,[0,8,9,10,1000002]),(100000,[]),(400000,[4,1000002])]
def Gg135_2d4 (a:YF130_cf0) (f:Nat):Option Ev.Spec:=Ev.look f [(130,spg130_cf0 a)]
def G135_2d4 (fuel:Nat):Nat→Option Ev.Spec:=Gg135_2d4 (F_coder_Encoder_Put_cf0 fuel)
abbrev V_number_put_2d4_0:Type:=(List (Int×Int))×Int×Int×Int×Int×Int×Bool×LI×LI
abbrev W_number_put_2d4_0:Type:=(Int×Int×Int×Int×Bool×LI×LI→OA)×(Int×Int×Int×Bool×LI×LI→OA)
def Sg_number_put_2d4_0 (fuel:Nat) (s:YF130_cf0) (k:(List (Int×Int))) (l a:Int) (m n o:Int) (p:Bool) (q r:LI) (c:V_number_put_2d4_0→OA) (B:W_number_put_2d4_0):OA:=match B with | (ret,b)=>bif decide (a < l) then bif decide (0≤a∧a < (↑k.length:Int)) then (s ((k.getD a.toNat (0,0)).fst) ((k.getD a.toNat (0,0)).snd) m n o p q r (fun (d,e,f,g,h,i,j)=>bif d != 0 then ret (d,e,f,g,h,i,j) else c (k,l,i64.wrap (a+1),e,f,g,h,i,j)) (fun (d,e,f,g,h,i,j)=>bif d != 0 then ret (d,e,f,g,h,i,j) else c (k,l,i64.wrap (a+1),e,f,g,h,i,j))) else none else b (m,n,o,p,q,r)
def S_number_put_2d4_0 (fuel:Nat) (v:(List (Int×Int))×Int×Int×Int×Int×Int×Bool×(List Int)×(List Int)) (c:((List (Int×Int))×Int×Int×Int×Int×Int×Bool×(List Int)×(List Int))→Option Ans) (B:(Int×Int×Int×Int×Bool×(List Int)×(List Int)→Option Ans)×(Int×Int×Int×Bool×(List Int)×(List Int)→Option Ans)):Option Ans:=match v with | (a,b,d,e,f,g,h,i,j)=>Sg_number_put_2d4_0 fuel (F_coder_Encoder_Put_cf0 fuel) a b d e f g h i j c B
def L_number_put_2d4_0 (fuel:Nat) (v:V_number_put_2d4_0) (ret:(Int×Int×Int×Int×Bool×(List Int)×(List Int)→Option Ans)) (b:(Int×Int×Int×Bool×(List Int)×(List Int)→Option Ans)):Option Ans:=iter (S_number_put_2d4_0 fuel) fuel v (ret,b)
def T135_2d4_0 (v:V_number_put_2d4_0):Ev.St:=match v with | (a,b,d,e,f,g,h,i,j)=>⟨[(0,.c (.ptr 0 0)),(8,.c (.sl (.pair (.int .i64) (.int .i64)) a)),(9,.c (i6 b)),(10,.c (i6 d))],[(0,.cells 164 (i6 e::.own 1::ctb (.int .u64 f::.int .u64 g::.own 2::.bool h::[]))),(1,.vec 3 (.int .i64) i false),(2,.vec 5 (.int .u8) j true)],3,3⟩
def E135_2d4_0 (K:KT):W_number_put_2d4_0:=((fun v=>match v with | (a,b,d,e,f,g,h)=>K .ret ⟨[(4,.c (i6 a))],[(0,.cells 164 (i6 b::.own 1::ctb (.int .u64 d::.int .u64 e::.own 2::.bool f::[]))),(1,.vec 3 (.int .i64) g false),(2,.vec 5 (.int .u8) h true)],3,3⟩),(fun v=>match v with | (a,b,d,e,f,g)=>K .normal ⟨[],[(0,.cells 164 (i6 a::.own 1::ctb (.int .u64 b::.int .u64 d::.own 2::.bool e::[]))),(1,.vec 3 (.int .i64) f false),(2,.vec 5 (.int .u8) g true)],3,3⟩))
theorem S135_2d4_0_okg (fuel:Nat) (a:YF130_cf0) (R:Ev.St→OA) (K:KT) (b:(List (Int×Int))) (c d:Int) (e f g:Int) (h:Bool) (i j:LI):evalCode tab (Gg135_2d4 a) J0 kp135_2d4 fuel (bodyOf 0 Tryz.f135) (T135_2d4_0 (b,c,d,e,f,g,h,i,j)) (lc kp135_2d4 2 0 R K)=Sg_number_put_2d4_0 fuel a b c d e f g h i j (fun v=>R (T135_2d4_0 v)) (E135_2d4_0 K):=by
  kernel_rfl
def B135_2d4_0 (fuel:Nat):Ev.Blk:=fun st K=>match canonO (kp135_2d4 2) st with | some s=>(match s with | ⟨[(i,.c (.ptr j k)),(l,.c (.sl (.pair (.int .i64) (.int .i64)) m)),(n,.c (i6 o)),(p,.c (i6 q))],[(r,.cells t a),(u,.vec v (.int .i64) w false),(b,.vec d (.int .u8) x true)],e,f⟩=>(match splitRun 2 ctn a with | some ([i6 y,.own g],[.int .u64 z,.int .u64 A,.own h,.bool B])=>bif qb [i,j,k,l,n,p,r,t,u,v,b,d,e,f,g,h] [0,0,0,8,9,10,0,164,1,3,2,5,3,3,1,2] then iter (S_number_put_2d4_0 fuel) fuel (m,o,q,y,z,A,B,w,x) (E135_2d4_0 K) else none | _=>none) | _=>none) | none=>none
theorem B135_2d4_0_ok (fuel:Nat) (st:Ev.St) (K:KT) (r:Ans) (h:B135_2d4_0 fuel st K=some r):evalCode tab (G135_2d4 fuel) J0 kp135_2d4 fuel (.block 0 (.loop (bodyOf 0 Tryz.f135))) st K=some r:=by
  unfold B135_2d4_0 at h
  split at h
  · rename_i s hs
    split at h
    · skip
      split at h
      rotate_left 1
      · cases h
      rename_i hsp
      have esp:=splitRun_eq hsp
      subst esp
      obtain ⟨hb,h⟩:=cond_some' h
      cases qb_eq hb
      exact blk_loop (S:=T135_2d4_0) (ks:=E135_2d4_0) (step:=S_number_put_2d4_0 fuel) (v:=(_,_,_,_,_,_,_,_,_)) (by kernel_rfl) (by kernel_rfl) (fun R K v=>by obtain ⟨a,b,c,d,e,f,g,i,j⟩:=v; exact S135_2d4_0_okg fuel (F_coder_Encoder_Put_cf0 fuel) R K a b c d e f g i j) hs h
    · cases h
  · cases h
def J135_2d4 (fuel:Nat) (i:Nat):Option Ev.Blk:=Ev.look i [(100000,B135_2d4_0 fuel)]
def Fg_number_put_2d4 (fuel:Nat) (n:YF130_cf0) (a:(List (Int×Int))) (h i j:Int) (k:Bool) (l m:LI) (k0:(Int×Int×Int×Int×Bool×LI×LI)→OA):OA:=(L_number_put_2d4_0 fuel (a,(↑a.length:Int),0,h,i,j,k,l,m) (fun (ret0_0,ret0_1,ret0_2,ret0_3,ret0_4,ret0_5,ret0_6)=>k0 (ret0_0,ret0_1,ret0_2,ret0_3,ret0_4,ret0_5,ret0_6)) (fun (b,c,d,e,f,g)=>k0 (0,b,c,d,e,f,g)))
abbrev YF135_2d4:Type:=((List (Int×Int)))→Int→Int→Int→Bool→LI→LI→((Int×Int×Int×Int×Bool×LI×LI)→Option Ans)→Option Ans
def F_number_put_2d4 (fuel:Nat):YF135_2d4:=Fg_number_put_2d4 fuel (F_coder_Encoder_Put_cf0 fuel)
theorem F135_2d4_eqg (fuel:Nat) (a:YF130_cf0) (b:(List (Int×Int))) (d e f:Int) (g:Bool) (h i:LI) (k:Ev.Cont):evalFn tab (Gg135_2d4 a) (J135_2d4 fuel) kp135_2d4 fuel Tryz.f135 [.c (.ptr 0 0),.c (.sl (.pair (.int .i64) (.int .i64)) b)] [.cells 164 (i6 d::.own 1::ctb (.int .u64 e::.int .u64 f::.own 2::.bool g::[])),.vec 3 (.int .i64) h false,.vec 5 (.int .u8) i false] k=Fg_number_put_2d4 fuel a b d e f g h i (fun r=>match r with | (j,l,m,n,o,p,q)=>k (.c (i6 j),[.cells 164 (i6 l::.own 1::ctb (.int .u64 m::.int .u64 n::.own 2::.bool o::[])),.vec 3 (.int .i64) p false,.vec 5 (.int .u8) q true])):=by
  kernel_rfl
theorem hG135_2d4 (fuel:Nat):GOK Tryz.prog (G135_2d4 fuel):=
  gc (ok130_cf0 fuel) Tryz.func130 (by kernel_rfl) rfl <|
  gok_nil
theorem B135_2d4_0_blk (fuel:Nat):BlkOK Tryz.prog Tryz.f135.ntmps (.block 0 (.loop (bodyOf 0 Tryz.f135))) (B135_2d4_0 fuel):=bo0 (hG135_2d4 fuel) (by kernel_rfl) (by kernel_rfl) (B135_2d4_0_ok fuel)
def spg135_2d4 (F:YF135_2d4):Ev.Spec:=fun args objs k=>match args,objs with | [.c (.ptr b d),.c (.sl (.pair (.int .i64) (.int .i64)) e)],[.cells f a,.vec g (.int .i64) h false,.vec i (.int .u8) j false]=>(match splitRun 2 ctn a with | some ([i6 l,.own m],[.int .u64 n,.int .u64 o,.own p,.bool q])=>bif qb [b,d,f,g,i,m,p] [0,0,164,3,5,1,2] then F e l n o q h j (fun r=>match r with | (s,t,u,v,w,x,y)=>k (.c (i6 s),[.cells 164 (i6 t::.own 1::ctb (.int .u64 u::.int .u64 v::.own 2::.bool w::[])),.vec 3 (.int .i64) x false,.vec 5 (.int .u8) y true])) else none | _=>none) | _,_=>none
theorem ok135_2d4 (fuel:Nat):FnOK Tryz.prog 135 (spg135_2d4 (F_number_put_2d4 fuel)):=by
  intro args objs kk r h
  unfold spg135_2d4 at h
  split at h
  · skip
    split at h
    rotate_left 1
    · cases h
    rename_i hsp
    have esp:=splitRun_eq hsp
    subst esp
    obtain ⟨hb,h⟩:=cond_some' h
    cases qb_eq hb
    exact fo1 (hG135_2d4 fuel) Tryz.func135 rfl (B135_2d4_0_blk fuel) (by kernel_rfl) _ _ kk r ((F135_2d4_eqg fuel (F_coder_Encoder_Put_cf0 fuel) _ _ _ _ _ _ _ kk).trans h)
  · cases h
def kp87_856 (i:Nat):Option (List Nat):=Ev.look i [(600000,[])]
def Gg87_856 (c:YF71_a20) (a:YF130_cf0) (d:YF133) (e:YF134) (b:YF135_2d4) (g:YF136) (f:Nat):Option Ev.Spec:=Ev.look f [(71,spg71_a20 c),(130,spg130_cf0 a),(133,spg133 d),(134,spg134 e),(135,spg135_2d4 b),(136,spg136 g)]
def G87_856 (fuel:Nat):Nat→Option Ev.Spec:=Gg87_856 (F_coder_Encoder_Model_a20 fuel) (F_coder_Encoder_Put_cf0 fuel) (F_number_Valid fuel) (F_number_fits fuel) (F_number_put_2d4 fuel) (F_number_events fuel)
def F_number_Put_856 (fuel:Nat) (n:Int) (o:Bool) (p C:Int) (D E:Int) (F:Bool) (G H:(List Int)) (k0:(Int×Int×Int×Int×Bool×(List Int)×(List Int))→Option Ans):Option Ans:=(F_coder_Encoder_Put_cf0 fuel ((-1:Int)) (0) C D E F G H (fun (z,a,b,c,d,e,f)=>bif z==7 then k0 (7,a,b,c,d,e,f) else (F_number_Valid fuel o p (fun B=>bif !B then k0 (2,a,b,c,d,e,f) else (F_coder_Encoder_Model_a20 fuel a b c d e f (fun (q,g,h,i,j,k,l,r)=>(F_number_fits fuel q r n (48) (fun m=>bif m != 0 then k0 (m,g,h,i,j,k,l) else (F_number_events fuel n o p (fun A=>(F_number_put_2d4 fuel A g h i j k l (fun (s,t,u,v,w,x,y)=>k0 (s,t,u,v,w,x,y)))))))))))) (fun (z,a,b,c,d,e,f)=>bif z==7 then k0 (7,a,b,c,d,e,f) else (F_number_Valid fuel o p (fun B=>bif !B then k0 (2,a,b,c,d,e,f) else (F_coder_Encoder_Model_a20 fuel a b c d e f (fun (q,g,h,i,j,k,l,r)=>(F_number_fits fuel q r n (48) (fun m=>bif m != 0 then k0 (m,g,h,i,j,k,l) else (F_number_events fuel n o p (fun A=>(F_number_put_2d4 fuel A g h i j k l (fun (s,t,u,v,w,x,y)=>k0 (s,t,u,v,w,x,y)))))))))))))
abbrev YF87_856:Type:=Int→Bool→Int→Int→Int→Int→Bool→LI→LI→((Int×Int×Int×Int×Bool×LI×LI)→Option Ans)→Option Ans
theorem F87_856_eqg (fuel:Nat) (u:YF71_a20) (K:YF130_cf0) (E:YF133) (F:YF134) (t:YF135_2d4) (G:YF136) (p:Int) (q:Bool) (s L:Int) (M N:Int) (O:Bool) (P Q:LI) (k:Ev.Cont):evalFn tab (Gg87_856 u K E F t G) J0 kp87_856 fuel Tryz.f87 [.c (.ptr 0 0),.c (i6 p),.agg [.bool q,i6 s]] [.cells 164 (i6 L::.own 1::ctb (.int .u64 M::.int .u64 N::.own 2::.bool O::[])),.vec 3 (.int .i64) P false,.vec 5 (.int .u8) Q false] (wkC [1000002] k)=(fun  (k0:(Int×Int×Int×Int×Bool×LI×LI)→OA)=>
  (K ((-1:Int)) ((0:Int)) L M N O P Q
  (fun (H,a,b,d,e,f,g)=>
  bif H==(7:Int) then
  k0 ((7:Int),a,b,d,e,f,g)
  else
  (E q s
  (fun J=>
  bif !J then
  k0 ((2:Int),a,b,d,e,f,g)
  else
  (u a b d e f g
  (fun (v,h,i,j,l,m,n,w)=>
  (F v w p ((48:Int))
  (fun o=>
  bif o != (0:Int) then
  k0 (o,h,i,j,l,m,n)
  else
  (G p q s
  (fun I=>
  (t I h i j l m n
  (fun (x,y,z,A,B,C,D)=>
  k0 (x,y,z,A,B,C,D))))))))))))
  (fun (H,a,b,d,e,f,g)=>
  bif H==(7:Int) then
  k0 ((7:Int),a,b,d,e,f,g)
  else
  (E q s
  (fun J=>
  bif !J then
  k0 ((2:Int),a,b,d,e,f,g)
  else
  (u a b d e f g
  (fun (v,h,i,j,l,m,n,w)=>
  (F v w p ((48:Int))
  (fun o=>
  bif o != (0:Int) then
  k0 (o,h,i,j,l,m,n)
  else
  (G p q s
  (fun I=>
  (t I h i j l m n
  (fun (x,y,z,A,B,C,D)=>
  k0 (x,y,z,A,B,C,D)))))))))))))) (fun r=>match r with | (R,S,T,U,V,W,X)=>k (.c (i6 R),[.cells 164 (i6 S::.own 1::ctb (.int .u64 T::.int .u64 U::.own 2::.bool V::[])),.vec 3 (.int .i64) W false,.vec 5 (.int .u8) X true])):=by
  kernel_rfl
theorem hG87_856 (fuel:Nat):GOK Tryz.prog (G87_856 fuel):=
  gc (ok71_a20 fuel) Tryz.func71 (by kernel_rfl) rfl <|
  gc (ok130_cf0 fuel) Tryz.func130 (by kernel_rfl) rfl <|
  gc (ok133 fuel) Tryz.func133 (by kernel_rfl) rfl <|
  gc (ok134 fuel) Tryz.func134 (by kernel_rfl) rfl <|
  gc (ok135_2d4 fuel) Tryz.func135 (by kernel_rfl) rfl <|
  gc (ok136 fuel) Tryz.func136 (by kernel_rfl) rfl <|
  gok_nil
theorem fok87_856 (fuel:Nat):FnOK Tryz.prog 87 (evalFn tab (G87_856 fuel) J0 kp87_856 fuel Tryz.f87):=
  fn_ok tab_ok (hG87_856 fuel) mixed Tryz.func87 (c:=(Tryz.f87.body).getD .skip) rfl (fun q hq=>by
    rw [(by kernel_rfl:obl J0 ((Tryz.f87.body).getD .skip)= [])] at hq
    cases hq)
def spg87_856 (F:YF87_856):Ev.Spec:=fun args objs k=>match args,objs with | [.c (.ptr b d),.c (i6 e),.agg [.bool f,i6 g]],[.cells h a,.vec i (.int .i64) j false,.vec l (.int .u8) m false]=>(match splitRun 2 ctn a with | some ([i6 n,.own o],[.int .u64 p,.int .u64 q,.own s,.bool t])=>bif qb [b,d,h,i,l,o,s] [0,0,164,3,5,1,2] then F e f g n p q t j m (fun r=>match r with | (u,v,w,x,y,z,A)=>k (.c (i6 u),[.cells 164 (i6 v::.own 1::ctb (.int .u64 w::.int .u64 x::.own 2::.bool y::[])),.vec 3 (.int .i64) z false,.vec 5 (.int .u8) A true])) else none | _=>none) | _,_=>none
def spec87_856 (fuel:Nat):Ev.Spec:=spg87_856 (F_number_Put_856 fuel)
theorem ok87_856 (fuel:Nat):FnOK Tryz.prog 87 (spec87_856 fuel):=by
  intro args objs kk r h
  unfold spec87_856 spg87_856 at h
  split at h
  · skip
    split at h
    rotate_left 1
    · cases h
    rename_i hsp
    have esp:=splitRun_eq hsp
    subst esp
    obtain ⟨hb,h⟩:=cond_some' h
    cases qb_eq hb
    exact (fok87_856 fuel).wk [1000002] _ _ kk r ((F87_856_eqg fuel (F_coder_Encoder_Model_a20 fuel) (F_coder_Encoder_Put_cf0 fuel) (F_number_Valid fuel) (F_number_fits fuel) (F_number_put_2d4 fuel) (F_number_events fuel) _ _ _ _ _ _ _ _ _ kk).trans h)
  · cases h
def kp112 (i:Nat):Option (List Nat):=Ev.look i [(7,[3,24,25,26]),(100000,[]),(400000,[2])]
def Gg112 (f:Nat):Option Ev.Spec:=Ev.look f []
def G112 (fuel:Nat):Nat→Option Ev.Spec:=Gg112
def S_coder_Valid_0 (fuel:Nat) (v:Int×(List Int)×Int×Int) (c:(Int×(List Int)×Int×Int)→Option Ans) (B:(Bool→Option Ans)×(Unit→Option Ans)):Option Ans:=match v,B with | (e,d,f,a),(ret,b)=>bif decide (a < f) then bif decide ((0:Int)≤a∧a < (↑d.length:Int)) then bif decide (d.getD a.toNat (0:Int) < (0:Int)) then ret false else bif decide (d.getD a.toNat (0:Int)≥e) then ret false else c (e,d,f,i64.wrap (a+(1:Int))) else none else b ()
def L_coder_Valid_0 (fuel:Nat) (v:Int×(List Int)×Int×Int) (ret:(Bool→Option Ans)) (b:(Unit→Option Ans)):Option Ans:=iter (S_coder_Valid_0 fuel) fuel v (ret,b)
def T112_0 (v:Int×LI×Int×Int):Ev.St:=match v with | (a,b,d,e)=>⟨[(3,.c (i6 a)),(24,.c (.sl (.int .i64) b)),(25,.c (i6 d)),(26,.c (i6 e))],[],0,0⟩
def E112_0 (K:KT):(Bool→OA)×(Unit→OA):=((fun v=>match v with | a=>K .ret ⟨[(2,.c (.bool a))],[],0,0⟩),(fun v=>match v with | ()=>K .normal ⟨[],[],0,0⟩))
theorem S112_0_ok (fuel:Nat) (R:Ev.St→OA) (K:KT) (a:Int) (b:LI) (c d:Int):evalCode tab (G112 fuel) J0 kp112 fuel (bodyOf 0 Tryz.f112) (T112_0 (a,b,c,d)) (lc kp112 7 0 R K)=S_coder_Valid_0 fuel (a,b,c,d) (fun v=>R (T112_0 v)) (E112_0 K):=by
  kernel_rfl
def B112_0 (fuel:Nat):Ev.Blk:=fun st K=>match canonO (kp112 7) st with | some s=>(match s with | ⟨[(a,.c (i6 b)),(d,.c (.sl (.int .i64) e)),(f,.c (i6 g)),(h,.c (i6 i))],[],j,k⟩=>bif qb [a,d,f,h,j,k] [3,24,25,26,0,0] then iter (S_coder_Valid_0 fuel) fuel (b,e,g,i) (E112_0 K) else none | _=>none) | none=>none
theorem B112_0_ok (fuel:Nat) (st:Ev.St) (K:KT) (r:Ans) (h:B112_0 fuel st K=some r):evalCode tab (G112 fuel) J0 kp112 fuel (.block 0 (.loop (bodyOf 0 Tryz.f112))) st K=some r:=by
  unfold B112_0 at h
  split at h
  · rename_i s hs
    split at h
    · skip
      obtain ⟨hb,h⟩:=cond_some' h
      cases qb_eq hb
      exact blk_loop (S:=T112_0) (ks:=E112_0) (step:=S_coder_Valid_0 fuel) (v:=(_,_,_,_)) (by kernel_rfl) (by kernel_rfl) (fun R K v=>by obtain ⟨a,b,c,d⟩:=v; exact S112_0_ok fuel R K a b c d) hs h
    · cases h
  · cases h
def J112 (fuel:Nat) (i:Nat):Option Ev.Blk:=Ev.look i [(100000,B112_0 fuel)]
def F_coder_Valid (fuel:Nat) (b:Int) (a:(List Int)) (k0:(Bool)→Option Ans):Option Ans:=bif b != 0 then bif b != 1 then k0 false else bif decide ((↑a.length:Int) > 8192) then k0 false else bif b==1 then (L_coder_Valid_0 fuel (65536,a,(↑a.length:Int),0) (fun ret0_0=>k0 ret0_0) (fun ()=>k0 true)) else (L_coder_Valid_0 fuel (64,a,(↑a.length:Int),0) (fun ret0_0=>k0 ret0_0) (fun ()=>k0 true)) else bif decide ((↑a.length:Int) > 8192) then k0 false else bif b==1 then (L_coder_Valid_0 fuel (65536,a,(↑a.length:Int),0) (fun ret0_0=>k0 ret0_0) (fun ()=>k0 true)) else (L_coder_Valid_0 fuel (64,a,(↑a.length:Int),0) (fun ret0_0=>k0 ret0_0) (fun ()=>k0 true))
abbrev YF112:Type:=Int→LI→(Bool→Option Ans)→Option Ans
theorem F112_eq (fuel:Nat) (a:Int) (b:LI) (k:Ev.Cont):evalFn tab (G112 fuel) (J112 fuel) kp112 fuel Tryz.f112 [.agg [i6 a,.sl (.int .i64) b]] [] k=F_coder_Valid fuel a b (fun r=>match r with | d=>k (.c (.bool d),[])):=by
  kernel_rfl
theorem hG112 (fuel:Nat):GOK Tryz.prog (G112 fuel):=
  gok_nil
theorem B112_0_blk (fuel:Nat):BlkOK Tryz.prog Tryz.f112.ntmps (.block 0 (.loop (bodyOf 0 Tryz.f112))) (B112_0 fuel):=bo0 (hG112 fuel) (by kernel_rfl) (by kernel_rfl) (B112_0_ok fuel)
def spg112 (F:YF112):Ev.Spec:=fun args objs k=>match args,objs with | [.agg [i6 a,.sl (.int .i64) b]],[]=>F a b (fun r=>match r with | d=>k (.c (.bool d),[])) | _,_=>none
def spec112 (fuel:Nat):Ev.Spec:=spg112 (F_coder_Valid fuel)
theorem ok112 (fuel:Nat):FnOK Tryz.prog 112 (spec112 fuel):=by
  intro args objs kk r h
  unfold spec112 spg112 at h
  split at h
  · skip
    exact fo1 (hG112 fuel) Tryz.func112 rfl (B112_0_blk fuel) (by kernel_rfl) _ _ kk r ((F112_eq fuel _ _ kk).trans h)
  · cases h
def kp152 (i:Nat):Option (List Nat):=Ev.look i [(4,[0,1,2,4]),(100000,[0,1]),(400000,[0])]
def Gg152 (f:Nat):Option Ev.Spec:=Ev.look f []
def G152 (fuel:Nat):Nat→Option Ev.Spec:=Gg152
def F_coder_chances (fuel:Nat)  (k0:(Unit)→Option Ans):Option Ans:=k0 ()
abbrev YF152:Type:=((Unit)→Option Ans)→Option Ans
theorem F152_eq (fuel:Nat)  (k:Ev.Cont):evalFn tab (G152 fuel) J0 kp152 100 Tryz.f152 [] [] k=F_coder_chances fuel  (fun r=>match r with | ()=>k (.agg (ctb []),[])):=by
  kernel_rfl
theorem hG152 (fuel:Nat):GOK Tryz.prog (G152 fuel):=
  gok_nil
theorem fok152 (fuel:Nat):FnOK Tryz.prog 152 (evalFn tab (G152 fuel) J0 kp152 100 Tryz.f152):=
  fn_ok tab_ok (hG152 fuel) mixed Tryz.func152 (c:=(Tryz.f152.body).getD .skip) rfl (fun q hq=>by
    rw [(by kernel_rfl:obl J0 ((Tryz.f152.body).getD .skip)= [])] at hq
    cases hq)
def spg152 (F:YF152):Ev.Spec:=fun args objs k=>match args,objs with | [],[]=>F  (fun r=>match r with | ()=>k (.agg (ctb []),[])) | _,_=>none
theorem ok152 (fuel:Nat):FnOK Tryz.prog 152 (spg152 (F_coder_chances fuel)):=by
  intro args objs kk r h
  unfold spg152 at h
  split at h
  · skip
    exact fok152 fuel _ _ kk r ((F152_eq fuel kk).trans h)
  · cases h
def kp114 (i:Nat):Option (List Nat):=Ev.look i []
def Gg114 (a:YF119) (b:YF152) (f:Nat):Option Ev.Spec:=Ev.look f [(119,spg119 a),(152,spg152 b)]
def G114 (fuel:Nat):Nat→Option Ev.Spec:=Gg114 (F_coder_clone fuel) (F_coder_chances fuel)
def Fg_coder_begin (fuel:Nat) (a:YF119) (b:YF152) (e:Int) (f:LI) (k0:(Int×Int×Int×LI)→OA):OA:=(a e f (fun (c,d)=>(b (fun g=>k0 (c,0,4294967295,d)))))
abbrev YF114:Type:=Int→LI→((Int×Int×Int×LI)→Option Ans)→Option Ans
def F_coder_begin (fuel:Nat):YF114:=Fg_coder_begin fuel (F_coder_clone fuel) (F_coder_chances fuel)
theorem F114_eqg (fuel:Nat) (a:YF119) (b:YF152) (c:Int) (d:LI) (k:Ev.Cont):evalFn tab (Gg114 a b) J0 kp114 fuel Tryz.f114 [.agg [i6 c,.sl (.int .i64) d]] [] k=Fg_coder_begin fuel a b c d (fun r=>match r with | (e,f,g,h)=>k (.agg (i6 e::.own 0::ctb (.int .u64 f::.int .u64 g::[])),[.vec 3 (.int .i64) h true])):=by
  kernel_rfl
theorem hG114 (fuel:Nat):GOK Tryz.prog (G114 fuel):=
  gc (ok119 fuel) Tryz.func119 (by kernel_rfl) rfl <|
  gc (ok152 fuel) Tryz.func152 (by kernel_rfl) rfl <|
  gok_nil
def spg114 (F:YF114):Ev.Spec:=fun args objs k=>match args,objs with | [.agg [i6 a,.sl (.int .i64) b]],[]=>F a b (fun r=>match r with | (c,d,e,f)=>k (.agg (i6 c::.own 0::ctb (.int .u64 d::.int .u64 e::[])),[.vec 3 (.int .i64) f true])) | _,_=>none
def spec114 (fuel:Nat):Ev.Spec:=spg114 (F_coder_begin fuel)
theorem ok114 (fuel:Nat):FnOK Tryz.prog 114 (spec114 fuel):=by
  intro args objs kk r h
  unfold spec114 spg114 at h
  split at h
  · skip
    exact fo0 (hG114 fuel) Tryz.func114 rfl (by kernel_rfl) _ _ kk r ((F114_eqg fuel (F_coder_clone fuel) (F_coder_chances fuel) _ _ kk).trans h)
  · cases h
def kp120_40a (i:Nat):Option (List Nat):=Ev.look i [(200001,[0]),(200002,[0])]
def Gg120_40a (f:Nat):Option Ev.Spec:=Ev.look f []
def G120_40a (fuel:Nat):Nat→Option Ev.Spec:=Gg120_40a
def F_coder_Decoder_shift_40a (fuel:Nat) (c d:Int) (e a:Int) (f g:Int) (h i:Bool) (j b:(List Int)) (k0:(Int×Int×Int×Int×Int×Int×Bool×Bool×(List Int)×(List Int))→Option Ans):Option Ans:=bif decide (a < (↑b.length:Int)) then bif decide (0≤a∧a < (↑b.length:Int)) then k0 (c,d,e,i64.wrap (a+1),Ev.ior IntKind.u64 (Ev.iand IntKind.u64 (Ev.ishl IntKind.u64 f 8) 4294967295) (u64.wrap (b.getD a.toNat 0)),g,h,i,j,b) else none else k0 (c,d,e,i64.wrap (a+1),Ev.ior IntKind.u64 (Ev.iand IntKind.u64 (Ev.ishl IntKind.u64 f 8) 4294967295) (u64.wrap 0),i64.wrap (g+1),h,i,j,b)
abbrev YF120_40a:Type:=Int→Int→Int→Int→Int→Int→Bool→Bool→LI→LI→((Int×Int×Int×Int×Int×Int×Bool×Bool×LI×LI)→Option Ans)→Option Ans
theorem F120_40a_eq (fuel:Nat) (a b:Int) (d e:Int) (f g:Int) (h i:Bool) (j l:LI) (k:Ev.Cont):evalFn tab (G120_40a fuel) J0 kp120_40a fuel Tryz.f120 [.c (.ptr 0 0)] [.cells 168 (i6 a::.own 1::ctb (.int .u64 b::.int .u64 d::.own 2::i6 e::.int .u64 f::i6 g::.bool h::.bool i::[])),.vec 3 (.int .i64) j false,.vec 5 (.int .u8) l false] k=F_coder_Decoder_shift_40a fuel a b d e f g h i j l (fun r=>match r with | (m,n,o,p,q,s,t,u,v,w)=>k (.tup [],[.cells 168 (i6 m::.own 1::ctb (.int .u64 n::.int .u64 o::.own 2::i6 p::.int .u64 q::i6 s::.bool t::.bool u::[])),.vec 3 (.int .i64) v false,.vec 5 (.int .u8) w false])):=by
  kernel_rfl
theorem hG120_40a (fuel:Nat):GOK Tryz.prog (G120_40a fuel):=
  gok_nil
def spg120_40a (F:YF120_40a):Ev.Spec:=fun args objs k=>match args,objs with | [.c (.ptr b d)],[.cells e a,.vec f (.int .i64) g false,.vec h (.int .u8) i false]=>(match splitRun 2 ctn a with | some ([i6 j,.own l],[.int .u64 m,.int .u64 n,.own o,i6 p,.int .u64 q,i6 s,.bool t,.bool u])=>bif qb [b,d,e,f,h,l,o] [0,0,168,3,5,1,2] then F j m n p q s t u g i (fun r=>match r with | (v,w,x,y,z,A,B,C,D,E)=>k (.tup [],[.cells 168 (i6 v::.own 1::ctb (.int .u64 w::.int .u64 x::.own 2::i6 y::.int .u64 z::i6 A::.bool B::.bool C::[])),.vec 3 (.int .i64) D false,.vec 5 (.int .u8) E false])) else none | _=>none) | _,_=>none
def spec120_40a (fuel:Nat):Ev.Spec:=spg120_40a (F_coder_Decoder_shift_40a fuel)
theorem ok120_40a (fuel:Nat):FnOK Tryz.prog 120 (spec120_40a fuel):=by
  intro args objs kk r h
  unfold spec120_40a spg120_40a at h
  split at h
  · skip
    split at h
    rotate_left 1
    · cases h
    rename_i hsp
    have esp:=splitRun_eq hsp
    subst esp
    obtain ⟨hb,h⟩:=cond_some' h
    cases qb_eq hb
    exact fo0 (hG120_40a fuel) Tryz.func120 rfl (by kernel_rfl) _ _ kk r ((F120_40a_eq fuel _ _ _ _ _ _ _ _ _ _ kk).trans h)
  · cases h
def kp129_b82 (i:Nat):Option (List Nat):=Ev.look i [(11,[0,1,3,10,11,12,1000002]),(100000,[0,11]),(400000,[8]),(600000,[])]
def Gg129_b82 (c:YF71_a20) (a:YF130_cf0) (d:YF134) (b:YF135_2d4) (f:Nat):Option Ev.Spec:=Ev.look f [(71,spg71_a20 c),(130,spg130_cf0 a),(134,spg134 d),(135,spg135_2d4 b)]
def G129_b82 (fuel:Nat):Nat→Option Ev.Spec:=Gg129_b82 (F_coder_Encoder_Model_a20 fuel) (F_coder_Encoder_Put_cf0 fuel) (F_number_fits fuel) (F_number_put_2d4 fuel)
abbrev V_number_PutId_b82_0:Type:=Int×Int×Int×Int×Int×Int×Int×Bool×LI×LI×(List (Int×Int))
abbrev W_number_PutId_b82_0:Type:=(Int×Int×Int×Bool×LI×LI×(List (Int×Int))→OA)
def Sg_number_PutId_b82_0 (fuel:Nat) (p:YF71_a20) (n:YF130_cf0) (q:YF134) (o:YF135_2d4) (f d:Int) (g a:Int) (h i j:Int) (k:Bool) (l m:LI) (e:(List (Int×Int))) (c:V_number_PutId_b82_0→OA) (B:W_number_PutId_b82_0):OA:=match B with | b=>bif decide (a≥0) then bif decide (a < 0) then none else bif decide ((e.length+ [(i64.wrap (i64.wrap (f+g) - (1:Int)),Ev.iand IntKind.i64 (Ev.ishr IntKind.i64 d a) (1:Int))].length)*(16:Nat)≤(140737488355328:Nat)∧e.length+ [(i64.wrap (i64.wrap (f+g) - (1:Int)),Ev.iand IntKind.i64 (Ev.ishr IntKind.i64 d a) (1:Int))].length≤(140737488355328:Nat)) then c (f,d,i64.wrap (i64.wrap ((2:Int)*g)+Ev.iand IntKind.i64 (Ev.ishr IntKind.i64 d a) (1:Int)),i64.wrap (a - (1:Int)),h,i,j,k,l,m,e++ [(i64.wrap (i64.wrap (f+g) - (1:Int)),Ev.iand IntKind.i64 (Ev.ishr IntKind.i64 d a) (1:Int))]) else none else b (h,i,j,k,l,m,e)
def S_number_PutId_b82_0 (fuel:Nat) (v:Int×Int×Int×Int×Int×Int×Int×Bool×(List Int)×(List Int)×(List (Int×Int))) (c:(Int×Int×Int×Int×Int×Int×Int×Bool×(List Int)×(List Int)×(List (Int×Int)))→Option Ans) (B:(Int×Int×Int×Bool×(List Int)×(List Int)×(List (Int×Int))→Option Ans)):Option Ans:=match v with | (b,d,e,f,g,h,i,j,k,l,a)=>Sg_number_PutId_b82_0 fuel (F_coder_Encoder_Model_a20 fuel) (F_coder_Encoder_Put_cf0 fuel) (F_number_fits fuel) (F_number_put_2d4 fuel) b d e f g h i j k l a c B
def L_number_PutId_b82_0 (fuel:Nat) (v:V_number_PutId_b82_0) (b:W_number_PutId_b82_0):Option Ans:=iter (S_number_PutId_b82_0 fuel) fuel v b
def T129_b82_0 (v:V_number_PutId_b82_0):Ev.St:=match v with | (b,d,e,f,g,h,i,j,k,l,a)=>⟨[(0,.c (.ptr 0 0)),(1,.c (i6 b)),(3,.c (i6 d)),(10,.c (i6 e)),(11,.c (.own 3)),(12,.c (i6 f))],[(0,.cells 164 (i6 g::.own 1::ctb (.int .u64 h::.int .u64 i::.own 2::.bool j::[]))),(1,.vec 3 (.int .i64) k false),(2,.vec 5 (.int .u8) l true),(3,.vec 205 (.pair (.int .i64) (.int .i64)) a true)],4,3⟩
def E129_b82_0 (K:KT):W_number_PutId_b82_0:=(fun v=>match v with | (a,b,d,e,f,g,h)=>K .normal ⟨[(0,.c (.ptr 0 0)),(11,.c (.own 3))],[(0,.cells 164 (i6 a::.own 1::ctb (.int .u64 b::.int .u64 d::.own 2::.bool e::[]))),(1,.vec 3 (.int .i64) f false),(2,.vec 5 (.int .u8) g true),(3,.vec 205 (.pair (.int .i64) (.int .i64)) h true)],4,3⟩)
theorem S129_b82_0_okg (fuel:Nat) (c:YF71_a20) (a:YF130_cf0) (d:YF134) (b:YF135_2d4) (R:Ev.St→OA) (K:KT) (f g:Int) (h i:Int) (j k l:Int) (m:Bool) (n o:LI) (e:(List (Int×Int))):evalCode tab (Gg129_b82 c a d b) J0 kp129_b82 fuel (bodyOf 0 Tryz.f129) (T129_b82_0 (f,g,h,i,j,k,l,m,n,o,e)) (lc kp129_b82 11 0 R K)=Sg_number_PutId_b82_0 fuel c a d b f g h i j k l m n o e (fun v=>R (T129_b82_0 v)) (E129_b82_0 K):=by
  kernel_rfl
def B129_b82_0 (fuel:Nat):Ev.Blk:=fun st K=>match canonO (kp129_b82 11) st with | some s=>(match s with | ⟨[(o,.c (.ptr p q)),(r,.c (i6 t)),(u,.c (i6 v)),(w,.c (i6 x)),(y,.c (.own z)),(A,.c (i6 B))],[(C,.cells a b),(d,.vec e (.int .i64) D false),(f,.vec g (.int .u8) E true),(h,.vec i (.pair (.int .i64) (.int .i64)) j true)],k,l⟩=>(match splitRun 2 ctn b with | some ([i6 F,.own m],[.int .u64 G,.int .u64 H,.own n,.bool I])=>bif qb [o,p,q,r,u,w,y,z,A,C,a,d,e,f,g,h,i,k,l,m,n] [0,0,0,1,3,10,11,3,12,0,164,1,3,2,5,3,205,4,3,1,2] then iter (S_number_PutId_b82_0 fuel) fuel (t,v,x,B,F,G,H,I,D,E,j) (E129_b82_0 K) else none | _=>none) | _=>none) | none=>none
theorem B129_b82_0_ok (fuel:Nat) (st:Ev.St) (K:KT) (r:Ans) (h:B129_b82_0 fuel st K=some r):evalCode tab (G129_b82 fuel) J0 kp129_b82 fuel (.block 0 (.loop (bodyOf 0 Tryz.f129))) st K=some r:=by
  unfold B129_b82_0 at h
  split at h
  · rename_i s hs
    split at h
    · skip
      split at h
      rotate_left 1
      · cases h
      rename_i hsp
      have esp:=splitRun_eq hsp
      subst esp
      obtain ⟨hb,h⟩:=cond_some' h
      cases qb_eq hb
      exact blk_loop (S:=T129_b82_0) (ks:=E129_b82_0) (step:=S_number_PutId_b82_0 fuel) (v:=(_,_,_,_,_,_,_,_,_,_,_)) (by kernel_rfl) (by kernel_rfl) (fun R K v=>by obtain ⟨b,c,d,e,f,g,i,j,k,l,a⟩:=v; exact S129_b82_0_okg fuel (F_coder_Encoder_Model_a20 fuel) (F_coder_Encoder_Put_cf0 fuel) (F_number_fits fuel) (F_number_put_2d4 fuel) R K b c d e f g i j k l a) hs h
    · cases h
  · cases h
def J129_b82 (fuel:Nat) (i:Nat):Option Ev.Blk:=Ev.look i [(100000,B129_b82_0 fuel)]
def F_number_PutId_b82 (fuel:Nat) (p a:Int) (h H:Int) (I J:Int) (K:Bool) (L M:(List Int)) (k0:(Int×Int×Int×Int×Bool×(List Int)×(List Int))→Option Ans):Option Ans:=(F_coder_Encoder_Put_cf0 fuel ((-1:Int)) (0) H I J K L M (fun (z,b,c,d,e,f,g)=>bif z==7 then k0 (7,b,c,d,e,f,g) else bif decide (a < 0) then k0 (2,b,c,d,e,f,g) else bif decide (a > 10) then k0 (2,b,c,d,e,f,g) else bif decide (h < 0) then k0 (2,b,c,d,e,f,g) else bif decide (a < 0) then none else bif decide (h≥Ev.ishl IntKind.i64 1 a) then k0 (2,b,c,d,e,f,g) else bif decide (a < 0) then none else (F_coder_Encoder_Model_a20 fuel b c d e f g (fun (q,i,j,k,l,m,n,r)=>(F_number_fits fuel q r p (i64.wrap (Ev.ishl IntKind.i64 1 a - 1)) (fun o=>bif o != 0 then k0 (o,i,j,k,l,m,n) else (L_number_PutId_b82_0 fuel (p,h,1,i64.wrap (a - 1),i,j,k,l,m,n,[]) (fun (A,B,C,D,E,F,G)=>(F_number_put_2d4 fuel G A B C D E F (fun (s,t,u,v,w,x,y)=>k0 (s,t,u,v,w,x,y)))))))))) (fun (z,b,c,d,e,f,g)=>bif z==7 then k0 (7,b,c,d,e,f,g) else bif decide (a < 0) then k0 (2,b,c,d,e,f,g) else bif decide (a > 10) then k0 (2,b,c,d,e,f,g) else bif decide (h < 0) then k0 (2,b,c,d,e,f,g) else bif decide (a < 0) then none else bif decide (h≥Ev.ishl IntKind.i64 1 a) then k0 (2,b,c,d,e,f,g) else bif decide (a < 0) then none else (F_coder_Encoder_Model_a20 fuel b c d e f g (fun (q,i,j,k,l,m,n,r)=>(F_number_fits fuel q r p (i64.wrap (Ev.ishl IntKind.i64 1 a - 1)) (fun o=>bif o != 0 then k0 (o,i,j,k,l,m,n) else (L_number_PutId_b82_0 fuel (p,h,1,i64.wrap (a - 1),i,j,k,l,m,n,[]) (fun (A,B,C,D,E,F,G)=>(F_number_put_2d4 fuel G A B C D E F (fun (s,t,u,v,w,x,y)=>k0 (s,t,u,v,w,x,y)))))))))))
abbrev YF129_b82:Type:=Int→Int→Int→Int→Int→Int→Bool→LI→LI→((Int×Int×Int×Int×Bool×LI×LI)→Option Ans)→Option Ans
theorem F129_b82_eqg (fuel:Nat) (u:YF71_a20) (N:YF130_cf0) (E:YF134) (t:YF135_2d4) (s a:Int) (i O:Int) (P Q:Int) (R:Bool) (S T:LI) (k:Ev.Cont):evalFn tab (Gg129_b82 u N E t) (J129_b82 fuel) kp129_b82 fuel Tryz.f129 [.c (.ptr 0 0),.c (i6 s),.c (i6 a),.c (i6 i)] [.cells 164 (i6 O::.own 1::ctb (.int .u64 P::.int .u64 Q::.own 2::.bool R::[])),.vec 3 (.int .i64) S false,.vec 5 (.int .u8) T false] (wkC [1000002] k)=(fun  (k0:(Int×Int×Int×Int×Bool×LI×LI)→OA)=>
  (N ((-1:Int)) ((0:Int)) O P Q R S T
  (fun (F,b,d,e,f,g,h)=>
  bif F==(7:Int) then
  k0 ((7:Int),b,d,e,f,g,h)
  else
  bif decide (a < (0:Int)) then
  k0 ((2:Int),b,d,e,f,g,h)
  else
  bif decide (a > (10:Int)) then
  k0 ((2:Int),b,d,e,f,g,h)
  else
  bif decide (i < (0:Int)) then
  k0 ((2:Int),b,d,e,f,g,h)
  else
  bif decide (a < (0:Int)) then
  none
  else
  bif decide (i≥Ev.ishl IntKind.i64 (1:Int) a) then
  k0 ((2:Int),b,d,e,f,g,h)
  else
  bif decide (a < (0:Int)) then
  none
  else
  (u b d e f g h
  (fun (v,j,l,m,n,o,p,w)=>
  (E v w s (i64.wrap (Ev.ishl IntKind.i64 (1:Int) a - (1:Int)))
  (fun q=>
  bif q != (0:Int) then
  k0 (q,j,l,m,n,o,p)
  else
  (L_number_PutId_b82_0 fuel (s,i,(1:Int),i64.wrap (a - (1:Int)),j,l,m,n,o,p,[])
  (fun (G,H,I,J,K,L,M)=>
  (t M G H I J K L
  (fun (x,y,z,A,B,C,D)=>
  k0 (x,y,z,A,B,C,D))))))))))
  (fun (F,b,d,e,f,g,h)=>
  bif F==(7:Int) then
  k0 ((7:Int),b,d,e,f,g,h)
  else
  bif decide (a < (0:Int)) then
  k0 ((2:Int),b,d,e,f,g,h)
  else
  bif decide (a > (10:Int)) then
  k0 ((2:Int),b,d,e,f,g,h)
  else
  bif decide (i < (0:Int)) then
  k0 ((2:Int),b,d,e,f,g,h)
  else
  bif decide (a < (0:Int)) then
  none
  else
  bif decide (i≥Ev.ishl IntKind.i64 (1:Int) a) then
  k0 ((2:Int),b,d,e,f,g,h)
  else
  bif decide (a < (0:Int)) then
  none
  else
  (u b d e f g h
  (fun (v,j,l,m,n,o,p,w)=>
  (E v w s (i64.wrap (Ev.ishl IntKind.i64 (1:Int) a - (1:Int)))
  (fun q=>
  bif q != (0:Int) then
  k0 (q,j,l,m,n,o,p)
  else
  (L_number_PutId_b82_0 fuel (s,i,(1:Int),i64.wrap (a - (1:Int)),j,l,m,n,o,p,[])
  (fun (G,H,I,J,K,L,M)=>
  (t M G H I J K L
  (fun (x,y,z,A,B,C,D)=>
  k0 (x,y,z,A,B,C,D)))))))))))) (fun r=>match r with | (U,V,W,X,Y,Z,a0)=>k (.c (i6 U),[.cells 164 (i6 V::.own 1::ctb (.int .u64 W::.int .u64 X::.own 2::.bool Y::[])),.vec 3 (.int .i64) Z false,.vec 5 (.int .u8) a0 true])):=by
  kernel_rfl
theorem hG129_b82 (fuel:Nat):GOK Tryz.prog (G129_b82 fuel):=
  gc (ok71_a20 fuel) Tryz.func71 (by kernel_rfl) rfl <|
  gc (ok130_cf0 fuel) Tryz.func130 (by kernel_rfl) rfl <|
  gc (ok134 fuel) Tryz.func134 (by kernel_rfl) rfl <|
  gc (ok135_2d4 fuel) Tryz.func135 (by kernel_rfl) rfl <|
  gok_nil
theorem B129_b82_0_blk (fuel:Nat):BlkOK Tryz.prog Tryz.f129.ntmps (.block 0 (.loop (bodyOf 0 Tryz.f129))) (B129_b82_0 fuel):=bo0 (hG129_b82 fuel) (by kernel_rfl) (by kernel_rfl) (B129_b82_0_ok fuel)
theorem fok129_b82 (fuel:Nat):FnOK Tryz.prog 129 (evalFn tab (G129_b82 fuel) (J129_b82 fuel) kp129_b82 fuel Tryz.f129):=
  fn_ok tab_ok (hG129_b82 fuel) mixed Tryz.func129 (c:=(Tryz.f129.body).getD .skip) rfl (fun q hq=>by
    rw [(by kernel_rfl:obl (J129_b82 fuel) ((Tryz.f129.body).getD .skip)= [(.block 0 (.loop (bodyOf 0 Tryz.f129)),B129_b82_0 fuel)])] at hq
    simp only [List.mem_cons,List.not_mem_nil,or_false] at hq
    subst hq
    · exact B129_b82_0_blk fuel)
def spg129_b82 (F:YF129_b82):Ev.Spec:=fun args objs k=>match args,objs with | [.c (.ptr b d),.c (i6 e),.c (i6 f),.c (i6 g)],[.cells h a,.vec i (.int .i64) j false,.vec l (.int .u8) m false]=>(match splitRun 2 ctn a with | some ([i6 n,.own o],[.int .u64 p,.int .u64 q,.own s,.bool t])=>bif qb [b,d,h,i,l,o,s] [0,0,164,3,5,1,2] then F e f g n p q t j m (fun r=>match r with | (u,v,w,x,y,z,A)=>k (.c (i6 u),[.cells 164 (i6 v::.own 1::ctb (.int .u64 w::.int .u64 x::.own 2::.bool y::[])),.vec 3 (.int .i64) z false,.vec 5 (.int .u8) A true])) else none | _=>none) | _,_=>none
def spec129_b82 (fuel:Nat):Ev.Spec:=spg129_b82 (F_number_PutId_b82 fuel)
theorem ok129_b82 (fuel:Nat):FnOK Tryz.prog 129 (spec129_b82 fuel):=by
  intro args objs kk r h
  unfold spec129_b82 spg129_b82 at h
  split at h
  · skip
    split at h
    rotate_left 1
    · cases h
    rename_i hsp
    have esp:=splitRun_eq hsp
    subst esp
    obtain ⟨hb,h⟩:=cond_some' h
    cases qb_eq hb
    exact (fok129_b82 fuel).wk [1000002] _ _ kk r ((F129_b82_eqg fuel (F_coder_Encoder_Model_a20 fuel) (F_coder_Encoder_Put_cf0 fuel) (F_number_fits fuel) (F_number_put_2d4 fuel) _ _ _ _ _ _ _ _ _ kk).trans h)
  · cases h
def kp164_40a (i:Nat):Option (List Nat):=Ev.look i []
def Gg164_40a (f:Nat):Option Ev.Spec:=Ev.look f []
def G164_40a (fuel:Nat):Nat→Option Ev.Spec:=Gg164_40a
def F_coder_interval_lose_40a (fuel:Nat) (b a:Int) (c d:Int) (e f:Int) (g h:Bool) (i j:(List Int)) (k0:(Int×Int×Int×Int×Int×Int×Int×Bool×Bool×(List Int)×(List Int))→Option Ans):Option Ans:=k0 (u8.wrap (Ev.ishr IntKind.u64 a 24),b,Ev.iand IntKind.u64 (Ev.ishl IntKind.u64 a 8) 4294967295,Ev.ior IntKind.u64 (Ev.iand IntKind.u64 (Ev.ishl IntKind.u64 c 8) 4294967295) 255,d,e,f,g,h,i,j)
abbrev YF164_40a:Type:=Int→Int→Int→Int→Int→Int→Bool→Bool→LI→LI→((Int×Int×Int×Int×Int×Int×Int×Bool×Bool×LI×LI)→Option Ans)→Option Ans
theorem F164_40a_eq (fuel:Nat) (a b:Int) (d e:Int) (f g:Int) (h i:Bool) (j l:LI) (k:Ev.Cont):evalFn tab (G164_40a fuel) J0 kp164_40a fuel Tryz.f164 [.c (.ptr 0 0)] [.cells 168 (i6 a::.own 1::ctb (.int .u64 b::.int .u64 d::.own 2::i6 e::.int .u64 f::i6 g::.bool h::.bool i::[])),.vec 3 (.int .i64) j false,.vec 5 (.int .u8) l false] k=F_coder_interval_lose_40a fuel a b d e f g h i j l (fun r=>match r with | (n,o,p,q,s,t,u,v,w,x,m)=>k (.c (.int .u8 n),[.cells 168 (i6 o::.own 1::ctb (.int .u64 p::.int .u64 q::.own 2::i6 s::.int .u64 t::i6 u::.bool v::.bool w::[])),.vec 3 (.int .i64) x false,.vec 5 (.int .u8) m false])):=by
  kernel_rfl
theorem hG164_40a (fuel:Nat):GOK Tryz.prog (G164_40a fuel):=
  gok_nil
def spg164_40a (F:YF164_40a):Ev.Spec:=fun args objs k=>match args,objs with | [.c (.ptr d e)],[.cells f a,.vec g (.int .i64) h false,.vec i (.int .u8) j false]=>(match splitRun 2 ctn a with | some ([i6 l,.own m],[.int .u64 n,.int .u64 o,.own p,i6 q,.int .u64 s,i6 t,.bool u,.bool v])=>bif qb [d,e,f,g,i,m,p] [0,0,168,3,5,1,2] then F l n o q s t u v h j (fun r=>match r with | (w,x,y,z,A,B,C,D,E,G,b)=>k (.c (.int .u8 w),[.cells 168 (i6 x::.own 1::ctb (.int .u64 y::.int .u64 z::.own 2::i6 A::.int .u64 B::i6 C::.bool D::.bool E::[])),.vec 3 (.int .i64) G false,.vec 5 (.int .u8) b false])) else none | _=>none) | _,_=>none
theorem ok164_40a (fuel:Nat):FnOK Tryz.prog 164 (spg164_40a (F_coder_interval_lose_40a fuel)):=by
  intro args objs kk r h
  unfold spg164_40a at h
  split at h
  · skip
    split at h
    rotate_left 1
    · cases h
    rename_i hsp
    have esp:=splitRun_eq hsp
    subst esp
    obtain ⟨hb,h⟩:=cond_some' h
    cases qb_eq hb
    exact fo0 (hG164_40a fuel) Tryz.func164 rfl (by kernel_rfl) _ _ kk r ((F164_40a_eq fuel _ _ _ _ _ _ _ _ _ _ kk).trans h)
  · cases h
def kp162_aa3 (i:Nat):Option (List Nat):=Ev.look i [(200001,[0])]
def Gg162_aa3 (a:YF189_bb9) (f:Nat):Option Ev.Spec:=Ev.look f [(189,spg189_bb9 a)]
def G162_aa3 (fuel:Nat):Nat→Option Ev.Spec:=Gg162_aa3 (F_coder_table_chance_bb9 fuel)
def Fg_coder_interval_mid_aa3 (fuel:Nat) (g:YF189_bb9) (b e:Int) (a c:Int) (i j k:Int) (l m:Bool) (d h:LI) (k0:(Int×Int×Int×Int×Int×Int×Int×Bool×Bool×LI×LI)→OA):OA:=bif decide (0≤b∧b < (↑d.length:Int)) then (g e (d.getD b.toNat 0) (fun f=>k0 (u64.wrap (u64.wrap (a+u64.wrap (u64.wrap ((u64.wrap (c - a)).tdiv 4096)*u64.wrap f))+u64.wrap ((u64.wrap ((u64.wrap (c - a)).tmod 4096*u64.wrap f)).tdiv 4096)),e,a,c,i,j,k,l,m,d,h))) else none
abbrev YF162_aa3:Type:=Int→Int→Int→Int→Int→Int→Int→Bool→Bool→LI→LI→((Int×Int×Int×Int×Int×Int×Int×Bool×Bool×LI×LI)→Option Ans)→Option Ans
def F_coder_interval_mid_aa3 (fuel:Nat):YF162_aa3:=Fg_coder_interval_mid_aa3 fuel (F_coder_table_chance_bb9 fuel)
theorem F162_aa3_eqg (fuel:Nat) (a:YF189_bb9) (d e:Int) (f g:Int) (h i j:Int) (l m:Bool) (n b:LI) (k:Ev.Cont):evalFn tab (Gg162_aa3 a) J0 kp162_aa3 fuel Tryz.f162 [.c (.ptr 0 0),.c (i6 d)] [.cells 168 (i6 e::.own 1::ctb (.int .u64 f::.int .u64 g::.own 2::i6 h::.int .u64 i::i6 j::.bool l::.bool m::[])),.vec 3 (.int .i64) n false,.vec 5 (.int .u8) b false] k=Fg_coder_interval_mid_aa3 fuel a d e f g h i j l m n b (fun r=>match r with | (p,q,s,t,u,v,w,x,y,z,o)=>k (.c (.int .u64 p),[.cells 168 (i6 q::.own 1::ctb (.int .u64 s::.int .u64 t::.own 2::i6 u::.int .u64 v::i6 w::.bool x::.bool y::[])),.vec 3 (.int .i64) z false,.vec 5 (.int .u8) o false])):=by
  kernel_rfl
theorem hG162_aa3 (fuel:Nat):GOK Tryz.prog (G162_aa3 fuel):=
  gc (ok189_bb9 fuel) Tryz.func189 (by kernel_rfl) rfl <|
  gok_nil
def spg162_aa3 (F:YF162_aa3):Ev.Spec:=fun args objs k=>match args,objs with | [.c (.ptr e f),.c (i6 g)],[.cells h a,.vec i (.int .i64) j false,.vec l (.int .u8) b false]=>(match splitRun 2 ctn a with | some ([i6 m,.own n],[.int .u64 o,.int .u64 p,.own q,i6 s,.int .u64 t,i6 u,.bool v,.bool w])=>bif qb [e,f,h,i,l,n,q] [0,0,168,3,5,1,2] then F g m o p s t u v w j b (fun r=>match r with | (x,y,z,A,B,C,D,E,G,H,d)=>k (.c (.int .u64 x),[.cells 168 (i6 y::.own 1::ctb (.int .u64 z::.int .u64 A::.own 2::i6 B::.int .u64 C::i6 D::.bool E::.bool G::[])),.vec 3 (.int .i64) H false,.vec 5 (.int .u8) d false])) else none | _=>none) | _,_=>none
theorem ok162_aa3 (fuel:Nat):FnOK Tryz.prog 162 (spg162_aa3 (F_coder_interval_mid_aa3 fuel)):=by
  intro args objs kk r h
  unfold spg162_aa3 at h
  split at h
  · skip
    split at h
    rotate_left 1
    · cases h
    rename_i hsp
    have esp:=splitRun_eq hsp
    subst esp
    obtain ⟨hb,h⟩:=cond_some' h
    cases qb_eq hb
    exact fo0 (hG162_aa3 fuel) Tryz.func162 rfl (by kernel_rfl) _ _ kk r ((F162_aa3_eqg fuel (F_coder_table_chance_bb9 fuel) _ _ _ _ _ _ _ _ _ _ _ kk).trans h)
  · cases h
def kp163_40a (i:Nat):Option (List Nat):=Ev.look i [(200001,[0])]
def Gg163_40a (f:Nat):Option Ev.Spec:=Ev.look f []
def G163_40a (fuel:Nat):Nat→Option Ev.Spec:=Gg163_40a
def F_coder_interval_same_40a (fuel:Nat) (c a:Int) (b d:Int) (e f:Int) (g h:Bool) (i j:(List Int)) (k0:(Bool×Int×Int×Int×Int×Int×Int×Bool×Bool×(List Int)×(List Int))→Option Ans):Option Ans:=k0 (Ev.ishr IntKind.u64 a 24==Ev.ishr IntKind.u64 b 24,c,a,b,d,e,f,g,h,i,j)
abbrev YF163_40a:Type:=Int→Int→Int→Int→Int→Int→Bool→Bool→LI→LI→((Bool×Int×Int×Int×Int×Int×Int×Bool×Bool×LI×LI)→Option Ans)→Option Ans
theorem F163_40a_eq (fuel:Nat) (a b:Int) (d e:Int) (f g:Int) (h i:Bool) (j l:LI) (k:Ev.Cont):evalFn tab (G163_40a fuel) J0 kp163_40a fuel Tryz.f163 [.c (.ptr 0 0)] [.cells 168 (i6 a::.own 1::ctb (.int .u64 b::.int .u64 d::.own 2::i6 e::.int .u64 f::i6 g::.bool h::.bool i::[])),.vec 3 (.int .i64) j false,.vec 5 (.int .u8) l false] k=F_coder_interval_same_40a fuel a b d e f g h i j l (fun r=>match r with | (n,o,p,q,s,t,u,v,w,x,m)=>k (.c (.bool n),[.cells 168 (i6 o::.own 1::ctb (.int .u64 p::.int .u64 q::.own 2::i6 s::.int .u64 t::i6 u::.bool v::.bool w::[])),.vec 3 (.int .i64) x false,.vec 5 (.int .u8) m false])):=by
  kernel_rfl
theorem hG163_40a (fuel:Nat):GOK Tryz.prog (G163_40a fuel):=
  gok_nil
def spg163_40a (F:YF163_40a):Ev.Spec:=fun args objs k=>match args,objs with | [.c (.ptr d e)],[.cells f a,.vec g (.int .i64) h false,.vec i (.int .u8) j false]=>(match splitRun 2 ctn a with | some ([i6 l,.own m],[.int .u64 n,.int .u64 o,.own p,i6 q,.int .u64 s,i6 t,.bool u,.bool v])=>bif qb [d,e,f,g,i,m,p] [0,0,168,3,5,1,2] then F l n o q s t u v h j (fun r=>match r with | (w,x,y,z,A,B,C,D,E,G,b)=>k (.c (.bool w),[.cells 168 (i6 x::.own 1::ctb (.int .u64 y::.int .u64 z::.own 2::i6 A::.int .u64 B::i6 C::.bool D::.bool E::[])),.vec 3 (.int .i64) G false,.vec 5 (.int .u8) b false])) else none | _=>none) | _,_=>none
theorem ok163_40a (fuel:Nat):FnOK Tryz.prog 163 (spg163_40a (F_coder_interval_same_40a fuel)):=by
  intro args objs kk r h
  unfold spg163_40a at h
  split at h
  · skip
    split at h
    rotate_left 1
    · cases h
    rename_i hsp
    have esp:=splitRun_eq hsp
    subst esp
    obtain ⟨hb,h⟩:=cond_some' h
    cases qb_eq hb
    exact fo0 (hG163_40a fuel) Tryz.func163 rfl (by kernel_rfl) _ _ kk r ((F163_40a_eq fuel _ _ _ _ _ _ _ _ _ _ kk).trans h)
  · cases h
def kp161_7ec (i:Nat):Option (List Nat):=Ev.look i [(200003,[0])]
def Gg161_7ec (a:YF188) (f:Nat):Option Ev.Spec:=Ev.look f [(188,spg188 a)]
def G161_7ec (fuel:Nat):Nat→Option Ev.Spec:=Gg161_7ec (F_coder_next fuel)
def Fg_coder_interval_take_7ec (fuel:Nat) (f:YF188) (a d:Int) (i c:Int) (n o:Int) (j k l:Int) (m g:Bool) (b h:LI) (k0:(Int×Int×Int×Int×Int×Int×Bool×Bool×LI×LI)→OA):OA:=bif d==1 then bif decide (0≤a∧a < (↑b.length:Int)) then (f c (b.getD a.toNat 0) d (fun e=>bif decide (0≤a∧a < (↑b.length:Int)) then k0 (c,n,i,j,k,l,m,g,b.set a.toNat e,h) else none)) else none else bif decide (0≤a∧a < (↑b.length:Int)) then (f c (b.getD a.toNat 0) d (fun e=>bif decide (0≤a∧a < (↑b.length:Int)) then k0 (c,u64.wrap (i+1),o,j,k,l,m,g,b.set a.toNat e,h) else none)) else none
abbrev YF161_7ec:Type:=Int→Int→Int→Int→Int→Int→Int→Int→Int→Bool→Bool→LI→LI→((Int×Int×Int×Int×Int×Int×Bool×Bool×LI×LI)→Option Ans)→Option Ans
def F_coder_interval_take_7ec (fuel:Nat):YF161_7ec:=Fg_coder_interval_take_7ec fuel (F_coder_next fuel)
theorem F161_7ec_eqg (fuel:Nat) (a:YF188) (f g:Int) (h i:Int) (j l:Int) (m n o:Int) (p b:Bool) (d e:LI) (k:Ev.Cont):evalFn tab (Gg161_7ec a) J0 kp161_7ec fuel Tryz.f161 [.c (.ptr 0 0),.c (i6 f),.c (i6 g),.c (.int .u64 h)] [.cells 168 (i6 i::.own 1::ctb (.int .u64 j::.int .u64 l::.own 2::i6 m::.int .u64 n::i6 o::.bool p::.bool b::[])),.vec 3 (.int .i64) d false,.vec 5 (.int .u8) e false] k=Fg_coder_interval_take_7ec fuel a f g h i j l m n o p b d e (fun r=>match r with | (q,s,t,u,v,w,x,y,z,A)=>k (.tup [],[.cells 168 (i6 q::.own 1::ctb (.int .u64 s::.int .u64 t::.own 2::i6 u::.int .u64 v::i6 w::.bool x::.bool y::[])),.vec 3 (.int .i64) z false,.vec 5 (.int .u8) A false])):=by
  kernel_rfl
theorem hG161_7ec (fuel:Nat):GOK Tryz.prog (G161_7ec fuel):=
  gc (ok188 fuel) Tryz.func188 (by kernel_rfl) rfl <|
  gok_nil
def spg161_7ec (F:YF161_7ec):Ev.Spec:=fun args objs k=>match args,objs with | [.c (.ptr f g),.c (i6 h),.c (i6 i),.c (.int .u64 j)],[.cells l a,.vec m (.int .i64) b false,.vec n (.int .u8) d false]=>(match splitRun 2 ctn a with | some ([i6 o,.own p],[.int .u64 q,.int .u64 s,.own t,i6 u,.int .u64 v,i6 w,.bool x,.bool e])=>bif qb [f,g,l,m,n,p,t] [0,0,168,3,5,1,2] then F h i j o q s u v w x e b d (fun r=>match r with | (y,z,A,B,C,D,E,G,H,I)=>k (.tup [],[.cells 168 (i6 y::.own 1::ctb (.int .u64 z::.int .u64 A::.own 2::i6 B::.int .u64 C::i6 D::.bool E::.bool G::[])),.vec 3 (.int .i64) H false,.vec 5 (.int .u8) I false])) else none | _=>none) | _,_=>none
theorem ok161_7ec (fuel:Nat):FnOK Tryz.prog 161 (spg161_7ec (F_coder_interval_take_7ec fuel)):=by
  intro args objs kk r h
  unfold spg161_7ec at h
  split at h
  · skip
    split at h
    rotate_left 1
    · cases h
    rename_i hsp
    have esp:=splitRun_eq hsp
    subst esp
    obtain ⟨hb,h⟩:=cond_some' h
    cases qb_eq hb
    exact fo0 (hG161_7ec fuel) Tryz.func161 rfl (by kernel_rfl) _ _ kk r ((F161_7ec_eqg fuel (F_coder_next fuel) _ _ _ _ _ _ _ _ _ _ _ _ _ kk).trans h)
  · cases h
def kp156_aa3 (i:Nat):Option (List Nat):=Ev.look i [(12,[0,1,6,8,9]),(100001,[0,1,6,8,9]),(200010,[0]),(400001,[4,5])]
def Gg156_aa3 (a:YF120_40a) (b:YF124_40a) (c:YF161_7ec) (d:YF162_aa3) (e:YF163_40a) (g:YF164_40a) (f:Nat):Option Ev.Spec:=Ev.look f [(120,spg120_40a a),(124,spg124_40a b),(161,spg161_7ec c),(162,spg162_aa3 d),(163,spg163_40a e),(164,spg164_40a g)]
def G156_aa3 (fuel:Nat):Nat→Option Ev.Spec:=Gg156_aa3 (F_coder_Decoder_shift_40a fuel) (F_coder_Decoder_none_40a fuel) (F_coder_interval_take_7ec fuel) (F_coder_interval_mid_aa3 fuel) (F_coder_interval_same_40a fuel) (F_coder_interval_lose_40a fuel)
abbrev V_coder_Decoder_Get_aa3_1:Type:=Int×Int×Int×Int×Int×Int×Int×Int×Int×Bool×Bool×LI×LI×Int×Int×Int×Int×Int×Int×Bool×Bool
abbrev W_coder_Decoder_Get_aa3_1:Type:=(Int×Int×Int×Int×Int×Int×Int×Int×Int×Bool×Bool×LI×LI×Int×Int×Int×Int×Int×Int×Bool×Bool→OA)
def Sg_coder_Decoder_Get_aa3_1 (fuel:Nat) (x:YF120_40a) (a6:YF124_40a) (a7:YF161_7ec) (a8:YF162_aa3) (y:YF163_40a) (z:YF164_40a) (u v:Int) (w Z:Int) (a0 a1:Int) (a2 a3 a4:Int) (a5 W:Bool) (X Y:LI) (m n:Int) (o p:Int) (q r:Int) (s t:Bool) (c:V_coder_Decoder_Get_aa3_1→OA) (B:W_coder_Decoder_Get_aa3_1):OA:=match B with | b=>(y Z a0 a1 a2 a3 a4 a5 W X Y (fun (M,d,e,f,g,h,i,j,k,l,a)=>bif M then (z d e f g h i j k l a (fun (a9,N,O,P,Q,R,S,T,U,V,A)=>(x N O P Q R S T U V A (fun (C,D,E,F,G,H,I,J,K,L)=>c (u,v,w,C,D,E,F,G,H,I,J,K,L,m,n,o,p,q,r,s,t))))) else b (u,v,w,d,e,f,g,h,i,j,k,l,a,m,n,o,p,q,r,s,t)))
def S_coder_Decoder_Get_aa3_1 (fuel:Nat) (v:Int×Int×Int×Int×Int×Int×Int×Int×Int×Bool×Bool×(List Int)×(List Int)×Int×Int×Int×Int×Int×Int×Bool×Bool) (c:(Int×Int×Int×Int×Int×Int×Int×Int×Int×Bool×Bool×(List Int)×(List Int)×Int×Int×Int×Int×Int×Int×Bool×Bool)→Option Ans) (B:(Int×Int×Int×Int×Int×Int×Int×Int×Int×Bool×Bool×(List Int)×(List Int)×Int×Int×Int×Int×Int×Int×Bool×Bool→Option Ans)):Option Ans:=match v with | (m,n,o,p,q,r,s,t,u,w,a,b,d,e,f,g,h,i,j,k,l)=>Sg_coder_Decoder_Get_aa3_1 fuel (F_coder_Decoder_shift_40a fuel) (F_coder_Decoder_none_40a fuel) (F_coder_interval_take_7ec fuel) (F_coder_interval_mid_aa3 fuel) (F_coder_interval_same_40a fuel) (F_coder_interval_lose_40a fuel) m n o p q r s t u w a b d e f g h i j k l c B
def L_coder_Decoder_Get_aa3_1 (fuel:Nat) (v:V_coder_Decoder_Get_aa3_1) (b:W_coder_Decoder_Get_aa3_1):Option Ans:=iter (S_coder_Decoder_Get_aa3_1 fuel) fuel v b
def T156_aa3_1 (v:V_coder_Decoder_Get_aa3_1):Ev.St:=match v with | (m,n,o,p,q,r,s,t,u,w,a,b,d,e,f,g,h,i,j,k,l)=>⟨[(0,.c (.ptr 0 0)),(1,.c (i6 m)),(6,.c (i6 n)),(8,.c (.ptr 3 0)),(9,.c (i6 o))],[(0,.cells 168 (i6 p::.own 1::ctb (.int .u64 q::.int .u64 r::.own 2::i6 s::.int .u64 t::i6 u::.bool w::.bool a::[]))),(1,.vec 3 (.int .i64) b false),(2,.vec 5 (.int .u8) d false),(3,.cells 168 (i6 e::.own 1::ctb (.int .u64 f::.int .u64 g::.own 2::i6 h::.int .u64 i::i6 j::.bool k::.bool l::[])))],4,3⟩
def E156_aa3_1 (K:KT):W_coder_Decoder_Get_aa3_1:=(fun v=>match v with | (m,n,o,p,q,r,s,t,u,w,a,b,d,e,f,g,h,i,j,k,l)=>K .normal ⟨[(0,.c (.ptr 0 0)),(1,.c (i6 m)),(6,.c (i6 n)),(8,.c (.ptr 3 0)),(9,.c (i6 o))],[(0,.cells 168 (i6 p::.own 1::ctb (.int .u64 q::.int .u64 r::.own 2::i6 s::.int .u64 t::i6 u::.bool w::.bool a::[]))),(1,.vec 3 (.int .i64) b false),(2,.vec 5 (.int .u8) d false),(3,.cells 168 (i6 e::.own 1::ctb (.int .u64 f::.int .u64 g::.own 2::i6 h::.int .u64 i::i6 j::.bool k::.bool l::[])))],4,3⟩)
theorem S156_aa3_1_okg (fuel:Nat) (a:YF120_40a) (b:YF124_40a) (c:YF161_7ec) (d:YF162_aa3) (e:YF163_40a) (f:YF164_40a) (R:Ev.St→OA) (K:KT) (r s:Int) (t u:Int) (w x:Int) (y z A:Int) (B g:Bool) (h i:LI) (j k:Int) (l m:Int) (n o:Int) (p q:Bool):evalCode tab (Gg156_aa3 a b c d e f) J0 kp156_aa3 fuel (bodyOf 1 Tryz.f156) (T156_aa3_1 (r,s,t,u,w,x,y,z,A,B,g,h,i,j,k,l,m,n,o,p,q)) (lc kp156_aa3 12 1 R K)=Sg_coder_Decoder_Get_aa3_1 fuel a b c d e f r s t u w x y z A B g h i j k l m n o p q (fun v=>R (T156_aa3_1 v)) (E156_aa3_1 K):=by
  kernel_rfl
def B156_aa3_1 (fuel:Nat):Ev.Blk:=fun st K=>match canonO (kp156_aa3 12) st with | some s=>(match s with | ⟨[(C,.c (.ptr D E)),(F,.c (i6 G)),(H,.c (i6 I)),(J,.c (.ptr L M)),(N,.c (i6 O))],[(P,.cells a b),(d,.vec e (.int .i64) f false),(g,.vec h (.int .u8) i false),(j,.cells k l)],m,n⟩=>(match splitRun 2 ctn b with | some ([i6 Q,.own o],[.int .u64 R,.int .u64 S,.own p,i6 T,.int .u64 U,i6 V,.bool W,.bool q])=>(match splitRun 2 ctn l with | some ([i6 r,.own t],[.int .u64 u,.int .u64 v,.own w,i6 x,.int .u64 y,i6 z,.bool A,.bool B])=>bif qb [C,D,E,F,H,J,L,M,N,P,a,d,e,g,h,j,k,m,n,o,p,t,w] [0,0,0,1,6,8,3,0,9,0,168,1,3,2,5,3,168,4,3,1,2,1,2] then iter (S_coder_Decoder_Get_aa3_1 fuel) fuel (G,I,O,Q,R,S,T,U,V,W,q,f,i,r,u,v,x,y,z,A,B) (E156_aa3_1 K) else none | _=>none) | _=>none) | _=>none) | none=>none
theorem B156_aa3_1_ok (fuel:Nat) (st:Ev.St) (K:KT) (r:Ans) (h:B156_aa3_1 fuel st K=some r):evalCode tab (G156_aa3 fuel) J0 kp156_aa3 fuel (.block 1 (.loop (bodyOf 1 Tryz.f156))) st K=some r:=by
  unfold B156_aa3_1 at h
  split at h
  · rename_i s hs
    split at h
    · skip
      split at h
      rotate_left 1
      · cases h
      rename_i hsp
      have esp:=splitRun_eq hsp
      subst esp
      split at h
      rotate_left 1
      · cases h
      rename_i hsp
      have esp:=splitRun_eq hsp
      subst esp
      obtain ⟨hb,h⟩:=cond_some' h
      cases qb_eq hb
      exact blk_loop (S:=T156_aa3_1) (ks:=E156_aa3_1) (step:=S_coder_Decoder_Get_aa3_1 fuel) (v:=(_,_,_,_,_,_,_,_,_,_,_,_,_,_,_,_,_,_,_,_,_)) (by kernel_rfl) (by kernel_rfl) (fun R K v=>by obtain ⟨m,n,o,p,q,t,u,w,x,y,a,b,c,d,e,f,g,i,j,k,l⟩:=v; exact S156_aa3_1_okg fuel (F_coder_Decoder_shift_40a fuel) (F_coder_Decoder_none_40a fuel) (F_coder_interval_take_7ec fuel) (F_coder_interval_mid_aa3 fuel) (F_coder_interval_same_40a fuel) (F_coder_interval_lose_40a fuel) R K m n o p q t u w x y a b c d e f g i j k l) hs h
    · cases h
  · cases h
def J156_aa3 (fuel:Nat) (i:Nat):Option Ev.Blk:=Ev.look i [(100001,B156_aa3_1 fuel)]
def Fg_coder_Decoder_Get_aa3 (fuel:Nat) (c5:YF120_40a) (b2:YF124_40a) (P:YF161_7ec) (b3:YF162_aa3) (c6:YF163_40a) (c7:YF164_40a) (a b6:Int) (b7 b8:Int) (b9 c0 c1:Int) (c2 c3:Bool) (c4 b5:LI) (k0:(Int×Int×Int×Int×Int×Int×Int×Int×Bool×Bool×LI×LI)→OA):OA:=(b2 b6 b7 b8 b9 c0 c1 c2 c3 c4 b5 (fun (b4,V,W,X,Y,Z,a0,R,a1,S,T)=>bif b4 then k0 (0,7,V,W,X,Y,Z,a0,R,a1,S,T) else bif decide (a < 0) then k0 (0,2,V,W,X,Y,Z,a0,R,a1,S,T) else bif decide (a≥(↑S.length:Int)) then k0 (0,2,V,W,X,Y,Z,a0,R,a1,S,T) else bif R then k0 (0,6,V,W,X,Y,Z,a0,R,a1,S,T) else (b3 a V W X Y Z a0 R a1 S T (fun (E,h,i,j,k,g,l,m,n,f,Q)=>bif decide (g≤E) then bif decide (0≤a∧a < (↑f.length:Int)) then both ((P a (1) E h i j k g l m n f Q (fun (a2,a3,a4,a5,a6,a7,a8,a9,b0,b1)=>(L_coder_Decoder_Get_aa3_1 fuel (a,1,f.getD a.toNat 0,a2,a3,a4,a5,a6,a7,a8,a9,b0,b1,h,i,j,k,g,l,m,n) (fun (c,w,x,y,z,A,B,C,e,D,o,b,d,p,q,r,s,t,u,U,v)=>bif decide (e > 4) then bif decide (0≤c∧c < (↑b.length:Int)) then k0 (0,6,p,q,r,s,t,u,true,v,b.set c.toNat x,d) else none else k0 (w,0,y,z,A,B,C,e,D,o,b,d)))))) (both ((P a (1) E h i j k g l m n f Q (fun (F,G,H,I,J,K,L,M,N,O)=>(L_coder_Decoder_Get_aa3_1 fuel (a,1,f.getD a.toNat 0,F,G,H,I,J,K,L,M,N,O,h,i,j,k,g,l,m,n) (fun (c,w,x,y,z,A,B,C,e,D,o,b,d,p,q,r,s,t,u,U,v)=>bif decide (e > 4) then bif decide (0≤c∧c < (↑b.length:Int)) then k0 (0,6,p,q,r,s,t,u,true,v,b.set c.toNat x,d) else none else k0 (w,0,y,z,A,B,C,e,D,o,b,d)))))) ((P a (1) E h i j k g l m n f Q (fun (F,G,H,I,J,K,L,M,N,O)=>(L_coder_Decoder_Get_aa3_1 fuel (a,1,f.getD a.toNat 0,F,G,H,I,J,K,L,M,N,O,h,i,j,k,g,l,m,n) (fun (c,w,x,y,z,A,B,C,e,D,o,b,d,p,q,r,s,t,u,U,v)=>bif decide (e > 4) then bif decide (0≤c∧c < (↑b.length:Int)) then k0 (0,6,p,q,r,s,t,u,true,v,b.set c.toNat x,d) else none else k0 (w,0,y,z,A,B,C,e,D,o,b,d))))))) else none else bif decide (0≤a∧a < (↑f.length:Int)) then both ((P a (0) E h i j k g l m n f Q (fun (a2,a3,a4,a5,a6,a7,a8,a9,b0,b1)=>(L_coder_Decoder_Get_aa3_1 fuel (a,0,f.getD a.toNat 0,a2,a3,a4,a5,a6,a7,a8,a9,b0,b1,h,i,j,k,g,l,m,n) (fun (c,w,x,y,z,A,B,C,e,D,o,b,d,p,q,r,s,t,u,U,v)=>bif decide (e > 4) then bif decide (0≤c∧c < (↑b.length:Int)) then k0 (0,6,p,q,r,s,t,u,true,v,b.set c.toNat x,d) else none else k0 (w,0,y,z,A,B,C,e,D,o,b,d)))))) (both ((P a (0) E h i j k g l m n f Q (fun (F,G,H,I,J,K,L,M,N,O)=>(L_coder_Decoder_Get_aa3_1 fuel (a,0,f.getD a.toNat 0,F,G,H,I,J,K,L,M,N,O,h,i,j,k,g,l,m,n) (fun (c,w,x,y,z,A,B,C,e,D,o,b,d,p,q,r,s,t,u,U,v)=>bif decide (e > 4) then bif decide (0≤c∧c < (↑b.length:Int)) then k0 (0,6,p,q,r,s,t,u,true,v,b.set c.toNat x,d) else none else k0 (w,0,y,z,A,B,C,e,D,o,b,d)))))) ((P a (0) E h i j k g l m n f Q (fun (F,G,H,I,J,K,L,M,N,O)=>(L_coder_Decoder_Get_aa3_1 fuel (a,0,f.getD a.toNat 0,F,G,H,I,J,K,L,M,N,O,h,i,j,k,g,l,m,n) (fun (c,w,x,y,z,A,B,C,e,D,o,b,d,p,q,r,s,t,u,U,v)=>bif decide (e > 4) then bif decide (0≤c∧c < (↑b.length:Int)) then k0 (0,6,p,q,r,s,t,u,true,v,b.set c.toNat x,d) else none else k0 (w,0,y,z,A,B,C,e,D,o,b,d))))))) else none))))
abbrev YF156_aa3:Type:=Int→Int→Int→Int→Int→Int→Int→Bool→Bool→LI→LI→((Int×Int×Int×Int×Int×Int×Int×Int×Bool×Bool×LI×LI)→Option Ans)→Option Ans
def F_coder_Decoder_Get_aa3 (fuel:Nat):YF156_aa3:=Fg_coder_Decoder_Get_aa3 fuel (F_coder_Decoder_shift_40a fuel) (F_coder_Decoder_none_40a fuel) (F_coder_interval_take_7ec fuel) (F_coder_interval_mid_aa3 fuel) (F_coder_interval_same_40a fuel) (F_coder_interval_lose_40a fuel)
theorem F156_aa3_eqg (fuel:Nat) (a:YF120_40a) (b:YF124_40a) (d:YF161_7ec) (e:YF162_aa3) (f:YF163_40a) (g:YF164_40a) (i j:Int) (l m:Int) (n o p:Int) (q s:Bool) (t h:LI) (k:Ev.Cont):evalFn tab (Gg156_aa3 a b d e f g) (J156_aa3 fuel) kp156_aa3 fuel Tryz.f156 [.c (.ptr 0 0),.c (i6 i)] [.cells 168 (i6 j::.own 1::ctb (.int .u64 l::.int .u64 m::.own 2::i6 n::.int .u64 o::i6 p::.bool q::.bool s::[])),.vec 3 (.int .i64) t false,.vec 5 (.int .u8) h false] k=Fg_coder_Decoder_Get_aa3 fuel a b d e f g i j l m n o p q s t h (fun r=>match r with | (w,x,y,z,A,B,C,D,E,F,u,v)=>k (.tup [(false,[i6 w]),(false,[i6 x])],[.cells 168 (i6 y::.own 1::ctb (.int .u64 z::.int .u64 A::.own 2::i6 B::.int .u64 C::i6 D::.bool E::.bool F::[])),.vec 3 (.int .i64) u false,.vec 5 (.int .u8) v false])):=by
  kernel_rfl
theorem hG156_aa3 (fuel:Nat):GOK Tryz.prog (G156_aa3 fuel):=
  gc (ok120_40a fuel) Tryz.func120 (by kernel_rfl) rfl <|
  gc (ok124_40a fuel) Tryz.func124 (by kernel_rfl) rfl <|
  gc (ok161_7ec fuel) Tryz.func161 (by kernel_rfl) rfl <|
  gc (ok162_aa3 fuel) Tryz.func162 (by kernel_rfl) rfl <|
  gc (ok163_40a fuel) Tryz.func163 (by kernel_rfl) rfl <|
  gc (ok164_40a fuel) Tryz.func164 (by kernel_rfl) rfl <|
  gok_nil
theorem B156_aa3_1_blk (fuel:Nat):BlkOK Tryz.prog Tryz.f156.ntmps (.block 1 (.loop (bodyOf 1 Tryz.f156))) (B156_aa3_1 fuel):=bo0 (hG156_aa3 fuel) (by kernel_rfl) (by kernel_rfl) (B156_aa3_1_ok fuel)
def spg156_aa3 (F:YF156_aa3):Ev.Spec:=fun args objs k=>match args,objs with | [.c (.ptr f g),.c (i6 h)],[.cells i a,.vec j (.int .i64) l false,.vec m (.int .u8) b false]=>(match splitRun 2 ctn a with | some ([i6 n,.own o],[.int .u64 p,.int .u64 q,.own s,i6 t,.int .u64 u,i6 v,.bool w,.bool x])=>bif qb [f,g,i,j,m,o,s] [0,0,168,3,5,1,2] then F h n p q t u v w x l b (fun r=>match r with | (y,z,A,B,C,D,E,G,H,I,d,e)=>k (.tup [(false,[i6 y]),(false,[i6 z])],[.cells 168 (i6 A::.own 1::ctb (.int .u64 B::.int .u64 C::.own 2::i6 D::.int .u64 E::i6 G::.bool H::.bool I::[])),.vec 3 (.int .i64) d false,.vec 5 (.int .u8) e false])) else none | _=>none) | _,_=>none
def spec156_aa3 (fuel:Nat):Ev.Spec:=spg156_aa3 (F_coder_Decoder_Get_aa3 fuel)
theorem ok156_aa3 (fuel:Nat):FnOK Tryz.prog 156 (spec156_aa3 fuel):=by
  intro args objs kk r h
  unfold spec156_aa3 spg156_aa3 at h
  split at h
  · skip
    split at h
    rotate_left 1
    · cases h
    rename_i hsp
    have esp:=splitRun_eq hsp
    subst esp
    obtain ⟨hb,h⟩:=cond_some' h
    cases qb_eq hb
    exact fo1 (hG156_aa3 fuel) Tryz.func156 rfl (B156_aa3_1_blk fuel) (by kernel_rfl) _ _ kk r ((F156_aa3_eqg fuel (F_coder_Decoder_shift_40a fuel) (F_coder_Decoder_none_40a fuel) (F_coder_interval_take_7ec fuel) (F_coder_interval_mid_aa3 fuel) (F_coder_interval_same_40a fuel) (F_coder_interval_lose_40a fuel) _ _ _ _ _ _ _ _ _ _ _ kk).trans h)
  · cases h
def kp173_aa3 (i:Nat):Option (List Nat):=Ev.look i [(5,[0,1,4,8]),(14,[0,1,4,8,9,10,49,50]),(100000,[0,1,4,8]),(100002,[0,1,4,9]),(400000,[4,5]),(400002,[4,5])]
def Gg173_aa3 (a:YF156_aa3) (b:YF172) (f:Nat):Option Ev.Spec:=Ev.look f [(156,spg156_aa3 a),(172,spg172 b)]
def G173_aa3 (fuel:Nat):Nat→Option Ev.Spec:=Gg173_aa3 (F_coder_Decoder_Get_aa3 fuel) (F_number_tail_take fuel)
abbrev V_number_get_aa3_0:Type:=Int×Int×Int×Int×Int×Int×Int×Int×Bool×Bool×LI×LI×Bool×Int
abbrev W_number_get_aa3_0:Type:=(Int×Int×Int×Int×Int×Int×Int×Bool×Bool×LI×LI×Bool×Int→OA)×(Int×Int×Int×Int×Int×Int×Int×Int×Bool×Bool×LI×LI×Bool×Int→OA)
def Sg_number_get_aa3_0 (fuel:Nat) (C:YF156_aa3) (E:YF172) (d a:Int) (t u:Int) (v w:Int) (x y:Int) (z A:Bool) (r s:LI) (o:Bool) (p:Int) (c:V_number_get_aa3_0→OA) (B:W_number_get_aa3_0):OA:=match B with | (ret,b)=>bif decide (a < 20) then (C (i64.wrap (i64.wrap (d+1)+a)) t u v w x y z A r s (fun (D,q,g,h,i,j,k,l,m,n,e,f)=>bif q != 0 then ret (q,g,h,i,j,k,l,m,n,e,f,false,0) else bif D==0 then b (d,a,g,h,i,j,k,l,m,n,e,f,o,p) else c (d,i64.wrap (a+1),g,h,i,j,k,l,m,n,e,f,o,p))) else b (d,a,t,u,v,w,x,y,z,A,r,s,o,p)
def S_number_get_aa3_0 (fuel:Nat) (v:Int×Int×Int×Int×Int×Int×Int×Int×Bool×Bool×(List Int)×(List Int)×Bool×Int) (c:(Int×Int×Int×Int×Int×Int×Int×Int×Bool×Bool×(List Int)×(List Int)×Bool×Int)→Option Ans) (B:(Int×Int×Int×Int×Int×Int×Int×Bool×Bool×(List Int)×(List Int)×Bool×Int→Option Ans)×(Int×Int×Int×Int×Int×Int×Int×Int×Bool×Bool×(List Int)×(List Int)×Bool×Int→Option Ans)):Option Ans:=match v with | (f,g,h,i,j,k,l,m,n,o,a,b,d,e)=>Sg_number_get_aa3_0 fuel (F_coder_Decoder_Get_aa3 fuel) (F_number_tail_take fuel) f g h i j k l m n o a b d e c B
def L_number_get_aa3_0 (fuel:Nat) (v:V_number_get_aa3_0) (ret:(Int×Int×Int×Int×Int×Int×Int×Bool×Bool×(List Int)×(List Int)×Bool×Int→Option Ans)) (b:(Int×Int×Int×Int×Int×Int×Int×Int×Bool×Bool×(List Int)×(List Int)×Bool×Int→Option Ans)):Option Ans:=iter (S_number_get_aa3_0 fuel) fuel v (ret,b)
def T173_aa3_0 (v:V_number_get_aa3_0):Ev.St:=match v with | (f,g,h,i,j,k,l,m,n,o,a,b,d,e)=>⟨[(0,.c (.ptr 0 0)),(1,.c (i6 f)),(4,.c (.ptr 3 0)),(8,.c (i6 g))],[(0,.cells 168 (i6 h::.own 1::ctb (.int .u64 i::.int .u64 j::.own 2::i6 k::.int .u64 l::i6 m::.bool n::.bool o::[]))),(1,.vec 3 (.int .i64) a false),(2,.vec 5 (.int .u8) b false),(3,.cells 138 [.bool d,i6 e])],4,3⟩
def E173_aa3_0 (K:KT):W_number_get_aa3_0:=((fun v=>match v with | (e,f,g,h,i,j,k,l,m,n,a,b,d)=>K .ret ⟨[(4,.c (.ptr 3 0)),(5,.c (i6 e))],[(0,.cells 168 (i6 f::.own 1::ctb (.int .u64 g::.int .u64 h::.own 2::i6 i::.int .u64 j::i6 k::.bool l::.bool m::[]))),(1,.vec 3 (.int .i64) n false),(2,.vec 5 (.int .u8) a false),(3,.cells 138 [.bool b,i6 d])],4,3⟩),(fun v=>match v with | (e,f,g,h,i,j,k,l,m,n,a,b,d,o)=>K .normal ⟨[(0,.c (.ptr 0 0)),(1,.c (i6 e)),(4,.c (.ptr 3 0)),(8,.c (i6 f))],[(0,.cells 168 (i6 g::.own 1::ctb (.int .u64 h::.int .u64 i::.own 2::i6 j::.int .u64 k::i6 l::.bool m::.bool n::[]))),(1,.vec 3 (.int .i64) a false),(2,.vec 5 (.int .u8) b false),(3,.cells 138 [.bool d,i6 o])],4,3⟩))
theorem S173_aa3_0_okg (fuel:Nat) (a:YF156_aa3) (b:YF172) (R:Ev.St→OA) (K:KT) (g h:Int) (i j:Int) (k l:Int) (m n:Int) (o p:Bool) (c d:LI) (e:Bool) (f:Int):evalCode tab (Gg173_aa3 a b) J0 kp173_aa3 fuel (bodyOf 0 Tryz.f173) (T173_aa3_0 (g,h,i,j,k,l,m,n,o,p,c,d,e,f)) (lc kp173_aa3 5 0 R K)=Sg_number_get_aa3_0 fuel a b g h i j k l m n o p c d e f (fun v=>R (T173_aa3_0 v)) (E173_aa3_0 K):=by
  kernel_rfl
def B173_aa3_0 (fuel:Nat):Ev.Blk:=fun st K=>match canonO (kp173_aa3 5) st with | some s=>(match s with | ⟨[(q,.c (.ptr r t)),(u,.c (i6 v)),(w,.c (.ptr x y)),(z,.c (i6 A))],[(B,.cells C a),(b,.vec d (.int .i64) e false),(f,.vec g (.int .u8) h false),(i,.cells j [.bool k,i6 l])],m,n⟩=>(match splitRun 2 ctn a with | some ([i6 D,.own o],[.int .u64 E,.int .u64 F,.own p,i6 G,.int .u64 H,i6 I,.bool J,.bool L])=>bif qb [q,r,t,u,w,x,y,z,B,C,b,d,f,g,i,j,m,n,o,p] [0,0,0,1,4,3,0,8,0,168,1,3,2,5,3,138,4,3,1,2] then iter (S_number_get_aa3_0 fuel) fuel (v,A,D,E,F,G,H,I,J,L,e,h,k,l) (E173_aa3_0 K) else none | _=>none) | _=>none) | none=>none
theorem B173_aa3_0_ok (fuel:Nat) (st:Ev.St) (K:KT) (r:Ans) (h:B173_aa3_0 fuel st K=some r):evalCode tab (G173_aa3 fuel) J0 kp173_aa3 fuel (.block 0 (.loop (bodyOf 0 Tryz.f173))) st K=some r:=by
  unfold B173_aa3_0 at h
  split at h
  · rename_i s hs
    split at h
    · skip
      split at h
      rotate_left 1
      · cases h
      rename_i hsp
      have esp:=splitRun_eq hsp
      subst esp
      obtain ⟨hb,h⟩:=cond_some' h
      cases qb_eq hb
      exact blk_loop (S:=T173_aa3_0) (ks:=E173_aa3_0) (step:=S_number_get_aa3_0 fuel) (v:=(_,_,_,_,_,_,_,_,_,_,_,_,_,_)) (by kernel_rfl) (by kernel_rfl) (fun R K v=>by obtain ⟨e,f,g,i,j,k,l,m,n,o,a,b,c,d⟩:=v; exact S173_aa3_0_okg fuel (F_coder_Decoder_Get_aa3 fuel) (F_number_tail_take fuel) R K e f g i j k l m n o a b c d) hs h
    · cases h
  · cases h
abbrev V_number_get_aa3_2:Type:=Int×Int×Int×Int×Int×Int×Int×Int×Int×Int×Int×Bool×Bool×LI×LI×Bool×Int×Int
abbrev W_number_get_aa3_2:Type:=(Int×Int×Int×Int×Int×Int×Int×Bool×Bool×LI×LI×Bool×Int→OA)×(Int×Int×Int×Int×Int×Int×Int×Int×Bool×Bool×LI×LI×Bool×Int→OA)
def Sg_number_get_aa3_2 (fuel:Nat) (v:YF156_aa3) (T:YF172) (a n:Int) (o p:Int) (e q:Int) (r s:Int) (t u g:Int) (h i:Bool) (j k:LI) (l:Bool) (m S:Int) (c:V_number_get_aa3_2→OA) (B:W_number_get_aa3_2):OA:=match B with | (ret,b)=>bif decide (e < p) then bif decide (e > 0) then (T S (fun (f,d)=>(v (i64.wrap (a+f)) q r s t u g h i j k (fun (U,A,C,D,E,F,G,H,I,J,w,x)=>bif A != 0 then ret (A,C,D,E,F,G,H,I,J,w,x,false,0) else c (a,n,i64.wrap (i64.wrap (2*o)+U),p,i64.wrap (e+1),C,D,E,F,G,H,I,J,w,x,l,m,d))))) else (v (i64.wrap (a+i64.wrap (23+n))) q r s t u g h i j k (fun (f,d,K,L,M,N,O,P,Q,R,y,z)=>bif d != 0 then ret (d,K,L,M,N,O,P,Q,R,y,z,false,0) else c (a,n,i64.wrap (i64.wrap (2*o)+f),p,i64.wrap (e+1),K,L,M,N,O,P,Q,R,y,z,l,m,S))) else b (a,o,q,r,s,t,u,g,h,i,j,k,l,m)
def S_number_get_aa3_2 (fuel:Nat) (v:Int×Int×Int×Int×Int×Int×Int×Int×Int×Int×Int×Bool×Bool×(List Int)×(List Int)×Bool×Int×Int) (c:(Int×Int×Int×Int×Int×Int×Int×Int×Int×Int×Int×Bool×Bool×(List Int)×(List Int)×Bool×Int×Int)→Option Ans) (B:(Int×Int×Int×Int×Int×Int×Int×Bool×Bool×(List Int)×(List Int)×Bool×Int→Option Ans)×(Int×Int×Int×Int×Int×Int×Int×Int×Bool×Bool×(List Int)×(List Int)×Bool×Int→Option Ans)):Option Ans:=match v with | (j,k,l,m,n,o,p,q,r,s,a,b,d,e,f,g,h,i)=>Sg_number_get_aa3_2 fuel (F_coder_Decoder_Get_aa3 fuel) (F_number_tail_take fuel) j k l m n o p q r s a b d e f g h i c B
def L_number_get_aa3_2 (fuel:Nat) (v:V_number_get_aa3_2) (ret:(Int×Int×Int×Int×Int×Int×Int×Bool×Bool×(List Int)×(List Int)×Bool×Int→Option Ans)) (b:(Int×Int×Int×Int×Int×Int×Int×Int×Bool×Bool×(List Int)×(List Int)×Bool×Int→Option Ans)):Option Ans:=iter (S_number_get_aa3_2 fuel) fuel v (ret,b)
def J173_aa3_2 (fuel:Nat) (i:Nat):Option Ev.Blk:=Ev.look i [(100000,B173_aa3_0 fuel)]
def T173_aa3_2 (v:V_number_get_aa3_2):Ev.St:=match v with | (j,k,l,m,n,o,p,q,r,s,a,b,d,e,f,g,h,i)=>⟨[(0,.c (.ptr 0 0)),(1,.c (i6 j)),(4,.c (.ptr 3 0)),(8,.c (i6 k)),(9,.c (i6 l)),(10,.c (.ptr 4 0)),(49,.c (i6 m)),(50,.c (i6 n))],[(0,.cells 168 (i6 o::.own 1::ctb (.int .u64 p::.int .u64 q::.own 2::i6 r::.int .u64 s::i6 a::.bool b::.bool d::[]))),(1,.vec 3 (.int .i64) e false),(2,.vec 5 (.int .u8) f false),(3,.cells 138 [.bool g,i6 h]),(4,.cells 221 [i6 i])],5,3⟩
def E173_aa3_2 (K:KT):W_number_get_aa3_2:=((fun v=>match v with | (e,f,g,h,i,j,k,l,m,n,a,b,d)=>K .ret ⟨[(4,.c (.ptr 3 0)),(5,.c (i6 e))],[(0,.cells 168 (i6 f::.own 1::ctb (.int .u64 g::.int .u64 h::.own 2::i6 i::.int .u64 j::i6 k::.bool l::.bool m::[]))),(1,.vec 3 (.int .i64) n false),(2,.vec 5 (.int .u8) a false),(3,.cells 138 [.bool b,i6 d])],4,3⟩),(fun v=>match v with | (e,f,g,h,i,j,k,l,m,n,a,b,d,o)=>K .normal ⟨[(0,.c (.ptr 0 0)),(1,.c (i6 e)),(4,.c (.ptr 3 0)),(9,.c (i6 f))],[(0,.cells 168 (i6 g::.own 1::ctb (.int .u64 h::.int .u64 i::.own 2::i6 j::.int .u64 k::i6 l::.bool m::.bool n::[]))),(1,.vec 3 (.int .i64) a false),(2,.vec 5 (.int .u8) b false),(3,.cells 138 [.bool d,i6 o])],4,3⟩))
theorem S173_aa3_2_okg (fuel:Nat) (a:YF156_aa3) (b:YF172) (R:Ev.St→OA) (K:KT) (k l:Int) (m n:Int) (o p:Int) (q r:Int) (s t c:Int) (d e:Bool) (f g:LI) (h:Bool) (i j:Int):evalCode tab (Gg173_aa3 a b) (J173_aa3_2 fuel) kp173_aa3 fuel (bodyOf 2 Tryz.f173) (T173_aa3_2 (k,l,m,n,o,p,q,r,s,t,c,d,e,f,g,h,i,j)) (lc kp173_aa3 14 2 R K)=Sg_number_get_aa3_2 fuel a b k l m n o p q r s t c d e f g h i j (fun v=>R (T173_aa3_2 v)) (E173_aa3_2 K):=by
  kernel_rfl
def B173_aa3_2 (fuel:Nat):Ev.Blk:=fun st K=>match canonO (kp173_aa3 14) st with | some s=>(match s with | ⟨[(D,.c (.ptr E F)),(G,.c (i6 H)),(I,.c (.ptr J L)),(M,.c (i6 N)),(O,.c (i6 P)),(Q,.c (.ptr a b)),(d,.c (i6 R)),(e,.c (i6 S))],[(f,.cells g h),(i,.vec j (.int .i64) k false),(l,.vec m (.int .u8) n false),(o,.cells p [.bool q,i6 r]),(t,.cells u [i6 v])],w,x⟩=>(match splitRun 2 ctn h with | some ([i6 T,.own y],[.int .u64 U,.int .u64 V,.own z,i6 W,.int .u64 X,i6 A,.bool B,.bool C])=>bif qb [D,E,F,G,I,J,L,M,O,Q,a,b,d,e,f,g,i,j,l,m,o,p,t,u,w,x,y,z] [0,0,0,1,4,3,0,8,9,10,4,0,49,50,0,168,1,3,2,5,3,138,4,221,5,3,1,2] then iter (S_number_get_aa3_2 fuel) fuel (H,N,P,R,S,T,U,V,W,X,A,B,C,k,n,q,r,v) (E173_aa3_2 K) else none | _=>none) | _=>none) | none=>none
theorem B173_aa3_2_ok (fuel:Nat) (st:Ev.St) (K:KT) (r:Ans) (h:B173_aa3_2 fuel st K=some r):evalCode tab (G173_aa3 fuel) (J173_aa3_2 fuel) kp173_aa3 fuel (.block 2 (.loop (bodyOf 2 Tryz.f173))) st K=some r:=by
  unfold B173_aa3_2 at h
  split at h
  · rename_i s hs
    split at h
    · skip
      split at h
      rotate_left 1
      · cases h
      rename_i hsp
      have esp:=splitRun_eq hsp
      subst esp
      obtain ⟨hb,h⟩:=cond_some' h
      cases qb_eq hb
      exact blk_loop (S:=T173_aa3_2) (ks:=E173_aa3_2) (step:=S_number_get_aa3_2 fuel) (v:=(_,_,_,_,_,_,_,_,_,_,_,_,_,_,_,_,_,_)) (by kernel_rfl) (by kernel_rfl) (fun R K v=>by obtain ⟨j,k,l,m,n,o,p,q,t,u,a,b,c,d,e,f,g,i⟩:=v; exact S173_aa3_2_okg fuel (F_coder_Decoder_Get_aa3 fuel) (F_number_tail_take fuel) R K j k l m n o p q t u a b c d e f g i) hs h
    · cases h
  · cases h
def J173_aa3 (fuel:Nat) (i:Nat):Option Ev.Blk:=Ev.look i [(100000,B173_aa3_0 fuel),(100002,B173_aa3_2 fuel)]
def Fg_number_get_aa3 (fuel:Nat) (w:YF156_aa3) (b2:YF172) (J a1:Int) (a2 a3:Int) (a4 a5 a6:Int) (a7 a8:Bool) (a9 a0:LI) (k0:(Bool×Int×Int×Int×Int×Int×Int×Int×Int×Bool×Bool×LI×LI)→OA):OA:=(w J a1 a2 a3 a4 a5 a6 a7 a8 a9 a0 (fun (P,a,f,g,h,i,j,k,l,m,b,c)=>bif a != 0 then k0 (a==0,0,a,f,g,h,i,j,k,l,m,b,c) else bif P==1 then k0 (a==0,0,a,f,g,h,i,j,k,l,m,b,c) else (L_number_get_aa3_0 fuel (J,0,f,g,h,i,j,k,l,m,b,c,false,0) (fun (ret0_0,ret0_1,ret0_2,ret0_3,ret0_4,ret0_5,ret0_6,ret0_7,ret0_8,ret0_9,ret0_10,ret0_11,ret0_12)=>k0 (ret0_11,ret0_12,ret0_0,ret0_1,ret0_2,ret0_3,ret0_4,ret0_5,ret0_6,ret0_7,ret0_8,ret0_9,ret0_10)) (fun (Q,I,R,S,T,U,V,W,X,Y,K,L,M,N)=>(L_number_get_aa3_2 fuel (Q,I,1,I,0,R,S,T,U,V,W,X,Y,K,L,M,N,44) (fun (ret2_0,ret2_1,ret2_2,ret2_3,ret2_4,ret2_5,ret2_6,ret2_7,ret2_8,ret2_9,ret2_10,ret2_11,ret2_12)=>k0 (ret2_11,ret2_12,ret2_0,ret2_1,ret2_2,ret2_3,ret2_4,ret2_5,ret2_6,ret2_7,ret2_8,ret2_9,ret2_10)) (fun (Z,n,o,p,q,r,s,t,u,v,d,e,b0,b1)=>bif decide (n > 1048577) then k0 (false,0,3,o,p,q,r,s,t,u,v,d,e) else bif n==1 then k0 (false,0,0,o,p,q,r,s,t,u,v,d,e) else (w (i64.wrap (Z+22)) o p q r s t u v d e (fun (O,z,A,B,C,D,E,F,G,H,x,y)=>bif z != 0 then k0 (false,0,z,A,B,C,D,E,F,G,H,x,y) else k0 (false,i64.wrap (i64.wrap (n - 1)*i64.wrap (1 - i64.wrap (2*O))),0,A,B,C,D,E,F,G,H,x,y)))))))))
abbrev YF173_aa3:Type:=Int→Int→Int→Int→Int→Int→Int→Bool→Bool→LI→LI→((Bool×Int×Int×Int×Int×Int×Int×Int×Int×Bool×Bool×LI×LI)→Option Ans)→Option Ans
def F_number_get_aa3 (fuel:Nat):YF173_aa3:=Fg_number_get_aa3 fuel (F_coder_Decoder_Get_aa3 fuel) (F_number_tail_take fuel)
theorem F173_aa3_eqg (fuel:Nat) (a:YF156_aa3) (b:YF172) (e f:Int) (g h:Int) (i j l:Int) (m n:Bool) (o d:LI) (k:Ev.Cont):evalFn tab (Gg173_aa3 a b) (J173_aa3 fuel) kp173_aa3 fuel Tryz.f173 [.c (.ptr 0 0),.c (i6 e)] [.cells 168 (i6 f::.own 1::ctb (.int .u64 g::.int .u64 h::.own 2::i6 i::.int .u64 j::i6 l::.bool m::.bool n::[])),.vec 3 (.int .i64) o false,.vec 5 (.int .u8) d false] k=Fg_number_get_aa3 fuel a b e f g h i j l m n o d (fun r=>match r with | (t,u,v,w,x,y,z,A,B,C,p,q,s)=>k (.tup [(true,[.bool t,i6 u]),(false,[i6 v])],[.cells 168 (i6 w::.own 1::ctb (.int .u64 x::.int .u64 y::.own 2::i6 z::.int .u64 A::i6 B::.bool C::.bool p::[])),.vec 3 (.int .i64) q false,.vec 5 (.int .u8) s false])):=by
  kernel_rfl
theorem hG173_aa3 (fuel:Nat):GOK Tryz.prog (G173_aa3 fuel):=
  gc (ok156_aa3 fuel) Tryz.func156 (by kernel_rfl) rfl <|
  gc (ok172 fuel) Tryz.func172 (by kernel_rfl) rfl <|
  gok_nil
theorem B173_aa3_0_blk (fuel:Nat):BlkOK Tryz.prog Tryz.f173.ntmps (.block 0 (.loop (bodyOf 0 Tryz.f173))) (B173_aa3_0 fuel):=bo0 (hG173_aa3 fuel) (by kernel_rfl) (by kernel_rfl) (B173_aa3_0_ok fuel)
theorem B173_aa3_2_blk (fuel:Nat):BlkOK Tryz.prog Tryz.f173.ntmps (.block 2 (.loop (bodyOf 2 Tryz.f173))) (B173_aa3_2 fuel):=bo0 (hG173_aa3 fuel) (by kernel_rfl) (by kernel_rfl) (B173_aa3_2_ok fuel)
theorem fok173_aa3 (fuel:Nat):FnOK Tryz.prog 173 (evalFn tab (G173_aa3 fuel) (J173_aa3 fuel) kp173_aa3 fuel Tryz.f173):=
  fn_ok tab_ok (hG173_aa3 fuel) mixed Tryz.func173 (c:=(Tryz.f173.body).getD .skip) rfl (fun q hq=>by
    rw [(by kernel_rfl:obl (J173_aa3 fuel) ((Tryz.f173.body).getD .skip)= [(.block 0 (.loop (bodyOf 0 Tryz.f173)),B173_aa3_0 fuel),(.block 2 (.loop (bodyOf 2 Tryz.f173)),B173_aa3_2 fuel)])] at hq
    simp only [List.mem_cons,List.not_mem_nil,or_false] at hq
    rcases hq with rfl | rfl
    · exact B173_aa3_0_blk fuel
    · exact B173_aa3_2_blk fuel)
def spg173_aa3 (F:YF173_aa3):Ev.Spec:=fun args objs k=>match args,objs with | [.c (.ptr g h),.c (i6 i)],[.cells j a,.vec l (.int .i64) m false,.vec n (.int .u8) b false]=>(match splitRun 2 ctn a with | some ([i6 o,.own p],[.int .u64 q,.int .u64 s,.own t,i6 u,.int .u64 v,i6 w,.bool x,.bool y])=>bif qb [g,h,j,l,n,p,t] [0,0,168,3,5,1,2] then F i o q s u v w x y m b (fun r=>match r with | (z,A,B,C,D,E,G,H,I,J,d,e,f)=>k (.tup [(true,[.bool z,i6 A]),(false,[i6 B])],[.cells 168 (i6 C::.own 1::ctb (.int .u64 D::.int .u64 E::.own 2::i6 G::.int .u64 H::i6 I::.bool J::.bool d::[])),.vec 3 (.int .i64) e false,.vec 5 (.int .u8) f false])) else none | _=>none) | _,_=>none
theorem ok173_aa3 (fuel:Nat):FnOK Tryz.prog 173 (spg173_aa3 (F_number_get_aa3 fuel)):=by
  intro args objs kk r h
  unfold spg173_aa3 at h
  split at h
  · skip
    split at h
    rotate_left 1
    · cases h
    rename_i hsp
    have esp:=splitRun_eq hsp
    subst esp
    obtain ⟨hb,h⟩:=cond_some' h
    cases qb_eq hb
    exact fok173_aa3 fuel _ _ kk r ((F173_aa3_eqg fuel (F_coder_Decoder_Get_aa3 fuel) (F_number_tail_take fuel) _ _ _ _ _ _ _ _ _ _ _ kk).trans h)
  · cases h
end
end Go.Proofs.YtmjeeaemmbkioaaGreat

