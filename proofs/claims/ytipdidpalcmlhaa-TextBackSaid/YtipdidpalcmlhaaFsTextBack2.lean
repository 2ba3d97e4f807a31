/- What the functions that TextBack reaches do: their typed texts, each with the proof that the machine does it. No condition. -/
import Derived.Test.YtipdidpalcmlhaaEvX
import Derived.Test.YtipdidpalcmlhaaFsTextBack1
set_option linter.unusedVariables false
set_option linter.unusedSimpArgs false
set_option linter.unusedSectionVars false
set_option linter.unusedVariables false
set_option linter.unusedSimpArgs false
set_option maxRecDepth 100000
set_option maxHeartbeats 2000000
namespace Go.Proofs.Ytipdidpalcmlhaa
open Go Ev
open Go.IntKind (i64 u64 u8 i32 u32 u16)
noncomputable section
def kp110 (i:Nat):Option (List Nat):=Ev.look i [(7,[0,3,5,6,7,32,33]),(15,[0,3,5,6,7,9,10]),(100000,[0,3,5,6,7]),(100002,[0,3,5]),(400000,[4]),(400002,[4])]
def Gg110 (a:YF146) (b:YF161) (f:Nat):Option Ev.Spec:=Ev.look f [(146,spg146 a),(161,spg161 b)]
def G110 (fuel:Nat):Nat→Option Ev.Spec:=Gg110 (F_math_bits_Len fuel) (F_number_tail_take fuel)
abbrev V_number_events_0:Type:=Int×Int×Int×Int×Int×Bool×Int×(List (Int×Int))
abbrev W_number_events_0:Type:=(Int×Int×Int×Bool×Int×(List (Int×Int))→OA)
def Sg_number_events_0 (fuel:Nat) (k:YF146) (l:YF161) (a f:Int) (g h d:Int) (i:Bool) (j:Int) (e:(List (Int×Int))) (c:V_number_events_0→OA) (B:W_number_events_0):OA:=match B with | b=>bif decide (d < h) then bif decide ((e.length+ [(i64.wrap (i64.wrap (a+(1:Int))+d),(1:Int))].length)*(16:Nat)≤(140737488355328:Nat)∧e.length+ [(i64.wrap (i64.wrap (a+(1:Int))+d),(1:Int))].length≤(140737488355328:Nat)) then c (a,f,g,h,i64.wrap (d+(1:Int)),i,j,e++ [(i64.wrap (i64.wrap (a+(1:Int))+d),(1:Int))]) else none else b (a,f,g,i,j,e)
def S_number_events_0 (fuel:Nat) (v:Int×Int×Int×Int×Int×Bool×Int×(List (Int×Int))) (c:(Int×Int×Int×Int×Int×Bool×Int×(List (Int×Int)))→Option Ans) (B:(Int×Int×Int×Bool×Int×(List (Int×Int))→Option Ans)):Option Ans:=match v with | (a,b,d,e,f,g,h,i)=>Sg_number_events_0 fuel (F_math_bits_Len fuel) (F_number_tail_take fuel) a b d e f g h i c B
def L_number_events_0 (fuel:Nat) (v:V_number_events_0) (b:W_number_events_0):Option Ans:=iter (S_number_events_0 fuel) fuel v b
def T110_0 (v:V_number_events_0):Ev.St:=match v with | (a,b,d,e,f,g,h,i)=>⟨[(0,.c (i6 a)),(3,.c (.ptr 0 0)),(5,.c (.own 1)),(6,.c (i6 b)),(7,.c (i6 d)),(32,.c (i6 e)),(33,.c (i6 f))],[(0,.cells 97 [.bool g,i6 h]),(1,.vec 199 (.pair (.int .i64) (.int .i64)) i true)],2,0⟩
def E110_0 (K:KT):W_number_events_0:=(fun v=>match v with | (a,b,d,e,f,g)=>K .normal ⟨[(0,.c (i6 a)),(3,.c (.ptr 0 0)),(5,.c (.own 1)),(6,.c (i6 b)),(7,.c (i6 d))],[(0,.cells 97 [.bool e,i6 f]),(1,.vec 199 (.pair (.int .i64) (.int .i64)) g true)],2,0⟩)
theorem S110_0_okg (fuel:Nat) (a:YF146) (b:YF161) (R:Ev.St→OA) (K:KT) (c d:Int) (e f g:Int) (h:Bool) (i:Int) (j:(List (Int×Int))):evalCode tab (Gg110 a b) J0 kp110 fuel (bodyOf 0 Try.f110) (T110_0 (c,d,e,f,g,h,i,j)) (lc kp110 7 0 R K)=Sg_number_events_0 fuel a b c d e f g h i j (fun v=>R (T110_0 v)) (E110_0 K):=by
  kernel_rfl
def B110_0 (fuel:Nat):Ev.Blk:=fun st K=>match canonO (kp110 7) st with | some s=>(match s with | ⟨[(h,.c (i6 i)),(j,.c (.ptr k l)),(m,.c (.own n)),(o,.c (i6 p)),(q,.c (i6 r)),(t,.c (i6 u)),(v,.c (i6 w))],[(a,.cells b [.bool x,i6 y]),(d,.vec e (.pair (.int .i64) (.int .i64)) z true)],f,g⟩=>bif qb [h,j,k,l,m,n,o,q,t,v,a,b,d,e,f,g] [0,3,0,0,5,1,6,7,32,33,0,97,1,199,2,0] then iter (S_number_events_0 fuel) fuel (i,p,r,u,w,x,y,z) (E110_0 K) else none | _=>none) | none=>none
theorem B110_0_ok (fuel:Nat) (st:Ev.St) (K:KT) (r:Ans) (h:B110_0 fuel st K=some r):evalCode tab (G110 fuel) J0 kp110 fuel (.block 0 (.loop (bodyOf 0 Try.f110))) st K=some r:=by
  unfold B110_0 at h
  split at h
  · rename_i s hs
    split at h
    · skip
      obtain ⟨hb,h⟩:=cond_some' h
      cases qb_eq hb
      exact blk_loop (S:=T110_0) (ks:=E110_0) (step:=S_number_events_0 fuel) (v:=(_,_,_,_,_,_,_,_)) (by kernel_rfl) (by kernel_rfl) (fun R K v=>by obtain ⟨a,b,c,d,e,f,g,i⟩:=v; exact S110_0_okg fuel (F_math_bits_Len fuel) (F_number_tail_take fuel) R K a b c d e f g i) hs h
    · cases h
  · cases h
abbrev V_number_events_2:Type:=Int×Int×Int×Int×Bool×Int×(List (Int×Int))×Int
abbrev W_number_events_2:Type:=(Int×Bool×Int×(List (Int×Int))→OA)
def Sg_number_events_2 (fuel:Nat) (n:YF146) (l:YF161) (d e:Int) (g a:Int) (i:Bool) (j:Int) (f:(List (Int×Int))) (k:Int) (c:V_number_events_2→OA) (B:W_number_events_2):OA:=match B with | b=>bif decide (a≥0) then bif decide (a < i64.wrap (g - 1)) then (l k (fun (h,m)=>bif decide (a < 0) then none else bif decide ((f.length+ [(i64.wrap (d+h),Ev.iand IntKind.i64 (Ev.ishr IntKind.i64 e a) (1:Int))].length)*(16:Nat)≤(140737488355328:Nat)∧f.length+ [(i64.wrap (d+h),Ev.iand IntKind.i64 (Ev.ishr IntKind.i64 e a) (1:Int))].length≤(140737488355328:Nat)) then c (d,e,g,i64.wrap (a - (1:Int)),i,j,f++ [(i64.wrap (d+h),Ev.iand IntKind.i64 (Ev.ishr IntKind.i64 e a) (1:Int))],m) else none)) else bif decide (a < 0) then none else bif decide ((f.length+ [(i64.wrap (d+i64.wrap ((23:Int)+g)),Ev.iand IntKind.i64 (Ev.ishr IntKind.i64 e a) (1:Int))].length)*(16:Nat)≤(140737488355328:Nat)∧f.length+ [(i64.wrap (d+i64.wrap ((23:Int)+g)),Ev.iand IntKind.i64 (Ev.ishr IntKind.i64 e a) (1:Int))].length≤(140737488355328:Nat)) then c (d,e,g,i64.wrap (a - (1:Int)),i,j,f++ [(i64.wrap (d+i64.wrap ((23:Int)+g)),Ev.iand IntKind.i64 (Ev.ishr IntKind.i64 e a) (1:Int))],k) else none else b (d,i,j,f)
def S_number_events_2 (fuel:Nat) (v:Int×Int×Int×Int×Bool×Int×(List (Int×Int))×Int) (c:(Int×Int×Int×Int×Bool×Int×(List (Int×Int))×Int)→Option Ans) (B:(Int×Bool×Int×(List (Int×Int))→Option Ans)):Option Ans:=match v with | (a,b,d,e,f,g,h,i)=>Sg_number_events_2 fuel (F_math_bits_Len fuel) (F_number_tail_take fuel) a b d e f g h i c B
def L_number_events_2 (fuel:Nat) (v:V_number_events_2) (b:W_number_events_2):Option Ans:=iter (S_number_events_2 fuel) fuel v b
def J110_2 (fuel:Nat) (i:Nat):Option Ev.Blk:=Ev.look i [(100000,B110_0 fuel)]
def T110_2 (v:V_number_events_2):Ev.St:=match v with | (a,b,d,e,f,g,h,i)=>⟨[(0,.c (i6 a)),(3,.c (.ptr 0 0)),(5,.c (.own 1)),(6,.c (i6 b)),(7,.c (i6 d)),(9,.c (.ptr 2 0)),(10,.c (i6 e))],[(0,.cells 97 [.bool f,i6 g]),(1,.vec 199 (.pair (.int .i64) (.int .i64)) h true),(2,.cells 215 [i6 i])],3,0⟩
def E110_2 (K:KT):W_number_events_2:=(fun v=>match v with | (a,b,d,e)=>K .normal ⟨[(0,.c (i6 a)),(3,.c (.ptr 0 0)),(5,.c (.own 1))],[(0,.cells 97 [.bool b,i6 d]),(1,.vec 199 (.pair (.int .i64) (.int .i64)) e true)],2,0⟩)
theorem S110_2_okg (fuel:Nat) (a:YF146) (b:YF161) (R:Ev.St→OA) (K:KT) (c d:Int) (e f:Int) (g:Bool) (h:Int) (i:(List (Int×Int))) (j:Int):evalCode tab (Gg110 a b) (J110_2 fuel) kp110 fuel (bodyOf 2 Try.f110) (T110_2 (c,d,e,f,g,h,i,j)) (lc kp110 15 2 R K)=Sg_number_events_2 fuel a b c d e f g h i j (fun v=>R (T110_2 v)) (E110_2 K):=by
  kernel_rfl
def B110_2 (fuel:Nat):Ev.Blk:=fun st K=>match canonO (kp110 15) st with | some s=>(match s with | ⟨[(l,.c (i6 m)),(n,.c (.ptr o p)),(q,.c (.own r)),(t,.c (i6 u)),(v,.c (i6 w)),(x,.c (.ptr y a)),(b,.c (i6 z))],[(d,.cells e [.bool A,i6 B]),(f,.vec g (.pair (.int .i64) (.int .i64)) C true),(h,.cells i [i6 D])],j,k⟩=>bif qb [l,n,o,p,q,r,t,v,x,y,a,b,d,e,f,g,h,i,j,k] [0,3,0,0,5,1,6,7,9,2,0,10,0,97,1,199,2,215,3,0] then iter (S_number_events_2 fuel) fuel (m,u,w,z,A,B,C,D) (E110_2 K) else none | _=>none) | none=>none
theorem B110_2_ok (fuel:Nat) (st:Ev.St) (K:KT) (r:Ans) (h:B110_2 fuel st K=some r):evalCode tab (G110 fuel) (J110_2 fuel) kp110 fuel (.block 2 (.loop (bodyOf 2 Try.f110))) st K=some r:=by
  unfold B110_2 at h
  split at h
  · rename_i s hs
    split at h
    · skip
      obtain ⟨hb,h⟩:=cond_some' h
      cases qb_eq hb
      exact blk_loop (S:=T110_2) (ks:=E110_2) (step:=S_number_events_2 fuel) (v:=(_,_,_,_,_,_,_,_)) (by kernel_rfl) (by kernel_rfl) (fun R K v=>by obtain ⟨a,b,c,d,e,f,g,i⟩:=v; exact S110_2_okg fuel (F_math_bits_Len fuel) (F_number_tail_take fuel) R K a b c d e f g i) hs h
    · cases h
  · cases h
def J110 (fuel:Nat) (i:Nat):Option Ev.Blk:=Ev.look i [(100000,B110_0 fuel),(100002,B110_2 fuel)]
def Fg_number_events (fuel:Nat) (n:YF146) (p:YF161) (h:Int) (l:Bool) (c:Int) (k0:((List (Int×Int)))→OA):OA:=bif l then k0 ([(h,1)]) else (n (u64.wrap (i64.wrap ((bif decide (i64.wrap (0 - c) > c) then i64.wrap (0 - c) else c)+1))) (fun m=>(L_number_events_0 fuel (h,i64.wrap ((bif decide (i64.wrap (0 - c) > c) then i64.wrap (0 - c) else c)+1),i64.wrap (m - 1),i64.wrap (m - 1),0,l,c,[(h,0)]) (fun (e,i,d,j,k,g)=>bif decide (d < 20) then bif decide ((g.length+ [(i64.wrap (i64.wrap (e+(1:Int))+d),(0:Int))].length)*(16:Nat)≤(140737488355328:Nat)∧g.length+ [(i64.wrap (i64.wrap (e+(1:Int))+d),(0:Int))].length≤(140737488355328:Nat)) then (L_number_events_2 fuel (e,i,d,i64.wrap (d - (1:Int)),j,k,g++ [(i64.wrap (i64.wrap (e+(1:Int))+d),(0:Int))],(44:Int)) (fun (b,o,f,a)=>bif f != 0 then bif decide (f < 0) then bif decide ((a.length+ [(i64.wrap (b+(22:Int)),(1:Int))].length)*(16:Nat)≤(140737488355328:Nat)∧a.length+ [(i64.wrap (b+(22:Int)),(1:Int))].length≤(140737488355328:Nat)) then k0 (a++ [(i64.wrap (b+(22:Int)),(1:Int))]) else none else bif decide ((a.length+ [(i64.wrap (b+(22:Int)),(0:Int))].length)*(16:Nat)≤(140737488355328:Nat)∧a.length+ [(i64.wrap (b+(22:Int)),(0:Int))].length≤(140737488355328:Nat)) then k0 (a++ [(i64.wrap (b+(22:Int)),(0:Int))]) else none else k0 a)) else none else (L_number_events_2 fuel (e,i,d,i64.wrap (d - 1),j,k,g,44) (fun (b,o,f,a)=>bif f != 0 then bif decide (f < 0) then bif decide ((a.length+ [(i64.wrap (b+(22:Int)),(1:Int))].length)*(16:Nat)≤(140737488355328:Nat)∧a.length+ [(i64.wrap (b+(22:Int)),(1:Int))].length≤(140737488355328:Nat)) then k0 (a++ [(i64.wrap (b+(22:Int)),(1:Int))]) else none else bif decide ((a.length+ [(i64.wrap (b+(22:Int)),(0:Int))].length)*(16:Nat)≤(140737488355328:Nat)∧a.length+ [(i64.wrap (b+(22:Int)),(0:Int))].length≤(140737488355328:Nat)) then k0 (a++ [(i64.wrap (b+(22:Int)),(0:Int))]) else none else k0 a))))))
abbrev YF110:Type:=Int→Bool→Int→(((List (Int×Int)))→Option Ans)→Option Ans
def F_number_events (fuel:Nat):YF110:=Fg_number_events fuel (F_math_bits_Len fuel) (F_number_tail_take fuel)
theorem F110_eqg (fuel:Nat) (a:YF146) (b:YF161) (d:Int) (e:Bool) (f:Int) (k:Ev.Cont):evalFn tab (Gg110 a b) (J110 fuel) kp110 fuel Try.f110 [.c (i6 d),.agg [.bool e,i6 f]] [] k=Fg_number_events fuel a b d e f (fun r=>match r with | g=>k (.c (.own 0),[.vec 199 (.pair (.int .i64) (.int .i64)) g true])):=by
  kernel_rfl
theorem hG110 (fuel:Nat):GOK Try.prog (G110 fuel):=
  gc (ok146 fuel) Try.func146 (by kernel_rfl) rfl <|
  gc (ok161 fuel) Try.func161 (by kernel_rfl) rfl <|
  gok_nil
theorem B110_0_blk (fuel:Nat):BlkOK Try.prog Try.f110.ntmps (.block 0 (.loop (bodyOf 0 Try.f110))) (B110_0 fuel):=bo0 (hG110 fuel) (by kernel_rfl) (by kernel_rfl) (B110_0_ok fuel)
theorem B110_2_blk (fuel:Nat):BlkOK Try.prog Try.f110.ntmps (.block 2 (.loop (bodyOf 2 Try.f110))) (B110_2 fuel):=bo0 (hG110 fuel) (by kernel_rfl) (by kernel_rfl) (B110_2_ok fuel)
theorem fok110 (fuel:Nat):FnOK Try.prog 110 (evalFn tab (G110 fuel) (J110 fuel) kp110 fuel Try.f110):=
  fn_ok tab_ok (hG110 fuel) mixed Try.func110 (c:=(Try.f110.body).getD .skip) rfl (fun q hq=>by
    rw [(by kernel_rfl:obl (J110 fuel) ((Try.f110.body).getD .skip)= [(.block 0 (.loop (bodyOf 0 Try.f110)),B110_0 fuel),(.block 2 (.loop (bodyOf 2 Try.f110)),B110_2 fuel)])] at hq
    simp only [List.mem_cons,List.not_mem_nil,or_false] at hq
    rcases hq with rfl | rfl
    · exact B110_0_blk fuel
    · exact B110_2_blk fuel)
def spg110 (F:YF110):Ev.Spec:=fun args objs k=>match args,objs with | [.c (i6 a),.agg [.bool b,i6 d]],[]=>F a b d (fun r=>match r with | e=>k (.c (.own 0),[.vec 199 (.pair (.int .i64) (.int .i64)) e true])) | _,_=>none
theorem ok110 (fuel:Nat):FnOK Try.prog 110 (spg110 (F_number_events fuel)):=by
  intro args objs kk r h
  unfold spg110 at h
  split at h
  · skip
    exact fok110 fuel _ _ kk r ((F110_eqg fuel (F_math_bits_Len fuel) (F_number_tail_take fuel) _ _ _ kk).trans h)
  · cases h
def kp107 (i:Nat):Option (List Nat):=Ev.look i []
def Gg107 (f:Nat):Option Ev.Spec:=Ev.look f []
def G107 (fuel:Nat):Nat→Option Ev.Spec:=Gg107
def F_number_fits (fuel:Nat) (d:Int) (b:(List Int)) (a c:Int) (k0:(Int)→Option Ans):Option Ans:=bif decide (a < 0) then k0 (2) else bif decide (a > i64.wrap ((↑b.length:Int) - c)) then k0 (2) else k0 (0)
abbrev YF107:Type:=Int→LI→Int→Int→(Int→Option Ans)→Option Ans
theorem F107_eq (fuel:Nat) (a:Int) (b:LI) (d e:Int) (k:Ev.Cont):evalFn tab (G107 fuel) J0 kp107 fuel Try.f107 [.agg [i6 a,.sl (.int .i64) b],.c (i6 d),.c (i6 e)] [] k=F_number_fits fuel a b d e (fun r=>match r with | f=>k (.c (i6 f),[])):=by
  kernel_rfl
theorem hG107 (fuel:Nat):GOK Try.prog (G107 fuel):=
  gok_nil
def spg107 (F:YF107):Ev.Spec:=fun args objs k=>match args,objs with | [.agg [i6 a,.sl (.int .i64) b],.c (i6 d),.c (i6 e)],[]=>F a b d e (fun r=>match r with | f=>k (.c (i6 f),[])) | _,_=>none
theorem ok107 (fuel:Nat):FnOK Try.prog 107 (spg107 (F_number_fits fuel)):=by
  intro args objs kk r h
  unfold spg107 at h
  split at h
  · skip
    exact fo0 (hG107 fuel) Try.func107 rfl (by kernel_rfl) _ _ kk r ((F107_eq fuel _ _ _ _ kk).trans h)
  · cases h
def kp109_2d4 (i:Nat):Option (List Nat):=Ev.look i [(2,[0,8,9,10,1000002]),(100000,[]),(400000,[4,1000002])]
def Gg109_2d4 (a:YF103_cf0) (f:Nat):Option Ev.Spec:=Ev.look f [(103,spg103_cf0 a)]
def G109_2d4 (fuel:Nat):Nat→Option Ev.Spec:=Gg109_2d4 (F_coder_Encoder_Put_cf0 fuel)
abbrev V_number_put_2d4_0:Type:=(List (Int×Int))×Int×Int×Int×Int×Int×Bool×LI×LI
abbrev W_number_put_2d4_0:Type:=(Int×Int×Int×Int×Bool×LI×LI→OA)×(Int×Int×Int×Bool×LI×LI→OA)
def Sg_number_put_2d4_0 (fuel:Nat) (s:YF103_cf0) (k:(List (Int×Int))) (l a:Int) (m n o:Int) (p:Bool) (q r:LI) (c:V_number_put_2d4_0→OA) (B:W_number_put_2d4_0):OA:=match B with | (ret,b)=>bif decide (a < l) then bif decide (0≤a∧a < (↑k.length:Int)) then (s ((k.getD a.toNat (0,0)).fst) ((k.getD a.toNat (0,0)).snd) m n o p q r (fun (d,e,f,g,h,i,j)=>bif d != 0 then ret (d,e,f,g,h,i,j) else c (k,l,i64.wrap (a+1),e,f,g,h,i,j)) (fun (d,e,f,g,h,i,j)=>bif d != 0 then ret (d,e,f,g,h,i,j) else c (k,l,i64.wrap (a+1),e,f,g,h,i,j))) else none else b (m,n,o,p,q,r)
def S_number_put_2d4_0 (fuel:Nat) (v:(List (Int×Int))×Int×Int×Int×Int×Int×Bool×(List Int)×(List Int)) (c:((List (Int×Int))×Int×Int×Int×Int×Int×Bool×(List Int)×(List Int))→Option Ans) (B:(Int×Int×Int×Int×Bool×(List Int)×(List Int)→Option Ans)×(Int×Int×Int×Bool×(List Int)×(List Int)→Option Ans)):Option Ans:=match v with | (a,b,d,e,f,g,h,i,j)=>Sg_number_put_2d4_0 fuel (F_coder_Encoder_Put_cf0 fuel) a b d e f g h i j c B
def L_number_put_2d4_0 (fuel:Nat) (v:V_number_put_2d4_0) (ret:(Int×Int×Int×Int×Bool×(List Int)×(List Int)→Option Ans)) (b:(Int×Int×Int×Bool×(List Int)×(List Int)→Option Ans)):Option Ans:=iter (S_number_put_2d4_0 fuel) fuel v (ret,b)
def T109_2d4_0 (v:V_number_put_2d4_0):Ev.St:=match v with | (a,b,d,e,f,g,h,i,j)=>⟨[(0,.c (.ptr 0 0)),(8,.c (.sl (.pair (.int .i64) (.int .i64)) a)),(9,.c (i6 b)),(10,.c (i6 d))],[(0,.cells 148 (i6 e::.own 1::ctb (.int .u64 f::.int .u64 g::.own 2::.bool h::[]))),(1,.vec 3 (.int .i64) i false),(2,.vec 5 (.int .u8) j true)],3,3⟩
def E109_2d4_0 (K:KT):W_number_put_2d4_0:=((fun v=>match v with | (a,b,d,e,f,g,h)=>K .ret ⟨[(4,.c (i6 a))],[(0,.cells 148 (i6 b::.own 1::ctb (.int .u64 d::.int .u64 e::.own 2::.bool f::[]))),(1,.vec 3 (.int .i64) g false),(2,.vec 5 (.int .u8) h true)],3,3⟩),(fun v=>match v with | (a,b,d,e,f,g)=>K .normal ⟨[],[(0,.cells 148 (i6 a::.own 1::ctb (.int .u64 b::.int .u64 d::.own 2::.bool e::[]))),(1,.vec 3 (.int .i64) f false),(2,.vec 5 (.int .u8) g true)],3,3⟩))
theorem S109_2d4_0_okg (fuel:Nat) (a:YF103_cf0) (R:Ev.St→OA) (K:KT) (b:(List (Int×Int))) (c d:Int) (e f g:Int) (h:Bool) (i j:LI):evalCode tab (Gg109_2d4 a) J0 kp109_2d4 fuel (bodyOf 0 Try.f109) (T109_2d4_0 (b,c,d,e,f,g,h,i,j)) (lc kp109_2d4 2 0 R K)=Sg_number_put_2d4_0 fuel a b c d e f g h i j (fun v=>R (T109_2d4_0 v)) (E109_2d4_0 K):=by
  kernel_rfl
def B109_2d4_0 (fuel:Nat):Ev.Blk:=fun st K=>match canonO (kp109_2d4 2) st with | some s=>(match s with | ⟨[(i,.c (.ptr j k)),(l,.c (.sl (.pair (.int .i64) (.int .i64)) m)),(n,.c (i6 o)),(p,.c (i6 q))],[(r,.cells t a),(u,.vec v (.int .i64) w false),(b,.vec d (.int .u8) x true)],e,f⟩=>(match splitRun 2 ctn a with | some ([i6 y,.own g],[.int .u64 z,.int .u64 A,.own h,.bool B])=>bif qb [i,j,k,l,n,p,r,t,u,v,b,d,e,f,g,h] [0,0,0,8,9,10,0,148,1,3,2,5,3,3,1,2] then iter (S_number_put_2d4_0 fuel) fuel (m,o,q,y,z,A,B,w,x) (E109_2d4_0 K) else none | _=>none) | _=>none) | none=>none
theorem B109_2d4_0_ok (fuel:Nat) (st:Ev.St) (K:KT) (r:Ans) (h:B109_2d4_0 fuel st K=some r):evalCode tab (G109_2d4 fuel) J0 kp109_2d4 fuel (.block 0 (.loop (bodyOf 0 Try.f109))) st K=some r:=by
  unfold B109_2d4_0 at h
  split at h
  · rename_i s hs
    split at h
    · skip
      split at h
      rotate_left 1
      · cases h
      rename_i hsp
      have esp:=splitRun_eq hsp
      subst esp
      obtain ⟨hb,h⟩:=cond_some' h
      cases qb_eq hb
      exact blk_loop (S:=T109_2d4_0) (ks:=E109_2d4_0) (step:=S_number_put_2d4_0 fuel) (v:=(_,_,_,_,_,_,_,_,_)) (by kernel_rfl) (by kernel_rfl) (fun R K v=>by obtain ⟨a,b,c,d,e,f,g,i,j⟩:=v; exact S109_2d4_0_okg fuel (F_coder_Encoder_Put_cf0 fuel) R K a b c d e f g i j) hs h
    · cases h
  · cases h
def J109_2d4 (fuel:Nat) (i:Nat):Option Ev.Blk:=Ev.look i [(100000,B109_2d4_0 fuel)]
def Fg_number_put_2d4 (fuel:Nat) (n:YF103_cf0) (a:(List (Int×Int))) (h i j:Int) (k:Bool) (l m:LI) (k0:(Int×Int×Int×Int×Bool×LI×LI)→OA):OA:=(L_number_put_2d4_0 fuel (a,(↑a.length:Int),0,h,i,j,k,l,m) (fun (ret0_0,ret0_1,ret0_2,ret0_3,ret0_4,ret0_5,ret0_6)=>k0 (ret0_0,ret0_1,ret0_2,ret0_3,ret0_4,ret0_5,ret0_6)) (fun (b,c,d,e,f,g)=>k0 (0,b,c,d,e,f,g)))
abbrev YF109_2d4:Type:=((List (Int×Int)))→Int→Int→Int→Bool→LI→LI→((Int×Int×Int×Int×Bool×LI×LI)→Option Ans)→Option Ans
def F_number_put_2d4 (fuel:Nat):YF109_2d4:=Fg_number_put_2d4 fuel (F_coder_Encoder_Put_cf0 fuel)
theorem F109_2d4_eqg (fuel:Nat) (a:YF103_cf0) (b:(List (Int×Int))) (d e f:Int) (g:Bool) (h i:LI) (k:Ev.Cont):evalFn tab (Gg109_2d4 a) (J109_2d4 fuel) kp109_2d4 fuel Try.f109 [.c (.ptr 0 0),.c (.sl (.pair (.int .i64) (.int .i64)) b)] [.cells 148 (i6 d::.own 1::ctb (.int .u64 e::.int .u64 f::.own 2::.bool g::[])),.vec 3 (.int .i64) h false,.vec 5 (.int .u8) i false] k=Fg_number_put_2d4 fuel a b d e f g h i (fun r=>match r with | (j,l,m,n,o,p,q)=>k (.c (i6 j),[.cells 148 (i6 l::.own 1::ctb (.int .u64 m::.int .u64 n::.own 2::.bool o::[])),.vec 3 (.int .i64) p false,.vec 5 (.int .u8) q true])):=by
  kernel_rfl
theorem hG109_2d4 (fuel:Nat):GOK Try.prog (G109_2d4 fuel):=
  gc (ok103_cf0 fuel) Try.func103 (by kernel_rfl) rfl <|
  gok_nil
theorem B109_2d4_0_blk (fuel:Nat):BlkOK Try.prog Try.f109.ntmps (.block 0 (.loop (bodyOf 0 Try.f109))) (B109_2d4_0 fuel):=bo0 (hG109_2d4 fuel) (by kernel_rfl) (by kernel_rfl) (B109_2d4_0_ok fuel)
def spg109_2d4 (F:YF109_2d4):Ev.Spec:=fun args objs k=>match args,objs with | [.c (.ptr b d),.c (.sl (.pair (.int .i64) (.int .i64)) e)],[.cells f a,.vec g (.int .i64) h false,.vec i (.int .u8) j false]=>(match splitRun 2 ctn a with | some ([i6 l,.own m],[.int .u64 n,.int .u64 o,.own p,.bool q])=>bif qb [b,d,f,g,i,m,p] [0,0,148,3,5,1,2] then F e l n o q h j (fun r=>match r with | (s,t,u,v,w,x,y)=>k (.c (i6 s),[.cells 148 (i6 t::.own 1::ctb (.int .u64 u::.int .u64 v::.own 2::.bool w::[])),.vec 3 (.int .i64) x false,.vec 5 (.int .u8) y true])) else none | _=>none) | _,_=>none
theorem ok109_2d4 (fuel:Nat):FnOK Try.prog 109 (spg109_2d4 (F_number_put_2d4 fuel)):=by
  intro args objs kk r h
  unfold spg109_2d4 at h
  split at h
  · skip
    split at h
    rotate_left 1
    · cases h
    rename_i hsp
    have esp:=splitRun_eq hsp
    subst esp
    obtain ⟨hb,h⟩:=cond_some' h
    cases qb_eq hb
    exact fo1 (hG109_2d4 fuel) Try.func109 rfl (B109_2d4_0_blk fuel) (by kernel_rfl) _ _ kk r ((F109_2d4_eqg fuel (F_coder_Encoder_Put_cf0 fuel) _ _ _ _ _ _ _ kk).trans h)
  · cases h
def kp53_856 (i:Nat):Option (List Nat):=Ev.look i [(600000,[])]
def Gg53_856 (a:YF103_cf0) (d:YF106) (e:YF107) (b:YF108_a20) (c:YF109_2d4) (g:YF110) (f:Nat):Option Ev.Spec:=Ev.look f [(103,spg103_cf0 a),(106,spg106 d),(107,spg107 e),(108,spg108_a20 b),(109,spg109_2d4 c),(110,spg110 g)]
def G53_856 (fuel:Nat):Nat→Option Ev.Spec:=Gg53_856 (F_coder_Encoder_Put_cf0 fuel) (F_number_Valid fuel) (F_number_fits fuel) (F_coder_Encoder_Model_a20 fuel) (F_number_put_2d4 fuel) (F_number_events fuel)
def F_number_Put_856 (fuel:Nat) (n:Int) (o:Bool) (p C:Int) (D E:Int) (F:Bool) (G H:(List Int)) (k0:(Int×Int×Int×Int×Bool×(List Int)×(List Int))→Option Ans):Option Ans:=(F_coder_Encoder_Put_cf0 fuel ((-1:Int)) (0) C D E F G H (fun (z,a,b,c,d,e,f)=>bif z==7 then k0 (7,a,b,c,d,e,f) else (F_number_Valid fuel o p (fun B=>bif !B then k0 (2,a,b,c,d,e,f) else (F_coder_Encoder_Model_a20 fuel a b c d e f (fun (q,g,h,i,j,k,l,r)=>(F_number_fits fuel q r n (48) (fun m=>bif m != 0 then k0 (m,g,h,i,j,k,l) else (F_number_events fuel n o p (fun A=>(F_number_put_2d4 fuel A g h i j k l (fun (s,t,u,v,w,x,y)=>k0 (s,t,u,v,w,x,y)))))))))))) (fun (z,a,b,c,d,e,f)=>bif z==7 then k0 (7,a,b,c,d,e,f) else (F_number_Valid fuel o p (fun B=>bif !B then k0 (2,a,b,c,d,e,f) else (F_coder_Encoder_Model_a20 fuel a b c d e f (fun (q,g,h,i,j,k,l,r)=>(F_number_fits fuel q r n (48) (fun m=>bif m != 0 then k0 (m,g,h,i,j,k,l) else (F_number_events fuel n o p (fun A=>(F_number_put_2d4 fuel A g h i j k l (fun (s,t,u,v,w,x,y)=>k0 (s,t,u,v,w,x,y)))))))))))))
abbrev YF53_856:Type:=Int→Bool→Int→Int→Int→Int→Bool→LI→LI→((Int×Int×Int×Int×Bool×LI×LI)→Option Ans)→Option Ans
theorem F53_856_eqg (fuel:Nat) (K:YF103_cf0) (E:YF106) (F:YF107) (t:YF108_a20) (u:YF109_2d4) (G:YF110) (p:Int) (q:Bool) (s L:Int) (M N:Int) (O:Bool) (P Q:LI) (k:Ev.Cont):evalFn tab (Gg53_856 K E F t u G) J0 kp53_856 fuel Try.f53 [.c (.ptr 0 0),.c (i6 p),.agg [.bool q,i6 s]] [.cells 148 (i6 L::.own 1::ctb (.int .u64 M::.int .u64 N::.own 2::.bool O::[])),.vec 3 (.int .i64) P false,.vec 5 (.int .u8) Q false] (wkC [1000002] k)=(fun  (k0:(Int×Int×Int×Int×Bool×LI×LI)→OA)=>
  (K ((-1:Int)) ((0:Int)) L M N O P Q
  (fun (H,a,b,d,e,f,g)=>
  bif H==(7:Int) then
  k0 ((7:Int),a,b,d,e,f,g)
  else
  (E q s
  (fun J=>
  bif !J then
  k0 ((2:Int),a,b,d,e,f,g)
  else
  (t a b d e f g
  (fun (v,h,i,j,l,m,n,w)=>
  (F v w p ((48:Int))
  (fun o=>
  bif o != (0:Int) then
  k0 (o,h,i,j,l,m,n)
  else
  (G p q s
  (fun I=>
  (u I h i j l m n
  (fun (x,y,z,A,B,C,D)=>
  k0 (x,y,z,A,B,C,D))))))))))))
  (fun (H,a,b,d,e,f,g)=>
  bif H==(7:Int) then
  k0 ((7:Int),a,b,d,e,f,g)
  else
  (E q s
  (fun J=>
  bif !J then
  k0 ((2:Int),a,b,d,e,f,g)
  else
  (t a b d e f g
  (fun (v,h,i,j,l,m,n,w)=>
  (F v w p ((48:Int))
  (fun o=>
  bif o != (0:Int) then
  k0 (o,h,i,j,l,m,n)
  else
  (G p q s
  (fun I=>
  (u I h i j l m n
  (fun (x,y,z,A,B,C,D)=>
  k0 (x,y,z,A,B,C,D)))))))))))))) (fun r=>match r with | (R,S,T,U,V,W,X)=>k (.c (i6 R),[.cells 148 (i6 S::.own 1::ctb (.int .u64 T::.int .u64 U::.own 2::.bool V::[])),.vec 3 (.int .i64) W false,.vec 5 (.int .u8) X true])):=by
  kernel_rfl
theorem hG53_856 (fuel:Nat):GOK Try.prog (G53_856 fuel):=
  gc (ok103_cf0 fuel) Try.func103 (by kernel_rfl) rfl <|
  gc (ok106 fuel) Try.func106 (by kernel_rfl) rfl <|
  gc (ok107 fuel) Try.func107 (by kernel_rfl) rfl <|
  gc (ok108_a20 fuel) Try.func108 (by kernel_rfl) rfl <|
  gc (ok109_2d4 fuel) Try.func109 (by kernel_rfl) rfl <|
  gc (ok110 fuel) Try.func110 (by kernel_rfl) rfl <|
  gok_nil
theorem fok53_856 (fuel:Nat):FnOK Try.prog 53 (evalFn tab (G53_856 fuel) J0 kp53_856 fuel Try.f53):=
  fn_ok tab_ok (hG53_856 fuel) mixed Try.func53 (c:=(Try.f53.body).getD .skip) rfl (fun q hq=>by
    rw [(by kernel_rfl:obl J0 ((Try.f53.body).getD .skip)= [])] at hq
    cases hq)
def spg53_856 (F:YF53_856):Ev.Spec:=fun args objs k=>match args,objs with | [.c (.ptr b d),.c (i6 e),.agg [.bool f,i6 g]],[.cells h a,.vec i (.int .i64) j false,.vec l (.int .u8) m false]=>(match splitRun 2 ctn a with | some ([i6 n,.own o],[.int .u64 p,.int .u64 q,.own s,.bool t])=>bif qb [b,d,h,i,l,o,s] [0,0,148,3,5,1,2] then F e f g n p q t j m (fun r=>match r with | (u,v,w,x,y,z,A)=>k (.c (i6 u),[.cells 148 (i6 v::.own 1::ctb (.int .u64 w::.int .u64 x::.own 2::.bool y::[])),.vec 3 (.int .i64) z false,.vec 5 (.int .u8) A true])) else none | _=>none) | _,_=>none
def spec53_856 (fuel:Nat):Ev.Spec:=spg53_856 (F_number_Put_856 fuel)
theorem ok53_856 (fuel:Nat):FnOK Try.prog 53 (spec53_856 fuel):=by
  intro args objs kk r h
  unfold spec53_856 spg53_856 at h
  split at h
  · skip
    split at h
    rotate_left 1
    · cases h
    rename_i hsp
    have esp:=splitRun_eq hsp
    subst esp
    obtain ⟨hb,h⟩:=cond_some' h
    cases qb_eq hb
    exact (fok53_856 fuel).wk [1000002] _ _ kk r ((F53_856_eqg fuel (F_coder_Encoder_Put_cf0 fuel) (F_number_Valid fuel) (F_number_fits fuel) (F_coder_Encoder_Model_a20 fuel) (F_number_put_2d4 fuel) (F_number_events fuel) _ _ _ _ _ _ _ _ _ kk).trans h)
  · cases h
def kp54_a20 (i:Nat):Option (List Nat):=Ev.look i [(5,[0,3,15]),(10,[0,3,37,38]),(100000,[3]),(100002,[3]),(200008,[0]),(400000,[2]),(400002,[2])]
def Gg54_a20 (a:YF111_a20) (f:Nat):Option Ev.Spec:=Ev.look f [(111,spg111_a20 a)]
def G54_a20 (fuel:Nat):Nat→Option Ev.Spec:=Gg54_a20 (F_coder_Encoder_none_a20 fuel)
abbrev V_coder_Encoder_End_a20_2:Type:=Int×Int×Int×Int×Int×Bool×LI×LI×LI
abbrev W_coder_Encoder_End_a20_2:Type:=(Int×Int×Int×Bool×LI×LI×LI→OA)
def Sg_coder_Encoder_End_a20_2 (fuel:Nat) (l:YF111_a20) (f a:Int) (g h d:Int) (i:Bool) (j k e:LI) (c:V_coder_Encoder_End_a20_2→OA) (B:W_coder_Encoder_End_a20_2):OA:=match B with | b=>bif decide (a < f) then bif decide (i64.wrap (24 - i64.wrap (8*a)) < 0) then none else bif decide ((e.length+ [u8.wrap (Ev.ishr IntKind.u64 d (i64.wrap ((24:Int) - i64.wrap ((8:Int)*a))))].length)*(1:Nat)≤(140737488355328:Nat)∧e.length+ [u8.wrap (Ev.ishr IntKind.u64 d (i64.wrap ((24:Int) - i64.wrap ((8:Int)*a))))].length≤(140737488355328:Nat)) then c (f,i64.wrap (a+(1:Int)),g,h,d,i,j,k,e++ [u8.wrap (Ev.ishr IntKind.u64 d (i64.wrap ((24:Int) - i64.wrap ((8:Int)*a))))]) else none else b (g,h,d,i,j,k,e)
def S_coder_Encoder_End_a20_2 (fuel:Nat) (v:Int×Int×Int×Int×Int×Bool×(List Int)×(List Int)×(List Int)) (c:(Int×Int×Int×Int×Int×Bool×(List Int)×(List Int)×(List Int))→Option Ans) (B:(Int×Int×Int×Bool×(List Int)×(List Int)×(List Int)→Option Ans)):Option Ans:=match v with | (a,b,d,e,f,g,h,i,j)=>Sg_coder_Encoder_End_a20_2 fuel (F_coder_Encoder_none_a20 fuel) a b d e f g h i j c B
def L_coder_Encoder_End_a20_2 (fuel:Nat) (v:V_coder_Encoder_End_a20_2) (b:W_coder_Encoder_End_a20_2):Option Ans:=iter (S_coder_Encoder_End_a20_2 fuel) fuel v b
def T54_a20_2 (v:V_coder_Encoder_End_a20_2):Ev.St:=match v with | (a,b,d,e,f,g,h,i,j)=>⟨[(0,.c (.ptr 0 0)),(3,.c (.own 3)),(37,.c (i6 a)),(38,.c (i6 b))],[(0,.cells 148 (i6 d::.own 1::ctb (.int .u64 e::.int .u64 f::.own 2::.bool g::[]))),(1,.vec 3 (.int .i64) h false),(2,.vec 5 (.int .u8) i false),(3,.vec 5 (.int .u8) j true)],4,3⟩
def E54_a20_2 (K:KT):W_coder_Encoder_End_a20_2:=(fun v=>match v with | (a,b,d,e,f,g,h)=>K .normal ⟨[(3,.c (.own 3))],[(0,.cells 148 (i6 a::.own 1::ctb (.int .u64 b::.int .u64 d::.own 2::.bool e::[]))),(1,.vec 3 (.int .i64) f false),(2,.vec 5 (.int .u8) g false),(3,.vec 5 (.int .u8) h true)],4,3⟩)
theorem S54_a20_2_okg (fuel:Nat) (a:YF111_a20) (R:Ev.St→OA) (K:KT) (b c:Int) (d e f:Int) (g:Bool) (h i j:LI):evalCode tab (Gg54_a20 a) J0 kp54_a20 fuel (bodyOf 2 Try.f54) (T54_a20_2 (b,c,d,e,f,g,h,i,j)) (lc kp54_a20 10 2 R K)=Sg_coder_Encoder_End_a20_2 fuel a b c d e f g h i j (fun v=>R (T54_a20_2 v)) (E54_a20_2 K):=by
  kernel_rfl
def B54_a20_2 (fuel:Nat):Ev.Blk:=fun st K=>match canonO (kp54_a20 10) st with | some s=>(match s with | ⟨[(l,.c (.ptr m n)),(o,.c (.own p)),(q,.c (i6 r)),(t,.c (i6 u))],[(v,.cells w a),(x,.vec b (.int .i64) y false),(d,.vec e (.int .u8) z false),(f,.vec g (.int .u8) A true)],h,i⟩=>(match splitRun 2 ctn a with | some ([i6 B,.own j],[.int .u64 C,.int .u64 D,.own k,.bool E])=>bif qb [l,m,n,o,p,q,t,v,w,x,b,d,e,f,g,h,i,j,k] [0,0,0,3,3,37,38,0,148,1,3,2,5,3,5,4,3,1,2] then iter (S_coder_Encoder_End_a20_2 fuel) fuel (r,u,B,C,D,E,y,z,A) (E54_a20_2 K) else none | _=>none) | _=>none) | none=>none
theorem B54_a20_2_ok (fuel:Nat) (st:Ev.St) (K:KT) (r:Ans) (h:B54_a20_2 fuel st K=some r):evalCode tab (G54_a20 fuel) J0 kp54_a20 fuel (.block 2 (.loop (bodyOf 2 Try.f54))) st K=some r:=by
  unfold B54_a20_2 at h
  split at h
  · rename_i s hs
    split at h
    · skip
      split at h
      rotate_left 1
      · cases h
      rename_i hsp
      have esp:=splitRun_eq hsp
      subst esp
      obtain ⟨hb,h⟩:=cond_some' h
      cases qb_eq hb
      exact blk_loop (S:=T54_a20_2) (ks:=E54_a20_2) (step:=S_coder_Encoder_End_a20_2 fuel) (v:=(_,_,_,_,_,_,_,_,_)) (by kernel_rfl) (by kernel_rfl) (fun R K v=>by obtain ⟨a,b,c,d,e,f,g,i,j⟩:=v; exact S54_a20_2_okg fuel (F_coder_Encoder_none_a20 fuel) R K a b c d e f g i j) hs h
    · cases h
  · cases h
abbrev V_coder_Encoder_End_a20_0:Type:=Int×Int×Int×Int×Bool×LI×LI×LI
abbrev W_coder_Encoder_End_a20_0:Type:=(Int×Int×Int×Bool×LI×LI×LI→OA)×(Int×Int×Int×Bool×LI×LI×LI→OA)
def Sg_coder_Encoder_End_a20_0 (fuel:Nat) (r:YF111_a20) (a f:Int) (d e:Int) (g:Bool) (h i j:LI) (c:V_coder_Encoder_End_a20_0→OA) (B:W_coder_Encoder_End_a20_0):OA:=match B with | (ret,b)=>bif decide (a < 5) then bif decide (u64.wrap (i64.wrap (32 - i64.wrap (8*a))) < 0) then none else bif decide (u64.wrap (i64.wrap (32 - i64.wrap (8*a))) < 0) then none else bif decide (Ev.ishl IntKind.u64 (Ev.ishr IntKind.u64 e (u64.wrap (i64.wrap (32 - i64.wrap (8*a))))) (u64.wrap (i64.wrap (32 - i64.wrap (8*a))))≥d) then (L_coder_Encoder_End_a20_2 fuel (a,0,f,d,e,g,h,i,j) (fun (k,l,m,n,o,p,q)=>ret (k,l,m,n,o,p,q))) else c (i64.wrap (a+1),f,d,e,g,h,i,j) else b (f,d,e,g,h,i,j)
def S_coder_Encoder_End_a20_0 (fuel:Nat) (v:Int×Int×Int×Int×Bool×(List Int)×(List Int)×(List Int)) (c:(Int×Int×Int×Int×Bool×(List Int)×(List Int)×(List Int))→Option Ans) (B:(Int×Int×Int×Bool×(List Int)×(List Int)×(List Int)→Option Ans)×(Int×Int×Int×Bool×(List Int)×(List Int)×(List Int)→Option Ans)):Option Ans:=match v with | (a,b,d,e,f,g,h,i)=>Sg_coder_Encoder_End_a20_0 fuel (F_coder_Encoder_none_a20 fuel) a b d e f g h i c B
def L_coder_Encoder_End_a20_0 (fuel:Nat) (v:V_coder_Encoder_End_a20_0) (ret:(Int×Int×Int×Bool×(List Int)×(List Int)×(List Int)→Option Ans)) (b:(Int×Int×Int×Bool×(List Int)×(List Int)×(List Int)→Option Ans)):Option Ans:=iter (S_coder_Encoder_End_a20_0 fuel) fuel v (ret,b)
def J54_a20_0 (fuel:Nat) (i:Nat):Option Ev.Blk:=Ev.look i [(100002,B54_a20_2 fuel)]
def T54_a20_0 (v:V_coder_Encoder_End_a20_0):Ev.St:=match v with | (a,b,d,e,f,g,h,i)=>⟨[(0,.c (.ptr 0 0)),(3,.c (.own 3)),(15,.c (i6 a))],[(0,.cells 148 (i6 b::.own 1::ctb (.int .u64 d::.int .u64 e::.own 2::.bool f::[]))),(1,.vec 3 (.int .i64) g false),(2,.vec 5 (.int .u8) h false),(3,.vec 5 (.int .u8) i true)],4,3⟩
def E54_a20_0 (K:KT):W_coder_Encoder_End_a20_0:=((fun v=>match v with | (a,b,d,e,f,g,h)=>K .ret ⟨[(2,.c (.own 3))],[(0,.cells 148 (i6 a::.own 1::ctb (.int .u64 b::.int .u64 d::.own 2::.bool e::[]))),(1,.vec 3 (.int .i64) f false),(2,.vec 5 (.int .u8) g false),(3,.vec 5 (.int .u8) h true)],4,3⟩),(fun v=>match v with | (a,b,d,e,f,g,h)=>K .normal ⟨[(3,.c (.own 3))],[(0,.cells 148 (i6 a::.own 1::ctb (.int .u64 b::.int .u64 d::.own 2::.bool e::[]))),(1,.vec 3 (.int .i64) f false),(2,.vec 5 (.int .u8) g false),(3,.vec 5 (.int .u8) h true)],4,3⟩))
theorem S54_a20_0_okg (fuel:Nat) (a:YF111_a20) (R:Ev.St→OA) (K:KT) (b c:Int) (d e:Int) (f:Bool) (g h i:LI):evalCode tab (Gg54_a20 a) (J54_a20_0 fuel) kp54_a20 fuel (bodyOf 0 Try.f54) (T54_a20_0 (b,c,d,e,f,g,h,i)) (lc kp54_a20 5 0 R K)=Sg_coder_Encoder_End_a20_0 fuel a b c d e f g h i (fun v=>R (T54_a20_0 v)) (E54_a20_0 K):=by
  kernel_rfl
def B54_a20_0 (fuel:Nat):Ev.Blk:=fun st K=>match canonO (kp54_a20 5) st with | some s=>(match s with | ⟨[(k,.c (.ptr l m)),(n,.c (.own o)),(p,.c (i6 q))],[(r,.cells t a),(u,.vec v (.int .i64) w false),(b,.vec d (.int .u8) x false),(e,.vec f (.int .u8) y true)],g,h⟩=>(match splitRun 2 ctn a with | some ([i6 z,.own i],[.int .u64 A,.int .u64 B,.own j,.bool C])=>bif qb [k,l,m,n,o,p,r,t,u,v,b,d,e,f,g,h,i,j] [0,0,0,3,3,15,0,148,1,3,2,5,3,5,4,3,1,2] then iter (S_coder_Encoder_End_a20_0 fuel) fuel (q,z,A,B,C,w,x,y) (E54_a20_0 K) else none | _=>none) | _=>none) | none=>none
theorem B54_a20_0_ok (fuel:Nat) (st:Ev.St) (K:KT) (r:Ans) (h:B54_a20_0 fuel st K=some r):evalCode tab (G54_a20 fuel) (J54_a20_0 fuel) kp54_a20 fuel (.block 0 (.loop (bodyOf 0 Try.f54))) st K=some r:=by
  unfold B54_a20_0 at h
  split at h
  · rename_i s hs
    split at h
    · skip
      split at h
      rotate_left 1
      · cases h
      rename_i hsp
      have esp:=splitRun_eq hsp
      subst esp
      obtain ⟨hb,h⟩:=cond_some' h
      cases qb_eq hb
      exact blk_loop (S:=T54_a20_0) (ks:=E54_a20_0) (step:=S_coder_Encoder_End_a20_0 fuel) (v:=(_,_,_,_,_,_,_,_)) (by kernel_rfl) (by kernel_rfl) (fun R K v=>by obtain ⟨a,b,c,d,e,f,g,i⟩:=v; exact S54_a20_0_okg fuel (F_coder_Encoder_none_a20 fuel) R K a b c d e f g i) hs h
    · cases h
  · cases h
def J54_a20 (fuel:Nat) (i:Nat):Option Ev.Blk:=Ev.look i [(100002,B54_a20_2 fuel),(100000,B54_a20_0 fuel)]
def Fg_coder_Encoder_End_a20 (fuel:Nat) (g:YF111_a20) (p q r:Int) (s:Bool) (t u:LI) (k0:(Int×Int×Int×Bool×LI×LI×LI)→OA):OA:=(g p q r s t u (fun (h,b,c,d,e,f,a)=>bif h then k0 (b,c,d,e,f,a,[]) else bif decide (((0:Nat)+a.length)*(1:Nat)≤(140737488355328:Nat)∧(0:Nat)+a.length≤(140737488355328:Nat)) then (L_coder_Encoder_End_a20_0 fuel ((0:Int),b,c,d,e,f,a,[]++a) (fun (ret0_0,ret0_1,ret0_2,ret0_3,ret0_4,ret0_5,ret0_6)=>k0 (ret0_0,ret0_1,ret0_2,ret0_3,ret0_4,ret0_5,ret0_6)) (fun (i,j,k,l,m,n,o)=>k0 (i,j,k,l,m,n,o))) else none))
abbrev YF54_a20:Type:=Int→Int→Int→Bool→LI→LI→((Int×Int×Int×Bool×LI×LI×LI)→Option Ans)→Option Ans
def F_coder_Encoder_End_a20 (fuel:Nat):YF54_a20:=Fg_coder_Encoder_End_a20 fuel (F_coder_Encoder_none_a20 fuel)
theorem F54_a20_eqg (fuel:Nat) (a:YF111_a20) (b d e:Int) (f:Bool) (g h:LI) (k:Ev.Cont):evalFn tab (Gg54_a20 a) (J54_a20 fuel) kp54_a20 fuel Try.f54 [.c (.ptr 0 0)] [.cells 148 (i6 b::.own 1::ctb (.int .u64 d::.int .u64 e::.own 2::.bool f::[])),.vec 3 (.int .i64) g false,.vec 5 (.int .u8) h false] k=Fg_coder_Encoder_End_a20 fuel a b d e f g h (fun r=>match r with | (i,j,l,m,n,o,p)=>k (.c (.own 3),[.cells 148 (i6 i::.own 1::ctb (.int .u64 j::.int .u64 l::.own 2::.bool m::[])),.vec 3 (.int .i64) n false,.vec 5 (.int .u8) o false,.vec 5 (.int .u8) p true])):=by
  kernel_rfl
theorem hG54_a20 (fuel:Nat):GOK Try.prog (G54_a20 fuel):=
  gc (ok111_a20 fuel) Try.func111 (by kernel_rfl) rfl <|
  gok_nil
theorem B54_a20_2_blk (fuel:Nat):BlkOK Try.prog Try.f54.ntmps (.block 2 (.loop (bodyOf 2 Try.f54))) (B54_a20_2 fuel):=bo0 (hG54_a20 fuel) (by kernel_rfl) (by kernel_rfl) (B54_a20_2_ok fuel)
theorem B54_a20_0_blk (fuel:Nat):BlkOK Try.prog Try.f54.ntmps (.block 0 (.loop (bodyOf 0 Try.f54))) (B54_a20_0 fuel):=
  blk_of (blk_of_code tab_ok (hG54_a20 fuel) mixed (J:=J54_a20_0 fuel) (kp:=kp54_a20) (fuel:=fuel) (by kernel_rfl) (fun q hq=>by
    rw [(by kernel_rfl:obl (J54_a20_0 fuel) (.block 0 (.loop (bodyOf 0 Try.f54)))= [(.block 2 (.loop (bodyOf 2 Try.f54)),B54_a20_2 fuel)])] at hq
    simp only [List.mem_cons,List.not_mem_nil,or_false] at hq
    subst hq
    · exact B54_a20_2_blk fuel)) (B54_a20_0_ok fuel)
def spg54_a20 (F:YF54_a20):Ev.Spec:=fun args objs k=>match args,objs with | [.c (.ptr b d)],[.cells e a,.vec f (.int .i64) g false,.vec h (.int .u8) i false]=>(match splitRun 2 ctn a with | some ([i6 j,.own l],[.int .u64 m,.int .u64 n,.own o,.bool p])=>bif qb [b,d,e,f,h,l,o] [0,0,148,3,5,1,2] then F j m n p g i (fun r=>match r with | (q,s,t,u,v,w,x)=>k (.c (.own 3),[.cells 148 (i6 q::.own 1::ctb (.int .u64 s::.int .u64 t::.own 2::.bool u::[])),.vec 3 (.int .i64) v false,.vec 5 (.int .u8) w false,.vec 5 (.int .u8) x true])) else none | _=>none) | _,_=>none
def spec54_a20 (fuel:Nat):Ev.Spec:=spg54_a20 (F_coder_Encoder_End_a20 fuel)
theorem ok54_a20 (fuel:Nat):FnOK Try.prog 54 (spec54_a20 fuel):=by
  intro args objs kk r h
  unfold spec54_a20 spg54_a20 at h
  split at h
  · skip
    split at h
    rotate_left 1
    · cases h
    rename_i hsp
    have esp:=splitRun_eq hsp
    subst esp
    obtain ⟨hb,h⟩:=cond_some' h
    cases qb_eq hb
    exact fo1 (hG54_a20 fuel) Try.func54 rfl (B54_a20_0_blk fuel) (by kernel_rfl) _ _ kk r ((F54_a20_eqg fuel (F_coder_Encoder_none_a20 fuel) _ _ _ _ _ _ kk).trans h)
  · cases h
def kp112_40a (i:Nat):Option (List Nat):=Ev.look i [(200001,[0]),(200002,[0])]
def Gg112_40a (f:Nat):Option Ev.Spec:=Ev.look f []
def G112_40a (fuel:Nat):Nat→Option Ev.Spec:=Gg112_40a
def F_coder_Decoder_shift_40a (fuel:Nat) (c d:Int) (e a:Int) (f g:Int) (h i:Bool) (j b:(List Int)) (k0:(Int×Int×Int×Int×Int×Int×Bool×Bool×(List Int)×(List Int))→Option Ans):Option Ans:=bif decide (a < (↑b.length:Int)) then bif decide (0≤a∧a < (↑b.length:Int)) then k0 (c,d,e,i64.wrap (a+1),Ev.ior IntKind.u64 (Ev.iand IntKind.u64 (Ev.ishl IntKind.u64 f 8) 4294967295) (u64.wrap (b.getD a.toNat 0)),g,h,i,j,b) else none else k0 (c,d,e,i64.wrap (a+1),Ev.ior IntKind.u64 (Ev.iand IntKind.u64 (Ev.ishl IntKind.u64 f 8) 4294967295) (u64.wrap 0),i64.wrap (g+1),h,i,j,b)
abbrev YF112_40a:Type:=Int→Int→Int→Int→Int→Int→Bool→Bool→LI→LI→((Int×Int×Int×Int×Int×Int×Bool×Bool×LI×LI)→Option Ans)→Option Ans
theorem F112_40a_eq (fuel:Nat) (a b:Int) (d e:Int) (f g:Int) (h i:Bool) (j l:LI) (k:Ev.Cont):evalFn tab (G112_40a fuel) J0 kp112_40a fuel Try.f112 [.c (.ptr 0 0)] [.cells 163 (i6 a::.own 1::ctb (.int .u64 b::.int .u64 d::.own 2::i6 e::.int .u64 f::i6 g::.bool h::.bool i::[])),.vec 3 (.int .i64) j false,.vec 5 (.int .u8) l false] k=F_coder_Decoder_shift_40a fuel a b d e f g h i j l (fun r=>match r with | (m,n,o,p,q,s,t,u,v,w)=>k (.tup [],[.cells 163 (i6 m::.own 1::ctb (.int .u64 n::.int .u64 o::.own 2::i6 p::.int .u64 q::i6 s::.bool t::.bool u::[])),.vec 3 (.int .i64) v false,.vec 5 (.int .u8) w false])):=by
  kernel_rfl
theorem hG112_40a (fuel:Nat):GOK Try.prog (G112_40a fuel):=
  gok_nil
def spg112_40a (F:YF112_40a):Ev.Spec:=fun args objs k=>match args,objs with | [.c (.ptr b d)],[.cells e a,.vec f (.int .i64) g false,.vec h (.int .u8) i false]=>(match splitRun 2 ctn a with | some ([i6 j,.own l],[.int .u64 m,.int .u64 n,.own o,i6 p,.int .u64 q,i6 s,.bool t,.bool u])=>bif qb [b,d,e,f,h,l,o] [0,0,163,3,5,1,2] then F j m n p q s t u g i (fun r=>match r with | (v,w,x,y,z,A,B,C,D,E)=>k (.tup [],[.cells 163 (i6 v::.own 1::ctb (.int .u64 w::.int .u64 x::.own 2::i6 y::.int .u64 z::i6 A::.bool B::.bool C::[])),.vec 3 (.int .i64) D false,.vec 5 (.int .u8) E false])) else none | _=>none) | _,_=>none
theorem ok112_40a (fuel:Nat):FnOK Try.prog 112 (spg112_40a (F_coder_Decoder_shift_40a fuel)):=by
  intro args objs kk r h
  unfold spg112_40a at h
  split at h
  · skip
    split at h
    rotate_left 1
    · cases h
    rename_i hsp
    have esp:=splitRun_eq hsp
    subst esp
    obtain ⟨hb,h⟩:=cond_some' h
    cases qb_eq hb
    exact fo0 (hG112_40a fuel) Try.func112 rfl (by kernel_rfl) _ _ kk r ((F112_40a_eq fuel _ _ _ _ _ _ _ _ _ _ kk).trans h)
  · cases h
def kp55 (i:Nat):Option (List Nat):=Ev.look i [(5,[6,17]),(100000,[6]),(400000,[4,5]),(600000,[])]
def Gg55 (b:YF100) (c:YF101) (a:YF112_40a) (f:Nat):Option Ev.Spec:=Ev.look f [(100,spg100 b),(101,spg101 c),(112,spg112_40a a)]
def G55 (fuel:Nat):Nat→Option Ev.Spec:=Gg55 (F_coder_Valid fuel) (F_coder_begin fuel) (F_coder_Decoder_shift_40a fuel)
abbrev V_coder_NewDecoder_0:Type:=Int×Int×Int×Int×Int×Int×Int×Bool×Bool×LI×LI
abbrev W_coder_NewDecoder_0:Type:=(Int×Int×Int×Int×Int×Int×Bool×Bool×LI×LI→OA)
def Sg_coder_NewDecoder_0 (fuel:Nat) (y:YF100) (z:YF101) (n:YF112_40a) (d e:Int) (f g:Int) (h i j:Int) (k l:Bool) (m a:LI) (c:V_coder_NewDecoder_0→OA) (B:W_coder_NewDecoder_0):OA:=match B with | b=>bif decide (d < 4) then (n e f g h i j k l m a (fun (o,p,q,r,s,t,u,v,w,x)=>c (i64.wrap (d+1),o,p,q,r,s,t,u,v,w,x))) else b (e,f,g,h,i,j,k,l,m,a)
def S_coder_NewDecoder_0 (fuel:Nat) (v:Int×Int×Int×Int×Int×Int×Int×Bool×Bool×(List Int)×(List Int)) (c:(Int×Int×Int×Int×Int×Int×Int×Bool×Bool×(List Int)×(List Int))→Option Ans) (B:(Int×Int×Int×Int×Int×Int×Bool×Bool×(List Int)×(List Int)→Option Ans)):Option Ans:=match v with | (b,d,e,f,g,h,i,j,k,l,a)=>Sg_coder_NewDecoder_0 fuel (F_coder_Valid fuel) (F_coder_begin fuel) (F_coder_Decoder_shift_40a fuel) b d e f g h i j k l a c B
def L_coder_NewDecoder_0 (fuel:Nat) (v:V_coder_NewDecoder_0) (b:W_coder_NewDecoder_0):Option Ans:=iter (S_coder_NewDecoder_0 fuel) fuel v b
def T55_0 (v:V_coder_NewDecoder_0):Ev.St:=match v with | (b,d,e,f,g,h,i,j,k,l,a)=>⟨[(6,.c (.ptr 0 0)),(17,.c (i6 b))],[(0,.cells 163 (i6 d::.own 1::ctb (.int .u64 e::.int .u64 f::.own 2::i6 g::.int .u64 h::i6 i::.bool j::.bool k::[]))),(1,.vec 3 (.int .i64) l true),(2,.vec 5 (.int .u8) a true)],3,0⟩
def E55_0 (K:KT):W_coder_NewDecoder_0:=(fun v=>match v with | (a,b,d,e,f,g,h,i,j,k)=>K .normal ⟨[(6,.c (.ptr 0 0))],[(0,.cells 163 (i6 a::.own 1::ctb (.int .u64 b::.int .u64 d::.own 2::i6 e::.int .u64 f::i6 g::.bool h::.bool i::[]))),(1,.vec 3 (.int .i64) j true),(2,.vec 5 (.int .u8) k true)],3,0⟩)
theorem S55_0_okg (fuel:Nat) (b:YF100) (c:YF101) (a:YF112_40a) (R:Ev.St→OA) (K:KT) (e f:Int) (g h:Int) (i j k:Int) (l m:Bool) (n d:LI):evalCode tab (Gg55 b c a) J0 kp55 fuel (bodyOf 0 Try.f55) (T55_0 (e,f,g,h,i,j,k,l,m,n,d)) (lc kp55 5 0 R K)=Sg_coder_NewDecoder_0 fuel b c a e f g h i j k l m n d (fun v=>R (T55_0 v)) (E55_0 K):=by
  kernel_rfl
def B55_0 (fuel:Nat):Ev.Blk:=fun st K=>match canonO (kp55 5) st with | some s=>(match s with | ⟨[(h,.c (.ptr i j)),(k,.c (i6 l))],[(m,.cells n a),(o,.vec p (.int .i64) q true),(r,.vec t (.int .u8) b true)],d,e⟩=>(match splitRun 2 ctn a with | some ([i6 u,.own f],[.int .u64 v,.int .u64 w,.own g,i6 x,.int .u64 y,i6 z,.bool A,.bool B])=>bif qb [h,i,j,k,m,n,o,p,r,t,d,e,f,g] [6,0,0,17,0,163,1,3,2,5,3,0,1,2] then iter (S_coder_NewDecoder_0 fuel) fuel (l,u,v,w,x,y,z,A,B,q,b) (E55_0 K) else none | _=>none) | _=>none) | none=>none
theorem B55_0_ok (fuel:Nat) (st:Ev.St) (K:KT) (r:Ans) (h:B55_0 fuel st K=some r):evalCode tab (G55 fuel) J0 kp55 fuel (.block 0 (.loop (bodyOf 0 Try.f55))) st K=some r:=by
  unfold B55_0 at h
  split at h
  · rename_i s hs
    split at h
    · skip
      split at h
      rotate_left 1
      · cases h
      rename_i hsp
      have esp:=splitRun_eq hsp
      subst esp
      obtain ⟨hb,h⟩:=cond_some' h
      cases qb_eq hb
      exact blk_loop (S:=T55_0) (ks:=E55_0) (step:=S_coder_NewDecoder_0 fuel) (v:=(_,_,_,_,_,_,_,_,_,_,_)) (by kernel_rfl) (by kernel_rfl) (fun R K v=>by obtain ⟨b,c,d,e,f,g,i,j,k,l,a⟩:=v; exact S55_0_okg fuel (F_coder_Valid fuel) (F_coder_begin fuel) (F_coder_Decoder_shift_40a fuel) R K b c d e f g i j k l a) hs h
    · cases h
  · cases h
def J55 (fuel:Nat) (i:Nat):Option Ev.Blk:=Ev.look i [(100000,B55_0 fuel)]
def Fg_coder_NewDecoder (fuel:Nat) (d:YF100) (e:YF101) (u:YF112_40a) (b:Int) (c a:LI) (k0:(Int)→OA) (k1:(Int×Int×Int×Int×Int×Int×Int×Bool×Bool×LI×LI)→OA):OA:=(d b c (fun t=>bif !t then k0 (10) else (e b c (fun (f,g,h,i)=>bif decide (((0:Nat)+a.length)*(1:Nat)≤(140737488355328:Nat)∧(0:Nat)+a.length≤(140737488355328:Nat)) then (L_coder_NewDecoder_0 fuel ((0:Int),f,g,h,(0:Int),(0:Int),(0:Int),false,true,i,[]++a) (fun (j,k,l,m,n,o,p,q,r,s)=>k1 (0,j,k,l,m,n,o,p,q,r,s))) else none))))
abbrev YF55:Type:=Int→LI→LI→(Int→Option Ans)→((Int×Int×Int×Int×Int×Int×Int×Bool×Bool×LI×LI)→Option Ans)→Option Ans
def F_coder_NewDecoder (fuel:Nat):YF55:=Fg_coder_NewDecoder fuel (F_coder_Valid fuel) (F_coder_begin fuel) (F_coder_Decoder_shift_40a fuel)
theorem F55_eqg (fuel:Nat) (d:YF100) (e:YF101) (b:YF112_40a) (f:Int) (g h:LI) (k:Ev.Cont):evalFn tab (Gg55 d e b) (J55 fuel) kp55 fuel Try.f55 [.agg [i6 f,.sl (.int .i64) g],.c (.sl (.int .u8) h)] [] k=Fg_coder_NewDecoder fuel d e b f g h (fun r=>match r with | a=>k (.tup [(false,[.nilptr]),(false,[i6 a])],[])) (fun r=>match r with | (a,j,l,m,n,o,p,q,s,t,i)=>k (.tup [(false,[.ptr 0 0]),(false,[i6 a])],[.cells 163 (i6 j::.own 1::ctb (.int .u64 l::.int .u64 m::.own 2::i6 n::.int .u64 o::i6 p::.bool q::.bool s::[])),.vec 3 (.int .i64) t true,.vec 5 (.int .u8) i true])):=by
  kernel_rfl
theorem hG55 (fuel:Nat):GOK Try.prog (G55 fuel):=
  gc (ok100 fuel) Try.func100 (by kernel_rfl) rfl <|
  gc (ok101 fuel) Try.func101 (by kernel_rfl) rfl <|
  gc (ok112_40a fuel) Try.func112 (by kernel_rfl) rfl <|
  gok_nil
theorem B55_0_blk (fuel:Nat):BlkOK Try.prog Try.f55.ntmps (.block 0 (.loop (bodyOf 0 Try.f55))) (B55_0 fuel):=bo0 (hG55 fuel) (by kernel_rfl) (by kernel_rfl) (B55_0_ok fuel)
def spg55 (F:YF55):Ev.Spec:=fun args objs k=>match args,objs with | [.agg [i6 d,.sl (.int .i64) e],.c (.sl (.int .u8) f)],[]=>F d e f (fun r=>match r with | a=>k (.tup [(false,[.nilptr]),(false,[i6 a])],[])) (fun r=>match r with | (a,g,h,i,j,l,m,n,o,p,b)=>k (.tup [(false,[.ptr 0 0]),(false,[i6 a])],[.cells 163 (i6 g::.own 1::ctb (.int .u64 h::.int .u64 i::.own 2::i6 j::.int .u64 l::i6 m::.bool n::.bool o::[])),.vec 3 (.int .i64) p true,.vec 5 (.int .u8) b true])) | _,_=>none
def spec55 (fuel:Nat):Ev.Spec:=spg55 (F_coder_NewDecoder fuel)
theorem ok55 (fuel:Nat):FnOK Try.prog 55 (spec55 fuel):=by
  intro args objs kk r h
  unfold spec55 spg55 at h
  split at h
  · skip
    exact fo1 (hG55 fuel) Try.func55 rfl (B55_0_blk fuel) (by kernel_rfl) _ _ kk r ((F55_eqg fuel (F_coder_Valid fuel) (F_coder_begin fuel) (F_coder_Decoder_shift_40a fuel) _ _ _ kk).trans h)
  · cases h
def kp102_b82 (i:Nat):Option (List Nat):=Ev.look i [(11,[0,1,3,10,11,12,1000002]),(100000,[0,11]),(400000,[8]),(600000,[])]
def Gg102_b82 (a:YF103_cf0) (d:YF107) (b:YF108_a20) (c:YF109_2d4) (f:Nat):Option Ev.Spec:=Ev.look f [(103,spg103_cf0 a),(107,spg107 d),(108,spg108_a20 b),(109,spg109_2d4 c)]
def G102_b82 (fuel:Nat):Nat→Option Ev.Spec:=Gg102_b82 (F_coder_Encoder_Put_cf0 fuel) (F_number_fits fuel) (F_coder_Encoder_Model_a20 fuel) (F_number_put_2d4 fuel)
abbrev V_number_PutId_b82_0:Type:=Int×Int×Int×Int×Int×Int×Int×Bool×LI×LI×(List (Int×Int))
abbrev W_number_PutId_b82_0:Type:=(Int×Int×Int×Bool×LI×LI×(List (Int×Int))→OA)
def Sg_number_PutId_b82_0 (fuel:Nat) (n:YF103_cf0) (q:YF107) (o:YF108_a20) (p:YF109_2d4) (f d:Int) (g a:Int) (h i j:Int) (k:Bool) (l m:LI) (e:(List (Int×Int))) (c:V_number_PutId_b82_0→OA) (B:W_number_PutId_b82_0):OA:=match B with | b=>bif decide (a≥0) then bif decide (a < 0) then none else bif decide ((e.length+ [(i64.wrap (i64.wrap (f+g) - (1:Int)),Ev.iand IntKind.i64 (Ev.ishr IntKind.i64 d a) (1:Int))].length)*(16:Nat)≤(140737488355328:Nat)∧e.length+ [(i64.wrap (i64.wrap (f+g) - (1:Int)),Ev.iand IntKind.i64 (Ev.ishr IntKind.i64 d a) (1:Int))].length≤(140737488355328:Nat)) then c (f,d,i64.wrap (i64.wrap ((2:Int)*g)+Ev.iand IntKind.i64 (Ev.ishr IntKind.i64 d a) (1:Int)),i64.wrap (a - (1:Int)),h,i,j,k,l,m,e++ [(i64.wrap (i64.wrap (f+g) - (1:Int)),Ev.iand IntKind.i64 (Ev.ishr IntKind.i64 d a) (1:Int))]) else none else b (h,i,j,k,l,m,e)
def S_number_PutId_b82_0 (fuel:Nat) (v:Int×Int×Int×Int×Int×Int×Int×Bool×(List Int)×(List Int)×(List (Int×Int))) (c:(Int×Int×Int×Int×Int×Int×Int×Bool×(List Int)×(List Int)×(List (Int×Int)))→Option Ans) (B:(Int×Int×Int×Bool×(List Int)×(List Int)×(List (Int×Int))→Option Ans)):Option Ans:=match v with | (b,d,e,f,g,h,i,j,k,l,a)=>Sg_number_PutId_b82_0 fuel (F_coder_Encoder_Put_cf0 fuel) (F_number_fits fuel) (F_coder_Encoder_Model_a20 fuel) (F_number_put_2d4 fuel) b d e f g h i j k l a c B
def L_number_PutId_b82_0 (fuel:Nat) (v:V_number_PutId_b82_0) (b:W_number_PutId_b82_0):Option Ans:=iter (S_number_PutId_b82_0 fuel) fuel v b
def T102_b82_0 (v:V_number_PutId_b82_0):Ev.St:=match v with | (b,d,e,f,g,h,i,j,k,l,a)=>⟨[(0,.c (.ptr 0 0)),(1,.c (i6 b)),(3,.c (i6 d)),(10,.c (i6 e)),(11,.c (.own 3)),(12,.c (i6 f))],[(0,.cells 148 (i6 g::.own 1::ctb (.int .u64 h::.int .u64 i::.own 2::.bool j::[]))),(1,.vec 3 (.int .i64) k false),(2,.vec 5 (.int .u8) l true),(3,.vec 199 (.pair (.int .i64) (.int .i64)) a true)],4,3⟩
def E102_b82_0 (K:KT):W_number_PutId_b82_0:=(fun v=>match v with | (a,b,d,e,f,g,h)=>K .normal ⟨[(0,.c (.ptr 0 0)),(11,.c (.own 3))],[(0,.cells 148 (i6 a::.own 1::ctb (.int .u64 b::.int .u64 d::.own 2::.bool e::[]))),(1,.vec 3 (.int .i64) f false),(2,.vec 5 (.int .u8) g true),(3,.vec 199 (.pair (.int .i64) (.int .i64)) h true)],4,3⟩)
theorem S102_b82_0_okg (fuel:Nat) (a:YF103_cf0) (d:YF107) (b:YF108_a20) (c:YF109_2d4) (R:Ev.St→OA) (K:KT) (f g:Int) (h i:Int) (j k l:Int) (m:Bool) (n o:LI) (e:(List (Int×Int))):evalCode tab (Gg102_b82 a d b c) J0 kp102_b82 fuel (bodyOf 0 Try.f102) (T102_b82_0 (f,g,h,i,j,k,l,m,n,o,e)) (lc kp102_b82 11 0 R K)=Sg_number_PutId_b82_0 fuel a d b c f g h i j k l m n o e (fun v=>R (T102_b82_0 v)) (E102_b82_0 K):=by
  kernel_rfl
def B102_b82_0 (fuel:Nat):Ev.Blk:=fun st K=>match canonO (kp102_b82 11) st with | some s=>(match s with | ⟨[(o,.c (.ptr p q)),(r,.c (i6 t)),(u,.c (i6 v)),(w,.c (i6 x)),(y,.c (.own z)),(A,.c (i6 B))],[(C,.cells a b),(d,.vec e (.int .i64) D false),(f,.vec g (.int .u8) E true),(h,.vec i (.pair (.int .i64) (.int .i64)) j true)],k,l⟩=>(match splitRun 2 ctn b with | some ([i6 F,.own m],[.int .u64 G,.int .u64 H,.own n,.bool I])=>bif qb [o,p,q,r,u,w,y,z,A,C,a,d,e,f,g,h,i,k,l,m,n] [0,0,0,1,3,10,11,3,12,0,148,1,3,2,5,3,199,4,3,1,2] then iter (S_number_PutId_b82_0 fuel) fuel (t,v,x,B,F,G,H,I,D,E,j) (E102_b82_0 K) else none | _=>none) | _=>none) | none=>none
theorem B102_b82_0_ok (fuel:Nat) (st:Ev.St) (K:KT) (r:Ans) (h:B102_b82_0 fuel st K=some r):evalCode tab (G102_b82 fuel) J0 kp102_b82 fuel (.block 0 (.loop (bodyOf 0 Try.f102))) st K=some r:=by
  unfold B102_b82_0 at h
  split at h
  · rename_i s hs
    split at h
    · skip
      split at h
      rotate_left 1
      · cases h
      rename_i hsp
      have esp:=splitRun_eq hsp
      subst esp
      obtain ⟨hb,h⟩:=cond_some' h
      cases qb_eq hb
      exact blk_loop (S:=T102_b82_0) (ks:=E102_b82_0) (step:=S_number_PutId_b82_0 fuel) (v:=(_,_,_,_,_,_,_,_,_,_,_)) (by kernel_rfl) (by kernel_rfl) (fun R K v=>by obtain ⟨b,c,d,e,f,g,i,j,k,l,a⟩:=v; exact S102_b82_0_okg fuel (F_coder_Encoder_Put_cf0 fuel) (F_number_fits fuel) (F_coder_Encoder_Model_a20 fuel) (F_number_put_2d4 fuel) R K b c d e f g i j k l a) hs h
    · cases h
  · cases h
def J102_b82 (fuel:Nat) (i:Nat):Option Ev.Blk:=Ev.look i [(100000,B102_b82_0 fuel)]
def F_number_PutId_b82 (fuel:Nat) (p a:Int) (h H:Int) (I J:Int) (K:Bool) (L M:(List Int)) (k0:(Int×Int×Int×Int×Bool×(List Int)×(List Int))→Option Ans):Option Ans:=(F_coder_Encoder_Put_cf0 fuel ((-1:Int)) (0) H I J K L M (fun (z,b,c,d,e,f,g)=>bif z==7 then k0 (7,b,c,d,e,f,g) else bif decide (a < 0) then k0 (2,b,c,d,e,f,g) else bif decide (a > 10) then k0 (2,b,c,d,e,f,g) else bif decide (h < 0) then k0 (2,b,c,d,e,f,g) else bif decide (a < 0) then none else bif decide (h≥Ev.ishl IntKind.i64 1 a) then k0 (2,b,c,d,e,f,g) else bif decide (a < 0) then none else (F_coder_Encoder_Model_a20 fuel b c d e f g (fun (q,i,j,k,l,m,n,r)=>(F_number_fits fuel q r p (i64.wrap (Ev.ishl IntKind.i64 1 a - 1)) (fun o=>bif o != 0 then k0 (o,i,j,k,l,m,n) else (L_number_PutId_b82_0 fuel (p,h,1,i64.wrap (a - 1),i,j,k,l,m,n,[]) (fun (A,B,C,D,E,F,G)=>(F_number_put_2d4 fuel G A B C D E F (fun (s,t,u,v,w,x,y)=>k0 (s,t,u,v,w,x,y)))))))))) (fun (z,b,c,d,e,f,g)=>bif z==7 then k0 (7,b,c,d,e,f,g) else bif decide (a < 0) then k0 (2,b,c,d,e,f,g) else bif decide (a > 10) then k0 (2,b,c,d,e,f,g) else bif decide (h < 0) then k0 (2,b,c,d,e,f,g) else bif decide (a < 0) then none else bif decide (h≥Ev.ishl IntKind.i64 1 a) then k0 (2,b,c,d,e,f,g) else bif decide (a < 0) then none else (F_coder_Encoder_Model_a20 fuel b c d e f g (fun (q,i,j,k,l,m,n,r)=>(F_number_fits fuel q r p (i64.wrap (Ev.ishl IntKind.i64 1 a - 1)) (fun o=>bif o != 0 then k0 (o,i,j,k,l,m,n) else (L_number_PutId_b82_0 fuel (p,h,1,i64.wrap (a - 1),i,j,k,l,m,n,[]) (fun (A,B,C,D,E,F,G)=>(F_number_put_2d4 fuel G A B C D E F (fun (s,t,u,v,w,x,y)=>k0 (s,t,u,v,w,x,y)))))))))))
abbrev YF102_b82:Type:=Int→Int→Int→Int→Int→Int→Bool→LI→LI→((Int×Int×Int×Int×Bool×LI×LI)→Option Ans)→Option Ans
theorem F102_b82_eqg (fuel:Nat) (N:YF103_cf0) (E:YF107) (t:YF108_a20) (u:YF109_2d4) (s a:Int) (i O:Int) (P Q:Int) (R:Bool) (S T:LI) (k:Ev.Cont):evalFn tab (Gg102_b82 N E t u) (J102_b82 fuel) kp102_b82 fuel Try.f102 [.c (.ptr 0 0),.c (i6 s),.c (i6 a),.c (i6 i)] [.cells 148 (i6 O::.own 1::ctb (.int .u64 P::.int .u64 Q::.own 2::.bool R::[])),.vec 3 (.int .i64) S false,.vec 5 (.int .u8) T false] (wkC [1000002] k)=(fun  (k0:(Int×Int×Int×Int×Bool×LI×LI)→OA)=>
  (N ((-1:Int)) ((0:Int)) O P Q R S T
  (fun (F,b,d,e,f,g,h)=>
  bif F==(7:Int) then
  k0 ((7:Int),b,d,e,f,g,h)
  else
  bif decide (a < (0:Int)) then
  k0 ((2:Int),b,d,e,f,g,h)
  else
  bif decide (a > (10:Int)) then
  k0 ((2:Int),b,d,e,f,g,h)
  else
  bif decide (i < (0:Int)) then
  k0 ((2:Int),b,d,e,f,g,h)
  else
  bif decide (a < (0:Int)) then
  none
  else
  bif decide (i≥Ev.ishl IntKind.i64 (1:Int) a) then
  k0 ((2:Int),b,d,e,f,g,h)
  else
  bif decide (a < (0:Int)) then
  none
  else
  (t b d e f g h
  (fun (v,j,l,m,n,o,p,w)=>
  (E v w s (i64.wrap (Ev.ishl IntKind.i64 (1:Int) a - (1:Int)))
  (fun q=>
  bif q != (0:Int) then
  k0 (q,j,l,m,n,o,p)
  else
  (L_number_PutId_b82_0 fuel (s,i,(1:Int),i64.wrap (a - (1:Int)),j,l,m,n,o,p,[])
  (fun (G,H,I,J,K,L,M)=>
  (u M G H I J K L
  (fun (x,y,z,A,B,C,D)=>
  k0 (x,y,z,A,B,C,D))))))))))
  (fun (F,b,d,e,f,g,h)=>
  bif F==(7:Int) then
  k0 ((7:Int),b,d,e,f,g,h)
  else
  bif decide (a < (0:Int)) then
  k0 ((2:Int),b,d,e,f,g,h)
  else
  bif decide (a > (10:Int)) then
  k0 ((2:Int),b,d,e,f,g,h)
  else
  bif decide (i < (0:Int)) then
  k0 ((2:Int),b,d,e,f,g,h)
  else
  bif decide (a < (0:Int)) then
  none
  else
  bif decide (i≥Ev.ishl IntKind.i64 (1:Int) a) then
  k0 ((2:Int),b,d,e,f,g,h)
  else
  bif decide (a < (0:Int)) then
  none
  else
  (t b d e f g h
  (fun (v,j,l,m,n,o,p,w)=>
  (E v w s (i64.wrap (Ev.ishl IntKind.i64 (1:Int) a - (1:Int)))
  (fun q=>
  bif q != (0:Int) then
  k0 (q,j,l,m,n,o,p)
  else
  (L_number_PutId_b82_0 fuel (s,i,(1:Int),i64.wrap (a - (1:Int)),j,l,m,n,o,p,[])
  (fun (G,H,I,J,K,L,M)=>
  (u M G H I J K L
  (fun (x,y,z,A,B,C,D)=>
  k0 (x,y,z,A,B,C,D)))))))))))) (fun r=>match r with | (U,V,W,X,Y,Z,a0)=>k (.c (i6 U),[.cells 148 (i6 V::.own 1::ctb (.int .u64 W::.int .u64 X::.own 2::.bool Y::[])),.vec 3 (.int .i64) Z false,.vec 5 (.int .u8) a0 true])):=by
  kernel_rfl
theorem hG102_b82 (fuel:Nat):GOK Try.prog (G102_b82 fuel):=
  gc (ok103_cf0 fuel) Try.func103 (by kernel_rfl) rfl <|
  gc (ok107 fuel) Try.func107 (by kernel_rfl) rfl <|
  gc (ok108_a20 fuel) Try.func108 (by kernel_rfl) rfl <|
  gc (ok109_2d4 fuel) Try.func109 (by kernel_rfl) rfl <|
  gok_nil
theorem B102_b82_0_blk (fuel:Nat):BlkOK Try.prog Try.f102.ntmps (.block 0 (.loop (bodyOf 0 Try.f102))) (B102_b82_0 fuel):=bo0 (hG102_b82 fuel) (by kernel_rfl) (by kernel_rfl) (B102_b82_0_ok fuel)
theorem fok102_b82 (fuel:Nat):FnOK Try.prog 102 (evalFn tab (G102_b82 fuel) (J102_b82 fuel) kp102_b82 fuel Try.f102):=
  fn_ok tab_ok (hG102_b82 fuel) mixed Try.func102 (c:=(Try.f102.body).getD .skip) rfl (fun q hq=>by
    rw [(by kernel_rfl:obl (J102_b82 fuel) ((Try.f102.body).getD .skip)= [(.block 0 (.loop (bodyOf 0 Try.f102)),B102_b82_0 fuel)])] at hq
    simp only [List.mem_cons,List.not_mem_nil,or_false] at hq
    subst hq
    · exact B102_b82_0_blk fuel)
def spg102_b82 (F:YF102_b82):Ev.Spec:=fun args objs k=>match args,objs with | [.c (.ptr b d),.c (i6 e),.c (i6 f),.c (i6 g)],[.cells h a,.vec i (.int .i64) j false,.vec l (.int .u8) m false]=>(match splitRun 2 ctn a with | some ([i6 n,.own o],[.int .u64 p,.int .u64 q,.own s,.bool t])=>bif qb [b,d,h,i,l,o,s] [0,0,148,3,5,1,2] then F e f g n p q t j m (fun r=>match r with | (u,v,w,x,y,z,A)=>k (.c (i6 u),[.cells 148 (i6 v::.own 1::ctb (.int .u64 w::.int .u64 x::.own 2::.bool y::[])),.vec 3 (.int .i64) z false,.vec 5 (.int .u8) A true])) else none | _=>none) | _,_=>none
def spec102_b82 (fuel:Nat):Ev.Spec:=spg102_b82 (F_number_PutId_b82 fuel)
theorem ok102_b82 (fuel:Nat):FnOK Try.prog 102 (spec102_b82 fuel):=by
  intro args objs kk r h
  unfold spec102_b82 spg102_b82 at h
  split at h
  · skip
    split at h
    rotate_left 1
    · cases h
    rename_i hsp
    have esp:=splitRun_eq hsp
    subst esp
    obtain ⟨hb,h⟩:=cond_some' h
    cases qb_eq hb
    exact (fok102_b82 fuel).wk [1000002] _ _ kk r ((F102_b82_eqg fuel (F_coder_Encoder_Put_cf0 fuel) (F_number_fits fuel) (F_coder_Encoder_Model_a20 fuel) (F_number_put_2d4 fuel) _ _ _ _ _ _ _ _ _ kk).trans h)
  · cases h
def kp173_40a (i:Nat):Option (List Nat):=Ev.look i []
def Gg173_40a (f:Nat):Option Ev.Spec:=Ev.look f []
def G173_40a (fuel:Nat):Nat→Option Ev.Spec:=Gg173_40a
def F_coder_Decoder_none_40a (fuel:Nat) (b c:Int) (d e:Int) (f g:Int) (h a:Bool) (i j:(List Int)) (k0:(Bool×Int×Int×Int×Int×Int×Int×Bool×Bool×(List Int)×(List Int))→Option Ans):Option Ans:=k0 (!a,b,c,d,e,f,g,h,a,i,j)
abbrev YF173_40a:Type:=Int→Int→Int→Int→Int→Int→Bool→Bool→LI→LI→((Bool×Int×Int×Int×Int×Int×Int×Bool×Bool×LI×LI)→Option Ans)→Option Ans
theorem F173_40a_eq (fuel:Nat) (a b:Int) (d e:Int) (f g:Int) (h i:Bool) (j l:LI) (k:Ev.Cont):evalFn tab (G173_40a fuel) J0 kp173_40a fuel Try.f173 [.c (.ptr 0 0)] [.cells 163 (i6 a::.own 1::ctb (.int .u64 b::.int .u64 d::.own 2::i6 e::.int .u64 f::i6 g::.bool h::.bool i::[])),.vec 3 (.int .i64) j false,.vec 5 (.int .u8) l false] k=F_coder_Decoder_none_40a fuel a b d e f g h i j l (fun r=>match r with | (n,o,p,q,s,t,u,v,w,x,m)=>k (.c (.bool n),[.cells 163 (i6 o::.own 1::ctb (.int .u64 p::.int .u64 q::.own 2::i6 s::.int .u64 t::i6 u::.bool v::.bool w::[])),.vec 3 (.int .i64) x false,.vec 5 (.int .u8) m false])):=by
  kernel_rfl
theorem hG173_40a (fuel:Nat):GOK Try.prog (G173_40a fuel):=
  gok_nil
def spg173_40a (F:YF173_40a):Ev.Spec:=fun args objs k=>match args,objs with | [.c (.ptr d e)],[.cells f a,.vec g (.int .i64) h false,.vec i (.int .u8) j false]=>(match splitRun 2 ctn a with | some ([i6 l,.own m],[.int .u64 n,.int .u64 o,.own p,i6 q,.int .u64 s,i6 t,.bool u,.bool v])=>bif qb [d,e,f,g,i,m,p] [0,0,163,3,5,1,2] then F l n o q s t u v h j (fun r=>match r with | (w,x,y,z,A,B,C,D,E,G,b)=>k (.c (.bool w),[.cells 163 (i6 x::.own 1::ctb (.int .u64 y::.int .u64 z::.own 2::i6 A::.int .u64 B::i6 C::.bool D::.bool E::[])),.vec 3 (.int .i64) G false,.vec 5 (.int .u8) b false])) else none | _=>none) | _,_=>none
theorem ok173_40a (fuel:Nat):FnOK Try.prog 173 (spg173_40a (F_coder_Decoder_none_40a fuel)):=by
  intro args objs kk r h
  unfold spg173_40a at h
  split at h
  · skip
    split at h
    rotate_left 1
    · cases h
    rename_i hsp
    have esp:=splitRun_eq hsp
    subst esp
    obtain ⟨hb,h⟩:=cond_some' h
    cases qb_eq hb
    exact fo0 (hG173_40a fuel) Try.func173 rfl (by kernel_rfl) _ _ kk r ((F173_40a_eq fuel _ _ _ _ _ _ _ _ _ _ kk).trans h)
  · cases h
def kp153_40a (i:Nat):Option (List Nat):=Ev.look i []
def Gg153_40a (f:Nat):Option Ev.Spec:=Ev.look f []
def G153_40a (fuel:Nat):Nat→Option Ev.Spec:=Gg153_40a
def F_coder_interval_lose_40a (fuel:Nat) (b a:Int) (c d:Int) (e f:Int) (g h:Bool) (i j:(List Int)) (k0:(Int×Int×Int×Int×Int×Int×Int×Bool×Bool×(List Int)×(List Int))→Option Ans):Option Ans:=k0 (u8.wrap (Ev.ishr IntKind.u64 a 24),b,Ev.iand IntKind.u64 (Ev.ishl IntKind.u64 a 8) 4294967295,Ev.ior IntKind.u64 (Ev.iand IntKind.u64 (Ev.ishl IntKind.u64 c 8) 4294967295) 255,d,e,f,g,h,i,j)
abbrev YF153_40a:Type:=Int→Int→Int→Int→Int→Int→Bool→Bool→LI→LI→((Int×Int×Int×Int×Int×Int×Int×Bool×Bool×LI×LI)→Option Ans)→Option Ans
theorem F153_40a_eq (fuel:Nat) (a b:Int) (d e:Int) (f g:Int) (h i:Bool) (j l:LI) (k:Ev.Cont):evalFn tab (G153_40a fuel) J0 kp153_40a fuel Try.f153 [.c (.ptr 0 0)] [.cells 163 (i6 a::.own 1::ctb (.int .u64 b::.int .u64 d::.own 2::i6 e::.int .u64 f::i6 g::.bool h::.bool i::[])),.vec 3 (.int .i64) j false,.vec 5 (.int .u8) l false] k=F_coder_interval_lose_40a fuel a b d e f g h i j l (fun r=>match r with | (n,o,p,q,s,t,u,v,w,x,m)=>k (.c (.int .u8 n),[.cells 163 (i6 o::.own 1::ctb (.int .u64 p::.int .u64 q::.own 2::i6 s::.int .u64 t::i6 u::.bool v::.bool w::[])),.vec 3 (.int .i64) x false,.vec 5 (.int .u8) m false])):=by
  kernel_rfl
theorem hG153_40a (fuel:Nat):GOK Try.prog (G153_40a fuel):=
  gok_nil
def spg153_40a (F:YF153_40a):Ev.Spec:=fun args objs k=>match args,objs with | [.c (.ptr d e)],[.cells f a,.vec g (.int .i64) h false,.vec i (.int .u8) j false]=>(match splitRun 2 ctn a with | some ([i6 l,.own m],[.int .u64 n,.int .u64 o,.own p,i6 q,.int .u64 s,i6 t,.bool u,.bool v])=>bif qb [d,e,f,g,i,m,p] [0,0,163,3,5,1,2] then F l n o q s t u v h j (fun r=>match r with | (w,x,y,z,A,B,C,D,E,G,b)=>k (.c (.int .u8 w),[.cells 163 (i6 x::.own 1::ctb (.int .u64 y::.int .u64 z::.own 2::i6 A::.int .u64 B::i6 C::.bool D::.bool E::[])),.vec 3 (.int .i64) G false,.vec 5 (.int .u8) b false])) else none | _=>none) | _,_=>none
theorem ok153_40a (fuel:Nat):FnOK Try.prog 153 (spg153_40a (F_coder_interval_lose_40a fuel)):=by
  intro args objs kk r h
  unfold spg153_40a at h
  split at h
  · skip
    split at h
    rotate_left 1
    · cases h
    rename_i hsp
    have esp:=splitRun_eq hsp
    subst esp
    obtain ⟨hb,h⟩:=cond_some' h
    cases qb_eq hb
    exact fo0 (hG153_40a fuel) Try.func153 rfl (by kernel_rfl) _ _ kk r ((F153_40a_eq fuel _ _ _ _ _ _ _ _ _ _ kk).trans h)
  · cases h
def kp151_aa3 (i:Nat):Option (List Nat):=Ev.look i [(200001,[0])]
def Gg151_aa3 (a:YF180_bb9) (f:Nat):Option Ev.Spec:=Ev.look f [(180,spg180_bb9 a)]
def G151_aa3 (fuel:Nat):Nat→Option Ev.Spec:=Gg151_aa3 (F_coder_table_chance_bb9 fuel)
def Fg_coder_interval_mid_aa3 (fuel:Nat) (g:YF180_bb9) (b e:Int) (a c:Int) (i j k:Int) (l m:Bool) (d h:LI) (k0:(Int×Int×Int×Int×Int×Int×Int×Bool×Bool×LI×LI)→OA):OA:=bif decide (0≤b∧b < (↑d.length:Int)) then (g e (d.getD b.toNat 0) (fun f=>k0 (u64.wrap (u64.wrap (a+u64.wrap (u64.wrap ((u64.wrap (c - a)).tdiv 4096)*u64.wrap f))+u64.wrap ((u64.wrap ((u64.wrap (c - a)).tmod 4096*u64.wrap f)).tdiv 4096)),e,a,c,i,j,k,l,m,d,h))) else none
abbrev YF151_aa3:Type:=Int→Int→Int→Int→Int→Int→Int→Bool→Bool→LI→LI→((Int×Int×Int×Int×Int×Int×Int×Bool×Bool×LI×LI)→Option Ans)→Option Ans
def F_coder_interval_mid_aa3 (fuel:Nat):YF151_aa3:=Fg_coder_interval_mid_aa3 fuel (F_coder_table_chance_bb9 fuel)
theorem F151_aa3_eqg (fuel:Nat) (a:YF180_bb9) (d e:Int) (f g:Int) (h i j:Int) (l m:Bool) (n b:LI) (k:Ev.Cont):evalFn tab (Gg151_aa3 a) J0 kp151_aa3 fuel Try.f151 [.c (.ptr 0 0),.c (i6 d)] [.cells 163 (i6 e::.own 1::ctb (.int .u64 f::.int .u64 g::.own 2::i6 h::.int .u64 i::i6 j::.bool l::.bool m::[])),.vec 3 (.int .i64) n false,.vec 5 (.int .u8) b false] k=Fg_coder_interval_mid_aa3 fuel a d e f g h i j l m n b (fun r=>match r with | (p,q,s,t,u,v,w,x,y,z,o)=>k (.c (.int .u64 p),[.cells 163 (i6 q::.own 1::ctb (.int .u64 s::.int .u64 t::.own 2::i6 u::.int .u64 v::i6 w::.bool x::.bool y::[])),.vec 3 (.int .i64) z false,.vec 5 (.int .u8) o false])):=by
  kernel_rfl
theorem hG151_aa3 (fuel:Nat):GOK Try.prog (G151_aa3 fuel):=
  gc (ok180_bb9 fuel) Try.func180 (by kernel_rfl) rfl <|
  gok_nil
def spg151_aa3 (F:YF151_aa3):Ev.Spec:=fun args objs k=>match args,objs with | [.c (.ptr e f),.c (i6 g)],[.cells h a,.vec i (.int .i64) j false,.vec l (.int .u8) b false]=>(match splitRun 2 ctn a with | some ([i6 m,.own n],[.int .u64 o,.int .u64 p,.own q,i6 s,.int .u64 t,i6 u,.bool v,.bool w])=>bif qb [e,f,h,i,l,n,q] [0,0,163,3,5,1,2] then F g m o p s t u v w j b (fun r=>match r with | (x,y,z,A,B,C,D,E,G,H,d)=>k (.c (.int .u64 x),[.cells 163 (i6 y::.own 1::ctb (.int .u64 z::.int .u64 A::.own 2::i6 B::.int .u64 C::i6 D::.bool E::.bool G::[])),.vec 3 (.int .i64) H false,.vec 5 (.int .u8) d false])) else none | _=>none) | _,_=>none
theorem ok151_aa3 (fuel:Nat):FnOK Try.prog 151 (spg151_aa3 (F_coder_interval_mid_aa3 fuel)):=by
  intro args objs kk r h
  unfold spg151_aa3 at h
  split at h
  · skip
    split at h
    rotate_left 1
    · cases h
    rename_i hsp
    have esp:=splitRun_eq hsp
    subst esp
    obtain ⟨hb,h⟩:=cond_some' h
    cases qb_eq hb
    exact fo0 (hG151_aa3 fuel) Try.func151 rfl (by kernel_rfl) _ _ kk r ((F151_aa3_eqg fuel (F_coder_table_chance_bb9 fuel) _ _ _ _ _ _ _ _ _ _ _ kk).trans h)
  · cases h
def kp152_40a (i:Nat):Option (List Nat):=Ev.look i [(200001,[0])]
def Gg152_40a (f:Nat):Option Ev.Spec:=Ev.look f []
def G152_40a (fuel:Nat):Nat→Option Ev.Spec:=Gg152_40a
def F_coder_interval_same_40a (fuel:Nat) (c a:Int) (b d:Int) (e f:Int) (g h:Bool) (i j:(List Int)) (k0:(Bool×Int×Int×Int×Int×Int×Int×Bool×Bool×(List Int)×(List Int))→Option Ans):Option Ans:=k0 (Ev.ishr IntKind.u64 a 24==Ev.ishr IntKind.u64 b 24,c,a,b,d,e,f,g,h,i,j)
abbrev YF152_40a:Type:=Int→Int→Int→Int→Int→Int→Bool→Bool→LI→LI→((Bool×Int×Int×Int×Int×Int×Int×Bool×Bool×LI×LI)→Option Ans)→Option Ans
theorem F152_40a_eq (fuel:Nat) (a b:Int) (d e:Int) (f g:Int) (h i:Bool) (j l:LI) (k:Ev.Cont):evalFn tab (G152_40a fuel) J0 kp152_40a fuel Try.f152 [.c (.ptr 0 0)] [.cells 163 (i6 a::.own 1::ctb (.int .u64 b::.int .u64 d::.own 2::i6 e::.int .u64 f::i6 g::.bool h::.bool i::[])),.vec 3 (.int .i64) j false,.vec 5 (.int .u8) l false] k=F_coder_interval_same_40a fuel a b d e f g h i j l (fun r=>match r with | (n,o,p,q,s,t,u,v,w,x,m)=>k (.c (.bool n),[.cells 163 (i6 o::.own 1::ctb (.int .u64 p::.int .u64 q::.own 2::i6 s::.int .u64 t::i6 u::.bool v::.bool w::[])),.vec 3 (.int .i64) x false,.vec 5 (.int .u8) m false])):=by
  kernel_rfl
theorem hG152_40a (fuel:Nat):GOK Try.prog (G152_40a fuel):=
  gok_nil
def spg152_40a (F:YF152_40a):Ev.Spec:=fun args objs k=>match args,objs with | [.c (.ptr d e)],[.cells f a,.vec g (.int .i64) h false,.vec i (.int .u8) j false]=>(match splitRun 2 ctn a with | some ([i6 l,.own m],[.int .u64 n,.int .u64 o,.own p,i6 q,.int .u64 s,i6 t,.bool u,.bool v])=>bif qb [d,e,f,g,i,m,p] [0,0,163,3,5,1,2] then F l n o q s t u v h j (fun r=>match r with | (w,x,y,z,A,B,C,D,E,G,b)=>k (.c (.bool w),[.cells 163 (i6 x::.own 1::ctb (.int .u64 y::.int .u64 z::.own 2::i6 A::.int .u64 B::i6 C::.bool D::.bool E::[])),.vec 3 (.int .i64) G false,.vec 5 (.int .u8) b false])) else none | _=>none) | _,_=>none
theorem ok152_40a (fuel:Nat):FnOK Try.prog 152 (spg152_40a (F_coder_interval_same_40a fuel)):=by
  intro args objs kk r h
  unfold spg152_40a at h
  split at h
  · skip
    split at h
    rotate_left 1
    · cases h
    rename_i hsp
    have esp:=splitRun_eq hsp
    subst esp
    obtain ⟨hb,h⟩:=cond_some' h
    cases qb_eq hb
    exact fo0 (hG152_40a fuel) Try.func152 rfl (by kernel_rfl) _ _ kk r ((F152_40a_eq fuel _ _ _ _ _ _ _ _ _ _ kk).trans h)
  · cases h
def kp150_7ec (i:Nat):Option (List Nat):=Ev.look i [(200003,[0])]
def Gg150_7ec (a:YF179) (f:Nat):Option Ev.Spec:=Ev.look f [(179,spg179 a)]
def G150_7ec (fuel:Nat):Nat→Option Ev.Spec:=Gg150_7ec (F_coder_next fuel)
def Fg_coder_interval_take_7ec (fuel:Nat) (f:YF179) (a d:Int) (i c:Int) (n o:Int) (j k l:Int) (m g:Bool) (b h:LI) (k0:(Int×Int×Int×Int×Int×Int×Bool×Bool×LI×LI)→OA):OA:=bif d==1 then bif decide (0≤a∧a < (↑b.length:Int)) then (f c (b.getD a.toNat 0) d (fun e=>bif decide (0≤a∧a < (↑b.length:Int)) then k0 (c,n,i,j,k,l,m,g,b.set a.toNat e,h) else none)) else none else bif decide (0≤a∧a < (↑b.length:Int)) then (f c (b.getD a.toNat 0) d (fun e=>bif decide (0≤a∧a < (↑b.length:Int)) then k0 (c,u64.wrap (i+1),o,j,k,l,m,g,b.set a.toNat e,h) else none)) else none
abbrev YF150_7ec:Type:=Int→Int→Int→Int→Int→Int→Int→Int→Int→Bool→Bool→LI→LI→((Int×Int×Int×Int×Int×Int×Bool×Bool×LI×LI)→Option Ans)→Option Ans
def F_coder_interval_take_7ec (fuel:Nat):YF150_7ec:=Fg_coder_interval_take_7ec fuel (F_coder_next fuel)
theorem F150_7ec_eqg (fuel:Nat) (a:YF179) (f g:Int) (h i:Int) (j l:Int) (m n o:Int) (p b:Bool) (d e:LI) (k:Ev.Cont):evalFn tab (Gg150_7ec a) J0 kp150_7ec fuel Try.f150 [.c (.ptr 0 0),.c (i6 f),.c (i6 g),.c (.int .u64 h)] [.cells 163 (i6 i::.own 1::ctb (.int .u64 j::.int .u64 l::.own 2::i6 m::.int .u64 n::i6 o::.bool p::.bool b::[])),.vec 3 (.int .i64) d false,.vec 5 (.int .u8) e false] k=Fg_coder_interval_take_7ec fuel a f g h i j l m n o p b d e (fun r=>match r with | (q,s,t,u,v,w,x,y,z,A)=>k (.tup [],[.cells 163 (i6 q::.own 1::ctb (.int .u64 s::.int .u64 t::.own 2::i6 u::.int .u64 v::i6 w::.bool x::.bool y::[])),.vec 3 (.int .i64) z false,.vec 5 (.int .u8) A false])):=by
  kernel_rfl
theorem hG150_7ec (fuel:Nat):GOK Try.prog (G150_7ec fuel):=
  gc (ok179 fuel) Try.func179 (by kernel_rfl) rfl <|
  gok_nil
def spg150_7ec (F:YF150_7ec):Ev.Spec:=fun args objs k=>match args,objs with | [.c (.ptr f g),.c (i6 h),.c (i6 i),.c (.int .u64 j)],[.cells l a,.vec m (.int .i64) b false,.vec n (.int .u8) d false]=>(match splitRun 2 ctn a with | some ([i6 o,.own p],[.int .u64 q,.int .u64 s,.own t,i6 u,.int .u64 v,i6 w,.bool x,.bool e])=>bif qb [f,g,l,m,n,p,t] [0,0,163,3,5,1,2] then F h i j o q s u v w x e b d (fun r=>match r with | (y,z,A,B,C,D,E,G,H,I)=>k (.tup [],[.cells 163 (i6 y::.own 1::ctb (.int .u64 z::.int .u64 A::.own 2::i6 B::.int .u64 C::i6 D::.bool E::.bool G::[])),.vec 3 (.int .i64) H false,.vec 5 (.int .u8) I false])) else none | _=>none) | _,_=>none
theorem ok150_7ec (fuel:Nat):FnOK Try.prog 150 (spg150_7ec (F_coder_interval_take_7ec fuel)):=by
  intro args objs kk r h
  unfold spg150_7ec at h
  split at h
  · skip
    split at h
    rotate_left 1
    · cases h
    rename_i hsp
    have esp:=splitRun_eq hsp
    subst esp
    obtain ⟨hb,h⟩:=cond_some' h
    cases qb_eq hb
    exact fo0 (hG150_7ec fuel) Try.func150 rfl (by kernel_rfl) _ _ kk r ((F150_7ec_eqg fuel (F_coder_next fuel) _ _ _ _ _ _ _ _ _ _ _ _ _ kk).trans h)
  · cases h
def kp136_aa3 (i:Nat):Option (List Nat):=Ev.look i [(12,[0,1,6,8,9]),(100001,[0,1,6,8,9]),(200010,[0]),(400001,[4,5])]
def Gg136_aa3 (a:YF112_40a) (b:YF150_7ec) (c:YF151_aa3) (d:YF152_40a) (e:YF153_40a) (g:YF173_40a) (f:Nat):Option Ev.Spec:=Ev.look f [(112,spg112_40a a),(150,spg150_7ec b),(151,spg151_aa3 c),(152,spg152_40a d),(153,spg153_40a e),(173,spg173_40a g)]
def G136_aa3 (fuel:Nat):Nat→Option Ev.Spec:=Gg136_aa3 (F_coder_Decoder_shift_40a fuel) (F_coder_interval_take_7ec fuel) (F_coder_interval_mid_aa3 fuel) (F_coder_interval_same_40a fuel) (F_coder_interval_lose_40a fuel) (F_coder_Decoder_none_40a fuel)
abbrev V_coder_Decoder_Get_aa3_1:Type:=Int×Int×Int×Int×Int×Int×Int×Int×Int×Bool×Bool×LI×LI×Int×Int×Int×Int×Int×Int×Bool×Bool
abbrev W_coder_Decoder_Get_aa3_1:Type:=(Int×Int×Int×Int×Int×Int×Int×Int×Int×Bool×Bool×LI×LI×Int×Int×Int×Int×Int×Int×Bool×Bool→OA)
def Sg_coder_Decoder_Get_aa3_1 (fuel:Nat) (x:YF112_40a) (a6:YF150_7ec) (a7:YF151_aa3) (y:YF152_40a) (z:YF153_40a) (a8:YF173_40a) (u v:Int) (w Z:Int) (a0 a1:Int) (a2 a3 a4:Int) (a5 W:Bool) (X Y:LI) (m n:Int) (o p:Int) (q r:Int) (s t:Bool) (c:V_coder_Decoder_Get_aa3_1→OA) (B:W_coder_Decoder_Get_aa3_1):OA:=match B with | b=>(y Z a0 a1 a2 a3 a4 a5 W X Y (fun (M,d,e,f,g,h,i,j,k,l,a)=>bif M then (z d e f g h i j k l a (fun (a9,N,O,P,Q,R,S,T,U,V,A)=>(x N O P Q R S T U V A (fun (C,D,E,F,G,H,I,J,K,L)=>c (u,v,w,C,D,E,F,G,H,I,J,K,L,m,n,o,p,q,r,s,t))))) else b (u,v,w,d,e,f,g,h,i,j,k,l,a,m,n,o,p,q,r,s,t)))
def S_coder_Decoder_Get_aa3_1 (fuel:Nat) (v:Int×Int×Int×Int×Int×Int×Int×Int×Int×Bool×Bool×(List Int)×(List Int)×Int×Int×Int×Int×Int×Int×Bool×Bool) (c:(Int×Int×Int×Int×Int×Int×Int×Int×Int×Bool×Bool×(List Int)×(List Int)×Int×Int×Int×Int×Int×Int×Bool×Bool)→Option Ans) (B:(Int×Int×Int×Int×Int×Int×Int×Int×Int×Bool×Bool×(List Int)×(List Int)×Int×Int×Int×Int×Int×Int×Bool×Bool→Option Ans)):Option Ans:=match v with | (m,n,o,p,q,r,s,t,u,w,a,b,d,e,f,g,h,i,j,k,l)=>Sg_coder_Decoder_Get_aa3_1 fuel (F_coder_Decoder_shift_40a fuel) (F_coder_interval_take_7ec fuel) (F_coder_interval_mid_aa3 fuel) (F_coder_interval_same_40a fuel) (F_coder_interval_lose_40a fuel) (F_coder_Decoder_none_40a fuel) m n o p q r s t u w a b d e f g h i j k l c B
def L_coder_Decoder_Get_aa3_1 (fuel:Nat) (v:V_coder_Decoder_Get_aa3_1) (b:W_coder_Decoder_Get_aa3_1):Option Ans:=iter (S_coder_Decoder_Get_aa3_1 fuel) fuel v b
def T136_aa3_1 (v:V_coder_Decoder_Get_aa3_1):Ev.St:=match v with | (m,n,o,p,q,r,s,t,u,w,a,b,d,e,f,g,h,i,j,k,l)=>⟨[(0,.c (.ptr 0 0)),(1,.c (i6 m)),(6,.c (i6 n)),(8,.c (.ptr 3 0)),(9,.c (i6 o))],[(0,.cells 163 (i6 p::.own 1::ctb (.int .u64 q::.int .u64 r::.own 2::i6 s::.int .u64 t::i6 u::.bool w::.bool a::[]))),(1,.vec 3 (.int .i64) b false),(2,.vec 5 (.int .u8) d false),(3,.cells 163 (i6 e::.own 1::ctb (.int .u64 f::.int .u64 g::.own 2::i6 h::.int .u64 i::i6 j::.bool k::.bool l::[])))],4,3⟩
def E136_aa3_1 (K:KT):W_coder_Decoder_Get_aa3_1:=(fun v=>match v with | (m,n,o,p,q,r,s,t,u,w,a,b,d,e,f,g,h,i,j,k,l)=>K .normal ⟨[(0,.c (.ptr 0 0)),(1,.c (i6 m)),(6,.c (i6 n)),(8,.c (.ptr 3 0)),(9,.c (i6 o))],[(0,.cells 163 (i6 p::.own 1::ctb (.int .u64 q::.int .u64 r::.own 2::i6 s::.int .u64 t::i6 u::.bool w::.bool a::[]))),(1,.vec 3 (.int .i64) b false),(2,.vec 5 (.int .u8) d false),(3,.cells 163 (i6 e::.own 1::ctb (.int .u64 f::.int .u64 g::.own 2::i6 h::.int .u64 i::i6 j::.bool k::.bool l::[])))],4,3⟩)
theorem S136_aa3_1_okg (fuel:Nat) (a:YF112_40a) (b:YF150_7ec) (c:YF151_aa3) (d:YF152_40a) (e:YF153_40a) (f:YF173_40a) (R:Ev.St→OA) (K:KT) (r s:Int) (t u:Int) (w x:Int) (y z A:Int) (B g:Bool) (h i:LI) (j k:Int) (l m:Int) (n o:Int) (p q:Bool):evalCode tab (Gg136_aa3 a b c d e f) J0 kp136_aa3 fuel (bodyOf 1 Try.f136) (T136_aa3_1 (r,s,t,u,w,x,y,z,A,B,g,h,i,j,k,l,m,n,o,p,q)) (lc kp136_aa3 12 1 R K)=Sg_coder_Decoder_Get_aa3_1 fuel a b c d e f r s t u w x y z A B g h i j k l m n o p q (fun v=>R (T136_aa3_1 v)) (E136_aa3_1 K):=by
  kernel_rfl
def B136_aa3_1 (fuel:Nat):Ev.Blk:=fun st K=>match canonO (kp136_aa3 12) st with | some s=>(match s with | ⟨[(C,.c (.ptr D E)),(F,.c (i6 G)),(H,.c (i6 I)),(J,.c (.ptr L M)),(N,.c (i6 O))],[(P,.cells a b),(d,.vec e (.int .i64) f false),(g,.vec h (.int .u8) i false),(j,.cells k l)],m,n⟩=>(match splitRun 2 ctn b with | some ([i6 Q,.own o],[.int .u64 R,.int .u64 S,.own p,i6 T,.int .u64 U,i6 V,.bool W,.bool q])=>(match splitRun 2 ctn l with | some ([i6 r,.own t],[.int .u64 u,.int .u64 v,.own w,i6 x,.int .u64 y,i6 z,.bool A,.bool B])=>bif qb [C,D,E,F,H,J,L,M,N,P,a,d,e,g,h,j,k,m,n,o,p,t,w] [0,0,0,1,6,8,3,0,9,0,163,1,3,2,5,3,163,4,3,1,2,1,2] then iter (S_coder_Decoder_Get_aa3_1 fuel) fuel (G,I,O,Q,R,S,T,U,V,W,q,f,i,r,u,v,x,y,z,A,B) (E136_aa3_1 K) else none | _=>none) | _=>none) | _=>none) | none=>none
theorem B136_aa3_1_ok (fuel:Nat) (st:Ev.St) (K:KT) (r:Ans) (h:B136_aa3_1 fuel st K=some r):evalCode tab (G136_aa3 fuel) J0 kp136_aa3 fuel (.block 1 (.loop (bodyOf 1 Try.f136))) st K=some r:=by
  unfold B136_aa3_1 at h
  split at h
  · rename_i s hs
    split at h
    · skip
      split at h
      rotate_left 1
      · cases h
      rename_i hsp
      have esp:=splitRun_eq hsp
      subst esp
      split at h
      rotate_left 1
      · cases h
      rename_i hsp
      have esp:=splitRun_eq hsp
      subst esp
      obtain ⟨hb,h⟩:=cond_some' h
      cases qb_eq hb
      exact blk_loop (S:=T136_aa3_1) (ks:=E136_aa3_1) (step:=S_coder_Decoder_Get_aa3_1 fuel) (v:=(_,_,_,_,_,_,_,_,_,_,_,_,_,_,_,_,_,_,_,_,_)) (by kernel_rfl) (by kernel_rfl) (fun R K v=>by obtain ⟨m,n,o,p,q,t,u,w,x,y,a,b,c,d,e,f,g,i,j,k,l⟩:=v; exact S136_aa3_1_okg fuel (F_coder_Decoder_shift_40a fuel) (F_coder_interval_take_7ec fuel) (F_coder_interval_mid_aa3 fuel) (F_coder_interval_same_40a fuel) (F_coder_interval_lose_40a fuel) (F_coder_Decoder_none_40a fuel) R K m n o p q t u w x y a b c d e f g i j k l) hs h
    · cases h
  · cases h
def J136_aa3 (fuel:Nat) (i:Nat):Option Ev.Blk:=Ev.look i [(100001,B136_aa3_1 fuel)]
def Fg_coder_Decoder_Get_aa3 (fuel:Nat) (c5:YF112_40a) (P:YF150_7ec) (b2:YF151_aa3) (c6:YF152_40a) (c7:YF153_40a) (b3:YF173_40a) (a b6:Int) (b7 b8:Int) (b9 c0 c1:Int) (c2 c3:Bool) (c4 b5:LI) (k0:(Int×Int×Int×Int×Int×Int×Int×Int×Bool×Bool×LI×LI)→OA):OA:=(b3 b6 b7 b8 b9 c0 c1 c2 c3 c4 b5 (fun (b4,V,W,X,Y,Z,a0,R,a1,S,T)=>bif b4 then k0 (0,7,V,W,X,Y,Z,a0,R,a1,S,T) else bif decide (a < 0) then k0 (0,2,V,W,X,Y,Z,a0,R,a1,S,T) else bif decide (a≥(↑S.length:Int)) then k0 (0,2,V,W,X,Y,Z,a0,R,a1,S,T) else bif R then k0 (0,6,V,W,X,Y,Z,a0,R,a1,S,T) else (b2 a V W X Y Z a0 R a1 S T (fun (E,h,i,j,k,g,l,m,n,f,Q)=>bif decide (g≤E) then bif decide (0≤a∧a < (↑f.length:Int)) then both ((P a (1) E h i j k g l m n f Q (fun (a2,a3,a4,a5,a6,a7,a8,a9,b0,b1)=>(L_coder_Decoder_Get_aa3_1 fuel (a,1,f.getD a.toNat 0,a2,a3,a4,a5,a6,a7,a8,a9,b0,b1,h,i,j,k,g,l,m,n) (fun (c,w,x,y,z,A,B,C,e,D,o,b,d,p,q,r,s,t,u,U,v)=>bif decide (e > 4) then bif decide (0≤c∧c < (↑b.length:Int)) then k0 (0,6,p,q,r,s,t,u,true,v,b.set c.toNat x,d) else none else k0 (w,0,y,z,A,B,C,e,D,o,b,d)))))) (both ((P a (1) E h i j k g l m n f Q (fun (F,G,H,I,J,K,L,M,N,O)=>(L_coder_Decoder_Get_aa3_1 fuel (a,1,f.getD a.toNat 0,F,G,H,I,J,K,L,M,N,O,h,i,j,k,g,l,m,n) (fun (c,w,x,y,z,A,B,C,e,D,o,b,d,p,q,r,s,t,u,U,v)=>bif decide (e > 4) then bif decide (0≤c∧c < (↑b.length:Int)) then k0 (0,6,p,q,r,s,t,u,true,v,b.set c.toNat x,d) else none else k0 (w,0,y,z,A,B,C,e,D,o,b,d)))))) ((P a (1) E h i j k g l m n f Q (fun (F,G,H,I,J,K,L,M,N,O)=>(L_coder_Decoder_Get_aa3_1 fuel (a,1,f.getD a.toNat 0,F,G,H,I,J,K,L,M,N,O,h,i,j,k,g,l,m,n) (fun (c,w,x,y,z,A,B,C,e,D,o,b,d,p,q,r,s,t,u,U,v)=>bif decide (e > 4) then bif decide (0≤c∧c < (↑b.length:Int)) then k0 (0,6,p,q,r,s,t,u,true,v,b.set c.toNat x,d) else none else k0 (w,0,y,z,A,B,C,e,D,o,b,d))))))) else none else bif decide (0≤a∧a < (↑f.length:Int)) then both ((P a (0) E h i j k g l m n f Q (fun (a2,a3,a4,a5,a6,a7,a8,a9,b0,b1)=>(L_coder_Decoder_Get_aa3_1 fuel (a,0,f.getD a.toNat 0,a2,a3,a4,a5,a6,a7,a8,a9,b0,b1,h,i,j,k,g,l,m,n) (fun (c,w,x,y,z,A,B,C,e,D,o,b,d,p,q,r,s,t,u,U,v)=>bif decide (e > 4) then bif decide (0≤c∧c < (↑b.length:Int)) then k0 (0,6,p,q,r,s,t,u,true,v,b.set c.toNat x,d) else none else k0 (w,0,y,z,A,B,C,e,D,o,b,d)))))) (both ((P a (0) E h i j k g l m n f Q (fun (F,G,H,I,J,K,L,M,N,O)=>(L_coder_Decoder_Get_aa3_1 fuel (a,0,f.getD a.toNat 0,F,G,H,I,J,K,L,M,N,O,h,i,j,k,g,l,m,n) (fun (c,w,x,y,z,A,B,C,e,D,o,b,d,p,q,r,s,t,u,U,v)=>bif decide (e > 4) then bif decide (0≤c∧c < (↑b.length:Int)) then k0 (0,6,p,q,r,s,t,u,true,v,b.set c.toNat x,d) else none else k0 (w,0,y,z,A,B,C,e,D,o,b,d)))))) ((P a (0) E h i j k g l m n f Q (fun (F,G,H,I,J,K,L,M,N,O)=>(L_coder_Decoder_Get_aa3_1 fuel (a,0,f.getD a.toNat 0,F,G,H,I,J,K,L,M,N,O,h,i,j,k,g,l,m,n) (fun (c,w,x,y,z,A,B,C,e,D,o,b,d,p,q,r,s,t,u,U,v)=>bif decide (e > 4) then bif decide (0≤c∧c < (↑b.length:Int)) then k0 (0,6,p,q,r,s,t,u,true,v,b.set c.toNat x,d) else none else k0 (w,0,y,z,A,B,C,e,D,o,b,d))))))) else none))))
abbrev YF136_aa3:Type:=Int→Int→Int→Int→Int→Int→Int→Bool→Bool→LI→LI→((Int×Int×Int×Int×Int×Int×Int×Int×Bool×Bool×LI×LI)→Option Ans)→Option Ans
def F_coder_Decoder_Get_aa3 (fuel:Nat):YF136_aa3:=Fg_coder_Decoder_Get_aa3 fuel (F_coder_Decoder_shift_40a fuel) (F_coder_interval_take_7ec fuel) (F_coder_interval_mid_aa3 fuel) (F_coder_interval_same_40a fuel) (F_coder_interval_lose_40a fuel) (F_coder_Decoder_none_40a fuel)
theorem F136_aa3_eqg (fuel:Nat) (a:YF112_40a) (b:YF150_7ec) (d:YF151_aa3) (e:YF152_40a) (f:YF153_40a) (g:YF173_40a) (i j:Int) (l m:Int) (n o p:Int) (q s:Bool) (t h:LI) (k:Ev.Cont):evalFn tab (Gg136_aa3 a b d e f g) (J136_aa3 fuel) kp136_aa3 fuel Try.f136 [.c (.ptr 0 0),.c (i6 i)] [.cells 163 (i6 j::.own 1::ctb (.int .u64 l::.int .u64 m::.own 2::i6 n::.int .u64 o::i6 p::.bool q::.bool s::[])),.vec 3 (.int .i64) t false,.vec 5 (.int .u8) h false] k=Fg_coder_Decoder_Get_aa3 fuel a b d e f g i j l m n o p q s t h (fun r=>match r with | (w,x,y,z,A,B,C,D,E,F,u,v)=>k (.tup [(false,[i6 w]),(false,[i6 x])],[.cells 163 (i6 y::.own 1::ctb (.int .u64 z::.int .u64 A::.own 2::i6 B::.int .u64 C::i6 D::.bool E::.bool F::[])),.vec 3 (.int .i64) u false,.vec 5 (.int .u8) v false])):=by
  kernel_rfl
theorem hG136_aa3 (fuel:Nat):GOK Try.prog (G136_aa3 fuel):=
  gc (ok112_40a fuel) Try.func112 (by kernel_rfl) rfl <|
  gc (ok150_7ec fuel) Try.func150 (by kernel_rfl) rfl <|
  gc (ok151_aa3 fuel) Try.func151 (by kernel_rfl) rfl <|
  gc (ok152_40a fuel) Try.func152 (by kernel_rfl) rfl <|
  gc (ok153_40a fuel) Try.func153 (by kernel_rfl) rfl <|
  gc (ok173_40a fuel) Try.func173 (by kernel_rfl) rfl <|
  gok_nil
theorem B136_aa3_1_blk (fuel:Nat):BlkOK Try.prog Try.f136.ntmps (.block 1 (.loop (bodyOf 1 Try.f136))) (B136_aa3_1 fuel):=bo0 (hG136_aa3 fuel) (by kernel_rfl) (by kernel_rfl) (B136_aa3_1_ok fuel)
def spg136_aa3 (F:YF136_aa3):Ev.Spec:=fun args objs k=>match args,objs with | [.c (.ptr f g),.c (i6 h)],[.cells i a,.vec j (.int .i64) l false,.vec m (.int .u8) b false]=>(match splitRun 2 ctn a with | some ([i6 n,.own o],[.int .u64 p,.int .u64 q,.own s,i6 t,.int .u64 u,i6 v,.bool w,.bool x])=>bif qb [f,g,i,j,m,o,s] [0,0,163,3,5,1,2] then F h n p q t u v w x l b (fun r=>match r with | (y,z,A,B,C,D,E,G,H,I,d,e)=>k (.tup [(false,[i6 y]),(false,[i6 z])],[.cells 163 (i6 A::.own 1::ctb (.int .u64 B::.int .u64 C::.own 2::i6 D::.int .u64 E::i6 G::.bool H::.bool I::[])),.vec 3 (.int .i64) d false,.vec 5 (.int .u8) e false])) else none | _=>none) | _,_=>none
def spec136_aa3 (fuel:Nat):Ev.Spec:=spg136_aa3 (F_coder_Decoder_Get_aa3 fuel)
theorem ok136_aa3 (fuel:Nat):FnOK Try.prog 136 (spec136_aa3 fuel):=by
  intro args objs kk r h
  unfold spec136_aa3 spg136_aa3 at h
  split at h
  · skip
    split at h
    rotate_left 1
    · cases h
    rename_i hsp
    have esp:=splitRun_eq hsp
    subst esp
    obtain ⟨hb,h⟩:=cond_some' h
    cases qb_eq hb
    exact fo1 (hG136_aa3 fuel) Try.func136 rfl (B136_aa3_1_blk fuel) (by kernel_rfl) _ _ kk r ((F136_aa3_eqg fuel (F_coder_Decoder_shift_40a fuel) (F_coder_interval_take_7ec fuel) (F_coder_interval_mid_aa3 fuel) (F_coder_interval_same_40a fuel) (F_coder_interval_lose_40a fuel) (F_coder_Decoder_none_40a fuel) _ _ _ _ _ _ _ _ _ _ _ kk).trans h)
  · cases h
def kp139_40a (i:Nat):Option (List Nat):=Ev.look i []
def Gg139_40a (b:YF148) (a:YF173_40a) (f:Nat):Option Ev.Spec:=Ev.look f [(148,spg148 b),(173,spg173_40a a)]
def G139_40a (fuel:Nat):Nat→Option Ev.Spec:=Gg139_40a (F_coder_clone fuel) (F_coder_Decoder_none_40a fuel)
def Fg_coder_Decoder_Model_40a (fuel:Nat) (l:YF148) (k:YF173_40a) (p q:Int) (r s:Int) (t u:Int) (v w:Bool) (x y:LI) (k0:(Int×Int×Int×Int×Int×Int×Int×Bool×Bool×LI×LI×LI)→OA):OA:=(k p q r s t u v w x y (fun (m,a,d,e,f,g,h,i,j,b,c)=>bif m then k0 (0,a,d,e,f,g,h,i,j,b,c,[]) else (l a b (fun (n,o)=>k0 (n,a,d,e,f,g,h,i,j,b,c,o)))))
abbrev YF139_40a:Type:=Int→Int→Int→Int→Int→Int→Bool→Bool→LI→LI→((Int×Int×Int×Int×Int×Int×Int×Bool×Bool×LI×LI×LI)→Option Ans)→Option Ans
def F_coder_Decoder_Model_40a (fuel:Nat):YF139_40a:=Fg_coder_Decoder_Model_40a fuel (F_coder_clone fuel) (F_coder_Decoder_none_40a fuel)
theorem F139_40a_eqg (fuel:Nat) (b:YF148) (a:YF173_40a) (d e:Int) (f g:Int) (h i:Int) (j l:Bool) (m n:LI) (k:Ev.Cont):evalFn tab (Gg139_40a b a) J0 kp139_40a fuel Try.f139 [.c (.ptr 0 0)] [.cells 163 (i6 d::.own 1::ctb (.int .u64 e::.int .u64 f::.own 2::i6 g::.int .u64 h::i6 i::.bool j::.bool l::[])),.vec 3 (.int .i64) m false,.vec 5 (.int .u8) n false] k=Fg_coder_Decoder_Model_40a fuel b a d e f g h i j l m n (fun r=>match r with | (q,s,t,u,v,w,x,y,z,A,o,p)=>k (.agg [i6 q,.own 3],[.cells 163 (i6 s::.own 1::ctb (.int .u64 t::.int .u64 u::.own 2::i6 v::.int .u64 w::i6 x::.bool y::.bool z::[])),.vec 3 (.int .i64) A false,.vec 5 (.int .u8) o false,.vec 3 (.int .i64) p true])):=by
  kernel_rfl
theorem hG139_40a (fuel:Nat):GOK Try.prog (G139_40a fuel):=
  gc (ok148 fuel) Try.func148 (by kernel_rfl) rfl <|
  gc (ok173_40a fuel) Try.func173 (by kernel_rfl) rfl <|
  gok_nil
def spg139_40a (F:YF139_40a):Ev.Spec:=fun args objs k=>match args,objs with | [.c (.ptr e f)],[.cells g a,.vec h (.int .i64) i false,.vec j (.int .u8) l false]=>(match splitRun 2 ctn a with | some ([i6 m,.own n],[.int .u64 o,.int .u64 p,.own q,i6 s,.int .u64 t,i6 u,.bool v,.bool w])=>bif qb [e,f,g,h,j,n,q] [0,0,163,3,5,1,2] then F m o p s t u v w i l (fun r=>match r with | (x,y,z,A,B,C,D,E,G,H,b,d)=>k (.agg [i6 x,.own 3],[.cells 163 (i6 y::.own 1::ctb (.int .u64 z::.int .u64 A::.own 2::i6 B::.int .u64 C::i6 D::.bool E::.bool G::[])),.vec 3 (.int .i64) H false,.vec 5 (.int .u8) b false,.vec 3 (.int .i64) d true])) else none | _=>none) | _,_=>none
def spec139_40a (fuel:Nat):Ev.Spec:=spg139_40a (F_coder_Decoder_Model_40a fuel)
theorem ok139_40a (fuel:Nat):FnOK Try.prog 139 (spec139_40a fuel):=by
  intro args objs kk r h
  unfold spec139_40a spg139_40a at h
  split at h
  · skip
    split at h
    rotate_left 1
    · cases h
    rename_i hsp
    have esp:=splitRun_eq hsp
    subst esp
    obtain ⟨hb,h⟩:=cond_some' h
    cases qb_eq hb
    exact fo0 (hG139_40a fuel) Try.func139 rfl (by kernel_rfl) _ _ kk r ((F139_40a_eqg fuel (F_coder_clone fuel) (F_coder_Decoder_none_40a fuel) _ _ _ _ _ _ _ _ _ _ kk).trans h)
  · cases h
end
end Go.Proofs.Ytipdidpalcmlhaa

