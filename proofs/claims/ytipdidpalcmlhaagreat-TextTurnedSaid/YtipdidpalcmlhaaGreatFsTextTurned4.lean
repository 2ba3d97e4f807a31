/- What the functions that TextTurned reaches do: their typed texts, each with the proof that the machine does it. No condition. -/
import Derived.Test.YtipdidpalcmlhaaGreatEvX
import Derived.Test.YtipdidpalcmlhaaGreatFsTextTurned3
import Derived.Test.YtipdidpalcmlhaaGreatFsTextTurned1
import Derived.Test.YtipdidpalcmlhaaGreatFsTextTurned2
set_option linter.unusedVariables false
set_option linter.unusedSimpArgs false
set_option linter.unusedSectionVars false
set_option linter.unusedVariables false
set_option linter.unusedSimpArgs false
set_option maxRecDepth 100000
set_option maxHeartbeats 2000000
namespace Go.Proofs.YtipdidpalcmlhaaGreat
open Go Ev
open Go.IntKind (i64 u64 u8 i32 u32 u16)
noncomputable section
def kp227_766 (i:Nat):Option (List Nat):=Ev.look i [(2,[0,1,7,8]),(100000,[]),(400000,[4])]
def Gg227_766 (a:YF164_e36) (f:Nat):Option Ev.Spec:=Ev.look f [(164,spg164_e36 a)]
def G227_766 (fuel:Nat):Nat→Option Ev.Spec:=Gg227_766 (F_text_right_1_e36 fuel)
abbrev V_slices_IndexFunc_api_Item_api_Item_766_0:Type:=(List (Int×(Int×(Int×(Bool×(Int×(Int×(Int×(Int×LI)))))))))×Int×Int×Int×Int×Bool×Int×Int×Int×Bool×Int×Int
abbrev W_slices_IndexFunc_api_Item_api_Item_766_0:Type:=(Int×Int×Int×Bool×Int×Int×Int×Bool×Int×Int→OA)×(Int×Int×Bool×Int×Int×Int×Bool×Int×Int→OA)
def Sg_slices_IndexFunc_api_Item_api_Item_766_0 (fuel:Nat) (x:YF164_e36) (d:(List (Int×(Int×(Int×(Bool×(Int×(Int×(Int×(Int×LI)))))))))) (p a:Int) (q r:Int) (s:Bool) (t u v:Int) (w:Bool) (n o:Int) (c:V_slices_IndexFunc_api_Item_api_Item_766_0→OA) (B:W_slices_IndexFunc_api_Item_api_Item_766_0):OA:=match B with | (ret,b)=>bif decide (a < p) then bif decide (0≤a∧a < (↑d.length:Int)) then (x ((d.getD a.toNat (0,0,0,false,0,0,0,0,[])).fst) ((d.getD a.toNat (0,0,0,false,0,0,0,0,[])).snd.fst) ((d.getD a.toNat (0,0,0,false,0,0,0,0,[])).snd.snd.fst) ((d.getD a.toNat (0,0,0,false,0,0,0,0,[])).snd.snd.snd.fst) ((d.getD a.toNat (0,0,0,false,0,0,0,0,[])).snd.snd.snd.snd.fst) ((d.getD a.toNat (0,0,0,false,0,0,0,0,[])).snd.snd.snd.snd.snd.fst) ((d.getD a.toNat (0,0,0,false,0,0,0,0,[])).snd.snd.snd.snd.snd.snd.fst) ((d.getD a.toNat (0,0,0,false,0,0,0,0,[])).snd.snd.snd.snd.snd.snd.snd.fst) ((d.getD a.toNat (0,0,0,false,0,0,0,0,[])).snd.snd.snd.snd.snd.snd.snd.snd) q r s t u v w n o (fun (y,e,f,g,h,i,j,k,l,m)=>bif y then ret (a,e,f,g,h,i,j,k,l,m) else c (d,p,i64.wrap (a+1),e,f,g,h,i,j,k,l,m))) else none else b (q,r,s,t,u,v,w,n,o)
def S_slices_IndexFunc_api_Item_api_Item_766_0 (fuel:Nat) (v:(List (Int×(Int×(Int×(Bool×(Int×(Int×(Int×(Int×(List Int))))))))))×Int×Int×Int×Int×Bool×Int×Int×Int×Bool×Int×Int) (c:((List (Int×(Int×(Int×(Bool×(Int×(Int×(Int×(Int×(List Int))))))))))×Int×Int×Int×Int×Bool×Int×Int×Int×Bool×Int×Int)→Option Ans) (B:(Int×Int×Int×Bool×Int×Int×Int×Bool×Int×Int→Option Ans)×(Int×Int×Bool×Int×Int×Int×Bool×Int×Int→Option Ans)):Option Ans:=match v with | (d,e,f,g,h,i,j,k,l,m,a,b)=>Sg_slices_IndexFunc_api_Item_api_Item_766_0 fuel (F_text_right_1_e36 fuel) d e f g h i j k l m a b c B
def L_slices_IndexFunc_api_Item_api_Item_766_0 (fuel:Nat) (v:V_slices_IndexFunc_api_Item_api_Item_766_0) (ret:(Int×Int×Int×Bool×Int×Int×Int×Bool×Int×Int→Option Ans)) (b:(Int×Int×Bool×Int×Int×Int×Bool×Int×Int→Option Ans)):Option Ans:=iter (S_slices_IndexFunc_api_Item_api_Item_766_0 fuel) fuel v (ret,b)
def T227_766_0 (v:V_slices_IndexFunc_api_Item_api_Item_766_0):Ev.St:=match v with | (d,e,f,g,h,i,j,k,l,m,a,b)=>⟨[(0,.c (.sl (.pair (.int .i64) (.pair (.int .i64) (.pair (.int .i64) (.pair .bool (.pair (.int .i64) (.pair (.int .i64) (.pair (.int .i64) (.pair (.int .i64) (.sl (.int .u8)))))))))) d)),(1,.c (.clo 164 [0,1])),(7,.c (i6 e)),(8,.c (i6 f))],[(0,.cells 40 [i6 g,i6 h,.bool i,i6 j,i6 k,i6 l,.bool m,i6 a]),(1,.cells 3 [i6 b])],2,2⟩
def E227_766_0 (K:KT):W_slices_IndexFunc_api_Item_api_Item_766_0:=((fun v=>match v with | (a,b,d,e,f,g,h,i,j,k)=>K .ret ⟨[(4,.c (i6 a))],[(0,.cells 40 [i6 b,i6 d,.bool e,i6 f,i6 g,i6 h,.bool i,i6 j]),(1,.cells 3 [i6 k])],2,2⟩),(fun v=>match v with | (a,b,d,e,f,g,h,i,j)=>K .normal ⟨[],[(0,.cells 40 [i6 a,i6 b,.bool d,i6 e,i6 f,i6 g,.bool h,i6 i]),(1,.cells 3 [i6 j])],2,2⟩))
theorem S227_766_0_okg (fuel:Nat) (a:YF164_e36) (R:Ev.St→OA) (K:KT) (d:(List (Int×(Int×(Int×(Bool×(Int×(Int×(Int×(Int×LI)))))))))) (e f:Int) (g h:Int) (i:Bool) (j k l:Int) (m:Bool) (b c:Int):evalCode tab (Gg227_766 a) J0 kp227_766 fuel (bodyOf 0 Tryz.f227) (T227_766_0 (d,e,f,g,h,i,j,k,l,m,b,c)) (lc kp227_766 2 0 R K)=Sg_slices_IndexFunc_api_Item_api_Item_766_0 fuel a d e f g h i j k l m b c (fun v=>R (T227_766_0 v)) (E227_766_0 K):=by
  kernel_rfl
def B227_766_0 (fuel:Nat):Ev.Blk:=fun st K=>match canonO (kp227_766 2) st with | some s=>(match s with | ⟨[(g,.c (.sl (.pair (.int .i64) (.pair (.int .i64) (.pair (.int .i64) (.pair .bool (.pair (.int .i64) (.pair (.int .i64) (.pair (.int .i64) (.pair (.int .i64) (.sl (.int .u8)))))))))) h)),(i,.c (.clo j [k,l])),(m,.c (i6 n)),(o,.c (i6 p))],[(q,.cells r [i6 t,i6 u,.bool v,i6 w,i6 x,i6 y,.bool z,i6 a]),(A,.cells b [i6 d])],e,f⟩=>bif qb [g,i,j,k,l,m,o,q,r,A,b,e,f] [0,1,164,0,1,7,8,0,40,1,3,2,2] then iter (S_slices_IndexFunc_api_Item_api_Item_766_0 fuel) fuel (h,n,p,t,u,v,w,x,y,z,a,d) (E227_766_0 K) else none | _=>none) | none=>none
theorem B227_766_0_ok (fuel:Nat) (st:Ev.St) (K:KT) (r:Ans) (h:B227_766_0 fuel st K=some r):evalCode tab (G227_766 fuel) J0 kp227_766 fuel (.block 0 (.loop (bodyOf 0 Tryz.f227))) st K=some r:=by
  unfold B227_766_0 at h
  split at h
  · rename_i s hs
    split at h
    · skip
      obtain ⟨hb,h⟩:=cond_some' h
      cases qb_eq hb
      exact blk_loop (S:=T227_766_0) (ks:=E227_766_0) (step:=S_slices_IndexFunc_api_Item_api_Item_766_0 fuel) (v:=(_,_,_,_,_,_,_,_,_,_,_,_)) (by kernel_rfl) (by kernel_rfl) (fun R K v=>by obtain ⟨c,d,e,f,g,i,j,k,l,m,a,b⟩:=v; exact S227_766_0_okg fuel (F_text_right_1_e36 fuel) R K c d e f g i j k l m a b) hs h
    · cases h
  · cases h
def J227_766 (fuel:Nat) (i:Nat):Option Ev.Blk:=Ev.look i [(100000,B227_766_0 fuel)]
def Fg_slices_IndexFunc_api_Item_api_Item_766 (fuel:Nat) (t:YF164_e36) (a:(List (Int×(Int×(Int×(Bool×(Int×(Int×(Int×(Int×LI)))))))))) (k l:Int) (m:Bool) (n o p:Int) (q:Bool) (r s:Int) (k0:(Int×Int×Int×Bool×Int×Int×Int×Bool×Int×Int)→OA):OA:=(L_slices_IndexFunc_api_Item_api_Item_766_0 fuel (a,(↑a.length:Int),0,k,l,m,n,o,p,q,r,s) (fun (ret0_0,ret0_1,ret0_2,ret0_3,ret0_4,ret0_5,ret0_6,ret0_7,ret0_8,ret0_9)=>k0 (ret0_0,ret0_1,ret0_2,ret0_3,ret0_4,ret0_5,ret0_6,ret0_7,ret0_8,ret0_9)) (fun (b,c,d,e,f,g,h,i,j)=>k0 ((-1:Int),b,c,d,e,f,g,h,i,j)))
abbrev YF227_766:Type:=((List (Int×(Int×(Int×(Bool×(Int×(Int×(Int×(Int×LI))))))))))→Int→Int→Bool→Int→Int→Int→Bool→Int→Int→((Int×Int×Int×Bool×Int×Int×Int×Bool×Int×Int)→Option Ans)→Option Ans
def F_slices_IndexFunc_api_Item_api_Item_766 (fuel:Nat):YF227_766:=Fg_slices_IndexFunc_api_Item_api_Item_766 fuel (F_text_right_1_e36 fuel)
theorem F227_766_eqg (fuel:Nat) (a:YF164_e36) (b:(List (Int×(Int×(Int×(Bool×(Int×(Int×(Int×(Int×LI)))))))))) (d e:Int) (f:Bool) (g h i:Int) (j:Bool) (l m:Int) (k:Ev.Cont):evalFn tab (Gg227_766 a) (J227_766 fuel) kp227_766 fuel Tryz.f227 [.c (.sl (.pair (.int .i64) (.pair (.int .i64) (.pair (.int .i64) (.pair .bool (.pair (.int .i64) (.pair (.int .i64) (.pair (.int .i64) (.pair (.int .i64) (.sl (.int .u8)))))))))) b),.c (.clo 164 [0,1])] [.cells 40 [i6 d,i6 e,.bool f,i6 g,i6 h,i6 i,.bool j,i6 l],.cells 3 [i6 m]] k=Fg_slices_IndexFunc_api_Item_api_Item_766 fuel a b d e f g h i j l m (fun r=>match r with | (n,o,p,q,s,t,u,v,w,x)=>k (.c (i6 n),[.cells 40 [i6 o,i6 p,.bool q,i6 s,i6 t,i6 u,.bool v,i6 w],.cells 3 [i6 x]])):=by
  kernel_rfl
theorem hG227_766 (fuel:Nat):GOK Tryz.prog (G227_766 fuel):=
  gc (ok164_e36 fuel) Tryz.func164 (by kernel_rfl) rfl <|
  gok_nil
theorem B227_766_0_blk (fuel:Nat):BlkOK Tryz.prog Tryz.f227.ntmps (.block 0 (.loop (bodyOf 0 Tryz.f227))) (B227_766_0 fuel):=bo0 (hG227_766 fuel) (by kernel_rfl) (by kernel_rfl) (B227_766_0_ok fuel)
def spg227_766 (F:YF227_766):Ev.Spec:=fun args objs k=>match args,objs with | [.c (.sl (.pair (.int .i64) (.pair (.int .i64) (.pair (.int .i64) (.pair .bool (.pair (.int .i64) (.pair (.int .i64) (.pair (.int .i64) (.pair (.int .i64) (.sl (.int .u8)))))))))) a),.c (.clo b [d,e])],[.cells f [i6 g,i6 h,.bool i,i6 j,i6 l,i6 m,.bool n,i6 o],.cells p [i6 q]]=>bif qb [b,d,e,f,p] [164,0,1,40,3] then F a g h i j l m n o q (fun r=>match r with | (s,t,u,v,w,x,y,z,A,B)=>k (.c (i6 s),[.cells 40 [i6 t,i6 u,.bool v,i6 w,i6 x,i6 y,.bool z,i6 A],.cells 3 [i6 B]])) else none | _,_=>none
theorem ok227_766 (fuel:Nat):FnOK Tryz.prog 227 (spg227_766 (F_slices_IndexFunc_api_Item_api_Item_766 fuel)):=by
  intro args objs kk r h
  unfold spg227_766 at h
  split at h
  · skip
    obtain ⟨hb,h⟩:=cond_some' h
    cases qb_eq hb
    exact fo1 (hG227_766 fuel) Tryz.func227 rfl (B227_766_0_blk fuel) (by kernel_rfl) _ _ kk r ((F227_766_eqg fuel (F_text_right_1_e36 fuel) _ _ _ _ _ _ _ _ _ _ kk).trans h)
  · cases h
def kp161_766 (i:Nat):Option (List Nat):=Ev.look i []
def Gg161_766 (a:YF227_766) (f:Nat):Option Ev.Spec:=Ev.look f [(227,spg227_766 a)]
def G161_766 (fuel:Nat):Nat→Option Ev.Spec:=Gg161_766 (F_slices_IndexFunc_api_Item_api_Item_766 fuel)
def Fg_slices_ContainsFunc_api_Item_api_Item_766 (fuel:Nat) (a:YF227_766) (l:(List (Int×(Int×(Int×(Bool×(Int×(Int×(Int×(Int×LI)))))))))) (m n:Int) (o:Bool) (p q r:Int) (s:Bool) (t u:Int) (k0:(Bool×Int×Int×Bool×Int×Int×Int×Bool×Int×Int)→OA):OA:=(a l m n o p q r s t u (fun (b,c,d,e,f,g,h,i,j,k)=>k0 (decide (b≥0),c,d,e,f,g,h,i,j,k)))
abbrev YF161_766:Type:=((List (Int×(Int×(Int×(Bool×(Int×(Int×(Int×(Int×LI))))))))))→Int→Int→Bool→Int→Int→Int→Bool→Int→Int→((Bool×Int×Int×Bool×Int×Int×Int×Bool×Int×Int)→Option Ans)→Option Ans
def F_slices_ContainsFunc_api_Item_api_Item_766 (fuel:Nat):YF161_766:=Fg_slices_ContainsFunc_api_Item_api_Item_766 fuel (F_slices_IndexFunc_api_Item_api_Item_766 fuel)
theorem F161_766_eqg (fuel:Nat) (a:YF227_766) (b:(List (Int×(Int×(Int×(Bool×(Int×(Int×(Int×(Int×LI)))))))))) (d e:Int) (f:Bool) (g h i:Int) (j:Bool) (l m:Int) (k:Ev.Cont):evalFn tab (Gg161_766 a) J0 kp161_766 fuel Tryz.f161 [.c (.sl (.pair (.int .i64) (.pair (.int .i64) (.pair (.int .i64) (.pair .bool (.pair (.int .i64) (.pair (.int .i64) (.pair (.int .i64) (.pair (.int .i64) (.sl (.int .u8)))))))))) b),.c (.clo 164 [0,1])] [.cells 40 [i6 d,i6 e,.bool f,i6 g,i6 h,i6 i,.bool j,i6 l],.cells 3 [i6 m]] k=Fg_slices_ContainsFunc_api_Item_api_Item_766 fuel a b d e f g h i j l m (fun r=>match r with | (n,o,p,q,s,t,u,v,w,x)=>k (.c (.bool n),[.cells 40 [i6 o,i6 p,.bool q,i6 s,i6 t,i6 u,.bool v,i6 w],.cells 3 [i6 x]])):=by
  kernel_rfl
theorem hG161_766 (fuel:Nat):GOK Tryz.prog (G161_766 fuel):=
  gc (ok227_766 fuel) Tryz.func227 (by kernel_rfl) rfl <|
  gok_nil
def spg161_766 (F:YF161_766):Ev.Spec:=fun args objs k=>match args,objs with | [.c (.sl (.pair (.int .i64) (.pair (.int .i64) (.pair (.int .i64) (.pair .bool (.pair (.int .i64) (.pair (.int .i64) (.pair (.int .i64) (.pair (.int .i64) (.sl (.int .u8)))))))))) a),.c (.clo b [d,e])],[.cells f [i6 g,i6 h,.bool i,i6 j,i6 l,i6 m,.bool n,i6 o],.cells p [i6 q]]=>bif qb [b,d,e,f,p] [164,0,1,40,3] then F a g h i j l m n o q (fun r=>match r with | (s,t,u,v,w,x,y,z,A,B)=>k (.c (.bool s),[.cells 40 [i6 t,i6 u,.bool v,i6 w,i6 x,i6 y,.bool z,i6 A],.cells 3 [i6 B]])) else none | _,_=>none
theorem ok161_766 (fuel:Nat):FnOK Tryz.prog 161 (spg161_766 (F_slices_ContainsFunc_api_Item_api_Item_766 fuel)):=by
  intro args objs kk r h
  unfold spg161_766 at h
  split at h
  · skip
    obtain ⟨hb,h⟩:=cond_some' h
    cases qb_eq hb
    exact fo0 (hG161_766 fuel) Tryz.func161 rfl (by kernel_rfl) _ _ kk r ((F161_766_eqg fuel (F_slices_IndexFunc_api_Item_api_Item_766 fuel) _ _ _ _ _ _ _ _ _ _ kk).trans h)
  · cases h
def kp77 (i:Nat):Option (List Nat):=Ev.look i []
def Gg77 (a:YF161_766) (f:Nat):Option Ev.Spec:=Ev.look f [(161,spg161_766 a)]
def G77 (fuel:Nat):Nat→Option Ev.Spec:=Gg77 (F_slices_ContainsFunc_api_Item_api_Item_766 fuel)
def Fg_text_right (fuel:Nat) (c:YF161_766) (e f:Int) (g:Bool) (h i j:Int) (k:Bool) (l a:Int) (b:(List (Int×Int×Int×Bool×Int×Int×(Int×Int×LI)))) (k0:(Bool)→OA):OA:=bif decide (a≤60) then bif decide ((↑b.length:Int)≤300) then (c b e f g h i j k l a (fun (d,m,n,o,p,q,r,s,t,u)=>k0 !d)) else k0 false else k0 false
abbrev YF77:Type:=Int→Int→Bool→Int→Int→Int→Bool→Int→Int→((List (Int×Int×Int×Bool×Int×Int×(Int×Int×LI))))→(Bool→Option Ans)→Option Ans
def F_text_right (fuel:Nat):YF77:=Fg_text_right fuel (F_slices_ContainsFunc_api_Item_api_Item_766 fuel)
theorem F77_eqg (fuel:Nat) (a:YF161_766) (b d:Int) (e:Bool) (f g h:Int) (i:Bool) (j l:Int) (m:(List (Int×Int×Int×Bool×Int×Int×(Int×Int×LI)))) (k:Ev.Cont):evalFn tab (Gg77 a) J0 kp77 fuel Tryz.f77 [.agg [i6 b,i6 d,.bool e,i6 f,i6 g,i6 h,.bool i,i6 j],.c (i6 l),.c (.sl (.pair (.int .i64) (.pair (.int .i64) (.pair (.int .i64) (.pair .bool (.pair (.int .i64) (.pair (.int .i64) (.pair (.int .i64) (.pair (.int .i64) (.sl (.int .u8)))))))))) m)] [] k=Fg_text_right fuel a b d e f g h i j l m (fun r=>match r with | n=>k (.c (.bool n),[])):=by
  kernel_rfl
theorem hG77 (fuel:Nat):GOK Tryz.prog (G77 fuel):=
  gc (ok161_766 fuel) Tryz.func161 (by kernel_rfl) rfl <|
  gok_nil
def spg77 (F:YF77):Ev.Spec:=fun args objs k=>match args,objs with | [.agg [i6 a,i6 b,.bool d,i6 e,i6 f,i6 g,.bool h,i6 i],.c (i6 j),.c (.sl (.pair (.int .i64) (.pair (.int .i64) (.pair (.int .i64) (.pair .bool (.pair (.int .i64) (.pair (.int .i64) (.pair (.int .i64) (.pair (.int .i64) (.sl (.int .u8)))))))))) l)],[]=>F a b d e f g h i j l (fun r=>match r with | m=>k (.c (.bool m),[])) | _,_=>none
theorem ok77 (fuel:Nat):FnOK Tryz.prog 77 (spg77 (F_text_right fuel)):=by
  intro args objs kk r h
  unfold spg77 at h
  split at h
  · skip
    exact fo0 (hG77 fuel) Tryz.func77 rfl (by kernel_rfl) _ _ kk r ((F77_eqg fuel (F_slices_ContainsFunc_api_Item_api_Item_766 fuel) _ _ _ _ _ _ _ _ _ _ kk).trans h)
  · cases h
def kp229 (i:Nat):Option (List Nat):=Ev.look i []
def Gg229 (f:Nat):Option Ev.Spec:=Ev.look f []
def G229 (fuel:Nat):Nat→Option Ev.Spec:=Gg229
def F_refine_Valid (fuel:Nat) (d a b:Int) (e:Bool) (c:Int) (k0:(Bool)→Option Ans):Option Ans:=bif d==0 then bif c==0 then bif decide ((bif decide (b < a) then b else a)≥(-200:Int)) then k0 (decide (Ev.imax (Ev.imax (Ev.imax a (i64.wrap (0 - a))) b) (i64.wrap (0 - b))≤200)) else k0 false else bif c==1 then bif decide ((bif decide (b < a) then b else a)≥(-200:Int)) then k0 (decide (Ev.imax (Ev.imax (Ev.imax a (i64.wrap (0 - a))) b) (i64.wrap (0 - b))≤200)) else k0 false else k0 false else bif d==1 then bif c==0 then bif decide ((bif decide (b < a) then b else a)≥(-200:Int)) then k0 (decide (Ev.imax (Ev.imax (Ev.imax a (i64.wrap (0 - a))) b) (i64.wrap (0 - b))≤200)) else k0 false else bif c==1 then bif decide ((bif decide (b < a) then b else a)≥(-200:Int)) then k0 (decide (Ev.imax (Ev.imax (Ev.imax a (i64.wrap (0 - a))) b) (i64.wrap (0 - b))≤200)) else k0 false else k0 false else k0 false
abbrev YF229:Type:=Int→Int→Int→Bool→Int→(Bool→Option Ans)→Option Ans
theorem F229_eq (fuel:Nat) (a b d:Int) (e:Bool) (f:Int) (k:Ev.Cont):evalFn tab (G229 fuel) J0 kp229 fuel Tryz.f229 [.agg [i6 a,i6 b,i6 d,.bool e,i6 f]] [] k=F_refine_Valid fuel a b d e f (fun r=>match r with | g=>k (.c (.bool g),[])):=by
  kernel_rfl
theorem hG229 (fuel:Nat):GOK Tryz.prog (G229 fuel):=
  gok_nil
def spg229 (F:YF229):Ev.Spec:=fun args objs k=>match args,objs with | [.agg [i6 a,i6 b,i6 d,.bool e,i6 f]],[]=>F a b d e f (fun r=>match r with | g=>k (.c (.bool g),[])) | _,_=>none
theorem ok229 (fuel:Nat):FnOK Tryz.prog 229 (spg229 (F_refine_Valid fuel)):=by
  intro args objs kk r h
  unfold spg229 at h
  split at h
  · skip
    exact fo0 (hG229 fuel) Tryz.func229 rfl (by kernel_rfl) _ _ kk r ((F229_eq fuel _ _ _ _ _ kk).trans h)
  · cases h
def kp230 (i:Nat):Option (List Nat):=Ev.look i [(200001,[3,5])]
def Gg230 (a:YF228) (f:Nat):Option Ev.Spec:=Ev.look f [(228,spg228 a)]
def G230 (fuel:Nat):Nat→Option Ev.Spec:=Gg230 (F_refine_contexts fuel)
def Fg_refine_fits (fuel:Nat) (b:YF228) (f:Int) (c:LI) (a d:Int) (g h:Int) (i:Bool) (j:Int) (k0:(Bool)→OA):OA:=bif decide (a≥0) then (b d (fun e=>k0 (decide (a≤i64.wrap (i64.wrap ((↑c.length:Int) - e) - 1))))) else k0 false
abbrev YF230:Type:=Int→LI→Int→Int→Int→Int→Bool→Int→(Bool→Option Ans)→Option Ans
def F_refine_fits (fuel:Nat):YF230:=Fg_refine_fits fuel (F_refine_contexts fuel)
theorem F230_eqg (fuel:Nat) (a:YF228) (b:Int) (d:LI) (e f:Int) (g h:Int) (i:Bool) (j:Int) (k:Ev.Cont):evalFn tab (Gg230 a) J0 kp230 fuel Tryz.f230 [.agg [i6 b,.sl (.int .i64) d],.c (i6 e),.agg [i6 f,i6 g,i6 h,.bool i,i6 j]] [] k=Fg_refine_fits fuel a b d e f g h i j (fun r=>match r with | l=>k (.c (.bool l),[])):=by
  kernel_rfl
theorem hG230 (fuel:Nat):GOK Tryz.prog (G230 fuel):=
  gc (ok228 fuel) Tryz.func228 (by kernel_rfl) rfl <|
  gok_nil
def spg230 (F:YF230):Ev.Spec:=fun args objs k=>match args,objs with | [.agg [i6 a,.sl (.int .i64) b],.c (i6 d),.agg [i6 e,i6 f,i6 g,.bool h,i6 i]],[]=>F a b d e f g h i (fun r=>match r with | j=>k (.c (.bool j),[])) | _,_=>none
theorem ok230 (fuel:Nat):FnOK Tryz.prog 230 (spg230 (F_refine_fits fuel)):=by
  intro args objs kk r h
  unfold spg230 at h
  split at h
  · skip
    exact fo0 (hG230 fuel) Tryz.func230 rfl (by kernel_rfl) _ _ kk r ((F230_eqg fuel (F_refine_contexts fuel) _ _ _ _ _ _ _ _ kk).trans h)
  · cases h
def kp235 (i:Nat):Option (List Nat):=Ev.look i []
def Gg235 (f:Nat):Option Ev.Spec:=Ev.look f []
def G235 (fuel:Nat):Nat→Option Ev.Spec:=Gg235
def F_refine_grid_at (fuel:Nat) (c e:Int) (d:(List Int)) (a b:Int) (k0:(Int)→Option Ans):Option Ans:=bif decide (a < 0) then k0 (0) else bif decide (b < 0) then k0 (0) else bif decide (a≥c) then k0 (0) else bif decide (b≥e) then k0 (0) else bif decide (0≤i64.wrap (i64.wrap (b*c)+a)∧i64.wrap (i64.wrap (b*c)+a) < (↑d.length:Int)) then k0 (d.getD (i64.wrap (i64.wrap (b*c)+a)).toNat 0) else none
abbrev YF235:Type:=Int→Int→LI→Int→Int→(Int→Option Ans)→Option Ans
theorem F235_eq (fuel:Nat) (a b:Int) (d:LI) (e f:Int) (k:Ev.Cont):evalFn tab (G235 fuel) J0 kp235 fuel Tryz.f235 [.agg [i6 a,i6 b,.sl (.int .u8) d],.c (i6 e),.c (i6 f)] [] k=F_refine_grid_at fuel a b d e f (fun r=>match r with | g=>k (.c (.int .u8 g),[])):=by
  kernel_rfl
theorem hG235 (fuel:Nat):GOK Tryz.prog (G235 fuel):=
  gok_nil
def spg235 (F:YF235):Ev.Spec:=fun args objs k=>match args,objs with | [.agg [i6 a,i6 b,.sl (.int .u8) d],.c (i6 e),.c (i6 f)],[]=>F a b d e f (fun r=>match r with | g=>k (.c (.int .u8 g),[])) | _,_=>none
theorem ok235 (fuel:Nat):FnOK Tryz.prog 235 (spg235 (F_refine_grid_at fuel)):=by
  intro args objs kk r h
  unfold spg235 at h
  split at h
  · skip
    exact fo0 (hG235 fuel) Tryz.func235 rfl (by kernel_rfl) _ _ kk r ((F235_eq fuel _ _ _ _ _ kk).trans h)
  · cases h
def kp231 (i:Nat):Option (List Nat):=Ev.look i []
def Gg231 (f:Nat):Option Ev.Spec:=Ev.look f []
def G231 (fuel:Nat):Nat→Option Ev.Spec:=Gg231
def F_refine_newRegion (fuel:Nat) (b c d:Int) (e:Bool) (f g h:Int) (i:(List Int)) (j k:Int) (a:(List Int)) (k0:(Int×Int×Int×Bool×Int×Int×Int×(List Int)×Int×Int×(List Int))→Option Ans):Option Ans:=k0 (b,c,d,e,f,g,h,i,j,k,a)
abbrev YF231:Type:=Int→Int→Int→Bool→Int→Int→Int→LI→Int→Int→LI→((Int×Int×Int×Bool×Int×Int×Int×LI×Int×Int×LI)→Option Ans)→Option Ans
theorem F231_eq (fuel:Nat) (b d e:Int) (f:Bool) (g h i:Int) (j:LI) (l m:Int) (a:LI) (k:Ev.Cont):evalFn tab (G231 fuel) J0 kp231 fuel Tryz.f231 [.agg [i6 b,i6 d,i6 e,.bool f,i6 g],.c (i6 h),.c (i6 i),.c (.sl (.int .u8) j),.agg [i6 l,i6 m,.sl (.int .u8) a]] [] k=F_refine_newRegion fuel b d e f g h i j l m a (fun r=>match r with | (o,p,q,s,t,u,v,w,x,y,n)=>k (.c (.ptr 0 0),[.cells 266 [i6 o,i6 p,i6 q,.bool s,i6 t,i6 u,i6 v,.sl (.int .u8) w,i6 x,i6 y,.sl (.int .u8) n]])):=by
  kernel_rfl
theorem hG231 (fuel:Nat):GOK Tryz.prog (G231 fuel):=
  gok_nil
def spg231 (F:YF231):Ev.Spec:=fun args objs k=>match args,objs with | [.agg [i6 d,i6 e,i6 f,.bool g,i6 h],.c (i6 i),.c (i6 j),.c (.sl (.int .u8) l),.agg [i6 m,i6 n,.sl (.int .u8) a]],[]=>F d e f g h i j l m n a (fun r=>match r with | (o,p,q,s,t,u,v,w,x,y,b)=>k (.c (.ptr 0 0),[.cells 266 [i6 o,i6 p,i6 q,.bool s,i6 t,i6 u,i6 v,.sl (.int .u8) w,i6 x,i6 y,.sl (.int .u8) b]])) | _,_=>none
theorem ok231 (fuel:Nat):FnOK Tryz.prog 231 (spg231 (F_refine_newRegion fuel)):=by
  intro args objs kk r h
  unfold spg231 at h
  split at h
  · skip
    exact fo0 (hG231 fuel) Tryz.func231 rfl (by kernel_rfl) _ _ kk r ((F231_eq fuel _ _ _ _ _ _ _ _ _ _ _ kk).trans h)
  · cases h
def kp250 (i:Nat):Option (List Nat):=Ev.look i []
def Gg250 (f:Nat):Option Ev.Spec:=Ev.look f []
def G250 (fuel:Nat):Nat→Option Ev.Spec:=Gg250
def F_refine_beside (fuel:Nat)  (k0:((List (Int×Int)))→Option Ans):Option Ans:=k0 ([(0,0),((-1:Int),0),(1,0),(0,(-1:Int)),(0,1)])
abbrev YF250:Type:=(((List (Int×Int)))→Option Ans)→Option Ans
theorem F250_eq (fuel:Nat)  (k:Ev.Cont):evalFn tab (G250 fuel) J0 kp250 fuel Tryz.f250 [] [] k=F_refine_beside fuel  (fun r=>match r with | a=>k (.c (.own 0),[.vec 76 (.pair (.int .i64) (.int .i64)) a true])):=by
  kernel_rfl
theorem hG250 (fuel:Nat):GOK Tryz.prog (G250 fuel):=
  gok_nil
def spg250 (F:YF250):Ev.Spec:=fun args objs k=>match args,objs with | [],[]=>F  (fun r=>match r with | a=>k (.c (.own 0),[.vec 76 (.pair (.int .i64) (.int .i64)) a true])) | _,_=>none
theorem ok250 (fuel:Nat):FnOK Tryz.prog 250 (spg250 (F_refine_beside fuel)):=by
  intro args objs kk r h
  unfold spg250 at h
  split at h
  · skip
    exact fo0 (hG250 fuel) Tryz.func250 rfl (by kernel_rfl) _ _ kk r ((F250_eq fuel kk).trans h)
  · cases h
def kp234_0d1 (i:Nat):Option (List Nat):=Ev.look i [(3,[0,1,2,7,17,18,19]),(8,[0,1,2,7,41,42,43]),(100000,[0,1,2,7]),(100002,[7]),(200005,[0,9]),(200010,[0,11]),(400000,[6]),(400002,[6])]
def Gg234_0d1 (a:YF235) (b:YF249) (c:YF250) (f:Nat):Option Ev.Spec:=Ev.look f [(235,spg235 a),(249,spg249 b),(250,spg250 c)]
def G234_0d1 (fuel:Nat):Nat→Option Ev.Spec:=Gg234_0d1 (F_refine_grid_at fuel) (F_refine_fresh fuel) (F_refine_beside fuel)
abbrev V_refine_region_context_0d1_0:Type:=Int×Int×Int×Int×Int×Int×Int×Int×Bool×Int×Int×Int×LI×Int×Int×LI×(List (Int×Int))
abbrev W_refine_region_context_0d1_0:Type:=(Int×Int×Int×Int×Int×Int×Bool×Int×Int×Int×LI×Int×Int×LI→OA)
def Sg_refine_region_context_0d1_0 (fuel:Nat) (t:YF235) (v:YF249) (w:YF250) (h i:Int) (m n:Int) (a o:Int) (p q:Int) (r:Bool) (s e f:Int) (g:LI) (j k:Int) (l:LI) (d:(List (Int×Int))) (c:V_refine_region_context_0d1_0→OA) (B:W_refine_region_context_0d1_0):OA:=match B with | b=>bif decide (a < n) then bif decide (0≤a∧a < (↑d.length:Int)) then (t e f g (i64.wrap (h+(d.getD a.toNat (0,0)).fst)) (i64.wrap (i+(d.getD a.toNat (0,0)).snd)) (fun u=>c (h,i,i64.wrap (i64.wrap (2*m)+i64.wrap u),n,i64.wrap (a+1),o,p,q,r,s,e,f,g,j,k,l,d))) else none else b (h,i,m,o,p,q,r,s,e,f,g,j,k,l)
def S_refine_region_context_0d1_0 (fuel:Nat) (v:Int×Int×Int×Int×Int×Int×Int×Int×Bool×Int×Int×Int×(List Int)×Int×Int×(List Int)×(List (Int×Int))) (c:(Int×Int×Int×Int×Int×Int×Int×Int×Bool×Int×Int×Int×(List Int)×Int×Int×(List Int)×(List (Int×Int)))→Option Ans) (B:(Int×Int×Int×Int×Int×Int×Bool×Int×Int×Int×(List Int)×Int×Int×(List Int)→Option Ans)):Option Ans:=match v with | (i,j,k,l,m,n,o,p,q,r,a,b,d,e,f,g,h)=>Sg_refine_region_context_0d1_0 fuel (F_refine_grid_at fuel) (F_refine_fresh fuel) (F_refine_beside fuel) i j k l m n o p q r a b d e f g h c B
def L_refine_region_context_0d1_0 (fuel:Nat) (v:V_refine_region_context_0d1_0) (b:W_refine_region_context_0d1_0):Option Ans:=iter (S_refine_region_context_0d1_0 fuel) fuel v b
def T234_0d1_0 (v:V_refine_region_context_0d1_0):Ev.St:=match v with | (i,j,k,l,m,n,o,p,q,r,a,b,d,e,f,g,h)=>⟨[(0,.c (.ptr 0 0)),(1,.c (i6 i)),(2,.c (i6 j)),(7,.c (i6 k)),(17,.c (.own 1)),(18,.c (i6 l)),(19,.c (i6 m))],[(0,.cells 266 [i6 n,i6 o,i6 p,.bool q,i6 r,i6 a,i6 b,.sl (.int .u8) d,i6 e,i6 f,.sl (.int .u8) g]),(1,.vec 76 (.pair (.int .i64) (.int .i64)) h true)],2,1⟩
def E234_0d1_0 (K:KT):W_refine_region_context_0d1_0:=(fun v=>match v with | (f,g,h,i,j,k,l,m,n,o,a,b,d,e)=>K .normal ⟨[(0,.c (.ptr 0 0)),(1,.c (i6 f)),(2,.c (i6 g)),(7,.c (i6 h))],[(0,.cells 266 [i6 i,i6 j,i6 k,.bool l,i6 m,i6 n,i6 o,.sl (.int .u8) a,i6 b,i6 d,.sl (.int .u8) e])],1,1⟩)
theorem S234_0d1_0_okg (fuel:Nat) (a:YF235) (b:YF249) (c:YF250) (R:Ev.St→OA) (K:KT) (k l:Int) (m n:Int) (o p:Int) (q r:Int) (s:Bool) (t d e:Int) (f:LI) (g h:Int) (i:LI) (j:(List (Int×Int))):evalCode tab (Gg234_0d1 a b c) J0 kp234_0d1 fuel (bodyOf 0 Tryz.f234) (T234_0d1_0 (k,l,m,n,o,p,q,r,s,t,d,e,f,g,h,i,j)) (lc kp234_0d1 3 0 R K)=Sg_refine_region_context_0d1_0 fuel a b c k l m n o p q r s t d e f g h i j (fun v=>R (T234_0d1_0 v)) (E234_0d1_0 K):=by
  kernel_rfl
def B234_0d1_0 (fuel:Nat):Ev.Blk:=fun st K=>match canonO (kp234_0d1 3) st with | some s=>(match s with | ⟨[(o,.c (.ptr p q)),(r,.c (i6 t)),(u,.c (i6 v)),(w,.c (i6 x)),(y,.c (.own z)),(A,.c (i6 B)),(C,.c (i6 D))],[(a,.cells b [i6 E,i6 F,i6 G,.bool H,i6 I,i6 d,i6 e,.sl (.int .u8) f,i6 g,i6 h,.sl (.int .u8) i]),(j,.vec k (.pair (.int .i64) (.int .i64)) l true)],m,n⟩=>bif qb [o,p,q,r,u,w,y,z,A,C,a,b,j,k,m,n] [0,0,0,1,2,7,17,1,18,19,0,266,1,76,2,1] then iter (S_refine_region_context_0d1_0 fuel) fuel (t,v,x,B,D,E,F,G,H,I,d,e,f,g,h,i,l) (E234_0d1_0 K) else none | _=>none) | none=>none
theorem B234_0d1_0_ok (fuel:Nat) (st:Ev.St) (K:KT) (r:Ans) (h:B234_0d1_0 fuel st K=some r):evalCode tab (G234_0d1 fuel) J0 kp234_0d1 fuel (.block 0 (.loop (bodyOf 0 Tryz.f234))) st K=some r:=by
  unfold B234_0d1_0 at h
  split at h
  · rename_i s hs
    split at h
    · skip
      obtain ⟨hb,h⟩:=cond_some' h
      cases qb_eq hb
      exact blk_loop (S:=T234_0d1_0) (ks:=E234_0d1_0) (step:=S_refine_region_context_0d1_0 fuel) (v:=(_,_,_,_,_,_,_,_,_,_,_,_,_,_,_,_,_)) (by kernel_rfl) (by kernel_rfl) (fun R K v=>by obtain ⟨i,j,k,l,m,n,o,p,q,t,a,b,c,d,e,f,g⟩:=v; exact S234_0d1_0_okg fuel (F_refine_grid_at fuel) (F_refine_fresh fuel) (F_refine_beside fuel) R K i j k l m n o p q t a b c d e f g) hs h
    · cases h
  · cases h
abbrev V_refine_region_context_0d1_2:Type:=Int×Int×Int×Int×Int×Int×Int×Int×Bool×Int×Int×Int×LI×Int×Int×LI×(List (Int×Int))
abbrev W_refine_region_context_0d1_2:Type:=(Int×Int×Int×Int×Bool×Int×Int×Int×LI×Int×Int×LI→OA)
def Sg_refine_region_context_0d1_2 (fuel:Nat) (t:YF235) (v:YF249) (w:YF250) (m n:Int) (o p:Int) (a q:Int) (h i:Int) (r:Bool) (s j k:Int) (l:LI) (e f:Int) (g:LI) (d:(List (Int×Int))) (c:V_refine_region_context_0d1_2→OA) (B:W_refine_region_context_0d1_2):OA:=match B with | b=>bif decide (a < p) then bif decide (0≤a∧a < (↑d.length:Int)) then (t e f g (i64.wrap (i64.wrap (m - h)+(d.getD a.toNat (0,0)).fst)) (i64.wrap (i64.wrap (n - i)+(d.getD a.toNat (0,0)).snd)) (fun u=>c (m,n,i64.wrap (i64.wrap (2*o)+i64.wrap u),p,i64.wrap (a+1),q,h,i,r,s,j,k,l,e,f,g,d))) else none else b (o,q,h,i,r,s,j,k,l,e,f,g)
def S_refine_region_context_0d1_2 (fuel:Nat) (v:Int×Int×Int×Int×Int×Int×Int×Int×Bool×Int×Int×Int×(List Int)×Int×Int×(List Int)×(List (Int×Int))) (c:(Int×Int×Int×Int×Int×Int×Int×Int×Bool×Int×Int×Int×(List Int)×Int×Int×(List Int)×(List (Int×Int)))→Option Ans) (B:(Int×Int×Int×Int×Bool×Int×Int×Int×(List Int)×Int×Int×(List Int)→Option Ans)):Option Ans:=match v with | (i,j,k,l,m,n,o,p,q,r,a,b,d,e,f,g,h)=>Sg_refine_region_context_0d1_2 fuel (F_refine_grid_at fuel) (F_refine_fresh fuel) (F_refine_beside fuel) i j k l m n o p q r a b d e f g h c B
def L_refine_region_context_0d1_2 (fuel:Nat) (v:V_refine_region_context_0d1_2) (b:W_refine_region_context_0d1_2):Option Ans:=iter (S_refine_region_context_0d1_2 fuel) fuel v b
def J234_0d1_2 (fuel:Nat) (i:Nat):Option Ev.Blk:=Ev.look i [(100000,B234_0d1_0 fuel)]
def T234_0d1_2 (v:V_refine_region_context_0d1_2):Ev.St:=match v with | (i,j,k,l,m,n,o,p,q,r,a,b,d,e,f,g,h)=>⟨[(0,.c (.ptr 0 0)),(1,.c (i6 i)),(2,.c (i6 j)),(7,.c (i6 k)),(41,.c (.own 1)),(42,.c (i6 l)),(43,.c (i6 m))],[(0,.cells 266 [i6 n,i6 o,i6 p,.bool q,i6 r,i6 a,i6 b,.sl (.int .u8) d,i6 e,i6 f,.sl (.int .u8) g]),(1,.vec 76 (.pair (.int .i64) (.int .i64)) h true)],2,1⟩
def E234_0d1_2 (K:KT):W_refine_region_context_0d1_2:=(fun v=>match v with | (d,e,f,g,h,i,j,k,l,m,a,b)=>K .normal ⟨[(7,.c (i6 d))],[(0,.cells 266 [i6 e,i6 f,i6 g,.bool h,i6 i,i6 j,i6 k,.sl (.int .u8) l,i6 m,i6 a,.sl (.int .u8) b])],1,1⟩)
theorem S234_0d1_2_okg (fuel:Nat) (a:YF235) (b:YF249) (c:YF250) (R:Ev.St→OA) (K:KT) (k l:Int) (m n:Int) (o p:Int) (q r:Int) (s:Bool) (t d e:Int) (f:LI) (g h:Int) (i:LI) (j:(List (Int×Int))):evalCode tab (Gg234_0d1 a b c) (J234_0d1_2 fuel) kp234_0d1 fuel (bodyOf 2 Tryz.f234) (T234_0d1_2 (k,l,m,n,o,p,q,r,s,t,d,e,f,g,h,i,j)) (lc kp234_0d1 8 2 R K)=Sg_refine_region_context_0d1_2 fuel a b c k l m n o p q r s t d e f g h i j (fun v=>R (T234_0d1_2 v)) (E234_0d1_2 K):=by
  kernel_rfl
def B234_0d1_2 (fuel:Nat):Ev.Blk:=fun st K=>match canonO (kp234_0d1 8) st with | some s=>(match s with | ⟨[(o,.c (.ptr p q)),(r,.c (i6 t)),(u,.c (i6 v)),(w,.c (i6 x)),(y,.c (.own z)),(A,.c (i6 B)),(C,.c (i6 D))],[(a,.cells b [i6 E,i6 F,i6 G,.bool H,i6 I,i6 d,i6 e,.sl (.int .u8) f,i6 g,i6 h,.sl (.int .u8) i]),(j,.vec k (.pair (.int .i64) (.int .i64)) l true)],m,n⟩=>bif qb [o,p,q,r,u,w,y,z,A,C,a,b,j,k,m,n] [0,0,0,1,2,7,41,1,42,43,0,266,1,76,2,1] then iter (S_refine_region_context_0d1_2 fuel) fuel (t,v,x,B,D,E,F,G,H,I,d,e,f,g,h,i,l) (E234_0d1_2 K) else none | _=>none) | none=>none
theorem B234_0d1_2_ok (fuel:Nat) (st:Ev.St) (K:KT) (r:Ans) (h:B234_0d1_2 fuel st K=some r):evalCode tab (G234_0d1 fuel) (J234_0d1_2 fuel) kp234_0d1 fuel (.block 2 (.loop (bodyOf 2 Tryz.f234))) st K=some r:=by
  unfold B234_0d1_2 at h
  split at h
  · rename_i s hs
    split at h
    · skip
      obtain ⟨hb,h⟩:=cond_some' h
      cases qb_eq hb
      exact blk_loop (S:=T234_0d1_2) (ks:=E234_0d1_2) (step:=S_refine_region_context_0d1_2 fuel) (v:=(_,_,_,_,_,_,_,_,_,_,_,_,_,_,_,_,_)) (by kernel_rfl) (by kernel_rfl) (fun R K v=>by obtain ⟨i,j,k,l,m,n,o,p,q,t,a,b,c,d,e,f,g⟩:=v; exact S234_0d1_2_okg fuel (F_refine_grid_at fuel) (F_refine_fresh fuel) (F_refine_beside fuel) R K i j k l m n o p q t a b c d e f g) hs h
    · cases h
  · cases h
def J234_0d1 (fuel:Nat) (i:Nat):Option Ev.Blk:=Ev.look i [(100000,B234_0d1_0 fuel),(100002,B234_0d1_2 fuel)]
def Fg_refine_region_context_0d1 (fuel:Nat) (R:YF235) (j:YF249) (k:YF250) (I J:Int) (b K L:Int) (M:Bool) (N O P:Int) (Q:LI) (F G:Int) (H:LI) (k0:(Int×Int×Int×Int×Bool×Int×Int×Int×LI×Int×Int×LI)→OA):OA:=(j b (fun c=>(L_refine_region_context_0d1_0 fuel (I,J,0,(↑c.length:Int),0,b,K,L,M,N,O,P,Q,F,G,H,c) (fun (l,m,n,o,p,q,r,s,t,u,d,e,f,g)=>(k (fun a=>(L_refine_region_context_0d1_2 fuel (l,m,n,(↑a.length:Int),0,o,p,q,r,s,t,u,d,e,f,g,a) (fun (v,w,x,y,z,A,B,C,D,E,h,i)=>k0 (v,w,x,y,z,A,B,C,D,E,h,i)))))))))
abbrev YF234_0d1:Type:=Int→Int→Int→Int→Int→Bool→Int→Int→Int→LI→Int→Int→LI→((Int×Int×Int×Int×Bool×Int×Int×Int×LI×Int×Int×LI)→Option Ans)→Option Ans
def F_refine_region_context_0d1 (fuel:Nat):YF234_0d1:=Fg_refine_region_context_0d1 fuel (F_refine_grid_at fuel) (F_refine_fresh fuel) (F_refine_beside fuel)
theorem F234_0d1_eqg (fuel:Nat) (a:YF235) (b:YF249) (d:YF250) (h i:Int) (j l m:Int) (n:Bool) (o p q:Int) (s:LI) (e f:Int) (g:LI) (k:Ev.Cont):evalFn tab (Gg234_0d1 a b d) (J234_0d1 fuel) kp234_0d1 fuel Tryz.f234 [.c (.ptr 0 0),.c (i6 h),.c (i6 i)] [.cells 266 [i6 j,i6 l,i6 m,.bool n,i6 o,i6 p,i6 q,.sl (.int .u8) s,i6 e,i6 f,.sl (.int .u8) g]] k=Fg_refine_region_context_0d1 fuel a b d h i j l m n o p q s e f g (fun r=>match r with | (v,w,x,y,z,A,B,C,D,E,t,u)=>k (.c (i6 v),[.cells 266 [i6 w,i6 x,i6 y,.bool z,i6 A,i6 B,i6 C,.sl (.int .u8) D,i6 E,i6 t,.sl (.int .u8) u]])):=by
  kernel_rfl
theorem hG234_0d1 (fuel:Nat):GOK Tryz.prog (G234_0d1 fuel):=
  gc (ok235 fuel) Tryz.func235 (by kernel_rfl) rfl <|
  gc (ok249 fuel) Tryz.func249 (by kernel_rfl) rfl <|
  gc (ok250 fuel) Tryz.func250 (by kernel_rfl) rfl <|
  gok_nil
theorem B234_0d1_0_blk (fuel:Nat):BlkOK Tryz.prog Tryz.f234.ntmps (.block 0 (.loop (bodyOf 0 Tryz.f234))) (B234_0d1_0 fuel):=bo0 (hG234_0d1 fuel) (by kernel_rfl) (by kernel_rfl) (B234_0d1_0_ok fuel)
theorem B234_0d1_2_blk (fuel:Nat):BlkOK Tryz.prog Tryz.f234.ntmps (.block 2 (.loop (bodyOf 2 Tryz.f234))) (B234_0d1_2 fuel):=bo0 (hG234_0d1 fuel) (by kernel_rfl) (by kernel_rfl) (B234_0d1_2_ok fuel)
theorem fok234_0d1 (fuel:Nat):FnOK Tryz.prog 234 (evalFn tab (G234_0d1 fuel) (J234_0d1 fuel) kp234_0d1 fuel Tryz.f234):=
  fn_ok tab_ok (hG234_0d1 fuel) mixed Tryz.func234 (c:=(Tryz.f234.body).getD .skip) rfl (fun q hq=>by
    rw [(by kernel_rfl:obl (J234_0d1 fuel) ((Tryz.f234.body).getD .skip)= [(.block 0 (.loop (bodyOf 0 Tryz.f234)),B234_0d1_0 fuel),(.block 2 (.loop (bodyOf 2 Tryz.f234)),B234_0d1_2 fuel)])] at hq
    simp only [List.mem_cons,List.not_mem_nil,or_false] at hq
    rcases hq with rfl | rfl
    · exact B234_0d1_0_blk fuel
    · exact B234_0d1_2_blk fuel)
def spg234_0d1 (F:YF234_0d1):Ev.Spec:=fun args objs k=>match args,objs with | [.c (.ptr g h),.c (i6 i),.c (i6 j)],[.cells l [i6 m,i6 n,i6 o,.bool p,i6 q,i6 s,i6 t,.sl (.int .u8) u,i6 a,i6 b,.sl (.int .u8) d]]=>bif qb [g,h,l] [0,0,266] then F i j m n o p q s t u a b d (fun r=>match r with | (v,w,x,y,z,A,B,C,D,E,e,f)=>k (.c (i6 v),[.cells 266 [i6 w,i6 x,i6 y,.bool z,i6 A,i6 B,i6 C,.sl (.int .u8) D,i6 E,i6 e,.sl (.int .u8) f]])) else none | _,_=>none
theorem ok234_0d1 (fuel:Nat):FnOK Tryz.prog 234 (spg234_0d1 (F_refine_region_context_0d1 fuel)):=by
  intro args objs kk r h
  unfold spg234_0d1 at h
  split at h
  · skip
    obtain ⟨hb,h⟩:=cond_some' h
    cases qb_eq hb
    exact fok234_0d1 fuel _ _ kk r ((F234_0d1_eqg fuel (F_refine_grid_at fuel) (F_refine_fresh fuel) (F_refine_beside fuel) _ _ _ _ _ _ _ _ _ _ _ _ _ kk).trans h)
  · cases h
def kp233_0d1 (i:Nat):Option (List Nat):=Ev.look i [(3,[0,1,2,8,29]),(100000,[8]),(200001,[0]),(200005,[0]),(400000,[6,7])]
def Gg233_0d1 (a:YF235) (f:Nat):Option Ev.Spec:=Ev.look f [(235,spg235 a)]
def G233_0d1 (fuel:Nat):Nat→Option Ev.Spec:=Gg233_0d1 (F_refine_grid_at fuel)
abbrev V_refine_region_flat_0d1_0:Type:=Int×Int×Int×Int×Int×Int×Int×Bool×Int×Int×Int×LI×Int×Int×LI
abbrev W_refine_region_flat_0d1_0:Type:=(Int×Bool×Int×Int×Int×Bool×Int×Int×Int×LI×Int×Int×LI→OA)×(Int×Int×Int×Int×Bool×Int×Int×Int×LI×Int×Int×LI→OA)
def Sg_refine_region_flat_0d1_0 (fuel:Nat) (r:YF235) (p q:Int) (k f:Int) (l g h:Int) (m:Bool) (n o i:Int) (j:LI) (a d:Int) (e:LI) (c:V_refine_region_flat_0d1_0→OA) (B:W_refine_region_flat_0d1_0):OA:=match B with | (ret,b)=>bif decide (f < 9) then (r a d e (i64.wrap (i64.wrap (i64.wrap (p - g)+f.tmod 3) - 1)) (i64.wrap (i64.wrap (i64.wrap (q - h)+i64.wrap (f.tdiv 3)) - 1)) (fun s=>bif s != k then ret (0,false,l,g,h,m,n,o,i,j,a,d,e) else c (p,q,k,i64.wrap (f+1),l,g,h,m,n,o,i,j,a,d,e))) else b (k,l,g,h,m,n,o,i,j,a,d,e)
def S_refine_region_flat_0d1_0 (fuel:Nat) (v:Int×Int×Int×Int×Int×Int×Int×Bool×Int×Int×Int×(List Int)×Int×Int×(List Int)) (c:(Int×Int×Int×Int×Int×Int×Int×Bool×Int×Int×Int×(List Int)×Int×Int×(List Int))→Option Ans) (B:(Int×Bool×Int×Int×Int×Bool×Int×Int×Int×(List Int)×Int×Int×(List Int)→Option Ans)×(Int×Int×Int×Int×Bool×Int×Int×Int×(List Int)×Int×Int×(List Int)→Option Ans)):Option Ans:=match v with | (g,h,i,j,k,l,m,n,o,p,a,b,d,e,f)=>Sg_refine_region_flat_0d1_0 fuel (F_refine_grid_at fuel) g h i j k l m n o p a b d e f c B
def L_refine_region_flat_0d1_0 (fuel:Nat) (v:V_refine_region_flat_0d1_0) (ret:(Int×Bool×Int×Int×Int×Bool×Int×Int×Int×(List Int)×Int×Int×(List Int)→Option Ans)) (b:(Int×Int×Int×Int×Bool×Int×Int×Int×(List Int)×Int×Int×(List Int)→Option Ans)):Option Ans:=iter (S_refine_region_flat_0d1_0 fuel) fuel v (ret,b)
def T233_0d1_0 (v:V_refine_region_flat_0d1_0):Ev.St:=match v with | (g,h,i,j,k,l,m,n,o,p,a,b,d,e,f)=>⟨[(0,.c (.ptr 0 0)),(1,.c (i6 g)),(2,.c (i6 h)),(8,.c (.int .u8 i)),(29,.c (i6 j))],[(0,.cells 266 [i6 k,i6 l,i6 m,.bool n,i6 o,i6 p,i6 a,.sl (.int .u8) b,i6 d,i6 e,.sl (.int .u8) f])],1,1⟩
def E233_0d1_0 (K:KT):W_refine_region_flat_0d1_0:=((fun v=>match v with | (d,e,f,g,h,i,j,k,l,m,a,b,n)=>K .ret ⟨[(6,.c (.int .u8 d)),(7,.c (.bool e))],[(0,.cells 266 [i6 f,i6 g,i6 h,.bool i,i6 j,i6 k,i6 l,.sl (.int .u8) m,i6 a,i6 b,.sl (.int .u8) n])],1,1⟩),(fun v=>match v with | (d,e,f,g,h,i,j,k,l,m,a,b)=>K .normal ⟨[(8,.c (.int .u8 d))],[(0,.cells 266 [i6 e,i6 f,i6 g,.bool h,i6 i,i6 j,i6 k,.sl (.int .u8) l,i6 m,i6 a,.sl (.int .u8) b])],1,1⟩))
theorem S233_0d1_0_okg (fuel:Nat) (a:YF235) (R:Ev.St→OA) (K:KT) (g h:Int) (i j:Int) (k l m:Int) (n:Bool) (o p b:Int) (c:LI) (d e:Int) (f:LI):evalCode tab (Gg233_0d1 a) J0 kp233_0d1 fuel (bodyOf 0 Tryz.f233) (T233_0d1_0 (g,h,i,j,k,l,m,n,o,p,b,c,d,e,f)) (lc kp233_0d1 3 0 R K)=Sg_refine_region_flat_0d1_0 fuel a g h i j k l m n o p b c d e f (fun v=>R (T233_0d1_0 v)) (E233_0d1_0 K):=by
  kernel_rfl
def B233_0d1_0 (fuel:Nat):Ev.Blk:=fun st K=>match canonO (kp233_0d1 3) st with | some s=>(match s with | ⟨[(h,.c (.ptr i j)),(k,.c (i6 l)),(m,.c (i6 n)),(o,.c (.int .u8 p)),(q,.c (i6 r))],[(t,.cells u [i6 v,i6 w,i6 x,.bool y,i6 z,i6 A,i6 a,.sl (.int .u8) b,i6 d,i6 e,.sl (.int .u8) f])],B,g⟩=>bif qb [h,i,j,k,m,o,q,t,u,B,g] [0,0,0,1,2,8,29,0,266,1,1] then iter (S_refine_region_flat_0d1_0 fuel) fuel (l,n,p,r,v,w,x,y,z,A,a,b,d,e,f) (E233_0d1_0 K) else none | _=>none) | none=>none
theorem B233_0d1_0_ok (fuel:Nat) (st:Ev.St) (K:KT) (r:Ans) (h:B233_0d1_0 fuel st K=some r):evalCode tab (G233_0d1 fuel) J0 kp233_0d1 fuel (.block 0 (.loop (bodyOf 0 Tryz.f233))) st K=some r:=by
  unfold B233_0d1_0 at h
  split at h
  · rename_i s hs
    split at h
    · skip
      obtain ⟨hb,h⟩:=cond_some' h
      cases qb_eq hb
      exact blk_loop (S:=T233_0d1_0) (ks:=E233_0d1_0) (step:=S_refine_region_flat_0d1_0 fuel) (v:=(_,_,_,_,_,_,_,_,_,_,_,_,_,_,_)) (by kernel_rfl) (by kernel_rfl) (fun R K v=>by obtain ⟨f,g,i,j,k,l,m,n,o,p,a,b,c,d,e⟩:=v; exact S233_0d1_0_okg fuel (F_refine_grid_at fuel) R K f g i j k l m n o p a b c d e) hs h
    · cases h
  · cases h
def J233_0d1 (fuel:Nat) (i:Nat):Option Ev.Blk:=Ev.look i [(100000,B233_0d1_0 fuel)]
def Fg_refine_region_flat_0d1 (fuel:Nat) (j:YF235) (d e:Int) (u f g:Int) (v:Bool) (w x y:Int) (z:LI) (a b:Int) (c:LI) (k0:(Int×Bool×Int×Int×Int×Bool×Int×Int×Int×LI×Int×Int×LI)→OA):OA:=(j a b c (i64.wrap (d - f)) (i64.wrap (e - g)) (fun A=>(L_refine_region_flat_0d1_0 fuel (d,e,A,0,u,f,g,v,w,x,y,z,a,b,c) (fun (ret0_0,ret0_1,ret0_2,ret0_3,ret0_4,ret0_5,ret0_6,ret0_7,ret0_8,ret0_9,ret0_10,ret0_11,ret0_12)=>k0 (ret0_0,ret0_1,ret0_2,ret0_3,ret0_4,ret0_5,ret0_6,ret0_7,ret0_8,ret0_9,ret0_10,ret0_11,ret0_12)) (fun (k,l,m,n,o,p,q,r,s,t,h,i)=>k0 (k,true,l,m,n,o,p,q,r,s,t,h,i)))))
abbrev YF233_0d1:Type:=Int→Int→Int→Int→Int→Bool→Int→Int→Int→LI→Int→Int→LI→((Int×Bool×Int×Int×Int×Bool×Int×Int×Int×LI×Int×Int×LI)→Option Ans)→Option Ans
def F_refine_region_flat_0d1 (fuel:Nat):YF233_0d1:=Fg_refine_region_flat_0d1 fuel (F_refine_grid_at fuel)
theorem F233_0d1_eqg (fuel:Nat) (a:YF235) (f g:Int) (h i j:Int) (l:Bool) (m n o:Int) (p:LI) (b d:Int) (e:LI) (k:Ev.Cont):evalFn tab (Gg233_0d1 a) (J233_0d1 fuel) kp233_0d1 fuel Tryz.f233 [.c (.ptr 0 0),.c (i6 f),.c (i6 g)] [.cells 266 [i6 h,i6 i,i6 j,.bool l,i6 m,i6 n,i6 o,.sl (.int .u8) p,i6 b,i6 d,.sl (.int .u8) e]] k=Fg_refine_region_flat_0d1 fuel a f g h i j l m n o p b d e (fun r=>match r with | (u,v,w,x,y,z,A,B,C,D,q,s,t)=>k (.tup [(false,[.int .u8 u]),(false,[.bool v])],[.cells 266 [i6 w,i6 x,i6 y,.bool z,i6 A,i6 B,i6 C,.sl (.int .u8) D,i6 q,i6 s,.sl (.int .u8) t]])):=by
  kernel_rfl
theorem hG233_0d1 (fuel:Nat):GOK Tryz.prog (G233_0d1 fuel):=
  gc (ok235 fuel) Tryz.func235 (by kernel_rfl) rfl <|
  gok_nil
theorem B233_0d1_0_blk (fuel:Nat):BlkOK Tryz.prog Tryz.f233.ntmps (.block 0 (.loop (bodyOf 0 Tryz.f233))) (B233_0d1_0 fuel):=bo0 (hG233_0d1 fuel) (by kernel_rfl) (by kernel_rfl) (B233_0d1_0_ok fuel)
def spg233_0d1 (F:YF233_0d1):Ev.Spec:=fun args objs k=>match args,objs with | [.c (.ptr h i),.c (i6 j),.c (i6 l)],[.cells m [i6 n,i6 o,i6 p,.bool q,i6 s,i6 t,i6 u,.sl (.int .u8) v,i6 a,i6 b,.sl (.int .u8) d]]=>bif qb [h,i,m] [0,0,266] then F j l n o p q s t u v a b d (fun r=>match r with | (w,x,y,z,A,B,C,D,E,G,e,f,g)=>k (.tup [(false,[.int .u8 w]),(false,[.bool x])],[.cells 266 [i6 y,i6 z,i6 A,.bool B,i6 C,i6 D,i6 E,.sl (.int .u8) G,i6 e,i6 f,.sl (.int .u8) g]])) else none | _,_=>none
theorem ok233_0d1 (fuel:Nat):FnOK Tryz.prog 233 (spg233_0d1 (F_refine_region_flat_0d1 fuel)):=by
  intro args objs kk r h
  unfold spg233_0d1 at h
  split at h
  · skip
    obtain ⟨hb,h⟩:=cond_some' h
    cases qb_eq hb
    exact fo1 (hG233_0d1 fuel) Tryz.func233 rfl (B233_0d1_0_blk fuel) (by kernel_rfl) _ _ kk r ((F233_0d1_eqg fuel (F_refine_grid_at fuel) _ _ _ _ _ _ _ _ _ _ _ _ _ kk).trans h)
  · cases h
def kp232_1c7 (i:Nat):Option (List Nat):=Ev.look i [(2,[0,1,12,13]),(100000,[]),(400000,[4])]
def Gg232_1c7 (a:YF233_0d1) (b:YF235) (f:Nat):Option Ev.Spec:=Ev.look f [(233,spg233_0d1 a),(235,spg235 b)]
def G232_1c7 (fuel:Nat):Nat→Option Ev.Spec:=Gg232_1c7 (F_refine_region_flat_0d1 fuel) (F_refine_grid_at fuel)
abbrev V_refine_region_typical_1c7_0:Type:=Int×Int×Int×Int×Int×Int×Bool×Int×Int×Int×LI×Int×Int×LI
abbrev W_refine_region_typical_1c7_0:Type:=(Bool×Int×Int×Int×Bool×Int×Int×Int×LI×Int×Int×LI→OA)×(Int×Int×Int×Bool×Int×Int×Int×LI×Int×Int×LI→OA)
def Sg_refine_region_typical_1c7_0 (fuel:Nat) (C:YF233_0d1) (D:YF235) (g p:Int) (a u:Int) (v w:Int) (x:Bool) (y z A:Int) (q:LI) (r s:Int) (t:LI) (c:V_refine_region_typical_1c7_0→OA) (B:W_refine_region_typical_1c7_0):OA:=match B with | (ret,b)=>bif decide (a < p) then (C a g u v w x y z A q r s t (fun (E,F,k,l,m,n,o,d,e,f,h,i,j)=>bif F then (D d e f a g (fun G=>bif E != G then ret (false,k,l,m,n,o,d,e,f,h,i,j) else c (g,p,i64.wrap (a+1),k,l,m,n,o,d,e,f,h,i,j))) else c (g,p,i64.wrap (a+1),k,l,m,n,o,d,e,f,h,i,j))) else b (u,v,w,x,y,z,A,q,r,s,t)
def S_refine_region_typical_1c7_0 (fuel:Nat) (v:Int×Int×Int×Int×Int×Int×Bool×Int×Int×Int×(List Int)×Int×Int×(List Int)) (c:(Int×Int×Int×Int×Int×Int×Bool×Int×Int×Int×(List Int)×Int×Int×(List Int))→Option Ans) (B:(Bool×Int×Int×Int×Bool×Int×Int×Int×(List Int)×Int×Int×(List Int)→Option Ans)×(Int×Int×Int×Bool×Int×Int×Int×(List Int)×Int×Int×(List Int)→Option Ans)):Option Ans:=match v with | (f,g,h,i,j,k,l,m,n,o,a,b,d,e)=>Sg_refine_region_typical_1c7_0 fuel (F_refine_region_flat_0d1 fuel) (F_refine_grid_at fuel) f g h i j k l m n o a b d e c B
def L_refine_region_typical_1c7_0 (fuel:Nat) (v:V_refine_region_typical_1c7_0) (ret:(Bool×Int×Int×Int×Bool×Int×Int×Int×(List Int)×Int×Int×(List Int)→Option Ans)) (b:(Int×Int×Int×Bool×Int×Int×Int×(List Int)×Int×Int×(List Int)→Option Ans)):Option Ans:=iter (S_refine_region_typical_1c7_0 fuel) fuel v (ret,b)
def T232_1c7_0 (v:V_refine_region_typical_1c7_0):Ev.St:=match v with | (f,g,h,i,j,k,l,m,n,o,a,b,d,e)=>⟨[(0,.c (.ptr 0 0)),(1,.c (i6 f)),(12,.c (i6 g)),(13,.c (i6 h))],[(0,.cells 266 [i6 i,i6 j,i6 k,.bool l,i6 m,i6 n,i6 o,.sl (.int .u8) a,i6 b,i6 d,.sl (.int .u8) e])],1,1⟩
def E232_1c7_0 (K:KT):W_refine_region_typical_1c7_0:=((fun v=>match v with | (b,d,e,f,g,h,i,j,k,l,a,m)=>K .ret ⟨[(4,.c (.bool b))],[(0,.cells 266 [i6 d,i6 e,i6 f,.bool g,i6 h,i6 i,i6 j,.sl (.int .u8) k,i6 l,i6 a,.sl (.int .u8) m])],1,1⟩),(fun v=>match v with | (b,d,e,f,g,h,i,j,k,l,a)=>K .normal ⟨[],[(0,.cells 266 [i6 b,i6 d,i6 e,.bool f,i6 g,i6 h,i6 i,.sl (.int .u8) j,i6 k,i6 l,.sl (.int .u8) a])],1,1⟩))
theorem S232_1c7_0_okg (fuel:Nat) (a:YF233_0d1) (b:YF235) (R:Ev.St→OA) (K:KT) (g h:Int) (i j:Int) (k l:Int) (m:Bool) (n o p:Int) (c:LI) (d e:Int) (f:LI):evalCode tab (Gg232_1c7 a b) J0 kp232_1c7 fuel (bodyOf 0 Tryz.f232) (T232_1c7_0 (g,h,i,j,k,l,m,n,o,p,c,d,e,f)) (lc kp232_1c7 2 0 R K)=Sg_refine_region_typical_1c7_0 fuel a b g h i j k l m n o p c d e f (fun v=>R (T232_1c7_0 v)) (E232_1c7_0 K):=by
  kernel_rfl
def B232_1c7_0 (fuel:Nat):Ev.Blk:=fun st K=>match canonO (kp232_1c7 2) st with | some s=>(match s with | ⟨[(f,.c (.ptr g h)),(i,.c (i6 j)),(k,.c (i6 l)),(m,.c (i6 n))],[(o,.cells p [i6 q,i6 r,i6 t,.bool u,i6 v,i6 w,i6 x,.sl (.int .u8) a,i6 b,i6 d,.sl (.int .u8) e])],y,z⟩=>bif qb [f,g,h,i,k,m,o,p,y,z] [0,0,0,1,12,13,0,266,1,1] then iter (S_refine_region_typical_1c7_0 fuel) fuel (j,l,n,q,r,t,u,v,w,x,a,b,d,e) (E232_1c7_0 K) else none | _=>none) | none=>none
theorem B232_1c7_0_ok (fuel:Nat) (st:Ev.St) (K:KT) (r:Ans) (h:B232_1c7_0 fuel st K=some r):evalCode tab (G232_1c7 fuel) J0 kp232_1c7 fuel (.block 0 (.loop (bodyOf 0 Tryz.f232))) st K=some r:=by
  unfold B232_1c7_0 at h
  split at h
  · rename_i s hs
    split at h
    · skip
      obtain ⟨hb,h⟩:=cond_some' h
      cases qb_eq hb
      exact blk_loop (S:=T232_1c7_0) (ks:=E232_1c7_0) (step:=S_refine_region_typical_1c7_0 fuel) (v:=(_,_,_,_,_,_,_,_,_,_,_,_,_,_)) (by kernel_rfl) (by kernel_rfl) (fun R K v=>by obtain ⟨e,f,g,i,j,k,l,m,n,o,a,b,c,d⟩:=v; exact S232_1c7_0_okg fuel (F_refine_region_flat_0d1 fuel) (F_refine_grid_at fuel) R K e f g i j k l m n o a b c d) hs h
    · cases h
  · cases h
def J232_1c7 (fuel:Nat) (i:Nat):Option Ev.Blk:=Ev.look i [(100000,B232_1c7_0 fuel)]
def Fg_refine_region_typical_1c7 (fuel:Nat) (x:YF233_0d1) (y:YF235) (o p:Int) (q r:Int) (s:Bool) (t a u:Int) (v:LI) (w m:Int) (n:LI) (k0:(Bool×Int×Int×Int×Bool×Int×Int×Int×LI×Int×Int×LI)→OA):OA:=(L_refine_region_typical_1c7_0 fuel (o,a,0,p,q,r,s,t,a,u,v,w,m,n) (fun (ret0_0,ret0_1,ret0_2,ret0_3,ret0_4,ret0_5,ret0_6,ret0_7,ret0_8,ret0_9,ret0_10,ret0_11)=>k0 (ret0_0,ret0_1,ret0_2,ret0_3,ret0_4,ret0_5,ret0_6,ret0_7,ret0_8,ret0_9,ret0_10,ret0_11)) (fun (c,d,e,f,g,h,i,j,k,l,b)=>k0 (true,c,d,e,f,g,h,i,j,k,l,b)))
abbrev YF232_1c7:Type:=Int→Int→Int→Int→Bool→Int→Int→Int→LI→Int→Int→LI→((Bool×Int×Int×Int×Bool×Int×Int×Int×LI×Int×Int×LI)→Option Ans)→Option Ans
def F_refine_region_typical_1c7 (fuel:Nat):YF232_1c7:=Fg_refine_region_typical_1c7 fuel (F_refine_region_flat_0d1 fuel) (F_refine_grid_at fuel)
theorem F232_1c7_eqg (fuel:Nat) (a:YF233_0d1) (b:YF235) (f g:Int) (h i:Int) (j:Bool) (l m n:Int) (o:LI) (p d:Int) (e:LI) (k:Ev.Cont):evalFn tab (Gg232_1c7 a b) (J232_1c7 fuel) kp232_1c7 fuel Tryz.f232 [.c (.ptr 0 0),.c (i6 f)] [.cells 266 [i6 g,i6 h,i6 i,.bool j,i6 l,i6 m,i6 n,.sl (.int .u8) o,i6 p,i6 d,.sl (.int .u8) e]] k=Fg_refine_region_typical_1c7 fuel a b f g h i j l m n o p d e (fun r=>match r with | (t,u,v,w,x,y,z,A,B,C,q,s)=>k (.c (.bool t),[.cells 266 [i6 u,i6 v,i6 w,.bool x,i6 y,i6 z,i6 A,.sl (.int .u8) B,i6 C,i6 q,.sl (.int .u8) s]])):=by
  kernel_rfl
theorem hG232_1c7 (fuel:Nat):GOK Tryz.prog (G232_1c7 fuel):=
  gc (ok233_0d1 fuel) Tryz.func233 (by kernel_rfl) rfl <|
  gc (ok235 fuel) Tryz.func235 (by kernel_rfl) rfl <|
  gok_nil
theorem B232_1c7_0_blk (fuel:Nat):BlkOK Tryz.prog Tryz.f232.ntmps (.block 0 (.loop (bodyOf 0 Tryz.f232))) (B232_1c7_0 fuel):=bo0 (hG232_1c7 fuel) (by kernel_rfl) (by kernel_rfl) (B232_1c7_0_ok fuel)
def spg232_1c7 (F:YF232_1c7):Ev.Spec:=fun args objs k=>match args,objs with | [.c (.ptr f g),.c (i6 h)],[.cells i [i6 j,i6 l,i6 m,.bool n,i6 o,i6 p,i6 q,.sl (.int .u8) s,i6 t,i6 a,.sl (.int .u8) b]]=>bif qb [f,g,i] [0,0,266] then F h j l m n o p q s t a b (fun r=>match r with | (u,v,w,x,y,z,A,B,C,D,d,e)=>k (.c (.bool u),[.cells 266 [i6 v,i6 w,i6 x,.bool y,i6 z,i6 A,i6 B,.sl (.int .u8) C,i6 D,i6 d,.sl (.int .u8) e]])) else none | _,_=>none
theorem ok232_1c7 (fuel:Nat):FnOK Tryz.prog 232 (spg232_1c7 (F_refine_region_typical_1c7 fuel)):=by
  intro args objs kk r h
  unfold spg232_1c7 at h
  split at h
  · skip
    obtain ⟨hb,h⟩:=cond_some' h
    cases qb_eq hb
    exact fo1 (hG232_1c7 fuel) Tryz.func232 rfl (B232_1c7_0_blk fuel) (by kernel_rfl) _ _ kk r ((F232_1c7_eqg fuel (F_refine_region_flat_0d1 fuel) (F_refine_grid_at fuel) _ _ _ _ _ _ _ _ _ _ _ _ kk).trans h)
  · cases h
def kp167_d0e (i:Nat):Option (List Nat):=Ev.look i [(11,[0,1,7,8,11,52,53,1000002]),(20,[0,1,7,8,11,12,13,52,53,75,76,1000002]),(100001,[]),(100003,[0,1,7,8,11,52,53]),(200007,[7]),(400001,[10]),(400003,[10]),(600000,[])]
def Gg167_d0e (a:YF121_cf0) (g:YF122) (b:YF126_a20) (h:YF228) (i:YF229) (j:YF230) (k:YF231) (c:YF232_1c7) (d:YF233_0d1) (e:YF234_0d1) (l:YF235) (f:Nat):Option Ev.Spec:=Ev.look f [(121,spg121_cf0 a),(122,spg122 g),(126,spg126_a20 b),(228,spg228 h),(229,spg229 i),(230,spg230 j),(1000231,spg231 k),(232,spg232_1c7 c),(233,spg233_0d1 d),(234,spg234_0d1 e),(235,spg235 l)]
def G167_d0e (fuel:Nat):Nat→Option Ev.Spec:=Gg167_d0e (F_coder_Encoder_Put_cf0 fuel) (F_bitmap_Valid fuel) (F_coder_Encoder_Model_a20 fuel) (F_refine_contexts fuel) (F_refine_Valid fuel) (F_refine_fits fuel) (F_refine_newRegion fuel) (F_refine_region_typical_1c7 fuel) (F_refine_region_flat_0d1 fuel) (F_refine_region_context_0d1 fuel) (F_refine_grid_at fuel)
abbrev V_refine_Put_d0e_3:Type:=Int×Int×Bool×Int×Int×Int×Int×Int×Int×Int×Bool×LI×LI×Int×Int×Int×Bool×Int×Int×Int×LI×Int×Int×Int×Bool×Int×Int×Int×LI×Int×Int×LI
abbrev W_refine_Put_d0e_3:Type:=(Int×Int×Int×Int×Int×Int×Bool×LI×LI×Int×Int×Int×Bool×Int×Int×Int×LI×Int×Int×Int×Bool×Int×Int×Int×LI×Int×Int×LI→OA)
def Sg_refine_Put_d0e_3 (fuel:Nat) (b7:YF121_cf0) (e1:YF122) (d9:YF126_a20) (e2:YF228) (e3:YF229) (e4:YF230) (e5:YF231) (e0:YF232_1c7) (d7:YF233_0d1) (b8:YF234_0d1) (b9:YF235) (e d:Int) (n:Bool) (o p:Int) (q a:Int) (Q R S:Int) (N:Bool) (O P:LI) (f g h:Int) (i:Bool) (j k l:Int) (m:LI) (c6 c7 c8:Int) (c9:Bool) (d0 d1 d2:Int) (d3:LI) (d4 d5:Int) (d6:LI) (c:V_refine_Put_d0e_3→OA) (B:W_refine_Put_d0e_3):OA:=match B with | b=>bif decide (a < q) then (d7 a d c6 c7 c8 c9 d0 d1 d2 d3 d4 d5 d6 (fun (e6,d8,b2,b3,b4,b5,b6,E,F,G,X,Y,Z)=>bif !n then both ((b8 a d b2 b3 b4 b5 b6 E F G X Y Z (fun (c0,a0,a1,a2,a3,a4,H,I,J,a5,T,U)=>(b9 H I J a d (fun c4=>(b7 (i64.wrap (e+c0)) (i64.wrap c4) Q R S N O P (fun (c1,r,s,t,u,v,w)=>c (e,d,n,o,p,q,i64.wrap (a+1),r,s,t,u,v,w,f,g,h,i,j,k,l,m,a0,a1,a2,a3,a4,H,I,J,a5,T,U)) (fun (c1,r,s,t,u,v,w)=>c (e,d,n,o,p,q,i64.wrap (a+1),r,s,t,u,v,w,f,g,h,i,j,k,l,m,a0,a1,a2,a3,a4,H,I,J,a5,T,U)))))))) ((b8 a d b2 b3 b4 b5 b6 E F G X Y Z (fun (c0,a0,a1,a2,a3,a4,H,I,J,a5,T,U)=>(b9 E F G a d (fun c4=>(b7 (i64.wrap (e+c0)) (i64.wrap c4) Q R S N O P (fun (c1,r,s,t,u,v,w)=>c (e,d,n,o,p,q,i64.wrap (a+1),r,s,t,u,v,w,f,g,h,i,j,k,l,m,a0,a1,a2,a3,a4,H,I,J,a5,T,U)) (fun (c1,r,s,t,u,v,w)=>c (e,d,n,o,p,q,i64.wrap (a+1),r,s,t,u,v,w,f,g,h,i,j,k,l,m,a0,a1,a2,a3,a4,H,I,J,a5,T,U)))))))) else bif !d8 then both ((b8 a d b2 b3 b4 b5 b6 E F G X Y Z (fun (c2,a6,a7,a8,a9,b0,K,L,M,b1,V,W)=>(b9 K L M a d (fun c5=>(b7 (i64.wrap (e+c2)) (i64.wrap c5) Q R S N O P (fun (c3,x,y,z,A,C,D)=>c (e,d,n,o,p,q,i64.wrap (a+1),x,y,z,A,C,D,f,g,h,i,j,k,l,m,a6,a7,a8,a9,b0,K,L,M,b1,V,W)) (fun (c3,x,y,z,A,C,D)=>c (e,d,n,o,p,q,i64.wrap (a+1),x,y,z,A,C,D,f,g,h,i,j,k,l,m,a6,a7,a8,a9,b0,K,L,M,b1,V,W)))))))) ((b8 a d b2 b3 b4 b5 b6 E F G X Y Z (fun (c2,a6,a7,a8,a9,b0,K,L,M,b1,V,W)=>(b9 E F G a d (fun c5=>(b7 (i64.wrap (e+c2)) (i64.wrap c5) Q R S N O P (fun (c3,x,y,z,A,C,D)=>c (e,d,n,o,p,q,i64.wrap (a+1),x,y,z,A,C,D,f,g,h,i,j,k,l,m,a6,a7,a8,a9,b0,K,L,M,b1,V,W)) (fun (c3,x,y,z,A,C,D)=>c (e,d,n,o,p,q,i64.wrap (a+1),x,y,z,A,C,D,f,g,h,i,j,k,l,m,a6,a7,a8,a9,b0,K,L,M,b1,V,W)))))))) else c (e,d,n,o,p,q,i64.wrap (a+1),Q,R,S,N,O,P,f,g,h,i,j,k,l,m,b2,b3,b4,b5,b6,E,F,G,X,Y,Z))) else b (e,o,p,Q,R,S,N,O,P,f,g,h,i,j,k,l,m,c6,c7,c8,c9,d0,d1,d2,d3,d4,d5,d6)
def S_refine_Put_d0e_3 (fuel:Nat) (v:Int×Int×Bool×Int×Int×Int×Int×Int×Int×Int×Bool×(List Int)×(List Int)×Int×Int×Int×Bool×Int×Int×Int×(List Int)×Int×Int×Int×Bool×Int×Int×Int×(List Int)×Int×Int×(List Int)) (c:(Int×Int×Bool×Int×Int×Int×Int×Int×Int×Int×Bool×(List Int)×(List Int)×Int×Int×Int×Bool×Int×Int×Int×(List Int)×Int×Int×Int×Bool×Int×Int×Int×(List Int)×Int×Int×(List Int))→Option Ans) (B:(Int×Int×Int×Int×Int×Int×Bool×(List Int)×(List Int)×Int×Int×Int×Bool×Int×Int×Int×(List Int)×Int×Int×Int×Bool×Int×Int×Int×(List Int)×Int×Int×(List Int)→Option Ans)):Option Ans:=match v with | (y,z,A,C,D,E,F,G,H,I,a,b,d,e,f,g,h,i,j,k,l,m,n,o,p,q,r,s,t,u,w,x)=>Sg_refine_Put_d0e_3 fuel (F_coder_Encoder_Put_cf0 fuel) (F_bitmap_Valid fuel) (F_coder_Encoder_Model_a20 fuel) (F_refine_contexts fuel) (F_refine_Valid fuel) (F_refine_fits fuel) (F_refine_newRegion fuel) (F_refine_region_typical_1c7 fuel) (F_refine_region_flat_0d1 fuel) (F_refine_region_context_0d1 fuel) (F_refine_grid_at fuel) y z A C D E F G H I a b d e f g h i j k l m n o p q r s t u w x c B
def L_refine_Put_d0e_3 (fuel:Nat) (v:V_refine_Put_d0e_3) (b:W_refine_Put_d0e_3):Option Ans:=iter (S_refine_Put_d0e_3 fuel) fuel v b
def T167_d0e_3 (v:V_refine_Put_d0e_3):Ev.St:=match v with | (y,z,A,B,C,D,E,F,G,H,a,b,d,e,f,g,h,i,j,k,l,m,n,o,p,q,r,s,t,u,w,x)=>⟨[(0,.c (.ptr 0 0)),(1,.c (i6 y)),(7,.c (.ptr 3 0)),(8,.c (.ptr 4 0)),(11,.c (.ptr 5 0)),(12,.c (i6 z)),(13,.c (.bool A)),(52,.c (i6 B)),(53,.c (i6 C)),(75,.c (i6 D)),(76,.c (i6 E))],[(0,.cells 173 (i6 F::.own 1::ctb (.int .u64 G::.int .u64 H::.own 2::.bool a::[]))),(1,.vec 3 (.int .i64) b false),(2,.vec 5 (.int .u8) d true),(3,.cells 135 [i6 e,i6 f,i6 g,.bool h,i6 i]),(4,.cells 51 [i6 j,i6 k,.sl (.int .u8) l]),(5,.cells 266 [i6 m,i6 n,i6 o,.bool p,i6 q,i6 r,i6 s,.sl (.int .u8) t,i6 u,i6 w,.sl (.int .u8) x])],6,3⟩
def E167_d0e_3 (K:KT):W_refine_Put_d0e_3:=(fun v=>match v with | (t,u,w,x,y,z,A,B,C,D,a,b,d,e,f,g,h,i,j,k,l,m,n,o,p,q,r,s)=>K .normal ⟨[(0,.c (.ptr 0 0)),(1,.c (i6 t)),(7,.c (.ptr 3 0)),(8,.c (.ptr 4 0)),(11,.c (.ptr 5 0)),(52,.c (i6 u)),(53,.c (i6 w))],[(0,.cells 173 (i6 x::.own 1::ctb (.int .u64 y::.int .u64 z::.own 2::.bool A::[]))),(1,.vec 3 (.int .i64) B false),(2,.vec 5 (.int .u8) C true),(3,.cells 135 [i6 D,i6 a,i6 b,.bool d,i6 e]),(4,.cells 51 [i6 f,i6 g,.sl (.int .u8) h]),(5,.cells 266 [i6 i,i6 j,i6 k,.bool l,i6 m,i6 n,i6 o,.sl (.int .u8) p,i6 q,i6 r,.sl (.int .u8) s])],6,3⟩)
theorem S167_d0e_3_okg (fuel:Nat) (a:YF121_cf0) (f:YF122) (b:YF126_a20) (g:YF228) (h:YF229) (i:YF230) (j:YF231) (c:YF232_1c7) (d:YF233_0d1) (e:YF234_0d1) (k:YF235) (R:Ev.St→OA) (K:KT) (I J:Int) (L:Bool) (M N:Int) (O P:Int) (Q S T:Int) (l:Bool) (m n:LI) (o p q:Int) (r:Bool) (s t u:Int) (w:LI) (x y z:Int) (A:Bool) (B C D:Int) (E:LI) (F G:Int) (H:LI):evalCode tab (Gg167_d0e a f b g h i j c d e k) J0 kp167_d0e fuel (bodyOf 3 Tryz.f167) (T167_d0e_3 (I,J,L,M,N,O,P,Q,S,T,l,m,n,o,p,q,r,s,t,u,w,x,y,z,A,B,C,D,E,F,G,H)) (lc kp167_d0e 20 3 R K)=Sg_refine_Put_d0e_3 fuel a f b g h i j c d e k I J L M N O P Q S T l m n o p q r s t u w x y z A B C D E F G H (fun v=>R (T167_d0e_3 v)) (E167_d0e_3 K):=by
  kernel_rfl
def B167_d0e_3 (fuel:Nat):Ev.Blk:=fun st K=>match canonO (kp167_d0e 20) st with | some s=>(match s with | ⟨[(Z,.c (.ptr a0 a1)),(a2,.c (i6 a3)),(a4,.c (.ptr a5 a6)),(a7,.c (.ptr a8 a9)),(a,.c (.ptr b d)),(e,.c (i6 b0)),(f,.c (.bool b1)),(g,.c (i6 b2)),(h,.c (i6 b3)),(i,.c (i6 b4)),(j,.c (i6 b5))],[(k,.cells l m),(n,.vec o (.int .i64) p false),(q,.vec r (.int .u8) t true),(u,.cells v [i6 w,i6 x,i6 y,.bool z,i6 A]),(B,.cells C [i6 D,i6 E,.sl (.int .u8) F]),(G,.cells H [i6 I,i6 J,i6 L,.bool M,i6 N,i6 O,i6 P,.sl (.int .u8) Q,i6 R,i6 S,.sl (.int .u8) T])],U,V⟩=>(match splitRun 2 ctn m with | some ([i6 b6,.own W],[.int .u64 b7,.int .u64 b8,.own X,.bool Y])=>bif qb [Z,a0,a1,a2,a4,a5,a6,a7,a8,a9,a,b,d,e,f,g,h,i,j,k,l,n,o,q,r,u,v,B,C,G,H,U,V,W,X] [0,0,0,1,7,3,0,8,4,0,11,5,0,12,13,52,53,75,76,0,173,1,3,2,5,3,135,4,51,5,266,6,3,1,2] then iter (S_refine_Put_d0e_3 fuel) fuel (a3,b0,b1,b2,b3,b4,b5,b6,b7,b8,Y,p,t,w,x,y,z,A,D,E,F,I,J,L,M,N,O,P,Q,R,S,T) (E167_d0e_3 K) else none | _=>none) | _=>none) | none=>none
theorem B167_d0e_3_ok (fuel:Nat) (st:Ev.St) (K:KT) (r:Ans) (h:B167_d0e_3 fuel st K=some r):evalCode tab (G167_d0e fuel) J0 kp167_d0e fuel (.block 3 (.loop (bodyOf 3 Tryz.f167))) st K=some r:=by
  unfold B167_d0e_3 at h
  split at h
  · rename_i s hs
    split at h
    · skip
      split at h
      rotate_left 1
      · cases h
      rename_i hsp
      have esp:=splitRun_eq hsp
      subst esp
      obtain ⟨hb,h⟩:=cond_some' h
      cases qb_eq hb
      exact blk_loop (S:=T167_d0e_3) (ks:=E167_d0e_3) (step:=S_refine_Put_d0e_3 fuel) (v:=(_,_,_,_,_,_,_,_,_,_,_,_,_,_,_,_,_,_,_,_,_,_,_,_,_,_,_,_,_,_,_,_)) (by kernel_rfl) (by kernel_rfl) (fun R K v=>by obtain ⟨A,B,C,D,E,F,G,H,I,J,a,b,c,d,e,f,g,i,j,k,l,m,n,o,p,q,t,u,w,x,y,z⟩:=v; exact S167_d0e_3_okg fuel (F_coder_Encoder_Put_cf0 fuel) (F_bitmap_Valid fuel) (F_coder_Encoder_Model_a20 fuel) (F_refine_contexts fuel) (F_refine_Valid fuel) (F_refine_fits fuel) (F_refine_newRegion fuel) (F_refine_region_typical_1c7 fuel) (F_refine_region_flat_0d1 fuel) (F_refine_region_context_0d1 fuel) (F_refine_grid_at fuel) R K A B C D E F G H I J a b c d e f g i j k l m n o p q t u w x y z) hs h
    · cases h
  · cases h
abbrev V_refine_Put_d0e_1:Type:=Int×Int×Int×Int×Int×Int×Bool×LI×LI×Int×Int×Int×Bool×Int×Int×Int×LI×Int×Int×Int×Bool×Int×Int×Int×LI×Int×Int×LI
abbrev W_refine_Put_d0e_1:Type:=(Int×Int×Int×Bool×LI×LI→OA)
def Sg_refine_Put_d0e_1 (fuel:Nat) (c5:YF121_cf0) (e1:YF122) (d8:YF126_a20) (c7:YF228) (e2:YF229) (e3:YF230) (e4:YF231) (d5:YF232_1c7) (d9:YF233_0d1) (e0:YF234_0d1) (e5:YF235) (I K:Int) (a X:Int) (Y Z:Int) (a0:Bool) (a1 a2:LI) (J L M:Int) (H:Bool) (N d O:Int) (P:LI) (b4 b5 b6:Int) (b7:Bool) (b8 b9 c0:Int) (c1:LI) (c2 c3:Int) (c4:LI) (c:V_refine_Put_d0e_1→OA) (B:W_refine_Put_d0e_1):OA:=match B with | b=>bif decide (a < K) then bif H then (d5 a b4 b5 b6 b7 b8 b9 c0 c1 c2 c3 c4 (fun (W,a5,a6,a7,a8,a9,b0,b1,b2,b3,a3,a4)=>bif H then bif W then (c7 J (fun d4=>(c5 (i64.wrap (I+d4)) (1) X Y Z a0 a1 a2 (fun (c6,Q,R,S,T,U,V)=>(L_refine_Put_d0e_3 fuel (I,a,W,K,a,d,0,Q,R,S,T,U,V,J,L,M,H,N,d,O,P,a5,a6,a7,a8,a9,b0,b1,b2,b3,a3,a4) (fun (w,x,y,z,A,C,D,E,F,G,e,f,g,h,i,j,k,l,m,n,o,p,q,r,s,t,u,v)=>c (w,x,i64.wrap (y+1),z,A,C,D,E,F,G,e,f,g,h,i,j,k,l,m,n,o,p,q,r,s,t,u,v)))) (fun (c6,Q,R,S,T,U,V)=>(L_refine_Put_d0e_3 fuel (I,a,W,K,a,d,0,Q,R,S,T,U,V,J,L,M,H,N,d,O,P,a5,a6,a7,a8,a9,b0,b1,b2,b3,a3,a4) (fun (w,x,y,z,A,C,D,E,F,G,e,f,g,h,i,j,k,l,m,n,o,p,q,r,s,t,u,v)=>c (w,x,i64.wrap (y+1),z,A,C,D,E,F,G,e,f,g,h,i,j,k,l,m,n,o,p,q,r,s,t,u,v))))))) else (c7 J (fun d4=>(c5 (i64.wrap (I+d4)) (0) X Y Z a0 a1 a2 (fun (c6,Q,R,S,T,U,V)=>(L_refine_Put_d0e_3 fuel (I,a,W,K,a,d,0,Q,R,S,T,U,V,J,L,M,H,N,d,O,P,a5,a6,a7,a8,a9,b0,b1,b2,b3,a3,a4) (fun (w,x,y,z,A,C,D,E,F,G,e,f,g,h,i,j,k,l,m,n,o,p,q,r,s,t,u,v)=>c (w,x,i64.wrap (y+1),z,A,C,D,E,F,G,e,f,g,h,i,j,k,l,m,n,o,p,q,r,s,t,u,v)))) (fun (c6,Q,R,S,T,U,V)=>(L_refine_Put_d0e_3 fuel (I,a,W,K,a,d,0,Q,R,S,T,U,V,J,L,M,H,N,d,O,P,a5,a6,a7,a8,a9,b0,b1,b2,b3,a3,a4) (fun (w,x,y,z,A,C,D,E,F,G,e,f,g,h,i,j,k,l,m,n,o,p,q,r,s,t,u,v)=>c (w,x,i64.wrap (y+1),z,A,C,D,E,F,G,e,f,g,h,i,j,k,l,m,n,o,p,q,r,s,t,u,v))))))) else (L_refine_Put_d0e_3 fuel (I,a,W,K,a,d,0,X,Y,Z,a0,a1,a2,J,L,M,H,N,d,O,P,a5,a6,a7,a8,a9,b0,b1,b2,b3,a3,a4) (fun (w,x,y,z,A,C,D,E,F,G,e,f,g,h,i,j,k,l,m,n,o,p,q,r,s,t,u,v)=>c (w,x,i64.wrap (y+1),z,A,C,D,E,F,G,e,f,g,h,i,j,k,l,m,n,o,p,q,r,s,t,u,v))))) else bif H then (c7 J (fun d7=>(c5 (i64.wrap (I+d7)) (0) X Y Z a0 a1 a2 (fun (d6,c8,c9,d0,d1,d2,d3)=>(L_refine_Put_d0e_3 fuel (I,a,false,K,a,d,0,c8,c9,d0,d1,d2,d3,J,L,M,H,N,d,O,P,b4,b5,b6,b7,b8,b9,c0,c1,c2,c3,c4) (fun (w,x,y,z,A,C,D,E,F,G,e,f,g,h,i,j,k,l,m,n,o,p,q,r,s,t,u,v)=>c (w,x,i64.wrap (y+1),z,A,C,D,E,F,G,e,f,g,h,i,j,k,l,m,n,o,p,q,r,s,t,u,v)))) (fun (d6,c8,c9,d0,d1,d2,d3)=>(L_refine_Put_d0e_3 fuel (I,a,false,K,a,d,0,c8,c9,d0,d1,d2,d3,J,L,M,H,N,d,O,P,b4,b5,b6,b7,b8,b9,c0,c1,c2,c3,c4) (fun (w,x,y,z,A,C,D,E,F,G,e,f,g,h,i,j,k,l,m,n,o,p,q,r,s,t,u,v)=>c (w,x,i64.wrap (y+1),z,A,C,D,E,F,G,e,f,g,h,i,j,k,l,m,n,o,p,q,r,s,t,u,v))))))) else (L_refine_Put_d0e_3 fuel (I,a,false,K,a,d,0,X,Y,Z,a0,a1,a2,J,L,M,H,N,d,O,P,b4,b5,b6,b7,b8,b9,c0,c1,c2,c3,c4) (fun (w,x,y,z,A,C,D,E,F,G,e,f,g,h,i,j,k,l,m,n,o,p,q,r,s,t,u,v)=>c (w,x,i64.wrap (y+1),z,A,C,D,E,F,G,e,f,g,h,i,j,k,l,m,n,o,p,q,r,s,t,u,v))) else b (X,Y,Z,a0,a1,a2)
def S_refine_Put_d0e_1 (fuel:Nat) (v:Int×Int×Int×Int×Int×Int×Bool×(List Int)×(List Int)×Int×Int×Int×Bool×Int×Int×Int×(List Int)×Int×Int×Int×Bool×Int×Int×Int×(List Int)×Int×Int×(List Int)) (c:(Int×Int×Int×Int×Int×Int×Bool×(List Int)×(List Int)×Int×Int×Int×Bool×Int×Int×Int×(List Int)×Int×Int×Int×Bool×Int×Int×Int×(List Int)×Int×Int×(List Int))→Option Ans) (B:(Int×Int×Int×Bool×(List Int)×(List Int)→Option Ans)):Option Ans:=match v with | (t,u,w,x,y,z,A,C,D,E,a,b,d,e,f,g,h,i,j,k,l,m,n,o,p,q,r,s)=>Sg_refine_Put_d0e_1 fuel (F_coder_Encoder_Put_cf0 fuel) (F_bitmap_Valid fuel) (F_coder_Encoder_Model_a20 fuel) (F_refine_contexts fuel) (F_refine_Valid fuel) (F_refine_fits fuel) (F_refine_newRegion fuel) (F_refine_region_typical_1c7 fuel) (F_refine_region_flat_0d1 fuel) (F_refine_region_context_0d1 fuel) (F_refine_grid_at fuel) t u w x y z A C D E a b d e f g h i j k l m n o p q r s c B
def L_refine_Put_d0e_1 (fuel:Nat) (v:V_refine_Put_d0e_1) (b:W_refine_Put_d0e_1):Option Ans:=iter (S_refine_Put_d0e_1 fuel) fuel v b
def J167_d0e_1 (fuel:Nat) (i:Nat):Option Ev.Blk:=Ev.look i [(100003,B167_d0e_3 fuel)]
def T167_d0e_1 (v:V_refine_Put_d0e_1):Ev.St:=match v with | (t,u,w,x,y,z,A,B,C,D,a,b,d,e,f,g,h,i,j,k,l,m,n,o,p,q,r,s)=>⟨[(0,.c (.ptr 0 0)),(1,.c (i6 t)),(7,.c (.ptr 3 0)),(8,.c (.ptr 4 0)),(11,.c (.ptr 5 0)),(52,.c (i6 u)),(53,.c (i6 w))],[(0,.cells 173 (i6 x::.own 1::ctb (.int .u64 y::.int .u64 z::.own 2::.bool A::[]))),(1,.vec 3 (.int .i64) B false),(2,.vec 5 (.int .u8) C true),(3,.cells 135 [i6 D,i6 a,i6 b,.bool d,i6 e]),(4,.cells 51 [i6 f,i6 g,.sl (.int .u8) h]),(5,.cells 266 [i6 i,i6 j,i6 k,.bool l,i6 m,i6 n,i6 o,.sl (.int .u8) p,i6 q,i6 r,.sl (.int .u8) s])],6,3⟩
def E167_d0e_1 (K:KT):W_refine_Put_d0e_1:=(fun v=>match v with | (a,b,c,d,e,f)=>K .normal ⟨[],[(0,.cells 173 (i6 a::.own 1::ctb (.int .u64 b::.int .u64 c::.own 2::.bool d::[]))),(1,.vec 3 (.int .i64) e false),(2,.vec 5 (.int .u8) f true)],3,3⟩)
theorem S167_d0e_1_okg (fuel:Nat) (a:YF121_cf0) (f:YF122) (b:YF126_a20) (g:YF228) (h:YF229) (i:YF230) (j:YF231) (c:YF232_1c7) (d:YF233_0d1) (e:YF234_0d1) (k:YF235) (R:Ev.St→OA) (K:KT) (E F:Int) (G H:Int) (I J:Int) (L:Bool) (M N:LI) (O l m:Int) (n:Bool) (o p q:Int) (r:LI) (s t u:Int) (w:Bool) (x y z:Int) (A:LI) (B C:Int) (D:LI):evalCode tab (Gg167_d0e a f b g h i j c d e k) (J167_d0e_1 fuel) kp167_d0e fuel (bodyOf 1 Tryz.f167) (T167_d0e_1 (E,F,G,H,I,J,L,M,N,O,l,m,n,o,p,q,r,s,t,u,w,x,y,z,A,B,C,D)) (lc kp167_d0e 11 1 R K)=Sg_refine_Put_d0e_1 fuel a f b g h i j c d e k E F G H I J L M N O l m n o p q r s t u w x y z A B C D (fun v=>R (T167_d0e_1 v)) (E167_d0e_1 K):=by
  kernel_rfl
def B167_d0e_1 (fuel:Nat):Ev.Blk:=fun st K=>match canonO (kp167_d0e 11) st with | some s=>(match s with | ⟨[(R,.c (.ptr S T)),(U,.c (i6 V)),(W,.c (.ptr X Y)),(Z,.c (.ptr a0 a1)),(a,.c (.ptr b d)),(e,.c (i6 a2)),(f,.c (i6 a3))],[(g,.cells h i),(j,.vec k (.int .i64) a4 false),(l,.vec m (.int .u8) a5 true),(n,.cells o [i6 a6,i6 p,i6 q,.bool r,i6 t]),(u,.cells v [i6 w,i6 x,.sl (.int .u8) y]),(z,.cells A [i6 B,i6 C,i6 D,.bool E,i6 F,i6 G,i6 H,.sl (.int .u8) I,i6 J,i6 L,.sl (.int .u8) M])],N,O⟩=>(match splitRun 2 ctn i with | some ([i6 a7,.own P],[.int .u64 a8,.int .u64 a9,.own Q,.bool b0])=>bif qb [R,S,T,U,W,X,Y,Z,a0,a1,a,b,d,e,f,g,h,j,k,l,m,n,o,u,v,z,A,N,O,P,Q] [0,0,0,1,7,3,0,8,4,0,11,5,0,52,53,0,173,1,3,2,5,3,135,4,51,5,266,6,3,1,2] then iter (S_refine_Put_d0e_1 fuel) fuel (V,a2,a3,a7,a8,a9,b0,a4,a5,a6,p,q,r,t,w,x,y,B,C,D,E,F,G,H,I,J,L,M) (E167_d0e_1 K) else none | _=>none) | _=>none) | none=>none
theorem B167_d0e_1_ok (fuel:Nat) (st:Ev.St) (K:KT) (r:Ans) (h:B167_d0e_1 fuel st K=some r):evalCode tab (G167_d0e fuel) (J167_d0e_1 fuel) kp167_d0e fuel (.block 1 (.loop (bodyOf 1 Tryz.f167))) st K=some r:=by
  unfold B167_d0e_1 at h
  split at h
  · rename_i s hs
    split at h
    · skip
      split at h
      rotate_left 1
      · cases h
      rename_i hsp
      have esp:=splitRun_eq hsp
      subst esp
      obtain ⟨hb,h⟩:=cond_some' h
      cases qb_eq hb
      exact blk_loop (S:=T167_d0e_1) (ks:=E167_d0e_1) (step:=S_refine_Put_d0e_1 fuel) (v:=(_,_,_,_,_,_,_,_,_,_,_,_,_,_,_,_,_,_,_,_,_,_,_,_,_,_,_,_)) (by kernel_rfl) (by kernel_rfl) (fun R K v=>by obtain ⟨w,x,y,z,A,B,C,D,E,F,a,b,c,d,e,f,g,i,j,k,l,m,n,o,p,q,t,u⟩:=v; exact S167_d0e_1_okg fuel (F_coder_Encoder_Put_cf0 fuel) (F_bitmap_Valid fuel) (F_coder_Encoder_Model_a20 fuel) (F_refine_contexts fuel) (F_refine_Valid fuel) (F_refine_fits fuel) (F_refine_newRegion fuel) (F_refine_region_typical_1c7 fuel) (F_refine_region_flat_0d1 fuel) (F_refine_region_context_0d1 fuel) (F_refine_grid_at fuel) R K w x y z A B C D E F a b c d e f g i j k l m n o p q t u) hs h
    · cases h
  · cases h
def J167_d0e (fuel:Nat) (i:Nat):Option Ev.Blk:=Ev.look i [(100003,B167_d0e_3 fuel),(100001,B167_d0e_1 fuel)]
def F_refine_Put_d0e (fuel:Nat) (w g:Int) (h i:Int) (j:Bool) (k m l:Int) (n:(List Int)) (x u:Int) (v:(List Int)) (W X Y:Int) (Z:Bool) (a0 a1:(List Int)) (k0:(Int×Int×Int×Int×Bool×(List Int)×(List Int))→Option Ans):Option Ans:=(F_coder_Encoder_Put_cf0 fuel ((-1:Int)) (0) W X Y Z a0 a1 (fun (L,a,b,c,d,e,f)=>bif L==7 then k0 (7,a,b,c,d,e,f) else (F_refine_Valid fuel g h i j k (fun V=>bif !V then k0 (2,a,b,c,d,e,f) else (F_bitmap_Valid fuel m l n (fun S=>bif !S then k0 (30,a,b,c,d,e,f) else (F_bitmap_Valid fuel x u v (fun T=>bif !T then k0 (30,a,b,c,d,e,f) else (F_coder_Encoder_Model_a20 fuel a b c d e f (fun (z,o,p,q,r,s,t,A)=>(F_refine_fits fuel z A w g h i j k (fun U=>bif !U then k0 (2,o,p,q,r,s,t) else (F_refine_newRegion fuel g h i j k m l n x u v (fun (B,C,D,E,F,G,H,I,J,K,y)=>(L_refine_Put_d0e_1 fuel (w,l,0,o,p,q,r,s,t,g,h,i,j,k,m,l,n,B,C,D,E,F,G,H,I,J,K,y) (fun (M,N,O,P,Q,R)=>k0 (0,M,N,O,P,Q,R)))))))))))))))) (fun (L,a,b,c,d,e,f)=>bif L==7 then k0 (7,a,b,c,d,e,f) else (F_refine_Valid fuel g h i j k (fun V=>bif !V then k0 (2,a,b,c,d,e,f) else (F_bitmap_Valid fuel m l n (fun S=>bif !S then k0 (30,a,b,c,d,e,f) else (F_bitmap_Valid fuel x u v (fun T=>bif !T then k0 (30,a,b,c,d,e,f) else (F_coder_Encoder_Model_a20 fuel a b c d e f (fun (z,o,p,q,r,s,t,A)=>(F_refine_fits fuel z A w g h i j k (fun U=>bif !U then k0 (2,o,p,q,r,s,t) else (F_refine_newRegion fuel g h i j k m l n x u v (fun (B,C,D,E,F,G,H,I,J,K,y)=>(L_refine_Put_d0e_1 fuel (w,l,0,o,p,q,r,s,t,g,h,i,j,k,m,l,n,B,C,D,E,F,G,H,I,J,K,y) (fun (M,N,O,P,Q,R)=>k0 (0,M,N,O,P,Q,R)))))))))))))))))
abbrev YF167_d0e:Type:=Int→Int→Int→Int→Bool→Int→Int→Int→LI→Int→Int→LI→Int→Int→Int→Bool→LI→LI→((Int×Int×Int×Int×Bool×LI×LI)→Option Ans)→Option Ans
theorem F167_d0e_eqg (fuel:Nat) (a4:YF121_cf0) (x:YF122) (C:YF126_a20) (b4:YF228) (Q:YF229) (R:YF230) (S:YF231) (b1:YF232_1c7) (b2:YF233_0d1) (b3:YF234_0d1) (b5:YF235) (A h:Int) (i j:Int) (l:Bool) (m o n:Int) (p:LI) (B y:Int) (z:LI) (a5 a6 a7:Int) (a8:Bool) (a9 b0:LI) (k:Ev.Cont):evalFn tab (Gg167_d0e a4 x C b4 Q R S b1 b2 b3 b5) (J167_d0e fuel) kp167_d0e fuel Tryz.f167 [.c (.ptr 0 0),.c (i6 A),.agg [i6 h,i6 i,i6 j,.bool l,i6 m],.agg [i6 o,i6 n,.sl (.int .u8) p],.agg [i6 B,i6 y,.sl (.int .u8) z]] [.cells 173 (i6 a5::.own 1::ctb (.int .u64 a6::.int .u64 a7::.own 2::.bool a8::[])),.vec 3 (.int .i64) a9 false,.vec 5 (.int .u8) b0 false] (wkC [1000002] k)=(fun  (k0:(Int×Int×Int×Int×Bool×LI×LI)→OA)=>
  (a4 ((-1:Int)) ((0:Int)) a5 a6 a7 a8 a9 b0
  (fun (T,a,b,d,e,f,g)=>
  bif T==(7:Int) then
  k0 ((7:Int),a,b,d,e,f,g)
  else
  (Q h i j l m
  (fun a3=>
  bif !a3 then
  k0 ((2:Int),a,b,d,e,f,g)
  else
  (x o n p
  (fun a0=>
  bif !a0 then
  k0 ((30:Int),a,b,d,e,f,g)
  else
  (x B y z
  (fun a1=>
  bif !a1 then
  k0 ((30:Int),a,b,d,e,f,g)
  else
  (C a b d e f g
  (fun (E,q,s,t,u,v,w,F)=>
  (R E F A h i j l m
  (fun a2=>
  bif !a2 then
  k0 ((2:Int),q,s,t,u,v,w)
  else
  (S h i j l m o n p B y z
  (fun (G,H,I,J,K,L,M,N,O,P,D)=>
  (L_refine_Put_d0e_1 fuel (A,n,(0:Int),q,s,t,u,v,w,h,i,j,l,m,o,n,p,G,H,I,J,K,L,M,N,O,P,D)
  (fun (U,V,W,X,Y,Z)=>
  k0 ((0:Int),U,V,W,X,Y,Z))))))))))))))))
  (fun (T,a,b,d,e,f,g)=>
  bif T==(7:Int) then
  k0 ((7:Int),a,b,d,e,f,g)
  else
  (Q h i j l m
  (fun a3=>
  bif !a3 then
  k0 ((2:Int),a,b,d,e,f,g)
  else
  (x o n p
  (fun a0=>
  bif !a0 then
  k0 ((30:Int),a,b,d,e,f,g)
  else
  (x B y z
  (fun a1=>
  bif !a1 then
  k0 ((30:Int),a,b,d,e,f,g)
  else
  (C a b d e f g
  (fun (E,q,s,t,u,v,w,F)=>
  (R E F A h i j l m
  (fun a2=>
  bif !a2 then
  k0 ((2:Int),q,s,t,u,v,w)
  else
  (S h i j l m o n p B y z
  (fun (G,H,I,J,K,L,M,N,O,P,D)=>
  (L_refine_Put_d0e_1 fuel (A,n,(0:Int),q,s,t,u,v,w,h,i,j,l,m,o,n,p,G,H,I,J,K,L,M,N,O,P,D)
  (fun (U,V,W,X,Y,Z)=>
  k0 ((0:Int),U,V,W,X,Y,Z)))))))))))))))))) (fun r=>match r with | (b6,b7,b8,b9,c0,c1,c2)=>k (.c (i6 b6),[.cells 173 (i6 b7::.own 1::ctb (.int .u64 b8::.int .u64 b9::.own 2::.bool c0::[])),.vec 3 (.int .i64) c1 false,.vec 5 (.int .u8) c2 true])):=by
  kernel_rfl
theorem hG167_d0e (fuel:Nat):GOK Tryz.prog (G167_d0e fuel):=
  gc (ok121_cf0 fuel) Tryz.func121 (by kernel_rfl) rfl <|
  gc (ok122 fuel) Tryz.func122 (by kernel_rfl) rfl <|
  gc (ok126_a20 fuel) Tryz.func126 (by kernel_rfl) rfl <|
  gc (ok228 fuel) Tryz.func228 (by kernel_rfl) rfl <|
  gc (ok229 fuel) Tryz.func229 (by kernel_rfl) rfl <|
  gc (ok230 fuel) Tryz.func230 (by kernel_rfl) rfl <|
  gc (ok231 fuel) Tryz.func231 (by kernel_rfl) rfl <|
  gc (ok232_1c7 fuel) Tryz.func232 (by kernel_rfl) rfl <|
  gc (ok233_0d1 fuel) Tryz.func233 (by kernel_rfl) rfl <|
  gc (ok234_0d1 fuel) Tryz.func234 (by kernel_rfl) rfl <|
  gc (ok235 fuel) Tryz.func235 (by kernel_rfl) rfl <|
  gok_nil
theorem B167_d0e_3_blk (fuel:Nat):BlkOK Tryz.prog Tryz.f167.ntmps (.block 3 (.loop (bodyOf 3 Tryz.f167))) (B167_d0e_3 fuel):=bo0 (hG167_d0e fuel) (by kernel_rfl) (by kernel_rfl) (B167_d0e_3_ok fuel)
theorem B167_d0e_1_blk (fuel:Nat):BlkOK Tryz.prog Tryz.f167.ntmps (.block 1 (.loop (bodyOf 1 Tryz.f167))) (B167_d0e_1 fuel):=
  blk_of (blk_of_code tab_ok (hG167_d0e fuel) mixed (J:=J167_d0e_1 fuel) (kp:=kp167_d0e) (fuel:=fuel) (by kernel_rfl) (fun q hq=>by
    rw [(by kernel_rfl:obl (J167_d0e_1 fuel) (.block 1 (.loop (bodyOf 1 Tryz.f167)))= [(.block 3 (.loop (bodyOf 3 Tryz.f167)),B167_d0e_3 fuel)])] at hq
    simp only [List.mem_cons,List.not_mem_nil,or_false] at hq
    subst hq
    · exact B167_d0e_3_blk fuel)) (B167_d0e_1_ok fuel)
theorem fok167_d0e (fuel:Nat):FnOK Tryz.prog 167 (evalFn tab (G167_d0e fuel) (J167_d0e fuel) kp167_d0e fuel Tryz.f167):=
  fn_ok tab_ok (hG167_d0e fuel) mixed Tryz.func167 (c:=(Tryz.f167.body).getD .skip) rfl (fun q hq=>by
    rw [(by kernel_rfl:obl (J167_d0e fuel) ((Tryz.f167.body).getD .skip)= [(.block 1 (.loop (bodyOf 1 Tryz.f167)),B167_d0e_1 fuel)])] at hq
    simp only [List.mem_cons,List.not_mem_nil,or_false] at hq
    subst hq
    · exact B167_d0e_1_blk fuel)
def spg167_d0e (F:YF167_d0e):Ev.Spec:=fun args objs k=>match args,objs with | [.c (.ptr l m),.c (i6 n),.agg [i6 o,i6 p,i6 q,.bool s,i6 t],.agg [i6 u,i6 v,.sl (.int .u8) w],.agg [i6 x,i6 a,.sl (.int .u8) b]],[.cells y d,.vec z (.int .i64) e false,.vec A (.int .u8) f false]=>(match splitRun 2 ctn d with | some ([i6 g,.own B],[.int .u64 h,.int .u64 i,.own C,.bool j])=>bif qb [l,m,y,z,A,B,C] [0,0,173,3,5,1,2] then F n o p q s t u v w x a b g h i j e f (fun r=>match r with | (D,E,G,H,I,J,K)=>k (.c (i6 D),[.cells 173 (i6 E::.own 1::ctb (.int .u64 G::.int .u64 H::.own 2::.bool I::[])),.vec 3 (.int .i64) J false,.vec 5 (.int .u8) K true])) else none | _=>none) | _,_=>none
theorem ok167_d0e (fuel:Nat):FnOK Tryz.prog 167 (spg167_d0e (F_refine_Put_d0e fuel)):=by
  intro args objs kk r h
  unfold spg167_d0e at h
  split at h
  · skip
    split at h
    rotate_left 1
    · cases h
    rename_i hsp
    have esp:=splitRun_eq hsp
    subst esp
    obtain ⟨hb,h⟩:=cond_some' h
    cases qb_eq hb
    exact (fok167_d0e fuel).wk [1000002] _ _ kk r ((F167_d0e_eqg fuel (F_coder_Encoder_Put_cf0 fuel) (F_bitmap_Valid fuel) (F_coder_Encoder_Model_a20 fuel) (F_refine_contexts fuel) (F_refine_Valid fuel) (F_refine_fits fuel) (F_refine_newRegion fuel) (F_refine_region_typical_1c7 fuel) (F_refine_region_flat_0d1 fuel) (F_refine_region_context_0d1 fuel) (F_refine_grid_at fuel) _ _ _ _ _ _ _ _ _ _ _ _ _ _ _ _ _ _ kk).trans h)
  · cases h
def kp168 (i:Nat):Option (List Nat):=Ev.look i []
def Gg168 (f:Nat):Option Ev.Spec:=Ev.look f []
def G168 (fuel:Nat):Nat→Option Ev.Spec:=Gg168
def F_text_layout_options (fuel:Nat) (f g:Int) (h:Bool) (i j c:Int) (k:Bool) (d l:Int) (m e:Int) (a b:Int) (k0:(Int×Int×Int×Bool×Int)→Option Ans):Option Ans:=k0 (d,a,b,false,c)
abbrev YF168:Type:=Int→Int→Bool→Int→Int→Int→Bool→Int→Int→Int→Int→Int→Int→((Int×Int×Int×Bool×Int)→Option Ans)→Option Ans
theorem F168_eq (fuel:Nat) (e f:Int) (g:Bool) (h i j:Int) (l:Bool) (m n:Int) (o a:Int) (b d:Int) (k:Ev.Cont):evalFn tab (G168 fuel) J0 kp168 fuel Tryz.f168 [.agg [i6 e,i6 f,.bool g,i6 h,i6 i,i6 j,.bool l,i6 m,i6 n,i6 o,i6 a],.c (i6 b),.c (i6 d)] [] k=F_text_layout_options fuel e f g h i j l m n o a b d (fun r=>match r with | (p,q,s,t,u)=>k (.agg [i6 p,i6 q,i6 s,.bool t,i6 u],[])):=by
  kernel_rfl
theorem hG168 (fuel:Nat):GOK Tryz.prog (G168 fuel):=
  gok_nil
def spg168 (F:YF168):Ev.Spec:=fun args objs k=>match args,objs with | [.agg [i6 e,i6 f,.bool g,i6 h,i6 i,i6 j,.bool l,i6 m,i6 n,i6 o,i6 a],.c (i6 b),.c (i6 d)],[]=>F e f g h i j l m n o a b d (fun r=>match r with | (p,q,s,t,u)=>k (.agg [i6 p,i6 q,i6 s,.bool t,i6 u],[])) | _,_=>none
theorem ok168 (fuel:Nat):FnOK Tryz.prog 168 (spg168 (F_text_layout_options fuel)):=by
  intro args objs kk r h
  unfold spg168 at h
  split at h
  · skip
    exact fo0 (hG168 fuel) Tryz.func168 rfl (by kernel_rfl) _ _ kk r ((F168_eq fuel _ _ _ _ _ _ _ _ _ _ _ _ _ kk).trans h)
  · cases h
def kp79_9ea (i:Nat):Option (List Nat):=Ev.look i [(600000,[])]
def Gg79_9ea (a:YF81_856) (f:Nat):Option Ev.Spec:=Ev.look f [(81,spg81_856 a)]
def G79_9ea (fuel:Nat):Nat→Option Ev.Spec:=Gg79_9ea (F_number_Put_856 fuel)
def Fg_text_writer_put_9ea (fuel:Nat) (a:YF81_856) (r s:Int) (t u:Int) (v:Bool) (w x y:Int) (z:Bool) (A h:Int) (i j:Int) (k:(List (Int×(Int×LI)))) (l m n:Int) (o:Bool) (p q:LI) (k0:(Int×Int×Bool×Int×Int×Int×Bool×Int×Int×Int×Int×(List (Int×(Int×LI)))×Int×Int×Int×Bool×LI×LI)→OA):OA:=(a r (false) s l m n o p q (fun (B,b,c,d,e,f,g)=>k0 (t,u,v,w,x,y,z,A,h,i,j,k,b,c,d,e,f,g)))
abbrev YF79_9ea:Type:=Int→Int→Int→Int→Bool→Int→Int→Int→Bool→Int→Int→Int→Int→((List (Int×(Int×LI))))→Int→Int→Int→Bool→LI→LI→((Int×Int×Bool×Int×Int×Int×Bool×Int×Int×Int×Int×(List (Int×(Int×LI)))×Int×Int×Int×Bool×LI×LI)→Option Ans)→Option Ans
def F_text_writer_put_9ea (fuel:Nat):YF79_9ea:=Fg_text_writer_put_9ea fuel (F_number_Put_856 fuel)
theorem F79_9ea_eqg (fuel:Nat) (a:YF81_856) (n o:Int) (p q:Int) (s:Bool) (t u v:Int) (w:Bool) (x b:Int) (d e:Int) (f:(List (Int×(Int×LI)))) (g h i:Int) (j:Bool) (l m:LI) (k:Ev.Cont):evalFn tab (Gg79_9ea a) J0 kp79_9ea fuel Tryz.f79 [.c (.ptr 0 0),.c (i6 n),.c (i6 o)] [.cells 119 [i6 p,i6 q,.bool s,i6 t,i6 u,i6 v,.bool w,i6 x,i6 b,i6 d,i6 e,.ptr 1 0,.sl (.pair (.int .i64) (.pair (.int .i64) (.sl (.int .u8)))) f],.cells 173 (i6 g::.own 2::ctb (.int .u64 h::.int .u64 i::.own 3::.bool j::[])),.vec 3 (.int .i64) l false,.vec 5 (.int .u8) m false] k=Fg_text_writer_put_9ea fuel a n o p q s t u v w x b d e f g h i j l m (fun r=>match r with | (G,H,I,J,K,L,M,N,O,P,y,z,A,B,C,D,E,F)=>k (.tup [],[.cells 119 [i6 G,i6 H,.bool I,i6 J,i6 K,i6 L,.bool M,i6 N,i6 O,i6 P,i6 y,.ptr 1 0,.sl (.pair (.int .i64) (.pair (.int .i64) (.sl (.int .u8)))) z],.cells 173 (i6 A::.own 2::ctb (.int .u64 B::.int .u64 C::.own 3::.bool D::[])),.vec 3 (.int .i64) E false,.vec 5 (.int .u8) F true])):=by
  kernel_rfl
theorem hG79_9ea (fuel:Nat):GOK Tryz.prog (G79_9ea fuel):=
  gc (ok81_856 fuel) Tryz.func81 (by kernel_rfl) rfl <|
  gok_nil
def spg79_9ea (F:YF79_9ea):Ev.Spec:=fun args objs k=>match args,objs with | [.c (.ptr w x),.c (i6 y),.c (i6 z)],[.cells A [i6 B,i6 C,.bool D,i6 E,i6 G,i6 H,.bool I,i6 J,i6 a,i6 b,i6 d,.ptr K L,.sl (.pair (.int .i64) (.pair (.int .i64) (.sl (.int .u8)))) e],.cells M f,.vec N (.int .i64) g false,.vec O (.int .u8) h false]=>(match splitRun 2 ctn f with | some ([i6 i,.own P],[.int .u64 j,.int .u64 l,.own Q,.bool m])=>bif qb [w,x,A,K,L,M,N,O,P,Q] [0,0,119,1,0,173,3,5,2,3] then F y z B C D E G H I J a b d e i j l m g h (fun r=>match r with | (R,S,T,U,V,W,X,Y,Z,a0,n,o,p,q,s,t,u,v)=>k (.tup [],[.cells 119 [i6 R,i6 S,.bool T,i6 U,i6 V,i6 W,.bool X,i6 Y,i6 Z,i6 a0,i6 n,.ptr 1 0,.sl (.pair (.int .i64) (.pair (.int .i64) (.sl (.int .u8)))) o],.cells 173 (i6 p::.own 2::ctb (.int .u64 q::.int .u64 s::.own 3::.bool t::[])),.vec 3 (.int .i64) u false,.vec 5 (.int .u8) v true])) else none | _=>none) | _,_=>none
theorem ok79_9ea (fuel:Nat):FnOK Tryz.prog 79 (spg79_9ea (F_text_writer_put_9ea fuel)):=by
  intro args objs kk r h
  unfold spg79_9ea at h
  split at h
  · skip
    split at h
    rotate_left 1
    · cases h
    rename_i hsp
    have esp:=splitRun_eq hsp
    subst esp
    obtain ⟨hb,h⟩:=cond_some' h
    cases qb_eq hb
    exact fo0 (hG79_9ea fuel) Tryz.func79 rfl (by kernel_rfl) _ _ kk r ((F79_9ea_eqg fuel (F_number_Put_856 fuel) _ _ _ _ _ _ _ _ _ _ _ _ _ _ _ _ _ _ _ _ kk).trans h)
  · cases h
end
end Go.Proofs.YtipdidpalcmlhaaGreat

