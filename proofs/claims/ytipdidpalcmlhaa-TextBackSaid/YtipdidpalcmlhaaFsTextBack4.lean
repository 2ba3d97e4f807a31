/- What the functions that TextBack reaches do: their typed texts, each with the proof that the machine does it. No condition. -/
import Derived.Test.YtipdidpalcmlhaaEvX
import Derived.Test.YtipdidpalcmlhaaFsTextBack3
import Derived.Test.YtipdidpalcmlhaaFsTextBack1
import Derived.Test.YtipdidpalcmlhaaFsTextBack2
set_option linter.unusedVariables false
set_option linter.unusedSimpArgs false
set_option linter.unusedSectionVars false
set_option linter.unusedVariables false
set_option linter.unusedSimpArgs false
set_option maxRecDepth 100000
set_option maxHeartbeats 2000000
namespace Go.Proofs.Ytipdidpalcmlhaa
open Go Ev
open Go.IntKind (i64 u64 u8 i32 u32 u16)
noncomputable section
def kp66 (i:Nat):Option (List Nat):=Ev.look i []
def Gg66 (a:YF118) (f:Nat):Option Ev.Spec:=Ev.look f [(118,spg118 a)]
def G66 (fuel:Nat):Nat→Option Ev.Spec:=Gg66 (F_bitmap_fits fuel)
def Fg_bitmap_blank (fuel:Nat) (c:YF118) (a b:Int) (k0:(Int×Int×Int×LI)→OA):OA:=(c a b (fun d=>bif !d then k0 (0,0,4,[]) else bif decide (0≤i64.wrap (a*b)∧i64.wrap (a*b)=i64.wrap (a*b)∧(↑(1:Nat):Int)*i64.wrap (a*b)≤281474976710656∧i64.wrap (a*b)≤281474976710656) then k0 (a,b,0,List.replicate (i64.wrap (a*b)).toNat (0:Int)) else none))
abbrev YF66:Type:=Int→Int→((Int×Int×Int×LI)→Option Ans)→Option Ans
def F_bitmap_blank (fuel:Nat):YF66:=Fg_bitmap_blank fuel (F_bitmap_fits fuel)
theorem F66_eqg (fuel:Nat) (a:YF118) (b d:Int) (k:Ev.Cont):evalFn tab (Gg66 a) J0 kp66 fuel Try.f66 [.c (i6 b),.c (i6 d)] [] k=Fg_bitmap_blank fuel a b d (fun r=>match r with | (e,f,g,h)=>k (.tup [(true,[i6 e,i6 f,.own 0]),(false,[i6 g])],[.vec 5 (.int .u8) h true])):=by
  kernel_rfl
theorem hG66 (fuel:Nat):GOK Try.prog (G66 fuel):=
  gc (ok118 fuel) Try.func118 (by kernel_rfl) rfl <|
  gok_nil
def spg66 (F:YF66):Ev.Spec:=fun args objs k=>match args,objs with | [.c (i6 a),.c (i6 b)],[]=>F a b (fun r=>match r with | (d,e,f,g)=>k (.tup [(true,[i6 d,i6 e,.own 0]),(false,[i6 f])],[.vec 5 (.int .u8) g true])) | _,_=>none
theorem ok66 (fuel:Nat):FnOK Try.prog 66 (spg66 (F_bitmap_blank fuel)):=by
  intro args objs kk r h
  unfold spg66 at h
  split at h
  · skip
    exact fo0 (hG66 fuel) Try.func66 rfl (by kernel_rfl) _ _ kk r ((F66_eqg fuel (F_bitmap_fits fuel) _ _ kk).trans h)
  · cases h
def kp25 (i:Nat):Option (List Nat):=Ev.look i [(5,[2,6,8,9,34,35]),(100000,[6,8,9]),(400000,[6,7])]
def Gg25 (a:YF66) (f:Nat):Option Ev.Spec:=Ev.look f [(66,spg66 a)]
def G25 (fuel:Nat):Nat→Option Ev.Spec:=Gg25 (F_bitmap_blank fuel)
abbrev V_bitmap_New_0:Type:=Int×Int×Int×Int×Int×Int×Int×Int×LI×LI
abbrev W_bitmap_New_0:Type:=(Int×Int×Int×Int×Int×LI×LI→OA)
def Sg_bitmap_New_0 (fuel:Nat) (m:YF66) (e f:Int) (g a:Int) (h i:Int) (j k:Int) (l d:LI) (c:V_bitmap_New_0→OA) (B:W_bitmap_New_0):OA:=match B with | b=>bif decide (a < g) then bif decide (0≤a∧a < (↑d.length:Int)) then c (e,f,g,i64.wrap (a+1),h,i,j,k,l,d.set a.toNat (u8.wrap e)) else none else b (f,h,i,j,k,l,d)
def S_bitmap_New_0 (fuel:Nat) (v:Int×Int×Int×Int×Int×Int×Int×Int×(List Int)×(List Int)) (c:(Int×Int×Int×Int×Int×Int×Int×Int×(List Int)×(List Int))→Option Ans) (B:(Int×Int×Int×Int×Int×(List Int)×(List Int)→Option Ans)):Option Ans:=match v with | (a,b,d,e,f,g,h,i,j,k)=>Sg_bitmap_New_0 fuel (F_bitmap_blank fuel) a b d e f g h i j k c B
def L_bitmap_New_0 (fuel:Nat) (v:V_bitmap_New_0) (b:W_bitmap_New_0):Option Ans:=iter (S_bitmap_New_0 fuel) fuel v b
def T25_0 (v:V_bitmap_New_0):Ev.St:=match v with | (a,b,d,e,f,g,h,i,j,k)=>⟨[(2,.c (i6 a)),(6,.c (.ptr 0 0)),(8,.c (.ptr 1 0)),(9,.c (i6 b)),(34,.c (i6 d)),(35,.c (i6 e))],[(0,.cells 35 [i6 f,i6 g,.own 2]),(1,.cells 35 [i6 h,i6 i,.own 3]),(2,.vec 5 (.int .u8) j true),(3,.vec 5 (.int .u8) k true)],4,0⟩
def E25_0 (K:KT):W_bitmap_New_0:=(fun v=>match v with | (a,b,d,e,f,g,h)=>K .normal ⟨[(6,.c (.ptr 0 0)),(8,.c (.ptr 1 0)),(9,.c (i6 a))],[(0,.cells 35 [i6 b,i6 d,.own 2]),(1,.cells 35 [i6 e,i6 f,.own 3]),(2,.vec 5 (.int .u8) g true),(3,.vec 5 (.int .u8) h true)],4,0⟩)
theorem S25_0_okg (fuel:Nat) (a:YF66) (R:Ev.St→OA) (K:KT) (b c:Int) (d e:Int) (f g:Int) (h i:Int) (j k:LI):evalCode tab (Gg25 a) J0 kp25 fuel (bodyOf 0 Try.f25) (T25_0 (b,c,d,e,f,g,h,i,j,k)) (lc kp25 5 0 R K)=Sg_bitmap_New_0 fuel a b c d e f g h i j k (fun v=>R (T25_0 v)) (E25_0 K):=by
  kernel_rfl
def B25_0 (fuel:Nat):Ev.Blk:=fun st K=>match canonO (kp25 5) st with | some s=>(match s with | ⟨[(n,.c (i6 o)),(p,.c (.ptr q r)),(t,.c (.ptr u v)),(w,.c (i6 x)),(y,.c (i6 z)),(A,.c (i6 B))],[(a,.cells b [i6 C,i6 D,.own d]),(e,.cells f [i6 E,i6 F,.own g]),(h,.vec i (.int .u8) G true),(j,.vec k (.int .u8) H true)],l,m⟩=>bif qb [n,p,q,r,t,u,v,w,y,A,a,b,d,e,f,g,h,i,j,k,l,m] [2,6,0,0,8,1,0,9,34,35,0,35,2,1,35,3,2,5,3,5,4,0] then iter (S_bitmap_New_0 fuel) fuel (o,x,z,B,C,D,E,F,G,H) (E25_0 K) else none | _=>none) | none=>none
theorem B25_0_ok (fuel:Nat) (st:Ev.St) (K:KT) (r:Ans) (h:B25_0 fuel st K=some r):evalCode tab (G25 fuel) J0 kp25 fuel (.block 0 (.loop (bodyOf 0 Try.f25))) st K=some r:=by
  unfold B25_0 at h
  split at h
  · rename_i s hs
    split at h
    · skip
      obtain ⟨hb,h⟩:=cond_some' h
      cases qb_eq hb
      exact blk_loop (S:=T25_0) (ks:=E25_0) (step:=S_bitmap_New_0 fuel) (v:=(_,_,_,_,_,_,_,_,_,_)) (by kernel_rfl) (by kernel_rfl) (fun R K v=>by obtain ⟨a,b,c,d,e,f,g,i,j,k⟩:=v; exact S25_0_okg fuel (F_bitmap_blank fuel) R K a b c d e f g i j k) hs h
    · cases h
  · cases h
def J25 (fuel:Nat) (i:Nat):Option Ev.Blk:=Ev.look i [(100000,B25_0 fuel)]
def Fg_bitmap_New (fuel:Nat) (j:YF66) (f g a:Int) (k0:(Int×Int×Int×LI)→OA):OA:=bif decide (f < 0) then k0 (0,0,2,[]) else bif decide (g < 0) then k0 (0,0,2,[]) else bif a != 0 then bif a != 1 then k0 (0,0,2,[]) else (j f g (fun (k,l,m,h)=>(L_bitmap_New_0 fuel (a,m,(↑h.length:Int),0,0,0,k,l,[],h) (fun (b,n,o,c,d,p,e)=>k0 (c,d,b,e))))) else (j f g (fun (q,r,s,i)=>(L_bitmap_New_0 fuel (a,s,(↑i.length:Int),0,0,0,q,r,[],i) (fun (b,n,o,c,d,p,e)=>k0 (c,d,b,e)))))
abbrev YF25:Type:=Int→Int→Int→((Int×Int×Int×LI)→Option Ans)→Option Ans
def F_bitmap_New (fuel:Nat):YF25:=Fg_bitmap_New fuel (F_bitmap_blank fuel)
theorem F25_eqg (fuel:Nat) (a:YF66) (b d e:Int) (k:Ev.Cont):evalFn tab (Gg25 a) (J25 fuel) kp25 fuel Try.f25 [.c (i6 b),.c (i6 d),.c (i6 e)] [] k=Fg_bitmap_New fuel a b d e (fun r=>match r with | (f,g,h,i)=>k (.tup [(true,[i6 f,i6 g,.own 0]),(false,[i6 h])],[.vec 5 (.int .u8) i true])):=by
  kernel_rfl
theorem hG25 (fuel:Nat):GOK Try.prog (G25 fuel):=
  gc (ok66 fuel) Try.func66 (by kernel_rfl) rfl <|
  gok_nil
theorem B25_0_blk (fuel:Nat):BlkOK Try.prog Try.f25.ntmps (.block 0 (.loop (bodyOf 0 Try.f25))) (B25_0 fuel):=bo0 (hG25 fuel) (by kernel_rfl) (by kernel_rfl) (B25_0_ok fuel)
def spg25 (F:YF25):Ev.Spec:=fun args objs k=>match args,objs with | [.c (i6 a),.c (i6 b),.c (i6 d)],[]=>F a b d (fun r=>match r with | (e,f,g,h)=>k (.tup [(true,[i6 e,i6 f,.own 0]),(false,[i6 g])],[.vec 5 (.int .u8) h true])) | _,_=>none
theorem ok25 (fuel:Nat):FnOK Try.prog 25 (spg25 (F_bitmap_New fuel)):=by
  intro args objs kk r h
  unfold spg25 at h
  split at h
  · skip
    exact fo1 (hG25 fuel) Try.func25 rfl (B25_0_blk fuel) (by kernel_rfl) _ _ kk r ((F25_eqg fuel (F_bitmap_blank fuel) _ _ _ kk).trans h)
  · cases h
def kp154 (i:Nat):Option (List Nat):=Ev.look i []
def Gg154 (f:Nat):Option Ev.Spec:=Ev.look f []
def G154 (fuel:Nat):Nat→Option Ev.Spec:=Gg154
def F_refine_Valid (fuel:Nat) (d a b:Int) (e:Bool) (c:Int) (k0:(Bool)→Option Ans):Option Ans:=bif d==0 then bif c==0 then bif decide ((bif decide (b < a) then b else a)≥(-200:Int)) then k0 (decide (Ev.imax (Ev.imax (Ev.imax a (i64.wrap (0 - a))) b) (i64.wrap (0 - b))≤200)) else k0 false else bif c==1 then bif decide ((bif decide (b < a) then b else a)≥(-200:Int)) then k0 (decide (Ev.imax (Ev.imax (Ev.imax a (i64.wrap (0 - a))) b) (i64.wrap (0 - b))≤200)) else k0 false else k0 false else bif d==1 then bif c==0 then bif decide ((bif decide (b < a) then b else a)≥(-200:Int)) then k0 (decide (Ev.imax (Ev.imax (Ev.imax a (i64.wrap (0 - a))) b) (i64.wrap (0 - b))≤200)) else k0 false else bif c==1 then bif decide ((bif decide (b < a) then b else a)≥(-200:Int)) then k0 (decide (Ev.imax (Ev.imax (Ev.imax a (i64.wrap (0 - a))) b) (i64.wrap (0 - b))≤200)) else k0 false else k0 false else k0 false
abbrev YF154:Type:=Int→Int→Int→Bool→Int→(Bool→Option Ans)→Option Ans
theorem F154_eq (fuel:Nat) (a b d:Int) (e:Bool) (f:Int) (k:Ev.Cont):evalFn tab (G154 fuel) J0 kp154 fuel Try.f154 [.agg [i6 a,i6 b,i6 d,.bool e,i6 f]] [] k=F_refine_Valid fuel a b d e f (fun r=>match r with | g=>k (.c (.bool g),[])):=by
  kernel_rfl
theorem hG154 (fuel:Nat):GOK Try.prog (G154 fuel):=
  gok_nil
def spg154 (F:YF154):Ev.Spec:=fun args objs k=>match args,objs with | [.agg [i6 a,i6 b,i6 d,.bool e,i6 f]],[]=>F a b d e f (fun r=>match r with | g=>k (.c (.bool g),[])) | _,_=>none
theorem ok154 (fuel:Nat):FnOK Try.prog 154 (spg154 (F_refine_Valid fuel)):=by
  intro args objs kk r h
  unfold spg154 at h
  split at h
  · skip
    exact fo0 (hG154 fuel) Try.func154 rfl (by kernel_rfl) _ _ kk r ((F154_eq fuel _ _ _ _ _ kk).trans h)
  · cases h
def kp155 (i:Nat):Option (List Nat):=Ev.look i [(200001,[3,5])]
def Gg155 (a:YF147) (f:Nat):Option Ev.Spec:=Ev.look f [(147,spg147 a)]
def G155 (fuel:Nat):Nat→Option Ev.Spec:=Gg155 (F_refine_contexts fuel)
def Fg_refine_fits (fuel:Nat) (b:YF147) (f:Int) (c:LI) (a d:Int) (g h:Int) (i:Bool) (j:Int) (k0:(Bool)→OA):OA:=bif decide (a≥0) then (b d (fun e=>k0 (decide (a≤i64.wrap (i64.wrap ((↑c.length:Int) - e) - 1))))) else k0 false
abbrev YF155:Type:=Int→LI→Int→Int→Int→Int→Bool→Int→(Bool→Option Ans)→Option Ans
def F_refine_fits (fuel:Nat):YF155:=Fg_refine_fits fuel (F_refine_contexts fuel)
theorem F155_eqg (fuel:Nat) (a:YF147) (b:Int) (d:LI) (e f:Int) (g h:Int) (i:Bool) (j:Int) (k:Ev.Cont):evalFn tab (Gg155 a) J0 kp155 fuel Try.f155 [.agg [i6 b,.sl (.int .i64) d],.c (i6 e),.agg [i6 f,i6 g,i6 h,.bool i,i6 j]] [] k=Fg_refine_fits fuel a b d e f g h i j (fun r=>match r with | l=>k (.c (.bool l),[])):=by
  kernel_rfl
theorem hG155 (fuel:Nat):GOK Try.prog (G155 fuel):=
  gc (ok147 fuel) Try.func147 (by kernel_rfl) rfl <|
  gok_nil
def spg155 (F:YF155):Ev.Spec:=fun args objs k=>match args,objs with | [.agg [i6 a,.sl (.int .i64) b],.c (i6 d),.agg [i6 e,i6 f,i6 g,.bool h,i6 i]],[]=>F a b d e f g h i (fun r=>match r with | j=>k (.c (.bool j),[])) | _,_=>none
theorem ok155 (fuel:Nat):FnOK Try.prog 155 (spg155 (F_refine_fits fuel)):=by
  intro args objs kk r h
  unfold spg155 at h
  split at h
  · skip
    exact fo0 (hG155 fuel) Try.func155 rfl (by kernel_rfl) _ _ kk r ((F155_eqg fuel (F_refine_contexts fuel) _ _ _ _ _ _ _ _ kk).trans h)
  · cases h
def kp156_adf (i:Nat):Option (List Nat):=Ev.look i []
def Gg156_adf (f:Nat):Option Ev.Spec:=Ev.look f []
def G156_adf (fuel:Nat):Nat→Option Ev.Spec:=Gg156_adf
def F_refine_newRegion_adf (fuel:Nat) (b c d:Int) (e:Bool) (f g:Int) (h i j:Int) (k a:(List Int)) (k0:((List Int)×Int×Int×Int×Bool×Int×Int×Int×Int×Int×(List Int))→Option Ans):Option Ans:=k0 (a,b,c,d,e,f,g,h,i,j,k)
abbrev YF156_adf:Type:=Int→Int→Int→Bool→Int→Int→Int→Int→Int→LI→LI→((LI×Int×Int×Int×Bool×Int×Int×Int×Int×Int×LI)→Option Ans)→Option Ans
theorem F156_adf_eq (fuel:Nat) (b d e:Int) (f:Bool) (g h:Int) (i j l:Int) (m a:LI) (k:Ev.Cont):evalFn tab (G156_adf fuel) J0 kp156_adf fuel Try.f156 [.agg [i6 b,i6 d,i6 e,.bool f,i6 g],.c (i6 h),.c (i6 i),.c (.own 0),.agg [i6 j,i6 l,.sl (.int .u8) m]] [.vec 5 (.int .u8) a false] k=F_refine_newRegion_adf fuel b d e f g h i j l m a (fun r=>match r with | (o,p,q,s,t,u,v,w,x,y,n)=>k (.c (.ptr 1 0),[.vec 5 (.int .u8) o false,.cells 212 [i6 p,i6 q,i6 s,.bool t,i6 u,i6 v,i6 w,.own 0,i6 x,i6 y,.sl (.int .u8) n]])):=by
  kernel_rfl
theorem hG156_adf (fuel:Nat):GOK Try.prog (G156_adf fuel):=
  gok_nil
def spg156_adf (F:YF156_adf):Ev.Spec:=fun args objs k=>match args,objs with | [.agg [i6 d,i6 e,i6 f,.bool g,i6 h],.c (i6 i),.c (i6 j),.c (.own l),.agg [i6 m,i6 n,.sl (.int .u8) o]],[.vec p (.int .u8) a false]=>bif qb [l,p] [0,5] then F d e f g h i j m n o a (fun r=>match r with | (q,s,t,u,v,w,x,y,z,A,b)=>k (.c (.ptr 1 0),[.vec 5 (.int .u8) q false,.cells 212 [i6 s,i6 t,i6 u,.bool v,i6 w,i6 x,i6 y,.own 0,i6 z,i6 A,.sl (.int .u8) b]])) else none | _,_=>none
theorem ok156_adf (fuel:Nat):FnOK Try.prog 156 (spg156_adf (F_refine_newRegion_adf fuel)):=by
  intro args objs kk r h
  unfold spg156_adf at h
  split at h
  · skip
    obtain ⟨hb,h⟩:=cond_some' h
    cases qb_eq hb
    exact fo0 (hG156_adf fuel) Try.func156 rfl (by kernel_rfl) _ _ kk r ((F156_adf_eq fuel _ _ _ _ _ _ _ _ _ _ _ kk).trans h)
  · cases h
def kp181 (i:Nat):Option (List Nat):=Ev.look i []
def Gg181 (f:Nat):Option Ev.Spec:=Ev.look f []
def G181 (fuel:Nat):Nat→Option Ev.Spec:=Gg181
def F_refine_beside (fuel:Nat)  (k0:((List (Int×Int)))→Option Ans):Option Ans:=k0 ([(0,0),((-1:Int),0),(1,0),(0,(-1:Int)),(0,1)])
abbrev YF181:Type:=(((List (Int×Int)))→Option Ans)→Option Ans
theorem F181_eq (fuel:Nat)  (k:Ev.Cont):evalFn tab (G181 fuel) J0 kp181 fuel Try.f181 [] [] k=F_refine_beside fuel  (fun r=>match r with | a=>k (.c (.own 0),[.vec 22 (.pair (.int .i64) (.int .i64)) a true])):=by
  kernel_rfl
theorem hG181 (fuel:Nat):GOK Try.prog (G181 fuel):=
  gok_nil
def spg181 (F:YF181):Ev.Spec:=fun args objs k=>match args,objs with | [],[]=>F  (fun r=>match r with | a=>k (.c (.own 0),[.vec 22 (.pair (.int .i64) (.int .i64)) a true])) | _,_=>none
theorem ok181 (fuel:Nat):FnOK Try.prog 181 (spg181 (F_refine_beside fuel)):=by
  intro args objs kk r h
  unfold spg181 at h
  split at h
  · skip
    exact fo0 (hG181 fuel) Try.func181 rfl (by kernel_rfl) _ _ kk r ((F181_eq fuel kk).trans h)
  · cases h
def kp160 (i:Nat):Option (List Nat):=Ev.look i []
def Gg160 (f:Nat):Option Ev.Spec:=Ev.look f []
def G160 (fuel:Nat):Nat→Option Ev.Spec:=Gg160
def F_refine_grid_at (fuel:Nat) (c e:Int) (d:(List Int)) (a b:Int) (k0:(Int)→Option Ans):Option Ans:=bif decide (a < 0) then k0 (0) else bif decide (b < 0) then k0 (0) else bif decide (a≥c) then k0 (0) else bif decide (b≥e) then k0 (0) else bif decide (0≤i64.wrap (i64.wrap (b*c)+a)∧i64.wrap (i64.wrap (b*c)+a) < (↑d.length:Int)) then k0 (d.getD (i64.wrap (i64.wrap (b*c)+a)).toNat 0) else none
abbrev YF160:Type:=Int→Int→LI→Int→Int→(Int→Option Ans)→Option Ans
theorem F160_eq (fuel:Nat) (a b:Int) (d:LI) (e f:Int) (k:Ev.Cont):evalFn tab (G160 fuel) J0 kp160 fuel Try.f160 [.agg [i6 a,i6 b,.sl (.int .u8) d],.c (i6 e),.c (i6 f)] [] k=F_refine_grid_at fuel a b d e f (fun r=>match r with | g=>k (.c (.int .u8 g),[])):=by
  kernel_rfl
theorem hG160 (fuel:Nat):GOK Try.prog (G160 fuel):=
  gok_nil
def spg160 (F:YF160):Ev.Spec:=fun args objs k=>match args,objs with | [.agg [i6 a,i6 b,.sl (.int .u8) d],.c (i6 e),.c (i6 f)],[]=>F a b d e f (fun r=>match r with | g=>k (.c (.int .u8 g),[])) | _,_=>none
theorem ok160 (fuel:Nat):FnOK Try.prog 160 (spg160 (F_refine_grid_at fuel)):=by
  intro args objs kk r h
  unfold spg160 at h
  split at h
  · skip
    exact fo0 (hG160 fuel) Try.func160 rfl (by kernel_rfl) _ _ kk r ((F160_eq fuel _ _ _ _ _ kk).trans h)
  · cases h
def kp159_391 (i:Nat):Option (List Nat):=Ev.look i [(3,[0,1,2,7,17,18,19]),(8,[0,1,2,7,41,42,43]),(100000,[0,1,2,7]),(100002,[7]),(200005,[0,9]),(200010,[0,11]),(400000,[6]),(400002,[6])]
def Gg159_391 (a:YF160) (b:YF178) (c:YF181) (f:Nat):Option Ev.Spec:=Ev.look f [(160,spg160 a),(178,spg178 b),(181,spg181 c)]
def G159_391 (fuel:Nat):Nat→Option Ev.Spec:=Gg159_391 (F_refine_grid_at fuel) (F_refine_fresh fuel) (F_refine_beside fuel)
abbrev V_refine_region_context_391_0:Type:=Int×Int×Int×Int×Int×Int×Int×Int×Bool×Int×Int×Int×Int×Int×LI×LI×(List (Int×Int))
abbrev W_refine_region_context_391_0:Type:=(Int×Int×Int×Int×Int×Int×Bool×Int×Int×Int×Int×Int×LI×LI→OA)
def Sg_refine_region_context_391_0 (fuel:Nat) (t:YF160) (v:YF178) (w:YF181) (h i:Int) (m n:Int) (a o:Int) (p q:Int) (r:Bool) (s e:Int) (f j k:Int) (l g:LI) (d:(List (Int×Int))) (c:V_refine_region_context_391_0→OA) (B:W_refine_region_context_391_0):OA:=match B with | b=>bif decide (a < n) then bif decide (0≤a∧a < (↑d.length:Int)) then (t e f g (i64.wrap (h+(d.getD a.toNat (0,0)).fst)) (i64.wrap (i+(d.getD a.toNat (0,0)).snd)) (fun u=>c (h,i,i64.wrap (i64.wrap (2*m)+i64.wrap u),n,i64.wrap (a+1),o,p,q,r,s,e,f,j,k,l,g,d))) else none else b (h,i,m,o,p,q,r,s,e,f,j,k,l,g)
def S_refine_region_context_391_0 (fuel:Nat) (v:Int×Int×Int×Int×Int×Int×Int×Int×Bool×Int×Int×Int×Int×Int×(List Int)×(List Int)×(List (Int×Int))) (c:(Int×Int×Int×Int×Int×Int×Int×Int×Bool×Int×Int×Int×Int×Int×(List Int)×(List Int)×(List (Int×Int)))→Option Ans) (B:(Int×Int×Int×Int×Int×Int×Bool×Int×Int×Int×Int×Int×(List Int)×(List Int)→Option Ans)):Option Ans:=match v with | (i,j,k,l,m,n,o,p,q,r,a,b,d,e,f,g,h)=>Sg_refine_region_context_391_0 fuel (F_refine_grid_at fuel) (F_refine_fresh fuel) (F_refine_beside fuel) i j k l m n o p q r a b d e f g h c B
def L_refine_region_context_391_0 (fuel:Nat) (v:V_refine_region_context_391_0) (b:W_refine_region_context_391_0):Option Ans:=iter (S_refine_region_context_391_0 fuel) fuel v b
def T159_391_0 (v:V_refine_region_context_391_0):Ev.St:=match v with | (i,j,k,l,m,n,o,p,q,r,a,b,d,e,f,g,h)=>⟨[(0,.c (.ptr 0 0)),(1,.c (i6 i)),(2,.c (i6 j)),(7,.c (i6 k)),(17,.c (.own 2)),(18,.c (i6 l)),(19,.c (i6 m))],[(0,.cells 212 [i6 n,i6 o,i6 p,.bool q,i6 r,i6 a,i6 b,.own 1,i6 d,i6 e,.sl (.int .u8) f]),(1,.vec 5 (.int .u8) g false),(2,.vec 22 (.pair (.int .i64) (.int .i64)) h true)],3,2⟩
def E159_391_0 (K:KT):W_refine_region_context_391_0:=(fun v=>match v with | (f,g,h,i,j,k,l,m,n,o,a,b,d,e)=>K .normal ⟨[(0,.c (.ptr 0 0)),(1,.c (i6 f)),(2,.c (i6 g)),(7,.c (i6 h))],[(0,.cells 212 [i6 i,i6 j,i6 k,.bool l,i6 m,i6 n,i6 o,.own 1,i6 a,i6 b,.sl (.int .u8) d]),(1,.vec 5 (.int .u8) e false)],2,2⟩)
theorem S159_391_0_okg (fuel:Nat) (a:YF160) (b:YF178) (c:YF181) (R:Ev.St→OA) (K:KT) (k l:Int) (m n:Int) (o p:Int) (q r:Int) (s:Bool) (t d:Int) (e f g:Int) (h i:LI) (j:(List (Int×Int))):evalCode tab (Gg159_391 a b c) J0 kp159_391 fuel (bodyOf 0 Try.f159) (T159_391_0 (k,l,m,n,o,p,q,r,s,t,d,e,f,g,h,i,j)) (lc kp159_391 3 0 R K)=Sg_refine_region_context_391_0 fuel a b c k l m n o p q r s t d e f g h i j (fun v=>R (T159_391_0 v)) (E159_391_0 K):=by
  kernel_rfl
def B159_391_0 (fuel:Nat):Ev.Blk:=fun st K=>match canonO (kp159_391 3) st with | some s=>(match s with | ⟨[(r,.c (.ptr t u)),(v,.c (i6 w)),(x,.c (i6 y)),(z,.c (i6 A)),(B,.c (.own C)),(D,.c (i6 E)),(F,.c (i6 G))],[(a,.cells b [i6 H,i6 I,i6 J,.bool L,i6 M,i6 d,i6 e,.own f,i6 g,i6 h,.sl (.int .u8) i]),(j,.vec k (.int .u8) l false),(m,.vec n (.pair (.int .i64) (.int .i64)) o true)],p,q⟩=>bif qb [r,t,u,v,x,z,B,C,D,F,a,b,f,j,k,m,n,p,q] [0,0,0,1,2,7,17,2,18,19,0,212,1,1,5,2,22,3,2] then iter (S_refine_region_context_391_0 fuel) fuel (w,y,A,E,G,H,I,J,L,M,d,e,g,h,i,l,o) (E159_391_0 K) else none | _=>none) | none=>none
theorem B159_391_0_ok (fuel:Nat) (st:Ev.St) (K:KT) (r:Ans) (h:B159_391_0 fuel st K=some r):evalCode tab (G159_391 fuel) J0 kp159_391 fuel (.block 0 (.loop (bodyOf 0 Try.f159))) st K=some r:=by
  unfold B159_391_0 at h
  split at h
  · rename_i s hs
    split at h
    · skip
      obtain ⟨hb,h⟩:=cond_some' h
      cases qb_eq hb
      exact blk_loop (S:=T159_391_0) (ks:=E159_391_0) (step:=S_refine_region_context_391_0 fuel) (v:=(_,_,_,_,_,_,_,_,_,_,_,_,_,_,_,_,_)) (by kernel_rfl) (by kernel_rfl) (fun R K v=>by obtain ⟨i,j,k,l,m,n,o,p,q,t,a,b,c,d,e,f,g⟩:=v; exact S159_391_0_okg fuel (F_refine_grid_at fuel) (F_refine_fresh fuel) (F_refine_beside fuel) R K i j k l m n o p q t a b c d e f g) hs h
    · cases h
  · cases h
abbrev V_refine_region_context_391_2:Type:=Int×Int×Int×Int×Int×Int×Int×Int×Bool×Int×Int×Int×Int×Int×LI×LI×(List (Int×Int))
abbrev W_refine_region_context_391_2:Type:=(Int×Int×Int×Int×Bool×Int×Int×Int×Int×Int×LI×LI→OA)
def Sg_refine_region_context_391_2 (fuel:Nat) (t:YF160) (v:YF178) (w:YF181) (m n:Int) (o p:Int) (a q:Int) (h i:Int) (r:Bool) (s j:Int) (k e f:Int) (g l:LI) (d:(List (Int×Int))) (c:V_refine_region_context_391_2→OA) (B:W_refine_region_context_391_2):OA:=match B with | b=>bif decide (a < p) then bif decide (0≤a∧a < (↑d.length:Int)) then (t e f g (i64.wrap (i64.wrap (m - h)+(d.getD a.toNat (0,0)).fst)) (i64.wrap (i64.wrap (n - i)+(d.getD a.toNat (0,0)).snd)) (fun u=>c (m,n,i64.wrap (i64.wrap (2*o)+i64.wrap u),p,i64.wrap (a+1),q,h,i,r,s,j,k,e,f,g,l,d))) else none else b (o,q,h,i,r,s,j,k,e,f,g,l)
def S_refine_region_context_391_2 (fuel:Nat) (v:Int×Int×Int×Int×Int×Int×Int×Int×Bool×Int×Int×Int×Int×Int×(List Int)×(List Int)×(List (Int×Int))) (c:(Int×Int×Int×Int×Int×Int×Int×Int×Bool×Int×Int×Int×Int×Int×(List Int)×(List Int)×(List (Int×Int)))→Option Ans) (B:(Int×Int×Int×Int×Bool×Int×Int×Int×Int×Int×(List Int)×(List Int)→Option Ans)):Option Ans:=match v with | (i,j,k,l,m,n,o,p,q,r,a,b,d,e,f,g,h)=>Sg_refine_region_context_391_2 fuel (F_refine_grid_at fuel) (F_refine_fresh fuel) (F_refine_beside fuel) i j k l m n o p q r a b d e f g h c B
def L_refine_region_context_391_2 (fuel:Nat) (v:V_refine_region_context_391_2) (b:W_refine_region_context_391_2):Option Ans:=iter (S_refine_region_context_391_2 fuel) fuel v b
def J159_391_2 (fuel:Nat) (i:Nat):Option Ev.Blk:=Ev.look i [(100000,B159_391_0 fuel)]
def T159_391_2 (v:V_refine_region_context_391_2):Ev.St:=match v with | (i,j,k,l,m,n,o,p,q,r,a,b,d,e,f,g,h)=>⟨[(0,.c (.ptr 0 0)),(1,.c (i6 i)),(2,.c (i6 j)),(7,.c (i6 k)),(41,.c (.own 2)),(42,.c (i6 l)),(43,.c (i6 m))],[(0,.cells 212 [i6 n,i6 o,i6 p,.bool q,i6 r,i6 a,i6 b,.own 1,i6 d,i6 e,.sl (.int .u8) f]),(1,.vec 5 (.int .u8) g false),(2,.vec 22 (.pair (.int .i64) (.int .i64)) h true)],3,2⟩
def E159_391_2 (K:KT):W_refine_region_context_391_2:=(fun v=>match v with | (d,e,f,g,h,i,j,k,l,m,a,b)=>K .normal ⟨[(7,.c (i6 d))],[(0,.cells 212 [i6 e,i6 f,i6 g,.bool h,i6 i,i6 j,i6 k,.own 1,i6 l,i6 m,.sl (.int .u8) a]),(1,.vec 5 (.int .u8) b false)],2,2⟩)
theorem S159_391_2_okg (fuel:Nat) (a:YF160) (b:YF178) (c:YF181) (R:Ev.St→OA) (K:KT) (k l:Int) (m n:Int) (o p:Int) (q r:Int) (s:Bool) (t d:Int) (e f g:Int) (h i:LI) (j:(List (Int×Int))):evalCode tab (Gg159_391 a b c) (J159_391_2 fuel) kp159_391 fuel (bodyOf 2 Try.f159) (T159_391_2 (k,l,m,n,o,p,q,r,s,t,d,e,f,g,h,i,j)) (lc kp159_391 8 2 R K)=Sg_refine_region_context_391_2 fuel a b c k l m n o p q r s t d e f g h i j (fun v=>R (T159_391_2 v)) (E159_391_2 K):=by
  kernel_rfl
def B159_391_2 (fuel:Nat):Ev.Blk:=fun st K=>match canonO (kp159_391 8) st with | some s=>(match s with | ⟨[(r,.c (.ptr t u)),(v,.c (i6 w)),(x,.c (i6 y)),(z,.c (i6 A)),(B,.c (.own C)),(D,.c (i6 E)),(F,.c (i6 G))],[(a,.cells b [i6 H,i6 I,i6 J,.bool L,i6 M,i6 d,i6 e,.own f,i6 g,i6 h,.sl (.int .u8) i]),(j,.vec k (.int .u8) l false),(m,.vec n (.pair (.int .i64) (.int .i64)) o true)],p,q⟩=>bif qb [r,t,u,v,x,z,B,C,D,F,a,b,f,j,k,m,n,p,q] [0,0,0,1,2,7,41,2,42,43,0,212,1,1,5,2,22,3,2] then iter (S_refine_region_context_391_2 fuel) fuel (w,y,A,E,G,H,I,J,L,M,d,e,g,h,i,l,o) (E159_391_2 K) else none | _=>none) | none=>none
theorem B159_391_2_ok (fuel:Nat) (st:Ev.St) (K:KT) (r:Ans) (h:B159_391_2 fuel st K=some r):evalCode tab (G159_391 fuel) (J159_391_2 fuel) kp159_391 fuel (.block 2 (.loop (bodyOf 2 Try.f159))) st K=some r:=by
  unfold B159_391_2 at h
  split at h
  · rename_i s hs
    split at h
    · skip
      obtain ⟨hb,h⟩:=cond_some' h
      cases qb_eq hb
      exact blk_loop (S:=T159_391_2) (ks:=E159_391_2) (step:=S_refine_region_context_391_2 fuel) (v:=(_,_,_,_,_,_,_,_,_,_,_,_,_,_,_,_,_)) (by kernel_rfl) (by kernel_rfl) (fun R K v=>by obtain ⟨i,j,k,l,m,n,o,p,q,t,a,b,c,d,e,f,g⟩:=v; exact S159_391_2_okg fuel (F_refine_grid_at fuel) (F_refine_fresh fuel) (F_refine_beside fuel) R K i j k l m n o p q t a b c d e f g) hs h
    · cases h
  · cases h
def J159_391 (fuel:Nat) (i:Nat):Option Ev.Blk:=Ev.look i [(100000,B159_391_0 fuel),(100002,B159_391_2 fuel)]
def Fg_refine_region_context_391 (fuel:Nat) (R:YF160) (j:YF178) (k:YF181) (I J:Int) (b K L:Int) (M:Bool) (N O:Int) (P Q F:Int) (G H:LI) (k0:(Int×Int×Int×Int×Bool×Int×Int×Int×Int×Int×LI×LI)→OA):OA:=(j b (fun c=>(L_refine_region_context_391_0 fuel (I,J,0,(↑c.length:Int),0,b,K,L,M,N,O,P,Q,F,G,H,c) (fun (l,m,n,o,p,q,r,s,t,u,d,e,f,g)=>(k (fun a=>(L_refine_region_context_391_2 fuel (l,m,n,(↑a.length:Int),0,o,p,q,r,s,t,u,d,e,f,g,a) (fun (v,w,x,y,z,A,B,C,D,E,h,i)=>k0 (v,w,x,y,z,A,B,C,D,E,h,i)))))))))
abbrev YF159_391:Type:=Int→Int→Int→Int→Int→Bool→Int→Int→Int→Int→Int→LI→LI→((Int×Int×Int×Int×Bool×Int×Int×Int×Int×Int×LI×LI)→Option Ans)→Option Ans
def F_refine_region_context_391 (fuel:Nat):YF159_391:=Fg_refine_region_context_391 fuel (F_refine_grid_at fuel) (F_refine_fresh fuel) (F_refine_beside fuel)
theorem F159_391_eqg (fuel:Nat) (a:YF160) (b:YF178) (d:YF181) (h i:Int) (j l m:Int) (n:Bool) (o p:Int) (q s e:Int) (f g:LI) (k:Ev.Cont):evalFn tab (Gg159_391 a b d) (J159_391 fuel) kp159_391 fuel Try.f159 [.c (.ptr 0 0),.c (i6 h),.c (i6 i)] [.cells 212 [i6 j,i6 l,i6 m,.bool n,i6 o,i6 p,i6 q,.own 1,i6 s,i6 e,.sl (.int .u8) f],.vec 5 (.int .u8) g false] k=Fg_refine_region_context_391 fuel a b d h i j l m n o p q s e f g (fun r=>match r with | (v,w,x,y,z,A,B,C,D,E,t,u)=>k (.c (i6 v),[.cells 212 [i6 w,i6 x,i6 y,.bool z,i6 A,i6 B,i6 C,.own 1,i6 D,i6 E,.sl (.int .u8) t],.vec 5 (.int .u8) u false])):=by
  kernel_rfl
theorem hG159_391 (fuel:Nat):GOK Try.prog (G159_391 fuel):=
  gc (ok160 fuel) Try.func160 (by kernel_rfl) rfl <|
  gc (ok178 fuel) Try.func178 (by kernel_rfl) rfl <|
  gc (ok181 fuel) Try.func181 (by kernel_rfl) rfl <|
  gok_nil
theorem B159_391_0_blk (fuel:Nat):BlkOK Try.prog Try.f159.ntmps (.block 0 (.loop (bodyOf 0 Try.f159))) (B159_391_0 fuel):=bo0 (hG159_391 fuel) (by kernel_rfl) (by kernel_rfl) (B159_391_0_ok fuel)
theorem B159_391_2_blk (fuel:Nat):BlkOK Try.prog Try.f159.ntmps (.block 2 (.loop (bodyOf 2 Try.f159))) (B159_391_2 fuel):=bo0 (hG159_391 fuel) (by kernel_rfl) (by kernel_rfl) (B159_391_2_ok fuel)
theorem fok159_391 (fuel:Nat):FnOK Try.prog 159 (evalFn tab (G159_391 fuel) (J159_391 fuel) kp159_391 fuel Try.f159):=
  fn_ok tab_ok (hG159_391 fuel) mixed Try.func159 (c:=(Try.f159.body).getD .skip) rfl (fun q hq=>by
    rw [(by kernel_rfl:obl (J159_391 fuel) ((Try.f159.body).getD .skip)= [(.block 0 (.loop (bodyOf 0 Try.f159)),B159_391_0 fuel),(.block 2 (.loop (bodyOf 2 Try.f159)),B159_391_2 fuel)])] at hq
    simp only [List.mem_cons,List.not_mem_nil,or_false] at hq
    rcases hq with rfl | rfl
    · exact B159_391_0_blk fuel
    · exact B159_391_2_blk fuel)
def spg159_391 (F:YF159_391):Ev.Spec:=fun args objs k=>match args,objs with | [.c (.ptr g h),.c (i6 i),.c (i6 j)],[.cells l [i6 m,i6 n,i6 o,.bool p,i6 q,i6 s,i6 t,.own u,i6 v,i6 a,.sl (.int .u8) b],.vec w (.int .u8) d false]=>bif qb [g,h,l,u,w] [0,0,212,1,5] then F i j m n o p q s t v a b d (fun r=>match r with | (x,y,z,A,B,C,D,E,G,H,e,f)=>k (.c (i6 x),[.cells 212 [i6 y,i6 z,i6 A,.bool B,i6 C,i6 D,i6 E,.own 1,i6 G,i6 H,.sl (.int .u8) e],.vec 5 (.int .u8) f false])) else none | _,_=>none
theorem ok159_391 (fuel:Nat):FnOK Try.prog 159 (spg159_391 (F_refine_region_context_391 fuel)):=by
  intro args objs kk r h
  unfold spg159_391 at h
  split at h
  · skip
    obtain ⟨hb,h⟩:=cond_some' h
    cases qb_eq hb
    exact fok159_391 fuel _ _ kk r ((F159_391_eqg fuel (F_refine_grid_at fuel) (F_refine_fresh fuel) (F_refine_beside fuel) _ _ _ _ _ _ _ _ _ _ _ _ _ kk).trans h)
  · cases h
def kp158_391 (i:Nat):Option (List Nat):=Ev.look i [(3,[0,1,2,8,29]),(100000,[8]),(200001,[0]),(200005,[0]),(400000,[6,7])]
def Gg158_391 (a:YF160) (f:Nat):Option Ev.Spec:=Ev.look f [(160,spg160 a)]
def G158_391 (fuel:Nat):Nat→Option Ev.Spec:=Gg158_391 (F_refine_grid_at fuel)
abbrev V_refine_region_flat_391_0:Type:=Int×Int×Int×Int×Int×Int×Int×Bool×Int×Int×Int×Int×Int×LI×LI
abbrev W_refine_region_flat_391_0:Type:=(Int×Bool×Int×Int×Int×Bool×Int×Int×Int×Int×Int×LI×LI→OA)×(Int×Int×Int×Int×Bool×Int×Int×Int×Int×Int×LI×LI→OA)
def Sg_refine_region_flat_391_0 (fuel:Nat) (r:YF160) (p q:Int) (k f:Int) (l g h:Int) (m:Bool) (n o:Int) (i a d:Int) (e j:LI) (c:V_refine_region_flat_391_0→OA) (B:W_refine_region_flat_391_0):OA:=match B with | (ret,b)=>bif decide (f < 9) then (r a d e (i64.wrap (i64.wrap (i64.wrap (p - g)+f.tmod 3) - 1)) (i64.wrap (i64.wrap (i64.wrap (q - h)+i64.wrap (f.tdiv 3)) - 1)) (fun s=>bif s != k then ret (0,false,l,g,h,m,n,o,i,a,d,e,j) else c (p,q,k,i64.wrap (f+1),l,g,h,m,n,o,i,a,d,e,j))) else b (k,l,g,h,m,n,o,i,a,d,e,j)
def S_refine_region_flat_391_0 (fuel:Nat) (v:Int×Int×Int×Int×Int×Int×Int×Bool×Int×Int×Int×Int×Int×(List Int)×(List Int)) (c:(Int×Int×Int×Int×Int×Int×Int×Bool×Int×Int×Int×Int×Int×(List Int)×(List Int))→Option Ans) (B:(Int×Bool×Int×Int×Int×Bool×Int×Int×Int×Int×Int×(List Int)×(List Int)→Option Ans)×(Int×Int×Int×Int×Bool×Int×Int×Int×Int×Int×(List Int)×(List Int)→Option Ans)):Option Ans:=match v with | (g,h,i,j,k,l,m,n,o,p,a,b,d,e,f)=>Sg_refine_region_flat_391_0 fuel (F_refine_grid_at fuel) g h i j k l m n o p a b d e f c B
def L_refine_region_flat_391_0 (fuel:Nat) (v:V_refine_region_flat_391_0) (ret:(Int×Bool×Int×Int×Int×Bool×Int×Int×Int×Int×Int×(List Int)×(List Int)→Option Ans)) (b:(Int×Int×Int×Int×Bool×Int×Int×Int×Int×Int×(List Int)×(List Int)→Option Ans)):Option Ans:=iter (S_refine_region_flat_391_0 fuel) fuel v (ret,b)
def T158_391_0 (v:V_refine_region_flat_391_0):Ev.St:=match v with | (g,h,i,j,k,l,m,n,o,p,a,b,d,e,f)=>⟨[(0,.c (.ptr 0 0)),(1,.c (i6 g)),(2,.c (i6 h)),(8,.c (.int .u8 i)),(29,.c (i6 j))],[(0,.cells 212 [i6 k,i6 l,i6 m,.bool n,i6 o,i6 p,i6 a,.own 1,i6 b,i6 d,.sl (.int .u8) e]),(1,.vec 5 (.int .u8) f false)],2,2⟩
def E158_391_0 (K:KT):W_refine_region_flat_391_0:=((fun v=>match v with | (d,e,f,g,h,i,j,k,l,m,a,b,n)=>K .ret ⟨[(6,.c (.int .u8 d)),(7,.c (.bool e))],[(0,.cells 212 [i6 f,i6 g,i6 h,.bool i,i6 j,i6 k,i6 l,.own 1,i6 m,i6 a,.sl (.int .u8) b]),(1,.vec 5 (.int .u8) n false)],2,2⟩),(fun v=>match v with | (d,e,f,g,h,i,j,k,l,m,a,b)=>K .normal ⟨[(8,.c (.int .u8 d))],[(0,.cells 212 [i6 e,i6 f,i6 g,.bool h,i6 i,i6 j,i6 k,.own 1,i6 l,i6 m,.sl (.int .u8) a]),(1,.vec 5 (.int .u8) b false)],2,2⟩))
theorem S158_391_0_okg (fuel:Nat) (a:YF160) (R:Ev.St→OA) (K:KT) (g h:Int) (i j:Int) (k l m:Int) (n:Bool) (o p:Int) (b c d:Int) (e f:LI):evalCode tab (Gg158_391 a) J0 kp158_391 fuel (bodyOf 0 Try.f158) (T158_391_0 (g,h,i,j,k,l,m,n,o,p,b,c,d,e,f)) (lc kp158_391 3 0 R K)=Sg_refine_region_flat_391_0 fuel a g h i j k l m n o p b c d e f (fun v=>R (T158_391_0 v)) (E158_391_0 K):=by
  kernel_rfl
def B158_391_0 (fuel:Nat):Ev.Blk:=fun st K=>match canonO (kp158_391 3) st with | some s=>(match s with | ⟨[(k,.c (.ptr l m)),(n,.c (i6 o)),(p,.c (i6 q)),(r,.c (.int .u8 t)),(u,.c (i6 v))],[(w,.cells x [i6 y,i6 z,i6 A,.bool B,i6 C,i6 D,i6 a,.own E,i6 b,i6 d,.sl (.int .u8) e]),(f,.vec g (.int .u8) h false)],i,j⟩=>bif qb [k,l,m,n,p,r,u,w,x,E,f,g,i,j] [0,0,0,1,2,8,29,0,212,1,1,5,2,2] then iter (S_refine_region_flat_391_0 fuel) fuel (o,q,t,v,y,z,A,B,C,D,a,b,d,e,h) (E158_391_0 K) else none | _=>none) | none=>none
theorem B158_391_0_ok (fuel:Nat) (st:Ev.St) (K:KT) (r:Ans) (h:B158_391_0 fuel st K=some r):evalCode tab (G158_391 fuel) J0 kp158_391 fuel (.block 0 (.loop (bodyOf 0 Try.f158))) st K=some r:=by
  unfold B158_391_0 at h
  split at h
  · rename_i s hs
    split at h
    · skip
      obtain ⟨hb,h⟩:=cond_some' h
      cases qb_eq hb
      exact blk_loop (S:=T158_391_0) (ks:=E158_391_0) (step:=S_refine_region_flat_391_0 fuel) (v:=(_,_,_,_,_,_,_,_,_,_,_,_,_,_,_)) (by kernel_rfl) (by kernel_rfl) (fun R K v=>by obtain ⟨f,g,i,j,k,l,m,n,o,p,a,b,c,d,e⟩:=v; exact S158_391_0_okg fuel (F_refine_grid_at fuel) R K f g i j k l m n o p a b c d e) hs h
    · cases h
  · cases h
def J158_391 (fuel:Nat) (i:Nat):Option Ev.Blk:=Ev.look i [(100000,B158_391_0 fuel)]
def Fg_refine_region_flat_391 (fuel:Nat) (j:YF160) (c d:Int) (v e f:Int) (w:Bool) (x y:Int) (z g a:Int) (b u:LI) (k0:(Int×Bool×Int×Int×Int×Bool×Int×Int×Int×Int×Int×LI×LI)→OA):OA:=(j g a b (i64.wrap (c - e)) (i64.wrap (d - f)) (fun A=>(L_refine_region_flat_391_0 fuel (c,d,A,0,v,e,f,w,x,y,z,g,a,b,u) (fun (ret0_0,ret0_1,ret0_2,ret0_3,ret0_4,ret0_5,ret0_6,ret0_7,ret0_8,ret0_9,ret0_10,ret0_11,ret0_12)=>k0 (ret0_0,ret0_1,ret0_2,ret0_3,ret0_4,ret0_5,ret0_6,ret0_7,ret0_8,ret0_9,ret0_10,ret0_11,ret0_12)) (fun (k,l,m,n,o,p,q,r,s,t,h,i)=>k0 (k,true,l,m,n,o,p,q,r,s,t,h,i)))))
abbrev YF158_391:Type:=Int→Int→Int→Int→Int→Bool→Int→Int→Int→Int→Int→LI→LI→((Int×Bool×Int×Int×Int×Bool×Int×Int×Int×Int×Int×LI×LI)→Option Ans)→Option Ans
def F_refine_region_flat_391 (fuel:Nat):YF158_391:=Fg_refine_region_flat_391 fuel (F_refine_grid_at fuel)
theorem F158_391_eqg (fuel:Nat) (a:YF160) (f g:Int) (h i j:Int) (l:Bool) (m n:Int) (o p b:Int) (d e:LI) (k:Ev.Cont):evalFn tab (Gg158_391 a) (J158_391 fuel) kp158_391 fuel Try.f158 [.c (.ptr 0 0),.c (i6 f),.c (i6 g)] [.cells 212 [i6 h,i6 i,i6 j,.bool l,i6 m,i6 n,i6 o,.own 1,i6 p,i6 b,.sl (.int .u8) d],.vec 5 (.int .u8) e false] k=Fg_refine_region_flat_391 fuel a f g h i j l m n o p b d e (fun r=>match r with | (u,v,w,x,y,z,A,B,C,D,q,s,t)=>k (.tup [(false,[.int .u8 u]),(false,[.bool v])],[.cells 212 [i6 w,i6 x,i6 y,.bool z,i6 A,i6 B,i6 C,.own 1,i6 D,i6 q,.sl (.int .u8) s],.vec 5 (.int .u8) t false])):=by
  kernel_rfl
theorem hG158_391 (fuel:Nat):GOK Try.prog (G158_391 fuel):=
  gc (ok160 fuel) Try.func160 (by kernel_rfl) rfl <|
  gok_nil
theorem B158_391_0_blk (fuel:Nat):BlkOK Try.prog Try.f158.ntmps (.block 0 (.loop (bodyOf 0 Try.f158))) (B158_391_0 fuel):=bo0 (hG158_391 fuel) (by kernel_rfl) (by kernel_rfl) (B158_391_0_ok fuel)
def spg158_391 (F:YF158_391):Ev.Spec:=fun args objs k=>match args,objs with | [.c (.ptr h i),.c (i6 j),.c (i6 l)],[.cells m [i6 n,i6 o,i6 p,.bool q,i6 s,i6 t,i6 u,.own v,i6 w,i6 a,.sl (.int .u8) b],.vec x (.int .u8) d false]=>bif qb [h,i,m,v,x] [0,0,212,1,5] then F j l n o p q s t u w a b d (fun r=>match r with | (y,z,A,B,C,D,E,G,H,I,e,f,g)=>k (.tup [(false,[.int .u8 y]),(false,[.bool z])],[.cells 212 [i6 A,i6 B,i6 C,.bool D,i6 E,i6 G,i6 H,.own 1,i6 I,i6 e,.sl (.int .u8) f],.vec 5 (.int .u8) g false])) else none | _,_=>none
theorem ok158_391 (fuel:Nat):FnOK Try.prog 158 (spg158_391 (F_refine_region_flat_391 fuel)):=by
  intro args objs kk r h
  unfold spg158_391 at h
  split at h
  · skip
    obtain ⟨hb,h⟩:=cond_some' h
    cases qb_eq hb
    exact fo1 (hG158_391 fuel) Try.func158 rfl (B158_391_0_blk fuel) (by kernel_rfl) _ _ kk r ((F158_391_eqg fuel (F_refine_grid_at fuel) _ _ _ _ _ _ _ _ _ _ _ _ _ kk).trans h)
  · cases h
def kp186_865 (i:Nat):Option (List Nat):=Ev.look i [(8,[0,1,2,3,9,44,45]),(100000,[]),(400000,[8])]
def Gg186_865 (a:YF136_aa3) (d:YF147) (b:YF158_391) (c:YF159_391) (f:Nat):Option Ev.Spec:=Ev.look f [(136,spg136_aa3 a),(147,spg147 d),(158,spg158_391 b),(159,spg159_391 c)]
def G186_865 (fuel:Nat):Nat→Option Ev.Spec:=Gg186_865 (F_coder_Decoder_Get_aa3 fuel) (F_refine_contexts fuel) (F_refine_region_flat_391 fuel) (F_refine_region_context_391 fuel)
abbrev V_refine_region_row_865_0:Type:=Int×Int×Int×Int×Int×Int×Int×Int×Bool×Int×Int×Int×Int×Int×LI×Int×Int×Int×Int×Int×Int×Bool×Bool×LI×LI×LI
abbrev W_refine_region_row_865_0:Type:=(Int×Int×Int×Int×Bool×Int×Int×Int×Int×Int×LI×Int×Int×Int×Int×Int×Int×Bool×Bool×LI×LI×LI→OA)×(Int×Int×Int×Bool×Int×Int×Int×Int×Int×LI×Int×Int×Int×Int×Int×Int×Bool×Bool×LI×LI×LI→OA)
def Sg_refine_region_row_865_0 (fuel:Nat) (G:YF136_aa3) (e1:YF147) (d4:YF158_391) (H:YF159_391) (f d:Int) (r s:Int) (a c9:Int) (d0 d1:Int) (d2:Bool) (d3 e:Int) (c4 c5 c6:Int) (c7:LI) (h i:Int) (j k:Int) (l m:Int) (n o:Bool) (c8 p q:LI) (c:V_refine_region_row_865_0→OA) (B:W_refine_region_row_865_0):OA:=match B with | (ret,b)=>bif decide (a < s) then (d4 a d c9 d0 d1 d2 d3 e c4 c5 c6 c7 c8 (fun (d7,d8,x,y,z,A,C,D,E,F,t,u,g)=>bif r==1 then bif d8 then bif decide (0≤i64.wrap (i64.wrap (d*e)+a)∧i64.wrap (i64.wrap (d*e)+a) < (↑g.length:Int)) then c (f,d,r,s,i64.wrap (a+1),x,y,z,A,C,D,E,F,t,u,h,i,j,k,l,m,n,o,g.set (i64.wrap (i64.wrap (d*e)+a)).toNat d7,p,q) else none else (H a d x y z A C D E F t u g (fun (d9,a6,a7,a8,a9,b0,b1,b2,b3,b4,M,v)=>(G (i64.wrap (f+d9)) h i j k l m n o p q (fun (d5,N,O,P,Q,R,S,T,U,V,I,J)=>bif N != 0 then ret (N,a6,a7,a8,a9,b0,b1,b2,b3,b4,M,O,P,Q,R,S,T,U,V,v,I,J) else bif decide (0≤i64.wrap (i64.wrap (d*e)+a)∧i64.wrap (i64.wrap (d*e)+a) < (↑v.length:Int)) then c (f,d,r,s,i64.wrap (a+1),a6,a7,a8,a9,b0,b1,b2,b3,b4,M,O,P,Q,R,S,T,U,V,v.set (i64.wrap (i64.wrap (d*e)+a)).toNat (u8.wrap d5),I,J) else none)))) else (H a d x y z A C D E F t u g (fun (e0,b5,b6,b7,b8,b9,c0,c1,c2,c3,W,w)=>(G (i64.wrap (f+e0)) h i j k l m n o p q (fun (d6,X,Y,Z,a0,a1,a2,a3,a4,a5,K,L)=>bif X != 0 then ret (X,b5,b6,b7,b8,b9,c0,c1,c2,c3,W,Y,Z,a0,a1,a2,a3,a4,a5,w,K,L) else bif decide (0≤i64.wrap (i64.wrap (d*e)+a)∧i64.wrap (i64.wrap (d*e)+a) < (↑w.length:Int)) then c (f,d,r,s,i64.wrap (a+1),b5,b6,b7,b8,b9,c0,c1,c2,c3,W,Y,Z,a0,a1,a2,a3,a4,a5,w.set (i64.wrap (i64.wrap (d*e)+a)).toNat (u8.wrap d6),K,L) else none)))))) else b (c9,d0,d1,d2,d3,e,c4,c5,c6,c7,h,i,j,k,l,m,n,o,c8,p,q)
def S_refine_region_row_865_0 (fuel:Nat) (v:Int×Int×Int×Int×Int×Int×Int×Int×Bool×Int×Int×Int×Int×Int×(List Int)×Int×Int×Int×Int×Int×Int×Bool×Bool×(List Int)×(List Int)×(List Int)) (c:(Int×Int×Int×Int×Int×Int×Int×Int×Bool×Int×Int×Int×Int×Int×(List Int)×Int×Int×Int×Int×Int×Int×Bool×Bool×(List Int)×(List Int)×(List Int))→Option Ans) (B:(Int×Int×Int×Int×Bool×Int×Int×Int×Int×Int×(List Int)×Int×Int×Int×Int×Int×Int×Bool×Bool×(List Int)×(List Int)×(List Int)→Option Ans)×(Int×Int×Int×Bool×Int×Int×Int×Int×Int×(List Int)×Int×Int×Int×Int×Int×Int×Bool×Bool×(List Int)×(List Int)×(List Int)→Option Ans)):Option Ans:=match v with | (r,s,t,u,w,x,y,z,A,C,a,b,d,e,f,g,h,i,j,k,l,m,n,o,p,q)=>Sg_refine_region_row_865_0 fuel (F_coder_Decoder_Get_aa3 fuel) (F_refine_contexts fuel) (F_refine_region_flat_391 fuel) (F_refine_region_context_391 fuel) r s t u w x y z A C a b d e f g h i j k l m n o p q c B
def L_refine_region_row_865_0 (fuel:Nat) (v:V_refine_region_row_865_0) (ret:(Int×Int×Int×Int×Bool×Int×Int×Int×Int×Int×(List Int)×Int×Int×Int×Int×Int×Int×Bool×Bool×(List Int)×(List Int)×(List Int)→Option Ans)) (b:(Int×Int×Int×Bool×Int×Int×Int×Int×Int×(List Int)×Int×Int×Int×Int×Int×Int×Bool×Bool×(List Int)×(List Int)×(List Int)→Option Ans)):Option Ans:=iter (S_refine_region_row_865_0 fuel) fuel v (ret,b)
def T186_865_0 (v:V_refine_region_row_865_0):Ev.St:=match v with | (r,s,t,u,w,x,y,z,A,B,a,b,d,e,f,g,h,i,j,k,l,m,n,o,p,q)=>⟨[(0,.c (.ptr 0 0)),(1,.c (.ptr 1 0)),(2,.c (i6 r)),(3,.c (i6 s)),(9,.c (i6 t)),(44,.c (i6 u)),(45,.c (i6 w))],[(0,.cells 212 [i6 x,i6 y,i6 z,.bool A,i6 B,i6 a,i6 b,.own 2,i6 d,i6 e,.sl (.int .u8) f]),(1,.cells 163 (i6 g::.own 3::ctb (.int .u64 h::.int .u64 i::.own 4::i6 j::.int .u64 k::i6 l::.bool m::.bool n::[]))),(2,.vec 5 (.int .u8) o false),(3,.vec 3 (.int .i64) p false),(4,.vec 5 (.int .u8) q false)],5,5⟩
def E186_865_0 (K:KT):W_refine_region_row_865_0:=((fun v=>match v with | (m,n,o,p,q,r,s,t,u,w,a,b,d,e,f,g,h,i,j,k,l,x)=>K .ret ⟨[(8,.c (i6 m))],[(0,.cells 212 [i6 n,i6 o,i6 p,.bool q,i6 r,i6 s,i6 t,.own 2,i6 u,i6 w,.sl (.int .u8) a]),(1,.cells 163 (i6 b::.own 3::ctb (.int .u64 d::.int .u64 e::.own 4::i6 f::.int .u64 g::i6 h::.bool i::.bool j::[]))),(2,.vec 5 (.int .u8) k false),(3,.vec 3 (.int .i64) l false),(4,.vec 5 (.int .u8) x false)],5,5⟩),(fun v=>match v with | (m,n,o,p,q,r,s,t,u,w,a,b,d,e,f,g,h,i,j,k,l)=>K .normal ⟨[],[(0,.cells 212 [i6 m,i6 n,i6 o,.bool p,i6 q,i6 r,i6 s,.own 2,i6 t,i6 u,.sl (.int .u8) w]),(1,.cells 163 (i6 a::.own 3::ctb (.int .u64 b::.int .u64 d::.own 4::i6 e::.int .u64 f::i6 g::.bool h::.bool i::[]))),(2,.vec 5 (.int .u8) j false),(3,.vec 3 (.int .i64) k false),(4,.vec 5 (.int .u8) l false)],5,5⟩))
theorem S186_865_0_okg (fuel:Nat) (a:YF136_aa3) (d:YF147) (b:YF158_391) (c:YF159_391) (R:Ev.St→OA) (K:KT) (u w:Int) (x y:Int) (z A:Int) (B C:Int) (D:Bool) (E e:Int) (f g h:Int) (i:LI) (j k:Int) (l m:Int) (n o:Int) (p q:Bool) (r s t:LI):evalCode tab (Gg186_865 a d b c) J0 kp186_865 fuel (bodyOf 0 Try.f186) (T186_865_0 (u,w,x,y,z,A,B,C,D,E,e,f,g,h,i,j,k,l,m,n,o,p,q,r,s,t)) (lc kp186_865 8 0 R K)=Sg_refine_region_row_865_0 fuel a d b c u w x y z A B C D E e f g h i j k l m n o p q r s t (fun v=>R (T186_865_0 v)) (E186_865_0 K):=by
  kernel_rfl
def B186_865_0 (fuel:Nat):Ev.Blk:=fun st K=>match canonO (kp186_865 8) st with | some s=>(match s with | ⟨[(J,.c (.ptr L M)),(N,.c (.ptr O P)),(Q,.c (i6 R)),(S,.c (i6 T)),(U,.c (i6 V)),(W,.c (i6 X)),(a,.c (i6 Y))],[(b,.cells d [i6 Z,i6 a0,i6 a1,.bool a2,i6 a3,i6 e,i6 f,.own g,i6 h,i6 i,.sl (.int .u8) j]),(k,.cells l m),(n,.vec o (.int .u8) p false),(q,.vec r (.int .i64) t false),(u,.vec v (.int .u8) w false)],x,y⟩=>(match splitRun 2 ctn m with | some ([i6 z,.own A],[.int .u64 B,.int .u64 C,.own D,i6 E,.int .u64 F,i6 G,.bool H,.bool I])=>bif qb [J,L,M,N,O,P,Q,S,U,W,a,b,d,g,k,l,n,o,q,r,u,v,x,y,A,D] [0,0,0,1,1,0,2,3,9,44,45,0,212,2,1,163,2,5,3,3,4,5,5,5,3,4] then iter (S_refine_region_row_865_0 fuel) fuel (R,T,V,X,Y,Z,a0,a1,a2,a3,e,f,h,i,j,z,B,C,E,F,G,H,I,p,t,w) (E186_865_0 K) else none | _=>none) | _=>none) | none=>none
theorem B186_865_0_ok (fuel:Nat) (st:Ev.St) (K:KT) (r:Ans) (h:B186_865_0 fuel st K=some r):evalCode tab (G186_865 fuel) J0 kp186_865 fuel (.block 0 (.loop (bodyOf 0 Try.f186))) st K=some r:=by
  unfold B186_865_0 at h
  split at h
  · rename_i s hs
    split at h
    · skip
      split at h
      rotate_left 1
      · cases h
      rename_i hsp
      have esp:=splitRun_eq hsp
      subst esp
      obtain ⟨hb,h⟩:=cond_some' h
      cases qb_eq hb
      exact blk_loop (S:=T186_865_0) (ks:=E186_865_0) (step:=S_refine_region_row_865_0 fuel) (v:=(_,_,_,_,_,_,_,_,_,_,_,_,_,_,_,_,_,_,_,_,_,_,_,_,_,_)) (by kernel_rfl) (by kernel_rfl) (fun R K v=>by obtain ⟨t,u,w,x,y,z,A,B,C,D,a,b,c,d,e,f,g,i,j,k,l,m,n,o,p,q⟩:=v; exact S186_865_0_okg fuel (F_coder_Decoder_Get_aa3 fuel) (F_refine_contexts fuel) (F_refine_region_flat_391 fuel) (F_refine_region_context_391 fuel) R K t u w x y z A B C D a b c d e f g i j k l m n o p q) hs h
    · cases h
  · cases h
def J186_865 (fuel:Nat) (i:Nat):Option Ev.Blk:=Ev.look i [(100000,B186_865_0 fuel)]
def Fg_refine_region_row_865 (fuel:Nat) (a3:YF136_aa3) (a4:YF147) (a7:YF158_391) (a8:YF159_391) (B a2:Int) (b C D:Int) (c:Bool) (E a:Int) (F G y:Int) (z:LI) (S T:Int) (U V:Int) (W X:Int) (Y Z:Bool) (A a0 a1:LI) (k0:(Int×Int×Int×Int×Bool×Int×Int×Int×Int×Int×LI×Int×Int×Int×Int×Int×Int×Bool×Bool×LI×LI×LI)→OA):OA:=bif c then (a4 b (fun a6=>(a3 (i64.wrap (B+a6)) S T U V W X Y Z a0 a1 (fun (a5,J,K,L,M,N,O,P,Q,R,H,I)=>bif J != 0 then k0 (J,b,C,D,c,E,a,F,G,y,z,K,L,M,N,O,P,Q,R,A,H,I) else (L_refine_region_row_865_0 fuel (B,a2,a5,a,0,b,C,D,c,E,a,F,G,y,z,K,L,M,N,O,P,Q,R,A,H,I) (fun (ret0_0,ret0_1,ret0_2,ret0_3,ret0_4,ret0_5,ret0_6,ret0_7,ret0_8,ret0_9,ret0_10,ret0_11,ret0_12,ret0_13,ret0_14,ret0_15,ret0_16,ret0_17,ret0_18,ret0_19,ret0_20,ret0_21)=>k0 (ret0_0,ret0_1,ret0_2,ret0_3,ret0_4,ret0_5,ret0_6,ret0_7,ret0_8,ret0_9,ret0_10,ret0_11,ret0_12,ret0_13,ret0_14,ret0_15,ret0_16,ret0_17,ret0_18,ret0_19,ret0_20,ret0_21)) (fun (o,p,q,r,s,t,u,v,w,x,d,e,f,g,h,i,j,k,l,m,n)=>k0 (0,o,p,q,r,s,t,u,v,w,x,d,e,f,g,h,i,j,k,l,m,n))))))) else (L_refine_region_row_865_0 fuel (B,a2,0,a,0,b,C,D,c,E,a,F,G,y,z,S,T,U,V,W,X,Y,Z,A,a0,a1) (fun (ret0_0,ret0_1,ret0_2,ret0_3,ret0_4,ret0_5,ret0_6,ret0_7,ret0_8,ret0_9,ret0_10,ret0_11,ret0_12,ret0_13,ret0_14,ret0_15,ret0_16,ret0_17,ret0_18,ret0_19,ret0_20,ret0_21)=>k0 (ret0_0,ret0_1,ret0_2,ret0_3,ret0_4,ret0_5,ret0_6,ret0_7,ret0_8,ret0_9,ret0_10,ret0_11,ret0_12,ret0_13,ret0_14,ret0_15,ret0_16,ret0_17,ret0_18,ret0_19,ret0_20,ret0_21)) (fun (o,p,q,r,s,t,u,v,w,x,d,e,f,g,h,i,j,k,l,m,n)=>k0 (0,o,p,q,r,s,t,u,v,w,x,d,e,f,g,h,i,j,k,l,m,n)))
abbrev YF186_865:Type:=Int→Int→Int→Int→Int→Bool→Int→Int→Int→Int→Int→LI→Int→Int→Int→Int→Int→Int→Bool→Bool→LI→LI→LI→((Int×Int×Int×Int×Bool×Int×Int×Int×Int×Int×LI×Int×Int×Int×Int×Int×Int×Bool×Bool×LI×LI×LI)→Option Ans)→Option Ans
def F_refine_region_row_865 (fuel:Nat):YF186_865:=Fg_refine_region_row_865 fuel (F_coder_Decoder_Get_aa3 fuel) (F_refine_contexts fuel) (F_refine_region_flat_391 fuel) (F_refine_region_context_391 fuel)
theorem F186_865_eqg (fuel:Nat) (a:YF136_aa3) (e:YF147) (b:YF158_391) (d:YF159_391) (u v:Int) (w x y:Int) (z:Bool) (A B:Int) (C D f:Int) (g:LI) (h i:Int) (j l:Int) (m n:Int) (o p:Bool) (q s t:LI) (k:Ev.Cont):evalFn tab (Gg186_865 a e b d) (J186_865 fuel) kp186_865 fuel Try.f186 [.c (.ptr 0 0),.c (.ptr 1 0),.c (i6 u),.c (i6 v)] [.cells 212 [i6 w,i6 x,i6 y,.bool z,i6 A,i6 B,i6 C,.own 2,i6 D,i6 f,.sl (.int .u8) g],.cells 163 (i6 h::.own 3::ctb (.int .u64 i::.int .u64 j::.own 4::i6 l::.int .u64 m::i6 n::.bool o::.bool p::[])),.vec 5 (.int .u8) q false,.vec 3 (.int .i64) s false,.vec 5 (.int .u8) t false] k=Fg_refine_region_row_865 fuel a e b d u v w x y z A B C D f g h i j l m n o p q s t (fun r=>match r with | (Q,R,S,T,U,V,W,X,Y,Z,E,F,G,H,I,J,K,L,M,N,O,P)=>k (.c (i6 Q),[.cells 212 [i6 R,i6 S,i6 T,.bool U,i6 V,i6 W,i6 X,.own 2,i6 Y,i6 Z,.sl (.int .u8) E],.cells 163 (i6 F::.own 3::ctb (.int .u64 G::.int .u64 H::.own 4::i6 I::.int .u64 J::i6 K::.bool L::.bool M::[])),.vec 5 (.int .u8) N false,.vec 3 (.int .i64) O false,.vec 5 (.int .u8) P false])):=by
  kernel_rfl
theorem hG186_865 (fuel:Nat):GOK Try.prog (G186_865 fuel):=
  gc (ok136_aa3 fuel) Try.func136 (by kernel_rfl) rfl <|
  gc (ok147 fuel) Try.func147 (by kernel_rfl) rfl <|
  gc (ok158_391 fuel) Try.func158 (by kernel_rfl) rfl <|
  gc (ok159_391 fuel) Try.func159 (by kernel_rfl) rfl <|
  gok_nil
theorem B186_865_0_blk (fuel:Nat):BlkOK Try.prog Try.f186.ntmps (.block 0 (.loop (bodyOf 0 Try.f186))) (B186_865_0 fuel):=bo0 (hG186_865 fuel) (by kernel_rfl) (by kernel_rfl) (B186_865_0_ok fuel)
def spg186_865 (F:YF186_865):Ev.Spec:=fun args objs k=>match args,objs with | [.c (.ptr G H),.c (.ptr I J),.c (i6 K),.c (i6 L)],[.cells M [i6 N,i6 O,i6 P,.bool Q,i6 R,i6 S,i6 T,.own U,i6 V,i6 a,.sl (.int .u8) b],.cells W d,.vec X (.int .u8) e false,.vec Y (.int .i64) f false,.vec Z (.int .u8) g false]=>(match splitRun 2 ctn d with | some ([i6 h,.own i],[.int .u64 j,.int .u64 l,.own m,i6 n,.int .u64 o,i6 p,.bool q,.bool s])=>bif qb [G,H,I,J,M,U,W,X,Y,Z,i,m] [0,0,1,0,212,2,163,5,3,5,3,4] then F K L N O P Q R S T V a b h j l n o p q s e f g (fun r=>match r with | (a0,a1,a2,a3,a4,a5,a6,a7,a8,a9,t,u,v,w,x,y,z,A,B,C,D,E)=>k (.c (i6 a0),[.cells 212 [i6 a1,i6 a2,i6 a3,.bool a4,i6 a5,i6 a6,i6 a7,.own 2,i6 a8,i6 a9,.sl (.int .u8) t],.cells 163 (i6 u::.own 3::ctb (.int .u64 v::.int .u64 w::.own 4::i6 x::.int .u64 y::i6 z::.bool A::.bool B::[])),.vec 5 (.int .u8) C false,.vec 3 (.int .i64) D false,.vec 5 (.int .u8) E false])) else none | _=>none) | _,_=>none
theorem ok186_865 (fuel:Nat):FnOK Try.prog 186 (spg186_865 (F_refine_region_row_865 fuel)):=by
  intro args objs kk r h
  unfold spg186_865 at h
  split at h
  · skip
    split at h
    rotate_left 1
    · cases h
    rename_i hsp
    have esp:=splitRun_eq hsp
    subst esp
    obtain ⟨hb,h⟩:=cond_some' h
    cases qb_eq hb
    exact fo1 (hG186_865 fuel) Try.func186 rfl (B186_865_0_blk fuel) (by kernel_rfl) _ _ kk r ((F186_865_eqg fuel (F_coder_Decoder_Get_aa3 fuel) (F_refine_contexts fuel) (F_refine_region_flat_391 fuel) (F_refine_region_context_391 fuel) _ _ _ _ _ _ _ _ _ _ _ _ _ _ _ _ _ _ _ _ _ _ _ kk).trans h)
  · cases h
def kp182_fd3 (i:Nat):Option (List Nat):=Ev.look i [(13,[0,1,3,4,12,18,64,65]),(100000,[3,4,12,18]),(200009,[8]),(200011,[8,11]),(400000,[12,13]),(600000,[])]
def Gg182_fd3 (h:YF25) (i:YF65) (a:YF136_aa3) (b:YF139_40a) (e:YF154) (g:YF155) (c:YF156_adf) (d:YF186_865) (f:Nat):Option Ev.Spec:=Ev.look f [(25,spg25 h),(65,spg65 i),(136,spg136_aa3 a),(139,spg139_40a b),(154,spg154 e),(155,spg155 g),(1000156,spg156_adf c),(186,spg186_865 d)]
def G182_fd3 (fuel:Nat):Nat→Option Ev.Spec:=Gg182_fd3 (F_bitmap_New fuel) (F_bitmap_Valid fuel) (F_coder_Decoder_Get_aa3 fuel) (F_coder_Decoder_Model_40a fuel) (F_refine_Valid fuel) (F_refine_fits fuel) (F_refine_newRegion_adf fuel) (F_refine_region_row_865 fuel)
abbrev V_refine_Get_fd3_0:Type:=Int×Int×Int×Int×Int×Int×Int×Int×Int×Int×Int×Bool×Bool×LI×LI×Int×Int×Int×Int×Int×Bool×Int×Int×Int×Int×Int×LI×LI×LI
abbrev W_refine_Get_fd3_0:Type:=(Int×Int×Int×Int×Int×Int×Int×Bool×Bool×LI×LI×Int×Int×LI→OA)×(Int×Int×Int×Int×Int×Int×Int×Int×Bool×Bool×LI×LI×Int×Int×Int×Int×Int×Bool×Int×Int×Int×Int×Int×LI×LI×LI→OA)
def Sg_refine_Get_fd3_0 (fuel:Nat) (a8:YF25) (a9:YF65) (a3:YF136_aa3) (a4:YF139_40a) (a6:YF154) (a7:YF155) (a5:YF156_adf) (R:YF186_865) (I J:Int) (K L:Int) (a M:Int) (N O:Int) (P Q o:Int) (p q:Bool) (r s:LI) (t u:Int) (v w x:Int) (y:Bool) (z A:Int) (C D E:Int) (F G H:LI) (c:V_refine_Get_fd3_0→OA) (B:W_refine_Get_fd3_0):OA:=match B with | (ret,b)=>bif decide (a < L) then (R I a v w x y z A C D E F M N O P Q o p q H r s (fun (n,U,V,W,X,Y,Z,a0,a1,a2,S,d,e,f,g,h,i,j,k,T,l,m)=>bif n != 0 then ret (n,d,e,f,g,h,i,j,k,l,m,0,0,[]) else c (I,J,K,L,i64.wrap (a+1),d,e,f,g,h,i,j,k,l,m,t,u,U,V,W,X,Y,Z,a0,a1,a2,S,G,T))) else b (J,K,M,N,O,P,Q,o,p,q,r,s,t,u,v,w,x,y,z,A,C,D,E,F,G,H)
def S_refine_Get_fd3_0 (fuel:Nat) (v:Int×Int×Int×Int×Int×Int×Int×Int×Int×Int×Int×Bool×Bool×(List Int)×(List Int)×Int×Int×Int×Int×Int×Bool×Int×Int×Int×Int×Int×(List Int)×(List Int)×(List Int)) (c:(Int×Int×Int×Int×Int×Int×Int×Int×Int×Int×Int×Bool×Bool×(List Int)×(List Int)×Int×Int×Int×Int×Int×Bool×Int×Int×Int×Int×Int×(List Int)×(List Int)×(List Int))→Option Ans) (B:(Int×Int×Int×Int×Int×Int×Int×Bool×Bool×(List Int)×(List Int)×Int×Int×(List Int)→Option Ans)×(Int×Int×Int×Int×Int×Int×Int×Int×Bool×Bool×(List Int)×(List Int)×Int×Int×Int×Int×Int×Bool×Int×Int×Int×Int×Int×(List Int)×(List Int)×(List Int)→Option Ans)):Option Ans:=match v with | (u,w,x,y,z,A,C,D,E,F,a,b,d,e,f,g,h,i,j,k,l,m,n,o,p,q,r,s,t)=>Sg_refine_Get_fd3_0 fuel (F_bitmap_New fuel) (F_bitmap_Valid fuel) (F_coder_Decoder_Get_aa3 fuel) (F_coder_Decoder_Model_40a fuel) (F_refine_Valid fuel) (F_refine_fits fuel) (F_refine_newRegion_adf fuel) (F_refine_region_row_865 fuel) u w x y z A C D E F a b d e f g h i j k l m n o p q r s t c B
def L_refine_Get_fd3_0 (fuel:Nat) (v:V_refine_Get_fd3_0) (ret:(Int×Int×Int×Int×Int×Int×Int×Bool×Bool×(List Int)×(List Int)×Int×Int×(List Int)→Option Ans)) (b:(Int×Int×Int×Int×Int×Int×Int×Int×Bool×Bool×(List Int)×(List Int)×Int×Int×Int×Int×Int×Bool×Int×Int×Int×Int×Int×(List Int)×(List Int)×(List Int)→Option Ans)):Option Ans:=iter (S_refine_Get_fd3_0 fuel) fuel v (ret,b)
def T182_fd3_0 (v:V_refine_Get_fd3_0):Ev.St:=match v with | (u,w,x,y,z,A,B,C,D,E,a,b,d,e,f,g,h,i,j,k,l,m,n,o,p,q,r,s,t)=>⟨[(0,.c (.ptr 0 0)),(1,.c (i6 u)),(3,.c (i6 w)),(4,.c (i6 x)),(12,.c (.ptr 3 0)),(18,.c (.ptr 4 0)),(64,.c (i6 y)),(65,.c (i6 z))],[(0,.cells 163 (i6 A::.own 1::ctb (.int .u64 B::.int .u64 C::.own 2::i6 D::.int .u64 E::i6 a::.bool b::.bool d::[]))),(1,.vec 3 (.int .i64) e false),(2,.vec 5 (.int .u8) f false),(3,.cells 35 [i6 g,i6 h,.own 5]),(4,.cells 212 [i6 i,i6 j,i6 k,.bool l,i6 m,i6 n,i6 o,.own 6,i6 p,i6 q,.sl (.int .u8) r]),(5,.vec 5 (.int .u8) s true),(6,.vec 5 (.int .u8) t true)],7,3⟩
def E182_fd3_0 (K:KT):W_refine_Get_fd3_0:=((fun v=>match v with | (f,g,h,i,j,k,l,m,n,o,a,b,d,e)=>K .ret ⟨[(12,.c (.ptr 3 0)),(13,.c (i6 f))],[(0,.cells 163 (i6 g::.own 1::ctb (.int .u64 h::.int .u64 i::.own 2::i6 j::.int .u64 k::i6 l::.bool m::.bool n::[]))),(1,.vec 3 (.int .i64) o false),(2,.vec 5 (.int .u8) a false),(3,.cells 35 [i6 b,i6 d,.own 4]),(4,.vec 5 (.int .u8) e true)],5,3⟩),(fun v=>match v with | (f,g,h,i,j,k,l,m,n,o,a,b,d,e,p,q,r,s,t,u,w,x,y,z,A,B)=>K .normal ⟨[(3,.c (i6 f)),(4,.c (i6 g)),(12,.c (.ptr 3 0)),(18,.c (.ptr 4 0))],[(0,.cells 163 (i6 h::.own 1::ctb (.int .u64 i::.int .u64 j::.own 2::i6 k::.int .u64 l::i6 m::.bool n::.bool o::[]))),(1,.vec 3 (.int .i64) a false),(2,.vec 5 (.int .u8) b false),(3,.cells 35 [i6 d,i6 e,.own 5]),(4,.cells 212 [i6 p,i6 q,i6 r,.bool s,i6 t,i6 u,i6 w,.own 6,i6 x,i6 y,.sl (.int .u8) z]),(5,.vec 5 (.int .u8) A true),(6,.vec 5 (.int .u8) B true)],7,3⟩))
theorem S182_fd3_0_okg (fuel:Nat) (g:YF25) (h:YF65) (a:YF136_aa3) (b:YF139_40a) (e:YF154) (f:YF155) (c:YF156_adf) (d:YF186_865) (R:Ev.St→OA) (K:KT) (C D:Int) (E F:Int) (G H:Int) (I J:Int) (L M i:Int) (j k:Bool) (l m:LI) (n o:Int) (p q r:Int) (s:Bool) (t u:Int) (w x y:Int) (z A B:LI):evalCode tab (Gg182_fd3 g h a b e f c d) J0 kp182_fd3 fuel (bodyOf 0 Try.f182) (T182_fd3_0 (C,D,E,F,G,H,I,J,L,M,i,j,k,l,m,n,o,p,q,r,s,t,u,w,x,y,z,A,B)) (lc kp182_fd3 13 0 R K)=Sg_refine_Get_fd3_0 fuel g h a b e f c d C D E F G H I J L M i j k l m n o p q r s t u w x y z A B (fun v=>R (T182_fd3_0 v)) (E182_fd3_0 K):=by
  kernel_rfl
def B182_fd3_0 (fuel:Nat):Ev.Blk:=fun st K=>match canonO (kp182_fd3 13) st with | some s=>(match s with | ⟨[(V,.c (.ptr W X)),(Y,.c (i6 Z)),(a0,.c (i6 a1)),(a2,.c (i6 a3)),(a4,.c (.ptr a5 a6)),(a7,.c (.ptr a b)),(d,.c (i6 a8)),(e,.c (i6 a9))],[(f,.cells g h),(i,.vec j (.int .i64) k false),(l,.vec m (.int .u8) n false),(o,.cells p [i6 q,i6 r,.own t]),(u,.cells v [i6 w,i6 x,i6 y,.bool z,i6 A,i6 B,i6 C,.own D,i6 E,i6 F,.sl (.int .u8) G]),(H,.vec I (.int .u8) J true),(L,.vec M (.int .u8) N true)],O,P⟩=>(match splitRun 2 ctn h with | some ([i6 b0,.own Q],[.int .u64 b1,.int .u64 b2,.own R,i6 b3,.int .u64 b4,i6 S,.bool T,.bool U])=>bif qb [V,W,X,Y,a0,a2,a4,a5,a6,a7,a,b,d,e,f,g,i,j,l,m,o,p,t,u,v,D,H,I,L,M,O,P,Q,R] [0,0,0,1,3,4,12,3,0,18,4,0,64,65,0,163,1,3,2,5,3,35,5,4,212,6,5,5,6,5,7,3,1,2] then iter (S_refine_Get_fd3_0 fuel) fuel (Z,a1,a3,a8,a9,b0,b1,b2,b3,b4,S,T,U,k,n,q,r,w,x,y,z,A,B,C,E,F,G,J,N) (E182_fd3_0 K) else none | _=>none) | _=>none) | none=>none
theorem B182_fd3_0_ok (fuel:Nat) (st:Ev.St) (K:KT) (r:Ans) (h:B182_fd3_0 fuel st K=some r):evalCode tab (G182_fd3 fuel) J0 kp182_fd3 fuel (.block 0 (.loop (bodyOf 0 Try.f182))) st K=some r:=by
  unfold B182_fd3_0 at h
  split at h
  · rename_i s hs
    split at h
    · skip
      split at h
      rotate_left 1
      · cases h
      rename_i hsp
      have esp:=splitRun_eq hsp
      subst esp
      obtain ⟨hb,h⟩:=cond_some' h
      cases qb_eq hb
      exact blk_loop (S:=T182_fd3_0) (ks:=E182_fd3_0) (step:=S_refine_Get_fd3_0 fuel) (v:=(_,_,_,_,_,_,_,_,_,_,_,_,_,_,_,_,_,_,_,_,_,_,_,_,_,_,_,_,_)) (by kernel_rfl) (by kernel_rfl) (fun R K v=>by obtain ⟨x,y,z,A,B,C,D,E,F,G,a,b,c,d,e,f,g,i,j,k,l,m,n,o,p,q,t,u,w⟩:=v; exact S182_fd3_0_okg fuel (F_bitmap_New fuel) (F_bitmap_Valid fuel) (F_coder_Decoder_Get_aa3 fuel) (F_coder_Decoder_Model_40a fuel) (F_refine_Valid fuel) (F_refine_fits fuel) (F_refine_newRegion_adf fuel) (F_refine_region_row_865 fuel) R K x y z A B C D E F G a b c d e f g i j k l m n o p q t u w) hs h
    · cases h
  · cases h
def J182_fd3 (fuel:Nat) (i:Nat):Option Ev.Blk:=Ev.look i [(100000,B182_fd3_0 fuel)]
def Fg_refine_Get_fd3 (fuel:Nat) (b2:YF25) (b3:YF65) (G:YF136_aa3) (H:YF139_40a) (a0:YF154) (a1:YF155) (I:YF156_adf) (c7:YF186_865) (D m:Int) (n o:Int) (p:Bool) (q b:Int) (a E F:Int) (C:LI) (b4 b5:Int) (b6 b7:Int) (b8 b9:Int) (c0 c1:Bool) (c2 c3:LI) (k0:(Int×Int×LI×Int×Int×Int×Int×Int×Int×Int×Bool×Bool×LI×LI)→OA):OA:=(G ((-1:Int)) b4 b5 b6 b7 b8 b9 c0 c1 c2 c3 (fun (e4,B,e,f,g,h,i,j,k,l,c,d)=>bif B==7 then k0 (0,0,[],B,e,f,g,h,i,j,k,l,c,d) else (a0 m n o p q (fun c6=>bif !c6 then k0 (0,0,[],2,e,f,g,h,i,j,k,l,c,d) else (b2 b a (0) (fun (c8,c9,L,d0)=>bif L != 0 then k0 (0,0,[],30,e,f,g,h,i,j,k,l,c,d) else (b3 E F C (fun c4=>bif !c4 then k0 (0,0,[],30,e,f,g,h,i,j,k,l,c,d) else (H e f g h i j k l c d (fun (M,s,t,u,v,w,x,y,z,A,r,J)=>(a1 M J D m n o p q (fun c5=>bif !c5 then k0 (0,0,[],2,s,t,u,v,w,x,y,z,A,r) else bif decide (0≤i64.wrap (b*a)∧i64.wrap (b*a)=i64.wrap (b*a)∧(↑(1:Nat):Int)*i64.wrap (b*a)≤281474976710656∧i64.wrap (b*a)≤281474976710656) then (I m n o p q b a E F C (List.replicate (i64.wrap (b*a)).toNat (0:Int)) (fun (N,O,P,Q,R,S,T,U,V,W,K)=>(L_refine_Get_fd3_0 fuel (D,b,a,a,0,s,t,u,v,w,x,y,z,A,r,0,0,O,P,Q,R,S,T,U,V,W,K,[],N) (fun (ret0_0,ret0_1,ret0_2,ret0_3,ret0_4,ret0_5,ret0_6,ret0_7,ret0_8,ret0_9,ret0_10,ret0_11,ret0_12,ret0_13)=>k0 (ret0_11,ret0_12,ret0_13,ret0_0,ret0_1,ret0_2,ret0_3,ret0_4,ret0_5,ret0_6,ret0_7,ret0_8,ret0_9,ret0_10)) (fun (a2,a3,a4,a5,a6,a7,a8,a9,b0,b1,X,Y,d1,d2,d3,d4,d5,d6,d7,d8,d9,e0,e1,e2,e3,Z)=>k0 (a2,a3,Z,0,a4,a5,a6,a7,a8,a9,b0,b1,X,Y))))) else none))))))))))))
abbrev YF182_fd3:Type:=Int→Int→Int→Int→Bool→Int→Int→Int→Int→Int→LI→Int→Int→Int→Int→Int→Int→Bool→Bool→LI→LI→((Int×Int×LI×Int×Int×Int×Int×Int×Int×Int×Bool×Bool×LI×LI)→Option Ans)→Option Ans
def F_refine_Get_fd3 (fuel:Nat):YF182_fd3:=Fg_refine_Get_fd3 fuel (F_bitmap_New fuel) (F_bitmap_Valid fuel) (F_coder_Decoder_Get_aa3 fuel) (F_coder_Decoder_Model_40a fuel) (F_refine_Valid fuel) (F_refine_fits fuel) (F_refine_newRegion_adf fuel) (F_refine_region_row_865 fuel)
theorem F182_fd3_eqg (fuel:Nat) (h:YF25) (i:YF65) (a:YF136_aa3) (b:YF139_40a) (f:YF154) (g:YF155) (d:YF156_adf) (e:YF186_865) (w x:Int) (y z:Int) (A:Bool) (B C:Int) (D E F:Int) (j:LI) (l m:Int) (n o:Int) (p q:Int) (s t:Bool) (u v:LI) (k:Ev.Cont):evalFn tab (Gg182_fd3 h i a b f g d e) (J182_fd3 fuel) kp182_fd3 fuel Try.f182 [.c (.ptr 0 0),.c (i6 w),.agg [i6 x,i6 y,i6 z,.bool A,i6 B],.c (i6 C),.c (i6 D),.agg [i6 E,i6 F,.sl (.int .u8) j]] [.cells 163 (i6 l::.own 1::ctb (.int .u64 m::.int .u64 n::.own 2::i6 o::.int .u64 p::i6 q::.bool s::.bool t::[])),.vec 3 (.int .i64) u false,.vec 5 (.int .u8) v false] k=Fg_refine_Get_fd3 fuel h i a b f g d e w x y z A B C D E F j l m n o p q s t u v (fun r=>match r with | (K,L,M,N,O,P,Q,R,S,T,G,H,I,J)=>k (.tup [(true,[i6 K,i6 L,.sl (.int .u8) M]),(false,[i6 N])],[.cells 163 (i6 O::.own 1::ctb (.int .u64 P::.int .u64 Q::.own 2::i6 R::.int .u64 S::i6 T::.bool G::.bool H::[])),.vec 3 (.int .i64) I false,.vec 5 (.int .u8) J false])):=by
  kernel_rfl
theorem hG182_fd3 (fuel:Nat):GOK Try.prog (G182_fd3 fuel):=
  gc (ok25 fuel) Try.func25 (by kernel_rfl) rfl <|
  gc (ok65 fuel) Try.func65 (by kernel_rfl) rfl <|
  gc (ok136_aa3 fuel) Try.func136 (by kernel_rfl) rfl <|
  gc (ok139_40a fuel) Try.func139 (by kernel_rfl) rfl <|
  gc (ok154 fuel) Try.func154 (by kernel_rfl) rfl <|
  gc (ok155 fuel) Try.func155 (by kernel_rfl) rfl <|
  gc (ok156_adf fuel) Try.func156 (by kernel_rfl) rfl <|
  gc (ok186_865 fuel) Try.func186 (by kernel_rfl) rfl <|
  gok_nil
theorem B182_fd3_0_blk (fuel:Nat):BlkOK Try.prog Try.f182.ntmps (.block 0 (.loop (bodyOf 0 Try.f182))) (B182_fd3_0 fuel):=bo0 (hG182_fd3 fuel) (by kernel_rfl) (by kernel_rfl) (B182_fd3_0_ok fuel)
def spg182_fd3 (F:YF182_fd3):Ev.Spec:=fun args objs k=>match args,objs with | [.c (.ptr t u),.c (i6 v),.agg [i6 w,i6 x,i6 y,.bool z,i6 A],.c (i6 B),.c (i6 C),.agg [i6 D,i6 E,.sl (.int .u8) a]],[.cells G b,.vec H (.int .i64) d false,.vec I (.int .u8) e false]=>(match splitRun 2 ctn b with | some ([i6 f,.own J],[.int .u64 g,.int .u64 h,.own K,i6 i,.int .u64 j,i6 l,.bool m,.bool n])=>bif qb [t,u,G,H,I,J,K] [0,0,163,3,5,1,2] then F v w x y z A B C D E a f g h i j l m n d e (fun r=>match r with | (L,M,N,O,P,Q,R,S,T,U,o,p,q,s)=>k (.tup [(true,[i6 L,i6 M,.sl (.int .u8) N]),(false,[i6 O])],[.cells 163 (i6 P::.own 1::ctb (.int .u64 Q::.int .u64 R::.own 2::i6 S::.int .u64 T::i6 U::.bool o::.bool p::[])),.vec 3 (.int .i64) q false,.vec 5 (.int .u8) s false])) else none | _=>none) | _,_=>none
theorem ok182_fd3 (fuel:Nat):FnOK Try.prog 182 (spg182_fd3 (F_refine_Get_fd3 fuel)):=by
  intro args objs kk r h
  unfold spg182_fd3 at h
  split at h
  · skip
    split at h
    rotate_left 1
    · cases h
    rename_i hsp
    have esp:=splitRun_eq hsp
    subst esp
    obtain ⟨hb,h⟩:=cond_some' h
    cases qb_eq hb
    exact fo1 (hG182_fd3 fuel) Try.func182 rfl (B182_fd3_0_blk fuel) (by kernel_rfl) _ _ kk r ((F182_fd3_eqg fuel (F_bitmap_New fuel) (F_bitmap_Valid fuel) (F_coder_Decoder_Get_aa3 fuel) (F_coder_Decoder_Model_40a fuel) (F_refine_Valid fuel) (F_refine_fits fuel) (F_refine_newRegion_adf fuel) (F_refine_region_row_865 fuel) _ _ _ _ _ _ _ _ _ _ _ _ _ _ _ _ _ _ _ _ _ kk).trans h)
  · cases h
def kp105 (i:Nat):Option (List Nat):=Ev.look i []
def Gg105 (f:Nat):Option Ev.Spec:=Ev.look f []
def G105 (fuel:Nat):Nat→Option Ev.Spec:=Gg105
def F_text_layout_options (fuel:Nat) (f g:Int) (h:Bool) (i j c:Int) (k:Bool) (d l:Int) (m e:Int) (a b:Int) (k0:(Int×Int×Int×Bool×Int)→Option Ans):Option Ans:=k0 (d,a,b,false,c)
abbrev YF105:Type:=Int→Int→Bool→Int→Int→Int→Bool→Int→Int→Int→Int→Int→Int→((Int×Int×Int×Bool×Int)→Option Ans)→Option Ans
theorem F105_eq (fuel:Nat) (e f:Int) (g:Bool) (h i j:Int) (l:Bool) (m n:Int) (o a:Int) (b d:Int) (k:Ev.Cont):evalFn tab (G105 fuel) J0 kp105 fuel Try.f105 [.agg [i6 e,i6 f,.bool g,i6 h,i6 i,i6 j,.bool l,i6 m,i6 n,i6 o,i6 a],.c (i6 b),.c (i6 d)] [] k=F_text_layout_options fuel e f g h i j l m n o a b d (fun r=>match r with | (p,q,s,t,u)=>k (.agg [i6 p,i6 q,i6 s,.bool t,i6 u],[])):=by
  kernel_rfl
theorem hG105 (fuel:Nat):GOK Try.prog (G105 fuel):=
  gok_nil
def spg105 (F:YF105):Ev.Spec:=fun args objs k=>match args,objs with | [.agg [i6 e,i6 f,.bool g,i6 h,i6 i,i6 j,.bool l,i6 m,i6 n,i6 o,i6 a],.c (i6 b),.c (i6 d)],[]=>F e f g h i j l m n o a b d (fun r=>match r with | (p,q,s,t,u)=>k (.agg [i6 p,i6 q,i6 s,.bool t,i6 u],[])) | _,_=>none
theorem ok105 (fuel:Nat):FnOK Try.prog 105 (spg105 (F_text_layout_options fuel)):=by
  intro args objs kk r h
  unfold spg105 at h
  split at h
  · skip
    exact fo0 (hG105 fuel) Try.func105 rfl (by kernel_rfl) _ _ kk r ((F105_eq fuel _ _ _ _ _ _ _ _ _ _ _ _ _ kk).trans h)
  · cases h
def kp59_b14 (i:Nat):Option (List Nat):=Ev.look i []
def Gg59_b14 (a:YF56_e4a) (b:YF57_91e) (f:Nat):Option Ev.Spec:=Ev.look f [(56,spg56_e4a a),(57,spg57_91e b)]
def G59_b14 (fuel:Nat):Nat→Option Ev.Spec:=Gg59_b14 (F_text_reader_num_e4a fuel) (F_text_reader_check_91e fuel)
def Fg_text_reader_within_b14 (fuel:Nat) (a1:YF56_e4a) (c:YF57_91e) (e8 b:Int) (e9 g0:Int) (g1 g2:Int) (g3:Bool) (g4 g5 g6:Int) (c9:Bool) (d0 d1:Int) (d2 d3:Int) (d4:(List (Int×(Int×LI)))) (d5 d6:Int) (d7 d8:Int) (d9 e0:Int) (e1 e2:Int) (e3 e4:Bool) (e5:(List (Int×(Int×(Int×(Bool×(Int×(Int×(Int×(Int×LI)))))))))) (e6 e7:LI) (k0:(Int×Int×Int×Bool×Int×Int×Int×Bool×Int×Int×Int×Int×(List (Int×(Int×LI)))×Int×Int×Int×Int×Int×Int×Int×Int×Bool×Bool×(List (Int×(Int×(Int×(Bool×(Int×(Int×(Int×(Int×LI)))))))))×LI×LI)→OA):OA:=(a1 e8 g1 g2 g3 g4 g5 g6 c9 d0 d1 d2 d3 d4 d5 d6 d7 d8 d9 e0 e1 e2 e3 e4 e5 e6 e7 (fun (b8,a,K,L,M,N,O,P,Q,R,d,e,f,g,h,i,j,k,l,m,n,o,p,q,r,s,t)=>bif !b8 then bif decide (i64.wrap (a+b)≥e9) then (c (decide (i64.wrap (a+b)≤g0)) K L M N O P Q R d e f g h i j k l m n o p q r s t (fun (b9,S,T,U,V,W,X,Y,Z,a0,u,v,w,x,y,z,A,B,C,D,E,F,G,H,I,J)=>k0 (i64.wrap (a+b),S,T,U,V,W,X,Y,Z,a0,u,v,w,x,y,z,A,B,C,D,E,F,G,H,I,J))) else (c (false) K L M N O P Q R d e f g h i j k l m n o p q r s t (fun (b9,S,T,U,V,W,X,Y,Z,a0,u,v,w,x,y,z,A,B,C,D,E,F,G,H,I,J)=>k0 (i64.wrap (a+b),S,T,U,V,W,X,Y,Z,a0,u,v,w,x,y,z,A,B,C,D,E,F,G,H,I,J))) else (c (false) K L M N O P Q R d e f g h i j k l m n o p q r s t (fun (g7,c0,c1,c2,c3,c4,c5,c6,c7,c8,a2,a3,a4,a5,a6,a7,a8,a9,b0,b1,b2,b3,b4,b5,b6,b7)=>k0 (i64.wrap (a+b),c0,c1,c2,c3,c4,c5,c6,c7,c8,a2,a3,a4,a5,a6,a7,a8,a9,b0,b1,b2,b3,b4,b5,b6,b7)))))
abbrev YF59_b14:Type:=Int→Int→Int→Int→Int→Int→Bool→Int→Int→Int→Bool→Int→Int→Int→Int→((List (Int×(Int×LI))))→Int→Int→Int→Int→Int→Int→Int→Int→Bool→Bool→((List (Int×(Int×(Int×(Bool×(Int×(Int×(Int×(Int×LI))))))))))→LI→LI→((Int×Int×Int×Bool×Int×Int×Int×Bool×Int×Int×Int×Int×(List (Int×(Int×LI)))×Int×Int×Int×Int×Int×Int×Int×Int×Bool×Bool×(List (Int×(Int×(Int×(Bool×(Int×(Int×(Int×(Int×LI)))))))))×LI×LI)→Option Ans)→Option Ans
def F_text_reader_within_b14 (fuel:Nat):YF59_b14:=Fg_text_reader_within_b14 fuel (F_text_reader_num_e4a fuel) (F_text_reader_check_91e fuel)
theorem F59_b14_eqg (fuel:Nat) (a:YF56_e4a) (b:YF57_91e) (y z:Int) (A B:Int) (C D:Int) (E:Bool) (F G H:Int) (d:Bool) (e f:Int) (g h:Int) (i:(List (Int×(Int×LI)))) (j l:Int) (m n:Int) (o p:Int) (q s:Int) (t u:Bool) (v:(List (Int×(Int×(Int×(Bool×(Int×(Int×(Int×(Int×LI)))))))))) (w x:LI) (k:Ev.Cont):evalFn tab (Gg59_b14 a b) J0 kp59_b14 fuel Try.f59 [.c (.ptr 0 0),.c (i6 y),.c (i6 z),.c (i6 A),.c (i6 B)] [.cells 104 [i6 C,i6 D,.bool E,i6 F,i6 G,i6 H,.bool d,i6 e,i6 f,i6 g,i6 h,.ptr 1 0,.sl (.pair (.int .i64) (.pair (.int .i64) (.sl (.int .u8)))) i,.own 2,i6 j,i6 l],.cells 163 (i6 m::.own 3::ctb (.int .u64 n::.int .u64 o::.own 4::i6 p::.int .u64 q::i6 s::.bool t::.bool u::[])),.vec 73 (.pair (.int .i64) (.pair (.int .i64) (.pair (.int .i64) (.pair .bool (.pair (.int .i64) (.pair (.int .i64) (.pair (.int .i64) (.pair (.int .i64) (.sl (.int .u8)))))))))) v false,.vec 3 (.int .i64) w false,.vec 5 (.int .u8) x false] k=Fg_text_reader_within_b14 fuel a b y z A B C D E F G H d e f g h i j l m n o p q s t u v w x (fun r=>match r with | (Y,Z,a0,a1,a2,a3,a4,a5,a6,a7,I,J,K,L,M,N,O,P,Q,R,S,T,U,V,W,X)=>k (.c (i6 Y),[.cells 104 [i6 Z,i6 a0,.bool a1,i6 a2,i6 a3,i6 a4,.bool a5,i6 a6,i6 a7,i6 I,i6 J,.ptr 1 0,.sl (.pair (.int .i64) (.pair (.int .i64) (.sl (.int .u8)))) K,.own 2,i6 L,i6 M],.cells 163 (i6 N::.own 3::ctb (.int .u64 O::.int .u64 P::.own 4::i6 Q::.int .u64 R::i6 S::.bool T::.bool U::[])),.vec 73 (.pair (.int .i64) (.pair (.int .i64) (.pair (.int .i64) (.pair .bool (.pair (.int .i64) (.pair (.int .i64) (.pair (.int .i64) (.pair (.int .i64) (.sl (.int .u8)))))))))) V false,.vec 3 (.int .i64) W false,.vec 5 (.int .u8) X false])):=by
  kernel_rfl
theorem hG59_b14 (fuel:Nat):GOK Try.prog (G59_b14 fuel):=
  gc (ok56_e4a fuel) Try.func56 (by kernel_rfl) rfl <|
  gc (ok57_91e fuel) Try.func57 (by kernel_rfl) rfl <|
  gok_nil
def spg59_b14 (F:YF59_b14):Ev.Spec:=fun args objs k=>match args,objs with | [.c (.ptr Q R),.c (i6 S),.c (i6 T),.c (i6 U),.c (i6 V)],[.cells W [i6 X,i6 Y,.bool Z,i6 a0,i6 a1,i6 a2,.bool a,i6 b,i6 d,i6 e,i6 f,.ptr a3 a4,.sl (.pair (.int .i64) (.pair (.int .i64) (.sl (.int .u8)))) g,.own a5,i6 h,i6 i],.cells a6 j,.vec a7 (.pair (.int .i64) (.pair (.int .i64) (.pair (.int .i64) (.pair .bool (.pair (.int .i64) (.pair (.int .i64) (.pair (.int .i64) (.pair (.int .i64) (.sl (.int .u8)))))))))) l false,.vec a8 (.int .i64) m false,.vec a9 (.int .u8) n false]=>(match splitRun 2 ctn j with | some ([i6 o,.own p],[.int .u64 q,.int .u64 s,.own t,i6 u,.int .u64 v,i6 w,.bool x,.bool y])=>bif qb [Q,R,W,a3,a4,a5,a6,a7,a8,a9,p,t] [0,0,104,1,0,2,163,73,3,5,3,4] then F S T U V X Y Z a0 a1 a2 a b d e f g h i o q s u v w x y l m n (fun r=>match r with | (b0,b1,b2,b3,b4,b5,b6,b7,b8,b9,z,A,B,C,D,E,G,H,I,J,K,L,M,N,O,P)=>k (.c (i6 b0),[.cells 104 [i6 b1,i6 b2,.bool b3,i6 b4,i6 b5,i6 b6,.bool b7,i6 b8,i6 b9,i6 z,i6 A,.ptr 1 0,.sl (.pair (.int .i64) (.pair (.int .i64) (.sl (.int .u8)))) B,.own 2,i6 C,i6 D],.cells 163 (i6 E::.own 3::ctb (.int .u64 G::.int .u64 H::.own 4::i6 I::.int .u64 J::i6 K::.bool L::.bool M::[])),.vec 73 (.pair (.int .i64) (.pair (.int .i64) (.pair (.int .i64) (.pair .bool (.pair (.int .i64) (.pair (.int .i64) (.pair (.int .i64) (.pair (.int .i64) (.sl (.int .u8)))))))))) N false,.vec 3 (.int .i64) O false,.vec 5 (.int .u8) P false])) else none | _=>none) | _,_=>none
theorem ok59_b14 (fuel:Nat):FnOK Try.prog 59 (spg59_b14 (F_text_reader_within_b14 fuel)):=by
  intro args objs kk r h
  unfold spg59_b14 at h
  split at h
  · skip
    split at h
    rotate_left 1
    · cases h
    rename_i hsp
    have esp:=splitRun_eq hsp
    subst esp
    obtain ⟨hb,h⟩:=cond_some' h
    cases qb_eq hb
    exact fo0 (hG59_b14 fuel) Try.func59 rfl (by kernel_rfl) _ _ kk r ((F59_b14_eqg fuel (F_text_reader_num_e4a fuel) (F_text_reader_check_91e fuel) _ _ _ _ _ _ _ _ _ _ _ _ _ _ _ _ _ _ _ _ _ _ _ _ _ _ _ _ _ kk).trans h)
  · cases h
def kp164_032 (i:Nat):Option (List Nat):=Ev.look i [(200000,[0,1]),(200007,[0,1,4]),(600000,[])]
def Gg164_032 (c:YF59_b14) (d:YF105) (a:YF114_e4a) (b:YF182_fd3) (f:Nat):Option Ev.Spec:=Ev.look f [(59,spg59_b14 c),(105,spg105 d),(114,spg114_e4a a),(182,spg182_fd3 b)]
def G164_032 (fuel:Nat):Nat→Option Ev.Spec:=Gg164_032 (F_text_reader_within_b14 fuel) (F_text_layout_options fuel) (F_text_reader_fine_e4a fuel) (F_refine_Get_fd3 fuel)
def Fg_text_reader_bitmap_032 (fuel:Nat) (q:YF59_b14) (c9:YF105) (M:YF114_e4a) (N:YF182_fd3) (s3 s4:Int) (s5:Bool) (s6 s7 s8:Int) (s9:Bool) (t0 t1:Int) (t2 q7:Int) (b:(List (Int×(Int×LI)))) (q8 q9:Int) (a J K:Int) (t4:Bool) (t5 t6:Int) (r0 r1:Int) (r2 r3:Int) (r4 r5:Int) (r6 r7:Int) (r8 r9:Bool) (s0:(List (Int×(Int×(Int×(Bool×(Int×(Int×(Int×(Int×LI)))))))))) (L s1 s2:LI) (k0:(Int×Int×Bool×Int×Int×Int×Bool×Int×Int×Int×Int×(List (Int×(Int×LI)))×Int×Int×Int×Int×Int×Bool×Int×Int×Int×Int×Int×Int×Int×Int×Int×Int×Bool×Bool×(List (Int×(Int×(Int×(Bool×(Int×(Int×(Int×(Int×LI)))))))))×LI×LI×LI)→OA) (k1:(Int×Int×Bool×Int×Int×Int×Bool×Int×Int×Int×Int×(List (Int×(Int×LI)))×Int×Int×Int×Int×Int×Bool×Int×Int×Int×Int×LI×Int×Int×Int×Int×Int×Int×Bool×Bool×(List (Int×(Int×(Int×(Bool×(Int×(Int×(Int×(Int×LI)))))))))×LI×LI×LI)→OA):OA:=bif decide (0≤a∧a < (↑b.length:Int)) then (q (192) ((b.getD a.toNat (0,0,[])).fst) (1) (40) s3 s4 s5 s6 s7 s8 s9 t0 t1 t2 q7 b q8 q9 r2 r3 r4 r5 r6 r7 r8 r9 s0 s1 s2 (fun (c7,o9,p0,p1,p2,p3,p4,p5,p6,p7,h6,h7,h8,h9,j0,j1,j2,j3,j4,j5,j6,j7,j8,j9,k2,k3)=>(q (240) ((b.getD a.toNat (0,0,[])).snd.fst) (1) (40) o9 p0 p1 p2 p3 p4 p5 p6 p7 h6 h7 h8 h9 j0 j1 j2 j3 j4 j5 j6 j7 j8 j9 k2 k3 (fun (c8,p8,p9,q0,q1,q2,q3,q4,q5,q6,k4,k5,k6,k7,k8,k9,l0,l1,l2,l3,l4,l5,l6,l7,l8,l9)=>(q (288) (0) ((-200:Int)) (200) p8 p9 q0 q1 q2 q3 q4 q5 q6 k4 k5 k6 k7 k8 k9 l0 l1 l2 l3 l4 l5 l6 l7 l8 l9 (fun (e,m0,m1,m2,m3,m4,m5,m6,m7,m8,d0,d1,d2,d3,d4,d5,d6,d7,d8,d9,e0,e1,e2,e3,e4,e5)=>(q (336) (0) ((-200:Int)) (200) m0 m1 m2 m3 m4 m5 m6 m7 m8 d0 d1 d2 d3 d4 d5 d6 d7 d8 d9 e0 e1 e2 e3 e4 e5 (fun (f,g,h,i,j,k,l,m,n,o,c,d,r,s,p,t,u,v,w,x,y,z,A,B,C,D)=>bif p != 0 then k0 (g,h,i,j,k,l,m,n,o,c,d,r,s,p,a,J,K,true,e,f,r0,r1,t,u,v,w,x,y,z,A,B,L,C,D) else both ((c9 g h i j k l m n o c d e f (fun (E,F,G,H,I)=>both ((N c E F G H I c7 c8 ((b.getD a.toNat (0,0,[])).fst) ((b.getD a.toNat (0,0,[])).snd.fst) ((b.getD a.toNat (0,0,[])).snd.snd) t u v w x y z A C D (fun (a8,a9,b0,b1,b2,b3,b4,b5,b6,b7,O,P,Q,R)=>(M b1 g h i j k l m n o c d r s p b2 b3 b4 b5 b6 b7 O P B Q R (fun (m9,b8,b9,c0,c1,c2,c3,c4,c5,c6,S,T,U,V,W,X,Y,Z,a0,a1,a2,a3,a4,a5,a6,a7)=>k1 (b8,b9,c0,c1,c2,c3,c4,c5,c6,S,T,U,V,W,a,J,K,true,e,f,a8,a9,b0,X,Y,Z,a0,a1,a2,a3,a4,a5,L,a6,a7)))))) ((N c E F G H I c7 c8 ((b.getD a.toNat (0,0,[])).fst) ((b.getD a.toNat (0,0,[])).snd.fst) ((b.getD a.toNat (0,0,[])).snd.snd) t u v w x y z A C D (fun (a8,a9,b0,b1,b2,b3,b4,b5,b6,b7,O,P,Q,R)=>(M b1 g h i j k l m n o c d r s p b2 b3 b4 b5 b6 b7 O P B Q R (fun (m9,b8,b9,c0,c1,c2,c3,c4,c5,c6,S,T,U,V,W,X,Y,Z,a0,a1,a2,a3,a4,a5,a6,a7)=>k1 (b8,b9,c0,c1,c2,c3,c4,c5,c6,S,T,U,V,W,a,J,K,true,e,f,a8,a9,b0,X,Y,Z,a0,a1,a2,a3,a4,a5,L,a6,a7))))))))) ((c9 g h i j k l m n o c d e f (fun (E,F,G,H,I)=>(N c E F G H I c7 c8 ((b.getD a.toNat (0,0,[])).fst) ((b.getD a.toNat (0,0,[])).snd.fst) ((b.getD a.toNat (0,0,[])).snd.snd) t u v w x y z A C D (fun (n0,n1,n2,n3,n4,n5,n6,n7,n8,n9,e6,e7,e8,e9)=>(M n3 g h i j k l m n o c d r s p n4 n5 n6 n7 n8 n9 e6 e7 B e8 e9 (fun (t3,o0,o1,o2,o3,o4,o5,o6,o7,o8,g0,g1,g2,g3,g4,g5,g6,g7,g8,g9,h0,h1,h2,h3,h4,h5)=>k1 (o0,o1,o2,o3,o4,o5,o6,o7,o8,g0,g1,g2,g3,g4,a,J,K,true,e,f,n0,n1,n2,g5,g6,g7,g8,g9,h0,h1,h2,h3,L,h4,h5)))))))))))))))) else none
abbrev YF164_032:Type:=Int→Int→Bool→Int→Int→Int→Bool→Int→Int→Int→Int→((List (Int×(Int×LI))))→Int→Int→Int→Int→Int→Bool→Int→Int→Int→Int→Int→Int→Int→Int→Int→Int→Bool→Bool→((List (Int×(Int×(Int×(Bool×(Int×(Int×(Int×(Int×LI))))))))))→LI→LI→LI→((Int×Int×Bool×Int×Int×Int×Bool×Int×Int×Int×Int×(List (Int×(Int×LI)))×Int×Int×Int×Int×Int×Bool×Int×Int×Int×Int×Int×Int×Int×Int×Int×Int×Bool×Bool×(List (Int×(Int×(Int×(Bool×(Int×(Int×(Int×(Int×LI)))))))))×LI×LI×LI)→Option Ans)→((Int×Int×Bool×Int×Int×Int×Bool×Int×Int×Int×Int×(List (Int×(Int×LI)))×Int×Int×Int×Int×Int×Bool×Int×Int×Int×Int×LI×Int×Int×Int×Int×Int×Int×Bool×Bool×(List (Int×(Int×(Int×(Bool×(Int×(Int×(Int×(Int×LI)))))))))×LI×LI×LI)→Option Ans)→Option Ans
def F_text_reader_bitmap_032 (fuel:Nat):YF164_032:=Fg_text_reader_bitmap_032 fuel (F_text_reader_within_b14 fuel) (F_text_layout_options fuel) (F_text_reader_fine_e4a fuel) (F_refine_Get_fd3 fuel)
theorem F164_032_eqg (fuel:Nat) (N:YF59_b14) (O:YF105) (L:YF114_e4a) (M:YF182_fd3) (b3 b4:Int) (b5:Bool) (b6 b7 b8:Int) (b9:Bool) (c0 c1:Int) (c2 P:Int) (Q:(List (Int×(Int×LI)))) (R S:Int) (T U V:Int) (W:Bool) (X Y:Int) (Z a0:Int) (a1 a2:Int) (a3 a4:Int) (a5 a6:Int) (a7 a8:Bool) (a9:(List (Int×(Int×(Int×(Bool×(Int×(Int×(Int×(Int×LI)))))))))) (b0 b1 b2:LI) (k:Ev.Cont):evalFn tab (Gg164_032 N O L M) J0 kp164_032 fuel Try.f164 [.c (.ptr 0 0),.c (.ptr 1 0)] [.cells 104 [i6 b3,i6 b4,.bool b5,i6 b6,i6 b7,i6 b8,.bool b9,i6 c0,i6 c1,i6 c2,i6 P,.ptr 2 0,.sl (.pair (.int .i64) (.pair (.int .i64) (.sl (.int .u8)))) Q,.own 3,i6 R,i6 S],.cells 73 [i6 T,i6 U,i6 V,.bool W,i6 X,i6 Y,i6 Z,i6 a0,.own 4],.cells 163 (i6 a1::.own 5::ctb (.int .u64 a2::.int .u64 a3::.own 6::i6 a4::.int .u64 a5::i6 a6::.bool a7::.bool a8::[])),.vec 73 (.pair (.int .i64) (.pair (.int .i64) (.pair (.int .i64) (.pair .bool (.pair (.int .i64) (.pair (.int .i64) (.pair (.int .i64) (.pair (.int .i64) (.sl (.int .u8)))))))))) a9 false,.vec 5 (.int .u8) b0 false,.vec 3 (.int .i64) b1 false,.vec 5 (.int .u8) b2 false] k=Fg_text_reader_bitmap_032 fuel N O L M b3 b4 b5 b6 b7 b8 b9 c0 c1 c2 P Q R S T U V W X Y Z a0 a1 a2 a3 a4 a5 a6 a7 a8 a9 b0 b1 b2 (fun r=>match r with | (B,C,D,E,F,G,H,I,J,K,a,b,d,e,f,g,h,i,j,l,m,n,o,p,q,s,t,u,v,w,x,y,z,A)=>k (.tup [],[.cells 104 [i6 B,i6 C,.bool D,i6 E,i6 F,i6 G,.bool H,i6 I,i6 J,i6 K,i6 a,.ptr 2 0,.sl (.pair (.int .i64) (.pair (.int .i64) (.sl (.int .u8)))) b,.own 3,i6 d,i6 e],.cells 73 [i6 f,i6 g,i6 h,.bool i,i6 j,i6 l,i6 m,i6 n,.own 4],.cells 163 (i6 o::.own 5::ctb (.int .u64 p::.int .u64 q::.own 6::i6 s::.int .u64 t::i6 u::.bool v::.bool w::[])),.vec 73 (.pair (.int .i64) (.pair (.int .i64) (.pair (.int .i64) (.pair .bool (.pair (.int .i64) (.pair (.int .i64) (.pair (.int .i64) (.pair (.int .i64) (.sl (.int .u8)))))))))) x false,.vec 5 (.int .u8) y false,.vec 3 (.int .i64) z false,.vec 5 (.int .u8) A false])) (fun r=>match r with | (B,C,D,E,F,G,H,I,J,K,a,b,d,e,f,g,h,i,j,l,m,n,o,p,q,s,t,u,v,w,x,y,z,A,c3)=>k (.tup [],[.cells 104 [i6 B,i6 C,.bool D,i6 E,i6 F,i6 G,.bool H,i6 I,i6 J,i6 K,i6 a,.ptr 2 0,.sl (.pair (.int .i64) (.pair (.int .i64) (.sl (.int .u8)))) b,.own 3,i6 d,i6 e],.cells 73 [i6 f,i6 g,i6 h,.bool i,i6 j,i6 l,i6 m,i6 n,.sl (.int .u8) o],.cells 163 (i6 p::.own 5::ctb (.int .u64 q::.int .u64 s::.own 6::i6 t::.int .u64 u::i6 v::.bool w::.bool x::[])),.vec 73 (.pair (.int .i64) (.pair (.int .i64) (.pair (.int .i64) (.pair .bool (.pair (.int .i64) (.pair (.int .i64) (.pair (.int .i64) (.pair (.int .i64) (.sl (.int .u8)))))))))) y false,.vec 5 (.int .u8) z false,.vec 3 (.int .i64) A false,.vec 5 (.int .u8) c3 false])):=by
  kernel_rfl
theorem hG164_032 (fuel:Nat):GOK Try.prog (G164_032 fuel):=
  gc (ok59_b14 fuel) Try.func59 (by kernel_rfl) rfl <|
  gc (ok105 fuel) Try.func105 (by kernel_rfl) rfl <|
  gc (ok114_e4a fuel) Try.func114 (by kernel_rfl) rfl <|
  gc (ok182_fd3 fuel) Try.func182 (by kernel_rfl) rfl <|
  gok_nil
def spg164_032 (F:YF164_032):Ev.Spec:=fun args objs k=>match args,objs with | [.c (.ptr b9 c0),.c (.ptr c1 c2)],[.cells c3 [i6 c4,i6 c5,.bool c6,i6 c7,i6 c8,i6 c9,.bool d0,i6 d1,i6 d2,i6 d3,i6 M,.ptr d4 d5,.sl (.pair (.int .i64) (.pair (.int .i64) (.sl (.int .u8)))) N,.own d6,i6 O,i6 P],.cells d7 [i6 Q,i6 R,i6 S,.bool T,i6 U,i6 V,i6 W,i6 X,.own d8],.cells Y Z,.vec a0 (.pair (.int .i64) (.pair (.int .i64) (.pair (.int .i64) (.pair .bool (.pair (.int .i64) (.pair (.int .i64) (.pair (.int .i64) (.pair (.int .i64) (.sl (.int .u8)))))))))) a1 false,.vec a2 (.int .u8) a3 false,.vec a4 (.int .i64) a5 false,.vec a6 (.int .u8) a7 false]=>(match splitRun 2 ctn Z with | some ([i6 a8,.own a9],[.int .u64 b0,.int .u64 b1,.own b2,i6 b3,.int .u64 b4,i6 b5,.bool b6,.bool b7])=>bif qb [b9,c0,c1,c2,c3,d4,d5,d6,d7,d8,Y,a0,a2,a4,a6,a9,b2] [0,0,1,0,104,2,0,3,73,4,163,73,5,3,5,5,6] then F c4 c5 c6 c7 c8 c9 d0 d1 d2 d3 M N O P Q R S T U V W X a8 b0 b1 b3 b4 b5 b6 b7 a1 a3 a5 a7 (fun r=>match r with | (B,C,D,E,G,H,I,J,K,L,a,b,d,e,f,g,h,i,j,l,m,n,o,p,q,s,t,u,v,w,x,y,z,A)=>k (.tup [],[.cells 104 [i6 B,i6 C,.bool D,i6 E,i6 G,i6 H,.bool I,i6 J,i6 K,i6 L,i6 a,.ptr 2 0,.sl (.pair (.int .i64) (.pair (.int .i64) (.sl (.int .u8)))) b,.own 3,i6 d,i6 e],.cells 73 [i6 f,i6 g,i6 h,.bool i,i6 j,i6 l,i6 m,i6 n,.own 4],.cells 163 (i6 o::.own 5::ctb (.int .u64 p::.int .u64 q::.own 6::i6 s::.int .u64 t::i6 u::.bool v::.bool w::[])),.vec 73 (.pair (.int .i64) (.pair (.int .i64) (.pair (.int .i64) (.pair .bool (.pair (.int .i64) (.pair (.int .i64) (.pair (.int .i64) (.pair (.int .i64) (.sl (.int .u8)))))))))) x false,.vec 5 (.int .u8) y false,.vec 3 (.int .i64) z false,.vec 5 (.int .u8) A false])) (fun r=>match r with | (B,C,D,E,G,H,I,J,K,L,a,b,d,e,f,g,h,i,j,l,m,n,o,p,q,s,t,u,v,w,x,y,z,A,b8)=>k (.tup [],[.cells 104 [i6 B,i6 C,.bool D,i6 E,i6 G,i6 H,.bool I,i6 J,i6 K,i6 L,i6 a,.ptr 2 0,.sl (.pair (.int .i64) (.pair (.int .i64) (.sl (.int .u8)))) b,.own 3,i6 d,i6 e],.cells 73 [i6 f,i6 g,i6 h,.bool i,i6 j,i6 l,i6 m,i6 n,.sl (.int .u8) o],.cells 163 (i6 p::.own 5::ctb (.int .u64 q::.int .u64 s::.own 6::i6 t::.int .u64 u::i6 v::.bool w::.bool x::[])),.vec 73 (.pair (.int .i64) (.pair (.int .i64) (.pair (.int .i64) (.pair .bool (.pair (.int .i64) (.pair (.int .i64) (.pair (.int .i64) (.pair (.int .i64) (.sl (.int .u8)))))))))) y false,.vec 5 (.int .u8) z false,.vec 3 (.int .i64) A false,.vec 5 (.int .u8) b8 false])) else none | _=>none) | _,_=>none
theorem ok164_032 (fuel:Nat):FnOK Try.prog 164 (spg164_032 (F_text_reader_bitmap_032 fuel)):=by
  intro args objs kk r h
  unfold spg164_032 at h
  split at h
  · skip
    split at h
    rotate_left 1
    · cases h
    rename_i hsp
    have esp:=splitRun_eq hsp
    subst esp
    obtain ⟨hb,h⟩:=cond_some' h
    cases qb_eq hb
    exact fo0 (hG164_032 fuel) Try.func164 rfl (by kernel_rfl) _ _ kk r ((F164_032_eqg fuel (F_text_reader_within_b14 fuel) (F_text_layout_options fuel) (F_text_reader_fine_e4a fuel) (F_refine_Get_fd3 fuel) _ _ _ _ _ _ _ _ _ _ _ _ _ _ _ _ _ _ _ _ _ _ _ _ _ _ _ _ _ _ _ _ _ _ kk).trans h)
  · cases h
end
end Go.Proofs.Ytipdidpalcmlhaa

