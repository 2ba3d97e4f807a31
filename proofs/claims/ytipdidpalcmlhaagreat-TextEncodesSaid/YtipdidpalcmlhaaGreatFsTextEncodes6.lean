/- What the functions that TextEncodes reaches do: their typed texts, each with the proof that the machine does it. No condition. -/
import Derived.Test.YtipdidpalcmlhaaGreatEvX
import Derived.Test.YtipdidpalcmlhaaGreatFsTextEncodes1
set_option linter.unusedVariables false
set_option linter.unusedSimpArgs false
set_option linter.unusedSectionVars false
set_option linter.unusedVariables false
set_option linter.unusedSimpArgs false
set_option maxRecDepth 100000
set_option maxHeartbeats 2000000
namespace Go.Proofs.YtipdidpalcmlhaaGreat
open Go Ev
open Go.IntKind (i64 u64 u8 i32 u32 u16)
noncomputable section
def kp163 (i:Nat):Option (List Nat):=Ev.look i []
def Gg163 (f:Nat):Option Ev.Spec:=Ev.look f []
def G163 (fuel:Nat):Nat→Option Ev.Spec:=Gg163
def F_text_floor (fuel:Nat) (b a:Int) (k0:(Int)→Option Ans):Option Ans:=bif decide (a=0) then none else bif decide (a=0) then none else bif b.tmod a != 0 then bif decide (b < 0) then k0 (i64.wrap (i64.wrap (b.tdiv a) - 1)) else k0 (i64.wrap (b.tdiv a)) else k0 (i64.wrap (b.tdiv a))
abbrev YF163:Type:=Int→Int→(Int→Option Ans)→Option Ans
theorem F163_eq (fuel:Nat) (a b:Int) (k:Ev.Cont):evalFn tab (G163 fuel) J0 kp163 fuel Tryz.f163 [.c (i6 a),.c (i6 b)] [] k=F_text_floor fuel a b (fun r=>match r with | d=>k (.c (i6 d),[])):=by
  kernel_rfl
theorem hG163 (fuel:Nat):GOK Tryz.prog (G163 fuel):=
  gok_nil
def spg163 (F:YF163):Ev.Spec:=fun args objs k=>match args,objs with | [.c (i6 a),.c (i6 b)],[]=>F a b (fun r=>match r with | d=>k (.c (i6 d),[])) | _,_=>none
theorem ok163 (fuel:Nat):FnOK Tryz.prog 163 (spg163 (F_text_floor fuel)):=by
  intro args objs kk r h
  unfold spg163 at h
  split at h
  · skip
    exact fo0 (hG163 fuel) Tryz.func163 rfl (by kernel_rfl) _ _ kk r ((F163_eq fuel _ _ kk).trans h)
  · cases h
def kp76 (i:Nat):Option (List Nat):=Ev.look i []
def Gg76 (a:YF163) (f:Nat):Option Ev.Spec:=Ev.look f [(163,spg163 a)]
def G76 (fuel:Nat):Nat→Option Ev.Spec:=Gg76 (F_text_floor fuel)
def Fg_text_strip (fuel:Nat) (a:YF163) (c k:Int) (l:Bool) (m n o:Int) (p:Bool) (q r:Int) (s b:Int) (e:Bool) (f g:Int) (h i:Int) (j:LI) (k0:(Int)→OA):OA:=(a b c (fun d=>k0 d))
abbrev YF76:Type:=Int→Int→Bool→Int→Int→Int→Bool→Int→Int→Int→Int→Bool→Int→Int→Int→Int→LI→(Int→Option Ans)→Option Ans
def F_text_strip (fuel:Nat):YF76:=Fg_text_strip fuel (F_text_floor fuel)
theorem F76_eqg (fuel:Nat) (a:YF163) (j l:Int) (m:Bool) (n o p:Int) (q:Bool) (s t:Int) (u b:Int) (d:Bool) (e f:Int) (g h:Int) (i:LI) (k:Ev.Cont):evalFn tab (Gg76 a) J0 kp76 fuel Tryz.f76 [.agg [i6 j,i6 l,.bool m,i6 n,i6 o,i6 p,.bool q,i6 s],.agg [i6 t,i6 u,i6 b,.bool d,i6 e,i6 f,i6 g,i6 h,.sl (.int .u8) i]] [] k=Fg_text_strip fuel a j l m n o p q s t u b d e f g h i (fun r=>match r with | v=>k (.c (i6 v),[])):=by
  kernel_rfl
theorem hG76 (fuel:Nat):GOK Tryz.prog (G76 fuel):=
  gc (ok163 fuel) Tryz.func163 (by kernel_rfl) rfl <|
  gok_nil
def spg76 (F:YF76):Ev.Spec:=fun args objs k=>match args,objs with | [.agg [i6 i,i6 j,.bool l,i6 m,i6 n,i6 o,.bool p,i6 q],.agg [i6 s,i6 t,i6 a,.bool b,i6 d,i6 e,i6 f,i6 g,.sl (.int .u8) h]],[]=>F i j l m n o p q s t a b d e f g h (fun r=>match r with | u=>k (.c (i6 u),[])) | _,_=>none
theorem ok76 (fuel:Nat):FnOK Tryz.prog 76 (spg76 (F_text_strip fuel)):=by
  intro args objs kk r h
  unfold spg76 at h
  split at h
  · skip
    exact fo0 (hG76 fuel) Tryz.func76 rfl (by kernel_rfl) _ _ kk r ((F76_eqg fuel (F_text_floor fuel) _ _ _ _ _ _ _ _ _ _ _ _ _ _ _ _ _ kk).trans h)
  · cases h
def kp75_805 (i:Nat):Option (List Nat):=Ev.look i [(200001,[2,3,4])]
def Gg75_805 (a:YF76) (f:Nat):Option Ev.Spec:=Ev.look f [(76,spg76 a)]
def G75_805 (fuel:Nat):Nat→Option Ev.Spec:=Gg75_805 (F_text_strip fuel)
def Fg_text_Encode_1_805 (fuel:Nat) (i:YF76) (r s t:Int) (u:Bool) (v w:Int) (x y:Int) (z:LI) (A j k:Int) (l:Bool) (m n:Int) (o p:Int) (q:LI) (a b:Int) (c:Bool) (d e f:Int) (g:Bool) (h:Int) (k0:(Int×Int×Int×Bool×Int×Int×Int×Bool×Int)→OA):OA:=(i a b c d e f g h r s t u v w x y z (fun B=>(i a b c d e f g h A j k l m n o p q (fun C=>k0 (i64.wrap (B - C),a,b,c,d,e,f,g,h)))))
abbrev YF75_805:Type:=Int→Int→Int→Bool→Int→Int→Int→Int→LI→Int→Int→Int→Bool→Int→Int→Int→Int→LI→Int→Int→Bool→Int→Int→Int→Bool→Int→((Int×Int×Int×Bool×Int×Int×Int×Bool×Int)→Option Ans)→Option Ans
def F_text_Encode_1_805 (fuel:Nat):YF75_805:=Fg_text_Encode_1_805 fuel (F_text_strip fuel)
theorem F75_805_eqg (fuel:Nat) (a:YF76) (u v w:Int) (x:Bool) (y z:Int) (A B:Int) (C:LI) (D b d:Int) (e:Bool) (f g:Int) (h i:Int) (j:LI) (l m:Int) (n:Bool) (o p q:Int) (s:Bool) (t:Int) (k:Ev.Cont):evalFn tab (Gg75_805 a) J0 kp75_805 fuel Tryz.f75 [.agg [i6 u,i6 v,i6 w,.bool x,i6 y,i6 z,i6 A,i6 B,.sl (.int .u8) C],.agg [i6 D,i6 b,i6 d,.bool e,i6 f,i6 g,i6 h,i6 i,.sl (.int .u8) j],.c (.ptr 0 0)] [.cells 40 [i6 l,i6 m,.bool n,i6 o,i6 p,i6 q,.bool s,i6 t]] k=Fg_text_Encode_1_805 fuel a u v w x y z A B C D b d e f g h i j l m n o p q s t (fun r=>match r with | (E,F,G,H,I,J,K,L,M)=>k (.c (i6 E),[.cells 40 [i6 F,i6 G,.bool H,i6 I,i6 J,i6 K,.bool L,i6 M]])):=by
  kernel_rfl
theorem hG75_805 (fuel:Nat):GOK Tryz.prog (G75_805 fuel):=
  gc (ok76 fuel) Tryz.func76 (by kernel_rfl) rfl <|
  gok_nil
def spg75_805 (F:YF75_805):Ev.Spec:=fun args objs k=>match args,objs with | [.agg [i6 t,i6 u,i6 v,.bool w,i6 x,i6 y,i6 z,i6 A,.sl (.int .u8) B],.agg [i6 C,i6 a,i6 b,.bool d,i6 e,i6 f,i6 g,i6 h,.sl (.int .u8) i],.c (.ptr D E)],[.cells G [i6 j,i6 l,.bool m,i6 n,i6 o,i6 p,.bool q,i6 s]]=>bif qb [D,E,G] [0,0,40] then F t u v w x y z A B C a b d e f g h i j l m n o p q s (fun r=>match r with | (H,I,J,K,L,M,N,O,P)=>k (.c (i6 H),[.cells 40 [i6 I,i6 J,.bool K,i6 L,i6 M,i6 N,.bool O,i6 P]])) else none | _,_=>none
theorem ok75_805 (fuel:Nat):FnOK Tryz.prog 75 (spg75_805 (F_text_Encode_1_805 fuel)):=by
  intro args objs kk r h
  unfold spg75_805 at h
  split at h
  · skip
    obtain ⟨hb,h⟩:=cond_some' h
    cases qb_eq hb
    exact fo0 (hG75_805 fuel) Tryz.func75 rfl (by kernel_rfl) _ _ kk r ((F75_805_eqg fuel (F_text_strip fuel) _ _ _ _ _ _ _ _ _ _ _ _ _ _ _ _ _ _ _ _ _ _ _ _ _ _ kk).trans h)
  · cases h
def kp74_040 (i:Nat):Option (List Nat):=Ev.look i [(2,[0,1,5]),(100000,[]),(200004,[0]),(400000,[4])]
def Gg74_040 (a:YF75_805) (f:Nat):Option Ev.Spec:=Ev.look f [(75,spg75_805 a)]
def G74_040 (fuel:Nat):Nat→Option Ev.Spec:=Gg74_040 (F_text_Encode_1_805 fuel)
abbrev V_slices_IsSortedFunc_api_Item_api_Item_040_0:Type:=(List (Int×(Int×(Int×(Bool×(Int×(Int×(Int×(Int×LI)))))))))×Int×Int×Int×Bool×Int×Int×Int×Bool×Int
abbrev W_slices_IsSortedFunc_api_Item_api_Item_040_0:Type:=(Bool×Int×Int×Bool×Int×Int×Int×Bool×Int→OA)×(Int×Int×Bool×Int×Int×Int×Bool×Int→OA)
def Sg_slices_IsSortedFunc_api_Item_api_Item_040_0 (fuel:Nat) (u:YF75_805) (d:(List (Int×(Int×(Int×(Bool×(Int×(Int×(Int×(Int×LI)))))))))) (a m n:Int) (o:Bool) (p q r:Int) (s:Bool) (t:Int) (c:V_slices_IsSortedFunc_api_Item_api_Item_040_0→OA) (B:W_slices_IsSortedFunc_api_Item_api_Item_040_0):OA:=match B with | (ret,b)=>bif decide (a > 0) then bif decide (0≤a∧a < (↑d.length:Int)) then bif decide (0≤i64.wrap (a - 1)∧i64.wrap (a - 1) < (↑d.length:Int)) then (u ((d.getD a.toNat (0,0,0,false,0,0,0,0,[])).fst) ((d.getD a.toNat (0,0,0,false,0,0,0,0,[])).snd.fst) ((d.getD a.toNat (0,0,0,false,0,0,0,0,[])).snd.snd.fst) ((d.getD a.toNat (0,0,0,false,0,0,0,0,[])).snd.snd.snd.fst) ((d.getD a.toNat (0,0,0,false,0,0,0,0,[])).snd.snd.snd.snd.fst) ((d.getD a.toNat (0,0,0,false,0,0,0,0,[])).snd.snd.snd.snd.snd.fst) ((d.getD a.toNat (0,0,0,false,0,0,0,0,[])).snd.snd.snd.snd.snd.snd.fst) ((d.getD a.toNat (0,0,0,false,0,0,0,0,[])).snd.snd.snd.snd.snd.snd.snd.fst) ((d.getD a.toNat (0,0,0,false,0,0,0,0,[])).snd.snd.snd.snd.snd.snd.snd.snd) ((d.getD (i64.wrap (a - 1)).toNat (0,0,0,false,0,0,0,0,[])).fst) ((d.getD (i64.wrap (a - 1)).toNat (0,0,0,false,0,0,0,0,[])).snd.fst) ((d.getD (i64.wrap (a - 1)).toNat (0,0,0,false,0,0,0,0,[])).snd.snd.fst) ((d.getD (i64.wrap (a - 1)).toNat (0,0,0,false,0,0,0,0,[])).snd.snd.snd.fst) ((d.getD (i64.wrap (a - 1)).toNat (0,0,0,false,0,0,0,0,[])).snd.snd.snd.snd.fst) ((d.getD (i64.wrap (a - 1)).toNat (0,0,0,false,0,0,0,0,[])).snd.snd.snd.snd.snd.fst) ((d.getD (i64.wrap (a - 1)).toNat (0,0,0,false,0,0,0,0,[])).snd.snd.snd.snd.snd.snd.fst) ((d.getD (i64.wrap (a - 1)).toNat (0,0,0,false,0,0,0,0,[])).snd.snd.snd.snd.snd.snd.snd.fst) ((d.getD (i64.wrap (a - 1)).toNat (0,0,0,false,0,0,0,0,[])).snd.snd.snd.snd.snd.snd.snd.snd) m n o p q r s t (fun (v,e,f,g,h,i,j,k,l)=>bif decide (v < 0) then ret (false,e,f,g,h,i,j,k,l) else c (d,i64.wrap (a - 1),e,f,g,h,i,j,k,l))) else none else none else b (m,n,o,p,q,r,s,t)
def S_slices_IsSortedFunc_api_Item_api_Item_040_0 (fuel:Nat) (v:(List (Int×(Int×(Int×(Bool×(Int×(Int×(Int×(Int×(List Int))))))))))×Int×Int×Int×Bool×Int×Int×Int×Bool×Int) (c:((List (Int×(Int×(Int×(Bool×(Int×(Int×(Int×(Int×(List Int))))))))))×Int×Int×Int×Bool×Int×Int×Int×Bool×Int)→Option Ans) (B:(Bool×Int×Int×Bool×Int×Int×Int×Bool×Int→Option Ans)×(Int×Int×Bool×Int×Int×Int×Bool×Int→Option Ans)):Option Ans:=match v with | (a,b,d,e,f,g,h,i,j,k)=>Sg_slices_IsSortedFunc_api_Item_api_Item_040_0 fuel (F_text_Encode_1_805 fuel) a b d e f g h i j k c B
def L_slices_IsSortedFunc_api_Item_api_Item_040_0 (fuel:Nat) (v:V_slices_IsSortedFunc_api_Item_api_Item_040_0) (ret:(Bool×Int×Int×Bool×Int×Int×Int×Bool×Int→Option Ans)) (b:(Int×Int×Bool×Int×Int×Int×Bool×Int→Option Ans)):Option Ans:=iter (S_slices_IsSortedFunc_api_Item_api_Item_040_0 fuel) fuel v (ret,b)
def T74_040_0 (v:V_slices_IsSortedFunc_api_Item_api_Item_040_0):Ev.St:=match v with | (a,b,d,e,f,g,h,i,j,k)=>⟨[(0,.c (.sl (.pair (.int .i64) (.pair (.int .i64) (.pair (.int .i64) (.pair .bool (.pair (.int .i64) (.pair (.int .i64) (.pair (.int .i64) (.pair (.int .i64) (.sl (.int .u8)))))))))) a)),(1,.c (.clo 75 [0])),(5,.c (i6 b))],[(0,.cells 40 [i6 d,i6 e,.bool f,i6 g,i6 h,i6 i,.bool j,i6 k])],1,1⟩
def E74_040_0 (K:KT):W_slices_IsSortedFunc_api_Item_api_Item_040_0:=((fun v=>match v with | (a,b,d,e,f,g,h,i,j)=>K .ret ⟨[(4,.c (.bool a))],[(0,.cells 40 [i6 b,i6 d,.bool e,i6 f,i6 g,i6 h,.bool i,i6 j])],1,1⟩),(fun v=>match v with | (a,b,d,e,f,g,h,i)=>K .normal ⟨[],[(0,.cells 40 [i6 a,i6 b,.bool d,i6 e,i6 f,i6 g,.bool h,i6 i])],1,1⟩))
theorem S74_040_0_okg (fuel:Nat) (a:YF75_805) (R:Ev.St→OA) (K:KT) (b:(List (Int×(Int×(Int×(Bool×(Int×(Int×(Int×(Int×LI)))))))))) (c d e:Int) (f:Bool) (g h i:Int) (j:Bool) (k:Int):evalCode tab (Gg74_040 a) J0 kp74_040 fuel (bodyOf 0 Tryz.f74) (T74_040_0 (b,c,d,e,f,g,h,i,j,k)) (lc kp74_040 2 0 R K)=Sg_slices_IsSortedFunc_api_Item_api_Item_040_0 fuel a b c d e f g h i j k (fun v=>R (T74_040_0 v)) (E74_040_0 K):=by
  kernel_rfl
def B74_040_0 (fuel:Nat):Ev.Blk:=fun st K=>match canonO (kp74_040 2) st with | some s=>(match s with | ⟨[(a,.c (.sl (.pair (.int .i64) (.pair (.int .i64) (.pair (.int .i64) (.pair .bool (.pair (.int .i64) (.pair (.int .i64) (.pair (.int .i64) (.pair (.int .i64) (.sl (.int .u8)))))))))) b)),(d,.c (.clo e [f])),(g,.c (i6 h))],[(i,.cells j [i6 k,i6 l,.bool m,i6 n,i6 o,i6 p,.bool q,i6 r])],t,u⟩=>bif qb [a,d,e,f,g,i,j,t,u] [0,1,75,0,5,0,40,1,1] then iter (S_slices_IsSortedFunc_api_Item_api_Item_040_0 fuel) fuel (b,h,k,l,m,n,o,p,q,r) (E74_040_0 K) else none | _=>none) | none=>none
theorem B74_040_0_ok (fuel:Nat) (st:Ev.St) (K:KT) (r:Ans) (h:B74_040_0 fuel st K=some r):evalCode tab (G74_040 fuel) J0 kp74_040 fuel (.block 0 (.loop (bodyOf 0 Tryz.f74))) st K=some r:=by
  unfold B74_040_0 at h
  split at h
  · rename_i s hs
    split at h
    · skip
      obtain ⟨hb,h⟩:=cond_some' h
      cases qb_eq hb
      exact blk_loop (S:=T74_040_0) (ks:=E74_040_0) (step:=S_slices_IsSortedFunc_api_Item_api_Item_040_0 fuel) (v:=(_,_,_,_,_,_,_,_,_,_)) (by kernel_rfl) (by kernel_rfl) (fun R K v=>by obtain ⟨a,b,c,d,e,f,g,i,j,k⟩:=v; exact S74_040_0_okg fuel (F_text_Encode_1_805 fuel) R K a b c d e f g i j k) hs h
    · cases h
  · cases h
def J74_040 (fuel:Nat) (i:Nat):Option Ev.Blk:=Ev.look i [(100000,B74_040_0 fuel)]
def Fg_slices_IsSortedFunc_api_Item_api_Item_040 (fuel:Nat) (r:YF75_805) (a:(List (Int×(Int×(Int×(Bool×(Int×(Int×(Int×(Int×LI)))))))))) (j k:Int) (l:Bool) (m n o:Int) (p:Bool) (q:Int) (k0:(Bool×Int×Int×Bool×Int×Int×Int×Bool×Int)→OA):OA:=(L_slices_IsSortedFunc_api_Item_api_Item_040_0 fuel (a,i64.wrap ((↑a.length:Int) - 1),j,k,l,m,n,o,p,q) (fun (ret0_0,ret0_1,ret0_2,ret0_3,ret0_4,ret0_5,ret0_6,ret0_7,ret0_8)=>k0 (ret0_0,ret0_1,ret0_2,ret0_3,ret0_4,ret0_5,ret0_6,ret0_7,ret0_8)) (fun (b,c,d,e,f,g,h,i)=>k0 (true,b,c,d,e,f,g,h,i)))
abbrev YF74_040:Type:=((List (Int×(Int×(Int×(Bool×(Int×(Int×(Int×(Int×LI))))))))))→Int→Int→Bool→Int→Int→Int→Bool→Int→((Bool×Int×Int×Bool×Int×Int×Int×Bool×Int)→Option Ans)→Option Ans
def F_slices_IsSortedFunc_api_Item_api_Item_040 (fuel:Nat):YF74_040:=Fg_slices_IsSortedFunc_api_Item_api_Item_040 fuel (F_text_Encode_1_805 fuel)
theorem F74_040_eqg (fuel:Nat) (a:YF75_805) (b:(List (Int×(Int×(Int×(Bool×(Int×(Int×(Int×(Int×LI)))))))))) (d e:Int) (f:Bool) (g h i:Int) (j:Bool) (l:Int) (k:Ev.Cont):evalFn tab (Gg74_040 a) (J74_040 fuel) kp74_040 fuel Tryz.f74 [.c (.sl (.pair (.int .i64) (.pair (.int .i64) (.pair (.int .i64) (.pair .bool (.pair (.int .i64) (.pair (.int .i64) (.pair (.int .i64) (.pair (.int .i64) (.sl (.int .u8)))))))))) b),.c (.clo 75 [0])] [.cells 40 [i6 d,i6 e,.bool f,i6 g,i6 h,i6 i,.bool j,i6 l]] k=Fg_slices_IsSortedFunc_api_Item_api_Item_040 fuel a b d e f g h i j l (fun r=>match r with | (m,n,o,p,q,s,t,u,v)=>k (.c (.bool m),[.cells 40 [i6 n,i6 o,.bool p,i6 q,i6 s,i6 t,.bool u,i6 v]])):=by
  kernel_rfl
theorem hG74_040 (fuel:Nat):GOK Tryz.prog (G74_040 fuel):=
  gc (ok75_805 fuel) Tryz.func75 (by kernel_rfl) rfl <|
  gok_nil
theorem B74_040_0_blk (fuel:Nat):BlkOK Tryz.prog Tryz.f74.ntmps (.block 0 (.loop (bodyOf 0 Tryz.f74))) (B74_040_0 fuel):=bo0 (hG74_040 fuel) (by kernel_rfl) (by kernel_rfl) (B74_040_0_ok fuel)
def spg74_040 (F:YF74_040):Ev.Spec:=fun args objs k=>match args,objs with | [.c (.sl (.pair (.int .i64) (.pair (.int .i64) (.pair (.int .i64) (.pair .bool (.pair (.int .i64) (.pair (.int .i64) (.pair (.int .i64) (.pair (.int .i64) (.sl (.int .u8)))))))))) a),.c (.clo b [d])],[.cells e [i6 f,i6 g,.bool h,i6 i,i6 j,i6 l,.bool m,i6 n]]=>bif qb [b,d,e] [75,0,40] then F a f g h i j l m n (fun r=>match r with | (o,p,q,s,t,u,v,w,x)=>k (.c (.bool o),[.cells 40 [i6 p,i6 q,.bool s,i6 t,i6 u,i6 v,.bool w,i6 x]])) else none | _,_=>none
theorem ok74_040 (fuel:Nat):FnOK Tryz.prog 74 (spg74_040 (F_slices_IsSortedFunc_api_Item_api_Item_040 fuel)):=by
  intro args objs kk r h
  unfold spg74_040 at h
  split at h
  · skip
    obtain ⟨hb,h⟩:=cond_some' h
    cases qb_eq hb
    exact fo1 (hG74_040 fuel) Tryz.func74 rfl (B74_040_0_blk fuel) (by kernel_rfl) _ _ kk r ((F74_040_eqg fuel (F_text_Encode_1_805 fuel) _ _ _ _ _ _ _ _ _ kk).trans h)
  · cases h
def kp212 (i:Nat):Option (List Nat):=Ev.look i []
def Gg212 (f:Nat):Option Ev.Spec:=Ev.look f []
def G212 (fuel:Nat):Nat→Option Ev.Spec:=Gg212
def F_bitmap_fits (fuel:Nat) (a b:Int) (k0:(Bool)→Option Ans):Option Ans:=bif decide (a≥0) then bif decide (b≥0) then bif decide (a≤200) then bif decide (b≤200) then k0 (decide (i64.wrap (a*b)≤8192)) else k0 false else k0 false else k0 false else k0 false
abbrev YF212:Type:=Int→Int→(Bool→Option Ans)→Option Ans
theorem F212_eq (fuel:Nat) (a b:Int) (k:Ev.Cont):evalFn tab (G212 fuel) J0 kp212 fuel Tryz.f212 [.c (i6 a),.c (i6 b)] [] k=F_bitmap_fits fuel a b (fun r=>match r with | d=>k (.c (.bool d),[])):=by
  kernel_rfl
theorem hG212 (fuel:Nat):GOK Tryz.prog (G212 fuel):=
  gok_nil
def spg212 (F:YF212):Ev.Spec:=fun args objs k=>match args,objs with | [.c (i6 a),.c (i6 b)],[]=>F a b (fun r=>match r with | d=>k (.c (.bool d),[])) | _,_=>none
theorem ok212 (fuel:Nat):FnOK Tryz.prog 212 (spg212 (F_bitmap_fits fuel)):=by
  intro args objs kk r h
  unfold spg212 at h
  split at h
  · skip
    exact fo0 (hG212 fuel) Tryz.func212 rfl (by kernel_rfl) _ _ kk r ((F212_eq fuel _ _ kk).trans h)
  · cases h
def kp122 (i:Nat):Option (List Nat):=Ev.look i [(4,[23,24,25]),(100000,[]),(400000,[2])]
def Gg122 (a:YF212) (f:Nat):Option Ev.Spec:=Ev.look f [(212,spg212 a)]
def G122 (fuel:Nat):Nat→Option Ev.Spec:=Gg122 (F_bitmap_fits fuel)
def Sg_bitmap_Valid_0 (fuel:Nat) (f:YF212) (d:LI) (e a:Int) (c:(LI×Int×Int)→OA) (B:(Bool→OA)×(Unit→OA)):OA:=match B with | (ret,b)=>bif decide (a < e) then bif decide (0≤a∧a < (↑d.length:Int)) then bif decide (d.getD a.toNat (0:Int) > (1:Int)) then ret false else c (d,e,i64.wrap (a+1)) else none else b ()
def S_bitmap_Valid_0 (fuel:Nat) (v:(List Int)×Int×Int) (c:((List Int)×Int×Int)→Option Ans) (B:(Bool→Option Ans)×(Unit→Option Ans)):Option Ans:=match v with | (a,b,d)=>Sg_bitmap_Valid_0 fuel (F_bitmap_fits fuel) a b d c B
def L_bitmap_Valid_0 (fuel:Nat) (v:(List Int)×Int×Int) (ret:(Bool→Option Ans)) (b:(Unit→Option Ans)):Option Ans:=iter (S_bitmap_Valid_0 fuel) fuel v (ret,b)
def T122_0 (v:LI×Int×Int):Ev.St:=match v with | (a,b,d)=>⟨[(23,.c (.sl (.int .u8) a)),(24,.c (i6 b)),(25,.c (i6 d))],[],0,0⟩
def E122_0 (K:KT):(Bool→OA)×(Unit→OA):=((fun v=>match v with | a=>K .ret ⟨[(2,.c (.bool a))],[],0,0⟩),(fun v=>match v with | ()=>K .normal ⟨[],[],0,0⟩))
theorem S122_0_okg (fuel:Nat) (a:YF212) (R:Ev.St→OA) (K:KT) (b:LI) (c d:Int):evalCode tab (Gg122 a) J0 kp122 fuel (bodyOf 0 Tryz.f122) (T122_0 (b,c,d)) (lc kp122 4 0 R K)=Sg_bitmap_Valid_0 fuel a b c d (fun v=>R (T122_0 v)) (E122_0 K):=by
  kernel_rfl
def B122_0 (fuel:Nat):Ev.Blk:=fun st K=>match canonO (kp122 4) st with | some s=>(match s with | ⟨[(a,.c (.sl (.int .u8) b)),(d,.c (i6 e)),(f,.c (i6 g))],[],h,i⟩=>bif qb [a,d,f,h,i] [23,24,25,0,0] then iter (S_bitmap_Valid_0 fuel) fuel (b,e,g) (E122_0 K) else none | _=>none) | none=>none
theorem B122_0_ok (fuel:Nat) (st:Ev.St) (K:KT) (r:Ans) (h:B122_0 fuel st K=some r):evalCode tab (G122 fuel) J0 kp122 fuel (.block 0 (.loop (bodyOf 0 Tryz.f122))) st K=some r:=by
  unfold B122_0 at h
  split at h
  · rename_i s hs
    split at h
    · skip
      obtain ⟨hb,h⟩:=cond_some' h
      cases qb_eq hb
      exact blk_loop (S:=T122_0) (ks:=E122_0) (step:=S_bitmap_Valid_0 fuel) (v:=(_,_,_)) (by kernel_rfl) (by kernel_rfl) (fun R K v=>by obtain ⟨a,b,c⟩:=v; exact S122_0_okg fuel (F_bitmap_fits fuel) R K a b c) hs h
    · cases h
  · cases h
def J122 (fuel:Nat) (i:Nat):Option Ev.Blk:=Ev.look i [(100000,B122_0 fuel)]
def Fg_bitmap_Valid (fuel:Nat) (d:YF212) (b c:Int) (a:LI) (k0:(Bool)→OA):OA:=(d b c (fun e=>bif !e then k0 false else bif (↑a.length:Int) != i64.wrap (b*c) then k0 false else (L_bitmap_Valid_0 fuel (a,(↑a.length:Int),0) (fun ret0_0=>k0 ret0_0) (fun ()=>k0 true))))
abbrev YF122:Type:=Int→Int→LI→(Bool→Option Ans)→Option Ans
def F_bitmap_Valid (fuel:Nat):YF122:=Fg_bitmap_Valid fuel (F_bitmap_fits fuel)
theorem F122_eqg (fuel:Nat) (a:YF212) (b d:Int) (e:LI) (k:Ev.Cont):evalFn tab (Gg122 a) (J122 fuel) kp122 fuel Tryz.f122 [.agg [i6 b,i6 d,.sl (.int .u8) e]] [] k=Fg_bitmap_Valid fuel a b d e (fun r=>match r with | f=>k (.c (.bool f),[])):=by
  kernel_rfl
theorem hG122 (fuel:Nat):GOK Tryz.prog (G122 fuel):=
  gc (ok212 fuel) Tryz.func212 (by kernel_rfl) rfl <|
  gok_nil
theorem B122_0_blk (fuel:Nat):BlkOK Tryz.prog Tryz.f122.ntmps (.block 0 (.loop (bodyOf 0 Tryz.f122))) (B122_0 fuel):=bo0 (hG122 fuel) (by kernel_rfl) (by kernel_rfl) (B122_0_ok fuel)
def spg122 (F:YF122):Ev.Spec:=fun args objs k=>match args,objs with | [.agg [i6 a,i6 b,.sl (.int .u8) d]],[]=>F a b d (fun r=>match r with | e=>k (.c (.bool e),[])) | _,_=>none
theorem ok122 (fuel:Nat):FnOK Tryz.prog 122 (spg122 (F_bitmap_Valid fuel)):=by
  intro args objs kk r h
  unfold spg122 at h
  split at h
  · skip
    exact fo1 (hG122 fuel) Tryz.func122 rfl (B122_0_blk fuel) (by kernel_rfl) _ _ kk r ((F122_eqg fuel (F_bitmap_fits fuel) _ _ _ kk).trans h)
  · cases h
def kp160 (i:Nat):Option (List Nat):=Ev.look i []
def Gg160 (a:YF122) (f:Nat):Option Ev.Spec:=Ev.look f [(122,spg122 a)]
def G160 (fuel:Nat):Nat→Option Ev.Spec:=Gg160 (F_bitmap_Valid fuel)
def Fg_text_isShape (fuel:Nat) (c:YF122) (a b:Int) (d:LI) (k0:(Bool)→OA):OA:=(c a b d (fun e=>bif e then bif decide (a≥1) then bif decide (a≤40) then bif decide (b≥1) then k0 (decide (b≤40)) else k0 false else k0 false else k0 false else k0 false))
abbrev YF160:Type:=Int→Int→LI→(Bool→Option Ans)→Option Ans
def F_text_isShape (fuel:Nat):YF160:=Fg_text_isShape fuel (F_bitmap_Valid fuel)
theorem F160_eqg (fuel:Nat) (a:YF122) (b d:Int) (e:LI) (k:Ev.Cont):evalFn tab (Gg160 a) J0 kp160 fuel Tryz.f160 [.agg [i6 b,i6 d,.sl (.int .u8) e]] [] k=Fg_text_isShape fuel a b d e (fun r=>match r with | f=>k (.c (.bool f),[])):=by
  kernel_rfl
theorem hG160 (fuel:Nat):GOK Tryz.prog (G160 fuel):=
  gc (ok122 fuel) Tryz.func122 (by kernel_rfl) rfl <|
  gok_nil
def spg160 (F:YF160):Ev.Spec:=fun args objs k=>match args,objs with | [.agg [i6 a,i6 b,.sl (.int .u8) d]],[]=>F a b d (fun r=>match r with | e=>k (.c (.bool e),[])) | _,_=>none
theorem ok160 (fuel:Nat):FnOK Tryz.prog 160 (spg160 (F_text_isShape fuel)):=by
  intro args objs kk r h
  unfold spg160 at h
  split at h
  · skip
    exact fo0 (hG160 fuel) Tryz.func160 rfl (by kernel_rfl) _ _ kk r ((F160_eqg fuel (F_bitmap_Valid fuel) _ _ _ kk).trans h)
  · cases h
def kp159 (i:Nat):Option (List Nat):=Ev.look i []
def Gg159 (a:YF160) (f:Nat):Option Ev.Spec:=Ev.look f [(160,spg160 a)]
def G159 (fuel:Nat):Nat→Option Ev.Spec:=Gg159 (F_text_isShape fuel)
def Fg_text_begun_1 (fuel:Nat) (a:YF160) (b c:Int) (d:LI) (k0:(Bool)→OA):OA:=(a b c d (fun e=>k0 !e))
abbrev YF159:Type:=Int→Int→LI→(Bool→Option Ans)→Option Ans
def F_text_begun_1 (fuel:Nat):YF159:=Fg_text_begun_1 fuel (F_text_isShape fuel)
theorem F159_eqg (fuel:Nat) (a:YF160) (b d:Int) (e:LI) (k:Ev.Cont):evalFn tab (Gg159 a) J0 kp159 fuel Tryz.f159 [.agg [i6 b,i6 d,.sl (.int .u8) e]] [] k=Fg_text_begun_1 fuel a b d e (fun r=>match r with | f=>k (.c (.bool f),[])):=by
  kernel_rfl
theorem hG159 (fuel:Nat):GOK Tryz.prog (G159 fuel):=
  gc (ok160 fuel) Tryz.func160 (by kernel_rfl) rfl <|
  gok_nil
def spg159 (F:YF159):Ev.Spec:=fun args objs k=>match args,objs with | [.agg [i6 a,i6 b,.sl (.int .u8) d]],[]=>F a b d (fun r=>match r with | e=>k (.c (.bool e),[])) | _,_=>none
theorem ok159 (fuel:Nat):FnOK Tryz.prog 159 (spg159 (F_text_begun_1 fuel)):=by
  intro args objs kk r h
  unfold spg159 at h
  split at h
  · skip
    exact fo0 (hG159 fuel) Tryz.func159 rfl (by kernel_rfl) _ _ kk r ((F159_eqg fuel (F_text_isShape fuel) _ _ _ kk).trans h)
  · cases h
def kp226_261 (i:Nat):Option (List Nat):=Ev.look i [(2,[0,1,7,8]),(100000,[]),(400000,[4])]
def Gg226_261 (a:YF159) (f:Nat):Option Ev.Spec:=Ev.look f [(159,spg159 a)]
def G226_261 (fuel:Nat):Nat→Option Ev.Spec:=Gg226_261 (F_text_begun_1 fuel)
abbrev V_slices_IndexFunc_api_Bitmap_api_Bitmap_261_0:Type:=(List (Int×(Int×LI)))×Int×Int
abbrev W_slices_IndexFunc_api_Bitmap_api_Bitmap_261_0:Type:=(Int→OA)×(Unit→OA)
def Sg_slices_IndexFunc_api_Bitmap_api_Bitmap_261_0 (fuel:Nat) (f:YF159) (d:(List (Int×(Int×LI)))) (e a:Int) (c:V_slices_IndexFunc_api_Bitmap_api_Bitmap_261_0→OA) (B:W_slices_IndexFunc_api_Bitmap_api_Bitmap_261_0):OA:=match B with | (ret,b)=>bif decide (a < e) then bif decide (0≤a∧a < (↑d.length:Int)) then (f ((d.getD a.toNat (0,0,[])).fst) ((d.getD a.toNat (0,0,[])).snd.fst) ((d.getD a.toNat (0,0,[])).snd.snd) (fun g=>bif g then ret a else c (d,e,i64.wrap (a+1)))) else none else b ()
def S_slices_IndexFunc_api_Bitmap_api_Bitmap_261_0 (fuel:Nat) (v:(List (Int×(Int×(List Int))))×Int×Int) (c:((List (Int×(Int×(List Int))))×Int×Int)→Option Ans) (B:(Int→Option Ans)×(Unit→Option Ans)):Option Ans:=match v with | (a,b,d)=>Sg_slices_IndexFunc_api_Bitmap_api_Bitmap_261_0 fuel (F_text_begun_1 fuel) a b d c B
def L_slices_IndexFunc_api_Bitmap_api_Bitmap_261_0 (fuel:Nat) (v:V_slices_IndexFunc_api_Bitmap_api_Bitmap_261_0) (ret:(Int→Option Ans)) (b:(Unit→Option Ans)):Option Ans:=iter (S_slices_IndexFunc_api_Bitmap_api_Bitmap_261_0 fuel) fuel v (ret,b)
def T226_261_0 (v:V_slices_IndexFunc_api_Bitmap_api_Bitmap_261_0):Ev.St:=match v with | (a,b,d)=>⟨[(0,.c (.sl (.pair (.int .i64) (.pair (.int .i64) (.sl (.int .u8)))) a)),(1,.c (.clo 159 [])),(7,.c (i6 b)),(8,.c (i6 d))],[],0,0⟩
def E226_261_0 (K:KT):W_slices_IndexFunc_api_Bitmap_api_Bitmap_261_0:=((fun v=>match v with | a=>K .ret ⟨[(4,.c (i6 a))],[],0,0⟩),(fun v=>match v with | ()=>K .normal ⟨[],[],0,0⟩))
theorem S226_261_0_okg (fuel:Nat) (a:YF159) (R:Ev.St→OA) (K:KT) (b:(List (Int×(Int×LI)))) (c d:Int):evalCode tab (Gg226_261 a) J0 kp226_261 fuel (bodyOf 0 Tryz.f226) (T226_261_0 (b,c,d)) (lc kp226_261 2 0 R K)=Sg_slices_IndexFunc_api_Bitmap_api_Bitmap_261_0 fuel a b c d (fun v=>R (T226_261_0 v)) (E226_261_0 K):=by
  kernel_rfl
def B226_261_0 (fuel:Nat):Ev.Blk:=fun st K=>match canonO (kp226_261 2) st with | some s=>(match s with | ⟨[(a,.c (.sl (.pair (.int .i64) (.pair (.int .i64) (.sl (.int .u8)))) b)),(d,.c (.clo e [])),(f,.c (i6 g)),(h,.c (i6 i))],[],j,k⟩=>bif qb [a,d,e,f,h,j,k] [0,1,159,7,8,0,0] then iter (S_slices_IndexFunc_api_Bitmap_api_Bitmap_261_0 fuel) fuel (b,g,i) (E226_261_0 K) else none | _=>none) | none=>none
theorem B226_261_0_ok (fuel:Nat) (st:Ev.St) (K:KT) (r:Ans) (h:B226_261_0 fuel st K=some r):evalCode tab (G226_261 fuel) J0 kp226_261 fuel (.block 0 (.loop (bodyOf 0 Tryz.f226))) st K=some r:=by
  unfold B226_261_0 at h
  split at h
  · rename_i s hs
    split at h
    · skip
      obtain ⟨hb,h⟩:=cond_some' h
      cases qb_eq hb
      exact blk_loop (S:=T226_261_0) (ks:=E226_261_0) (step:=S_slices_IndexFunc_api_Bitmap_api_Bitmap_261_0 fuel) (v:=(_,_,_)) (by kernel_rfl) (by kernel_rfl) (fun R K v=>by obtain ⟨a,b,c⟩:=v; exact S226_261_0_okg fuel (F_text_begun_1 fuel) R K a b c) hs h
    · cases h
  · cases h
def J226_261 (fuel:Nat) (i:Nat):Option Ev.Blk:=Ev.look i [(100000,B226_261_0 fuel)]
def Fg_slices_IndexFunc_api_Bitmap_api_Bitmap_261 (fuel:Nat) (b:YF159) (a:(List (Int×(Int×LI)))) (k0:(Int)→OA):OA:=(L_slices_IndexFunc_api_Bitmap_api_Bitmap_261_0 fuel (a,(↑a.length:Int),0) (fun ret0_0=>k0 ret0_0) (fun ()=>k0 ((-1:Int))))
abbrev YF226_261:Type:=((List (Int×(Int×LI))))→(Int→Option Ans)→Option Ans
def F_slices_IndexFunc_api_Bitmap_api_Bitmap_261 (fuel:Nat):YF226_261:=Fg_slices_IndexFunc_api_Bitmap_api_Bitmap_261 fuel (F_text_begun_1 fuel)
theorem F226_261_eqg (fuel:Nat) (a:YF159) (b:(List (Int×(Int×LI)))) (k:Ev.Cont):evalFn tab (Gg226_261 a) (J226_261 fuel) kp226_261 fuel Tryz.f226 [.c (.sl (.pair (.int .i64) (.pair (.int .i64) (.sl (.int .u8)))) b),.c (.clo 159 [])] [] k=Fg_slices_IndexFunc_api_Bitmap_api_Bitmap_261 fuel a b (fun r=>match r with | d=>k (.c (i6 d),[])):=by
  kernel_rfl
theorem hG226_261 (fuel:Nat):GOK Tryz.prog (G226_261 fuel):=
  gc (ok159 fuel) Tryz.func159 (by kernel_rfl) rfl <|
  gok_nil
theorem B226_261_0_blk (fuel:Nat):BlkOK Tryz.prog Tryz.f226.ntmps (.block 0 (.loop (bodyOf 0 Tryz.f226))) (B226_261_0 fuel):=bo0 (hG226_261 fuel) (by kernel_rfl) (by kernel_rfl) (B226_261_0_ok fuel)
def spg226_261 (F:YF226_261):Ev.Spec:=fun args objs k=>match args,objs with | [.c (.sl (.pair (.int .i64) (.pair (.int .i64) (.sl (.int .u8)))) a),.c (.clo b [])],[]=>bif qb [b] [159] then F a (fun r=>match r with | d=>k (.c (i6 d),[])) else none | _,_=>none
theorem ok226_261 (fuel:Nat):FnOK Tryz.prog 226 (spg226_261 (F_slices_IndexFunc_api_Bitmap_api_Bitmap_261 fuel)):=by
  intro args objs kk r h
  unfold spg226_261 at h
  split at h
  · skip
    obtain ⟨hb,h⟩:=cond_some' h
    cases qb_eq hb
    exact fo1 (hG226_261 fuel) Tryz.func226 rfl (B226_261_0_blk fuel) (by kernel_rfl) _ _ kk r ((F226_261_eqg fuel (F_text_begun_1 fuel) _ kk).trans h)
  · cases h
def kp158_261 (i:Nat):Option (List Nat):=Ev.look i []
def Gg158_261 (a:YF226_261) (f:Nat):Option Ev.Spec:=Ev.look f [(226,spg226_261 a)]
def G158_261 (fuel:Nat):Nat→Option Ev.Spec:=Gg158_261 (F_slices_IndexFunc_api_Bitmap_api_Bitmap_261 fuel)
def Fg_slices_ContainsFunc_api_Bitmap_api_Bitmap_261 (fuel:Nat) (a:YF226_261) (b:(List (Int×(Int×LI)))) (k0:(Bool)→OA):OA:=(a b (fun c=>k0 (decide (c≥0))))
abbrev YF158_261:Type:=((List (Int×(Int×LI))))→(Bool→Option Ans)→Option Ans
def F_slices_ContainsFunc_api_Bitmap_api_Bitmap_261 (fuel:Nat):YF158_261:=Fg_slices_ContainsFunc_api_Bitmap_api_Bitmap_261 fuel (F_slices_IndexFunc_api_Bitmap_api_Bitmap_261 fuel)
theorem F158_261_eqg (fuel:Nat) (a:YF226_261) (b:(List (Int×(Int×LI)))) (k:Ev.Cont):evalFn tab (Gg158_261 a) J0 kp158_261 fuel Tryz.f158 [.c (.sl (.pair (.int .i64) (.pair (.int .i64) (.sl (.int .u8)))) b),.c (.clo 159 [])] [] k=Fg_slices_ContainsFunc_api_Bitmap_api_Bitmap_261 fuel a b (fun r=>match r with | d=>k (.c (.bool d),[])):=by
  kernel_rfl
theorem hG158_261 (fuel:Nat):GOK Tryz.prog (G158_261 fuel):=
  gc (ok226_261 fuel) Tryz.func226 (by kernel_rfl) rfl <|
  gok_nil
def spg158_261 (F:YF158_261):Ev.Spec:=fun args objs k=>match args,objs with | [.c (.sl (.pair (.int .i64) (.pair (.int .i64) (.sl (.int .u8)))) a),.c (.clo b [])],[]=>bif qb [b] [159] then F a (fun r=>match r with | d=>k (.c (.bool d),[])) else none | _,_=>none
theorem ok158_261 (fuel:Nat):FnOK Tryz.prog 158 (spg158_261 (F_slices_ContainsFunc_api_Bitmap_api_Bitmap_261 fuel)):=by
  intro args objs kk r h
  unfold spg158_261 at h
  split at h
  · skip
    obtain ⟨hb,h⟩:=cond_some' h
    cases qb_eq hb
    exact fo0 (hG158_261 fuel) Tryz.func158 rfl (by kernel_rfl) _ _ kk r ((F158_261_eqg fuel (F_slices_IndexFunc_api_Bitmap_api_Bitmap_261 fuel) _ kk).trans h)
  · cases h
def kp162 (i:Nat):Option (List Nat):=Ev.look i []
def Gg162 (a:YF160) (f:Nat):Option Ev.Spec:=Ev.look f [(160,spg160 a)]
def G162 (fuel:Nat):Nat→Option Ev.Spec:=Gg162 (F_text_isShape fuel)
def Fg_text_begun_2 (fuel:Nat) (a:YF160) (g h i:Int) (b:Bool) (j k:Int) (c d:Int) (e:LI) (k0:(Bool)→OA):OA:=bif b then (a c d e (fun f=>k0 !f)) else k0 false
abbrev YF162:Type:=Int→Int→Int→Bool→Int→Int→Int→Int→LI→(Bool→Option Ans)→Option Ans
def F_text_begun_2 (fuel:Nat):YF162:=Fg_text_begun_2 fuel (F_text_isShape fuel)
theorem F162_eqg (fuel:Nat) (a:YF160) (b d e:Int) (f:Bool) (g h:Int) (i j:Int) (l:LI) (k:Ev.Cont):evalFn tab (Gg162 a) J0 kp162 fuel Tryz.f162 [.agg [i6 b,i6 d,i6 e,.bool f,i6 g,i6 h,i6 i,i6 j,.sl (.int .u8) l]] [] k=Fg_text_begun_2 fuel a b d e f g h i j l (fun r=>match r with | m=>k (.c (.bool m),[])):=by
  kernel_rfl
theorem hG162 (fuel:Nat):GOK Tryz.prog (G162 fuel):=
  gc (ok160 fuel) Tryz.func160 (by kernel_rfl) rfl <|
  gok_nil
def spg162 (F:YF162):Ev.Spec:=fun args objs k=>match args,objs with | [.agg [i6 a,i6 b,i6 d,.bool e,i6 f,i6 g,i6 h,i6 i,.sl (.int .u8) j]],[]=>F a b d e f g h i j (fun r=>match r with | l=>k (.c (.bool l),[])) | _,_=>none
theorem ok162 (fuel:Nat):FnOK Tryz.prog 162 (spg162 (F_text_begun_2 fuel)):=by
  intro args objs kk r h
  unfold spg162 at h
  split at h
  · skip
    exact fo0 (hG162 fuel) Tryz.func162 rfl (by kernel_rfl) _ _ kk r ((F162_eqg fuel (F_text_isShape fuel) _ _ _ _ _ _ _ _ _ kk).trans h)
  · cases h
def kp227_177 (i:Nat):Option (List Nat):=Ev.look i [(2,[0,1,7,8]),(100000,[]),(400000,[4])]
def Gg227_177 (a:YF162) (f:Nat):Option Ev.Spec:=Ev.look f [(162,spg162 a)]
def G227_177 (fuel:Nat):Nat→Option Ev.Spec:=Gg227_177 (F_text_begun_2 fuel)
abbrev V_slices_IndexFunc_api_Item_api_Item_177_0:Type:=(List (Int×(Int×(Int×(Bool×(Int×(Int×(Int×(Int×LI)))))))))×Int×Int
abbrev W_slices_IndexFunc_api_Item_api_Item_177_0:Type:=(Int→OA)×(Unit→OA)
def Sg_slices_IndexFunc_api_Item_api_Item_177_0 (fuel:Nat) (f:YF162) (d:(List (Int×(Int×(Int×(Bool×(Int×(Int×(Int×(Int×LI)))))))))) (e a:Int) (c:V_slices_IndexFunc_api_Item_api_Item_177_0→OA) (B:W_slices_IndexFunc_api_Item_api_Item_177_0):OA:=match B with | (ret,b)=>bif decide (a < e) then bif decide (0≤a∧a < (↑d.length:Int)) then (f ((d.getD a.toNat (0,0,0,false,0,0,0,0,[])).fst) ((d.getD a.toNat (0,0,0,false,0,0,0,0,[])).snd.fst) ((d.getD a.toNat (0,0,0,false,0,0,0,0,[])).snd.snd.fst) ((d.getD a.toNat (0,0,0,false,0,0,0,0,[])).snd.snd.snd.fst) ((d.getD a.toNat (0,0,0,false,0,0,0,0,[])).snd.snd.snd.snd.fst) ((d.getD a.toNat (0,0,0,false,0,0,0,0,[])).snd.snd.snd.snd.snd.fst) ((d.getD a.toNat (0,0,0,false,0,0,0,0,[])).snd.snd.snd.snd.snd.snd.fst) ((d.getD a.toNat (0,0,0,false,0,0,0,0,[])).snd.snd.snd.snd.snd.snd.snd.fst) ((d.getD a.toNat (0,0,0,false,0,0,0,0,[])).snd.snd.snd.snd.snd.snd.snd.snd) (fun g=>bif g then ret a else c (d,e,i64.wrap (a+1)))) else none else b ()
def S_slices_IndexFunc_api_Item_api_Item_177_0 (fuel:Nat) (v:(List (Int×(Int×(Int×(Bool×(Int×(Int×(Int×(Int×(List Int))))))))))×Int×Int) (c:((List (Int×(Int×(Int×(Bool×(Int×(Int×(Int×(Int×(List Int))))))))))×Int×Int)→Option Ans) (B:(Int→Option Ans)×(Unit→Option Ans)):Option Ans:=match v with | (a,b,d)=>Sg_slices_IndexFunc_api_Item_api_Item_177_0 fuel (F_text_begun_2 fuel) a b d c B
def L_slices_IndexFunc_api_Item_api_Item_177_0 (fuel:Nat) (v:V_slices_IndexFunc_api_Item_api_Item_177_0) (ret:(Int→Option Ans)) (b:(Unit→Option Ans)):Option Ans:=iter (S_slices_IndexFunc_api_Item_api_Item_177_0 fuel) fuel v (ret,b)
def T227_177_0 (v:V_slices_IndexFunc_api_Item_api_Item_177_0):Ev.St:=match v with | (a,b,d)=>⟨[(0,.c (.sl (.pair (.int .i64) (.pair (.int .i64) (.pair (.int .i64) (.pair .bool (.pair (.int .i64) (.pair (.int .i64) (.pair (.int .i64) (.pair (.int .i64) (.sl (.int .u8)))))))))) a)),(1,.c (.clo 162 [])),(7,.c (i6 b)),(8,.c (i6 d))],[],0,0⟩
def E227_177_0 (K:KT):W_slices_IndexFunc_api_Item_api_Item_177_0:=((fun v=>match v with | a=>K .ret ⟨[(4,.c (i6 a))],[],0,0⟩),(fun v=>match v with | ()=>K .normal ⟨[],[],0,0⟩))
theorem S227_177_0_okg (fuel:Nat) (a:YF162) (R:Ev.St→OA) (K:KT) (b:(List (Int×(Int×(Int×(Bool×(Int×(Int×(Int×(Int×LI)))))))))) (c d:Int):evalCode tab (Gg227_177 a) J0 kp227_177 fuel (bodyOf 0 Tryz.f227) (T227_177_0 (b,c,d)) (lc kp227_177 2 0 R K)=Sg_slices_IndexFunc_api_Item_api_Item_177_0 fuel a b c d (fun v=>R (T227_177_0 v)) (E227_177_0 K):=by
  kernel_rfl
def B227_177_0 (fuel:Nat):Ev.Blk:=fun st K=>match canonO (kp227_177 2) st with | some s=>(match s with | ⟨[(a,.c (.sl (.pair (.int .i64) (.pair (.int .i64) (.pair (.int .i64) (.pair .bool (.pair (.int .i64) (.pair (.int .i64) (.pair (.int .i64) (.pair (.int .i64) (.sl (.int .u8)))))))))) b)),(d,.c (.clo e [])),(f,.c (i6 g)),(h,.c (i6 i))],[],j,k⟩=>bif qb [a,d,e,f,h,j,k] [0,1,162,7,8,0,0] then iter (S_slices_IndexFunc_api_Item_api_Item_177_0 fuel) fuel (b,g,i) (E227_177_0 K) else none | _=>none) | none=>none
theorem B227_177_0_ok (fuel:Nat) (st:Ev.St) (K:KT) (r:Ans) (h:B227_177_0 fuel st K=some r):evalCode tab (G227_177 fuel) J0 kp227_177 fuel (.block 0 (.loop (bodyOf 0 Tryz.f227))) st K=some r:=by
  unfold B227_177_0 at h
  split at h
  · rename_i s hs
    split at h
    · skip
      obtain ⟨hb,h⟩:=cond_some' h
      cases qb_eq hb
      exact blk_loop (S:=T227_177_0) (ks:=E227_177_0) (step:=S_slices_IndexFunc_api_Item_api_Item_177_0 fuel) (v:=(_,_,_)) (by kernel_rfl) (by kernel_rfl) (fun R K v=>by obtain ⟨a,b,c⟩:=v; exact S227_177_0_okg fuel (F_text_begun_2 fuel) R K a b c) hs h
    · cases h
  · cases h
def J227_177 (fuel:Nat) (i:Nat):Option Ev.Blk:=Ev.look i [(100000,B227_177_0 fuel)]
def Fg_slices_IndexFunc_api_Item_api_Item_177 (fuel:Nat) (b:YF162) (a:(List (Int×(Int×(Int×(Bool×(Int×(Int×(Int×(Int×LI)))))))))) (k0:(Int)→OA):OA:=(L_slices_IndexFunc_api_Item_api_Item_177_0 fuel (a,(↑a.length:Int),0) (fun ret0_0=>k0 ret0_0) (fun ()=>k0 ((-1:Int))))
abbrev YF227_177:Type:=((List (Int×(Int×(Int×(Bool×(Int×(Int×(Int×(Int×LI))))))))))→(Int→Option Ans)→Option Ans
def F_slices_IndexFunc_api_Item_api_Item_177 (fuel:Nat):YF227_177:=Fg_slices_IndexFunc_api_Item_api_Item_177 fuel (F_text_begun_2 fuel)
theorem F227_177_eqg (fuel:Nat) (a:YF162) (b:(List (Int×(Int×(Int×(Bool×(Int×(Int×(Int×(Int×LI)))))))))) (k:Ev.Cont):evalFn tab (Gg227_177 a) (J227_177 fuel) kp227_177 fuel Tryz.f227 [.c (.sl (.pair (.int .i64) (.pair (.int .i64) (.pair (.int .i64) (.pair .bool (.pair (.int .i64) (.pair (.int .i64) (.pair (.int .i64) (.pair (.int .i64) (.sl (.int .u8)))))))))) b),.c (.clo 162 [])] [] k=Fg_slices_IndexFunc_api_Item_api_Item_177 fuel a b (fun r=>match r with | d=>k (.c (i6 d),[])):=by
  kernel_rfl
theorem hG227_177 (fuel:Nat):GOK Tryz.prog (G227_177 fuel):=
  gc (ok162 fuel) Tryz.func162 (by kernel_rfl) rfl <|
  gok_nil
theorem B227_177_0_blk (fuel:Nat):BlkOK Tryz.prog Tryz.f227.ntmps (.block 0 (.loop (bodyOf 0 Tryz.f227))) (B227_177_0 fuel):=bo0 (hG227_177 fuel) (by kernel_rfl) (by kernel_rfl) (B227_177_0_ok fuel)
def spg227_177 (F:YF227_177):Ev.Spec:=fun args objs k=>match args,objs with | [.c (.sl (.pair (.int .i64) (.pair (.int .i64) (.pair (.int .i64) (.pair .bool (.pair (.int .i64) (.pair (.int .i64) (.pair (.int .i64) (.pair (.int .i64) (.sl (.int .u8)))))))))) a),.c (.clo b [])],[]=>bif qb [b] [162] then F a (fun r=>match r with | d=>k (.c (i6 d),[])) else none | _,_=>none
theorem ok227_177 (fuel:Nat):FnOK Tryz.prog 227 (spg227_177 (F_slices_IndexFunc_api_Item_api_Item_177 fuel)):=by
  intro args objs kk r h
  unfold spg227_177 at h
  split at h
  · skip
    obtain ⟨hb,h⟩:=cond_some' h
    cases qb_eq hb
    exact fo1 (hG227_177 fuel) Tryz.func227 rfl (B227_177_0_blk fuel) (by kernel_rfl) _ _ kk r ((F227_177_eqg fuel (F_text_begun_2 fuel) _ kk).trans h)
  · cases h
def kp161_177 (i:Nat):Option (List Nat):=Ev.look i []
def Gg161_177 (a:YF227_177) (f:Nat):Option Ev.Spec:=Ev.look f [(227,spg227_177 a)]
def G161_177 (fuel:Nat):Nat→Option Ev.Spec:=Gg161_177 (F_slices_IndexFunc_api_Item_api_Item_177 fuel)
def Fg_slices_ContainsFunc_api_Item_api_Item_177 (fuel:Nat) (a:YF227_177) (b:(List (Int×(Int×(Int×(Bool×(Int×(Int×(Int×(Int×LI)))))))))) (k0:(Bool)→OA):OA:=(a b (fun c=>k0 (decide (c≥0))))
abbrev YF161_177:Type:=((List (Int×(Int×(Int×(Bool×(Int×(Int×(Int×(Int×LI))))))))))→(Bool→Option Ans)→Option Ans
def F_slices_ContainsFunc_api_Item_api_Item_177 (fuel:Nat):YF161_177:=Fg_slices_ContainsFunc_api_Item_api_Item_177 fuel (F_slices_IndexFunc_api_Item_api_Item_177 fuel)
theorem F161_177_eqg (fuel:Nat) (a:YF227_177) (b:(List (Int×(Int×(Int×(Bool×(Int×(Int×(Int×(Int×LI)))))))))) (k:Ev.Cont):evalFn tab (Gg161_177 a) J0 kp161_177 fuel Tryz.f161 [.c (.sl (.pair (.int .i64) (.pair (.int .i64) (.pair (.int .i64) (.pair .bool (.pair (.int .i64) (.pair (.int .i64) (.pair (.int .i64) (.pair (.int .i64) (.sl (.int .u8)))))))))) b),.c (.clo 162 [])] [] k=Fg_slices_ContainsFunc_api_Item_api_Item_177 fuel a b (fun r=>match r with | d=>k (.c (.bool d),[])):=by
  kernel_rfl
theorem hG161_177 (fuel:Nat):GOK Tryz.prog (G161_177 fuel):=
  gc (ok227_177 fuel) Tryz.func227 (by kernel_rfl) rfl <|
  gok_nil
def spg161_177 (F:YF161_177):Ev.Spec:=fun args objs k=>match args,objs with | [.c (.sl (.pair (.int .i64) (.pair (.int .i64) (.pair (.int .i64) (.pair .bool (.pair (.int .i64) (.pair (.int .i64) (.pair (.int .i64) (.pair (.int .i64) (.sl (.int .u8)))))))))) a),.c (.clo b [])],[]=>bif qb [b] [162] then F a (fun r=>match r with | d=>k (.c (.bool d),[])) else none | _,_=>none
theorem ok161_177 (fuel:Nat):FnOK Tryz.prog 161 (spg161_177 (F_slices_ContainsFunc_api_Item_api_Item_177 fuel)):=by
  intro args objs kk r h
  unfold spg161_177 at h
  split at h
  · skip
    obtain ⟨hb,h⟩:=cond_some' h
    cases qb_eq hb
    exact fo0 (hG161_177 fuel) Tryz.func161 rfl (by kernel_rfl) _ _ kk r ((F161_177_eqg fuel (F_slices_IndexFunc_api_Item_api_Item_177 fuel) _ kk).trans h)
  · cases h
def kp194 (i:Nat):Option (List Nat):=Ev.look i [(2,[0,1,7,8]),(100000,[]),(400000,[4])]
def Gg194 (f:Nat):Option Ev.Spec:=Ev.look f []
def G194 (fuel:Nat):Nat→Option Ev.Spec:=Gg194
def S_slices_Index_int_int_0 (fuel:Nat) (v:(List Int)×Int×Int×Int) (c:((List Int)×Int×Int×Int)→Option Ans) (B:(Int→Option Ans)×(Unit→Option Ans)):Option Ans:=match v,B with | (d,e,f,a),(ret,b)=>bif decide (a < f) then bif decide ((0:Int)≤a∧a < (↑d.length:Int)) then bif e==d.getD a.toNat (0:Int) then ret a else c (d,e,f,i64.wrap (a+(1:Int))) else none else b ()
def L_slices_Index_int_int_0 (fuel:Nat) (v:(List Int)×Int×Int×Int) (ret:(Int→Option Ans)) (b:(Unit→Option Ans)):Option Ans:=iter (S_slices_Index_int_int_0 fuel) fuel v (ret,b)
def T194_0 (v:LI×Int×Int×Int):Ev.St:=match v with | (a,b,d,e)=>⟨[(0,.c (.sl (.int .i64) a)),(1,.c (i6 b)),(7,.c (i6 d)),(8,.c (i6 e))],[],0,0⟩
def E194_0 (K:KT):(Int→OA)×(Unit→OA):=((fun v=>match v with | a=>K .ret ⟨[(4,.c (i6 a))],[],0,0⟩),(fun v=>match v with | ()=>K .normal ⟨[],[],0,0⟩))
theorem S194_0_ok (fuel:Nat) (R:Ev.St→OA) (K:KT) (a:LI) (b c d:Int):evalCode tab (G194 fuel) J0 kp194 fuel (bodyOf 0 Tryz.f194) (T194_0 (a,b,c,d)) (lc kp194 2 0 R K)=S_slices_Index_int_int_0 fuel (a,b,c,d) (fun v=>R (T194_0 v)) (E194_0 K):=by
  kernel_rfl
def B194_0 (fuel:Nat):Ev.Blk:=fun st K=>match canonO (kp194 2) st with | some s=>(match s with | ⟨[(a,.c (.sl (.int .i64) b)),(d,.c (i6 e)),(f,.c (i6 g)),(h,.c (i6 i))],[],j,k⟩=>bif qb [a,d,f,h,j,k] [0,1,7,8,0,0] then iter (S_slices_Index_int_int_0 fuel) fuel (b,e,g,i) (E194_0 K) else none | _=>none) | none=>none
theorem B194_0_ok (fuel:Nat) (st:Ev.St) (K:KT) (r:Ans) (h:B194_0 fuel st K=some r):evalCode tab (G194 fuel) J0 kp194 fuel (.block 0 (.loop (bodyOf 0 Tryz.f194))) st K=some r:=by
  unfold B194_0 at h
  split at h
  · rename_i s hs
    split at h
    · skip
      obtain ⟨hb,h⟩:=cond_some' h
      cases qb_eq hb
      exact blk_loop (S:=T194_0) (ks:=E194_0) (step:=S_slices_Index_int_int_0 fuel) (v:=(_,_,_,_)) (by kernel_rfl) (by kernel_rfl) (fun R K v=>by obtain ⟨a,b,c,d⟩:=v; exact S194_0_ok fuel R K a b c d) hs h
    · cases h
  · cases h
def J194 (fuel:Nat) (i:Nat):Option Ev.Blk:=Ev.look i [(100000,B194_0 fuel)]
def F_slices_Index_int_int (fuel:Nat) (a:(List Int)) (b:Int) (k0:(Int)→Option Ans):Option Ans:=(L_slices_Index_int_int_0 fuel (a,b,(↑a.length:Int),0) (fun ret0_0=>k0 ret0_0) (fun ()=>k0 ((-1:Int))))
abbrev YF194:Type:=LI→Int→(Int→Option Ans)→Option Ans
theorem F194_eq (fuel:Nat) (a:LI) (b:Int) (k:Ev.Cont):evalFn tab (G194 fuel) (J194 fuel) kp194 fuel Tryz.f194 [.c (.sl (.int .i64) a),.c (i6 b)] [] k=F_slices_Index_int_int fuel a b (fun r=>match r with | d=>k (.c (i6 d),[])):=by
  kernel_rfl
theorem hG194 (fuel:Nat):GOK Tryz.prog (G194 fuel):=
  gok_nil
theorem B194_0_blk (fuel:Nat):BlkOK Tryz.prog Tryz.f194.ntmps (.block 0 (.loop (bodyOf 0 Tryz.f194))) (B194_0 fuel):=bo0 (hG194 fuel) (by kernel_rfl) (by kernel_rfl) (B194_0_ok fuel)
def spg194 (F:YF194):Ev.Spec:=fun args objs k=>match args,objs with | [.c (.sl (.int .i64) a),.c (i6 b)],[]=>F a b (fun r=>match r with | d=>k (.c (i6 d),[])) | _,_=>none
theorem ok194 (fuel:Nat):FnOK Tryz.prog 194 (spg194 (F_slices_Index_int_int fuel)):=by
  intro args objs kk r h
  unfold spg194 at h
  split at h
  · skip
    exact fo1 (hG194 fuel) Tryz.func194 rfl (B194_0_blk fuel) (by kernel_rfl) _ _ kk r ((F194_eq fuel _ _ kk).trans h)
  · cases h
def kp102 (i:Nat):Option (List Nat):=Ev.look i []
def Gg102 (a:YF194) (f:Nat):Option Ev.Spec:=Ev.look f [(194,spg194 a)]
def G102 (fuel:Nat):Nat→Option Ev.Spec:=Gg102 (F_slices_Index_int_int fuel)
def Fg_slices_Contains_int_int (fuel:Nat) (a:YF194) (b:LI) (c:Int) (k0:(Bool)→OA):OA:=(a b c (fun d=>k0 (decide (d≥0))))
abbrev YF102:Type:=LI→Int→(Bool→Option Ans)→Option Ans
def F_slices_Contains_int_int (fuel:Nat):YF102:=Fg_slices_Contains_int_int fuel (F_slices_Index_int_int fuel)
theorem F102_eqg (fuel:Nat) (a:YF194) (b:LI) (d:Int) (k:Ev.Cont):evalFn tab (Gg102 a) J0 kp102 fuel Tryz.f102 [.c (.sl (.int .i64) b),.c (i6 d)] [] k=Fg_slices_Contains_int_int fuel a b d (fun r=>match r with | e=>k (.c (.bool e),[])):=by
  kernel_rfl
theorem hG102 (fuel:Nat):GOK Tryz.prog (G102 fuel):=
  gc (ok194 fuel) Tryz.func194 (by kernel_rfl) rfl <|
  gok_nil
def spg102 (F:YF102):Ev.Spec:=fun args objs k=>match args,objs with | [.c (.sl (.int .i64) a),.c (i6 b)],[]=>F a b (fun r=>match r with | d=>k (.c (.bool d),[])) | _,_=>none
theorem ok102 (fuel:Nat):FnOK Tryz.prog 102 (spg102 (F_slices_Contains_int_int fuel)):=by
  intro args objs kk r h
  unfold spg102 at h
  split at h
  · skip
    exact fo0 (hG102 fuel) Tryz.func102 rfl (by kernel_rfl) _ _ kk r ((F102_eqg fuel (F_slices_Index_int_int fuel) _ _ kk).trans h)
  · cases h
def kp31 (i:Nat):Option (List Nat):=Ev.look i []
def Gg31 (a:YF102) (f:Nat):Option Ev.Spec:=Ev.look f [(102,spg102 a)]
def G31 (fuel:Nat):Nat→Option Ev.Spec:=Gg31 (F_slices_Contains_int_int fuel)
def Fg_text_Valid (fuel:Nat) (f:YF102) (g b:Int) (i:Bool) (c d e:Int) (j:Bool) (a:Int) (k0:(Bool)→OA):OA:=(f ([1,2,4,8]) g (fun h=>bif h then bif decide (b≥0) then bif decide (b≤3) then bif decide (c≥(-16:Int)) then bif decide (c≤16) then bif decide (d≥0) then bif decide (d≤4) then bif e==0 then bif a==0 then k0 true else k0 (a==1) else bif e==1 then bif a==0 then k0 true else k0 (a==1) else k0 false else k0 false else k0 false else k0 false else k0 false else k0 false else k0 false else k0 false))
abbrev YF31:Type:=Int→Int→Bool→Int→Int→Int→Bool→Int→(Bool→Option Ans)→Option Ans
def F_text_Valid (fuel:Nat):YF31:=Fg_text_Valid fuel (F_slices_Contains_int_int fuel)
theorem F31_eqg (fuel:Nat) (a:YF102) (b d:Int) (e:Bool) (f g h:Int) (i:Bool) (j:Int) (k:Ev.Cont):evalFn tab (Gg31 a) J0 kp31 fuel Tryz.f31 [.agg [i6 b,i6 d,.bool e,i6 f,i6 g,i6 h,.bool i,i6 j]] [] k=Fg_text_Valid fuel a b d e f g h i j (fun r=>match r with | l=>k (.c (.bool l),[])):=by
  kernel_rfl
theorem hG31 (fuel:Nat):GOK Tryz.prog (G31 fuel):=
  gc (ok102 fuel) Tryz.func102 (by kernel_rfl) rfl <|
  gok_nil
def spg31 (F:YF31):Ev.Spec:=fun args objs k=>match args,objs with | [.agg [i6 a,i6 b,.bool d,i6 e,i6 f,i6 g,.bool h,i6 i]],[]=>F a b d e f g h i (fun r=>match r with | j=>k (.c (.bool j),[])) | _,_=>none
theorem ok31 (fuel:Nat):FnOK Tryz.prog 31 (spg31 (F_text_Valid fuel)):=by
  intro args objs kk r h
  unfold spg31 at h
  split at h
  · skip
    exact fo0 (hG31 fuel) Tryz.func31 rfl (by kernel_rfl) _ _ kk r ((F31_eqg fuel (F_slices_Contains_int_int fuel) _ _ _ _ _ _ _ _ kk).trans h)
  · cases h
def kp73 (i:Nat):Option (List Nat):=Ev.look i []
def Gg73 (c:YF31) (a:YF158_261) (b:YF161_177) (f:Nat):Option Ev.Spec:=Ev.look f [(31,spg31 c),(158,spg158_261 a),(161,spg161_177 b)]
def G73 (fuel:Nat):Nat→Option Ev.Spec:=Gg73 (F_text_Valid fuel) (F_slices_ContainsFunc_api_Bitmap_api_Bitmap_261 fuel) (F_slices_ContainsFunc_api_Item_api_Item_177 fuel)
def Fg_text_begun (fuel:Nat) (c:YF31) (a:YF158_261) (b:YF161_177) (e f:Int) (g:Bool) (h i j:Int) (k:Bool) (l:Int) (m:(List (Int×Int×LI))) (n:(List (Int×Int×Int×Bool×Int×Int×(Int×Int×LI)))) (k0:(Int)→OA):OA:=(c e f g h i j k l (fun o=>bif !o then k0 (2) else (a m (fun p=>bif p then k0 (30) else (b n (fun d=>bif d then k0 (30) else k0 (0)))))))
abbrev YF73:Type:=Int→Int→Bool→Int→Int→Int→Bool→Int→((List (Int×Int×LI)))→((List (Int×Int×Int×Bool×Int×Int×(Int×Int×LI))))→(Int→Option Ans)→Option Ans
def F_text_begun (fuel:Nat):YF73:=Fg_text_begun fuel (F_text_Valid fuel) (F_slices_ContainsFunc_api_Bitmap_api_Bitmap_261 fuel) (F_slices_ContainsFunc_api_Item_api_Item_177 fuel)
theorem F73_eqg (fuel:Nat) (d:YF31) (a:YF158_261) (b:YF161_177) (e f:Int) (g:Bool) (h i j:Int) (l:Bool) (m:Int) (n:(List (Int×Int×LI))) (o:(List (Int×Int×Int×Bool×Int×Int×(Int×Int×LI)))) (k:Ev.Cont):evalFn tab (Gg73 d a b) J0 kp73 fuel Tryz.f73 [.agg [i6 e,i6 f,.bool g,i6 h,i6 i,i6 j,.bool l,i6 m],.c (.sl (.pair (.int .i64) (.pair (.int .i64) (.sl (.int .u8)))) n),.c (.sl (.pair (.int .i64) (.pair (.int .i64) (.pair (.int .i64) (.pair .bool (.pair (.int .i64) (.pair (.int .i64) (.pair (.int .i64) (.pair (.int .i64) (.sl (.int .u8)))))))))) o)] [] k=Fg_text_begun fuel d a b e f g h i j l m n o (fun r=>match r with | p=>k (.c (i6 p),[])):=by
  kernel_rfl
theorem hG73 (fuel:Nat):GOK Tryz.prog (G73 fuel):=
  gc (ok31 fuel) Tryz.func31 (by kernel_rfl) rfl <|
  gc (ok158_261 fuel) Tryz.func158 (by kernel_rfl) rfl <|
  gc (ok161_177 fuel) Tryz.func161 (by kernel_rfl) rfl <|
  gok_nil
def spg73 (F:YF73):Ev.Spec:=fun args objs k=>match args,objs with | [.agg [i6 a,i6 b,.bool d,i6 e,i6 f,i6 g,.bool h,i6 i],.c (.sl (.pair (.int .i64) (.pair (.int .i64) (.sl (.int .u8)))) j),.c (.sl (.pair (.int .i64) (.pair (.int .i64) (.pair (.int .i64) (.pair .bool (.pair (.int .i64) (.pair (.int .i64) (.pair (.int .i64) (.pair (.int .i64) (.sl (.int .u8)))))))))) l)],[]=>F a b d e f g h i j l (fun r=>match r with | m=>k (.c (i6 m),[])) | _,_=>none
theorem ok73 (fuel:Nat):FnOK Tryz.prog 73 (spg73 (F_text_begun fuel)):=by
  intro args objs kk r h
  unfold spg73 at h
  split at h
  · skip
    exact fo0 (hG73 fuel) Tryz.func73 rfl (by kernel_rfl) _ _ kk r ((F73_eqg fuel (F_text_Valid fuel) (F_slices_ContainsFunc_api_Bitmap_api_Bitmap_261 fuel) (F_slices_ContainsFunc_api_Item_api_Item_177 fuel) _ _ _ _ _ _ _ _ _ _ kk).trans h)
  · cases h
def kp93 (i:Nat):Option (List Nat):=Ev.look i []
def Gg93 (f:Nat):Option Ev.Spec:=Ev.look f []
def G93 (fuel:Nat):Nat→Option Ev.Spec:=Gg93
def F_text_near (fuel:Nat) (a b:Int) (k0:(Bool)→Option Ans):Option Ans:=bif decide (a≥i64.wrap (0 - b)) then k0 (decide (a≤b)) else k0 false
abbrev YF93:Type:=Int→Int→(Bool→Option Ans)→Option Ans
theorem F93_eq (fuel:Nat) (a b:Int) (k:Ev.Cont):evalFn tab (G93 fuel) J0 kp93 fuel Tryz.f93 [.c (i6 a),.c (i6 b)] [] k=F_text_near fuel a b (fun r=>match r with | d=>k (.c (.bool d),[])):=by
  kernel_rfl
theorem hG93 (fuel:Nat):GOK Tryz.prog (G93 fuel):=
  gok_nil
def spg93 (F:YF93):Ev.Spec:=fun args objs k=>match args,objs with | [.c (i6 a),.c (i6 b)],[]=>F a b (fun r=>match r with | d=>k (.c (.bool d),[])) | _,_=>none
theorem ok93 (fuel:Nat):FnOK Tryz.prog 93 (spg93 (F_text_near fuel)):=by
  intro args objs kk r h
  unfold spg93 at h
  split at h
  · skip
    exact fo0 (hG93 fuel) Tryz.func93 rfl (by kernel_rfl) _ _ kk r ((F93_eq fuel _ _ kk).trans h)
  · cases h
def kp104 (i:Nat):Option (List Nat):=Ev.look i []
def Gg104 (a:YF93) (f:Nat):Option Ev.Spec:=Ev.look f [(93,spg93 a)]
def G104 (fuel:Nat):Nat→Option Ev.Spec:=Gg104 (F_text_near fuel)
def Fg_text_rightItem (fuel:Nat) (a:YF93) (q r:Int) (s:Bool) (t u v:Int) (m:Bool) (w n:Int) (d e f:Int) (g:Bool) (b c:Int) (h i:Int) (j:LI) (k0:(Bool)→OA):OA:=bif decide (d < 0) then k0 false else bif decide (d≥n) then k0 false else (a e (100000) (fun o=>bif !o then k0 false else (a f (100000) (fun p=>bif !p then k0 false else bif !g then bif b==0 then bif c==0 then bif h==0 then bif i==0 then k0 ((↑j.length:Int)==0) else k0 false else k0 false else k0 false else k0 false else bif m then (a b (200) (fun k=>bif k then (a c (200) (fun l=>k0 l)) else k0 false)) else k0 false))))
abbrev YF104:Type:=Int→Int→Bool→Int→Int→Int→Bool→Int→Int→Int→Int→Int→Bool→Int→Int→Int→Int→LI→(Bool→Option Ans)→Option Ans
def F_text_rightItem (fuel:Nat):YF104:=Fg_text_rightItem fuel (F_text_near fuel)
theorem F104_eqg (fuel:Nat) (a:YF93) (l m:Int) (n:Bool) (o p q:Int) (s:Bool) (t u:Int) (v b d:Int) (e:Bool) (f g:Int) (h i:Int) (j:LI) (k:Ev.Cont):evalFn tab (Gg104 a) J0 kp104 fuel Tryz.f104 [.agg [i6 l,i6 m,.bool n,i6 o,i6 p,i6 q,.bool s,i6 t],.c (i6 u),.agg [i6 v,i6 b,i6 d,.bool e,i6 f,i6 g,i6 h,i6 i,.sl (.int .u8) j]] [] k=Fg_text_rightItem fuel a l m n o p q s t u v b d e f g h i j (fun r=>match r with | w=>k (.c (.bool w),[])):=by
  kernel_rfl
theorem hG104 (fuel:Nat):GOK Tryz.prog (G104 fuel):=
  gc (ok93 fuel) Tryz.func93 (by kernel_rfl) rfl <|
  gok_nil
def spg104 (F:YF104):Ev.Spec:=fun args objs k=>match args,objs with | [.agg [i6 j,i6 l,.bool m,i6 n,i6 o,i6 p,.bool q,i6 s],.c (i6 t),.agg [i6 u,i6 a,i6 b,.bool d,i6 e,i6 f,i6 g,i6 h,.sl (.int .u8) i]],[]=>F j l m n o p q s t u a b d e f g h i (fun r=>match r with | v=>k (.c (.bool v),[])) | _,_=>none
theorem ok104 (fuel:Nat):FnOK Tryz.prog 104 (spg104 (F_text_rightItem fuel)):=by
  intro args objs kk r h
  unfold spg104 at h
  split at h
  · skip
    exact fo0 (hG104 fuel) Tryz.func104 rfl (by kernel_rfl) _ _ kk r ((F104_eqg fuel (F_text_near fuel) _ _ _ _ _ _ _ _ _ _ _ _ _ _ _ _ _ _ kk).trans h)
  · cases h
def kp164_e36 (i:Nat):Option (List Nat):=Ev.look i []
def Gg164_e36 (a:YF104) (f:Nat):Option Ev.Spec:=Ev.look f [(104,spg104 a)]
def G164_e36 (fuel:Nat):Nat→Option Ev.Spec:=Gg164_e36 (F_text_rightItem fuel)
def Fg_text_right_1_e36 (fuel:Nat) (j:YF104) (k l m:Int) (n:Bool) (o p:Int) (q r:Int) (s:LI) (i a:Int) (b:Bool) (c d e:Int) (f:Bool) (g h:Int) (k0:(Bool×Int×Int×Bool×Int×Int×Int×Bool×Int×Int)→OA):OA:=(j i a b c d e f g h k l m n o p q r s (fun t=>k0 (!t,i,a,b,c,d,e,f,g,h)))
abbrev YF164_e36:Type:=Int→Int→Int→Bool→Int→Int→Int→Int→LI→Int→Int→Bool→Int→Int→Int→Bool→Int→Int→((Bool×Int×Int×Bool×Int×Int×Int×Bool×Int×Int)→Option Ans)→Option Ans
def F_text_right_1_e36 (fuel:Nat):YF164_e36:=Fg_text_right_1_e36 fuel (F_text_rightItem fuel)
theorem F164_e36_eqg (fuel:Nat) (a:YF104) (l m n:Int) (o:Bool) (p q:Int) (s t:Int) (u:LI) (v b:Int) (d:Bool) (e f g:Int) (h:Bool) (i j:Int) (k:Ev.Cont):evalFn tab (Gg164_e36 a) J0 kp164_e36 fuel Tryz.f164 [.agg [i6 l,i6 m,i6 n,.bool o,i6 p,i6 q,i6 s,i6 t,.sl (.int .u8) u],.c (.ptr 0 0),.c (.ptr 1 0)] [.cells 40 [i6 v,i6 b,.bool d,i6 e,i6 f,i6 g,.bool h,i6 i],.cells 3 [i6 j]] k=Fg_text_right_1_e36 fuel a l m n o p q s t u v b d e f g h i j (fun r=>match r with | (w,x,y,z,A,B,C,D,E,F)=>k (.c (.bool w),[.cells 40 [i6 x,i6 y,.bool z,i6 A,i6 B,i6 C,.bool D,i6 E],.cells 3 [i6 F]])):=by
  kernel_rfl
theorem hG164_e36 (fuel:Nat):GOK Tryz.prog (G164_e36 fuel):=
  gc (ok104 fuel) Tryz.func104 (by kernel_rfl) rfl <|
  gok_nil
def spg164_e36 (F:YF164_e36):Ev.Spec:=fun args objs k=>match args,objs with | [.agg [i6 j,i6 l,i6 m,.bool n,i6 o,i6 p,i6 q,i6 s,.sl (.int .u8) t],.c (.ptr u v),.c (.ptr w x)],[.cells y [i6 z,i6 a,.bool b,i6 d,i6 e,i6 f,.bool g,i6 h],.cells A [i6 i]]=>bif qb [u,v,w,x,y,A] [0,0,1,0,40,3] then F j l m n o p q s t z a b d e f g h i (fun r=>match r with | (B,C,D,E,G,H,I,J,K,L)=>k (.c (.bool B),[.cells 40 [i6 C,i6 D,.bool E,i6 G,i6 H,i6 I,.bool J,i6 K],.cells 3 [i6 L]])) else none | _,_=>none
theorem ok164_e36 (fuel:Nat):FnOK Tryz.prog 164 (spg164_e36 (F_text_right_1_e36 fuel)):=by
  intro args objs kk r h
  unfold spg164_e36 at h
  split at h
  · skip
    obtain ⟨hb,h⟩:=cond_some' h
    cases qb_eq hb
    exact fo0 (hG164_e36 fuel) Tryz.func164 rfl (by kernel_rfl) _ _ kk r ((F164_e36_eqg fuel (F_text_rightItem fuel) _ _ _ _ _ _ _ _ _ _ _ _ _ _ _ _ _ _ kk).trans h)
  · cases h
def kp227_766 (i:Nat):Option (List Nat):=Ev.look i [(2,[0,1,7,8]),(100000,[]),(400000,[4])]
def Gg227_766 (a:YF164_e36) (f:Nat):Option Ev.Spec:=Ev.look f [(164,spg164_e36 a)]
def G227_766 (fuel:Nat):Nat→Option Ev.Spec:=Gg227_766 (F_text_right_1_e36 fuel)
abbrev V_slices_IndexFunc_api_Item_api_Item_766_0:Type:=(List (Int×(Int×(Int×(Bool×(Int×(Int×(Int×(Int×LI)))))))))×Int×Int×Int×Int×Bool×Int×Int×Int×Bool×Int×Int
abbrev W_slices_IndexFunc_api_Item_api_Item_766_0:Type:=(Int×Int×Int×Bool×Int×Int×Int×Bool×Int×Int→OA)×(Int×Int×Bool×Int×Int×Int×Bool×Int×Int→OA)
def Sg_slices_IndexFunc_api_Item_api_Item_766_0 (fuel:Nat) (x:YF164_e36) (d:(List (Int×(Int×(Int×(Bool×(Int×(Int×(Int×(Int×LI)))))))))) (p a:Int) (q r:Int) (s:Bool) (t u v:Int) (w:Bool) (n o:Int) (c:V_slices_IndexFunc_api_Item_api_Item_766_0→OA) (B:W_slices_IndexFunc_api_Item_api_Item_766_0):OA:=match B with | (ret,b)=>bif decide (a < p) then bif decide (0≤a∧a < (↑d.length:Int)) then (x ((d.getD a.toNat (0,0,0,false,0,0,0,0,[])).fst) ((d.getD a.toNat (0,0,0,false,0,0,0,0,[])).snd.fst) ((d.getD a.toNat (0,0,0,false,0,0,0,0,[])).snd.snd.fst) ((d.getD a.toNat (0,0,0,false,0,0,0,0,[])).snd.snd.snd.fst) ((d.getD a.toNat (0,0,0,false,0,0,0,0,[])).snd.snd.snd.snd.fst) ((d.getD a.toNat (0,0,0,false,0,0,0,0,[])).snd.snd.snd.snd.snd.fst) ((d.getD a.toNat (0,0,0,false,0,0,0,0,[])).snd.snd.snd.snd.snd.snd.fst) ((d.getD a.toNat (0,0,0,false,0,0,0,0,[])).snd.snd.snd.snd.snd.snd.snd.fst) ((d.getD a.toNat (0,0,0,false,0,0,0,0,[])).snd.snd.snd.snd.snd.snd.snd.snd) q r s t u v w n o (fun (y,e,f,g,h,i,j,k,l,m)=>bif y then ret (a,e,f,g,h,i,j,k,l,m) else c (d,p,i64.wrap (a+1),e,f,g,h,i,j,k,l,m))) else none else b (q,r,s,t,u,v,w,n,o)
def S_slices_IndexFunc_api_Item_api_Item_766_0 (fuel:Nat) (v:(List (Int×(Int×(Int×(Bool×(Int×(Int×(Int×(Int×(List Int))))))))))×Int×Int×Int×Int×Bool×Int×Int×Int×Bool×Int×Int) (c:((List (Int×(Int×(Int×(Bool×(Int×(Int×(Int×(Int×(List Int))))))))))×Int×Int×Int×Int×Bool×Int×Int×Int×Bool×Int×Int)→Option Ans) (B:(Int×Int×Int×Bool×Int×Int×Int×Bool×Int×Int→Option Ans)×(Int×Int×Bool×Int×Int×Int×Bool×Int×Int→Option Ans)):Option Ans:=match v with | (d,e,f,g,h,i,j,k,l,m,a,b)=>Sg_slices_IndexFunc_api_Item_api_Item_766_0 fuel (F_text_right_1_e36 fuel) d e f g h i j k l m a b c B
def L_slices_IndexFunc_api_Item_api_Item_766_0 (fuel:Nat) (v:V_slices_IndexFunc_api_Item_api_Item_766_0) (ret:(Int×Int×Int×Bool×Int×Int×Int×Bool×Int×Int→Option Ans)) (b:(Int×Int×Bool×Int×Int×Int×Bool×Int×Int→Option Ans)):Option Ans:=iter (S_slices_IndexFunc_api_Item_api_Item_766_0 fuel) fuel v (ret,b)
def T227_766_0 (v:V_slices_IndexFunc_api_Item_api_Item_766_0):Ev.St:=match v with | (d,e,f,g,h,i,j,k,l,m,a,b)=>⟨[(0,.c (.sl (.pair (.int .i64) (.pair (.int .i64) (.pair (.int .i64) (.pair .bool (.pair (.int .i64) (.pair (.int .i64) (.pair (.int .i64) (.pair (.int .i64) (.sl (.int .u8)))))))))) d)),(1,.c (.clo 164 [0,1])),(7,.c (i6 e)),(8,.c (i6 f))],[(0,.cells 40 [i6 g,i6 h,.bool i,i6 j,i6 k,i6 l,.bool m,i6 a]),(1,.cells 3 [i6 b])],2,2⟩
def E227_766_0 (K:KT):W_slices_IndexFunc_api_Item_api_Item_766_0:=((fun v=>match v with | (a,b,d,e,f,g,h,i,j,k)=>K .ret ⟨[(4,.c (i6 a))],[(0,.cells 40 [i6 b,i6 d,.bool e,i6 f,i6 g,i6 h,.bool i,i6 j]),(1,.cells 3 [i6 k])],2,2⟩),(fun v=>match v with | (a,b,d,e,f,g,h,i,j)=>K .normal ⟨[],[(0,.cells 40 [i6 a,i6 b,.bool d,i6 e,i6 f,i6 g,.bool h,i6 i]),(1,.cells 3 [i6 j])],2,2⟩))
theorem S227_766_0_okg (fuel:Nat) (a:YF164_e36) (R:Ev.St→OA) (K:KT) (d:(List (Int×(Int×(Int×(Bool×(Int×(Int×(Int×(Int×LI)))))))))) (e f:Int) (g h:Int) (i:Bool) (j k l:Int) (m:Bool) (b c:Int):evalCode tab (Gg227_766 a) J0 kp227_766 fuel (bodyOf 0 Tryz.f227) (T227_766_0 (d,e,f,g,h,i,j,k,l,m,b,c)) (lc kp227_766 2 0 R K)=Sg_slices_IndexFunc_api_Item_api_Item_766_0 fuel a d e f g h i j k l m b c (fun v=>R (T227_766_0 v)) (E227_766_0 K):=by
  kernel_rfl
def B227_766_0 (fuel:Nat):Ev.Blk:=fun st K=>match canonO (kp227_766 2) st with | some s=>(match s with | ⟨[(g,.c (.sl (.pair (.int .i64) (.pair (.int .i64) (.pair (.int .i64) (.pair .bool (.pair (.int .i64) (.pair (.int .i64) (.pair (.int .i64) (.pair (.int .i64) (.sl (.int .u8)))))))))) h)),(i,.c (.clo j [k,l])),(m,.c (i6 n)),(o,.c (i6 p))],[(q,.cells r [i6 t,i6 u,.bool v,i6 w,i6 x,i6 y,.bool z,i6 a]),(A,.cells b [i6 d])],e,f⟩=>bif qb [g,i,j,k,l,m,o,q,r,A,b,e,f] [0,1,164,0,1,7,8,0,40,1,3,2,2] then iter (S_slices_IndexFunc_api_Item_api_Item_766_0 fuel) fuel (h,n,p,t,u,v,w,x,y,z,a,d) (E227_766_0 K) else none | _=>none) | none=>none
theorem B227_766_0_ok (fuel:Nat) (st:Ev.St) (K:KT) (r:Ans) (h:B227_766_0 fuel st K=some r):evalCode tab (G227_766 fuel) J0 kp227_766 fuel (.block 0 (.loop (bodyOf 0 Tryz.f227))) st K=some r:=by
  unfold B227_766_0 at h
  split at h
  · rename_i s hs
    split at h
    · skip
      obtain ⟨hb,h⟩:=cond_some' h
      cases qb_eq hb
      exact blk_loop (S:=T227_766_0) (ks:=E227_766_0) (step:=S_slices_IndexFunc_api_Item_api_Item_766_0 fuel) (v:=(_,_,_,_,_,_,_,_,_,_,_,_)) (by kernel_rfl) (by kernel_rfl) (fun R K v=>by obtain ⟨c,d,e,f,g,i,j,k,l,m,a,b⟩:=v; exact S227_766_0_okg fuel (F_text_right_1_e36 fuel) R K c d e f g i j k l m a b) hs h
    · cases h
  · cases h
def J227_766 (fuel:Nat) (i:Nat):Option Ev.Blk:=Ev.look i [(100000,B227_766_0 fuel)]
def Fg_slices_IndexFunc_api_Item_api_Item_766 (fuel:Nat) (t:YF164_e36) (a:(List (Int×(Int×(Int×(Bool×(Int×(Int×(Int×(Int×LI)))))))))) (k l:Int) (m:Bool) (n o p:Int) (q:Bool) (r s:Int) (k0:(Int×Int×Int×Bool×Int×Int×Int×Bool×Int×Int)→OA):OA:=(L_slices_IndexFunc_api_Item_api_Item_766_0 fuel (a,(↑a.length:Int),0,k,l,m,n,o,p,q,r,s) (fun (ret0_0,ret0_1,ret0_2,ret0_3,ret0_4,ret0_5,ret0_6,ret0_7,ret0_8,ret0_9)=>k0 (ret0_0,ret0_1,ret0_2,ret0_3,ret0_4,ret0_5,ret0_6,ret0_7,ret0_8,ret0_9)) (fun (b,c,d,e,f,g,h,i,j)=>k0 ((-1:Int),b,c,d,e,f,g,h,i,j)))
abbrev YF227_766:Type:=((List (Int×(Int×(Int×(Bool×(Int×(Int×(Int×(Int×LI))))))))))→Int→Int→Bool→Int→Int→Int→Bool→Int→Int→((Int×Int×Int×Bool×Int×Int×Int×Bool×Int×Int)→Option Ans)→Option Ans
def F_slices_IndexFunc_api_Item_api_Item_766 (fuel:Nat):YF227_766:=Fg_slices_IndexFunc_api_Item_api_Item_766 fuel (F_text_right_1_e36 fuel)
theorem F227_766_eqg (fuel:Nat) (a:YF164_e36) (b:(List (Int×(Int×(Int×(Bool×(Int×(Int×(Int×(Int×LI)))))))))) (d e:Int) (f:Bool) (g h i:Int) (j:Bool) (l m:Int) (k:Ev.Cont):evalFn tab (Gg227_766 a) (J227_766 fuel) kp227_766 fuel Tryz.f227 [.c (.sl (.pair (.int .i64) (.pair (.int .i64) (.pair (.int .i64) (.pair .bool (.pair (.int .i64) (.pair (.int .i64) (.pair (.int .i64) (.pair (.int .i64) (.sl (.int .u8)))))))))) b),.c (.clo 164 [0,1])] [.cells 40 [i6 d,i6 e,.bool f,i6 g,i6 h,i6 i,.bool j,i6 l],.cells 3 [i6 m]] k=Fg_slices_IndexFunc_api_Item_api_Item_766 fuel a b d e f g h i j l m (fun r=>match r with | (n,o,p,q,s,t,u,v,w,x)=>k (.c (i6 n),[.cells 40 [i6 o,i6 p,.bool q,i6 s,i6 t,i6 u,.bool v,i6 w],.cells 3 [i6 x]])):=by
  kernel_rfl
theorem hG227_766 (fuel:Nat):GOK Tryz.prog (G227_766 fuel):=
  gc (ok164_e36 fuel) Tryz.func164 (by kernel_rfl) rfl <|
  gok_nil
theorem B227_766_0_blk (fuel:Nat):BlkOK Tryz.prog Tryz.f227.ntmps (.block 0 (.loop (bodyOf 0 Tryz.f227))) (B227_766_0 fuel):=bo0 (hG227_766 fuel) (by kernel_rfl) (by kernel_rfl) (B227_766_0_ok fuel)
def spg227_766 (F:YF227_766):Ev.Spec:=fun args objs k=>match args,objs with | [.c (.sl (.pair (.int .i64) (.pair (.int .i64) (.pair (.int .i64) (.pair .bool (.pair (.int .i64) (.pair (.int .i64) (.pair (.int .i64) (.pair (.int .i64) (.sl (.int .u8)))))))))) a),.c (.clo b [d,e])],[.cells f [i6 g,i6 h,.bool i,i6 j,i6 l,i6 m,.bool n,i6 o],.cells p [i6 q]]=>bif qb [b,d,e,f,p] [164,0,1,40,3] then F a g h i j l m n o q (fun r=>match r with | (s,t,u,v,w,x,y,z,A,B)=>k (.c (i6 s),[.cells 40 [i6 t,i6 u,.bool v,i6 w,i6 x,i6 y,.bool z,i6 A],.cells 3 [i6 B]])) else none | _,_=>none
theorem ok227_766 (fuel:Nat):FnOK Tryz.prog 227 (spg227_766 (F_slices_IndexFunc_api_Item_api_Item_766 fuel)):=by
  intro args objs kk r h
  unfold spg227_766 at h
  split at h
  · skip
    obtain ⟨hb,h⟩:=cond_some' h
    cases qb_eq hb
    exact fo1 (hG227_766 fuel) Tryz.func227 rfl (B227_766_0_blk fuel) (by kernel_rfl) _ _ kk r ((F227_766_eqg fuel (F_text_right_1_e36 fuel) _ _ _ _ _ _ _ _ _ _ kk).trans h)
  · cases h
def kp161_766 (i:Nat):Option (List Nat):=Ev.look i []
def Gg161_766 (a:YF227_766) (f:Nat):Option Ev.Spec:=Ev.look f [(227,spg227_766 a)]
def G161_766 (fuel:Nat):Nat→Option Ev.Spec:=Gg161_766 (F_slices_IndexFunc_api_Item_api_Item_766 fuel)
def Fg_slices_ContainsFunc_api_Item_api_Item_766 (fuel:Nat) (a:YF227_766) (l:(List (Int×(Int×(Int×(Bool×(Int×(Int×(Int×(Int×LI)))))))))) (m n:Int) (o:Bool) (p q r:Int) (s:Bool) (t u:Int) (k0:(Bool×Int×Int×Bool×Int×Int×Int×Bool×Int×Int)→OA):OA:=(a l m n o p q r s t u (fun (b,c,d,e,f,g,h,i,j,k)=>k0 (decide (b≥0),c,d,e,f,g,h,i,j,k)))
abbrev YF161_766:Type:=((List (Int×(Int×(Int×(Bool×(Int×(Int×(Int×(Int×LI))))))))))→Int→Int→Bool→Int→Int→Int→Bool→Int→Int→((Bool×Int×Int×Bool×Int×Int×Int×Bool×Int×Int)→Option Ans)→Option Ans
def F_slices_ContainsFunc_api_Item_api_Item_766 (fuel:Nat):YF161_766:=Fg_slices_ContainsFunc_api_Item_api_Item_766 fuel (F_slices_IndexFunc_api_Item_api_Item_766 fuel)
theorem F161_766_eqg (fuel:Nat) (a:YF227_766) (b:(List (Int×(Int×(Int×(Bool×(Int×(Int×(Int×(Int×LI)))))))))) (d e:Int) (f:Bool) (g h i:Int) (j:Bool) (l m:Int) (k:Ev.Cont):evalFn tab (Gg161_766 a) J0 kp161_766 fuel Tryz.f161 [.c (.sl (.pair (.int .i64) (.pair (.int .i64) (.pair (.int .i64) (.pair .bool (.pair (.int .i64) (.pair (.int .i64) (.pair (.int .i64) (.pair (.int .i64) (.sl (.int .u8)))))))))) b),.c (.clo 164 [0,1])] [.cells 40 [i6 d,i6 e,.bool f,i6 g,i6 h,i6 i,.bool j,i6 l],.cells 3 [i6 m]] k=Fg_slices_ContainsFunc_api_Item_api_Item_766 fuel a b d e f g h i j l m (fun r=>match r with | (n,o,p,q,s,t,u,v,w,x)=>k (.c (.bool n),[.cells 40 [i6 o,i6 p,.bool q,i6 s,i6 t,i6 u,.bool v,i6 w],.cells 3 [i6 x]])):=by
  kernel_rfl
theorem hG161_766 (fuel:Nat):GOK Tryz.prog (G161_766 fuel):=
  gc (ok227_766 fuel) Tryz.func227 (by kernel_rfl) rfl <|
  gok_nil
def spg161_766 (F:YF161_766):Ev.Spec:=fun args objs k=>match args,objs with | [.c (.sl (.pair (.int .i64) (.pair (.int .i64) (.pair (.int .i64) (.pair .bool (.pair (.int .i64) (.pair (.int .i64) (.pair (.int .i64) (.pair (.int .i64) (.sl (.int .u8)))))))))) a),.c (.clo b [d,e])],[.cells f [i6 g,i6 h,.bool i,i6 j,i6 l,i6 m,.bool n,i6 o],.cells p [i6 q]]=>bif qb [b,d,e,f,p] [164,0,1,40,3] then F a g h i j l m n o q (fun r=>match r with | (s,t,u,v,w,x,y,z,A,B)=>k (.c (.bool s),[.cells 40 [i6 t,i6 u,.bool v,i6 w,i6 x,i6 y,.bool z,i6 A],.cells 3 [i6 B]])) else none | _,_=>none
theorem ok161_766 (fuel:Nat):FnOK Tryz.prog 161 (spg161_766 (F_slices_ContainsFunc_api_Item_api_Item_766 fuel)):=by
  intro args objs kk r h
  unfold spg161_766 at h
  split at h
  · skip
    obtain ⟨hb,h⟩:=cond_some' h
    cases qb_eq hb
    exact fo0 (hG161_766 fuel) Tryz.func161 rfl (by kernel_rfl) _ _ kk r ((F161_766_eqg fuel (F_slices_IndexFunc_api_Item_api_Item_766 fuel) _ _ _ _ _ _ _ _ _ _ kk).trans h)
  · cases h
def kp77 (i:Nat):Option (List Nat):=Ev.look i []
def Gg77 (a:YF161_766) (f:Nat):Option Ev.Spec:=Ev.look f [(161,spg161_766 a)]
def G77 (fuel:Nat):Nat→Option Ev.Spec:=Gg77 (F_slices_ContainsFunc_api_Item_api_Item_766 fuel)
def Fg_text_right (fuel:Nat) (c:YF161_766) (e f:Int) (g:Bool) (h i j:Int) (k:Bool) (l a:Int) (b:(List (Int×Int×Int×Bool×Int×Int×(Int×Int×LI)))) (k0:(Bool)→OA):OA:=bif decide (a≤60) then bif decide ((↑b.length:Int)≤300) then (c b e f g h i j k l a (fun (d,m,n,o,p,q,r,s,t,u)=>k0 !d)) else k0 false else k0 false
abbrev YF77:Type:=Int→Int→Bool→Int→Int→Int→Bool→Int→Int→((List (Int×Int×Int×Bool×Int×Int×(Int×Int×LI))))→(Bool→Option Ans)→Option Ans
def F_text_right (fuel:Nat):YF77:=Fg_text_right fuel (F_slices_ContainsFunc_api_Item_api_Item_766 fuel)
theorem F77_eqg (fuel:Nat) (a:YF161_766) (b d:Int) (e:Bool) (f g h:Int) (i:Bool) (j l:Int) (m:(List (Int×Int×Int×Bool×Int×Int×(Int×Int×LI)))) (k:Ev.Cont):evalFn tab (Gg77 a) J0 kp77 fuel Tryz.f77 [.agg [i6 b,i6 d,.bool e,i6 f,i6 g,i6 h,.bool i,i6 j],.c (i6 l),.c (.sl (.pair (.int .i64) (.pair (.int .i64) (.pair (.int .i64) (.pair .bool (.pair (.int .i64) (.pair (.int .i64) (.pair (.int .i64) (.pair (.int .i64) (.sl (.int .u8)))))))))) m)] [] k=Fg_text_right fuel a b d e f g h i j l m (fun r=>match r with | n=>k (.c (.bool n),[])):=by
  kernel_rfl
theorem hG77 (fuel:Nat):GOK Tryz.prog (G77 fuel):=
  gc (ok161_766 fuel) Tryz.func161 (by kernel_rfl) rfl <|
  gok_nil
def spg77 (F:YF77):Ev.Spec:=fun args objs k=>match args,objs with | [.agg [i6 a,i6 b,.bool d,i6 e,i6 f,i6 g,.bool h,i6 i],.c (i6 j),.c (.sl (.pair (.int .i64) (.pair (.int .i64) (.pair (.int .i64) (.pair .bool (.pair (.int .i64) (.pair (.int .i64) (.pair (.int .i64) (.pair (.int .i64) (.sl (.int .u8)))))))))) l)],[]=>F a b d e f g h i j l (fun r=>match r with | m=>k (.c (.bool m),[])) | _,_=>none
theorem ok77 (fuel:Nat):FnOK Tryz.prog 77 (spg77 (F_text_right fuel)):=by
  intro args objs kk r h
  unfold spg77 at h
  split at h
  · skip
    exact fo0 (hG77 fuel) Tryz.func77 rfl (by kernel_rfl) _ _ kk r ((F77_eqg fuel (F_slices_ContainsFunc_api_Item_api_Item_766 fuel) _ _ _ _ _ _ _ _ _ _ kk).trans h)
  · cases h
def kp229 (i:Nat):Option (List Nat):=Ev.look i []
def Gg229 (f:Nat):Option Ev.Spec:=Ev.look f []
def G229 (fuel:Nat):Nat→Option Ev.Spec:=Gg229
def F_refine_Valid (fuel:Nat) (d a b:Int) (e:Bool) (c:Int) (k0:(Bool)→Option Ans):Option Ans:=bif d==0 then bif c==0 then bif decide ((bif decide (b < a) then b else a)≥(-200:Int)) then k0 (decide (Ev.imax (Ev.imax (Ev.imax a (i64.wrap (0 - a))) b) (i64.wrap (0 - b))≤200)) else k0 false else bif c==1 then bif decide ((bif decide (b < a) then b else a)≥(-200:Int)) then k0 (decide (Ev.imax (Ev.imax (Ev.imax a (i64.wrap (0 - a))) b) (i64.wrap (0 - b))≤200)) else k0 false else k0 false else bif d==1 then bif c==0 then bif decide ((bif decide (b < a) then b else a)≥(-200:Int)) then k0 (decide (Ev.imax (Ev.imax (Ev.imax a (i64.wrap (0 - a))) b) (i64.wrap (0 - b))≤200)) else k0 false else bif c==1 then bif decide ((bif decide (b < a) then b else a)≥(-200:Int)) then k0 (decide (Ev.imax (Ev.imax (Ev.imax a (i64.wrap (0 - a))) b) (i64.wrap (0 - b))≤200)) else k0 false else k0 false else k0 false
abbrev YF229:Type:=Int→Int→Int→Bool→Int→(Bool→Option Ans)→Option Ans
theorem F229_eq (fuel:Nat) (a b d:Int) (e:Bool) (f:Int) (k:Ev.Cont):evalFn tab (G229 fuel) J0 kp229 fuel Tryz.f229 [.agg [i6 a,i6 b,i6 d,.bool e,i6 f]] [] k=F_refine_Valid fuel a b d e f (fun r=>match r with | g=>k (.c (.bool g),[])):=by
  kernel_rfl
theorem hG229 (fuel:Nat):GOK Tryz.prog (G229 fuel):=
  gok_nil
def spg229 (F:YF229):Ev.Spec:=fun args objs k=>match args,objs with | [.agg [i6 a,i6 b,i6 d,.bool e,i6 f]],[]=>F a b d e f (fun r=>match r with | g=>k (.c (.bool g),[])) | _,_=>none
theorem ok229 (fuel:Nat):FnOK Tryz.prog 229 (spg229 (F_refine_Valid fuel)):=by
  intro args objs kk r h
  unfold spg229 at h
  split at h
  · skip
    exact fo0 (hG229 fuel) Tryz.func229 rfl (by kernel_rfl) _ _ kk r ((F229_eq fuel _ _ _ _ _ kk).trans h)
  · cases h
def kp230 (i:Nat):Option (List Nat):=Ev.look i [(200001,[3,5])]
def Gg230 (a:YF228) (f:Nat):Option Ev.Spec:=Ev.look f [(228,spg228 a)]
def G230 (fuel:Nat):Nat→Option Ev.Spec:=Gg230 (F_refine_contexts fuel)
def Fg_refine_fits (fuel:Nat) (b:YF228) (f:Int) (c:LI) (a d:Int) (g h:Int) (i:Bool) (j:Int) (k0:(Bool)→OA):OA:=bif decide (a≥0) then (b d (fun e=>k0 (decide (a≤i64.wrap (i64.wrap ((↑c.length:Int) - e) - 1))))) else k0 false
abbrev YF230:Type:=Int→LI→Int→Int→Int→Int→Bool→Int→(Bool→Option Ans)→Option Ans
def F_refine_fits (fuel:Nat):YF230:=Fg_refine_fits fuel (F_refine_contexts fuel)
theorem F230_eqg (fuel:Nat) (a:YF228) (b:Int) (d:LI) (e f:Int) (g h:Int) (i:Bool) (j:Int) (k:Ev.Cont):evalFn tab (Gg230 a) J0 kp230 fuel Tryz.f230 [.agg [i6 b,.sl (.int .i64) d],.c (i6 e),.agg [i6 f,i6 g,i6 h,.bool i,i6 j]] [] k=Fg_refine_fits fuel a b d e f g h i j (fun r=>match r with | l=>k (.c (.bool l),[])):=by
  kernel_rfl
theorem hG230 (fuel:Nat):GOK Tryz.prog (G230 fuel):=
  gc (ok228 fuel) Tryz.func228 (by kernel_rfl) rfl <|
  gok_nil
def spg230 (F:YF230):Ev.Spec:=fun args objs k=>match args,objs with | [.agg [i6 a,.sl (.int .i64) b],.c (i6 d),.agg [i6 e,i6 f,i6 g,.bool h,i6 i]],[]=>F a b d e f g h i (fun r=>match r with | j=>k (.c (.bool j),[])) | _,_=>none
theorem ok230 (fuel:Nat):FnOK Tryz.prog 230 (spg230 (F_refine_fits fuel)):=by
  intro args objs kk r h
  unfold spg230 at h
  split at h
  · skip
    exact fo0 (hG230 fuel) Tryz.func230 rfl (by kernel_rfl) _ _ kk r ((F230_eqg fuel (F_refine_contexts fuel) _ _ _ _ _ _ _ _ kk).trans h)
  · cases h
def kp235 (i:Nat):Option (List Nat):=Ev.look i []
def Gg235 (f:Nat):Option Ev.Spec:=Ev.look f []
def G235 (fuel:Nat):Nat→Option Ev.Spec:=Gg235
def F_refine_grid_at (fuel:Nat) (c e:Int) (d:(List Int)) (a b:Int) (k0:(Int)→Option Ans):Option Ans:=bif decide (a < 0) then k0 (0) else bif decide (b < 0) then k0 (0) else bif decide (a≥c) then k0 (0) else bif decide (b≥e) then k0 (0) else bif decide (0≤i64.wrap (i64.wrap (b*c)+a)∧i64.wrap (i64.wrap (b*c)+a) < (↑d.length:Int)) then k0 (d.getD (i64.wrap (i64.wrap (b*c)+a)).toNat 0) else none
abbrev YF235:Type:=Int→Int→LI→Int→Int→(Int→Option Ans)→Option Ans
theorem F235_eq (fuel:Nat) (a b:Int) (d:LI) (e f:Int) (k:Ev.Cont):evalFn tab (G235 fuel) J0 kp235 fuel Tryz.f235 [.agg [i6 a,i6 b,.sl (.int .u8) d],.c (i6 e),.c (i6 f)] [] k=F_refine_grid_at fuel a b d e f (fun r=>match r with | g=>k (.c (.int .u8 g),[])):=by
  kernel_rfl
theorem hG235 (fuel:Nat):GOK Tryz.prog (G235 fuel):=
  gok_nil
def spg235 (F:YF235):Ev.Spec:=fun args objs k=>match args,objs with | [.agg [i6 a,i6 b,.sl (.int .u8) d],.c (i6 e),.c (i6 f)],[]=>F a b d e f (fun r=>match r with | g=>k (.c (.int .u8 g),[])) | _,_=>none
theorem ok235 (fuel:Nat):FnOK Tryz.prog 235 (spg235 (F_refine_grid_at fuel)):=by
  intro args objs kk r h
  unfold spg235 at h
  split at h
  · skip
    exact fo0 (hG235 fuel) Tryz.func235 rfl (by kernel_rfl) _ _ kk r ((F235_eq fuel _ _ _ _ _ kk).trans h)
  · cases h
def kp231 (i:Nat):Option (List Nat):=Ev.look i []
def Gg231 (f:Nat):Option Ev.Spec:=Ev.look f []
def G231 (fuel:Nat):Nat→Option Ev.Spec:=Gg231
def F_refine_newRegion (fuel:Nat) (b c d:Int) (e:Bool) (f g h:Int) (i:(List Int)) (j k:Int) (a:(List Int)) (k0:(Int×Int×Int×Bool×Int×Int×Int×(List Int)×Int×Int×(List Int))→Option Ans):Option Ans:=k0 (b,c,d,e,f,g,h,i,j,k,a)
abbrev YF231:Type:=Int→Int→Int→Bool→Int→Int→Int→LI→Int→Int→LI→((Int×Int×Int×Bool×Int×Int×Int×LI×Int×Int×LI)→Option Ans)→Option Ans
theorem F231_eq (fuel:Nat) (b d e:Int) (f:Bool) (g h i:Int) (j:LI) (l m:Int) (a:LI) (k:Ev.Cont):evalFn tab (G231 fuel) J0 kp231 fuel Tryz.f231 [.agg [i6 b,i6 d,i6 e,.bool f,i6 g],.c (i6 h),.c (i6 i),.c (.sl (.int .u8) j),.agg [i6 l,i6 m,.sl (.int .u8) a]] [] k=F_refine_newRegion fuel b d e f g h i j l m a (fun r=>match r with | (o,p,q,s,t,u,v,w,x,y,n)=>k (.c (.ptr 0 0),[.cells 266 [i6 o,i6 p,i6 q,.bool s,i6 t,i6 u,i6 v,.sl (.int .u8) w,i6 x,i6 y,.sl (.int .u8) n]])):=by
  kernel_rfl
theorem hG231 (fuel:Nat):GOK Tryz.prog (G231 fuel):=
  gok_nil
def spg231 (F:YF231):Ev.Spec:=fun args objs k=>match args,objs with | [.agg [i6 d,i6 e,i6 f,.bool g,i6 h],.c (i6 i),.c (i6 j),.c (.sl (.int .u8) l),.agg [i6 m,i6 n,.sl (.int .u8) a]],[]=>F d e f g h i j l m n a (fun r=>match r with | (o,p,q,s,t,u,v,w,x,y,b)=>k (.c (.ptr 0 0),[.cells 266 [i6 o,i6 p,i6 q,.bool s,i6 t,i6 u,i6 v,.sl (.int .u8) w,i6 x,i6 y,.sl (.int .u8) b]])) | _,_=>none
theorem ok231 (fuel:Nat):FnOK Tryz.prog 231 (spg231 (F_refine_newRegion fuel)):=by
  intro args objs kk r h
  unfold spg231 at h
  split at h
  · skip
    exact fo0 (hG231 fuel) Tryz.func231 rfl (by kernel_rfl) _ _ kk r ((F231_eq fuel _ _ _ _ _ _ _ _ _ _ _ kk).trans h)
  · cases h
def kp250 (i:Nat):Option (List Nat):=Ev.look i []
def Gg250 (f:Nat):Option Ev.Spec:=Ev.look f []
def G250 (fuel:Nat):Nat→Option Ev.Spec:=Gg250
def F_refine_beside (fuel:Nat)  (k0:((List (Int×Int)))→Option Ans):Option Ans:=k0 ([(0,0),((-1:Int),0),(1,0),(0,(-1:Int)),(0,1)])
abbrev YF250:Type:=(((List (Int×Int)))→Option Ans)→Option Ans
theorem F250_eq (fuel:Nat)  (k:Ev.Cont):evalFn tab (G250 fuel) J0 kp250 fuel Tryz.f250 [] [] k=F_refine_beside fuel  (fun r=>match r with | a=>k (.c (.own 0),[.vec 76 (.pair (.int .i64) (.int .i64)) a true])):=by
  kernel_rfl
theorem hG250 (fuel:Nat):GOK Tryz.prog (G250 fuel):=
  gok_nil
def spg250 (F:YF250):Ev.Spec:=fun args objs k=>match args,objs with | [],[]=>F  (fun r=>match r with | a=>k (.c (.own 0),[.vec 76 (.pair (.int .i64) (.int .i64)) a true])) | _,_=>none
theorem ok250 (fuel:Nat):FnOK Tryz.prog 250 (spg250 (F_refine_beside fuel)):=by
  intro args objs kk r h
  unfold spg250 at h
  split at h
  · skip
    exact fo0 (hG250 fuel) Tryz.func250 rfl (by kernel_rfl) _ _ kk r ((F250_eq fuel kk).trans h)
  · cases h
def kp234_0d1 (i:Nat):Option (List Nat):=Ev.look i [(3,[0,1,2,7,17,18,19]),(8,[0,1,2,7,41,42,43]),(100000,[0,1,2,7]),(100002,[7]),(200005,[0,9]),(200010,[0,11]),(400000,[6]),(400002,[6])]
def Gg234_0d1 (a:YF235) (b:YF249) (c:YF250) (f:Nat):Option Ev.Spec:=Ev.look f [(235,spg235 a),(249,spg249 b),(250,spg250 c)]
def G234_0d1 (fuel:Nat):Nat→Option Ev.Spec:=Gg234_0d1 (F_refine_grid_at fuel) (F_refine_fresh fuel) (F_refine_beside fuel)
abbrev V_refine_region_context_0d1_0:Type:=Int×Int×Int×Int×Int×Int×Int×Int×Bool×Int×Int×Int×LI×Int×Int×LI×(List (Int×Int))
abbrev W_refine_region_context_0d1_0:Type:=(Int×Int×Int×Int×Int×Int×Bool×Int×Int×Int×LI×Int×Int×LI→OA)
def Sg_refine_region_context_0d1_0 (fuel:Nat) (t:YF235) (v:YF249) (w:YF250) (h i:Int) (m n:Int) (a o:Int) (p q:Int) (r:Bool) (s e f:Int) (g:LI) (j k:Int) (l:LI) (d:(List (Int×Int))) (c:V_refine_region_context_0d1_0→OA) (B:W_refine_region_context_0d1_0):OA:=match B with | b=>bif decide (a < n) then bif decide (0≤a∧a < (↑d.length:Int)) then (t e f g (i64.wrap (h+(d.getD a.toNat (0,0)).fst)) (i64.wrap (i+(d.getD a.toNat (0,0)).snd)) (fun u=>c (h,i,i64.wrap (i64.wrap (2*m)+i64.wrap u),n,i64.wrap (a+1),o,p,q,r,s,e,f,g,j,k,l,d))) else none else b (h,i,m,o,p,q,r,s,e,f,g,j,k,l)
def S_refine_region_context_0d1_0 (fuel:Nat) (v:Int×Int×Int×Int×Int×Int×Int×Int×Bool×Int×Int×Int×(List Int)×Int×Int×(List Int)×(List (Int×Int))) (c:(Int×Int×Int×Int×Int×Int×Int×Int×Bool×Int×Int×Int×(List Int)×Int×Int×(List Int)×(List (Int×Int)))→Option Ans) (B:(Int×Int×Int×Int×Int×Int×Bool×Int×Int×Int×(List Int)×Int×Int×(List Int)→Option Ans)):Option Ans:=match v with | (i,j,k,l,m,n,o,p,q,r,a,b,d,e,f,g,h)=>Sg_refine_region_context_0d1_0 fuel (F_refine_grid_at fuel) (F_refine_fresh fuel) (F_refine_beside fuel) i j k l m n o p q r a b d e f g h c B
def L_refine_region_context_0d1_0 (fuel:Nat) (v:V_refine_region_context_0d1_0) (b:W_refine_region_context_0d1_0):Option Ans:=iter (S_refine_region_context_0d1_0 fuel) fuel v b
def T234_0d1_0 (v:V_refine_region_context_0d1_0):Ev.St:=match v with | (i,j,k,l,m,n,o,p,q,r,a,b,d,e,f,g,h)=>⟨[(0,.c (.ptr 0 0)),(1,.c (i6 i)),(2,.c (i6 j)),(7,.c (i6 k)),(17,.c (.own 1)),(18,.c (i6 l)),(19,.c (i6 m))],[(0,.cells 266 [i6 n,i6 o,i6 p,.bool q,i6 r,i6 a,i6 b,.sl (.int .u8) d,i6 e,i6 f,.sl (.int .u8) g]),(1,.vec 76 (.pair (.int .i64) (.int .i64)) h true)],2,1⟩
def E234_0d1_0 (K:KT):W_refine_region_context_0d1_0:=(fun v=>match v with | (f,g,h,i,j,k,l,m,n,o,a,b,d,e)=>K .normal ⟨[(0,.c (.ptr 0 0)),(1,.c (i6 f)),(2,.c (i6 g)),(7,.c (i6 h))],[(0,.cells 266 [i6 i,i6 j,i6 k,.bool l,i6 m,i6 n,i6 o,.sl (.int .u8) a,i6 b,i6 d,.sl (.int .u8) e])],1,1⟩)
theorem S234_0d1_0_okg (fuel:Nat) (a:YF235) (b:YF249) (c:YF250) (R:Ev.St→OA) (K:KT) (k l:Int) (m n:Int) (o p:Int) (q r:Int) (s:Bool) (t d e:Int) (f:LI) (g h:Int) (i:LI) (j:(List (Int×Int))):evalCode tab (Gg234_0d1 a b c) J0 kp234_0d1 fuel (bodyOf 0 Tryz.f234) (T234_0d1_0 (k,l,m,n,o,p,q,r,s,t,d,e,f,g,h,i,j)) (lc kp234_0d1 3 0 R K)=Sg_refine_region_context_0d1_0 fuel a b c k l m n o p q r s t d e f g h i j (fun v=>R (T234_0d1_0 v)) (E234_0d1_0 K):=by
  kernel_rfl
def B234_0d1_0 (fuel:Nat):Ev.Blk:=fun st K=>match canonO (kp234_0d1 3) st with | some s=>(match s with | ⟨[(o,.c (.ptr p q)),(r,.c (i6 t)),(u,.c (i6 v)),(w,.c (i6 x)),(y,.c (.own z)),(A,.c (i6 B)),(C,.c (i6 D))],[(a,.cells b [i6 E,i6 F,i6 G,.bool H,i6 I,i6 d,i6 e,.sl (.int .u8) f,i6 g,i6 h,.sl (.int .u8) i]),(j,.vec k (.pair (.int .i64) (.int .i64)) l true)],m,n⟩=>bif qb [o,p,q,r,u,w,y,z,A,C,a,b,j,k,m,n] [0,0,0,1,2,7,17,1,18,19,0,266,1,76,2,1] then iter (S_refine_region_context_0d1_0 fuel) fuel (t,v,x,B,D,E,F,G,H,I,d,e,f,g,h,i,l) (E234_0d1_0 K) else none | _=>none) | none=>none
theorem B234_0d1_0_ok (fuel:Nat) (st:Ev.St) (K:KT) (r:Ans) (h:B234_0d1_0 fuel st K=some r):evalCode tab (G234_0d1 fuel) J0 kp234_0d1 fuel (.block 0 (.loop (bodyOf 0 Tryz.f234))) st K=some r:=by
  unfold B234_0d1_0 at h
  split at h
  · rename_i s hs
    split at h
    · skip
      obtain ⟨hb,h⟩:=cond_some' h
      cases qb_eq hb
      exact blk_loop (S:=T234_0d1_0) (ks:=E234_0d1_0) (step:=S_refine_region_context_0d1_0 fuel) (v:=(_,_,_,_,_,_,_,_,_,_,_,_,_,_,_,_,_)) (by kernel_rfl) (by kernel_rfl) (fun R K v=>by obtain ⟨i,j,k,l,m,n,o,p,q,t,a,b,c,d,e,f,g⟩:=v; exact S234_0d1_0_okg fuel (F_refine_grid_at fuel) (F_refine_fresh fuel) (F_refine_beside fuel) R K i j k l m n o p q t a b c d e f g) hs h
    · cases h
  · cases h
abbrev V_refine_region_context_0d1_2:Type:=Int×Int×Int×Int×Int×Int×Int×Int×Bool×Int×Int×Int×LI×Int×Int×LI×(List (Int×Int))
abbrev W_refine_region_context_0d1_2:Type:=(Int×Int×Int×Int×Bool×Int×Int×Int×LI×Int×Int×LI→OA)
def Sg_refine_region_context_0d1_2 (fuel:Nat) (t:YF235) (v:YF249) (w:YF250) (m n:Int) (o p:Int) (a q:Int) (h i:Int) (r:Bool) (s j k:Int) (l:LI) (e f:Int) (g:LI) (d:(List (Int×Int))) (c:V_refine_region_context_0d1_2→OA) (B:W_refine_region_context_0d1_2):OA:=match B with | b=>bif decide (a < p) then bif decide (0≤a∧a < (↑d.length:Int)) then (t e f g (i64.wrap (i64.wrap (m - h)+(d.getD a.toNat (0,0)).fst)) (i64.wrap (i64.wrap (n - i)+(d.getD a.toNat (0,0)).snd)) (fun u=>c (m,n,i64.wrap (i64.wrap (2*o)+i64.wrap u),p,i64.wrap (a+1),q,h,i,r,s,j,k,l,e,f,g,d))) else none else b (o,q,h,i,r,s,j,k,l,e,f,g)
def S_refine_region_context_0d1_2 (fuel:Nat) (v:Int×Int×Int×Int×Int×Int×Int×Int×Bool×Int×Int×Int×(List Int)×Int×Int×(List Int)×(List (Int×Int))) (c:(Int×Int×Int×Int×Int×Int×Int×Int×Bool×Int×Int×Int×(List Int)×Int×Int×(List Int)×(List (Int×Int)))→Option Ans) (B:(Int×Int×Int×Int×Bool×Int×Int×Int×(List Int)×Int×Int×(List Int)→Option Ans)):Option Ans:=match v with | (i,j,k,l,m,n,o,p,q,r,a,b,d,e,f,g,h)=>Sg_refine_region_context_0d1_2 fuel (F_refine_grid_at fuel) (F_refine_fresh fuel) (F_refine_beside fuel) i j k l m n o p q r a b d e f g h c B
def L_refine_region_context_0d1_2 (fuel:Nat) (v:V_refine_region_context_0d1_2) (b:W_refine_region_context_0d1_2):Option Ans:=iter (S_refine_region_context_0d1_2 fuel) fuel v b
def J234_0d1_2 (fuel:Nat) (i:Nat):Option Ev.Blk:=Ev.look i [(100000,B234_0d1_0 fuel)]
def T234_0d1_2 (v:V_refine_region_context_0d1_2):Ev.St:=match v with | (i,j,k,l,m,n,o,p,q,r,a,b,d,e,f,g,h)=>⟨[(0,.c (.ptr 0 0)),(1,.c (i6 i)),(2,.c (i6 j)),(7,.c (i6 k)),(41,.c (.own 1)),(42,.c (i6 l)),(43,.c (i6 m))],[(0,.cells 266 [i6 n,i6 o,i6 p,.bool q,i6 r,i6 a,i6 b,.sl (.int .u8) d,i6 e,i6 f,.sl (.int .u8) g]),(1,.vec 76 (.pair (.int .i64) (.int .i64)) h true)],2,1⟩
def E234_0d1_2 (K:KT):W_refine_region_context_0d1_2:=(fun v=>match v with | (d,e,f,g,h,i,j,k,l,m,a,b)=>K .normal ⟨[(7,.c (i6 d))],[(0,.cells 266 [i6 e,i6 f,i6 g,.bool h,i6 i,i6 j,i6 k,.sl (.int .u8) l,i6 m,i6 a,.sl (.int .u8) b])],1,1⟩)
theorem S234_0d1_2_okg (fuel:Nat) (a:YF235) (b:YF249) (c:YF250) (R:Ev.St→OA) (K:KT) (k l:Int) (m n:Int) (o p:Int) (q r:Int) (s:Bool) (t d e:Int) (f:LI) (g h:Int) (i:LI) (j:(List (Int×Int))):evalCode tab (Gg234_0d1 a b c) (J234_0d1_2 fuel) kp234_0d1 fuel (bodyOf 2 Tryz.f234) (T234_0d1_2 (k,l,m,n,o,p,q,r,s,t,d,e,f,g,h,i,j)) (lc kp234_0d1 8 2 R K)=Sg_refine_region_context_0d1_2 fuel a b c k l m n o p q r s t d e f g h i j (fun v=>R (T234_0d1_2 v)) (E234_0d1_2 K):=by
  kernel_rfl
def B234_0d1_2 (fuel:Nat):Ev.Blk:=fun st K=>match canonO (kp234_0d1 8) st with | some s=>(match s with | ⟨[(o,.c (.ptr p q)),(r,.c (i6 t)),(u,.c (i6 v)),(w,.c (i6 x)),(y,.c (.own z)),(A,.c (i6 B)),(C,.c (i6 D))],[(a,.cells b [i6 E,i6 F,i6 G,.bool H,i6 I,i6 d,i6 e,.sl (.int .u8) f,i6 g,i6 h,.sl (.int .u8) i]),(j,.vec k (.pair (.int .i64) (.int .i64)) l true)],m,n⟩=>bif qb [o,p,q,r,u,w,y,z,A,C,a,b,j,k,m,n] [0,0,0,1,2,7,41,1,42,43,0,266,1,76,2,1] then iter (S_refine_region_context_0d1_2 fuel) fuel (t,v,x,B,D,E,F,G,H,I,d,e,f,g,h,i,l) (E234_0d1_2 K) else none | _=>none) | none=>none
theorem B234_0d1_2_ok (fuel:Nat) (st:Ev.St) (K:KT) (r:Ans) (h:B234_0d1_2 fuel st K=some r):evalCode tab (G234_0d1 fuel) (J234_0d1_2 fuel) kp234_0d1 fuel (.block 2 (.loop (bodyOf 2 Tryz.f234))) st K=some r:=by
  unfold B234_0d1_2 at h
  split at h
  · rename_i s hs
    split at h
    · skip
      obtain ⟨hb,h⟩:=cond_some' h
      cases qb_eq hb
      exact blk_loop (S:=T234_0d1_2) (ks:=E234_0d1_2) (step:=S_refine_region_context_0d1_2 fuel) (v:=(_,_,_,_,_,_,_,_,_,_,_,_,_,_,_,_,_)) (by kernel_rfl) (by kernel_rfl) (fun R K v=>by obtain ⟨i,j,k,l,m,n,o,p,q,t,a,b,c,d,e,f,g⟩:=v; exact S234_0d1_2_okg fuel (F_refine_grid_at fuel) (F_refine_fresh fuel) (F_refine_beside fuel) R K i j k l m n o p q t a b c d e f g) hs h
    · cases h
  · cases h
def J234_0d1 (fuel:Nat) (i:Nat):Option Ev.Blk:=Ev.look i [(100000,B234_0d1_0 fuel),(100002,B234_0d1_2 fuel)]
def Fg_refine_region_context_0d1 (fuel:Nat) (R:YF235) (j:YF249) (k:YF250) (I J:Int) (b K L:Int) (M:Bool) (N O P:Int) (Q:LI) (F G:Int) (H:LI) (k0:(Int×Int×Int×Int×Bool×Int×Int×Int×LI×Int×Int×LI)→OA):OA:=(j b (fun c=>(L_refine_region_context_0d1_0 fuel (I,J,0,(↑c.length:Int),0,b,K,L,M,N,O,P,Q,F,G,H,c) (fun (l,m,n,o,p,q,r,s,t,u,d,e,f,g)=>(k (fun a=>(L_refine_region_context_0d1_2 fuel (l,m,n,(↑a.length:Int),0,o,p,q,r,s,t,u,d,e,f,g,a) (fun (v,w,x,y,z,A,B,C,D,E,h,i)=>k0 (v,w,x,y,z,A,B,C,D,E,h,i)))))))))
abbrev YF234_0d1:Type:=Int→Int→Int→Int→Int→Bool→Int→Int→Int→LI→Int→Int→LI→((Int×Int×Int×Int×Bool×Int×Int×Int×LI×Int×Int×LI)→Option Ans)→Option Ans
def F_refine_region_context_0d1 (fuel:Nat):YF234_0d1:=Fg_refine_region_context_0d1 fuel (F_refine_grid_at fuel) (F_refine_fresh fuel) (F_refine_beside fuel)
theorem F234_0d1_eqg (fuel:Nat) (a:YF235) (b:YF249) (d:YF250) (h i:Int) (j l m:Int) (n:Bool) (o p q:Int) (s:LI) (e f:Int) (g:LI) (k:Ev.Cont):evalFn tab (Gg234_0d1 a b d) (J234_0d1 fuel) kp234_0d1 fuel Tryz.f234 [.c (.ptr 0 0),.c (i6 h),.c (i6 i)] [.cells 266 [i6 j,i6 l,i6 m,.bool n,i6 o,i6 p,i6 q,.sl (.int .u8) s,i6 e,i6 f,.sl (.int .u8) g]] k=Fg_refine_region_context_0d1 fuel a b d h i j l m n o p q s e f g (fun r=>match r with | (v,w,x,y,z,A,B,C,D,E,t,u)=>k (.c (i6 v),[.cells 266 [i6 w,i6 x,i6 y,.bool z,i6 A,i6 B,i6 C,.sl (.int .u8) D,i6 E,i6 t,.sl (.int .u8) u]])):=by
  kernel_rfl
theorem hG234_0d1 (fuel:Nat):GOK Tryz.prog (G234_0d1 fuel):=
  gc (ok235 fuel) Tryz.func235 (by kernel_rfl) rfl <|
  gc (ok249 fuel) Tryz.func249 (by kernel_rfl) rfl <|
  gc (ok250 fuel) Tryz.func250 (by kernel_rfl) rfl <|
  gok_nil
theorem B234_0d1_0_blk (fuel:Nat):BlkOK Tryz.prog Tryz.f234.ntmps (.block 0 (.loop (bodyOf 0 Tryz.f234))) (B234_0d1_0 fuel):=bo0 (hG234_0d1 fuel) (by kernel_rfl) (by kernel_rfl) (B234_0d1_0_ok fuel)
theorem B234_0d1_2_blk (fuel:Nat):BlkOK Tryz.prog Tryz.f234.ntmps (.block 2 (.loop (bodyOf 2 Tryz.f234))) (B234_0d1_2 fuel):=bo0 (hG234_0d1 fuel) (by kernel_rfl) (by kernel_rfl) (B234_0d1_2_ok fuel)
theorem fok234_0d1 (fuel:Nat):FnOK Tryz.prog 234 (evalFn tab (G234_0d1 fuel) (J234_0d1 fuel) kp234_0d1 fuel Tryz.f234):=
  fn_ok tab_ok (hG234_0d1 fuel) mixed Tryz.func234 (c:=(Tryz.f234.body).getD .skip) rfl (fun q hq=>by
    rw [(by kernel_rfl:obl (J234_0d1 fuel) ((Tryz.f234.body).getD .skip)= [(.block 0 (.loop (bodyOf 0 Tryz.f234)),B234_0d1_0 fuel),(.block 2 (.loop (bodyOf 2 Tryz.f234)),B234_0d1_2 fuel)])] at hq
    simp only [List.mem_cons,List.not_mem_nil,or_false] at hq
    rcases hq with rfl | rfl
    · exact B234_0d1_0_blk fuel
    · exact B234_0d1_2_blk fuel)
def spg234_0d1 (F:YF234_0d1):Ev.Spec:=fun args objs k=>match args,objs with | [.c (.ptr g h),.c (i6 i),.c (i6 j)],[.cells l [i6 m,i6 n,i6 o,.bool p,i6 q,i6 s,i6 t,.sl (.int .u8) u,i6 a,i6 b,.sl (.int .u8) d]]=>bif qb [g,h,l] [0,0,266] then F i j m n o p q s t u a b d (fun r=>match r with | (v,w,x,y,z,A,B,C,D,E,e,f)=>k (.c (i6 v),[.cells 266 [i6 w,i6 x,i6 y,.bool z,i6 A,i6 B,i6 C,.sl (.int .u8) D,i6 E,i6 e,.sl (.int .u8) f]])) else none | _,_=>none
theorem ok234_0d1 (fuel:Nat):FnOK Tryz.prog 234 (spg234_0d1 (F_refine_region_context_0d1 fuel)):=by
  intro args objs kk r h
  unfold spg234_0d1 at h
  split at h
  · skip
    obtain ⟨hb,h⟩:=cond_some' h
    cases qb_eq hb
    exact fok234_0d1 fuel _ _ kk r ((F234_0d1_eqg fuel (F_refine_grid_at fuel) (F_refine_fresh fuel) (F_refine_beside fuel) _ _ _ _ _ _ _ _ _ _ _ _ _ kk).trans h)
  · cases h
def kp233_0d1 (i:Nat):Option (List Nat):=Ev.look i [(3,[0,1,2,8,29]),(100000,[8]),(200001,[0]),(200005,[0]),(400000,[6,7])]
def Gg233_0d1 (a:YF235) (f:Nat):Option Ev.Spec:=Ev.look f [(235,spg235 a)]
def G233_0d1 (fuel:Nat):Nat→Option Ev.Spec:=Gg233_0d1 (F_refine_grid_at fuel)
abbrev V_refine_region_flat_0d1_0:Type:=Int×Int×Int×Int×Int×Int×Int×Bool×Int×Int×Int×LI×Int×Int×LI
abbrev W_refine_region_flat_0d1_0:Type:=(Int×Bool×Int×Int×Int×Bool×Int×Int×Int×LI×Int×Int×LI→OA)×(Int×Int×Int×Int×Bool×Int×Int×Int×LI×Int×Int×LI→OA)
def Sg_refine_region_flat_0d1_0 (fuel:Nat) (r:YF235) (p q:Int) (k f:Int) (l g h:Int) (m:Bool) (n o i:Int) (j:LI) (a d:Int) (e:LI) (c:V_refine_region_flat_0d1_0→OA) (B:W_refine_region_flat_0d1_0):OA:=match B with | (ret,b)=>bif decide (f < 9) then (r a d e (i64.wrap (i64.wrap (i64.wrap (p - g)+f.tmod 3) - 1)) (i64.wrap (i64.wrap (i64.wrap (q - h)+i64.wrap (f.tdiv 3)) - 1)) (fun s=>bif s != k then ret (0,false,l,g,h,m,n,o,i,j,a,d,e) else c (p,q,k,i64.wrap (f+1),l,g,h,m,n,o,i,j,a,d,e))) else b (k,l,g,h,m,n,o,i,j,a,d,e)
def S_refine_region_flat_0d1_0 (fuel:Nat) (v:Int×Int×Int×Int×Int×Int×Int×Bool×Int×Int×Int×(List Int)×Int×Int×(List Int)) (c:(Int×Int×Int×Int×Int×Int×Int×Bool×Int×Int×Int×(List Int)×Int×Int×(List Int))→Option Ans) (B:(Int×Bool×Int×Int×Int×Bool×Int×Int×Int×(List Int)×Int×Int×(List Int)→Option Ans)×(Int×Int×Int×Int×Bool×Int×Int×Int×(List Int)×Int×Int×(List Int)→Option Ans)):Option Ans:=match v with | (g,h,i,j,k,l,m,n,o,p,a,b,d,e,f)=>Sg_refine_region_flat_0d1_0 fuel (F_refine_grid_at fuel) g h i j k l m n o p a b d e f c B
def L_refine_region_flat_0d1_0 (fuel:Nat) (v:V_refine_region_flat_0d1_0) (ret:(Int×Bool×Int×Int×Int×Bool×Int×Int×Int×(List Int)×Int×Int×(List Int)→Option Ans)) (b:(Int×Int×Int×Int×Bool×Int×Int×Int×(List Int)×Int×Int×(List Int)→Option Ans)):Option Ans:=iter (S_refine_region_flat_0d1_0 fuel) fuel v (ret,b)
def T233_0d1_0 (v:V_refine_region_flat_0d1_0):Ev.St:=match v with | (g,h,i,j,k,l,m,n,o,p,a,b,d,e,f)=>⟨[(0,.c (.ptr 0 0)),(1,.c (i6 g)),(2,.c (i6 h)),(8,.c (.int .u8 i)),(29,.c (i6 j))],[(0,.cells 266 [i6 k,i6 l,i6 m,.bool n,i6 o,i6 p,i6 a,.sl (.int .u8) b,i6 d,i6 e,.sl (.int .u8) f])],1,1⟩
def E233_0d1_0 (K:KT):W_refine_region_flat_0d1_0:=((fun v=>match v with | (d,e,f,g,h,i,j,k,l,m,a,b,n)=>K .ret ⟨[(6,.c (.int .u8 d)),(7,.c (.bool e))],[(0,.cells 266 [i6 f,i6 g,i6 h,.bool i,i6 j,i6 k,i6 l,.sl (.int .u8) m,i6 a,i6 b,.sl (.int .u8) n])],1,1⟩),(fun v=>match v with | (d,e,f,g,h,i,j,k,l,m,a,b)=>K .normal ⟨[(8,.c (.int .u8 d))],[(0,.cells 266 [i6 e,i6 f,i6 g,.bool h,i6 i,i6 j,i6 k,.sl (.int .u8) l,i6 m,i6 a,.sl (.int .u8) b])],1,1⟩))
theorem S233_0d1_0_okg (fuel:Nat) (a:YF235) (R:Ev.St→OA) (K:KT) (g h:Int) (i j:Int) (k l m:Int) (n:Bool) (o p b:Int) (c:LI) (d e:Int) (f:LI):evalCode tab (Gg233_0d1 a) J0 kp233_0d1 fuel (bodyOf 0 Tryz.f233) (T233_0d1_0 (g,h,i,j,k,l,m,n,o,p,b,c,d,e,f)) (lc kp233_0d1 3 0 R K)=Sg_refine_region_flat_0d1_0 fuel a g h i j k l m n o p b c d e f (fun v=>R (T233_0d1_0 v)) (E233_0d1_0 K):=by
  kernel_rfl
def B233_0d1_0 (fuel:Nat):Ev.Blk:=fun st K=>match canonO (kp233_0d1 3) st with | some s=>(match s with | ⟨[(h,.c (.ptr i j)),(k,.c (i6 l)),(m,.c (i6 n)),(o,.c (.int .u8 p)),(q,.c (i6 r))],[(t,.cells u [i6 v,i6 w,i6 x,.bool y,i6 z,i6 A,i6 a,.sl (.int .u8) b,i6 d,i6 e,.sl (.int .u8) f])],B,g⟩=>bif qb [h,i,j,k,m,o,q,t,u,B,g] [0,0,0,1,2,8,29,0,266,1,1] then iter (S_refine_region_flat_0d1_0 fuel) fuel (l,n,p,r,v,w,x,y,z,A,a,b,d,e,f) (E233_0d1_0 K) else none | _=>none) | none=>none
theorem B233_0d1_0_ok (fuel:Nat) (st:Ev.St) (K:KT) (r:Ans) (h:B233_0d1_0 fuel st K=some r):evalCode tab (G233_0d1 fuel) J0 kp233_0d1 fuel (.block 0 (.loop (bodyOf 0 Tryz.f233))) st K=some r:=by
  unfold B233_0d1_0 at h
  split at h
  · rename_i s hs
    split at h
    · skip
      obtain ⟨hb,h⟩:=cond_some' h
      cases qb_eq hb
      exact blk_loop (S:=T233_0d1_0) (ks:=E233_0d1_0) (step:=S_refine_region_flat_0d1_0 fuel) (v:=(_,_,_,_,_,_,_,_,_,_,_,_,_,_,_)) (by kernel_rfl) (by kernel_rfl) (fun R K v=>by obtain ⟨f,g,i,j,k,l,m,n,o,p,a,b,c,d,e⟩:=v; exact S233_0d1_0_okg fuel (F_refine_grid_at fuel) R K f g i j k l m n o p a b c d e) hs h
    · cases h
  · cases h
def J233_0d1 (fuel:Nat) (i:Nat):Option Ev.Blk:=Ev.look i [(100000,B233_0d1_0 fuel)]
def Fg_refine_region_flat_0d1 (fuel:Nat) (j:YF235) (d e:Int) (u f g:Int) (v:Bool) (w x y:Int) (z:LI) (a b:Int) (c:LI) (k0:(Int×Bool×Int×Int×Int×Bool×Int×Int×Int×LI×Int×Int×LI)→OA):OA:=(j a b c (i64.wrap (d - f)) (i64.wrap (e - g)) (fun A=>(L_refine_region_flat_0d1_0 fuel (d,e,A,0,u,f,g,v,w,x,y,z,a,b,c) (fun (ret0_0,ret0_1,ret0_2,ret0_3,ret0_4,ret0_5,ret0_6,ret0_7,ret0_8,ret0_9,ret0_10,ret0_11,ret0_12)=>k0 (ret0_0,ret0_1,ret0_2,ret0_3,ret0_4,ret0_5,ret0_6,ret0_7,ret0_8,ret0_9,ret0_10,ret0_11,ret0_12)) (fun (k,l,m,n,o,p,q,r,s,t,h,i)=>k0 (k,true,l,m,n,o,p,q,r,s,t,h,i)))))
abbrev YF233_0d1:Type:=Int→Int→Int→Int→Int→Bool→Int→Int→Int→LI→Int→Int→LI→((Int×Bool×Int×Int×Int×Bool×Int×Int×Int×LI×Int×Int×LI)→Option Ans)→Option Ans
def F_refine_region_flat_0d1 (fuel:Nat):YF233_0d1:=Fg_refine_region_flat_0d1 fuel (F_refine_grid_at fuel)
theorem F233_0d1_eqg (fuel:Nat) (a:YF235) (f g:Int) (h i j:Int) (l:Bool) (m n o:Int) (p:LI) (b d:Int) (e:LI) (k:Ev.Cont):evalFn tab (Gg233_0d1 a) (J233_0d1 fuel) kp233_0d1 fuel Tryz.f233 [.c (.ptr 0 0),.c (i6 f),.c (i6 g)] [.cells 266 [i6 h,i6 i,i6 j,.bool l,i6 m,i6 n,i6 o,.sl (.int .u8) p,i6 b,i6 d,.sl (.int .u8) e]] k=Fg_refine_region_flat_0d1 fuel a f g h i j l m n o p b d e (fun r=>match r with | (u,v,w,x,y,z,A,B,C,D,q,s,t)=>k (.tup [(false,[.int .u8 u]),(false,[.bool v])],[.cells 266 [i6 w,i6 x,i6 y,.bool z,i6 A,i6 B,i6 C,.sl (.int .u8) D,i6 q,i6 s,.sl (.int .u8) t]])):=by
  kernel_rfl
theorem hG233_0d1 (fuel:Nat):GOK Tryz.prog (G233_0d1 fuel):=
  gc (ok235 fuel) Tryz.func235 (by kernel_rfl) rfl <|
  gok_nil
theorem B233_0d1_0_blk (fuel:Nat):BlkOK Tryz.prog Tryz.f233.ntmps (.block 0 (.loop (bodyOf 0 Tryz.f233))) (B233_0d1_0 fuel):=bo0 (hG233_0d1 fuel) (by kernel_rfl) (by kernel_rfl) (B233_0d1_0_ok fuel)
def spg233_0d1 (F:YF233_0d1):Ev.Spec:=fun args objs k=>match args,objs with | [.c (.ptr h i),.c (i6 j),.c (i6 l)],[.cells m [i6 n,i6 o,i6 p,.bool q,i6 s,i6 t,i6 u,.sl (.int .u8) v,i6 a,i6 b,.sl (.int .u8) d]]=>bif qb [h,i,m] [0,0,266] then F j l n o p q s t u v a b d (fun r=>match r with | (w,x,y,z,A,B,C,D,E,G,e,f,g)=>k (.tup [(false,[.int .u8 w]),(false,[.bool x])],[.cells 266 [i6 y,i6 z,i6 A,.bool B,i6 C,i6 D,i6 E,.sl (.int .u8) G,i6 e,i6 f,.sl (.int .u8) g]])) else none | _,_=>none
theorem ok233_0d1 (fuel:Nat):FnOK Tryz.prog 233 (spg233_0d1 (F_refine_region_flat_0d1 fuel)):=by
  intro args objs kk r h
  unfold spg233_0d1 at h
  split at h
  · skip
    obtain ⟨hb,h⟩:=cond_some' h
    cases qb_eq hb
    exact fo1 (hG233_0d1 fuel) Tryz.func233 rfl (B233_0d1_0_blk fuel) (by kernel_rfl) _ _ kk r ((F233_0d1_eqg fuel (F_refine_grid_at fuel) _ _ _ _ _ _ _ _ _ _ _ _ _ kk).trans h)
  · cases h
def kp232_1c7 (i:Nat):Option (List Nat):=Ev.look i [(2,[0,1,12,13]),(100000,[]),(400000,[4])]
def Gg232_1c7 (a:YF233_0d1) (b:YF235) (f:Nat):Option Ev.Spec:=Ev.look f [(233,spg233_0d1 a),(235,spg235 b)]
def G232_1c7 (fuel:Nat):Nat→Option Ev.Spec:=Gg232_1c7 (F_refine_region_flat_0d1 fuel) (F_refine_grid_at fuel)
abbrev V_refine_region_typical_1c7_0:Type:=Int×Int×Int×Int×Int×Int×Bool×Int×Int×Int×LI×Int×Int×LI
abbrev W_refine_region_typical_1c7_0:Type:=(Bool×Int×Int×Int×Bool×Int×Int×Int×LI×Int×Int×LI→OA)×(Int×Int×Int×Bool×Int×Int×Int×LI×Int×Int×LI→OA)
def Sg_refine_region_typical_1c7_0 (fuel:Nat) (C:YF233_0d1) (D:YF235) (g p:Int) (a u:Int) (v w:Int) (x:Bool) (y z A:Int) (q:LI) (r s:Int) (t:LI) (c:V_refine_region_typical_1c7_0→OA) (B:W_refine_region_typical_1c7_0):OA:=match B with | (ret,b)=>bif decide (a < p) then (C a g u v w x y z A q r s t (fun (E,F,k,l,m,n,o,d,e,f,h,i,j)=>bif F then (D d e f a g (fun G=>bif E != G then ret (false,k,l,m,n,o,d,e,f,h,i,j) else c (g,p,i64.wrap (a+1),k,l,m,n,o,d,e,f,h,i,j))) else c (g,p,i64.wrap (a+1),k,l,m,n,o,d,e,f,h,i,j))) else b (u,v,w,x,y,z,A,q,r,s,t)
def S_refine_region_typical_1c7_0 (fuel:Nat) (v:Int×Int×Int×Int×Int×Int×Bool×Int×Int×Int×(List Int)×Int×Int×(List Int)) (c:(Int×Int×Int×Int×Int×Int×Bool×Int×Int×Int×(List Int)×Int×Int×(List Int))→Option Ans) (B:(Bool×Int×Int×Int×Bool×Int×Int×Int×(List Int)×Int×Int×(List Int)→Option Ans)×(Int×Int×Int×Bool×Int×Int×Int×(List Int)×Int×Int×(List Int)→Option Ans)):Option Ans:=match v with | (f,g,h,i,j,k,l,m,n,o,a,b,d,e)=>Sg_refine_region_typical_1c7_0 fuel (F_refine_region_flat_0d1 fuel) (F_refine_grid_at fuel) f g h i j k l m n o a b d e c B
def L_refine_region_typical_1c7_0 (fuel:Nat) (v:V_refine_region_typical_1c7_0) (ret:(Bool×Int×Int×Int×Bool×Int×Int×Int×(List Int)×Int×Int×(List Int)→Option Ans)) (b:(Int×Int×Int×Bool×Int×Int×Int×(List Int)×Int×Int×(List Int)→Option Ans)):Option Ans:=iter (S_refine_region_typical_1c7_0 fuel) fuel v (ret,b)
def T232_1c7_0 (v:V_refine_region_typical_1c7_0):Ev.St:=match v with | (f,g,h,i,j,k,l,m,n,o,a,b,d,e)=>⟨[(0,.c (.ptr 0 0)),(1,.c (i6 f)),(12,.c (i6 g)),(13,.c (i6 h))],[(0,.cells 266 [i6 i,i6 j,i6 k,.bool l,i6 m,i6 n,i6 o,.sl (.int .u8) a,i6 b,i6 d,.sl (.int .u8) e])],1,1⟩
def E232_1c7_0 (K:KT):W_refine_region_typical_1c7_0:=((fun v=>match v with | (b,d,e,f,g,h,i,j,k,l,a,m)=>K .ret ⟨[(4,.c (.bool b))],[(0,.cells 266 [i6 d,i6 e,i6 f,.bool g,i6 h,i6 i,i6 j,.sl (.int .u8) k,i6 l,i6 a,.sl (.int .u8) m])],1,1⟩),(fun v=>match v with | (b,d,e,f,g,h,i,j,k,l,a)=>K .normal ⟨[],[(0,.cells 266 [i6 b,i6 d,i6 e,.bool f,i6 g,i6 h,i6 i,.sl (.int .u8) j,i6 k,i6 l,.sl (.int .u8) a])],1,1⟩))
theorem S232_1c7_0_okg (fuel:Nat) (a:YF233_0d1) (b:YF235) (R:Ev.St→OA) (K:KT) (g h:Int) (i j:Int) (k l:Int) (m:Bool) (n o p:Int) (c:LI) (d e:Int) (f:LI):evalCode tab (Gg232_1c7 a b) J0 kp232_1c7 fuel (bodyOf 0 Tryz.f232) (T232_1c7_0 (g,h,i,j,k,l,m,n,o,p,c,d,e,f)) (lc kp232_1c7 2 0 R K)=Sg_refine_region_typical_1c7_0 fuel a b g h i j k l m n o p c d e f (fun v=>R (T232_1c7_0 v)) (E232_1c7_0 K):=by
  kernel_rfl
def B232_1c7_0 (fuel:Nat):Ev.Blk:=fun st K=>match canonO (kp232_1c7 2) st with | some s=>(match s with | ⟨[(f,.c (.ptr g h)),(i,.c (i6 j)),(k,.c (i6 l)),(m,.c (i6 n))],[(o,.cells p [i6 q,i6 r,i6 t,.bool u,i6 v,i6 w,i6 x,.sl (.int .u8) a,i6 b,i6 d,.sl (.int .u8) e])],y,z⟩=>bif qb [f,g,h,i,k,m,o,p,y,z] [0,0,0,1,12,13,0,266,1,1] then iter (S_refine_region_typical_1c7_0 fuel) fuel (j,l,n,q,r,t,u,v,w,x,a,b,d,e) (E232_1c7_0 K) else none | _=>none) | none=>none
theorem B232_1c7_0_ok (fuel:Nat) (st:Ev.St) (K:KT) (r:Ans) (h:B232_1c7_0 fuel st K=some r):evalCode tab (G232_1c7 fuel) J0 kp232_1c7 fuel (.block 0 (.loop (bodyOf 0 Tryz.f232))) st K=some r:=by
  unfold B232_1c7_0 at h
  split at h
  · rename_i s hs
    split at h
    · skip
      obtain ⟨hb,h⟩:=cond_some' h
      cases qb_eq hb
      exact blk_loop (S:=T232_1c7_0) (ks:=E232_1c7_0) (step:=S_refine_region_typical_1c7_0 fuel) (v:=(_,_,_,_,_,_,_,_,_,_,_,_,_,_)) (by kernel_rfl) (by kernel_rfl) (fun R K v=>by obtain ⟨e,f,g,i,j,k,l,m,n,o,a,b,c,d⟩:=v; exact S232_1c7_0_okg fuel (F_refine_region_flat_0d1 fuel) (F_refine_grid_at fuel) R K e f g i j k l m n o a b c d) hs h
    · cases h
  · cases h
def J232_1c7 (fuel:Nat) (i:Nat):Option Ev.Blk:=Ev.look i [(100000,B232_1c7_0 fuel)]
def Fg_refine_region_typical_1c7 (fuel:Nat) (x:YF233_0d1) (y:YF235) (o p:Int) (q r:Int) (s:Bool) (t a u:Int) (v:LI) (w m:Int) (n:LI) (k0:(Bool×Int×Int×Int×Bool×Int×Int×Int×LI×Int×Int×LI)→OA):OA:=(L_refine_region_typical_1c7_0 fuel (o,a,0,p,q,r,s,t,a,u,v,w,m,n) (fun (ret0_0,ret0_1,ret0_2,ret0_3,ret0_4,ret0_5,ret0_6,ret0_7,ret0_8,ret0_9,ret0_10,ret0_11)=>k0 (ret0_0,ret0_1,ret0_2,ret0_3,ret0_4,ret0_5,ret0_6,ret0_7,ret0_8,ret0_9,ret0_10,ret0_11)) (fun (c,d,e,f,g,h,i,j,k,l,b)=>k0 (true,c,d,e,f,g,h,i,j,k,l,b)))
abbrev YF232_1c7:Type:=Int→Int→Int→Int→Bool→Int→Int→Int→LI→Int→Int→LI→((Bool×Int×Int×Int×Bool×Int×Int×Int×LI×Int×Int×LI)→Option Ans)→Option Ans
def F_refine_region_typical_1c7 (fuel:Nat):YF232_1c7:=Fg_refine_region_typical_1c7 fuel (F_refine_region_flat_0d1 fuel) (F_refine_grid_at fuel)
theorem F232_1c7_eqg (fuel:Nat) (a:YF233_0d1) (b:YF235) (f g:Int) (h i:Int) (j:Bool) (l m n:Int) (o:LI) (p d:Int) (e:LI) (k:Ev.Cont):evalFn tab (Gg232_1c7 a b) (J232_1c7 fuel) kp232_1c7 fuel Tryz.f232 [.c (.ptr 0 0),.c (i6 f)] [.cells 266 [i6 g,i6 h,i6 i,.bool j,i6 l,i6 m,i6 n,.sl (.int .u8) o,i6 p,i6 d,.sl (.int .u8) e]] k=Fg_refine_region_typical_1c7 fuel a b f g h i j l m n o p d e (fun r=>match r with | (t,u,v,w,x,y,z,A,B,C,q,s)=>k (.c (.bool t),[.cells 266 [i6 u,i6 v,i6 w,.bool x,i6 y,i6 z,i6 A,.sl (.int .u8) B,i6 C,i6 q,.sl (.int .u8) s]])):=by
  kernel_rfl
theorem hG232_1c7 (fuel:Nat):GOK Tryz.prog (G232_1c7 fuel):=
  gc (ok233_0d1 fuel) Tryz.func233 (by kernel_rfl) rfl <|
  gc (ok235 fuel) Tryz.func235 (by kernel_rfl) rfl <|
  gok_nil
theorem B232_1c7_0_blk (fuel:Nat):BlkOK Tryz.prog Tryz.f232.ntmps (.block 0 (.loop (bodyOf 0 Tryz.f232))) (B232_1c7_0 fuel):=bo0 (hG232_1c7 fuel) (by kernel_rfl) (by kernel_rfl) (B232_1c7_0_ok fuel)
def spg232_1c7 (F:YF232_1c7):Ev.Spec:=fun args objs k=>match args,objs with | [.c (.ptr f g),.c (i6 h)],[.cells i [i6 j,i6 l,i6 m,.bool n,i6 o,i6 p,i6 q,.sl (.int .u8) s,i6 t,i6 a,.sl (.int .u8) b]]=>bif qb [f,g,i] [0,0,266] then F h j l m n o p q s t a b (fun r=>match r with | (u,v,w,x,y,z,A,B,C,D,d,e)=>k (.c (.bool u),[.cells 266 [i6 v,i6 w,i6 x,.bool y,i6 z,i6 A,i6 B,.sl (.int .u8) C,i6 D,i6 d,.sl (.int .u8) e]])) else none | _,_=>none
theorem ok232_1c7 (fuel:Nat):FnOK Tryz.prog 232 (spg232_1c7 (F_refine_region_typical_1c7 fuel)):=by
  intro args objs kk r h
  unfold spg232_1c7 at h
  split at h
  · skip
    obtain ⟨hb,h⟩:=cond_some' h
    cases qb_eq hb
    exact fo1 (hG232_1c7 fuel) Tryz.func232 rfl (B232_1c7_0_blk fuel) (by kernel_rfl) _ _ kk r ((F232_1c7_eqg fuel (F_refine_region_flat_0d1 fuel) (F_refine_grid_at fuel) _ _ _ _ _ _ _ _ _ _ _ _ kk).trans h)
  · cases h
end
end Go.Proofs.YtipdidpalcmlhaaGreat

