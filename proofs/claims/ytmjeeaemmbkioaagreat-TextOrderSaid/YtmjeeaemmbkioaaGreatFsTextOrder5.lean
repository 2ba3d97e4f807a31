/- What the functions that TextOrder reaches do: their typed texts, each with the proof that the machine does it. No condition. -/
import Derived.Test.YtmjeeaemmbkioaaGreatEvX
import Derived.Test.YtmjeeaemmbkioaaGreatFsTextOrder4
import Derived.Test.YtmjeeaemmbkioaaGreatFsTextOrder3
import Derived.Test.YtmjeeaemmbkioaaGreatFsTextOrder1
set_option linter.unusedVariables false
set_option linter.unusedSimpArgs false
set_option linter.unusedSectionVars false
set_option linter.unusedVariables false
set_option linter.unusedSimpArgs false
set_option maxRecDepth 100000
set_option maxHeartbeats 2000000
namespace Go.Proofs.YtmjeeaemmbkioaaGreat
open Go Ev
open Go.IntKind (i64 u64 u8 i32 u32 u16)
noncomputable section
def kp143_e16 (i:Nat):Option (List Nat):=Ev.look i [(3,[0,1,4,10,11]),(9,[0,10,13]),(15,[0,2,4,14,15]),(21,[0,14,17]),(33,[0,1,2,3,4,18,19,20,21,22]),(100000,[0,1,10]),(100002,[]),(100004,[0,2,14]),(100006,[]),(100008,[0,1,2,3,4,18,19,20]),(200005,[0]),(200017,[0]),(200035,[0]),(400000,[]),(400002,[]),(400004,[]),(400006,[]),(400008,[])]
abbrev YF143_e16:Type:=Int→Int→Int→((List (Int×(Int×(Int×(Bool×(Int×(Int×(Int×(Int×LI))))))))))→Int→Int→Bool→Int→Int→Int→Bool→Int→(((List (Int×(Int×(Int×(Bool×(Int×(Int×(Int×(Int×LI)))))))))×Int×Int×Bool×Int×Int×Int×Bool×Int)→Option Ans)→Option Ans
def spg143_e16 (F:YF143_e16):Ev.Spec:=fun args objs k=>match args,objs with | [.c (.own d),.c (i6 e),.c (i6 f),.c (i6 g),.c (.clo h [i])],[.vec j (.pair (.int .i64) (.pair (.int .i64) (.pair (.int .i64) (.pair .bool (.pair (.int .i64) (.pair (.int .i64) (.pair (.int .i64) (.pair (.int .i64) (.sl (.int .u8)))))))))) l false,.cells m [i6 n,i6 o,.bool p,i6 q,i6 s,i6 t,.bool a,i6 b]]=>bif qb [d,h,i,j,m] [0,54,1,85,51] then F e f g l n o p q s t a b (fun r=>match r with | (u,v,w,x,y,z,A,B,C)=>k (.tup [],[.vec 85 (.pair (.int .i64) (.pair (.int .i64) (.pair (.int .i64) (.pair .bool (.pair (.int .i64) (.pair (.int .i64) (.pair (.int .i64) (.pair (.int .i64) (.sl (.int .u8)))))))))) u false,.cells 51 [i6 v,i6 w,.bool x,i6 y,i6 z,i6 A,.bool B,i6 C]])) else none | _,_=>none
def Gg143_e16 (c:YF54_805) (a:YF143_e16) (b:YF176_e16) (f:Nat):Option Ev.Spec:=Ev.look f [(54,spg54_805 c),(1000143,spg143_e16 a),(1000176,spg176_e16 b)]
def G143_e16 (fuel:Nat) (a:YF143_e16):Nat→Option Ev.Spec:=Gg143_e16 (F_text_Order_1_805 fuel) a (F_slices_rotateCmpFunc_api_Item_e16 fuel)
abbrev V_slices_symMergeCmpFunc_api_Item_e16_0:Type:=Int×Int×Int×(List (Int×(Int×(Int×(Bool×(Int×(Int×(Int×(Int×LI)))))))))×Int×Int×Bool×Int×Int×Int×Bool×Int
abbrev W_slices_symMergeCmpFunc_api_Item_e16_0:Type:=(Int×Int×(List (Int×(Int×(Int×(Bool×(Int×(Int×(Int×(Int×LI)))))))))×Int×Int×Bool×Int×Int×Int×Bool×Int→OA)
def S_slices_symMergeCmpFunc_api_Item_e16_0 (fuel:Nat) (v:Int×Int×Int×(List (Int×(Int×(Int×(Bool×(Int×(Int×(Int×(Int×(List Int))))))))))×Int×Int×Bool×Int×Int×Int×Bool×Int) (c:(Int×Int×Int×(List (Int×(Int×(Int×(Bool×(Int×(Int×(Int×(Int×(List Int))))))))))×Int×Int×Bool×Int×Int×Int×Bool×Int)→Option Ans) (B:(Int×Int×(List (Int×(Int×(Int×(Bool×(Int×(Int×(Int×(Int×(List Int))))))))))×Int×Int×Bool×Int×Int×Int×Bool×Int→Option Ans)):Option Ans:=match v,B with | (f,d,e,a,r,s,t,u,w,x,p,q),b=>bif decide (d < e) then bif decide ((0:Int)≤i64.wrap (Ev.ishr IntKind.u64 (u64.wrap (i64.wrap (d+e))) (1:Int))∧i64.wrap (Ev.ishr IntKind.u64 (u64.wrap (i64.wrap (d+e))) (1:Int)) < (↑a.length:Int)) then bif decide ((0:Int)≤f∧f < (↑a.length:Int)) then both ((F_text_Order_1_805 fuel ((a.getD (i64.wrap (Ev.ishr IntKind.u64 (u64.wrap (i64.wrap (d+e))) (1:Int))).toNat ((0:Int),(0:Int),(0:Int),false,(0:Int),(0:Int),(0:Int),(0:Int),[])).fst) ((a.getD (i64.wrap (Ev.ishr IntKind.u64 (u64.wrap (i64.wrap (d+e))) (1:Int))).toNat ((0:Int),(0:Int),(0:Int),false,(0:Int),(0:Int),(0:Int),(0:Int),[])).snd.fst) ((a.getD (i64.wrap (Ev.ishr IntKind.u64 (u64.wrap (i64.wrap (d+e))) (1:Int))).toNat ((0:Int),(0:Int),(0:Int),false,(0:Int),(0:Int),(0:Int),(0:Int),[])).snd.snd.fst) ((a.getD (i64.wrap (Ev.ishr IntKind.u64 (u64.wrap (i64.wrap (d+e))) (1:Int))).toNat ((0:Int),(0:Int),(0:Int),false,(0:Int),(0:Int),(0:Int),(0:Int),[])).snd.snd.snd.fst) ((a.getD (i64.wrap (Ev.ishr IntKind.u64 (u64.wrap (i64.wrap (d+e))) (1:Int))).toNat ((0:Int),(0:Int),(0:Int),false,(0:Int),(0:Int),(0:Int),(0:Int),[])).snd.snd.snd.snd.fst) ((a.getD (i64.wrap (Ev.ishr IntKind.u64 (u64.wrap (i64.wrap (d+e))) (1:Int))).toNat ((0:Int),(0:Int),(0:Int),false,(0:Int),(0:Int),(0:Int),(0:Int),[])).snd.snd.snd.snd.snd.fst) ((a.getD (i64.wrap (Ev.ishr IntKind.u64 (u64.wrap (i64.wrap (d+e))) (1:Int))).toNat ((0:Int),(0:Int),(0:Int),false,(0:Int),(0:Int),(0:Int),(0:Int),[])).snd.snd.snd.snd.snd.snd.fst) ((a.getD (i64.wrap (Ev.ishr IntKind.u64 (u64.wrap (i64.wrap (d+e))) (1:Int))).toNat ((0:Int),(0:Int),(0:Int),false,(0:Int),(0:Int),(0:Int),(0:Int),[])).snd.snd.snd.snd.snd.snd.snd.fst) ((a.getD (i64.wrap (Ev.ishr IntKind.u64 (u64.wrap (i64.wrap (d+e))) (1:Int))).toNat ((0:Int),(0:Int),(0:Int),false,(0:Int),(0:Int),(0:Int),(0:Int),[])).snd.snd.snd.snd.snd.snd.snd.snd) ((a.getD f.toNat ((0:Int),(0:Int),(0:Int),false,(0:Int),(0:Int),(0:Int),(0:Int),[])).fst) ((a.getD f.toNat ((0:Int),(0:Int),(0:Int),false,(0:Int),(0:Int),(0:Int),(0:Int),[])).snd.fst) ((a.getD f.toNat ((0:Int),(0:Int),(0:Int),false,(0:Int),(0:Int),(0:Int),(0:Int),[])).snd.snd.fst) ((a.getD f.toNat ((0:Int),(0:Int),(0:Int),false,(0:Int),(0:Int),(0:Int),(0:Int),[])).snd.snd.snd.fst) ((a.getD f.toNat ((0:Int),(0:Int),(0:Int),false,(0:Int),(0:Int),(0:Int),(0:Int),[])).snd.snd.snd.snd.fst) ((a.getD f.toNat ((0:Int),(0:Int),(0:Int),false,(0:Int),(0:Int),(0:Int),(0:Int),[])).snd.snd.snd.snd.snd.fst) ((a.getD f.toNat ((0:Int),(0:Int),(0:Int),false,(0:Int),(0:Int),(0:Int),(0:Int),[])).snd.snd.snd.snd.snd.snd.fst) ((a.getD f.toNat ((0:Int),(0:Int),(0:Int),false,(0:Int),(0:Int),(0:Int),(0:Int),[])).snd.snd.snd.snd.snd.snd.snd.fst) ((a.getD f.toNat ((0:Int),(0:Int),(0:Int),false,(0:Int),(0:Int),(0:Int),(0:Int),[])).snd.snd.snd.snd.snd.snd.snd.snd) r s t u w x p q (fun (o,g,h,i,j,k,l,m,n)=>bif decide (o < (0:Int)) then c (f,i64.wrap (i64.wrap (Ev.ishr IntKind.u64 (u64.wrap (i64.wrap (d+e))) (1:Int))+(1:Int)),e,a,g,h,i,j,k,l,m,n) else c (f,d,i64.wrap (Ev.ishr IntKind.u64 (u64.wrap (i64.wrap (d+e))) (1:Int)),a,g,h,i,j,k,l,m,n)))) ((F_text_Order_1_805 fuel ((a.getD (i64.wrap (Ev.ishr IntKind.u64 (u64.wrap (i64.wrap (d+e))) (1:Int))).toNat ((0:Int),(0:Int),(0:Int),false,(0:Int),(0:Int),(0:Int),(0:Int),[])).fst) ((a.getD (i64.wrap (Ev.ishr IntKind.u64 (u64.wrap (i64.wrap (d+e))) (1:Int))).toNat ((0:Int),(0:Int),(0:Int),false,(0:Int),(0:Int),(0:Int),(0:Int),[])).snd.fst) ((a.getD (i64.wrap (Ev.ishr IntKind.u64 (u64.wrap (i64.wrap (d+e))) (1:Int))).toNat ((0:Int),(0:Int),(0:Int),false,(0:Int),(0:Int),(0:Int),(0:Int),[])).snd.snd.fst) ((a.getD (i64.wrap (Ev.ishr IntKind.u64 (u64.wrap (i64.wrap (d+e))) (1:Int))).toNat ((0:Int),(0:Int),(0:Int),false,(0:Int),(0:Int),(0:Int),(0:Int),[])).snd.snd.snd.fst) ((a.getD (i64.wrap (Ev.ishr IntKind.u64 (u64.wrap (i64.wrap (d+e))) (1:Int))).toNat ((0:Int),(0:Int),(0:Int),false,(0:Int),(0:Int),(0:Int),(0:Int),[])).snd.snd.snd.snd.fst) ((a.getD (i64.wrap (Ev.ishr IntKind.u64 (u64.wrap (i64.wrap (d+e))) (1:Int))).toNat ((0:Int),(0:Int),(0:Int),false,(0:Int),(0:Int),(0:Int),(0:Int),[])).snd.snd.snd.snd.snd.fst) ((a.getD (i64.wrap (Ev.ishr IntKind.u64 (u64.wrap (i64.wrap (d+e))) (1:Int))).toNat ((0:Int),(0:Int),(0:Int),false,(0:Int),(0:Int),(0:Int),(0:Int),[])).snd.snd.snd.snd.snd.snd.fst) ((a.getD (i64.wrap (Ev.ishr IntKind.u64 (u64.wrap (i64.wrap (d+e))) (1:Int))).toNat ((0:Int),(0:Int),(0:Int),false,(0:Int),(0:Int),(0:Int),(0:Int),[])).snd.snd.snd.snd.snd.snd.snd.fst) ((a.getD (i64.wrap (Ev.ishr IntKind.u64 (u64.wrap (i64.wrap (d+e))) (1:Int))).toNat ((0:Int),(0:Int),(0:Int),false,(0:Int),(0:Int),(0:Int),(0:Int),[])).snd.snd.snd.snd.snd.snd.snd.snd) ((a.getD f.toNat ((0:Int),(0:Int),(0:Int),false,(0:Int),(0:Int),(0:Int),(0:Int),[])).fst) ((a.getD f.toNat ((0:Int),(0:Int),(0:Int),false,(0:Int),(0:Int),(0:Int),(0:Int),[])).snd.fst) ((a.getD f.toNat ((0:Int),(0:Int),(0:Int),false,(0:Int),(0:Int),(0:Int),(0:Int),[])).snd.snd.fst) ((a.getD f.toNat ((0:Int),(0:Int),(0:Int),false,(0:Int),(0:Int),(0:Int),(0:Int),[])).snd.snd.snd.fst) ((a.getD f.toNat ((0:Int),(0:Int),(0:Int),false,(0:Int),(0:Int),(0:Int),(0:Int),[])).snd.snd.snd.snd.fst) ((a.getD f.toNat ((0:Int),(0:Int),(0:Int),false,(0:Int),(0:Int),(0:Int),(0:Int),[])).snd.snd.snd.snd.snd.fst) ((a.getD f.toNat ((0:Int),(0:Int),(0:Int),false,(0:Int),(0:Int),(0:Int),(0:Int),[])).snd.snd.snd.snd.snd.snd.fst) ((a.getD f.toNat ((0:Int),(0:Int),(0:Int),false,(0:Int),(0:Int),(0:Int),(0:Int),[])).snd.snd.snd.snd.snd.snd.snd.fst) ((a.getD f.toNat ((0:Int),(0:Int),(0:Int),false,(0:Int),(0:Int),(0:Int),(0:Int),[])).snd.snd.snd.snd.snd.snd.snd.snd) r s t u w x p q (fun (o,g,h,i,j,k,l,m,n)=>bif decide (o < (0:Int)) then c (f,i64.wrap (i64.wrap (Ev.ishr IntKind.u64 (u64.wrap (i64.wrap (d+e))) (1:Int))+(1:Int)),e,a,g,h,i,j,k,l,m,n) else c (f,d,i64.wrap (Ev.ishr IntKind.u64 (u64.wrap (i64.wrap (d+e))) (1:Int)),a,g,h,i,j,k,l,m,n)))) else none else none else b (f,d,a,r,s,t,u,w,x,p,q)
def L_slices_symMergeCmpFunc_api_Item_e16_0 (fuel:Nat) (v:V_slices_symMergeCmpFunc_api_Item_e16_0) (b:W_slices_symMergeCmpFunc_api_Item_e16_0):Option Ans:=iter (S_slices_symMergeCmpFunc_api_Item_e16_0 fuel) fuel v b
def T143_e16_0 (v:V_slices_symMergeCmpFunc_api_Item_e16_0):Ev.St:=match v with | (d,e,f,g,h,i,j,k,l,m,a,b)=>⟨[(0,.c (.own 0)),(1,.c (i6 d)),(4,.c (.clo 54 [1])),(10,.c (i6 e)),(11,.c (i6 f))],[(0,.vec 85 (.pair (.int .i64) (.pair (.int .i64) (.pair (.int .i64) (.pair .bool (.pair (.int .i64) (.pair (.int .i64) (.pair (.int .i64) (.pair (.int .i64) (.sl (.int .u8)))))))))) g false),(1,.cells 51 [i6 h,i6 i,.bool j,i6 k,i6 l,i6 m,.bool a,i6 b])],2,2⟩
def E143_e16_0 (K:KT):W_slices_symMergeCmpFunc_api_Item_e16_0:=(fun v=>match v with | (b,d,e,f,g,h,i,j,k,l,a)=>K .normal ⟨[(0,.c (.own 0)),(1,.c (i6 b)),(10,.c (i6 d))],[(0,.vec 85 (.pair (.int .i64) (.pair (.int .i64) (.pair (.int .i64) (.pair .bool (.pair (.int .i64) (.pair (.int .i64) (.pair (.int .i64) (.pair (.int .i64) (.sl (.int .u8)))))))))) e false),(1,.cells 51 [i6 f,i6 g,.bool h,i6 i,i6 j,i6 k,.bool l,i6 a])],2,2⟩)
theorem S143_e16_0_okg (fuel:Nat) (x:YF54_805) (z:YF143_e16) (A:YF176_e16) (R:Ev.St→OA) (K:KT) (f d e:Int) (a:(List (Int×(Int×(Int×(Bool×(Int×(Int×(Int×(Int×LI)))))))))) (q r:Int) (s:Bool) (t u w:Int) (o:Bool) (p:Int):evalCode tab (Gg143_e16 x z A) J0 kp143_e16 fuel (bodyOf 0 Tryz.f143) (T143_e16_0 (f,d,e,a,q,r,s,t,u,w,o,p)) (lc kp143_e16 3 0 R K)=(fun (c:(Int×Int×Int×(List (Int×(Int×(Int×(Bool×(Int×(Int×(Int×(Int×LI)))))))))×Int×Int×Bool×Int×Int×Int×Bool×Int)→OA) (B:(Int×Int×(List (Int×(Int×(Int×(Bool×(Int×(Int×(Int×(Int×LI)))))))))×Int×Int×Bool×Int×Int×Int×Bool×Int→OA))=>match B with
 | b=>
  bif decide (d < e) then
  bif decide ((0:Int)≤i64.wrap (Ev.ishr IntKind.u64 (u64.wrap (i64.wrap (d+e))) (1:Int))∧i64.wrap (Ev.ishr IntKind.u64 (u64.wrap (i64.wrap (d+e))) (1:Int)) < (↑a.length:Int)) then
  bif decide ((0:Int)≤f∧f < (↑a.length:Int)) then
  both ((x ((a.getD (i64.wrap (Ev.ishr IntKind.u64 (u64.wrap (i64.wrap (d+e))) (1:Int))).toNat ((0:Int),(0:Int),(0:Int),false,(0:Int),(0:Int),(0:Int),(0:Int),[])).fst) ((a.getD (i64.wrap (Ev.ishr IntKind.u64 (u64.wrap (i64.wrap (d+e))) (1:Int))).toNat ((0:Int),(0:Int),(0:Int),false,(0:Int),(0:Int),(0:Int),(0:Int),[])).snd.fst) ((a.getD (i64.wrap (Ev.ishr IntKind.u64 (u64.wrap (i64.wrap (d+e))) (1:Int))).toNat ((0:Int),(0:Int),(0:Int),false,(0:Int),(0:Int),(0:Int),(0:Int),[])).snd.snd.fst) ((a.getD (i64.wrap (Ev.ishr IntKind.u64 (u64.wrap (i64.wrap (d+e))) (1:Int))).toNat ((0:Int),(0:Int),(0:Int),false,(0:Int),(0:Int),(0:Int),(0:Int),[])).snd.snd.snd.fst) ((a.getD (i64.wrap (Ev.ishr IntKind.u64 (u64.wrap (i64.wrap (d+e))) (1:Int))).toNat ((0:Int),(0:Int),(0:Int),false,(0:Int),(0:Int),(0:Int),(0:Int),[])).snd.snd.snd.snd.fst) ((a.getD (i64.wrap (Ev.ishr IntKind.u64 (u64.wrap (i64.wrap (d+e))) (1:Int))).toNat ((0:Int),(0:Int),(0:Int),false,(0:Int),(0:Int),(0:Int),(0:Int),[])).snd.snd.snd.snd.snd.fst) ((a.getD (i64.wrap (Ev.ishr IntKind.u64 (u64.wrap (i64.wrap (d+e))) (1:Int))).toNat ((0:Int),(0:Int),(0:Int),false,(0:Int),(0:Int),(0:Int),(0:Int),[])).snd.snd.snd.snd.snd.snd.fst) ((a.getD (i64.wrap (Ev.ishr IntKind.u64 (u64.wrap (i64.wrap (d+e))) (1:Int))).toNat ((0:Int),(0:Int),(0:Int),false,(0:Int),(0:Int),(0:Int),(0:Int),[])).snd.snd.snd.snd.snd.snd.snd.fst) ((a.getD (i64.wrap (Ev.ishr IntKind.u64 (u64.wrap (i64.wrap (d+e))) (1:Int))).toNat ((0:Int),(0:Int),(0:Int),false,(0:Int),(0:Int),(0:Int),(0:Int),[])).snd.snd.snd.snd.snd.snd.snd.snd) ((a.getD f.toNat ((0:Int),(0:Int),(0:Int),false,(0:Int),(0:Int),(0:Int),(0:Int),[])).fst) ((a.getD f.toNat ((0:Int),(0:Int),(0:Int),false,(0:Int),(0:Int),(0:Int),(0:Int),[])).snd.fst) ((a.getD f.toNat ((0:Int),(0:Int),(0:Int),false,(0:Int),(0:Int),(0:Int),(0:Int),[])).snd.snd.fst) ((a.getD f.toNat ((0:Int),(0:Int),(0:Int),false,(0:Int),(0:Int),(0:Int),(0:Int),[])).snd.snd.snd.fst) ((a.getD f.toNat ((0:Int),(0:Int),(0:Int),false,(0:Int),(0:Int),(0:Int),(0:Int),[])).snd.snd.snd.snd.fst) ((a.getD f.toNat ((0:Int),(0:Int),(0:Int),false,(0:Int),(0:Int),(0:Int),(0:Int),[])).snd.snd.snd.snd.snd.fst) ((a.getD f.toNat ((0:Int),(0:Int),(0:Int),false,(0:Int),(0:Int),(0:Int),(0:Int),[])).snd.snd.snd.snd.snd.snd.fst) ((a.getD f.toNat ((0:Int),(0:Int),(0:Int),false,(0:Int),(0:Int),(0:Int),(0:Int),[])).snd.snd.snd.snd.snd.snd.snd.fst) ((a.getD f.toNat ((0:Int),(0:Int),(0:Int),false,(0:Int),(0:Int),(0:Int),(0:Int),[])).snd.snd.snd.snd.snd.snd.snd.snd) q r s t u w o p
  (fun (y,g,h,i,j,k,l,m,n)=>
  bif decide (y < (0:Int)) then
  c (f,i64.wrap (i64.wrap (Ev.ishr IntKind.u64 (u64.wrap (i64.wrap (d+e))) (1:Int))+(1:Int)),e,a,g,h,i,j,k,l,m,n)
  else
  c (f,d,i64.wrap (Ev.ishr IntKind.u64 (u64.wrap (i64.wrap (d+e))) (1:Int)),a,g,h,i,j,k,l,m,n))))
  ((x ((a.getD (i64.wrap (Ev.ishr IntKind.u64 (u64.wrap (i64.wrap (d+e))) (1:Int))).toNat ((0:Int),(0:Int),(0:Int),false,(0:Int),(0:Int),(0:Int),(0:Int),[])).fst) ((a.getD (i64.wrap (Ev.ishr IntKind.u64 (u64.wrap (i64.wrap (d+e))) (1:Int))).toNat ((0:Int),(0:Int),(0:Int),false,(0:Int),(0:Int),(0:Int),(0:Int),[])).snd.fst) ((a.getD (i64.wrap (Ev.ishr IntKind.u64 (u64.wrap (i64.wrap (d+e))) (1:Int))).toNat ((0:Int),(0:Int),(0:Int),false,(0:Int),(0:Int),(0:Int),(0:Int),[])).snd.snd.fst) ((a.getD (i64.wrap (Ev.ishr IntKind.u64 (u64.wrap (i64.wrap (d+e))) (1:Int))).toNat ((0:Int),(0:Int),(0:Int),false,(0:Int),(0:Int),(0:Int),(0:Int),[])).snd.snd.snd.fst) ((a.getD (i64.wrap (Ev.ishr IntKind.u64 (u64.wrap (i64.wrap (d+e))) (1:Int))).toNat ((0:Int),(0:Int),(0:Int),false,(0:Int),(0:Int),(0:Int),(0:Int),[])).snd.snd.snd.snd.fst) ((a.getD (i64.wrap (Ev.ishr IntKind.u64 (u64.wrap (i64.wrap (d+e))) (1:Int))).toNat ((0:Int),(0:Int),(0:Int),false,(0:Int),(0:Int),(0:Int),(0:Int),[])).snd.snd.snd.snd.snd.fst) ((a.getD (i64.wrap (Ev.ishr IntKind.u64 (u64.wrap (i64.wrap (d+e))) (1:Int))).toNat ((0:Int),(0:Int),(0:Int),false,(0:Int),(0:Int),(0:Int),(0:Int),[])).snd.snd.snd.snd.snd.snd.fst) ((a.getD (i64.wrap (Ev.ishr IntKind.u64 (u64.wrap (i64.wrap (d+e))) (1:Int))).toNat ((0:Int),(0:Int),(0:Int),false,(0:Int),(0:Int),(0:Int),(0:Int),[])).snd.snd.snd.snd.snd.snd.snd.fst) ((a.getD (i64.wrap (Ev.ishr IntKind.u64 (u64.wrap (i64.wrap (d+e))) (1:Int))).toNat ((0:Int),(0:Int),(0:Int),false,(0:Int),(0:Int),(0:Int),(0:Int),[])).snd.snd.snd.snd.snd.snd.snd.snd) ((a.getD f.toNat ((0:Int),(0:Int),(0:Int),false,(0:Int),(0:Int),(0:Int),(0:Int),[])).fst) ((a.getD f.toNat ((0:Int),(0:Int),(0:Int),false,(0:Int),(0:Int),(0:Int),(0:Int),[])).snd.fst) ((a.getD f.toNat ((0:Int),(0:Int),(0:Int),false,(0:Int),(0:Int),(0:Int),(0:Int),[])).snd.snd.fst) ((a.getD f.toNat ((0:Int),(0:Int),(0:Int),false,(0:Int),(0:Int),(0:Int),(0:Int),[])).snd.snd.snd.fst) ((a.getD f.toNat ((0:Int),(0:Int),(0:Int),false,(0:Int),(0:Int),(0:Int),(0:Int),[])).snd.snd.snd.snd.fst) ((a.getD f.toNat ((0:Int),(0:Int),(0:Int),false,(0:Int),(0:Int),(0:Int),(0:Int),[])).snd.snd.snd.snd.snd.fst) ((a.getD f.toNat ((0:Int),(0:Int),(0:Int),false,(0:Int),(0:Int),(0:Int),(0:Int),[])).snd.snd.snd.snd.snd.snd.fst) ((a.getD f.toNat ((0:Int),(0:Int),(0:Int),false,(0:Int),(0:Int),(0:Int),(0:Int),[])).snd.snd.snd.snd.snd.snd.snd.fst) ((a.getD f.toNat ((0:Int),(0:Int),(0:Int),false,(0:Int),(0:Int),(0:Int),(0:Int),[])).snd.snd.snd.snd.snd.snd.snd.snd) q r s t u w o p
  (fun (y,g,h,i,j,k,l,m,n)=>
  bif decide (y < (0:Int)) then
  c (f,i64.wrap (i64.wrap (Ev.ishr IntKind.u64 (u64.wrap (i64.wrap (d+e))) (1:Int))+(1:Int)),e,a,g,h,i,j,k,l,m,n)
  else
  c (f,d,i64.wrap (Ev.ishr IntKind.u64 (u64.wrap (i64.wrap (d+e))) (1:Int)),a,g,h,i,j,k,l,m,n))))
  else none
  else none
  else
  b (f,d,a,q,r,s,t,u,w,o,p)) (fun v=>R (T143_e16_0 v)) (E143_e16_0 K):=by
  kernel_rfl
theorem S143_e16_0_ok (fuel:Nat) (m:YF143_e16) (R:Ev.St→OA) (K:KT) (c d e:Int) (f:(List (Int×(Int×(Int×(Bool×(Int×(Int×(Int×(Int×LI)))))))))) (g h:Int) (i:Bool) (j k l:Int) (a:Bool) (b:Int):evalCode tab (G143_e16 fuel m) J0 kp143_e16 fuel (bodyOf 0 Tryz.f143) (T143_e16_0 (c,d,e,f,g,h,i,j,k,l,a,b)) (lc kp143_e16 3 0 R K)=S_slices_symMergeCmpFunc_api_Item_e16_0 fuel (c,d,e,f,g,h,i,j,k,l,a,b) (fun v=>R (T143_e16_0 v)) (E143_e16_0 K):=
  S143_e16_0_okg fuel (F_text_Order_1_805 fuel) m (F_slices_rotateCmpFunc_api_Item_e16 fuel) R K c d e f g h i j k l a b
def B143_e16_0 (fuel:Nat):Ev.Blk:=fun st K=>match canonO (kp143_e16 3) st with | some s=>(match s with | ⟨[(h,.c (.own i)),(j,.c (i6 k)),(l,.c (.clo m [n])),(o,.c (i6 p)),(q,.c (i6 r))],[(t,.vec u (.pair (.int .i64) (.pair (.int .i64) (.pair (.int .i64) (.pair .bool (.pair (.int .i64) (.pair (.int .i64) (.pair (.int .i64) (.pair (.int .i64) (.sl (.int .u8)))))))))) v false),(a,.cells b [i6 w,i6 x,.bool y,i6 z,i6 A,i6 B,.bool d,i6 e])],f,g⟩=>bif qb [h,i,j,l,m,n,o,q,t,u,a,b,f,g] [0,0,1,4,54,1,10,11,0,85,1,51,2,2] then iter (S_slices_symMergeCmpFunc_api_Item_e16_0 fuel) fuel (k,p,r,v,w,x,y,z,A,B,d,e) (E143_e16_0 K) else none | _=>none) | none=>none
theorem B143_e16_0_ok (fuel:Nat) (a:YF143_e16) (st:Ev.St) (K:KT) (r:Ans) (h:B143_e16_0 fuel st K=some r):evalCode tab (G143_e16 fuel a) J0 kp143_e16 fuel (.block 0 (.loop (bodyOf 0 Tryz.f143))) st K=some r:=by
  unfold B143_e16_0 at h
  split at h
  · rename_i s hs
    split at h
    · skip
      obtain ⟨hb,h⟩:=cond_some' h
      cases qb_eq hb
      exact blk_loop (S:=T143_e16_0) (ks:=E143_e16_0) (step:=S_slices_symMergeCmpFunc_api_Item_e16_0 fuel) (v:=(_,_,_,_,_,_,_,_,_,_,_,_)) (by kernel_rfl) (by kernel_rfl) (fun R K v=>by obtain ⟨d,e,f,g,i,j,k,l,m,n,b,c⟩:=v; exact S143_e16_0_ok fuel a R K d e f g i j k l m n b c) hs h
    · cases h
  · cases h
abbrev V_slices_symMergeCmpFunc_api_Item_e16_2:Type:=Int×Int×(List (Int×(Int×(Int×(Bool×(Int×(Int×(Int×(Int×LI)))))))))×Int×Int×Bool×Int×Int×Int×Bool×Int
abbrev W_slices_symMergeCmpFunc_api_Item_e16_2:Type:=((List (Int×(Int×(Int×(Bool×(Int×(Int×(Int×(Int×LI)))))))))×Int×Int×Bool×Int×Int×Int×Bool×Int→OA)
def S_slices_symMergeCmpFunc_api_Item_e16_2 (fuel:Nat) (v:Int×Int×(List (Int×(Int×(Int×(Bool×(Int×(Int×(Int×(Int×(List Int))))))))))×Int×Int×Bool×Int×Int×Int×Bool×Int) (c:(Int×Int×(List (Int×(Int×(Int×(Bool×(Int×(Int×(Int×(Int×(List Int))))))))))×Int×Int×Bool×Int×Int×Int×Bool×Int)→Option Ans) (B:((List (Int×(Int×(Int×(Bool×(Int×(Int×(Int×(Int×(List Int))))))))))×Int×Int×Bool×Int×Int×Int×Bool×Int→Option Ans)):Option Ans:=match v,B with | (f,a,d,g,h,i,j,k,l,m,e),b=>bif decide (a < i64.wrap (f - (1:Int))) then bif decide ((0:Int)≤i64.wrap (a+(1:Int))∧i64.wrap (a+(1:Int)) < (↑d.length:Int)) then bif decide ((0:Int)≤a∧a < (↑d.length:Int)) then both (bif decide ((0:Int)≤a∧a < (↑d.length:Int)) then bif decide ((0:Int)≤i64.wrap (a+(1:Int))∧i64.wrap (a+(1:Int)) < (↑(d.set a.toNat ((d.getD (i64.wrap (a+(1:Int))).toNat ((0:Int),(0:Int),(0:Int),false,(0:Int),(0:Int),(0:Int),(0:Int),[])).fst,(d.getD (i64.wrap (a+(1:Int))).toNat ((0:Int),(0:Int),(0:Int),false,(0:Int),(0:Int),(0:Int),(0:Int),[])).snd.fst,(d.getD (i64.wrap (a+(1:Int))).toNat ((0:Int),(0:Int),(0:Int),false,(0:Int),(0:Int),(0:Int),(0:Int),[])).snd.snd.fst,(d.getD (i64.wrap (a+(1:Int))).toNat ((0:Int),(0:Int),(0:Int),false,(0:Int),(0:Int),(0:Int),(0:Int),[])).snd.snd.snd.fst,(d.getD (i64.wrap (a+(1:Int))).toNat ((0:Int),(0:Int),(0:Int),false,(0:Int),(0:Int),(0:Int),(0:Int),[])).snd.snd.snd.snd.fst,(d.getD (i64.wrap (a+(1:Int))).toNat ((0:Int),(0:Int),(0:Int),false,(0:Int),(0:Int),(0:Int),(0:Int),[])).snd.snd.snd.snd.snd.fst,(d.getD (i64.wrap (a+(1:Int))).toNat ((0:Int),(0:Int),(0:Int),false,(0:Int),(0:Int),(0:Int),(0:Int),[])).snd.snd.snd.snd.snd.snd.fst,(d.getD (i64.wrap (a+(1:Int))).toNat ((0:Int),(0:Int),(0:Int),false,(0:Int),(0:Int),(0:Int),(0:Int),[])).snd.snd.snd.snd.snd.snd.snd.fst,(d.getD (i64.wrap (a+(1:Int))).toNat ((0:Int),(0:Int),(0:Int),false,(0:Int),(0:Int),(0:Int),(0:Int),[])).snd.snd.snd.snd.snd.snd.snd.snd)).length:Int)) then c (f,i64.wrap (a+(1:Int)),(d.set a.toNat ((d.getD (i64.wrap (a+(1:Int))).toNat ((0:Int),(0:Int),(0:Int),false,(0:Int),(0:Int),(0:Int),(0:Int),[])).fst,(d.getD (i64.wrap (a+(1:Int))).toNat ((0:Int),(0:Int),(0:Int),false,(0:Int),(0:Int),(0:Int),(0:Int),[])).snd.fst,(d.getD (i64.wrap (a+(1:Int))).toNat ((0:Int),(0:Int),(0:Int),false,(0:Int),(0:Int),(0:Int),(0:Int),[])).snd.snd.fst,(d.getD (i64.wrap (a+(1:Int))).toNat ((0:Int),(0:Int),(0:Int),false,(0:Int),(0:Int),(0:Int),(0:Int),[])).snd.snd.snd.fst,(d.getD (i64.wrap (a+(1:Int))).toNat ((0:Int),(0:Int),(0:Int),false,(0:Int),(0:Int),(0:Int),(0:Int),[])).snd.snd.snd.snd.fst,(d.getD (i64.wrap (a+(1:Int))).toNat ((0:Int),(0:Int),(0:Int),false,(0:Int),(0:Int),(0:Int),(0:Int),[])).snd.snd.snd.snd.snd.fst,(d.getD (i64.wrap (a+(1:Int))).toNat ((0:Int),(0:Int),(0:Int),false,(0:Int),(0:Int),(0:Int),(0:Int),[])).snd.snd.snd.snd.snd.snd.fst,(d.getD (i64.wrap (a+(1:Int))).toNat ((0:Int),(0:Int),(0:Int),false,(0:Int),(0:Int),(0:Int),(0:Int),[])).snd.snd.snd.snd.snd.snd.snd.fst,(d.getD (i64.wrap (a+(1:Int))).toNat ((0:Int),(0:Int),(0:Int),false,(0:Int),(0:Int),(0:Int),(0:Int),[])).snd.snd.snd.snd.snd.snd.snd.snd)).set (i64.wrap (a+(1:Int))).toNat ((d.getD a.toNat ((0:Int),(0:Int),(0:Int),false,(0:Int),(0:Int),(0:Int),(0:Int),[])).fst,(d.getD a.toNat ((0:Int),(0:Int),(0:Int),false,(0:Int),(0:Int),(0:Int),(0:Int),[])).snd.fst,(d.getD a.toNat ((0:Int),(0:Int),(0:Int),false,(0:Int),(0:Int),(0:Int),(0:Int),[])).snd.snd.fst,(d.getD a.toNat ((0:Int),(0:Int),(0:Int),false,(0:Int),(0:Int),(0:Int),(0:Int),[])).snd.snd.snd.fst,(d.getD a.toNat ((0:Int),(0:Int),(0:Int),false,(0:Int),(0:Int),(0:Int),(0:Int),[])).snd.snd.snd.snd.fst,(d.getD a.toNat ((0:Int),(0:Int),(0:Int),false,(0:Int),(0:Int),(0:Int),(0:Int),[])).snd.snd.snd.snd.snd.fst,(d.getD a.toNat ((0:Int),(0:Int),(0:Int),false,(0:Int),(0:Int),(0:Int),(0:Int),[])).snd.snd.snd.snd.snd.snd.fst,(d.getD a.toNat ((0:Int),(0:Int),(0:Int),false,(0:Int),(0:Int),(0:Int),(0:Int),[])).snd.snd.snd.snd.snd.snd.snd.fst,(d.getD a.toNat ((0:Int),(0:Int),(0:Int),false,(0:Int),(0:Int),(0:Int),(0:Int),[])).snd.snd.snd.snd.snd.snd.snd.snd),g,h,i,j,k,l,m,e) else none else none) (bif decide ((0:Int)≤a∧a < (↑d.length:Int)) then bif decide ((0:Int)≤i64.wrap (a+(1:Int))∧i64.wrap (a+(1:Int)) < (↑(d.set a.toNat ((d.getD (i64.wrap (a+(1:Int))).toNat ((0:Int),(0:Int),(0:Int),false,(0:Int),(0:Int),(0:Int),(0:Int),[])).fst,(d.getD (i64.wrap (a+(1:Int))).toNat ((0:Int),(0:Int),(0:Int),false,(0:Int),(0:Int),(0:Int),(0:Int),[])).snd.fst,(d.getD (i64.wrap (a+(1:Int))).toNat ((0:Int),(0:Int),(0:Int),false,(0:Int),(0:Int),(0:Int),(0:Int),[])).snd.snd.fst,(d.getD (i64.wrap (a+(1:Int))).toNat ((0:Int),(0:Int),(0:Int),false,(0:Int),(0:Int),(0:Int),(0:Int),[])).snd.snd.snd.fst,(d.getD (i64.wrap (a+(1:Int))).toNat ((0:Int),(0:Int),(0:Int),false,(0:Int),(0:Int),(0:Int),(0:Int),[])).snd.snd.snd.snd.fst,(d.getD (i64.wrap (a+(1:Int))).toNat ((0:Int),(0:Int),(0:Int),false,(0:Int),(0:Int),(0:Int),(0:Int),[])).snd.snd.snd.snd.snd.fst,(d.getD (i64.wrap (a+(1:Int))).toNat ((0:Int),(0:Int),(0:Int),false,(0:Int),(0:Int),(0:Int),(0:Int),[])).snd.snd.snd.snd.snd.snd.fst,(d.getD (i64.wrap (a+(1:Int))).toNat ((0:Int),(0:Int),(0:Int),false,(0:Int),(0:Int),(0:Int),(0:Int),[])).snd.snd.snd.snd.snd.snd.snd.fst,(d.getD (i64.wrap (a+(1:Int))).toNat ((0:Int),(0:Int),(0:Int),false,(0:Int),(0:Int),(0:Int),(0:Int),[])).snd.snd.snd.snd.snd.snd.snd.snd)).length:Int)) then c (f,i64.wrap (a+(1:Int)),(d.set a.toNat ((d.getD (i64.wrap (a+(1:Int))).toNat ((0:Int),(0:Int),(0:Int),false,(0:Int),(0:Int),(0:Int),(0:Int),[])).fst,(d.getD (i64.wrap (a+(1:Int))).toNat ((0:Int),(0:Int),(0:Int),false,(0:Int),(0:Int),(0:Int),(0:Int),[])).snd.fst,(d.getD (i64.wrap (a+(1:Int))).toNat ((0:Int),(0:Int),(0:Int),false,(0:Int),(0:Int),(0:Int),(0:Int),[])).snd.snd.fst,(d.getD (i64.wrap (a+(1:Int))).toNat ((0:Int),(0:Int),(0:Int),false,(0:Int),(0:Int),(0:Int),(0:Int),[])).snd.snd.snd.fst,(d.getD (i64.wrap (a+(1:Int))).toNat ((0:Int),(0:Int),(0:Int),false,(0:Int),(0:Int),(0:Int),(0:Int),[])).snd.snd.snd.snd.fst,(d.getD (i64.wrap (a+(1:Int))).toNat ((0:Int),(0:Int),(0:Int),false,(0:Int),(0:Int),(0:Int),(0:Int),[])).snd.snd.snd.snd.snd.fst,(d.getD (i64.wrap (a+(1:Int))).toNat ((0:Int),(0:Int),(0:Int),false,(0:Int),(0:Int),(0:Int),(0:Int),[])).snd.snd.snd.snd.snd.snd.fst,(d.getD (i64.wrap (a+(1:Int))).toNat ((0:Int),(0:Int),(0:Int),false,(0:Int),(0:Int),(0:Int),(0:Int),[])).snd.snd.snd.snd.snd.snd.snd.fst,(d.getD (i64.wrap (a+(1:Int))).toNat ((0:Int),(0:Int),(0:Int),false,(0:Int),(0:Int),(0:Int),(0:Int),[])).snd.snd.snd.snd.snd.snd.snd.snd)).set (i64.wrap (a+(1:Int))).toNat ((d.getD a.toNat ((0:Int),(0:Int),(0:Int),false,(0:Int),(0:Int),(0:Int),(0:Int),[])).fst,(d.getD a.toNat ((0:Int),(0:Int),(0:Int),false,(0:Int),(0:Int),(0:Int),(0:Int),[])).snd.fst,(d.getD a.toNat ((0:Int),(0:Int),(0:Int),false,(0:Int),(0:Int),(0:Int),(0:Int),[])).snd.snd.fst,(d.getD a.toNat ((0:Int),(0:Int),(0:Int),false,(0:Int),(0:Int),(0:Int),(0:Int),[])).snd.snd.snd.fst,(d.getD a.toNat ((0:Int),(0:Int),(0:Int),false,(0:Int),(0:Int),(0:Int),(0:Int),[])).snd.snd.snd.snd.fst,(d.getD a.toNat ((0:Int),(0:Int),(0:Int),false,(0:Int),(0:Int),(0:Int),(0:Int),[])).snd.snd.snd.snd.snd.fst,(d.getD a.toNat ((0:Int),(0:Int),(0:Int),false,(0:Int),(0:Int),(0:Int),(0:Int),[])).snd.snd.snd.snd.snd.snd.fst,(d.getD a.toNat ((0:Int),(0:Int),(0:Int),false,(0:Int),(0:Int),(0:Int),(0:Int),[])).snd.snd.snd.snd.snd.snd.snd.fst,(d.getD a.toNat ((0:Int),(0:Int),(0:Int),false,(0:Int),(0:Int),(0:Int),(0:Int),[])).snd.snd.snd.snd.snd.snd.snd.snd),g,h,i,j,k,l,m,e) else none else none) else none else none else b (d,g,h,i,j,k,l,m,e)
def L_slices_symMergeCmpFunc_api_Item_e16_2 (fuel:Nat) (v:V_slices_symMergeCmpFunc_api_Item_e16_2) (b:W_slices_symMergeCmpFunc_api_Item_e16_2):Option Ans:=iter (S_slices_symMergeCmpFunc_api_Item_e16_2 fuel) fuel v b
def J143_e16_2 (fuel:Nat) (i:Nat):Option Ev.Blk:=Ev.look i [(100000,B143_e16_0 fuel)]
def T143_e16_2 (v:V_slices_symMergeCmpFunc_api_Item_e16_2):Ev.St:=match v with | (b,d,e,f,g,h,i,j,k,l,a)=>⟨[(0,.c (.own 0)),(10,.c (i6 b)),(13,.c (i6 d))],[(0,.vec 85 (.pair (.int .i64) (.pair (.int .i64) (.pair (.int .i64) (.pair .bool (.pair (.int .i64) (.pair (.int .i64) (.pair (.int .i64) (.pair (.int .i64) (.sl (.int .u8)))))))))) e false),(1,.cells 51 [i6 f,i6 g,.bool h,i6 i,i6 j,i6 k,.bool l,i6 a])],2,2⟩
def E143_e16_2 (K:KT):W_slices_symMergeCmpFunc_api_Item_e16_2:=(fun v=>match v with | (a,b,c,d,e,f,g,h,i)=>K .normal ⟨[],[(0,.vec 85 (.pair (.int .i64) (.pair (.int .i64) (.pair (.int .i64) (.pair .bool (.pair (.int .i64) (.pair (.int .i64) (.pair (.int .i64) (.pair (.int .i64) (.sl (.int .u8)))))))))) a false),(1,.cells 51 [i6 b,i6 c,.bool d,i6 e,i6 f,i6 g,.bool h,i6 i])],2,2⟩)
theorem S143_e16_2_okg (fuel:Nat) (p:YF54_805) (n:YF143_e16) (o:YF176_e16) (R:Ev.St→OA) (K:KT) (f a:Int) (d:(List (Int×(Int×(Int×(Bool×(Int×(Int×(Int×(Int×LI)))))))))) (g h:Int) (i:Bool) (j k l:Int) (m:Bool) (e:Int):evalCode tab (Gg143_e16 p n o) (J143_e16_2 fuel) kp143_e16 fuel (bodyOf 2 Tryz.f143) (T143_e16_2 (f,a,d,g,h,i,j,k,l,m,e)) (lc kp143_e16 9 2 R K)=(fun (c:(Int×Int×(List (Int×(Int×(Int×(Bool×(Int×(Int×(Int×(Int×LI)))))))))×Int×Int×Bool×Int×Int×Int×Bool×Int)→OA) (B:((List (Int×(Int×(Int×(Bool×(Int×(Int×(Int×(Int×LI)))))))))×Int×Int×Bool×Int×Int×Int×Bool×Int→OA))=>match B with
 | b=>
  bif decide (a < i64.wrap (f - (1:Int))) then
  bif decide ((0:Int)≤i64.wrap (a+(1:Int))∧i64.wrap (a+(1:Int)) < (↑d.length:Int)) then
  bif decide ((0:Int)≤a∧a < (↑d.length:Int)) then
  both (bif decide ((0:Int)≤a∧a < (↑d.length:Int)) then
  bif decide ((0:Int)≤i64.wrap (a+(1:Int))∧i64.wrap (a+(1:Int)) < (↑(d.set a.toNat ((d.getD (i64.wrap (a+(1:Int))).toNat ((0:Int),(0:Int),(0:Int),false,(0:Int),(0:Int),(0:Int),(0:Int),[])).fst,(d.getD (i64.wrap (a+(1:Int))).toNat ((0:Int),(0:Int),(0:Int),false,(0:Int),(0:Int),(0:Int),(0:Int),[])).snd.fst,(d.getD (i64.wrap (a+(1:Int))).toNat ((0:Int),(0:Int),(0:Int),false,(0:Int),(0:Int),(0:Int),(0:Int),[])).snd.snd.fst,(d.getD (i64.wrap (a+(1:Int))).toNat ((0:Int),(0:Int),(0:Int),false,(0:Int),(0:Int),(0:Int),(0:Int),[])).snd.snd.snd.fst,(d.getD (i64.wrap (a+(1:Int))).toNat ((0:Int),(0:Int),(0:Int),false,(0:Int),(0:Int),(0:Int),(0:Int),[])).snd.snd.snd.snd.fst,(d.getD (i64.wrap (a+(1:Int))).toNat ((0:Int),(0:Int),(0:Int),false,(0:Int),(0:Int),(0:Int),(0:Int),[])).snd.snd.snd.snd.snd.fst,(d.getD (i64.wrap (a+(1:Int))).toNat ((0:Int),(0:Int),(0:Int),false,(0:Int),(0:Int),(0:Int),(0:Int),[])).snd.snd.snd.snd.snd.snd.fst,(d.getD (i64.wrap (a+(1:Int))).toNat ((0:Int),(0:Int),(0:Int),false,(0:Int),(0:Int),(0:Int),(0:Int),[])).snd.snd.snd.snd.snd.snd.snd.fst,(d.getD (i64.wrap (a+(1:Int))).toNat ((0:Int),(0:Int),(0:Int),false,(0:Int),(0:Int),(0:Int),(0:Int),[])).snd.snd.snd.snd.snd.snd.snd.snd)).length:Int)) then
  c (f,i64.wrap (a+(1:Int)),(d.set a.toNat ((d.getD (i64.wrap (a+(1:Int))).toNat ((0:Int),(0:Int),(0:Int),false,(0:Int),(0:Int),(0:Int),(0:Int),[])).fst,(d.getD (i64.wrap (a+(1:Int))).toNat ((0:Int),(0:Int),(0:Int),false,(0:Int),(0:Int),(0:Int),(0:Int),[])).snd.fst,(d.getD (i64.wrap (a+(1:Int))).toNat ((0:Int),(0:Int),(0:Int),false,(0:Int),(0:Int),(0:Int),(0:Int),[])).snd.snd.fst,(d.getD (i64.wrap (a+(1:Int))).toNat ((0:Int),(0:Int),(0:Int),false,(0:Int),(0:Int),(0:Int),(0:Int),[])).snd.snd.snd.fst,(d.getD (i64.wrap (a+(1:Int))).toNat ((0:Int),(0:Int),(0:Int),false,(0:Int),(0:Int),(0:Int),(0:Int),[])).snd.snd.snd.snd.fst,(d.getD (i64.wrap (a+(1:Int))).toNat ((0:Int),(0:Int),(0:Int),false,(0:Int),(0:Int),(0:Int),(0:Int),[])).snd.snd.snd.snd.snd.fst,(d.getD (i64.wrap (a+(1:Int))).toNat ((0:Int),(0:Int),(0:Int),false,(0:Int),(0:Int),(0:Int),(0:Int),[])).snd.snd.snd.snd.snd.snd.fst,(d.getD (i64.wrap (a+(1:Int))).toNat ((0:Int),(0:Int),(0:Int),false,(0:Int),(0:Int),(0:Int),(0:Int),[])).snd.snd.snd.snd.snd.snd.snd.fst,(d.getD (i64.wrap (a+(1:Int))).toNat ((0:Int),(0:Int),(0:Int),false,(0:Int),(0:Int),(0:Int),(0:Int),[])).snd.snd.snd.snd.snd.snd.snd.snd)).set (i64.wrap (a+(1:Int))).toNat ((d.getD a.toNat ((0:Int),(0:Int),(0:Int),false,(0:Int),(0:Int),(0:Int),(0:Int),[])).fst,(d.getD a.toNat ((0:Int),(0:Int),(0:Int),false,(0:Int),(0:Int),(0:Int),(0:Int),[])).snd.fst,(d.getD a.toNat ((0:Int),(0:Int),(0:Int),false,(0:Int),(0:Int),(0:Int),(0:Int),[])).snd.snd.fst,(d.getD a.toNat ((0:Int),(0:Int),(0:Int),false,(0:Int),(0:Int),(0:Int),(0:Int),[])).snd.snd.snd.fst,(d.getD a.toNat ((0:Int),(0:Int),(0:Int),false,(0:Int),(0:Int),(0:Int),(0:Int),[])).snd.snd.snd.snd.fst,(d.getD a.toNat ((0:Int),(0:Int),(0:Int),false,(0:Int),(0:Int),(0:Int),(0:Int),[])).snd.snd.snd.snd.snd.fst,(d.getD a.toNat ((0:Int),(0:Int),(0:Int),false,(0:Int),(0:Int),(0:Int),(0:Int),[])).snd.snd.snd.snd.snd.snd.fst,(d.getD a.toNat ((0:Int),(0:Int),(0:Int),false,(0:Int),(0:Int),(0:Int),(0:Int),[])).snd.snd.snd.snd.snd.snd.snd.fst,(d.getD a.toNat ((0:Int),(0:Int),(0:Int),false,(0:Int),(0:Int),(0:Int),(0:Int),[])).snd.snd.snd.snd.snd.snd.snd.snd),g,h,i,j,k,l,m,e)
  else none
  else none)
  (bif decide ((0:Int)≤a∧a < (↑d.length:Int)) then
  bif decide ((0:Int)≤i64.wrap (a+(1:Int))∧i64.wrap (a+(1:Int)) < (↑(d.set a.toNat ((d.getD (i64.wrap (a+(1:Int))).toNat ((0:Int),(0:Int),(0:Int),false,(0:Int),(0:Int),(0:Int),(0:Int),[])).fst,(d.getD (i64.wrap (a+(1:Int))).toNat ((0:Int),(0:Int),(0:Int),false,(0:Int),(0:Int),(0:Int),(0:Int),[])).snd.fst,(d.getD (i64.wrap (a+(1:Int))).toNat ((0:Int),(0:Int),(0:Int),false,(0:Int),(0:Int),(0:Int),(0:Int),[])).snd.snd.fst,(d.getD (i64.wrap (a+(1:Int))).toNat ((0:Int),(0:Int),(0:Int),false,(0:Int),(0:Int),(0:Int),(0:Int),[])).snd.snd.snd.fst,(d.getD (i64.wrap (a+(1:Int))).toNat ((0:Int),(0:Int),(0:Int),false,(0:Int),(0:Int),(0:Int),(0:Int),[])).snd.snd.snd.snd.fst,(d.getD (i64.wrap (a+(1:Int))).toNat ((0:Int),(0:Int),(0:Int),false,(0:Int),(0:Int),(0:Int),(0:Int),[])).snd.snd.snd.snd.snd.fst,(d.getD (i64.wrap (a+(1:Int))).toNat ((0:Int),(0:Int),(0:Int),false,(0:Int),(0:Int),(0:Int),(0:Int),[])).snd.snd.snd.snd.snd.snd.fst,(d.getD (i64.wrap (a+(1:Int))).toNat ((0:Int),(0:Int),(0:Int),false,(0:Int),(0:Int),(0:Int),(0:Int),[])).snd.snd.snd.snd.snd.snd.snd.fst,(d.getD (i64.wrap (a+(1:Int))).toNat ((0:Int),(0:Int),(0:Int),false,(0:Int),(0:Int),(0:Int),(0:Int),[])).snd.snd.snd.snd.snd.snd.snd.snd)).length:Int)) then
  c (f,i64.wrap (a+(1:Int)),(d.set a.toNat ((d.getD (i64.wrap (a+(1:Int))).toNat ((0:Int),(0:Int),(0:Int),false,(0:Int),(0:Int),(0:Int),(0:Int),[])).fst,(d.getD (i64.wrap (a+(1:Int))).toNat ((0:Int),(0:Int),(0:Int),false,(0:Int),(0:Int),(0:Int),(0:Int),[])).snd.fst,(d.getD (i64.wrap (a+(1:Int))).toNat ((0:Int),(0:Int),(0:Int),false,(0:Int),(0:Int),(0:Int),(0:Int),[])).snd.snd.fst,(d.getD (i64.wrap (a+(1:Int))).toNat ((0:Int),(0:Int),(0:Int),false,(0:Int),(0:Int),(0:Int),(0:Int),[])).snd.snd.snd.fst,(d.getD (i64.wrap (a+(1:Int))).toNat ((0:Int),(0:Int),(0:Int),false,(0:Int),(0:Int),(0:Int),(0:Int),[])).snd.snd.snd.snd.fst,(d.getD (i64.wrap (a+(1:Int))).toNat ((0:Int),(0:Int),(0:Int),false,(0:Int),(0:Int),(0:Int),(0:Int),[])).snd.snd.snd.snd.snd.fst,(d.getD (i64.wrap (a+(1:Int))).toNat ((0:Int),(0:Int),(0:Int),false,(0:Int),(0:Int),(0:Int),(0:Int),[])).snd.snd.snd.snd.snd.snd.fst,(d.getD (i64.wrap (a+(1:Int))).toNat ((0:Int),(0:Int),(0:Int),false,(0:Int),(0:Int),(0:Int),(0:Int),[])).snd.snd.snd.snd.snd.snd.snd.fst,(d.getD (i64.wrap (a+(1:Int))).toNat ((0:Int),(0:Int),(0:Int),false,(0:Int),(0:Int),(0:Int),(0:Int),[])).snd.snd.snd.snd.snd.snd.snd.snd)).set (i64.wrap (a+(1:Int))).toNat ((d.getD a.toNat ((0:Int),(0:Int),(0:Int),false,(0:Int),(0:Int),(0:Int),(0:Int),[])).fst,(d.getD a.toNat ((0:Int),(0:Int),(0:Int),false,(0:Int),(0:Int),(0:Int),(0:Int),[])).snd.fst,(d.getD a.toNat ((0:Int),(0:Int),(0:Int),false,(0:Int),(0:Int),(0:Int),(0:Int),[])).snd.snd.fst,(d.getD a.toNat ((0:Int),(0:Int),(0:Int),false,(0:Int),(0:Int),(0:Int),(0:Int),[])).snd.snd.snd.fst,(d.getD a.toNat ((0:Int),(0:Int),(0:Int),false,(0:Int),(0:Int),(0:Int),(0:Int),[])).snd.snd.snd.snd.fst,(d.getD a.toNat ((0:Int),(0:Int),(0:Int),false,(0:Int),(0:Int),(0:Int),(0:Int),[])).snd.snd.snd.snd.snd.fst,(d.getD a.toNat ((0:Int),(0:Int),(0:Int),false,(0:Int),(0:Int),(0:Int),(0:Int),[])).snd.snd.snd.snd.snd.snd.fst,(d.getD a.toNat ((0:Int),(0:Int),(0:Int),false,(0:Int),(0:Int),(0:Int),(0:Int),[])).snd.snd.snd.snd.snd.snd.snd.fst,(d.getD a.toNat ((0:Int),(0:Int),(0:Int),false,(0:Int),(0:Int),(0:Int),(0:Int),[])).snd.snd.snd.snd.snd.snd.snd.snd),g,h,i,j,k,l,m,e)
  else none
  else none)
  else none
  else none
  else
  b (d,g,h,i,j,k,l,m,e)) (fun v=>R (T143_e16_2 v)) (E143_e16_2 K):=by
  kernel_rfl
theorem S143_e16_2_ok (fuel:Nat) (l:YF143_e16) (R:Ev.St→OA) (K:KT) (b c:Int) (d:(List (Int×(Int×(Int×(Bool×(Int×(Int×(Int×(Int×LI)))))))))) (e f:Int) (g:Bool) (h i j:Int) (k:Bool) (a:Int):evalCode tab (G143_e16 fuel l) (J143_e16_2 fuel) kp143_e16 fuel (bodyOf 2 Tryz.f143) (T143_e16_2 (b,c,d,e,f,g,h,i,j,k,a)) (lc kp143_e16 9 2 R K)=S_slices_symMergeCmpFunc_api_Item_e16_2 fuel (b,c,d,e,f,g,h,i,j,k,a) (fun v=>R (T143_e16_2 v)) (E143_e16_2 K):=
  S143_e16_2_okg fuel (F_text_Order_1_805 fuel) l (F_slices_rotateCmpFunc_api_Item_e16 fuel) R K b c d e f g h i j k a
def B143_e16_2 (fuel:Nat):Ev.Blk:=fun st K=>match canonO (kp143_e16 9) st with | some s=>(match s with | ⟨[(b,.c (.own d)),(e,.c (i6 f)),(g,.c (i6 h))],[(i,.vec j (.pair (.int .i64) (.pair (.int .i64) (.pair (.int .i64) (.pair .bool (.pair (.int .i64) (.pair (.int .i64) (.pair (.int .i64) (.pair (.int .i64) (.sl (.int .u8)))))))))) k false),(l,.cells m [i6 n,i6 o,.bool p,i6 q,i6 r,i6 t,.bool u,i6 a])],v,w⟩=>bif qb [b,d,e,g,i,j,l,m,v,w] [0,0,10,13,0,85,1,51,2,2] then iter (S_slices_symMergeCmpFunc_api_Item_e16_2 fuel) fuel (f,h,k,n,o,p,q,r,t,u,a) (E143_e16_2 K) else none | _=>none) | none=>none
theorem B143_e16_2_ok (fuel:Nat) (a:YF143_e16) (st:Ev.St) (K:KT) (r:Ans) (h:B143_e16_2 fuel st K=some r):evalCode tab (G143_e16 fuel a) (J143_e16_2 fuel) kp143_e16 fuel (.block 2 (.loop (bodyOf 2 Tryz.f143))) st K=some r:=by
  unfold B143_e16_2 at h
  split at h
  · rename_i s hs
    split at h
    · skip
      obtain ⟨hb,h⟩:=cond_some' h
      cases qb_eq hb
      exact blk_loop (S:=T143_e16_2) (ks:=E143_e16_2) (step:=S_slices_symMergeCmpFunc_api_Item_e16_2 fuel) (v:=(_,_,_,_,_,_,_,_,_,_,_)) (by kernel_rfl) (by kernel_rfl) (fun R K v=>by obtain ⟨c,d,e,f,g,i,j,k,l,m,b⟩:=v; exact S143_e16_2_ok fuel a R K c d e f g i j k l m b) hs h
    · cases h
  · cases h
abbrev V_slices_symMergeCmpFunc_api_Item_e16_4:Type:=Int×Int×Int×(List (Int×(Int×(Int×(Bool×(Int×(Int×(Int×(Int×LI)))))))))×Int×Int×Bool×Int×Int×Int×Bool×Int
abbrev W_slices_symMergeCmpFunc_api_Item_e16_4:Type:=(Int×Int×(List (Int×(Int×(Int×(Bool×(Int×(Int×(Int×(Int×LI)))))))))×Int×Int×Bool×Int×Int×Int×Bool×Int→OA)
def S_slices_symMergeCmpFunc_api_Item_e16_4 (fuel:Nat) (v:Int×Int×Int×(List (Int×(Int×(Int×(Bool×(Int×(Int×(Int×(Int×(List Int))))))))))×Int×Int×Bool×Int×Int×Int×Bool×Int) (c:(Int×Int×Int×(List (Int×(Int×(Int×(Bool×(Int×(Int×(Int×(Int×(List Int))))))))))×Int×Int×Bool×Int×Int×Int×Bool×Int)→Option Ans) (B:(Int×Int×(List (Int×(Int×(Int×(Bool×(Int×(Int×(Int×(Int×(List Int))))))))))×Int×Int×Bool×Int×Int×Int×Bool×Int→Option Ans)):Option Ans:=match v,B with | (f,d,e,a,r,s,t,u,w,x,p,q),b=>bif decide (d < e) then bif decide ((0:Int)≤f∧f < (↑a.length:Int)) then bif decide ((0:Int)≤i64.wrap (Ev.ishr IntKind.u64 (u64.wrap (i64.wrap (d+e))) (1:Int))∧i64.wrap (Ev.ishr IntKind.u64 (u64.wrap (i64.wrap (d+e))) (1:Int)) < (↑a.length:Int)) then both ((F_text_Order_1_805 fuel ((a.getD f.toNat ((0:Int),(0:Int),(0:Int),false,(0:Int),(0:Int),(0:Int),(0:Int),[])).fst) ((a.getD f.toNat ((0:Int),(0:Int),(0:Int),false,(0:Int),(0:Int),(0:Int),(0:Int),[])).snd.fst) ((a.getD f.toNat ((0:Int),(0:Int),(0:Int),false,(0:Int),(0:Int),(0:Int),(0:Int),[])).snd.snd.fst) ((a.getD f.toNat ((0:Int),(0:Int),(0:Int),false,(0:Int),(0:Int),(0:Int),(0:Int),[])).snd.snd.snd.fst) ((a.getD f.toNat ((0:Int),(0:Int),(0:Int),false,(0:Int),(0:Int),(0:Int),(0:Int),[])).snd.snd.snd.snd.fst) ((a.getD f.toNat ((0:Int),(0:Int),(0:Int),false,(0:Int),(0:Int),(0:Int),(0:Int),[])).snd.snd.snd.snd.snd.fst) ((a.getD f.toNat ((0:Int),(0:Int),(0:Int),false,(0:Int),(0:Int),(0:Int),(0:Int),[])).snd.snd.snd.snd.snd.snd.fst) ((a.getD f.toNat ((0:Int),(0:Int),(0:Int),false,(0:Int),(0:Int),(0:Int),(0:Int),[])).snd.snd.snd.snd.snd.snd.snd.fst) ((a.getD f.toNat ((0:Int),(0:Int),(0:Int),false,(0:Int),(0:Int),(0:Int),(0:Int),[])).snd.snd.snd.snd.snd.snd.snd.snd) ((a.getD (i64.wrap (Ev.ishr IntKind.u64 (u64.wrap (i64.wrap (d+e))) (1:Int))).toNat ((0:Int),(0:Int),(0:Int),false,(0:Int),(0:Int),(0:Int),(0:Int),[])).fst) ((a.getD (i64.wrap (Ev.ishr IntKind.u64 (u64.wrap (i64.wrap (d+e))) (1:Int))).toNat ((0:Int),(0:Int),(0:Int),false,(0:Int),(0:Int),(0:Int),(0:Int),[])).snd.fst) ((a.getD (i64.wrap (Ev.ishr IntKind.u64 (u64.wrap (i64.wrap (d+e))) (1:Int))).toNat ((0:Int),(0:Int),(0:Int),false,(0:Int),(0:Int),(0:Int),(0:Int),[])).snd.snd.fst) ((a.getD (i64.wrap (Ev.ishr IntKind.u64 (u64.wrap (i64.wrap (d+e))) (1:Int))).toNat ((0:Int),(0:Int),(0:Int),false,(0:Int),(0:Int),(0:Int),(0:Int),[])).snd.snd.snd.fst) ((a.getD (i64.wrap (Ev.ishr IntKind.u64 (u64.wrap (i64.wrap (d+e))) (1:Int))).toNat ((0:Int),(0:Int),(0:Int),false,(0:Int),(0:Int),(0:Int),(0:Int),[])).snd.snd.snd.snd.fst) ((a.getD (i64.wrap (Ev.ishr IntKind.u64 (u64.wrap (i64.wrap (d+e))) (1:Int))).toNat ((0:Int),(0:Int),(0:Int),false,(0:Int),(0:Int),(0:Int),(0:Int),[])).snd.snd.snd.snd.snd.fst) ((a.getD (i64.wrap (Ev.ishr IntKind.u64 (u64.wrap (i64.wrap (d+e))) (1:Int))).toNat ((0:Int),(0:Int),(0:Int),false,(0:Int),(0:Int),(0:Int),(0:Int),[])).snd.snd.snd.snd.snd.snd.fst) ((a.getD (i64.wrap (Ev.ishr IntKind.u64 (u64.wrap (i64.wrap (d+e))) (1:Int))).toNat ((0:Int),(0:Int),(0:Int),false,(0:Int),(0:Int),(0:Int),(0:Int),[])).snd.snd.snd.snd.snd.snd.snd.fst) ((a.getD (i64.wrap (Ev.ishr IntKind.u64 (u64.wrap (i64.wrap (d+e))) (1:Int))).toNat ((0:Int),(0:Int),(0:Int),false,(0:Int),(0:Int),(0:Int),(0:Int),[])).snd.snd.snd.snd.snd.snd.snd.snd) r s t u w x p q (fun (o,g,h,i,j,k,l,m,n)=>bif !decide (o < (0:Int)) then c (f,i64.wrap (i64.wrap (Ev.ishr IntKind.u64 (u64.wrap (i64.wrap (d+e))) (1:Int))+(1:Int)),e,a,g,h,i,j,k,l,m,n) else c (f,d,i64.wrap (Ev.ishr IntKind.u64 (u64.wrap (i64.wrap (d+e))) (1:Int)),a,g,h,i,j,k,l,m,n)))) ((F_text_Order_1_805 fuel ((a.getD f.toNat ((0:Int),(0:Int),(0:Int),false,(0:Int),(0:Int),(0:Int),(0:Int),[])).fst) ((a.getD f.toNat ((0:Int),(0:Int),(0:Int),false,(0:Int),(0:Int),(0:Int),(0:Int),[])).snd.fst) ((a.getD f.toNat ((0:Int),(0:Int),(0:Int),false,(0:Int),(0:Int),(0:Int),(0:Int),[])).snd.snd.fst) ((a.getD f.toNat ((0:Int),(0:Int),(0:Int),false,(0:Int),(0:Int),(0:Int),(0:Int),[])).snd.snd.snd.fst) ((a.getD f.toNat ((0:Int),(0:Int),(0:Int),false,(0:Int),(0:Int),(0:Int),(0:Int),[])).snd.snd.snd.snd.fst) ((a.getD f.toNat ((0:Int),(0:Int),(0:Int),false,(0:Int),(0:Int),(0:Int),(0:Int),[])).snd.snd.snd.snd.snd.fst) ((a.getD f.toNat ((0:Int),(0:Int),(0:Int),false,(0:Int),(0:Int),(0:Int),(0:Int),[])).snd.snd.snd.snd.snd.snd.fst) ((a.getD f.toNat ((0:Int),(0:Int),(0:Int),false,(0:Int),(0:Int),(0:Int),(0:Int),[])).snd.snd.snd.snd.snd.snd.snd.fst) ((a.getD f.toNat ((0:Int),(0:Int),(0:Int),false,(0:Int),(0:Int),(0:Int),(0:Int),[])).snd.snd.snd.snd.snd.snd.snd.snd) ((a.getD (i64.wrap (Ev.ishr IntKind.u64 (u64.wrap (i64.wrap (d+e))) (1:Int))).toNat ((0:Int),(0:Int),(0:Int),false,(0:Int),(0:Int),(0:Int),(0:Int),[])).fst) ((a.getD (i64.wrap (Ev.ishr IntKind.u64 (u64.wrap (i64.wrap (d+e))) (1:Int))).toNat ((0:Int),(0:Int),(0:Int),false,(0:Int),(0:Int),(0:Int),(0:Int),[])).snd.fst) ((a.getD (i64.wrap (Ev.ishr IntKind.u64 (u64.wrap (i64.wrap (d+e))) (1:Int))).toNat ((0:Int),(0:Int),(0:Int),false,(0:Int),(0:Int),(0:Int),(0:Int),[])).snd.snd.fst) ((a.getD (i64.wrap (Ev.ishr IntKind.u64 (u64.wrap (i64.wrap (d+e))) (1:Int))).toNat ((0:Int),(0:Int),(0:Int),false,(0:Int),(0:Int),(0:Int),(0:Int),[])).snd.snd.snd.fst) ((a.getD (i64.wrap (Ev.ishr IntKind.u64 (u64.wrap (i64.wrap (d+e))) (1:Int))).toNat ((0:Int),(0:Int),(0:Int),false,(0:Int),(0:Int),(0:Int),(0:Int),[])).snd.snd.snd.snd.fst) ((a.getD (i64.wrap (Ev.ishr IntKind.u64 (u64.wrap (i64.wrap (d+e))) (1:Int))).toNat ((0:Int),(0:Int),(0:Int),false,(0:Int),(0:Int),(0:Int),(0:Int),[])).snd.snd.snd.snd.snd.fst) ((a.getD (i64.wrap (Ev.ishr IntKind.u64 (u64.wrap (i64.wrap (d+e))) (1:Int))).toNat ((0:Int),(0:Int),(0:Int),false,(0:Int),(0:Int),(0:Int),(0:Int),[])).snd.snd.snd.snd.snd.snd.fst) ((a.getD (i64.wrap (Ev.ishr IntKind.u64 (u64.wrap (i64.wrap (d+e))) (1:Int))).toNat ((0:Int),(0:Int),(0:Int),false,(0:Int),(0:Int),(0:Int),(0:Int),[])).snd.snd.snd.snd.snd.snd.snd.fst) ((a.getD (i64.wrap (Ev.ishr IntKind.u64 (u64.wrap (i64.wrap (d+e))) (1:Int))).toNat ((0:Int),(0:Int),(0:Int),false,(0:Int),(0:Int),(0:Int),(0:Int),[])).snd.snd.snd.snd.snd.snd.snd.snd) r s t u w x p q (fun (o,g,h,i,j,k,l,m,n)=>bif !decide (o < (0:Int)) then c (f,i64.wrap (i64.wrap (Ev.ishr IntKind.u64 (u64.wrap (i64.wrap (d+e))) (1:Int))+(1:Int)),e,a,g,h,i,j,k,l,m,n) else c (f,d,i64.wrap (Ev.ishr IntKind.u64 (u64.wrap (i64.wrap (d+e))) (1:Int)),a,g,h,i,j,k,l,m,n)))) else none else none else b (f,d,a,r,s,t,u,w,x,p,q)
def L_slices_symMergeCmpFunc_api_Item_e16_4 (fuel:Nat) (v:V_slices_symMergeCmpFunc_api_Item_e16_4) (b:W_slices_symMergeCmpFunc_api_Item_e16_4):Option Ans:=iter (S_slices_symMergeCmpFunc_api_Item_e16_4 fuel) fuel v b
def J143_e16_4 (fuel:Nat) (i:Nat):Option Ev.Blk:=Ev.look i [(100000,B143_e16_0 fuel),(100002,B143_e16_2 fuel)]
def T143_e16_4 (v:V_slices_symMergeCmpFunc_api_Item_e16_4):Ev.St:=match v with | (d,e,f,g,h,i,j,k,l,m,a,b)=>⟨[(0,.c (.own 0)),(2,.c (i6 d)),(4,.c (.clo 54 [1])),(14,.c (i6 e)),(15,.c (i6 f))],[(0,.vec 85 (.pair (.int .i64) (.pair (.int .i64) (.pair (.int .i64) (.pair .bool (.pair (.int .i64) (.pair (.int .i64) (.pair (.int .i64) (.pair (.int .i64) (.sl (.int .u8)))))))))) g false),(1,.cells 51 [i6 h,i6 i,.bool j,i6 k,i6 l,i6 m,.bool a,i6 b])],2,2⟩
def E143_e16_4 (K:KT):W_slices_symMergeCmpFunc_api_Item_e16_4:=(fun v=>match v with | (b,d,e,f,g,h,i,j,k,l,a)=>K .normal ⟨[(0,.c (.own 0)),(2,.c (i6 b)),(14,.c (i6 d))],[(0,.vec 85 (.pair (.int .i64) (.pair (.int .i64) (.pair (.int .i64) (.pair .bool (.pair (.int .i64) (.pair (.int .i64) (.pair (.int .i64) (.pair (.int .i64) (.sl (.int .u8)))))))))) e false),(1,.cells 51 [i6 f,i6 g,.bool h,i6 i,i6 j,i6 k,.bool l,i6 a])],2,2⟩)
theorem S143_e16_4_okg (fuel:Nat) (x:YF54_805) (z:YF143_e16) (A:YF176_e16) (R:Ev.St→OA) (K:KT) (f d e:Int) (a:(List (Int×(Int×(Int×(Bool×(Int×(Int×(Int×(Int×LI)))))))))) (q r:Int) (s:Bool) (t u w:Int) (o:Bool) (p:Int):evalCode tab (Gg143_e16 x z A) (J143_e16_4 fuel) kp143_e16 fuel (bodyOf 4 Tryz.f143) (T143_e16_4 (f,d,e,a,q,r,s,t,u,w,o,p)) (lc kp143_e16 15 4 R K)=(fun (c:(Int×Int×Int×(List (Int×(Int×(Int×(Bool×(Int×(Int×(Int×(Int×LI)))))))))×Int×Int×Bool×Int×Int×Int×Bool×Int)→OA) (B:(Int×Int×(List (Int×(Int×(Int×(Bool×(Int×(Int×(Int×(Int×LI)))))))))×Int×Int×Bool×Int×Int×Int×Bool×Int→OA))=>match B with
 | b=>
  bif decide (d < e) then
  bif decide ((0:Int)≤f∧f < (↑a.length:Int)) then
  bif decide ((0:Int)≤i64.wrap (Ev.ishr IntKind.u64 (u64.wrap (i64.wrap (d+e))) (1:Int))∧i64.wrap (Ev.ishr IntKind.u64 (u64.wrap (i64.wrap (d+e))) (1:Int)) < (↑a.length:Int)) then
  both ((x ((a.getD f.toNat ((0:Int),(0:Int),(0:Int),false,(0:Int),(0:Int),(0:Int),(0:Int),[])).fst) ((a.getD f.toNat ((0:Int),(0:Int),(0:Int),false,(0:Int),(0:Int),(0:Int),(0:Int),[])).snd.fst) ((a.getD f.toNat ((0:Int),(0:Int),(0:Int),false,(0:Int),(0:Int),(0:Int),(0:Int),[])).snd.snd.fst) ((a.getD f.toNat ((0:Int),(0:Int),(0:Int),false,(0:Int),(0:Int),(0:Int),(0:Int),[])).snd.snd.snd.fst) ((a.getD f.toNat ((0:Int),(0:Int),(0:Int),false,(0:Int),(0:Int),(0:Int),(0:Int),[])).snd.snd.snd.snd.fst) ((a.getD f.toNat ((0:Int),(0:Int),(0:Int),false,(0:Int),(0:Int),(0:Int),(0:Int),[])).snd.snd.snd.snd.snd.fst) ((a.getD f.toNat ((0:Int),(0:Int),(0:Int),false,(0:Int),(0:Int),(0:Int),(0:Int),[])).snd.snd.snd.snd.snd.snd.fst) ((a.getD f.toNat ((0:Int),(0:Int),(0:Int),false,(0:Int),(0:Int),(0:Int),(0:Int),[])).snd.snd.snd.snd.snd.snd.snd.fst) ((a.getD f.toNat ((0:Int),(0:Int),(0:Int),false,(0:Int),(0:Int),(0:Int),(0:Int),[])).snd.snd.snd.snd.snd.snd.snd.snd) ((a.getD (i64.wrap (Ev.ishr IntKind.u64 (u64.wrap (i64.wrap (d+e))) (1:Int))).toNat ((0:Int),(0:Int),(0:Int),false,(0:Int),(0:Int),(0:Int),(0:Int),[])).fst) ((a.getD (i64.wrap (Ev.ishr IntKind.u64 (u64.wrap (i64.wrap (d+e))) (1:Int))).toNat ((0:Int),(0:Int),(0:Int),false,(0:Int),(0:Int),(0:Int),(0:Int),[])).snd.fst) ((a.getD (i64.wrap (Ev.ishr IntKind.u64 (u64.wrap (i64.wrap (d+e))) (1:Int))).toNat ((0:Int),(0:Int),(0:Int),false,(0:Int),(0:Int),(0:Int),(0:Int),[])).snd.snd.fst) ((a.getD (i64.wrap (Ev.ishr IntKind.u64 (u64.wrap (i64.wrap (d+e))) (1:Int))).toNat ((0:Int),(0:Int),(0:Int),false,(0:Int),(0:Int),(0:Int),(0:Int),[])).snd.snd.snd.fst) ((a.getD (i64.wrap (Ev.ishr IntKind.u64 (u64.wrap (i64.wrap (d+e))) (1:Int))).toNat ((0:Int),(0:Int),(0:Int),false,(0:Int),(0:Int),(0:Int),(0:Int),[])).snd.snd.snd.snd.fst) ((a.getD (i64.wrap (Ev.ishr IntKind.u64 (u64.wrap (i64.wrap (d+e))) (1:Int))).toNat ((0:Int),(0:Int),(0:Int),false,(0:Int),(0:Int),(0:Int),(0:Int),[])).snd.snd.snd.snd.snd.fst) ((a.getD (i64.wrap (Ev.ishr IntKind.u64 (u64.wrap (i64.wrap (d+e))) (1:Int))).toNat ((0:Int),(0:Int),(0:Int),false,(0:Int),(0:Int),(0:Int),(0:Int),[])).snd.snd.snd.snd.snd.snd.fst) ((a.getD (i64.wrap (Ev.ishr IntKind.u64 (u64.wrap (i64.wrap (d+e))) (1:Int))).toNat ((0:Int),(0:Int),(0:Int),false,(0:Int),(0:Int),(0:Int),(0:Int),[])).snd.snd.snd.snd.snd.snd.snd.fst) ((a.getD (i64.wrap (Ev.ishr IntKind.u64 (u64.wrap (i64.wrap (d+e))) (1:Int))).toNat ((0:Int),(0:Int),(0:Int),false,(0:Int),(0:Int),(0:Int),(0:Int),[])).snd.snd.snd.snd.snd.snd.snd.snd) q r s t u w o p
  (fun (y,g,h,i,j,k,l,m,n)=>
  bif !decide (y < (0:Int)) then
  c (f,i64.wrap (i64.wrap (Ev.ishr IntKind.u64 (u64.wrap (i64.wrap (d+e))) (1:Int))+(1:Int)),e,a,g,h,i,j,k,l,m,n)
  else
  c (f,d,i64.wrap (Ev.ishr IntKind.u64 (u64.wrap (i64.wrap (d+e))) (1:Int)),a,g,h,i,j,k,l,m,n))))
  ((x ((a.getD f.toNat ((0:Int),(0:Int),(0:Int),false,(0:Int),(0:Int),(0:Int),(0:Int),[])).fst) ((a.getD f.toNat ((0:Int),(0:Int),(0:Int),false,(0:Int),(0:Int),(0:Int),(0:Int),[])).snd.fst) ((a.getD f.toNat ((0:Int),(0:Int),(0:Int),false,(0:Int),(0:Int),(0:Int),(0:Int),[])).snd.snd.fst) ((a.getD f.toNat ((0:Int),(0:Int),(0:Int),false,(0:Int),(0:Int),(0:Int),(0:Int),[])).snd.snd.snd.fst) ((a.getD f.toNat ((0:Int),(0:Int),(0:Int),false,(0:Int),(0:Int),(0:Int),(0:Int),[])).snd.snd.snd.snd.fst) ((a.getD f.toNat ((0:Int),(0:Int),(0:Int),false,(0:Int),(0:Int),(0:Int),(0:Int),[])).snd.snd.snd.snd.snd.fst) ((a.getD f.toNat ((0:Int),(0:Int),(0:Int),false,(0:Int),(0:Int),(0:Int),(0:Int),[])).snd.snd.snd.snd.snd.snd.fst) ((a.getD f.toNat ((0:Int),(0:Int),(0:Int),false,(0:Int),(0:Int),(0:Int),(0:Int),[])).snd.snd.snd.snd.snd.snd.snd.fst) ((a.getD f.toNat ((0:Int),(0:Int),(0:Int),false,(0:Int),(0:Int),(0:Int),(0:Int),[])).snd.snd.snd.snd.snd.snd.snd.snd) ((a.getD (i64.wrap (Ev.ishr IntKind.u64 (u64.wrap (i64.wrap (d+e))) (1:Int))).toNat ((0:Int),(0:Int),(0:Int),false,(0:Int),(0:Int),(0:Int),(0:Int),[])).fst) ((a.getD (i64.wrap (Ev.ishr IntKind.u64 (u64.wrap (i64.wrap (d+e))) (1:Int))).toNat ((0:Int),(0:Int),(0:Int),false,(0:Int),(0:Int),(0:Int),(0:Int),[])).snd.fst) ((a.getD (i64.wrap (Ev.ishr IntKind.u64 (u64.wrap (i64.wrap (d+e))) (1:Int))).toNat ((0:Int),(0:Int),(0:Int),false,(0:Int),(0:Int),(0:Int),(0:Int),[])).snd.snd.fst) ((a.getD (i64.wrap (Ev.ishr IntKind.u64 (u64.wrap (i64.wrap (d+e))) (1:Int))).toNat ((0:Int),(0:Int),(0:Int),false,(0:Int),(0:Int),(0:Int),(0:Int),[])).snd.snd.snd.fst) ((a.getD (i64.wrap (Ev.ishr IntKind.u64 (u64.wrap (i64.wrap (d+e))) (1:Int))).toNat ((0:Int),(0:Int),(0:Int),false,(0:Int),(0:Int),(0:Int),(0:Int),[])).snd.snd.snd.snd.fst) ((a.getD (i64.wrap (Ev.ishr IntKind.u64 (u64.wrap (i64.wrap (d+e))) (1:Int))).toNat ((0:Int),(0:Int),(0:Int),false,(0:Int),(0:Int),(0:Int),(0:Int),[])).snd.snd.snd.snd.snd.fst) ((a.getD (i64.wrap (Ev.ishr IntKind.u64 (u64.wrap (i64.wrap (d+e))) (1:Int))).toNat ((0:Int),(0:Int),(0:Int),false,(0:Int),(0:Int),(0:Int),(0:Int),[])).snd.snd.snd.snd.snd.snd.fst) ((a.getD (i64.wrap (Ev.ishr IntKind.u64 (u64.wrap (i64.wrap (d+e))) (1:Int))).toNat ((0:Int),(0:Int),(0:Int),false,(0:Int),(0:Int),(0:Int),(0:Int),[])).snd.snd.snd.snd.snd.snd.snd.fst) ((a.getD (i64.wrap (Ev.ishr IntKind.u64 (u64.wrap (i64.wrap (d+e))) (1:Int))).toNat ((0:Int),(0:Int),(0:Int),false,(0:Int),(0:Int),(0:Int),(0:Int),[])).snd.snd.snd.snd.snd.snd.snd.snd) q r s t u w o p
  (fun (y,g,h,i,j,k,l,m,n)=>
  bif !decide (y < (0:Int)) then
  c (f,i64.wrap (i64.wrap (Ev.ishr IntKind.u64 (u64.wrap (i64.wrap (d+e))) (1:Int))+(1:Int)),e,a,g,h,i,j,k,l,m,n)
  else
  c (f,d,i64.wrap (Ev.ishr IntKind.u64 (u64.wrap (i64.wrap (d+e))) (1:Int)),a,g,h,i,j,k,l,m,n))))
  else none
  else none
  else
  b (f,d,a,q,r,s,t,u,w,o,p)) (fun v=>R (T143_e16_4 v)) (E143_e16_4 K):=by
  kernel_rfl
theorem S143_e16_4_ok (fuel:Nat) (m:YF143_e16) (R:Ev.St→OA) (K:KT) (c d e:Int) (f:(List (Int×(Int×(Int×(Bool×(Int×(Int×(Int×(Int×LI)))))))))) (g h:Int) (i:Bool) (j k l:Int) (a:Bool) (b:Int):evalCode tab (G143_e16 fuel m) (J143_e16_4 fuel) kp143_e16 fuel (bodyOf 4 Tryz.f143) (T143_e16_4 (c,d,e,f,g,h,i,j,k,l,a,b)) (lc kp143_e16 15 4 R K)=S_slices_symMergeCmpFunc_api_Item_e16_4 fuel (c,d,e,f,g,h,i,j,k,l,a,b) (fun v=>R (T143_e16_4 v)) (E143_e16_4 K):=
  S143_e16_4_okg fuel (F_text_Order_1_805 fuel) m (F_slices_rotateCmpFunc_api_Item_e16 fuel) R K c d e f g h i j k l a b
def B143_e16_4 (fuel:Nat):Ev.Blk:=fun st K=>match canonO (kp143_e16 15) st with | some s=>(match s with | ⟨[(h,.c (.own i)),(j,.c (i6 k)),(l,.c (.clo m [n])),(o,.c (i6 p)),(q,.c (i6 r))],[(t,.vec u (.pair (.int .i64) (.pair (.int .i64) (.pair (.int .i64) (.pair .bool (.pair (.int .i64) (.pair (.int .i64) (.pair (.int .i64) (.pair (.int .i64) (.sl (.int .u8)))))))))) v false),(a,.cells b [i6 w,i6 x,.bool y,i6 z,i6 A,i6 B,.bool d,i6 e])],f,g⟩=>bif qb [h,i,j,l,m,n,o,q,t,u,a,b,f,g] [0,0,2,4,54,1,14,15,0,85,1,51,2,2] then iter (S_slices_symMergeCmpFunc_api_Item_e16_4 fuel) fuel (k,p,r,v,w,x,y,z,A,B,d,e) (E143_e16_4 K) else none | _=>none) | none=>none
theorem B143_e16_4_ok (fuel:Nat) (a:YF143_e16) (st:Ev.St) (K:KT) (r:Ans) (h:B143_e16_4 fuel st K=some r):evalCode tab (G143_e16 fuel a) (J143_e16_4 fuel) kp143_e16 fuel (.block 4 (.loop (bodyOf 4 Tryz.f143))) st K=some r:=by
  unfold B143_e16_4 at h
  split at h
  · rename_i s hs
    split at h
    · skip
      obtain ⟨hb,h⟩:=cond_some' h
      cases qb_eq hb
      exact blk_loop (S:=T143_e16_4) (ks:=E143_e16_4) (step:=S_slices_symMergeCmpFunc_api_Item_e16_4 fuel) (v:=(_,_,_,_,_,_,_,_,_,_,_,_)) (by kernel_rfl) (by kernel_rfl) (fun R K v=>by obtain ⟨d,e,f,g,i,j,k,l,m,n,b,c⟩:=v; exact S143_e16_4_ok fuel a R K d e f g i j k l m n b c) hs h
    · cases h
  · cases h
abbrev V_slices_symMergeCmpFunc_api_Item_e16_6:Type:=Int×Int×(List (Int×(Int×(Int×(Bool×(Int×(Int×(Int×(Int×LI)))))))))×Int×Int×Bool×Int×Int×Int×Bool×Int
abbrev W_slices_symMergeCmpFunc_api_Item_e16_6:Type:=((List (Int×(Int×(Int×(Bool×(Int×(Int×(Int×(Int×LI)))))))))×Int×Int×Bool×Int×Int×Int×Bool×Int→OA)
def S_slices_symMergeCmpFunc_api_Item_e16_6 (fuel:Nat) (v:Int×Int×(List (Int×(Int×(Int×(Bool×(Int×(Int×(Int×(Int×(List Int))))))))))×Int×Int×Bool×Int×Int×Int×Bool×Int) (c:(Int×Int×(List (Int×(Int×(Int×(Bool×(Int×(Int×(Int×(Int×(List Int))))))))))×Int×Int×Bool×Int×Int×Int×Bool×Int)→Option Ans) (B:((List (Int×(Int×(Int×(Bool×(Int×(Int×(Int×(Int×(List Int))))))))))×Int×Int×Bool×Int×Int×Int×Bool×Int→Option Ans)):Option Ans:=match v,B with | (f,a,d,g,h,i,j,k,l,m,e),b=>bif decide (a > f) then bif decide ((0:Int)≤i64.wrap (a - (1:Int))∧i64.wrap (a - (1:Int)) < (↑d.length:Int)) then bif decide ((0:Int)≤a∧a < (↑d.length:Int)) then both (bif decide ((0:Int)≤a∧a < (↑d.length:Int)) then bif decide ((0:Int)≤i64.wrap (a - (1:Int))∧i64.wrap (a - (1:Int)) < (↑(d.set a.toNat ((d.getD (i64.wrap (a - (1:Int))).toNat ((0:Int),(0:Int),(0:Int),false,(0:Int),(0:Int),(0:Int),(0:Int),[])).fst,(d.getD (i64.wrap (a - (1:Int))).toNat ((0:Int),(0:Int),(0:Int),false,(0:Int),(0:Int),(0:Int),(0:Int),[])).snd.fst,(d.getD (i64.wrap (a - (1:Int))).toNat ((0:Int),(0:Int),(0:Int),false,(0:Int),(0:Int),(0:Int),(0:Int),[])).snd.snd.fst,(d.getD (i64.wrap (a - (1:Int))).toNat ((0:Int),(0:Int),(0:Int),false,(0:Int),(0:Int),(0:Int),(0:Int),[])).snd.snd.snd.fst,(d.getD (i64.wrap (a - (1:Int))).toNat ((0:Int),(0:Int),(0:Int),false,(0:Int),(0:Int),(0:Int),(0:Int),[])).snd.snd.snd.snd.fst,(d.getD (i64.wrap (a - (1:Int))).toNat ((0:Int),(0:Int),(0:Int),false,(0:Int),(0:Int),(0:Int),(0:Int),[])).snd.snd.snd.snd.snd.fst,(d.getD (i64.wrap (a - (1:Int))).toNat ((0:Int),(0:Int),(0:Int),false,(0:Int),(0:Int),(0:Int),(0:Int),[])).snd.snd.snd.snd.snd.snd.fst,(d.getD (i64.wrap (a - (1:Int))).toNat ((0:Int),(0:Int),(0:Int),false,(0:Int),(0:Int),(0:Int),(0:Int),[])).snd.snd.snd.snd.snd.snd.snd.fst,(d.getD (i64.wrap (a - (1:Int))).toNat ((0:Int),(0:Int),(0:Int),false,(0:Int),(0:Int),(0:Int),(0:Int),[])).snd.snd.snd.snd.snd.snd.snd.snd)).length:Int)) then c (f,i64.wrap (a - (1:Int)),(d.set a.toNat ((d.getD (i64.wrap (a - (1:Int))).toNat ((0:Int),(0:Int),(0:Int),false,(0:Int),(0:Int),(0:Int),(0:Int),[])).fst,(d.getD (i64.wrap (a - (1:Int))).toNat ((0:Int),(0:Int),(0:Int),false,(0:Int),(0:Int),(0:Int),(0:Int),[])).snd.fst,(d.getD (i64.wrap (a - (1:Int))).toNat ((0:Int),(0:Int),(0:Int),false,(0:Int),(0:Int),(0:Int),(0:Int),[])).snd.snd.fst,(d.getD (i64.wrap (a - (1:Int))).toNat ((0:Int),(0:Int),(0:Int),false,(0:Int),(0:Int),(0:Int),(0:Int),[])).snd.snd.snd.fst,(d.getD (i64.wrap (a - (1:Int))).toNat ((0:Int),(0:Int),(0:Int),false,(0:Int),(0:Int),(0:Int),(0:Int),[])).snd.snd.snd.snd.fst,(d.getD (i64.wrap (a - (1:Int))).toNat ((0:Int),(0:Int),(0:Int),false,(0:Int),(0:Int),(0:Int),(0:Int),[])).snd.snd.snd.snd.snd.fst,(d.getD (i64.wrap (a - (1:Int))).toNat ((0:Int),(0:Int),(0:Int),false,(0:Int),(0:Int),(0:Int),(0:Int),[])).snd.snd.snd.snd.snd.snd.fst,(d.getD (i64.wrap (a - (1:Int))).toNat ((0:Int),(0:Int),(0:Int),false,(0:Int),(0:Int),(0:Int),(0:Int),[])).snd.snd.snd.snd.snd.snd.snd.fst,(d.getD (i64.wrap (a - (1:Int))).toNat ((0:Int),(0:Int),(0:Int),false,(0:Int),(0:Int),(0:Int),(0:Int),[])).snd.snd.snd.snd.snd.snd.snd.snd)).set (i64.wrap (a - (1:Int))).toNat ((d.getD a.toNat ((0:Int),(0:Int),(0:Int),false,(0:Int),(0:Int),(0:Int),(0:Int),[])).fst,(d.getD a.toNat ((0:Int),(0:Int),(0:Int),false,(0:Int),(0:Int),(0:Int),(0:Int),[])).snd.fst,(d.getD a.toNat ((0:Int),(0:Int),(0:Int),false,(0:Int),(0:Int),(0:Int),(0:Int),[])).snd.snd.fst,(d.getD a.toNat ((0:Int),(0:Int),(0:Int),false,(0:Int),(0:Int),(0:Int),(0:Int),[])).snd.snd.snd.fst,(d.getD a.toNat ((0:Int),(0:Int),(0:Int),false,(0:Int),(0:Int),(0:Int),(0:Int),[])).snd.snd.snd.snd.fst,(d.getD a.toNat ((0:Int),(0:Int),(0:Int),false,(0:Int),(0:Int),(0:Int),(0:Int),[])).snd.snd.snd.snd.snd.fst,(d.getD a.toNat ((0:Int),(0:Int),(0:Int),false,(0:Int),(0:Int),(0:Int),(0:Int),[])).snd.snd.snd.snd.snd.snd.fst,(d.getD a.toNat ((0:Int),(0:Int),(0:Int),false,(0:Int),(0:Int),(0:Int),(0:Int),[])).snd.snd.snd.snd.snd.snd.snd.fst,(d.getD a.toNat ((0:Int),(0:Int),(0:Int),false,(0:Int),(0:Int),(0:Int),(0:Int),[])).snd.snd.snd.snd.snd.snd.snd.snd),g,h,i,j,k,l,m,e) else none else none) (bif decide ((0:Int)≤a∧a < (↑d.length:Int)) then bif decide ((0:Int)≤i64.wrap (a - (1:Int))∧i64.wrap (a - (1:Int)) < (↑(d.set a.toNat ((d.getD (i64.wrap (a - (1:Int))).toNat ((0:Int),(0:Int),(0:Int),false,(0:Int),(0:Int),(0:Int),(0:Int),[])).fst,(d.getD (i64.wrap (a - (1:Int))).toNat ((0:Int),(0:Int),(0:Int),false,(0:Int),(0:Int),(0:Int),(0:Int),[])).snd.fst,(d.getD (i64.wrap (a - (1:Int))).toNat ((0:Int),(0:Int),(0:Int),false,(0:Int),(0:Int),(0:Int),(0:Int),[])).snd.snd.fst,(d.getD (i64.wrap (a - (1:Int))).toNat ((0:Int),(0:Int),(0:Int),false,(0:Int),(0:Int),(0:Int),(0:Int),[])).snd.snd.snd.fst,(d.getD (i64.wrap (a - (1:Int))).toNat ((0:Int),(0:Int),(0:Int),false,(0:Int),(0:Int),(0:Int),(0:Int),[])).snd.snd.snd.snd.fst,(d.getD (i64.wrap (a - (1:Int))).toNat ((0:Int),(0:Int),(0:Int),false,(0:Int),(0:Int),(0:Int),(0:Int),[])).snd.snd.snd.snd.snd.fst,(d.getD (i64.wrap (a - (1:Int))).toNat ((0:Int),(0:Int),(0:Int),false,(0:Int),(0:Int),(0:Int),(0:Int),[])).snd.snd.snd.snd.snd.snd.fst,(d.getD (i64.wrap (a - (1:Int))).toNat ((0:Int),(0:Int),(0:Int),false,(0:Int),(0:Int),(0:Int),(0:Int),[])).snd.snd.snd.snd.snd.snd.snd.fst,(d.getD (i64.wrap (a - (1:Int))).toNat ((0:Int),(0:Int),(0:Int),false,(0:Int),(0:Int),(0:Int),(0:Int),[])).snd.snd.snd.snd.snd.snd.snd.snd)).length:Int)) then c (f,i64.wrap (a - (1:Int)),(d.set a.toNat ((d.getD (i64.wrap (a - (1:Int))).toNat ((0:Int),(0:Int),(0:Int),false,(0:Int),(0:Int),(0:Int),(0:Int),[])).fst,(d.getD (i64.wrap (a - (1:Int))).toNat ((0:Int),(0:Int),(0:Int),false,(0:Int),(0:Int),(0:Int),(0:Int),[])).snd.fst,(d.getD (i64.wrap (a - (1:Int))).toNat ((0:Int),(0:Int),(0:Int),false,(0:Int),(0:Int),(0:Int),(0:Int),[])).snd.snd.fst,(d.getD (i64.wrap (a - (1:Int))).toNat ((0:Int),(0:Int),(0:Int),false,(0:Int),(0:Int),(0:Int),(0:Int),[])).snd.snd.snd.fst,(d.getD (i64.wrap (a - (1:Int))).toNat ((0:Int),(0:Int),(0:Int),false,(0:Int),(0:Int),(0:Int),(0:Int),[])).snd.snd.snd.snd.fst,(d.getD (i64.wrap (a - (1:Int))).toNat ((0:Int),(0:Int),(0:Int),false,(0:Int),(0:Int),(0:Int),(0:Int),[])).snd.snd.snd.snd.snd.fst,(d.getD (i64.wrap (a - (1:Int))).toNat ((0:Int),(0:Int),(0:Int),false,(0:Int),(0:Int),(0:Int),(0:Int),[])).snd.snd.snd.snd.snd.snd.fst,(d.getD (i64.wrap (a - (1:Int))).toNat ((0:Int),(0:Int),(0:Int),false,(0:Int),(0:Int),(0:Int),(0:Int),[])).snd.snd.snd.snd.snd.snd.snd.fst,(d.getD (i64.wrap (a - (1:Int))).toNat ((0:Int),(0:Int),(0:Int),false,(0:Int),(0:Int),(0:Int),(0:Int),[])).snd.snd.snd.snd.snd.snd.snd.snd)).set (i64.wrap (a - (1:Int))).toNat ((d.getD a.toNat ((0:Int),(0:Int),(0:Int),false,(0:Int),(0:Int),(0:Int),(0:Int),[])).fst,(d.getD a.toNat ((0:Int),(0:Int),(0:Int),false,(0:Int),(0:Int),(0:Int),(0:Int),[])).snd.fst,(d.getD a.toNat ((0:Int),(0:Int),(0:Int),false,(0:Int),(0:Int),(0:Int),(0:Int),[])).snd.snd.fst,(d.getD a.toNat ((0:Int),(0:Int),(0:Int),false,(0:Int),(0:Int),(0:Int),(0:Int),[])).snd.snd.snd.fst,(d.getD a.toNat ((0:Int),(0:Int),(0:Int),false,(0:Int),(0:Int),(0:Int),(0:Int),[])).snd.snd.snd.snd.fst,(d.getD a.toNat ((0:Int),(0:Int),(0:Int),false,(0:Int),(0:Int),(0:Int),(0:Int),[])).snd.snd.snd.snd.snd.fst,(d.getD a.toNat ((0:Int),(0:Int),(0:Int),false,(0:Int),(0:Int),(0:Int),(0:Int),[])).snd.snd.snd.snd.snd.snd.fst,(d.getD a.toNat ((0:Int),(0:Int),(0:Int),false,(0:Int),(0:Int),(0:Int),(0:Int),[])).snd.snd.snd.snd.snd.snd.snd.fst,(d.getD a.toNat ((0:Int),(0:Int),(0:Int),false,(0:Int),(0:Int),(0:Int),(0:Int),[])).snd.snd.snd.snd.snd.snd.snd.snd),g,h,i,j,k,l,m,e) else none else none) else none else none else b (d,g,h,i,j,k,l,m,e)
def L_slices_symMergeCmpFunc_api_Item_e16_6 (fuel:Nat) (v:V_slices_symMergeCmpFunc_api_Item_e16_6) (b:W_slices_symMergeCmpFunc_api_Item_e16_6):Option Ans:=iter (S_slices_symMergeCmpFunc_api_Item_e16_6 fuel) fuel v b
def J143_e16_6 (fuel:Nat) (i:Nat):Option Ev.Blk:=Ev.look i [(100000,B143_e16_0 fuel),(100002,B143_e16_2 fuel),(100004,B143_e16_4 fuel)]
def T143_e16_6 (v:V_slices_symMergeCmpFunc_api_Item_e16_6):Ev.St:=match v with | (b,d,e,f,g,h,i,j,k,l,a)=>⟨[(0,.c (.own 0)),(14,.c (i6 b)),(17,.c (i6 d))],[(0,.vec 85 (.pair (.int .i64) (.pair (.int .i64) (.pair (.int .i64) (.pair .bool (.pair (.int .i64) (.pair (.int .i64) (.pair (.int .i64) (.pair (.int .i64) (.sl (.int .u8)))))))))) e false),(1,.cells 51 [i6 f,i6 g,.bool h,i6 i,i6 j,i6 k,.bool l,i6 a])],2,2⟩
def E143_e16_6 (K:KT):W_slices_symMergeCmpFunc_api_Item_e16_6:=(fun v=>match v with | (a,b,c,d,e,f,g,h,i)=>K .normal ⟨[],[(0,.vec 85 (.pair (.int .i64) (.pair (.int .i64) (.pair (.int .i64) (.pair .bool (.pair (.int .i64) (.pair (.int .i64) (.pair (.int .i64) (.pair (.int .i64) (.sl (.int .u8)))))))))) a false),(1,.cells 51 [i6 b,i6 c,.bool d,i6 e,i6 f,i6 g,.bool h,i6 i])],2,2⟩)
theorem S143_e16_6_okg (fuel:Nat) (p:YF54_805) (n:YF143_e16) (o:YF176_e16) (R:Ev.St→OA) (K:KT) (f a:Int) (d:(List (Int×(Int×(Int×(Bool×(Int×(Int×(Int×(Int×LI)))))))))) (g h:Int) (i:Bool) (j k l:Int) (m:Bool) (e:Int):evalCode tab (Gg143_e16 p n o) (J143_e16_6 fuel) kp143_e16 fuel (bodyOf 6 Tryz.f143) (T143_e16_6 (f,a,d,g,h,i,j,k,l,m,e)) (lc kp143_e16 21 6 R K)=(fun (c:(Int×Int×(List (Int×(Int×(Int×(Bool×(Int×(Int×(Int×(Int×LI)))))))))×Int×Int×Bool×Int×Int×Int×Bool×Int)→OA) (B:((List (Int×(Int×(Int×(Bool×(Int×(Int×(Int×(Int×LI)))))))))×Int×Int×Bool×Int×Int×Int×Bool×Int→OA))=>match B with
 | b=>
  bif decide (a > f) then
  bif decide ((0:Int)≤i64.wrap (a - (1:Int))∧i64.wrap (a - (1:Int)) < (↑d.length:Int)) then
  bif decide ((0:Int)≤a∧a < (↑d.length:Int)) then
  both (bif decide ((0:Int)≤a∧a < (↑d.length:Int)) then
  bif decide ((0:Int)≤i64.wrap (a - (1:Int))∧i64.wrap (a - (1:Int)) < (↑(d.set a.toNat ((d.getD (i64.wrap (a - (1:Int))).toNat ((0:Int),(0:Int),(0:Int),false,(0:Int),(0:Int),(0:Int),(0:Int),[])).fst,(d.getD (i64.wrap (a - (1:Int))).toNat ((0:Int),(0:Int),(0:Int),false,(0:Int),(0:Int),(0:Int),(0:Int),[])).snd.fst,(d.getD (i64.wrap (a - (1:Int))).toNat ((0:Int),(0:Int),(0:Int),false,(0:Int),(0:Int),(0:Int),(0:Int),[])).snd.snd.fst,(d.getD (i64.wrap (a - (1:Int))).toNat ((0:Int),(0:Int),(0:Int),false,(0:Int),(0:Int),(0:Int),(0:Int),[])).snd.snd.snd.fst,(d.getD (i64.wrap (a - (1:Int))).toNat ((0:Int),(0:Int),(0:Int),false,(0:Int),(0:Int),(0:Int),(0:Int),[])).snd.snd.snd.snd.fst,(d.getD (i64.wrap (a - (1:Int))).toNat ((0:Int),(0:Int),(0:Int),false,(0:Int),(0:Int),(0:Int),(0:Int),[])).snd.snd.snd.snd.snd.fst,(d.getD (i64.wrap (a - (1:Int))).toNat ((0:Int),(0:Int),(0:Int),false,(0:Int),(0:Int),(0:Int),(0:Int),[])).snd.snd.snd.snd.snd.snd.fst,(d.getD (i64.wrap (a - (1:Int))).toNat ((0:Int),(0:Int),(0:Int),false,(0:Int),(0:Int),(0:Int),(0:Int),[])).snd.snd.snd.snd.snd.snd.snd.fst,(d.getD (i64.wrap (a - (1:Int))).toNat ((0:Int),(0:Int),(0:Int),false,(0:Int),(0:Int),(0:Int),(0:Int),[])).snd.snd.snd.snd.snd.snd.snd.snd)).length:Int)) then
  c (f,i64.wrap (a - (1:Int)),(d.set a.toNat ((d.getD (i64.wrap (a - (1:Int))).toNat ((0:Int),(0:Int),(0:Int),false,(0:Int),(0:Int),(0:Int),(0:Int),[])).fst,(d.getD (i64.wrap (a - (1:Int))).toNat ((0:Int),(0:Int),(0:Int),false,(0:Int),(0:Int),(0:Int),(0:Int),[])).snd.fst,(d.getD (i64.wrap (a - (1:Int))).toNat ((0:Int),(0:Int),(0:Int),false,(0:Int),(0:Int),(0:Int),(0:Int),[])).snd.snd.fst,(d.getD (i64.wrap (a - (1:Int))).toNat ((0:Int),(0:Int),(0:Int),false,(0:Int),(0:Int),(0:Int),(0:Int),[])).snd.snd.snd.fst,(d.getD (i64.wrap (a - (1:Int))).toNat ((0:Int),(0:Int),(0:Int),false,(0:Int),(0:Int),(0:Int),(0:Int),[])).snd.snd.snd.snd.fst,(d.getD (i64.wrap (a - (1:Int))).toNat ((0:Int),(0:Int),(0:Int),false,(0:Int),(0:Int),(0:Int),(0:Int),[])).snd.snd.snd.snd.snd.fst,(d.getD (i64.wrap (a - (1:Int))).toNat ((0:Int),(0:Int),(0:Int),false,(0:Int),(0:Int),(0:Int),(0:Int),[])).snd.snd.snd.snd.snd.snd.fst,(d.getD (i64.wrap (a - (1:Int))).toNat ((0:Int),(0:Int),(0:Int),false,(0:Int),(0:Int),(0:Int),(0:Int),[])).snd.snd.snd.snd.snd.snd.snd.fst,(d.getD (i64.wrap (a - (1:Int))).toNat ((0:Int),(0:Int),(0:Int),false,(0:Int),(0:Int),(0:Int),(0:Int),[])).snd.snd.snd.snd.snd.snd.snd.snd)).set (i64.wrap (a - (1:Int))).toNat ((d.getD a.toNat ((0:Int),(0:Int),(0:Int),false,(0:Int),(0:Int),(0:Int),(0:Int),[])).fst,(d.getD a.toNat ((0:Int),(0:Int),(0:Int),false,(0:Int),(0:Int),(0:Int),(0:Int),[])).snd.fst,(d.getD a.toNat ((0:Int),(0:Int),(0:Int),false,(0:Int),(0:Int),(0:Int),(0:Int),[])).snd.snd.fst,(d.getD a.toNat ((0:Int),(0:Int),(0:Int),false,(0:Int),(0:Int),(0:Int),(0:Int),[])).snd.snd.snd.fst,(d.getD a.toNat ((0:Int),(0:Int),(0:Int),false,(0:Int),(0:Int),(0:Int),(0:Int),[])).snd.snd.snd.snd.fst,(d.getD a.toNat ((0:Int),(0:Int),(0:Int),false,(0:Int),(0:Int),(0:Int),(0:Int),[])).snd.snd.snd.snd.snd.fst,(d.getD a.toNat ((0:Int),(0:Int),(0:Int),false,(0:Int),(0:Int),(0:Int),(0:Int),[])).snd.snd.snd.snd.snd.snd.fst,(d.getD a.toNat ((0:Int),(0:Int),(0:Int),false,(0:Int),(0:Int),(0:Int),(0:Int),[])).snd.snd.snd.snd.snd.snd.snd.fst,(d.getD a.toNat ((0:Int),(0:Int),(0:Int),false,(0:Int),(0:Int),(0:Int),(0:Int),[])).snd.snd.snd.snd.snd.snd.snd.snd),g,h,i,j,k,l,m,e)
  else none
  else none)
  (bif decide ((0:Int)≤a∧a < (↑d.length:Int)) then
  bif decide ((0:Int)≤i64.wrap (a - (1:Int))∧i64.wrap (a - (1:Int)) < (↑(d.set a.toNat ((d.getD (i64.wrap (a - (1:Int))).toNat ((0:Int),(0:Int),(0:Int),false,(0:Int),(0:Int),(0:Int),(0:Int),[])).fst,(d.getD (i64.wrap (a - (1:Int))).toNat ((0:Int),(0:Int),(0:Int),false,(0:Int),(0:Int),(0:Int),(0:Int),[])).snd.fst,(d.getD (i64.wrap (a - (1:Int))).toNat ((0:Int),(0:Int),(0:Int),false,(0:Int),(0:Int),(0:Int),(0:Int),[])).snd.snd.fst,(d.getD (i64.wrap (a - (1:Int))).toNat ((0:Int),(0:Int),(0:Int),false,(0:Int),(0:Int),(0:Int),(0:Int),[])).snd.snd.snd.fst,(d.getD (i64.wrap (a - (1:Int))).toNat ((0:Int),(0:Int),(0:Int),false,(0:Int),(0:Int),(0:Int),(0:Int),[])).snd.snd.snd.snd.fst,(d.getD (i64.wrap (a - (1:Int))).toNat ((0:Int),(0:Int),(0:Int),false,(0:Int),(0:Int),(0:Int),(0:Int),[])).snd.snd.snd.snd.snd.fst,(d.getD (i64.wrap (a - (1:Int))).toNat ((0:Int),(0:Int),(0:Int),false,(0:Int),(0:Int),(0:Int),(0:Int),[])).snd.snd.snd.snd.snd.snd.fst,(d.getD (i64.wrap (a - (1:Int))).toNat ((0:Int),(0:Int),(0:Int),false,(0:Int),(0:Int),(0:Int),(0:Int),[])).snd.snd.snd.snd.snd.snd.snd.fst,(d.getD (i64.wrap (a - (1:Int))).toNat ((0:Int),(0:Int),(0:Int),false,(0:Int),(0:Int),(0:Int),(0:Int),[])).snd.snd.snd.snd.snd.snd.snd.snd)).length:Int)) then
  c (f,i64.wrap (a - (1:Int)),(d.set a.toNat ((d.getD (i64.wrap (a - (1:Int))).toNat ((0:Int),(0:Int),(0:Int),false,(0:Int),(0:Int),(0:Int),(0:Int),[])).fst,(d.getD (i64.wrap (a - (1:Int))).toNat ((0:Int),(0:Int),(0:Int),false,(0:Int),(0:Int),(0:Int),(0:Int),[])).snd.fst,(d.getD (i64.wrap (a - (1:Int))).toNat ((0:Int),(0:Int),(0:Int),false,(0:Int),(0:Int),(0:Int),(0:Int),[])).snd.snd.fst,(d.getD (i64.wrap (a - (1:Int))).toNat ((0:Int),(0:Int),(0:Int),false,(0:Int),(0:Int),(0:Int),(0:Int),[])).snd.snd.snd.fst,(d.getD (i64.wrap (a - (1:Int))).toNat ((0:Int),(0:Int),(0:Int),false,(0:Int),(0:Int),(0:Int),(0:Int),[])).snd.snd.snd.snd.fst,(d.getD (i64.wrap (a - (1:Int))).toNat ((0:Int),(0:Int),(0:Int),false,(0:Int),(0:Int),(0:Int),(0:Int),[])).snd.snd.snd.snd.snd.fst,(d.getD (i64.wrap (a - (1:Int))).toNat ((0:Int),(0:Int),(0:Int),false,(0:Int),(0:Int),(0:Int),(0:Int),[])).snd.snd.snd.snd.snd.snd.fst,(d.getD (i64.wrap (a - (1:Int))).toNat ((0:Int),(0:Int),(0:Int),false,(0:Int),(0:Int),(0:Int),(0:Int),[])).snd.snd.snd.snd.snd.snd.snd.fst,(d.getD (i64.wrap (a - (1:Int))).toNat ((0:Int),(0:Int),(0:Int),false,(0:Int),(0:Int),(0:Int),(0:Int),[])).snd.snd.snd.snd.snd.snd.snd.snd)).set (i64.wrap (a - (1:Int))).toNat ((d.getD a.toNat ((0:Int),(0:Int),(0:Int),false,(0:Int),(0:Int),(0:Int),(0:Int),[])).fst,(d.getD a.toNat ((0:Int),(0:Int),(0:Int),false,(0:Int),(0:Int),(0:Int),(0:Int),[])).snd.fst,(d.getD a.toNat ((0:Int),(0:Int),(0:Int),false,(0:Int),(0:Int),(0:Int),(0:Int),[])).snd.snd.fst,(d.getD a.toNat ((0:Int),(0:Int),(0:Int),false,(0:Int),(0:Int),(0:Int),(0:Int),[])).snd.snd.snd.fst,(d.getD a.toNat ((0:Int),(0:Int),(0:Int),false,(0:Int),(0:Int),(0:Int),(0:Int),[])).snd.snd.snd.snd.fst,(d.getD a.toNat ((0:Int),(0:Int),(0:Int),false,(0:Int),(0:Int),(0:Int),(0:Int),[])).snd.snd.snd.snd.snd.fst,(d.getD a.toNat ((0:Int),(0:Int),(0:Int),false,(0:Int),(0:Int),(0:Int),(0:Int),[])).snd.snd.snd.snd.snd.snd.fst,(d.getD a.toNat ((0:Int),(0:Int),(0:Int),false,(0:Int),(0:Int),(0:Int),(0:Int),[])).snd.snd.snd.snd.snd.snd.snd.fst,(d.getD a.toNat ((0:Int),(0:Int),(0:Int),false,(0:Int),(0:Int),(0:Int),(0:Int),[])).snd.snd.snd.snd.snd.snd.snd.snd),g,h,i,j,k,l,m,e)
  else none
  else none)
  else none
  else none
  else
  b (d,g,h,i,j,k,l,m,e)) (fun v=>R (T143_e16_6 v)) (E143_e16_6 K):=by
  kernel_rfl
theorem S143_e16_6_ok (fuel:Nat) (l:YF143_e16) (R:Ev.St→OA) (K:KT) (b c:Int) (d:(List (Int×(Int×(Int×(Bool×(Int×(Int×(Int×(Int×LI)))))))))) (e f:Int) (g:Bool) (h i j:Int) (k:Bool) (a:Int):evalCode tab (G143_e16 fuel l) (J143_e16_6 fuel) kp143_e16 fuel (bodyOf 6 Tryz.f143) (T143_e16_6 (b,c,d,e,f,g,h,i,j,k,a)) (lc kp143_e16 21 6 R K)=S_slices_symMergeCmpFunc_api_Item_e16_6 fuel (b,c,d,e,f,g,h,i,j,k,a) (fun v=>R (T143_e16_6 v)) (E143_e16_6 K):=
  S143_e16_6_okg fuel (F_text_Order_1_805 fuel) l (F_slices_rotateCmpFunc_api_Item_e16 fuel) R K b c d e f g h i j k a
def B143_e16_6 (fuel:Nat):Ev.Blk:=fun st K=>match canonO (kp143_e16 21) st with | some s=>(match s with | ⟨[(b,.c (.own d)),(e,.c (i6 f)),(g,.c (i6 h))],[(i,.vec j (.pair (.int .i64) (.pair (.int .i64) (.pair (.int .i64) (.pair .bool (.pair (.int .i64) (.pair (.int .i64) (.pair (.int .i64) (.pair (.int .i64) (.sl (.int .u8)))))))))) k false),(l,.cells m [i6 n,i6 o,.bool p,i6 q,i6 r,i6 t,.bool u,i6 a])],v,w⟩=>bif qb [b,d,e,g,i,j,l,m,v,w] [0,0,14,17,0,85,1,51,2,2] then iter (S_slices_symMergeCmpFunc_api_Item_e16_6 fuel) fuel (f,h,k,n,o,p,q,r,t,u,a) (E143_e16_6 K) else none | _=>none) | none=>none
theorem B143_e16_6_ok (fuel:Nat) (a:YF143_e16) (st:Ev.St) (K:KT) (r:Ans) (h:B143_e16_6 fuel st K=some r):evalCode tab (G143_e16 fuel a) (J143_e16_6 fuel) kp143_e16 fuel (.block 6 (.loop (bodyOf 6 Tryz.f143))) st K=some r:=by
  unfold B143_e16_6 at h
  split at h
  · rename_i s hs
    split at h
    · skip
      obtain ⟨hb,h⟩:=cond_some' h
      cases qb_eq hb
      exact blk_loop (S:=T143_e16_6) (ks:=E143_e16_6) (step:=S_slices_symMergeCmpFunc_api_Item_e16_6 fuel) (v:=(_,_,_,_,_,_,_,_,_,_,_)) (by kernel_rfl) (by kernel_rfl) (fun R K v=>by obtain ⟨c,d,e,f,g,i,j,k,l,m,b⟩:=v; exact S143_e16_6_ok fuel a R K c d e f g i j k l m b) hs h
    · cases h
  · cases h
abbrev V_slices_symMergeCmpFunc_api_Item_e16_8:Type:=Int×Int×Int×Int×Int×Int×Int×Int×(List (Int×(Int×(Int×(Bool×(Int×(Int×(Int×(Int×LI)))))))))×Int×Int×Bool×Int×Int×Int×Bool×Int
abbrev W_slices_symMergeCmpFunc_api_Item_e16_8:Type:=(Int×Int×Int×Int×Int×Int×(List (Int×(Int×(Int×(Bool×(Int×(Int×(Int×(Int×LI)))))))))×Int×Int×Bool×Int×Int×Int×Bool×Int→OA)
def S_slices_symMergeCmpFunc_api_Item_e16_8 (fuel:Nat) (v:Int×Int×Int×Int×Int×Int×Int×Int×(List (Int×(Int×(Int×(Bool×(Int×(Int×(Int×(Int×(List Int))))))))))×Int×Int×Bool×Int×Int×Int×Bool×Int) (c:(Int×Int×Int×Int×Int×Int×Int×Int×(List (Int×(Int×(Int×(Bool×(Int×(Int×(Int×(Int×(List Int))))))))))×Int×Int×Bool×Int×Int×Int×Bool×Int)→Option Ans) (B:(Int×Int×Int×Int×Int×Int×(List (Int×(Int×(Int×(Bool×(Int×(Int×(Int×(Int×(List Int))))))))))×Int×Int×Bool×Int×Int×Int×Bool×Int→Option Ans)):Option Ans:=match v,B with | (o,p,q,r,s,a,d,f,e,D,u,w,x,y,z,A,C),b=>bif decide (a < d) then bif decide ((0:Int)≤i64.wrap (f - i64.wrap (Ev.ishr IntKind.u64 (u64.wrap (i64.wrap (a+d))) (1:Int)))∧i64.wrap (f - i64.wrap (Ev.ishr IntKind.u64 (u64.wrap (i64.wrap (a+d))) (1:Int))) < (↑e.length:Int)) then bif decide ((0:Int)≤i64.wrap (Ev.ishr IntKind.u64 (u64.wrap (i64.wrap (a+d))) (1:Int))∧i64.wrap (Ev.ishr IntKind.u64 (u64.wrap (i64.wrap (a+d))) (1:Int)) < (↑e.length:Int)) then both ((F_text_Order_1_805 fuel ((e.getD (i64.wrap (f - i64.wrap (Ev.ishr IntKind.u64 (u64.wrap (i64.wrap (a+d))) (1:Int)))).toNat ((0:Int),(0:Int),(0:Int),false,(0:Int),(0:Int),(0:Int),(0:Int),[])).fst) ((e.getD (i64.wrap (f - i64.wrap (Ev.ishr IntKind.u64 (u64.wrap (i64.wrap (a+d))) (1:Int)))).toNat ((0:Int),(0:Int),(0:Int),false,(0:Int),(0:Int),(0:Int),(0:Int),[])).snd.fst) ((e.getD (i64.wrap (f - i64.wrap (Ev.ishr IntKind.u64 (u64.wrap (i64.wrap (a+d))) (1:Int)))).toNat ((0:Int),(0:Int),(0:Int),false,(0:Int),(0:Int),(0:Int),(0:Int),[])).snd.snd.fst) ((e.getD (i64.wrap (f - i64.wrap (Ev.ishr IntKind.u64 (u64.wrap (i64.wrap (a+d))) (1:Int)))).toNat ((0:Int),(0:Int),(0:Int),false,(0:Int),(0:Int),(0:Int),(0:Int),[])).snd.snd.snd.fst) ((e.getD (i64.wrap (f - i64.wrap (Ev.ishr IntKind.u64 (u64.wrap (i64.wrap (a+d))) (1:Int)))).toNat ((0:Int),(0:Int),(0:Int),false,(0:Int),(0:Int),(0:Int),(0:Int),[])).snd.snd.snd.snd.fst) ((e.getD (i64.wrap (f - i64.wrap (Ev.ishr IntKind.u64 (u64.wrap (i64.wrap (a+d))) (1:Int)))).toNat ((0:Int),(0:Int),(0:Int),false,(0:Int),(0:Int),(0:Int),(0:Int),[])).snd.snd.snd.snd.snd.fst) ((e.getD (i64.wrap (f - i64.wrap (Ev.ishr IntKind.u64 (u64.wrap (i64.wrap (a+d))) (1:Int)))).toNat ((0:Int),(0:Int),(0:Int),false,(0:Int),(0:Int),(0:Int),(0:Int),[])).snd.snd.snd.snd.snd.snd.fst) ((e.getD (i64.wrap (f - i64.wrap (Ev.ishr IntKind.u64 (u64.wrap (i64.wrap (a+d))) (1:Int)))).toNat ((0:Int),(0:Int),(0:Int),false,(0:Int),(0:Int),(0:Int),(0:Int),[])).snd.snd.snd.snd.snd.snd.snd.fst) ((e.getD (i64.wrap (f - i64.wrap (Ev.ishr IntKind.u64 (u64.wrap (i64.wrap (a+d))) (1:Int)))).toNat ((0:Int),(0:Int),(0:Int),false,(0:Int),(0:Int),(0:Int),(0:Int),[])).snd.snd.snd.snd.snd.snd.snd.snd) ((e.getD (i64.wrap (Ev.ishr IntKind.u64 (u64.wrap (i64.wrap (a+d))) (1:Int))).toNat ((0:Int),(0:Int),(0:Int),false,(0:Int),(0:Int),(0:Int),(0:Int),[])).fst) ((e.getD (i64.wrap (Ev.ishr IntKind.u64 (u64.wrap (i64.wrap (a+d))) (1:Int))).toNat ((0:Int),(0:Int),(0:Int),false,(0:Int),(0:Int),(0:Int),(0:Int),[])).snd.fst) ((e.getD (i64.wrap (Ev.ishr IntKind.u64 (u64.wrap (i64.wrap (a+d))) (1:Int))).toNat ((0:Int),(0:Int),(0:Int),false,(0:Int),(0:Int),(0:Int),(0:Int),[])).snd.snd.fst) ((e.getD (i64.wrap (Ev.ishr IntKind.u64 (u64.wrap (i64.wrap (a+d))) (1:Int))).toNat ((0:Int),(0:Int),(0:Int),false,(0:Int),(0:Int),(0:Int),(0:Int),[])).snd.snd.snd.fst) ((e.getD (i64.wrap (Ev.ishr IntKind.u64 (u64.wrap (i64.wrap (a+d))) (1:Int))).toNat ((0:Int),(0:Int),(0:Int),false,(0:Int),(0:Int),(0:Int),(0:Int),[])).snd.snd.snd.snd.fst) ((e.getD (i64.wrap (Ev.ishr IntKind.u64 (u64.wrap (i64.wrap (a+d))) (1:Int))).toNat ((0:Int),(0:Int),(0:Int),false,(0:Int),(0:Int),(0:Int),(0:Int),[])).snd.snd.snd.snd.snd.fst) ((e.getD (i64.wrap (Ev.ishr IntKind.u64 (u64.wrap (i64.wrap (a+d))) (1:Int))).toNat ((0:Int),(0:Int),(0:Int),false,(0:Int),(0:Int),(0:Int),(0:Int),[])).snd.snd.snd.snd.snd.snd.fst) ((e.getD (i64.wrap (Ev.ishr IntKind.u64 (u64.wrap (i64.wrap (a+d))) (1:Int))).toNat ((0:Int),(0:Int),(0:Int),false,(0:Int),(0:Int),(0:Int),(0:Int),[])).snd.snd.snd.snd.snd.snd.snd.fst) ((e.getD (i64.wrap (Ev.ishr IntKind.u64 (u64.wrap (i64.wrap (a+d))) (1:Int))).toNat ((0:Int),(0:Int),(0:Int),false,(0:Int),(0:Int),(0:Int),(0:Int),[])).snd.snd.snd.snd.snd.snd.snd.snd) D u w x y z A C (fun (t,g,h,i,j,k,l,m,n)=>bif !decide (t < (0:Int)) then c (o,p,q,r,s,i64.wrap (i64.wrap (Ev.ishr IntKind.u64 (u64.wrap (i64.wrap (a+d))) (1:Int))+(1:Int)),d,f,e,g,h,i,j,k,l,m,n) else c (o,p,q,r,s,a,i64.wrap (Ev.ishr IntKind.u64 (u64.wrap (i64.wrap (a+d))) (1:Int)),f,e,g,h,i,j,k,l,m,n)))) ((F_text_Order_1_805 fuel ((e.getD (i64.wrap (f - i64.wrap (Ev.ishr IntKind.u64 (u64.wrap (i64.wrap (a+d))) (1:Int)))).toNat ((0:Int),(0:Int),(0:Int),false,(0:Int),(0:Int),(0:Int),(0:Int),[])).fst) ((e.getD (i64.wrap (f - i64.wrap (Ev.ishr IntKind.u64 (u64.wrap (i64.wrap (a+d))) (1:Int)))).toNat ((0:Int),(0:Int),(0:Int),false,(0:Int),(0:Int),(0:Int),(0:Int),[])).snd.fst) ((e.getD (i64.wrap (f - i64.wrap (Ev.ishr IntKind.u64 (u64.wrap (i64.wrap (a+d))) (1:Int)))).toNat ((0:Int),(0:Int),(0:Int),false,(0:Int),(0:Int),(0:Int),(0:Int),[])).snd.snd.fst) ((e.getD (i64.wrap (f - i64.wrap (Ev.ishr IntKind.u64 (u64.wrap (i64.wrap (a+d))) (1:Int)))).toNat ((0:Int),(0:Int),(0:Int),false,(0:Int),(0:Int),(0:Int),(0:Int),[])).snd.snd.snd.fst) ((e.getD (i64.wrap (f - i64.wrap (Ev.ishr IntKind.u64 (u64.wrap (i64.wrap (a+d))) (1:Int)))).toNat ((0:Int),(0:Int),(0:Int),false,(0:Int),(0:Int),(0:Int),(0:Int),[])).snd.snd.snd.snd.fst) ((e.getD (i64.wrap (f - i64.wrap (Ev.ishr IntKind.u64 (u64.wrap (i64.wrap (a+d))) (1:Int)))).toNat ((0:Int),(0:Int),(0:Int),false,(0:Int),(0:Int),(0:Int),(0:Int),[])).snd.snd.snd.snd.snd.fst) ((e.getD (i64.wrap (f - i64.wrap (Ev.ishr IntKind.u64 (u64.wrap (i64.wrap (a+d))) (1:Int)))).toNat ((0:Int),(0:Int),(0:Int),false,(0:Int),(0:Int),(0:Int),(0:Int),[])).snd.snd.snd.snd.snd.snd.fst) ((e.getD (i64.wrap (f - i64.wrap (Ev.ishr IntKind.u64 (u64.wrap (i64.wrap (a+d))) (1:Int)))).toNat ((0:Int),(0:Int),(0:Int),false,(0:Int),(0:Int),(0:Int),(0:Int),[])).snd.snd.snd.snd.snd.snd.snd.fst) ((e.getD (i64.wrap (f - i64.wrap (Ev.ishr IntKind.u64 (u64.wrap (i64.wrap (a+d))) (1:Int)))).toNat ((0:Int),(0:Int),(0:Int),false,(0:Int),(0:Int),(0:Int),(0:Int),[])).snd.snd.snd.snd.snd.snd.snd.snd) ((e.getD (i64.wrap (Ev.ishr IntKind.u64 (u64.wrap (i64.wrap (a+d))) (1:Int))).toNat ((0:Int),(0:Int),(0:Int),false,(0:Int),(0:Int),(0:Int),(0:Int),[])).fst) ((e.getD (i64.wrap (Ev.ishr IntKind.u64 (u64.wrap (i64.wrap (a+d))) (1:Int))).toNat ((0:Int),(0:Int),(0:Int),false,(0:Int),(0:Int),(0:Int),(0:Int),[])).snd.fst) ((e.getD (i64.wrap (Ev.ishr IntKind.u64 (u64.wrap (i64.wrap (a+d))) (1:Int))).toNat ((0:Int),(0:Int),(0:Int),false,(0:Int),(0:Int),(0:Int),(0:Int),[])).snd.snd.fst) ((e.getD (i64.wrap (Ev.ishr IntKind.u64 (u64.wrap (i64.wrap (a+d))) (1:Int))).toNat ((0:Int),(0:Int),(0:Int),false,(0:Int),(0:Int),(0:Int),(0:Int),[])).snd.snd.snd.fst) ((e.getD (i64.wrap (Ev.ishr IntKind.u64 (u64.wrap (i64.wrap (a+d))) (1:Int))).toNat ((0:Int),(0:Int),(0:Int),false,(0:Int),(0:Int),(0:Int),(0:Int),[])).snd.snd.snd.snd.fst) ((e.getD (i64.wrap (Ev.ishr IntKind.u64 (u64.wrap (i64.wrap (a+d))) (1:Int))).toNat ((0:Int),(0:Int),(0:Int),false,(0:Int),(0:Int),(0:Int),(0:Int),[])).snd.snd.snd.snd.snd.fst) ((e.getD (i64.wrap (Ev.ishr IntKind.u64 (u64.wrap (i64.wrap (a+d))) (1:Int))).toNat ((0:Int),(0:Int),(0:Int),false,(0:Int),(0:Int),(0:Int),(0:Int),[])).snd.snd.snd.snd.snd.snd.fst) ((e.getD (i64.wrap (Ev.ishr IntKind.u64 (u64.wrap (i64.wrap (a+d))) (1:Int))).toNat ((0:Int),(0:Int),(0:Int),false,(0:Int),(0:Int),(0:Int),(0:Int),[])).snd.snd.snd.snd.snd.snd.snd.fst) ((e.getD (i64.wrap (Ev.ishr IntKind.u64 (u64.wrap (i64.wrap (a+d))) (1:Int))).toNat ((0:Int),(0:Int),(0:Int),false,(0:Int),(0:Int),(0:Int),(0:Int),[])).snd.snd.snd.snd.snd.snd.snd.snd) D u w x y z A C (fun (t,g,h,i,j,k,l,m,n)=>bif !decide (t < (0:Int)) then c (o,p,q,r,s,i64.wrap (i64.wrap (Ev.ishr IntKind.u64 (u64.wrap (i64.wrap (a+d))) (1:Int))+(1:Int)),d,f,e,g,h,i,j,k,l,m,n) else c (o,p,q,r,s,a,i64.wrap (Ev.ishr IntKind.u64 (u64.wrap (i64.wrap (a+d))) (1:Int)),f,e,g,h,i,j,k,l,m,n)))) else none else none else b (o,p,q,r,s,a,e,D,u,w,x,y,z,A,C)
def L_slices_symMergeCmpFunc_api_Item_e16_8 (fuel:Nat) (v:V_slices_symMergeCmpFunc_api_Item_e16_8) (b:W_slices_symMergeCmpFunc_api_Item_e16_8):Option Ans:=iter (S_slices_symMergeCmpFunc_api_Item_e16_8 fuel) fuel v b
def J143_e16_8 (fuel:Nat) (i:Nat):Option Ev.Blk:=Ev.look i [(100000,B143_e16_0 fuel),(100002,B143_e16_2 fuel),(100004,B143_e16_4 fuel),(100006,B143_e16_6 fuel)]
def T143_e16_8 (v:V_slices_symMergeCmpFunc_api_Item_e16_8):Ev.St:=match v with | (i,j,k,l,m,n,o,p,q,r,a,b,d,e,f,g,h)=>⟨[(0,.c (.own 0)),(1,.c (i6 i)),(2,.c (i6 j)),(3,.c (i6 k)),(4,.c (.clo 54 [1])),(18,.c (i6 l)),(19,.c (i6 m)),(20,.c (i6 n)),(21,.c (i6 o)),(22,.c (i6 p))],[(0,.vec 85 (.pair (.int .i64) (.pair (.int .i64) (.pair (.int .i64) (.pair .bool (.pair (.int .i64) (.pair (.int .i64) (.pair (.int .i64) (.pair (.int .i64) (.sl (.int .u8)))))))))) q false),(1,.cells 51 [i6 r,i6 a,.bool b,i6 d,i6 e,i6 f,.bool g,i6 h])],2,2⟩
def E143_e16_8 (K:KT):W_slices_symMergeCmpFunc_api_Item_e16_8:=(fun v=>match v with | (g,h,i,j,k,l,m,n,o,p,a,b,d,e,f)=>K .normal ⟨[(0,.c (.own 0)),(1,.c (i6 g)),(2,.c (i6 h)),(3,.c (i6 i)),(4,.c (.clo 54 [1])),(18,.c (i6 j)),(19,.c (i6 k)),(20,.c (i6 l))],[(0,.vec 85 (.pair (.int .i64) (.pair (.int .i64) (.pair (.int .i64) (.pair .bool (.pair (.int .i64) (.pair (.int .i64) (.pair (.int .i64) (.pair (.int .i64) (.sl (.int .u8)))))))))) m false),(1,.cells 51 [i6 n,i6 o,.bool p,i6 a,i6 b,i6 d,.bool e,i6 f])],2,2⟩)
theorem S143_e16_8_okg (fuel:Nat) (D:YF54_805) (F:YF143_e16) (G:YF176_e16) (R:Ev.St→OA) (K:KT) (g h:Int) (i j:Int) (k a:Int) (d f:Int) (e:(List (Int×(Int×(Int×(Bool×(Int×(Int×(Int×(Int×LI)))))))))) (C t:Int) (u:Bool) (w x y:Int) (z:Bool) (A:Int):evalCode tab (Gg143_e16 D F G) (J143_e16_8 fuel) kp143_e16 fuel (bodyOf 8 Tryz.f143) (T143_e16_8 (g,h,i,j,k,a,d,f,e,C,t,u,w,x,y,z,A)) (lc kp143_e16 33 8 R K)=(fun (c:(Int×Int×Int×Int×Int×Int×Int×Int×(List (Int×(Int×(Int×(Bool×(Int×(Int×(Int×(Int×LI)))))))))×Int×Int×Bool×Int×Int×Int×Bool×Int)→OA) (B:(Int×Int×Int×Int×Int×Int×(List (Int×(Int×(Int×(Bool×(Int×(Int×(Int×(Int×LI)))))))))×Int×Int×Bool×Int×Int×Int×Bool×Int→OA))=>match B with
 | b=>
  bif decide (a < d) then
  bif decide ((0:Int)≤i64.wrap (f - i64.wrap (Ev.ishr IntKind.u64 (u64.wrap (i64.wrap (a+d))) (1:Int)))∧i64.wrap (f - i64.wrap (Ev.ishr IntKind.u64 (u64.wrap (i64.wrap (a+d))) (1:Int))) < (↑e.length:Int)) then
  bif decide ((0:Int)≤i64.wrap (Ev.ishr IntKind.u64 (u64.wrap (i64.wrap (a+d))) (1:Int))∧i64.wrap (Ev.ishr IntKind.u64 (u64.wrap (i64.wrap (a+d))) (1:Int)) < (↑e.length:Int)) then
  both ((D ((e.getD (i64.wrap (f - i64.wrap (Ev.ishr IntKind.u64 (u64.wrap (i64.wrap (a+d))) (1:Int)))).toNat ((0:Int),(0:Int),(0:Int),false,(0:Int),(0:Int),(0:Int),(0:Int),[])).fst) ((e.getD (i64.wrap (f - i64.wrap (Ev.ishr IntKind.u64 (u64.wrap (i64.wrap (a+d))) (1:Int)))).toNat ((0:Int),(0:Int),(0:Int),false,(0:Int),(0:Int),(0:Int),(0:Int),[])).snd.fst) ((e.getD (i64.wrap (f - i64.wrap (Ev.ishr IntKind.u64 (u64.wrap (i64.wrap (a+d))) (1:Int)))).toNat ((0:Int),(0:Int),(0:Int),false,(0:Int),(0:Int),(0:Int),(0:Int),[])).snd.snd.fst) ((e.getD (i64.wrap (f - i64.wrap (Ev.ishr IntKind.u64 (u64.wrap (i64.wrap (a+d))) (1:Int)))).toNat ((0:Int),(0:Int),(0:Int),false,(0:Int),(0:Int),(0:Int),(0:Int),[])).snd.snd.snd.fst) ((e.getD (i64.wrap (f - i64.wrap (Ev.ishr IntKind.u64 (u64.wrap (i64.wrap (a+d))) (1:Int)))).toNat ((0:Int),(0:Int),(0:Int),false,(0:Int),(0:Int),(0:Int),(0:Int),[])).snd.snd.snd.snd.fst) ((e.getD (i64.wrap (f - i64.wrap (Ev.ishr IntKind.u64 (u64.wrap (i64.wrap (a+d))) (1:Int)))).toNat ((0:Int),(0:Int),(0:Int),false,(0:Int),(0:Int),(0:Int),(0:Int),[])).snd.snd.snd.snd.snd.fst) ((e.getD (i64.wrap (f - i64.wrap (Ev.ishr IntKind.u64 (u64.wrap (i64.wrap (a+d))) (1:Int)))).toNat ((0:Int),(0:Int),(0:Int),false,(0:Int),(0:Int),(0:Int),(0:Int),[])).snd.snd.snd.snd.snd.snd.fst) ((e.getD (i64.wrap (f - i64.wrap (Ev.ishr IntKind.u64 (u64.wrap (i64.wrap (a+d))) (1:Int)))).toNat ((0:Int),(0:Int),(0:Int),false,(0:Int),(0:Int),(0:Int),(0:Int),[])).snd.snd.snd.snd.snd.snd.snd.fst) ((e.getD (i64.wrap (f - i64.wrap (Ev.ishr IntKind.u64 (u64.wrap (i64.wrap (a+d))) (1:Int)))).toNat ((0:Int),(0:Int),(0:Int),false,(0:Int),(0:Int),(0:Int),(0:Int),[])).snd.snd.snd.snd.snd.snd.snd.snd) ((e.getD (i64.wrap (Ev.ishr IntKind.u64 (u64.wrap (i64.wrap (a+d))) (1:Int))).toNat ((0:Int),(0:Int),(0:Int),false,(0:Int),(0:Int),(0:Int),(0:Int),[])).fst) ((e.getD (i64.wrap (Ev.ishr IntKind.u64 (u64.wrap (i64.wrap (a+d))) (1:Int))).toNat ((0:Int),(0:Int),(0:Int),false,(0:Int),(0:Int),(0:Int),(0:Int),[])).snd.fst) ((e.getD (i64.wrap (Ev.ishr IntKind.u64 (u64.wrap (i64.wrap (a+d))) (1:Int))).toNat ((0:Int),(0:Int),(0:Int),false,(0:Int),(0:Int),(0:Int),(0:Int),[])).snd.snd.fst) ((e.getD (i64.wrap (Ev.ishr IntKind.u64 (u64.wrap (i64.wrap (a+d))) (1:Int))).toNat ((0:Int),(0:Int),(0:Int),false,(0:Int),(0:Int),(0:Int),(0:Int),[])).snd.snd.snd.fst) ((e.getD (i64.wrap (Ev.ishr IntKind.u64 (u64.wrap (i64.wrap (a+d))) (1:Int))).toNat ((0:Int),(0:Int),(0:Int),false,(0:Int),(0:Int),(0:Int),(0:Int),[])).snd.snd.snd.snd.fst) ((e.getD (i64.wrap (Ev.ishr IntKind.u64 (u64.wrap (i64.wrap (a+d))) (1:Int))).toNat ((0:Int),(0:Int),(0:Int),false,(0:Int),(0:Int),(0:Int),(0:Int),[])).snd.snd.snd.snd.snd.fst) ((e.getD (i64.wrap (Ev.ishr IntKind.u64 (u64.wrap (i64.wrap (a+d))) (1:Int))).toNat ((0:Int),(0:Int),(0:Int),false,(0:Int),(0:Int),(0:Int),(0:Int),[])).snd.snd.snd.snd.snd.snd.fst) ((e.getD (i64.wrap (Ev.ishr IntKind.u64 (u64.wrap (i64.wrap (a+d))) (1:Int))).toNat ((0:Int),(0:Int),(0:Int),false,(0:Int),(0:Int),(0:Int),(0:Int),[])).snd.snd.snd.snd.snd.snd.snd.fst) ((e.getD (i64.wrap (Ev.ishr IntKind.u64 (u64.wrap (i64.wrap (a+d))) (1:Int))).toNat ((0:Int),(0:Int),(0:Int),false,(0:Int),(0:Int),(0:Int),(0:Int),[])).snd.snd.snd.snd.snd.snd.snd.snd) C t u w x y z A
  (fun (E,l,m,n,o,p,q,r,s)=>
  bif !decide (E < (0:Int)) then
  c (g,h,i,j,k,i64.wrap (i64.wrap (Ev.ishr IntKind.u64 (u64.wrap (i64.wrap (a+d))) (1:Int))+(1:Int)),d,f,e,l,m,n,o,p,q,r,s)
  else
  c (g,h,i,j,k,a,i64.wrap (Ev.ishr IntKind.u64 (u64.wrap (i64.wrap (a+d))) (1:Int)),f,e,l,m,n,o,p,q,r,s))))
  ((D ((e.getD (i64.wrap (f - i64.wrap (Ev.ishr IntKind.u64 (u64.wrap (i64.wrap (a+d))) (1:Int)))).toNat ((0:Int),(0:Int),(0:Int),false,(0:Int),(0:Int),(0:Int),(0:Int),[])).fst) ((e.getD (i64.wrap (f - i64.wrap (Ev.ishr IntKind.u64 (u64.wrap (i64.wrap (a+d))) (1:Int)))).toNat ((0:Int),(0:Int),(0:Int),false,(0:Int),(0:Int),(0:Int),(0:Int),[])).snd.fst) ((e.getD (i64.wrap (f - i64.wrap (Ev.ishr IntKind.u64 (u64.wrap (i64.wrap (a+d))) (1:Int)))).toNat ((0:Int),(0:Int),(0:Int),false,(0:Int),(0:Int),(0:Int),(0:Int),[])).snd.snd.fst) ((e.getD (i64.wrap (f - i64.wrap (Ev.ishr IntKind.u64 (u64.wrap (i64.wrap (a+d))) (1:Int)))).toNat ((0:Int),(0:Int),(0:Int),false,(0:Int),(0:Int),(0:Int),(0:Int),[])).snd.snd.snd.fst) ((e.getD (i64.wrap (f - i64.wrap (Ev.ishr IntKind.u64 (u64.wrap (i64.wrap (a+d))) (1:Int)))).toNat ((0:Int),(0:Int),(0:Int),false,(0:Int),(0:Int),(0:Int),(0:Int),[])).snd.snd.snd.snd.fst) ((e.getD (i64.wrap (f - i64.wrap (Ev.ishr IntKind.u64 (u64.wrap (i64.wrap (a+d))) (1:Int)))).toNat ((0:Int),(0:Int),(0:Int),false,(0:Int),(0:Int),(0:Int),(0:Int),[])).snd.snd.snd.snd.snd.fst) ((e.getD (i64.wrap (f - i64.wrap (Ev.ishr IntKind.u64 (u64.wrap (i64.wrap (a+d))) (1:Int)))).toNat ((0:Int),(0:Int),(0:Int),false,(0:Int),(0:Int),(0:Int),(0:Int),[])).snd.snd.snd.snd.snd.snd.fst) ((e.getD (i64.wrap (f - i64.wrap (Ev.ishr IntKind.u64 (u64.wrap (i64.wrap (a+d))) (1:Int)))).toNat ((0:Int),(0:Int),(0:Int),false,(0:Int),(0:Int),(0:Int),(0:Int),[])).snd.snd.snd.snd.snd.snd.snd.fst) ((e.getD (i64.wrap (f - i64.wrap (Ev.ishr IntKind.u64 (u64.wrap (i64.wrap (a+d))) (1:Int)))).toNat ((0:Int),(0:Int),(0:Int),false,(0:Int),(0:Int),(0:Int),(0:Int),[])).snd.snd.snd.snd.snd.snd.snd.snd) ((e.getD (i64.wrap (Ev.ishr IntKind.u64 (u64.wrap (i64.wrap (a+d))) (1:Int))).toNat ((0:Int),(0:Int),(0:Int),false,(0:Int),(0:Int),(0:Int),(0:Int),[])).fst) ((e.getD (i64.wrap (Ev.ishr IntKind.u64 (u64.wrap (i64.wrap (a+d))) (1:Int))).toNat ((0:Int),(0:Int),(0:Int),false,(0:Int),(0:Int),(0:Int),(0:Int),[])).snd.fst) ((e.getD (i64.wrap (Ev.ishr IntKind.u64 (u64.wrap (i64.wrap (a+d))) (1:Int))).toNat ((0:Int),(0:Int),(0:Int),false,(0:Int),(0:Int),(0:Int),(0:Int),[])).snd.snd.fst) ((e.getD (i64.wrap (Ev.ishr IntKind.u64 (u64.wrap (i64.wrap (a+d))) (1:Int))).toNat ((0:Int),(0:Int),(0:Int),false,(0:Int),(0:Int),(0:Int),(0:Int),[])).snd.snd.snd.fst) ((e.getD (i64.wrap (Ev.ishr IntKind.u64 (u64.wrap (i64.wrap (a+d))) (1:Int))).toNat ((0:Int),(0:Int),(0:Int),false,(0:Int),(0:Int),(0:Int),(0:Int),[])).snd.snd.snd.snd.fst) ((e.getD (i64.wrap (Ev.ishr IntKind.u64 (u64.wrap (i64.wrap (a+d))) (1:Int))).toNat ((0:Int),(0:Int),(0:Int),false,(0:Int),(0:Int),(0:Int),(0:Int),[])).snd.snd.snd.snd.snd.fst) ((e.getD (i64.wrap (Ev.ishr IntKind.u64 (u64.wrap (i64.wrap (a+d))) (1:Int))).toNat ((0:Int),(0:Int),(0:Int),false,(0:Int),(0:Int),(0:Int),(0:Int),[])).snd.snd.snd.snd.snd.snd.fst) ((e.getD (i64.wrap (Ev.ishr IntKind.u64 (u64.wrap (i64.wrap (a+d))) (1:Int))).toNat ((0:Int),(0:Int),(0:Int),false,(0:Int),(0:Int),(0:Int),(0:Int),[])).snd.snd.snd.snd.snd.snd.snd.fst) ((e.getD (i64.wrap (Ev.ishr IntKind.u64 (u64.wrap (i64.wrap (a+d))) (1:Int))).toNat ((0:Int),(0:Int),(0:Int),false,(0:Int),(0:Int),(0:Int),(0:Int),[])).snd.snd.snd.snd.snd.snd.snd.snd) C t u w x y z A
  (fun (E,l,m,n,o,p,q,r,s)=>
  bif !decide (E < (0:Int)) then
  c (g,h,i,j,k,i64.wrap (i64.wrap (Ev.ishr IntKind.u64 (u64.wrap (i64.wrap (a+d))) (1:Int))+(1:Int)),d,f,e,l,m,n,o,p,q,r,s)
  else
  c (g,h,i,j,k,a,i64.wrap (Ev.ishr IntKind.u64 (u64.wrap (i64.wrap (a+d))) (1:Int)),f,e,l,m,n,o,p,q,r,s))))
  else none
  else none
  else
  b (g,h,i,j,k,a,e,C,t,u,w,x,y,z,A)) (fun v=>R (T143_e16_8 v)) (E143_e16_8 K):=by
  kernel_rfl
theorem S143_e16_8_ok (fuel:Nat) (r:YF143_e16) (R:Ev.St→OA) (K:KT) (h i:Int) (j k:Int) (l m:Int) (n o:Int) (p:(List (Int×(Int×(Int×(Bool×(Int×(Int×(Int×(Int×LI)))))))))) (q a:Int) (b:Bool) (c d e:Int) (f:Bool) (g:Int):evalCode tab (G143_e16 fuel r) (J143_e16_8 fuel) kp143_e16 fuel (bodyOf 8 Tryz.f143) (T143_e16_8 (h,i,j,k,l,m,n,o,p,q,a,b,c,d,e,f,g)) (lc kp143_e16 33 8 R K)=S_slices_symMergeCmpFunc_api_Item_e16_8 fuel (h,i,j,k,l,m,n,o,p,q,a,b,c,d,e,f,g) (fun v=>R (T143_e16_8 v)) (E143_e16_8 K):=
  S143_e16_8_okg fuel (F_text_Order_1_805 fuel) r (F_slices_rotateCmpFunc_api_Item_e16 fuel) R K h i j k l m n o p q a b c d e f g
def B143_e16_8 (fuel:Nat):Ev.Blk:=fun st K=>match canonO (kp143_e16 33) st with | some s=>(match s with | ⟨[(r,.c (.own t)),(u,.c (i6 v)),(w,.c (i6 x)),(y,.c (i6 z)),(A,.c (.clo B [C])),(D,.c (i6 E)),(F,.c (i6 G)),(a,.c (i6 H)),(b,.c (i6 I)),(d,.c (i6 J))],[(e,.vec f (.pair (.int .i64) (.pair (.int .i64) (.pair (.int .i64) (.pair .bool (.pair (.int .i64) (.pair (.int .i64) (.pair (.int .i64) (.pair (.int .i64) (.sl (.int .u8)))))))))) L false),(g,.cells h [i6 M,i6 i,.bool j,i6 k,i6 l,i6 m,.bool n,i6 o])],p,q⟩=>bif qb [r,t,u,w,y,A,B,C,D,F,a,b,d,e,f,g,h,p,q] [0,0,1,2,3,4,54,1,18,19,20,21,22,0,85,1,51,2,2] then iter (S_slices_symMergeCmpFunc_api_Item_e16_8 fuel) fuel (v,x,z,E,G,H,I,J,L,M,i,j,k,l,m,n,o) (E143_e16_8 K) else none | _=>none) | none=>none
theorem B143_e16_8_ok (fuel:Nat) (a:YF143_e16) (st:Ev.St) (K:KT) (r:Ans) (h:B143_e16_8 fuel st K=some r):evalCode tab (G143_e16 fuel a) (J143_e16_8 fuel) kp143_e16 fuel (.block 8 (.loop (bodyOf 8 Tryz.f143))) st K=some r:=by
  unfold B143_e16_8 at h
  split at h
  · rename_i s hs
    split at h
    · skip
      obtain ⟨hb,h⟩:=cond_some' h
      cases qb_eq hb
      exact blk_loop (S:=T143_e16_8) (ks:=E143_e16_8) (step:=S_slices_symMergeCmpFunc_api_Item_e16_8 fuel) (v:=(_,_,_,_,_,_,_,_,_,_,_,_,_,_,_,_,_)) (by kernel_rfl) (by kernel_rfl) (fun R K v=>by obtain ⟨j,k,l,m,n,o,p,q,t,u,b,c,d,e,f,g,i⟩:=v; exact S143_e16_8_ok fuel a R K j k l m n o p q t u b c d e f g i) hs h
    · cases h
  · cases h
def J143_e16 (fuel:Nat) (i:Nat):Option Ev.Blk:=Ev.look i [(100000,B143_e16_0 fuel),(100002,B143_e16_2 fuel),(100004,B143_e16_4 fuel),(100006,B143_e16_6 fuel),(100008,B143_e16_8 fuel)]
def Fb_slices_symMergeCmpFunc_api_Item_e16 (n:YF143_e16) (fuel:Nat) (x y z:Int) (d2:(List (Int×(Int×(Int×(Bool×(Int×(Int×(Int×(Int×(List Int))))))))))) (d3 d4:Int) (d5:Bool) (d6 d7 d8:Int) (d0:Bool) (d1:Int) (k0:((List (Int×(Int×(Int×(Bool×(Int×(Int×(Int×(Int×(List Int))))))))))×Int×Int×Bool×Int×Int×Int×Bool×Int)→Option Ans):Option Ans:=bif i64.wrap (y - x)==(1:Int) then (L_slices_symMergeCmpFunc_api_Item_e16_0 fuel (x,y,z,d2,d3,d4,d5,d6,d7,d8,d0,d1) (fun (g9,h0,h1,h2,h3,h4,h5,h6,h7,h8,g7)=>(L_slices_symMergeCmpFunc_api_Item_e16_2 fuel (h0,g9,h1,h2,h3,h4,h5,h6,h7,h8,g7) (fun (h9,j0,j1,j2,j3,j4,j5,j6,j7)=>k0 (h9,j0,j1,j2,j3,j4,j5,j6,j7))))) else bif i64.wrap (z - y)==(1:Int) then (L_slices_symMergeCmpFunc_api_Item_e16_4 fuel (y,x,y,d2,d3,d4,d5,d6,d7,d8,d0,d1) (fun (j8,j9,k1,k2,k3,k4,k5,k6,k7,k8,g8)=>(L_slices_symMergeCmpFunc_api_Item_e16_6 fuel (j9,j8,k1,k2,k3,k4,k5,k6,k7,k8,g8) (fun (k9,l0,l1,l2,l3,l4,l5,l6,l7)=>k0 (k9,l0,l1,l2,l3,l4,l5,l6,l7))))) else bif decide (y > i64.wrap (Ev.ishr IntKind.u64 (u64.wrap (i64.wrap (x+z))) (1:Int))) then (L_slices_symMergeCmpFunc_api_Item_e16_8 fuel (x,y,z,i64.wrap (Ev.ishr IntKind.u64 (u64.wrap (i64.wrap (x+z))) (1:Int)),i64.wrap (i64.wrap (Ev.ishr IntKind.u64 (u64.wrap (i64.wrap (x+z))) (1:Int))+y),i64.wrap (i64.wrap (i64.wrap (Ev.ishr IntKind.u64 (u64.wrap (i64.wrap (x+z))) (1:Int))+y) - z),i64.wrap (Ev.ishr IntKind.u64 (u64.wrap (i64.wrap (x+z))) (1:Int)),i64.wrap (i64.wrap (i64.wrap (Ev.ishr IntKind.u64 (u64.wrap (i64.wrap (x+z))) (1:Int))+y) - (1:Int)),d2,d3,d4,d5,d6,d7,d8,d0,d1) (fun (A,c9,d,c,b,a,j,k,l,m,e,f,g,h,i)=>bif decide (a < c9) then bif decide (c9 < i64.wrap (b - a)) then (F_slices_rotateCmpFunc_api_Item_e16 fuel a c9 (i64.wrap (b - a)) j k l m e f g h i (fun (o,p,q,r,s,t,u,v,w)=>bif decide (A < a) then bif decide (a < c) then (n A a c o p q r s t u v w (fun (K,L,M,N,O,P,Q,R,S)=>bif decide (c < i64.wrap (b - a)) then bif decide (i64.wrap (b - a) < d) then (n c (i64.wrap (b - a)) d K L M N O P Q R S (fun (d9,e0,e1,e2,e3,e4,e5,e6,e7)=>k0 (d9,e0,e1,e2,e3,e4,e5,e6,e7))) else k0 (K,L,M,N,O,P,Q,R,S) else k0 (K,L,M,N,O,P,Q,R,S))) else bif decide (c < i64.wrap (b - a)) then bif decide (i64.wrap (b - a) < d) then (n c (i64.wrap (b - a)) d o p q r s t u v w (fun (T,U,V,W,X,Y,Z,a0,a1)=>k0 (T,U,V,W,X,Y,Z,a0,a1))) else k0 (o,p,q,r,s,t,u,v,w) else k0 (o,p,q,r,s,t,u,v,w) else bif decide (c < i64.wrap (b - a)) then bif decide (i64.wrap (b - a) < d) then (n c (i64.wrap (b - a)) d o p q r s t u v w (fun (a2,a3,a4,a5,a6,a7,a8,a9,b0)=>k0 (a2,a3,a4,a5,a6,a7,a8,a9,b0))) else k0 (o,p,q,r,s,t,u,v,w) else k0 (o,p,q,r,s,t,u,v,w))) else bif decide (A < a) then bif decide (a < c) then (n A a c j k l m e f g h i (fun (B,C,D,E,F,G,H,I,J)=>bif decide (c < i64.wrap (b - a)) then bif decide (i64.wrap (b - a) < d) then (n c (i64.wrap (b - a)) d B C D E F G H I J (fun (T,U,V,W,X,Y,Z,a0,a1)=>k0 (T,U,V,W,X,Y,Z,a0,a1))) else k0 (B,C,D,E,F,G,H,I,J) else k0 (B,C,D,E,F,G,H,I,J))) else bif decide (c < i64.wrap (b - a)) then bif decide (i64.wrap (b - a) < d) then (n c (i64.wrap (b - a)) d j k l m e f g h i (fun (e8,e9,g0,g1,g2,g3,g4,g5,g6)=>k0 (e8,e9,g0,g1,g2,g3,g4,g5,g6))) else k0 (j,k,l,m,e,f,g,h,i) else k0 (j,k,l,m,e,f,g,h,i) else bif decide (c < i64.wrap (b - a)) then bif decide (i64.wrap (b - a) < d) then (n c (i64.wrap (b - a)) d j k l m e f g h i (fun (b1,b2,b3,b4,b5,b6,b7,b8,b9)=>k0 (b1,b2,b3,b4,b5,b6,b7,b8,b9))) else k0 (j,k,l,m,e,f,g,h,i) else k0 (j,k,l,m,e,f,g,h,i) else bif decide (A < a) then bif decide (a < c) then (n A a c j k l m e f g h i (fun (c0,c1,c2,c3,c4,c5,c6,c7,c8)=>bif decide (c < i64.wrap (b - a)) then bif decide (i64.wrap (b - a) < d) then (n c (i64.wrap (b - a)) d c0 c1 c2 c3 c4 c5 c6 c7 c8 (fun (a2,a3,a4,a5,a6,a7,a8,a9,b0)=>k0 (a2,a3,a4,a5,a6,a7,a8,a9,b0))) else k0 (c0,c1,c2,c3,c4,c5,c6,c7,c8) else k0 (c0,c1,c2,c3,c4,c5,c6,c7,c8))) else bif decide (c < i64.wrap (b - a)) then bif decide (i64.wrap (b - a) < d) then (n c (i64.wrap (b - a)) d j k l m e f g h i (fun (b1,b2,b3,b4,b5,b6,b7,b8,b9)=>k0 (b1,b2,b3,b4,b5,b6,b7,b8,b9))) else k0 (j,k,l,m,e,f,g,h,i) else k0 (j,k,l,m,e,f,g,h,i) else bif decide (c < i64.wrap (b - a)) then bif decide (i64.wrap (b - a) < d) then (n c (i64.wrap (b - a)) d j k l m e f g h i (fun (B,C,D,E,F,G,H,I,J)=>k0 (B,C,D,E,F,G,H,I,J))) else k0 (j,k,l,m,e,f,g,h,i) else k0 (j,k,l,m,e,f,g,h,i))) else (L_slices_symMergeCmpFunc_api_Item_e16_8 fuel (x,y,z,i64.wrap (Ev.ishr IntKind.u64 (u64.wrap (i64.wrap (x+z))) (1:Int)),i64.wrap (i64.wrap (Ev.ishr IntKind.u64 (u64.wrap (i64.wrap (x+z))) (1:Int))+y),x,y,i64.wrap (i64.wrap (i64.wrap (Ev.ishr IntKind.u64 (u64.wrap (i64.wrap (x+z))) (1:Int))+y) - (1:Int)),d2,d3,d4,d5,d6,d7,d8,d0,d1) (fun (A,c9,d,c,b,a,j,k,l,m,e,f,g,h,i)=>bif decide (a < c9) then bif decide (c9 < i64.wrap (b - a)) then (F_slices_rotateCmpFunc_api_Item_e16 fuel a c9 (i64.wrap (b - a)) j k l m e f g h i (fun (o,p,q,r,s,t,u,v,w)=>bif decide (A < a) then bif decide (a < c) then (n A a c o p q r s t u v w (fun (K,L,M,N,O,P,Q,R,S)=>bif decide (c < i64.wrap (b - a)) then bif decide (i64.wrap (b - a) < d) then (n c (i64.wrap (b - a)) d K L M N O P Q R S (fun (d9,e0,e1,e2,e3,e4,e5,e6,e7)=>k0 (d9,e0,e1,e2,e3,e4,e5,e6,e7))) else k0 (K,L,M,N,O,P,Q,R,S) else k0 (K,L,M,N,O,P,Q,R,S))) else bif decide (c < i64.wrap (b - a)) then bif decide (i64.wrap (b - a) < d) then (n c (i64.wrap (b - a)) d o p q r s t u v w (fun (T,U,V,W,X,Y,Z,a0,a1)=>k0 (T,U,V,W,X,Y,Z,a0,a1))) else k0 (o,p,q,r,s,t,u,v,w) else k0 (o,p,q,r,s,t,u,v,w) else bif decide (c < i64.wrap (b - a)) then bif decide (i64.wrap (b - a) < d) then (n c (i64.wrap (b - a)) d o p q r s t u v w (fun (a2,a3,a4,a5,a6,a7,a8,a9,b0)=>k0 (a2,a3,a4,a5,a6,a7,a8,a9,b0))) else k0 (o,p,q,r,s,t,u,v,w) else k0 (o,p,q,r,s,t,u,v,w))) else bif decide (A < a) then bif decide (a < c) then (n A a c j k l m e f g h i (fun (B,C,D,E,F,G,H,I,J)=>bif decide (c < i64.wrap (b - a)) then bif decide (i64.wrap (b - a) < d) then (n c (i64.wrap (b - a)) d B C D E F G H I J (fun (T,U,V,W,X,Y,Z,a0,a1)=>k0 (T,U,V,W,X,Y,Z,a0,a1))) else k0 (B,C,D,E,F,G,H,I,J) else k0 (B,C,D,E,F,G,H,I,J))) else bif decide (c < i64.wrap (b - a)) then bif decide (i64.wrap (b - a) < d) then (n c (i64.wrap (b - a)) d j k l m e f g h i (fun (e8,e9,g0,g1,g2,g3,g4,g5,g6)=>k0 (e8,e9,g0,g1,g2,g3,g4,g5,g6))) else k0 (j,k,l,m,e,f,g,h,i) else k0 (j,k,l,m,e,f,g,h,i) else bif decide (c < i64.wrap (b - a)) then bif decide (i64.wrap (b - a) < d) then (n c (i64.wrap (b - a)) d j k l m e f g h i (fun (b1,b2,b3,b4,b5,b6,b7,b8,b9)=>k0 (b1,b2,b3,b4,b5,b6,b7,b8,b9))) else k0 (j,k,l,m,e,f,g,h,i) else k0 (j,k,l,m,e,f,g,h,i) else bif decide (A < a) then bif decide (a < c) then (n A a c j k l m e f g h i (fun (c0,c1,c2,c3,c4,c5,c6,c7,c8)=>bif decide (c < i64.wrap (b - a)) then bif decide (i64.wrap (b - a) < d) then (n c (i64.wrap (b - a)) d c0 c1 c2 c3 c4 c5 c6 c7 c8 (fun (a2,a3,a4,a5,a6,a7,a8,a9,b0)=>k0 (a2,a3,a4,a5,a6,a7,a8,a9,b0))) else k0 (c0,c1,c2,c3,c4,c5,c6,c7,c8) else k0 (c0,c1,c2,c3,c4,c5,c6,c7,c8))) else bif decide (c < i64.wrap (b - a)) then bif decide (i64.wrap (b - a) < d) then (n c (i64.wrap (b - a)) d j k l m e f g h i (fun (b1,b2,b3,b4,b5,b6,b7,b8,b9)=>k0 (b1,b2,b3,b4,b5,b6,b7,b8,b9))) else k0 (j,k,l,m,e,f,g,h,i) else k0 (j,k,l,m,e,f,g,h,i) else bif decide (c < i64.wrap (b - a)) then bif decide (i64.wrap (b - a) < d) then (n c (i64.wrap (b - a)) d j k l m e f g h i (fun (B,C,D,E,F,G,H,I,J)=>k0 (B,C,D,E,F,G,H,I,J))) else k0 (j,k,l,m,e,f,g,h,i) else k0 (j,k,l,m,e,f,g,h,i)))
def Fr_slices_symMergeCmpFunc_api_Item_e16 (fuel:Nat):Nat→YF143_e16 | 0=>fun _ _ _ _ _ _ _ _ _ _ _ _ _=>none | n+1=>fun c d e f g h i j k l a b k0=>Fb_slices_symMergeCmpFunc_api_Item_e16 (Fr_slices_symMergeCmpFunc_api_Item_e16 fuel n) fuel c d e f g h i j k l a b k0
def F_slices_symMergeCmpFunc_api_Item_e16 (fuel:Nat) (c d e:Int) (f:(List (Int×(Int×(Int×(Bool×(Int×(Int×(Int×(Int×(List Int))))))))))) (g h:Int) (i:Bool) (j k l:Int) (a:Bool) (b:Int) (k0:((List (Int×(Int×(Int×(Bool×(Int×(Int×(Int×(Int×(List Int))))))))))×Int×Int×Bool×Int×Int×Int×Bool×Int)→Option Ans):Option Ans:=Fr_slices_symMergeCmpFunc_api_Item_e16 fuel fuel c d e f g h i j k l a b k0
theorem F143_e16_eqg (fuel:Nat) (h1:YF54_805) (p:YF143_e16) (e2:YF176_e16) (q B C:Int) (d5:(List (Int×(Int×(Int×(Bool×(Int×(Int×(Int×(Int×LI)))))))))) (d6 d7:Int) (d8:Bool) (d9 e0 e1:Int) (d3:Bool) (d4:Int) (k:Ev.Cont):evalFn tab (Gg143_e16 h1 p e2) (J143_e16 fuel) kp143_e16 fuel Tryz.f143 [.c (.own 0),.c (i6 q),.c (i6 B),.c (i6 C),.c (.clo 54 [1])] [.vec 85 (.pair (.int .i64) (.pair (.int .i64) (.pair (.int .i64) (.pair .bool (.pair (.int .i64) (.pair (.int .i64) (.pair (.int .i64) (.pair (.int .i64) (.sl (.int .u8)))))))))) d5 false,.cells 51 [i6 d6,i6 d7,.bool d8,i6 d9,i6 e0,i6 e1,.bool d3,i6 d4]] k=(fun  (k0:((List (Int×(Int×(Int×(Bool×(Int×(Int×(Int×(Int×LI)))))))))×Int×Int×Bool×Int×Int×Int×Bool×Int)→OA)=>
  bif i64.wrap (B - q)==(1:Int) then
  (L_slices_symMergeCmpFunc_api_Item_e16_0 fuel (q,B,C,d5,d6,d7,d8,d9,e0,e1,d3,d4)
  (fun (h4,h5,h6,h7,h8,h9,j0,j1,j2,j3,h2)=>
  (L_slices_symMergeCmpFunc_api_Item_e16_2 fuel (h5,h4,h6,h7,h8,h9,j0,j1,j2,j3,h2)
  (fun (j4,j5,j6,j7,j8,j9,k1,k2,k3)=>
  k0 (j4,j5,j6,j7,j8,j9,k1,k2,k3)))))
  else
  bif i64.wrap (C - B)==(1:Int) then
  (L_slices_symMergeCmpFunc_api_Item_e16_4 fuel (B,q,B,d5,d6,d7,d8,d9,e0,e1,d3,d4)
  (fun (k4,k5,k6,k7,k8,k9,l0,l1,l2,l3,h3)=>
  (L_slices_symMergeCmpFunc_api_Item_e16_6 fuel (k5,k4,k6,k7,k8,k9,l0,l1,l2,l3,h3)
  (fun (l4,l5,l6,l7,l8,l9,m0,m1,m2)=>
  k0 (l4,l5,l6,l7,l8,l9,m0,m1,m2)))))
  else
  bif decide (B > i64.wrap (Ev.ishr IntKind.u64 (u64.wrap (i64.wrap (q+C))) (1:Int))) then
  (L_slices_symMergeCmpFunc_api_Item_e16_8 fuel (q,B,C,i64.wrap (Ev.ishr IntKind.u64 (u64.wrap (i64.wrap (q+C))) (1:Int)),i64.wrap (i64.wrap (Ev.ishr IntKind.u64 (u64.wrap (i64.wrap (q+C))) (1:Int))+B),i64.wrap (i64.wrap (i64.wrap (Ev.ishr IntKind.u64 (u64.wrap (i64.wrap (q+C))) (1:Int))+B) - C),i64.wrap (Ev.ishr IntKind.u64 (u64.wrap (i64.wrap (q+C))) (1:Int)),i64.wrap (i64.wrap (i64.wrap (Ev.ishr IntKind.u64 (u64.wrap (i64.wrap (q+C))) (1:Int))+B) - (1:Int)),d5,d6,d7,d8,d9,e0,e1,d3,d4)
  (fun (D,d2,e,d,b,a,l,m,n,o,f,g,h,i,j)=>
  bif decide (a < d2) then
  bif decide (d2 < i64.wrap (b - a)) then
  (e2 a d2 (i64.wrap (b - a)) l m n o f g h i j
  (fun (s,t,u,v,w,x,y,z,A)=>
  bif decide (D < a) then
  bif decide (a < d) then
  (p D a d s t u v w x y z A
  (fun (N,O,P,Q,R,S,T,U,V)=>
  bif decide (d < i64.wrap (b - a)) then
  bif decide (i64.wrap (b - a) < e) then
  (p d (i64.wrap (b - a)) e N O P Q R S T U V
  (fun (e3,e4,e5,e6,e7,e8,e9,g0,g1)=>
  k0 (e3,e4,e5,e6,e7,e8,e9,g0,g1)))
  else
  k0 (N,O,P,Q,R,S,T,U,V)
  else
  k0 (N,O,P,Q,R,S,T,U,V)))
  else
  bif decide (d < i64.wrap (b - a)) then
  bif decide (i64.wrap (b - a) < e) then
  (p d (i64.wrap (b - a)) e s t u v w x y z A
  (fun (W,X,Y,Z,a0,a1,a2,a3,a4)=>
  k0 (W,X,Y,Z,a0,a1,a2,a3,a4)))
  else
  k0 (s,t,u,v,w,x,y,z,A)
  else
  k0 (s,t,u,v,w,x,y,z,A)
  else
  bif decide (d < i64.wrap (b - a)) then
  bif decide (i64.wrap (b - a) < e) then
  (p d (i64.wrap (b - a)) e s t u v w x y z A
  (fun (a5,a6,a7,a8,a9,b0,b1,b2,b3)=>
  k0 (a5,a6,a7,a8,a9,b0,b1,b2,b3)))
  else
  k0 (s,t,u,v,w,x,y,z,A)
  else
  k0 (s,t,u,v,w,x,y,z,A)))
  else
  bif decide (D < a) then
  bif decide (a < d) then
  (p D a d l m n o f g h i j
  (fun (E,F,G,H,I,J,K,L,M)=>
  bif decide (d < i64.wrap (b - a)) then
  bif decide (i64.wrap (b - a) < e) then
  (p d (i64.wrap (b - a)) e E F G H I J K L M
  (fun (W,X,Y,Z,a0,a1,a2,a3,a4)=>
  k0 (W,X,Y,Z,a0,a1,a2,a3,a4)))
  else
  k0 (E,F,G,H,I,J,K,L,M)
  else
  k0 (E,F,G,H,I,J,K,L,M)))
  else
  bif decide (d < i64.wrap (b - a)) then
  bif decide (i64.wrap (b - a) < e) then
  (p d (i64.wrap (b - a)) e l m n o f g h i j
  (fun (g2,g3,g4,g5,g6,g7,g8,g9,h0)=>
  k0 (g2,g3,g4,g5,g6,g7,g8,g9,h0)))
  else
  k0 (l,m,n,o,f,g,h,i,j)
  else
  k0 (l,m,n,o,f,g,h,i,j)
  else
  bif decide (d < i64.wrap (b - a)) then
  bif decide (i64.wrap (b - a) < e) then
  (p d (i64.wrap (b - a)) e l m n o f g h i j
  (fun (b4,b5,b6,b7,b8,b9,c0,c1,c2)=>
  k0 (b4,b5,b6,b7,b8,b9,c0,c1,c2)))
  else
  k0 (l,m,n,o,f,g,h,i,j)
  else
  k0 (l,m,n,o,f,g,h,i,j)
  else
  bif decide (D < a) then
  bif decide (a < d) then
  (p D a d l m n o f g h i j
  (fun (c3,c4,c5,c6,c7,c8,c9,d0,d1)=>
  bif decide (d < i64.wrap (b - a)) then
  bif decide (i64.wrap (b - a) < e) then
  (p d (i64.wrap (b - a)) e c3 c4 c5 c6 c7 c8 c9 d0 d1
  (fun (a5,a6,a7,a8,a9,b0,b1,b2,b3)=>
  k0 (a5,a6,a7,a8,a9,b0,b1,b2,b3)))
  else
  k0 (c3,c4,c5,c6,c7,c8,c9,d0,d1)
  else
  k0 (c3,c4,c5,c6,c7,c8,c9,d0,d1)))
  else
  bif decide (d < i64.wrap (b - a)) then
  bif decide (i64.wrap (b - a) < e) then
  (p d (i64.wrap (b - a)) e l m n o f g h i j
  (fun (b4,b5,b6,b7,b8,b9,c0,c1,c2)=>
  k0 (b4,b5,b6,b7,b8,b9,c0,c1,c2)))
  else
  k0 (l,m,n,o,f,g,h,i,j)
  else
  k0 (l,m,n,o,f,g,h,i,j)
  else
  bif decide (d < i64.wrap (b - a)) then
  bif decide (i64.wrap (b - a) < e) then
  (p d (i64.wrap (b - a)) e l m n o f g h i j
  (fun (E,F,G,H,I,J,K,L,M)=>
  k0 (E,F,G,H,I,J,K,L,M)))
  else
  k0 (l,m,n,o,f,g,h,i,j)
  else
  k0 (l,m,n,o,f,g,h,i,j)))
  else
  (L_slices_symMergeCmpFunc_api_Item_e16_8 fuel (q,B,C,i64.wrap (Ev.ishr IntKind.u64 (u64.wrap (i64.wrap (q+C))) (1:Int)),i64.wrap (i64.wrap (Ev.ishr IntKind.u64 (u64.wrap (i64.wrap (q+C))) (1:Int))+B),q,B,i64.wrap (i64.wrap (i64.wrap (Ev.ishr IntKind.u64 (u64.wrap (i64.wrap (q+C))) (1:Int))+B) - (1:Int)),d5,d6,d7,d8,d9,e0,e1,d3,d4)
  (fun (D,d2,e,d,b,a,l,m,n,o,f,g,h,i,j)=>
  bif decide (a < d2) then
  bif decide (d2 < i64.wrap (b - a)) then
  (e2 a d2 (i64.wrap (b - a)) l m n o f g h i j
  (fun (s,t,u,v,w,x,y,z,A)=>
  bif decide (D < a) then
  bif decide (a < d) then
  (p D a d s t u v w x y z A
  (fun (N,O,P,Q,R,S,T,U,V)=>
  bif decide (d < i64.wrap (b - a)) then
  bif decide (i64.wrap (b - a) < e) then
  (p d (i64.wrap (b - a)) e N O P Q R S T U V
  (fun (e3,e4,e5,e6,e7,e8,e9,g0,g1)=>
  k0 (e3,e4,e5,e6,e7,e8,e9,g0,g1)))
  else
  k0 (N,O,P,Q,R,S,T,U,V)
  else
  k0 (N,O,P,Q,R,S,T,U,V)))
  else
  bif decide (d < i64.wrap (b - a)) then
  bif decide (i64.wrap (b - a) < e) then
  (p d (i64.wrap (b - a)) e s t u v w x y z A
  (fun (W,X,Y,Z,a0,a1,a2,a3,a4)=>
  k0 (W,X,Y,Z,a0,a1,a2,a3,a4)))
  else
  k0 (s,t,u,v,w,x,y,z,A)
  else
  k0 (s,t,u,v,w,x,y,z,A)
  else
  bif decide (d < i64.wrap (b - a)) then
  bif decide (i64.wrap (b - a) < e) then
  (p d (i64.wrap (b - a)) e s t u v w x y z A
  (fun (a5,a6,a7,a8,a9,b0,b1,b2,b3)=>
  k0 (a5,a6,a7,a8,a9,b0,b1,b2,b3)))
  else
  k0 (s,t,u,v,w,x,y,z,A)
  else
  k0 (s,t,u,v,w,x,y,z,A)))
  else
  bif decide (D < a) then
  bif decide (a < d) then
  (p D a d l m n o f g h i j
  (fun (E,F,G,H,I,J,K,L,M)=>
  bif decide (d < i64.wrap (b - a)) then
  bif decide (i64.wrap (b - a) < e) then
  (p d (i64.wrap (b - a)) e E F G H I J K L M
  (fun (W,X,Y,Z,a0,a1,a2,a3,a4)=>
  k0 (W,X,Y,Z,a0,a1,a2,a3,a4)))
  else
  k0 (E,F,G,H,I,J,K,L,M)
  else
  k0 (E,F,G,H,I,J,K,L,M)))
  else
  bif decide (d < i64.wrap (b - a)) then
  bif decide (i64.wrap (b - a) < e) then
  (p d (i64.wrap (b - a)) e l m n o f g h i j
  (fun (g2,g3,g4,g5,g6,g7,g8,g9,h0)=>
  k0 (g2,g3,g4,g5,g6,g7,g8,g9,h0)))
  else
  k0 (l,m,n,o,f,g,h,i,j)
  else
  k0 (l,m,n,o,f,g,h,i,j)
  else
  bif decide (d < i64.wrap (b - a)) then
  bif decide (i64.wrap (b - a) < e) then
  (p d (i64.wrap (b - a)) e l m n o f g h i j
  (fun (b4,b5,b6,b7,b8,b9,c0,c1,c2)=>
  k0 (b4,b5,b6,b7,b8,b9,c0,c1,c2)))
  else
  k0 (l,m,n,o,f,g,h,i,j)
  else
  k0 (l,m,n,o,f,g,h,i,j)
  else
  bif decide (D < a) then
  bif decide (a < d) then
  (p D a d l m n o f g h i j
  (fun (c3,c4,c5,c6,c7,c8,c9,d0,d1)=>
  bif decide (d < i64.wrap (b - a)) then
  bif decide (i64.wrap (b - a) < e) then
  (p d (i64.wrap (b - a)) e c3 c4 c5 c6 c7 c8 c9 d0 d1
  (fun (a5,a6,a7,a8,a9,b0,b1,b2,b3)=>
  k0 (a5,a6,a7,a8,a9,b0,b1,b2,b3)))
  else
  k0 (c3,c4,c5,c6,c7,c8,c9,d0,d1)
  else
  k0 (c3,c4,c5,c6,c7,c8,c9,d0,d1)))
  else
  bif decide (d < i64.wrap (b - a)) then
  bif decide (i64.wrap (b - a) < e) then
  (p d (i64.wrap (b - a)) e l m n o f g h i j
  (fun (b4,b5,b6,b7,b8,b9,c0,c1,c2)=>
  k0 (b4,b5,b6,b7,b8,b9,c0,c1,c2)))
  else
  k0 (l,m,n,o,f,g,h,i,j)
  else
  k0 (l,m,n,o,f,g,h,i,j)
  else
  bif decide (d < i64.wrap (b - a)) then
  bif decide (i64.wrap (b - a) < e) then
  (p d (i64.wrap (b - a)) e l m n o f g h i j
  (fun (E,F,G,H,I,J,K,L,M)=>
  k0 (E,F,G,H,I,J,K,L,M)))
  else
  k0 (l,m,n,o,f,g,h,i,j)
  else
  k0 (l,m,n,o,f,g,h,i,j)))) (fun r=>match r with | (m3,m4,m5,m6,m7,m8,m9,n0,n1)=>k (.tup [],[.vec 85 (.pair (.int .i64) (.pair (.int .i64) (.pair (.int .i64) (.pair .bool (.pair (.int .i64) (.pair (.int .i64) (.pair (.int .i64) (.pair (.int .i64) (.sl (.int .u8)))))))))) m3 false,.cells 51 [i6 m4,i6 m5,.bool m6,i6 m7,i6 m8,i6 m9,.bool n0,i6 n1]])):=by
  kernel_rfl
theorem F143_e16_eq (fuel:Nat) (a:YF143_e16) (e f g:Int) (h:(List (Int×(Int×(Int×(Bool×(Int×(Int×(Int×(Int×LI)))))))))) (i j:Int) (l:Bool) (m n o:Int) (b:Bool) (d:Int) (k:Ev.Cont):evalFn tab (G143_e16 fuel a) (J143_e16 fuel) kp143_e16 fuel Tryz.f143 [.c (.own 0),.c (i6 e),.c (i6 f),.c (i6 g),.c (.clo 54 [1])] [.vec 85 (.pair (.int .i64) (.pair (.int .i64) (.pair (.int .i64) (.pair .bool (.pair (.int .i64) (.pair (.int .i64) (.pair (.int .i64) (.pair (.int .i64) (.sl (.int .u8)))))))))) h false,.cells 51 [i6 i,i6 j,.bool l,i6 m,i6 n,i6 o,.bool b,i6 d]] k=Fb_slices_symMergeCmpFunc_api_Item_e16 a fuel e f g h i j l m n o b d (fun r=>match r with | (p,q,s,t,u,v,w,x,y)=>k (.tup [],[.vec 85 (.pair (.int .i64) (.pair (.int .i64) (.pair (.int .i64) (.pair .bool (.pair (.int .i64) (.pair (.int .i64) (.pair (.int .i64) (.pair (.int .i64) (.sl (.int .u8)))))))))) p false,.cells 51 [i6 q,i6 s,.bool t,i6 u,i6 v,i6 w,.bool x,i6 y]])):=
  F143_e16_eqg fuel (F_text_Order_1_805 fuel) a (F_slices_rotateCmpFunc_api_Item_e16 fuel) e f g h i j l m n o b d k
theorem hG143_e16 (fuel:Nat) (a:YF143_e16) (hself:FnOK Tryz.prog 143 (spg143_e16 a)):GOK Tryz.prog (G143_e16 fuel a):=
  gc (ok54_805 fuel) Tryz.func54 (by kernel_rfl) rfl <|
  gok_cons ⟨hself,enters_of Tryz.func143 (by kernel_rfl) rfl⟩ <|
  gc (ok176_e16 fuel) Tryz.func176 (by kernel_rfl) rfl <|
  gok_nil
theorem B143_e16_0_blk (fuel:Nat) (a:YF143_e16) (hself:FnOK Tryz.prog 143 (spg143_e16 a)):BlkOK Tryz.prog Tryz.f143.ntmps (.block 0 (.loop (bodyOf 0 Tryz.f143))) (B143_e16_0 fuel):=
  blk_of (blk_of_code tab_ok (hG143_e16 fuel a hself) mixed (J:=J0) (kp:=kp143_e16) (fuel:=fuel) (by kernel_rfl) (fun q hq=>by
    rw [(by kernel_rfl:obl J0 (.block 0 (.loop (bodyOf 0 Tryz.f143)))= [])] at hq
    cases hq)) (B143_e16_0_ok fuel a)
theorem B143_e16_2_blk (fuel:Nat) (a:YF143_e16) (hself:FnOK Tryz.prog 143 (spg143_e16 a)):BlkOK Tryz.prog Tryz.f143.ntmps (.block 2 (.loop (bodyOf 2 Tryz.f143))) (B143_e16_2 fuel):=
  blk_of (blk_of_code tab_ok (hG143_e16 fuel a hself) mixed (J:=J143_e16_2 fuel) (kp:=kp143_e16) (fuel:=fuel) (by kernel_rfl) (fun q hq=>by
    rw [(by kernel_rfl:obl (J143_e16_2 fuel) (.block 2 (.loop (bodyOf 2 Tryz.f143)))= [])] at hq
    cases hq)) (B143_e16_2_ok fuel a)
theorem B143_e16_4_blk (fuel:Nat) (a:YF143_e16) (hself:FnOK Tryz.prog 143 (spg143_e16 a)):BlkOK Tryz.prog Tryz.f143.ntmps (.block 4 (.loop (bodyOf 4 Tryz.f143))) (B143_e16_4 fuel):=
  blk_of (blk_of_code tab_ok (hG143_e16 fuel a hself) mixed (J:=J143_e16_4 fuel) (kp:=kp143_e16) (fuel:=fuel) (by kernel_rfl) (fun q hq=>by
    rw [(by kernel_rfl:obl (J143_e16_4 fuel) (.block 4 (.loop (bodyOf 4 Tryz.f143)))= [])] at hq
    cases hq)) (B143_e16_4_ok fuel a)
theorem B143_e16_6_blk (fuel:Nat) (a:YF143_e16) (hself:FnOK Tryz.prog 143 (spg143_e16 a)):BlkOK Tryz.prog Tryz.f143.ntmps (.block 6 (.loop (bodyOf 6 Tryz.f143))) (B143_e16_6 fuel):=
  blk_of (blk_of_code tab_ok (hG143_e16 fuel a hself) mixed (J:=J143_e16_6 fuel) (kp:=kp143_e16) (fuel:=fuel) (by kernel_rfl) (fun q hq=>by
    rw [(by kernel_rfl:obl (J143_e16_6 fuel) (.block 6 (.loop (bodyOf 6 Tryz.f143)))= [])] at hq
    cases hq)) (B143_e16_6_ok fuel a)
theorem B143_e16_8_blk (fuel:Nat) (a:YF143_e16) (hself:FnOK Tryz.prog 143 (spg143_e16 a)):BlkOK Tryz.prog Tryz.f143.ntmps (.block 8 (.loop (bodyOf 8 Tryz.f143))) (B143_e16_8 fuel):=
  blk_of (blk_of_code tab_ok (hG143_e16 fuel a hself) mixed (J:=J143_e16_8 fuel) (kp:=kp143_e16) (fuel:=fuel) (by kernel_rfl) (fun q hq=>by
    rw [(by kernel_rfl:obl (J143_e16_8 fuel) (.block 8 (.loop (bodyOf 8 Tryz.f143)))= [])] at hq
    cases hq)) (B143_e16_8_ok fuel a)
theorem fok143_e16 (fuel:Nat) (a:YF143_e16) (hself:FnOK Tryz.prog 143 (spg143_e16 a)):FnOK Tryz.prog 143 (evalFn tab (G143_e16 fuel a) (J143_e16 fuel) kp143_e16 fuel Tryz.f143):=
  fn_ok tab_ok (hG143_e16 fuel a hself) mixed Tryz.func143 (c:=(Tryz.f143.body).getD .skip) rfl (fun q hq=>by
    rw [(by kernel_rfl:obl (J143_e16 fuel) ((Tryz.f143.body).getD .skip)= [(.block 0 (.loop (bodyOf 0 Tryz.f143)),B143_e16_0 fuel),(.block 2 (.loop (bodyOf 2 Tryz.f143)),B143_e16_2 fuel),(.block 4 (.loop (bodyOf 4 Tryz.f143)),B143_e16_4 fuel),(.block 6 (.loop (bodyOf 6 Tryz.f143)),B143_e16_6 fuel),(.block 8 (.loop (bodyOf 8 Tryz.f143)),B143_e16_8 fuel)])] at hq
    simp only [List.mem_cons,List.not_mem_nil,or_false] at hq
    rcases hq with rfl | rfl | rfl | rfl | rfl
    · exact B143_e16_0_blk fuel a hself
    · exact B143_e16_2_blk fuel a hself
    · exact B143_e16_4_blk fuel a hself
    · exact B143_e16_6_blk fuel a hself
    · exact B143_e16_8_blk fuel a hself)
def spec143_e16 (fuel:Nat):Ev.Spec:=spg143_e16 (F_slices_symMergeCmpFunc_api_Item_e16 fuel)
theorem okr143_e16 (fuel:Nat):∀ n:Nat,FnOK Tryz.prog 143 (spg143_e16 (Fr_slices_symMergeCmpFunc_api_Item_e16 fuel n))
  | 0=>by
    intro args objs kk r h
    unfold spg143_e16 at h
    split at h
    · skip
      obtain ⟨hb,h⟩:=cond_some' h
      cases h
    · cases h
  | n+1=>by
    intro args objs kk r h
    unfold spg143_e16 at h
    split at h
    · skip
      obtain ⟨hb,h⟩:=cond_some' h
      cases qb_eq hb
      exact fok143_e16 fuel (Fr_slices_symMergeCmpFunc_api_Item_e16 fuel n) (okr143_e16 fuel n) _ _ kk r ((F143_e16_eq fuel (Fr_slices_symMergeCmpFunc_api_Item_e16 fuel n) _ _ _ _ _ _ _ _ _ _ _ _ kk).trans h)
    · cases h
theorem ok143_e16 (fuel:Nat):FnOK Tryz.prog 143 (spec143_e16 fuel):=okr143_e16 fuel fuel
def kp100_770 (i:Nat):Option (List Nat):=Ev.look i [(2,[0,1,2,6,7,8]),(7,[0,1,2,6]),(9,[0,1,2,6,7,8]),(100000,[0,1,2,6,7]),(100002,[]),(100004,[0,1,2,6,7]),(400000,[]),(400002,[]),(400004,[])]
def Gg100_770 (a:YF142_bf0) (b:YF143_e16) (f:Nat):Option Ev.Spec:=Ev.look f [(1000142,spg142_bf0 a),(1000143,spg143_e16 b)]
def G100_770 (fuel:Nat):Nat→Option Ev.Spec:=Gg100_770 (F_slices_insertionSortCmpFunc_api_Item_bf0 fuel) (F_slices_symMergeCmpFunc_api_Item_e16 fuel)
abbrev V_slices_stableCmpFunc_api_Item_770_0:Type:=Int×Int×Int×Int×(List (Int×(Int×(Int×(Bool×(Int×(Int×(Int×(Int×LI)))))))))×Int×Int×Bool×Int×Int×Int×Bool×Int
abbrev W_slices_stableCmpFunc_api_Item_770_0:Type:=(Int×Int×Int×(List (Int×(Int×(Int×(Bool×(Int×(Int×(Int×(Int×LI)))))))))×Int×Int×Bool×Int×Int×Int×Bool×Int→OA)
def Sg_slices_stableCmpFunc_api_Item_770_0 (fuel:Nat) (p:YF142_bf0) (z:YF143_e16) (d e:Int) (i a:Int) (j:(List (Int×(Int×(Int×(Bool×(Int×(Int×(Int×(Int×LI)))))))))) (k l:Int) (m:Bool) (n o f:Int) (g:Bool) (h:Int) (c:V_slices_stableCmpFunc_api_Item_770_0→OA) (B:W_slices_stableCmpFunc_api_Item_770_0):OA:=match B with | b=>bif decide (a≤d) then (p i a j k l m n o f g h (fun (q,r,s,t,u,v,w,x,y)=>c (d,e,a,i64.wrap (a+e),q,r,s,t,u,v,w,x,y))) else b (d,e,i,j,k,l,m,n,o,f,g,h)
def S_slices_stableCmpFunc_api_Item_770_0 (fuel:Nat) (v:Int×Int×Int×Int×(List (Int×(Int×(Int×(Bool×(Int×(Int×(Int×(Int×(List Int))))))))))×Int×Int×Bool×Int×Int×Int×Bool×Int) (c:(Int×Int×Int×Int×(List (Int×(Int×(Int×(Bool×(Int×(Int×(Int×(Int×(List Int))))))))))×Int×Int×Bool×Int×Int×Int×Bool×Int)→Option Ans) (B:(Int×Int×Int×(List (Int×(Int×(Int×(Bool×(Int×(Int×(Int×(Int×(List Int))))))))))×Int×Int×Bool×Int×Int×Int×Bool×Int→Option Ans)):Option Ans:=match v with | (e,f,g,h,i,j,k,l,m,n,a,b,d)=>Sg_slices_stableCmpFunc_api_Item_770_0 fuel (F_slices_insertionSortCmpFunc_api_Item_bf0 fuel) (F_slices_symMergeCmpFunc_api_Item_e16 fuel) e f g h i j k l m n a b d c B
def L_slices_stableCmpFunc_api_Item_770_0 (fuel:Nat) (v:V_slices_stableCmpFunc_api_Item_770_0) (b:W_slices_stableCmpFunc_api_Item_770_0):Option Ans:=iter (S_slices_stableCmpFunc_api_Item_770_0 fuel) fuel v b
def T100_770_0 (v:V_slices_stableCmpFunc_api_Item_770_0):Ev.St:=match v with | (e,f,g,h,i,j,k,l,m,n,a,b,d)=>⟨[(0,.c (.own 0)),(1,.c (i6 e)),(2,.c (.clo 54 [1])),(6,.c (i6 f)),(7,.c (i6 g)),(8,.c (i6 h))],[(0,.vec 85 (.pair (.int .i64) (.pair (.int .i64) (.pair (.int .i64) (.pair .bool (.pair (.int .i64) (.pair (.int .i64) (.pair (.int .i64) (.pair (.int .i64) (.sl (.int .u8)))))))))) i false),(1,.cells 51 [i6 j,i6 k,.bool l,i6 m,i6 n,i6 a,.bool b,i6 d])],2,2⟩
def E100_770_0 (K:KT):W_slices_stableCmpFunc_api_Item_770_0:=(fun v=>match v with | (d,e,f,g,h,i,j,k,l,m,a,b)=>K .normal ⟨[(0,.c (.own 0)),(1,.c (i6 d)),(2,.c (.clo 54 [1])),(6,.c (i6 e)),(7,.c (i6 f))],[(0,.vec 85 (.pair (.int .i64) (.pair (.int .i64) (.pair (.int .i64) (.pair .bool (.pair (.int .i64) (.pair (.int .i64) (.pair (.int .i64) (.pair (.int .i64) (.sl (.int .u8)))))))))) g false),(1,.cells 51 [i6 h,i6 i,.bool j,i6 k,i6 l,i6 m,.bool a,i6 b])],2,2⟩)
theorem S100_770_0_okg (fuel:Nat) (a:YF142_bf0) (b:YF143_e16) (R:Ev.St→OA) (K:KT) (f g:Int) (h i:Int) (j:(List (Int×(Int×(Int×(Bool×(Int×(Int×(Int×(Int×LI)))))))))) (k l:Int) (m:Bool) (n o c:Int) (d:Bool) (e:Int):evalCode tab (Gg100_770 a b) J0 kp100_770 fuel (bodyOf 0 Tryz.f100) (T100_770_0 (f,g,h,i,j,k,l,m,n,o,c,d,e)) (lc kp100_770 2 0 R K)=Sg_slices_stableCmpFunc_api_Item_770_0 fuel a b f g h i j k l m n o c d e (fun v=>R (T100_770_0 v)) (E100_770_0 K):=by
  kernel_rfl
def B100_770_0 (fuel:Nat):Ev.Blk:=fun st K=>match canonO (kp100_770 2) st with | some s=>(match s with | ⟨[(j,.c (.own k)),(l,.c (i6 m)),(n,.c (.clo o [p])),(q,.c (i6 r)),(t,.c (i6 u)),(v,.c (i6 w))],[(x,.vec a (.pair (.int .i64) (.pair (.int .i64) (.pair (.int .i64) (.pair .bool (.pair (.int .i64) (.pair (.int .i64) (.pair (.int .i64) (.pair (.int .i64) (.sl (.int .u8)))))))))) y false),(b,.cells d [i6 z,i6 A,.bool B,i6 C,i6 D,i6 e,.bool f,i6 g])],h,i⟩=>bif qb [j,k,l,n,o,p,q,t,v,x,a,b,d,h,i] [0,0,1,2,54,1,6,7,8,0,85,1,51,2,2] then iter (S_slices_stableCmpFunc_api_Item_770_0 fuel) fuel (m,r,u,w,y,z,A,B,C,D,e,f,g) (E100_770_0 K) else none | _=>none) | none=>none
theorem B100_770_0_ok (fuel:Nat) (st:Ev.St) (K:KT) (r:Ans) (h:B100_770_0 fuel st K=some r):evalCode tab (G100_770 fuel) J0 kp100_770 fuel (.block 0 (.loop (bodyOf 0 Tryz.f100))) st K=some r:=by
  unfold B100_770_0 at h
  split at h
  · rename_i s hs
    split at h
    · skip
      obtain ⟨hb,h⟩:=cond_some' h
      cases qb_eq hb
      exact blk_loop (S:=T100_770_0) (ks:=E100_770_0) (step:=S_slices_stableCmpFunc_api_Item_770_0 fuel) (v:=(_,_,_,_,_,_,_,_,_,_,_,_,_)) (by kernel_rfl) (by kernel_rfl) (fun R K v=>by obtain ⟨d,e,f,g,i,j,k,l,m,n,a,b,c⟩:=v; exact S100_770_0_okg fuel (F_slices_insertionSortCmpFunc_api_Item_bf0 fuel) (F_slices_symMergeCmpFunc_api_Item_e16 fuel) R K d e f g i j k l m n a b c) hs h
    · cases h
  · cases h
abbrev V_slices_stableCmpFunc_api_Item_770_4:Type:=Int×Int×Int×Int×(List (Int×(Int×(Int×(Bool×(Int×(Int×(Int×(Int×LI)))))))))×Int×Int×Bool×Int×Int×Int×Bool×Int
abbrev W_slices_stableCmpFunc_api_Item_770_4:Type:=(Int×Int×Int×(List (Int×(Int×(Int×(Bool×(Int×(Int×(Int×(Int×LI)))))))))×Int×Int×Bool×Int×Int×Int×Bool×Int→OA)
def Sg_slices_stableCmpFunc_api_Item_770_4 (fuel:Nat) (z:YF142_bf0) (p:YF143_e16) (e a:Int) (f d:Int) (j:(List (Int×(Int×(Int×(Bool×(Int×(Int×(Int×(Int×LI)))))))))) (k l:Int) (m:Bool) (n o g:Int) (h:Bool) (i:Int) (c:V_slices_stableCmpFunc_api_Item_770_4→OA) (B:W_slices_stableCmpFunc_api_Item_770_4):OA:=match B with | b=>bif decide (d≤e) then (p f (i64.wrap (f+a)) d j k l m n o g h i (fun (q,r,s,t,u,v,w,x,y)=>c (e,a,d,i64.wrap (d+i64.wrap (2*a)),q,r,s,t,u,v,w,x,y))) else b (e,a,f,j,k,l,m,n,o,g,h,i)
def S_slices_stableCmpFunc_api_Item_770_4 (fuel:Nat) (v:Int×Int×Int×Int×(List (Int×(Int×(Int×(Bool×(Int×(Int×(Int×(Int×(List Int))))))))))×Int×Int×Bool×Int×Int×Int×Bool×Int) (c:(Int×Int×Int×Int×(List (Int×(Int×(Int×(Bool×(Int×(Int×(Int×(Int×(List Int))))))))))×Int×Int×Bool×Int×Int×Int×Bool×Int)→Option Ans) (B:(Int×Int×Int×(List (Int×(Int×(Int×(Bool×(Int×(Int×(Int×(Int×(List Int))))))))))×Int×Int×Bool×Int×Int×Int×Bool×Int→Option Ans)):Option Ans:=match v with | (e,f,g,h,i,j,k,l,m,n,a,b,d)=>Sg_slices_stableCmpFunc_api_Item_770_4 fuel (F_slices_insertionSortCmpFunc_api_Item_bf0 fuel) (F_slices_symMergeCmpFunc_api_Item_e16 fuel) e f g h i j k l m n a b d c B
def L_slices_stableCmpFunc_api_Item_770_4 (fuel:Nat) (v:V_slices_stableCmpFunc_api_Item_770_4) (b:W_slices_stableCmpFunc_api_Item_770_4):Option Ans:=iter (S_slices_stableCmpFunc_api_Item_770_4 fuel) fuel v b
def J100_770_4 (fuel:Nat) (i:Nat):Option Ev.Blk:=Ev.look i [(100000,B100_770_0 fuel)]
def T100_770_4 (v:V_slices_stableCmpFunc_api_Item_770_4):Ev.St:=match v with | (e,f,g,h,i,j,k,l,m,n,a,b,d)=>⟨[(0,.c (.own 0)),(1,.c (i6 e)),(2,.c (.clo 54 [1])),(6,.c (i6 f)),(7,.c (i6 g)),(8,.c (i6 h))],[(0,.vec 85 (.pair (.int .i64) (.pair (.int .i64) (.pair (.int .i64) (.pair .bool (.pair (.int .i64) (.pair (.int .i64) (.pair (.int .i64) (.pair (.int .i64) (.sl (.int .u8)))))))))) i false),(1,.cells 51 [i6 j,i6 k,.bool l,i6 m,i6 n,i6 a,.bool b,i6 d])],2,2⟩
def E100_770_4 (K:KT):W_slices_stableCmpFunc_api_Item_770_4:=(fun v=>match v with | (d,e,f,g,h,i,j,k,l,m,a,b)=>K .normal ⟨[(0,.c (.own 0)),(1,.c (i6 d)),(2,.c (.clo 54 [1])),(6,.c (i6 e)),(7,.c (i6 f))],[(0,.vec 85 (.pair (.int .i64) (.pair (.int .i64) (.pair (.int .i64) (.pair .bool (.pair (.int .i64) (.pair (.int .i64) (.pair (.int .i64) (.pair (.int .i64) (.sl (.int .u8)))))))))) g false),(1,.cells 51 [i6 h,i6 i,.bool j,i6 k,i6 l,i6 m,.bool a,i6 b])],2,2⟩)
theorem S100_770_4_okg (fuel:Nat) (a:YF142_bf0) (b:YF143_e16) (R:Ev.St→OA) (K:KT) (f g:Int) (h i:Int) (j:(List (Int×(Int×(Int×(Bool×(Int×(Int×(Int×(Int×LI)))))))))) (k l:Int) (m:Bool) (n o c:Int) (d:Bool) (e:Int):evalCode tab (Gg100_770 a b) (J100_770_4 fuel) kp100_770 fuel (bodyOf 4 Tryz.f100) (T100_770_4 (f,g,h,i,j,k,l,m,n,o,c,d,e)) (lc kp100_770 9 4 R K)=Sg_slices_stableCmpFunc_api_Item_770_4 fuel a b f g h i j k l m n o c d e (fun v=>R (T100_770_4 v)) (E100_770_4 K):=by
  kernel_rfl
def B100_770_4 (fuel:Nat):Ev.Blk:=fun st K=>match canonO (kp100_770 9) st with | some s=>(match s with | ⟨[(j,.c (.own k)),(l,.c (i6 m)),(n,.c (.clo o [p])),(q,.c (i6 r)),(t,.c (i6 u)),(v,.c (i6 w))],[(x,.vec a (.pair (.int .i64) (.pair (.int .i64) (.pair (.int .i64) (.pair .bool (.pair (.int .i64) (.pair (.int .i64) (.pair (.int .i64) (.pair (.int .i64) (.sl (.int .u8)))))))))) y false),(b,.cells d [i6 z,i6 A,.bool B,i6 C,i6 D,i6 e,.bool f,i6 g])],h,i⟩=>bif qb [j,k,l,n,o,p,q,t,v,x,a,b,d,h,i] [0,0,1,2,54,1,6,7,8,0,85,1,51,2,2] then iter (S_slices_stableCmpFunc_api_Item_770_4 fuel) fuel (m,r,u,w,y,z,A,B,C,D,e,f,g) (E100_770_4 K) else none | _=>none) | none=>none
theorem B100_770_4_ok (fuel:Nat) (st:Ev.St) (K:KT) (r:Ans) (h:B100_770_4 fuel st K=some r):evalCode tab (G100_770 fuel) (J100_770_4 fuel) kp100_770 fuel (.block 4 (.loop (bodyOf 4 Tryz.f100))) st K=some r:=by
  unfold B100_770_4 at h
  split at h
  · rename_i s hs
    split at h
    · skip
      obtain ⟨hb,h⟩:=cond_some' h
      cases qb_eq hb
      exact blk_loop (S:=T100_770_4) (ks:=E100_770_4) (step:=S_slices_stableCmpFunc_api_Item_770_4 fuel) (v:=(_,_,_,_,_,_,_,_,_,_,_,_,_)) (by kernel_rfl) (by kernel_rfl) (fun R K v=>by obtain ⟨d,e,f,g,i,j,k,l,m,n,a,b,c⟩:=v; exact S100_770_4_okg fuel (F_slices_insertionSortCmpFunc_api_Item_bf0 fuel) (F_slices_symMergeCmpFunc_api_Item_e16 fuel) R K d e f g i j k l m n a b c) hs h
    · cases h
  · cases h
abbrev V_slices_stableCmpFunc_api_Item_770_2:Type:=Int×Int×(List (Int×(Int×(Int×(Bool×(Int×(Int×(Int×(Int×LI)))))))))×Int×Int×Bool×Int×Int×Int×Bool×Int
abbrev W_slices_stableCmpFunc_api_Item_770_2:Type:=((List (Int×(Int×(Int×(Bool×(Int×(Int×(Int×(Int×LI)))))))))×Int×Int×Bool×Int×Int×Int×Bool×Int→OA)
def Sg_slices_stableCmpFunc_api_Item_770_2 (fuel:Nat) (K:YF142_bf0) (z:YF143_e16) (q f:Int) (r:(List (Int×(Int×(Int×(Bool×(Int×(Int×(Int×(Int×LI)))))))))) (s t:Int) (u:Bool) (v w x:Int) (y:Bool) (p:Int) (c:V_slices_stableCmpFunc_api_Item_770_2→OA) (B:W_slices_stableCmpFunc_api_Item_770_2):OA:=match B with | b=>bif decide (f < q) then (L_slices_stableCmpFunc_api_Item_770_4 fuel (q,f,0,i64.wrap (2*f),r,s,t,u,v,w,x,y,p) (fun (a,d,e,i,j,k,l,m,n,o,g,h)=>bif decide (i64.wrap (e+d) < a) then (z e (i64.wrap (e+d)) a i j k l m n o g h (fun (A,C,D,E,F,G,H,I,J)=>c (a,i64.wrap (d*2),A,C,D,E,F,G,H,I,J))) else c (a,i64.wrap (d*2),i,j,k,l,m,n,o,g,h))) else b (r,s,t,u,v,w,x,y,p)
def S_slices_stableCmpFunc_api_Item_770_2 (fuel:Nat) (v:Int×Int×(List (Int×(Int×(Int×(Bool×(Int×(Int×(Int×(Int×(List Int))))))))))×Int×Int×Bool×Int×Int×Int×Bool×Int) (c:(Int×Int×(List (Int×(Int×(Int×(Bool×(Int×(Int×(Int×(Int×(List Int))))))))))×Int×Int×Bool×Int×Int×Int×Bool×Int)→Option Ans) (B:((List (Int×(Int×(Int×(Bool×(Int×(Int×(Int×(Int×(List Int))))))))))×Int×Int×Bool×Int×Int×Int×Bool×Int→Option Ans)):Option Ans:=match v with | (b,d,e,f,g,h,i,j,k,l,a)=>Sg_slices_stableCmpFunc_api_Item_770_2 fuel (F_slices_insertionSortCmpFunc_api_Item_bf0 fuel) (F_slices_symMergeCmpFunc_api_Item_e16 fuel) b d e f g h i j k l a c B
def L_slices_stableCmpFunc_api_Item_770_2 (fuel:Nat) (v:V_slices_stableCmpFunc_api_Item_770_2) (b:W_slices_stableCmpFunc_api_Item_770_2):Option Ans:=iter (S_slices_stableCmpFunc_api_Item_770_2 fuel) fuel v b
def J100_770_2 (fuel:Nat) (i:Nat):Option Ev.Blk:=Ev.look i [(100000,B100_770_0 fuel),(100004,B100_770_4 fuel)]
def T100_770_2 (v:V_slices_stableCmpFunc_api_Item_770_2):Ev.St:=match v with | (b,d,e,f,g,h,i,j,k,l,a)=>⟨[(0,.c (.own 0)),(1,.c (i6 b)),(2,.c (.clo 54 [1])),(6,.c (i6 d))],[(0,.vec 85 (.pair (.int .i64) (.pair (.int .i64) (.pair (.int .i64) (.pair .bool (.pair (.int .i64) (.pair (.int .i64) (.pair (.int .i64) (.pair (.int .i64) (.sl (.int .u8)))))))))) e false),(1,.cells 51 [i6 f,i6 g,.bool h,i6 i,i6 j,i6 k,.bool l,i6 a])],2,2⟩
def E100_770_2 (K:KT):W_slices_stableCmpFunc_api_Item_770_2:=(fun v=>match v with | (a,b,c,d,e,f,g,h,i)=>K .normal ⟨[],[(0,.vec 85 (.pair (.int .i64) (.pair (.int .i64) (.pair (.int .i64) (.pair .bool (.pair (.int .i64) (.pair (.int .i64) (.pair (.int .i64) (.pair (.int .i64) (.sl (.int .u8)))))))))) a false),(1,.cells 51 [i6 b,i6 c,.bool d,i6 e,i6 f,i6 g,.bool h,i6 i])],2,2⟩)
theorem S100_770_2_okg (fuel:Nat) (a:YF142_bf0) (b:YF143_e16) (R:Ev.St→OA) (K:KT) (d e:Int) (f:(List (Int×(Int×(Int×(Bool×(Int×(Int×(Int×(Int×LI)))))))))) (g h:Int) (i:Bool) (j k l:Int) (m:Bool) (c:Int):evalCode tab (Gg100_770 a b) (J100_770_2 fuel) kp100_770 fuel (bodyOf 2 Tryz.f100) (T100_770_2 (d,e,f,g,h,i,j,k,l,m,c)) (lc kp100_770 7 2 R K)=Sg_slices_stableCmpFunc_api_Item_770_2 fuel a b d e f g h i j k l m c (fun v=>R (T100_770_2 v)) (E100_770_2 K):=by
  kernel_rfl
def B100_770_2 (fuel:Nat):Ev.Blk:=fun st K=>match canonO (kp100_770 7) st with | some s=>(match s with | ⟨[(f,.c (.own g)),(h,.c (i6 i)),(j,.c (.clo k [l])),(m,.c (i6 n))],[(o,.vec p (.pair (.int .i64) (.pair (.int .i64) (.pair (.int .i64) (.pair .bool (.pair (.int .i64) (.pair (.int .i64) (.pair (.int .i64) (.pair (.int .i64) (.sl (.int .u8)))))))))) q false),(r,.cells a [i6 t,i6 u,.bool v,i6 w,i6 x,i6 y,.bool z,i6 b])],d,e⟩=>bif qb [f,g,h,j,k,l,m,o,p,r,a,d,e] [0,0,1,2,54,1,6,0,85,1,51,2,2] then iter (S_slices_stableCmpFunc_api_Item_770_2 fuel) fuel (i,n,q,t,u,v,w,x,y,z,b) (E100_770_2 K) else none | _=>none) | none=>none
theorem B100_770_2_ok (fuel:Nat) (st:Ev.St) (K:KT) (r:Ans) (h:B100_770_2 fuel st K=some r):evalCode tab (G100_770 fuel) (J100_770_2 fuel) kp100_770 fuel (.block 2 (.loop (bodyOf 2 Tryz.f100))) st K=some r:=by
  unfold B100_770_2 at h
  split at h
  · rename_i s hs
    split at h
    · skip
      obtain ⟨hb,h⟩:=cond_some' h
      cases qb_eq hb
      exact blk_loop (S:=T100_770_2) (ks:=E100_770_2) (step:=S_slices_stableCmpFunc_api_Item_770_2 fuel) (v:=(_,_,_,_,_,_,_,_,_,_,_)) (by kernel_rfl) (by kernel_rfl) (fun R K v=>by obtain ⟨b,c,d,e,f,g,i,j,k,l,a⟩:=v; exact S100_770_2_okg fuel (F_slices_insertionSortCmpFunc_api_Item_bf0 fuel) (F_slices_symMergeCmpFunc_api_Item_e16 fuel) R K b c d e f g i j k l a) hs h
    · cases h
  · cases h
def J100_770 (fuel:Nat) (i:Nat):Option Ev.Blk:=Ev.look i [(100000,B100_770_0 fuel),(100004,B100_770_4 fuel),(100002,B100_770_2 fuel)]
def Fg_slices_stableCmpFunc_api_Item_770 (fuel:Nat) (b:YF142_bf0) (P:YF143_e16) (F:Int) (G:(List (Int×(Int×(Int×(Bool×(Int×(Int×(Int×(Int×LI)))))))))) (H I:Int) (J:Bool) (K L M:Int) (N:Bool) (O:Int) (k0:((List (Int×(Int×(Int×(Bool×(Int×(Int×(Int×(Int×LI)))))))))×Int×Int×Bool×Int×Int×Int×Bool×Int)→OA):OA:=(L_slices_stableCmpFunc_api_Item_770_0 fuel (F,20,0,20,G,H,I,J,K,L,M,N,O) (fun (a,e,f,g,h,i,j,k,l,m,c,d)=>(b f a g h i j k l m c d (fun (n,o,p,q,r,s,t,u,v)=>(L_slices_stableCmpFunc_api_Item_770_2 fuel (a,e,n,o,p,q,r,s,t,u,v) (fun (w,x,y,z,A,B,C,D,E)=>k0 (w,x,y,z,A,B,C,D,E)))))))
abbrev YF100_770:Type:=Int→((List (Int×(Int×(Int×(Bool×(Int×(Int×(Int×(Int×LI))))))))))→Int→Int→Bool→Int→Int→Int→Bool→Int→(((List (Int×(Int×(Int×(Bool×(Int×(Int×(Int×(Int×LI)))))))))×Int×Int×Bool×Int×Int×Int×Bool×Int)→Option Ans)→Option Ans
def F_slices_stableCmpFunc_api_Item_770 (fuel:Nat):YF100_770:=Fg_slices_stableCmpFunc_api_Item_770 fuel (F_slices_insertionSortCmpFunc_api_Item_bf0 fuel) (F_slices_symMergeCmpFunc_api_Item_e16 fuel)
theorem F100_770_eqg (fuel:Nat) (a:YF142_bf0) (b:YF143_e16) (d:Int) (e:(List (Int×(Int×(Int×(Bool×(Int×(Int×(Int×(Int×LI)))))))))) (f g:Int) (h:Bool) (i j l:Int) (m:Bool) (n:Int) (k:Ev.Cont):evalFn tab (Gg100_770 a b) (J100_770 fuel) kp100_770 fuel Tryz.f100 [.c (.own 0),.c (i6 d),.c (.clo 54 [1])] [.vec 85 (.pair (.int .i64) (.pair (.int .i64) (.pair (.int .i64) (.pair .bool (.pair (.int .i64) (.pair (.int .i64) (.pair (.int .i64) (.pair (.int .i64) (.sl (.int .u8)))))))))) e false,.cells 51 [i6 f,i6 g,.bool h,i6 i,i6 j,i6 l,.bool m,i6 n]] k=Fg_slices_stableCmpFunc_api_Item_770 fuel a b d e f g h i j l m n (fun r=>match r with | (o,p,q,s,t,u,v,w,x)=>k (.tup [],[.vec 85 (.pair (.int .i64) (.pair (.int .i64) (.pair (.int .i64) (.pair .bool (.pair (.int .i64) (.pair (.int .i64) (.pair (.int .i64) (.pair (.int .i64) (.sl (.int .u8)))))))))) o false,.cells 51 [i6 p,i6 q,.bool s,i6 t,i6 u,i6 v,.bool w,i6 x]])):=by
  kernel_rfl
theorem hG100_770 (fuel:Nat):GOK Tryz.prog (G100_770 fuel):=
  gc (ok142_bf0 fuel) Tryz.func142 (by kernel_rfl) rfl <|
  gc (ok143_e16 fuel) Tryz.func143 (by kernel_rfl) rfl <|
  gok_nil
theorem B100_770_0_blk (fuel:Nat):BlkOK Tryz.prog Tryz.f100.ntmps (.block 0 (.loop (bodyOf 0 Tryz.f100))) (B100_770_0 fuel):=bo0 (hG100_770 fuel) (by kernel_rfl) (by kernel_rfl) (B100_770_0_ok fuel)
theorem B100_770_4_blk (fuel:Nat):BlkOK Tryz.prog Tryz.f100.ntmps (.block 4 (.loop (bodyOf 4 Tryz.f100))) (B100_770_4 fuel):=bo0 (hG100_770 fuel) (by kernel_rfl) (by kernel_rfl) (B100_770_4_ok fuel)
theorem B100_770_2_blk (fuel:Nat):BlkOK Tryz.prog Tryz.f100.ntmps (.block 2 (.loop (bodyOf 2 Tryz.f100))) (B100_770_2 fuel):=
  blk_of (blk_of_code tab_ok (hG100_770 fuel) mixed (J:=J100_770_2 fuel) (kp:=kp100_770) (fuel:=fuel) (by kernel_rfl) (fun q hq=>by
    rw [(by kernel_rfl:obl (J100_770_2 fuel) (.block 2 (.loop (bodyOf 2 Tryz.f100)))= [(.block 4 (.loop (bodyOf 4 Tryz.f100)),B100_770_4 fuel)])] at hq
    simp only [List.mem_cons,List.not_mem_nil,or_false] at hq
    subst hq
    · exact B100_770_4_blk fuel)) (B100_770_2_ok fuel)
theorem fok100_770 (fuel:Nat):FnOK Tryz.prog 100 (evalFn tab (G100_770 fuel) (J100_770 fuel) kp100_770 fuel Tryz.f100):=
  fn_ok tab_ok (hG100_770 fuel) mixed Tryz.func100 (c:=(Tryz.f100.body).getD .skip) rfl (fun q hq=>by
    rw [(by kernel_rfl:obl (J100_770 fuel) ((Tryz.f100.body).getD .skip)= [(.block 0 (.loop (bodyOf 0 Tryz.f100)),B100_770_0 fuel),(.block 2 (.loop (bodyOf 2 Tryz.f100)),B100_770_2 fuel)])] at hq
    simp only [List.mem_cons,List.not_mem_nil,or_false] at hq
    rcases hq with rfl | rfl
    · exact B100_770_0_blk fuel
    · exact B100_770_2_blk fuel)
def spg100_770 (F:YF100_770):Ev.Spec:=fun args objs k=>match args,objs with | [.c (.own a),.c (i6 b),.c (.clo d [e])],[.vec f (.pair (.int .i64) (.pair (.int .i64) (.pair (.int .i64) (.pair .bool (.pair (.int .i64) (.pair (.int .i64) (.pair (.int .i64) (.pair (.int .i64) (.sl (.int .u8)))))))))) g false,.cells h [i6 i,i6 j,.bool l,i6 m,i6 n,i6 o,.bool p,i6 q]]=>bif qb [a,d,e,f,h] [0,54,1,85,51] then F b g i j l m n o p q (fun r=>match r with | (s,t,u,v,w,x,y,z,A)=>k (.tup [],[.vec 85 (.pair (.int .i64) (.pair (.int .i64) (.pair (.int .i64) (.pair .bool (.pair (.int .i64) (.pair (.int .i64) (.pair (.int .i64) (.pair (.int .i64) (.sl (.int .u8)))))))))) s false,.cells 51 [i6 t,i6 u,.bool v,i6 w,i6 x,i6 y,.bool z,i6 A]])) else none | _,_=>none
theorem ok100_770 (fuel:Nat):FnOK Tryz.prog 100 (spg100_770 (F_slices_stableCmpFunc_api_Item_770 fuel)):=by
  intro args objs kk r h
  unfold spg100_770 at h
  split at h
  · skip
    obtain ⟨hb,h⟩:=cond_some' h
    cases qb_eq hb
    exact fok100_770 fuel _ _ kk r ((F100_770_eqg fuel (F_slices_insertionSortCmpFunc_api_Item_bf0 fuel) (F_slices_symMergeCmpFunc_api_Item_e16 fuel) _ _ _ _ _ _ _ _ _ _ kk).trans h)
  · cases h
def kp53_43d (i:Nat):Option (List Nat):=Ev.look i []
def Gg53_43d (a:YF100_770) (f:Nat):Option Ev.Spec:=Ev.look f [(1000100,spg100_770 a)]
def G53_43d (fuel:Nat):Nat→Option Ev.Spec:=Gg53_43d (F_slices_stableCmpFunc_api_Item_770 fuel)
def Fg_slices_SortStableFunc_api_Item_api_Item_43d (fuel:Nat) (b:YF100_770) (a:(List (Int×(Int×(Int×(Bool×(Int×(Int×(Int×(Int×LI)))))))))) (l m:Int) (n:Bool) (o p q:Int) (r:Bool) (s:Int) (k0:((List (Int×(Int×(Int×(Bool×(Int×(Int×(Int×(Int×LI)))))))))×Int×Int×Bool×Int×Int×Int×Bool×Int)→OA):OA:=(b ((↑a.length:Int)) a l m n o p q r s (fun (c,d,e,f,g,h,i,j,k)=>k0 (c,d,e,f,g,h,i,j,k)))
abbrev YF53_43d:Type:=((List (Int×(Int×(Int×(Bool×(Int×(Int×(Int×(Int×LI))))))))))→Int→Int→Bool→Int→Int→Int→Bool→Int→(((List (Int×(Int×(Int×(Bool×(Int×(Int×(Int×(Int×LI)))))))))×Int×Int×Bool×Int×Int×Int×Bool×Int)→Option Ans)→Option Ans
def F_slices_SortStableFunc_api_Item_api_Item_43d (fuel:Nat):YF53_43d:=Fg_slices_SortStableFunc_api_Item_api_Item_43d fuel (F_slices_stableCmpFunc_api_Item_770 fuel)
theorem F53_43d_eqg (fuel:Nat) (a:YF100_770) (b:(List (Int×(Int×(Int×(Bool×(Int×(Int×(Int×(Int×LI)))))))))) (d e:Int) (f:Bool) (g h i:Int) (j:Bool) (l:Int) (k:Ev.Cont):evalFn tab (Gg53_43d a) J0 kp53_43d fuel Tryz.f53 [.c (.own 0),.c (.clo 54 [1])] [.vec 85 (.pair (.int .i64) (.pair (.int .i64) (.pair (.int .i64) (.pair .bool (.pair (.int .i64) (.pair (.int .i64) (.pair (.int .i64) (.pair (.int .i64) (.sl (.int .u8)))))))))) b false,.cells 51 [i6 d,i6 e,.bool f,i6 g,i6 h,i6 i,.bool j,i6 l]] k=Fg_slices_SortStableFunc_api_Item_api_Item_43d fuel a b d e f g h i j l (fun r=>match r with | (m,n,o,p,q,s,t,u,v)=>k (.tup [],[.vec 85 (.pair (.int .i64) (.pair (.int .i64) (.pair (.int .i64) (.pair .bool (.pair (.int .i64) (.pair (.int .i64) (.pair (.int .i64) (.pair (.int .i64) (.sl (.int .u8)))))))))) m false,.cells 51 [i6 n,i6 o,.bool p,i6 q,i6 s,i6 t,.bool u,i6 v]])):=by
  kernel_rfl
theorem hG53_43d (fuel:Nat):GOK Tryz.prog (G53_43d fuel):=
  gc (ok100_770 fuel) Tryz.func100 (by kernel_rfl) rfl <|
  gok_nil
def spg53_43d (F:YF53_43d):Ev.Spec:=fun args objs k=>match args,objs with | [.c (.own a),.c (.clo b [d])],[.vec e (.pair (.int .i64) (.pair (.int .i64) (.pair (.int .i64) (.pair .bool (.pair (.int .i64) (.pair (.int .i64) (.pair (.int .i64) (.pair (.int .i64) (.sl (.int .u8)))))))))) f false,.cells g [i6 h,i6 i,.bool j,i6 l,i6 m,i6 n,.bool o,i6 p]]=>bif qb [a,b,d,e,g] [0,54,1,85,51] then F f h i j l m n o p (fun r=>match r with | (q,s,t,u,v,w,x,y,z)=>k (.tup [],[.vec 85 (.pair (.int .i64) (.pair (.int .i64) (.pair (.int .i64) (.pair .bool (.pair (.int .i64) (.pair (.int .i64) (.pair (.int .i64) (.pair (.int .i64) (.sl (.int .u8)))))))))) q false,.cells 51 [i6 s,i6 t,.bool u,i6 v,i6 w,i6 x,.bool y,i6 z]])) else none | _,_=>none
theorem ok53_43d (fuel:Nat):FnOK Tryz.prog 53 (spg53_43d (F_slices_SortStableFunc_api_Item_api_Item_43d fuel)):=by
  intro args objs kk r h
  unfold spg53_43d at h
  split at h
  · skip
    obtain ⟨hb,h⟩:=cond_some' h
    cases qb_eq hb
    exact fo0 (hG53_43d fuel) Tryz.func53 rfl (by kernel_rfl) _ _ kk r ((F53_43d_eqg fuel (F_slices_stableCmpFunc_api_Item_770 fuel) _ _ _ _ _ _ _ _ _ kk).trans h)
  · cases h
def kp125 (i:Nat):Option (List Nat):=Ev.look i []
def Gg125 (f:Nat):Option Ev.Spec:=Ev.look f []
def G125 (fuel:Nat):Nat→Option Ev.Spec:=Gg125
def F_bitmap_fits (fuel:Nat) (a b:Int) (k0:(Bool)→Option Ans):Option Ans:=bif decide (a≥0) then bif decide (b≥0) then bif decide (a≤200) then bif decide (b≤200) then k0 (decide (i64.wrap (a*b)≤8192)) else k0 false else k0 false else k0 false else k0 false
abbrev YF125:Type:=Int→Int→(Bool→Option Ans)→Option Ans
theorem F125_eq (fuel:Nat) (a b:Int) (k:Ev.Cont):evalFn tab (G125 fuel) J0 kp125 fuel Tryz.f125 [.c (i6 a),.c (i6 b)] [] k=F_bitmap_fits fuel a b (fun r=>match r with | d=>k (.c (.bool d),[])):=by
  kernel_rfl
theorem hG125 (fuel:Nat):GOK Tryz.prog (G125 fuel):=
  gok_nil
def spg125 (F:YF125):Ev.Spec:=fun args objs k=>match args,objs with | [.c (i6 a),.c (i6 b)],[]=>F a b (fun r=>match r with | d=>k (.c (.bool d),[])) | _,_=>none
theorem ok125 (fuel:Nat):FnOK Tryz.prog 125 (spg125 (F_bitmap_fits fuel)):=by
  intro args objs kk r h
  unfold spg125 at h
  split at h
  · skip
    exact fo0 (hG125 fuel) Tryz.func125 rfl (by kernel_rfl) _ _ kk r ((F125_eq fuel _ _ kk).trans h)
  · cases h
def kp78 (i:Nat):Option (List Nat):=Ev.look i [(4,[23,24,25]),(100000,[]),(400000,[2])]
def Gg78 (a:YF125) (f:Nat):Option Ev.Spec:=Ev.look f [(125,spg125 a)]
def G78 (fuel:Nat):Nat→Option Ev.Spec:=Gg78 (F_bitmap_fits fuel)
def Sg_bitmap_Valid_0 (fuel:Nat) (f:YF125) (d:LI) (e a:Int) (c:(LI×Int×Int)→OA) (B:(Bool→OA)×(Unit→OA)):OA:=match B with | (ret,b)=>bif decide (a < e) then bif decide (0≤a∧a < (↑d.length:Int)) then bif decide (d.getD a.toNat (0:Int) > (1:Int)) then ret false else c (d,e,i64.wrap (a+1)) else none else b ()
def S_bitmap_Valid_0 (fuel:Nat) (v:(List Int)×Int×Int) (c:((List Int)×Int×Int)→Option Ans) (B:(Bool→Option Ans)×(Unit→Option Ans)):Option Ans:=match v with | (a,b,d)=>Sg_bitmap_Valid_0 fuel (F_bitmap_fits fuel) a b d c B
def L_bitmap_Valid_0 (fuel:Nat) (v:(List Int)×Int×Int) (ret:(Bool→Option Ans)) (b:(Unit→Option Ans)):Option Ans:=iter (S_bitmap_Valid_0 fuel) fuel v (ret,b)
def T78_0 (v:LI×Int×Int):Ev.St:=match v with | (a,b,d)=>⟨[(23,.c (.sl (.int .u8) a)),(24,.c (i6 b)),(25,.c (i6 d))],[],0,0⟩
def E78_0 (K:KT):(Bool→OA)×(Unit→OA):=((fun v=>match v with | a=>K .ret ⟨[(2,.c (.bool a))],[],0,0⟩),(fun v=>match v with | ()=>K .normal ⟨[],[],0,0⟩))
theorem S78_0_okg (fuel:Nat) (a:YF125) (R:Ev.St→OA) (K:KT) (b:LI) (c d:Int):evalCode tab (Gg78 a) J0 kp78 fuel (bodyOf 0 Tryz.f78) (T78_0 (b,c,d)) (lc kp78 4 0 R K)=Sg_bitmap_Valid_0 fuel a b c d (fun v=>R (T78_0 v)) (E78_0 K):=by
  kernel_rfl
def B78_0 (fuel:Nat):Ev.Blk:=fun st K=>match canonO (kp78 4) st with | some s=>(match s with | ⟨[(a,.c (.sl (.int .u8) b)),(d,.c (i6 e)),(f,.c (i6 g))],[],h,i⟩=>bif qb [a,d,f,h,i] [23,24,25,0,0] then iter (S_bitmap_Valid_0 fuel) fuel (b,e,g) (E78_0 K) else none | _=>none) | none=>none
theorem B78_0_ok (fuel:Nat) (st:Ev.St) (K:KT) (r:Ans) (h:B78_0 fuel st K=some r):evalCode tab (G78 fuel) J0 kp78 fuel (.block 0 (.loop (bodyOf 0 Tryz.f78))) st K=some r:=by
  unfold B78_0 at h
  split at h
  · rename_i s hs
    split at h
    · skip
      obtain ⟨hb,h⟩:=cond_some' h
      cases qb_eq hb
      exact blk_loop (S:=T78_0) (ks:=E78_0) (step:=S_bitmap_Valid_0 fuel) (v:=(_,_,_)) (by kernel_rfl) (by kernel_rfl) (fun R K v=>by obtain ⟨a,b,c⟩:=v; exact S78_0_okg fuel (F_bitmap_fits fuel) R K a b c) hs h
    · cases h
  · cases h
def J78 (fuel:Nat) (i:Nat):Option Ev.Blk:=Ev.look i [(100000,B78_0 fuel)]
def Fg_bitmap_Valid (fuel:Nat) (d:YF125) (b c:Int) (a:LI) (k0:(Bool)→OA):OA:=(d b c (fun e=>bif !e then k0 false else bif (↑a.length:Int) != i64.wrap (b*c) then k0 false else (L_bitmap_Valid_0 fuel (a,(↑a.length:Int),0) (fun ret0_0=>k0 ret0_0) (fun ()=>k0 true))))
abbrev YF78:Type:=Int→Int→LI→(Bool→Option Ans)→Option Ans
def F_bitmap_Valid (fuel:Nat):YF78:=Fg_bitmap_Valid fuel (F_bitmap_fits fuel)
theorem F78_eqg (fuel:Nat) (a:YF125) (b d:Int) (e:LI) (k:Ev.Cont):evalFn tab (Gg78 a) (J78 fuel) kp78 fuel Tryz.f78 [.agg [i6 b,i6 d,.sl (.int .u8) e]] [] k=Fg_bitmap_Valid fuel a b d e (fun r=>match r with | f=>k (.c (.bool f),[])):=by
  kernel_rfl
theorem hG78 (fuel:Nat):GOK Tryz.prog (G78 fuel):=
  gc (ok125 fuel) Tryz.func125 (by kernel_rfl) rfl <|
  gok_nil
theorem B78_0_blk (fuel:Nat):BlkOK Tryz.prog Tryz.f78.ntmps (.block 0 (.loop (bodyOf 0 Tryz.f78))) (B78_0 fuel):=bo0 (hG78 fuel) (by kernel_rfl) (by kernel_rfl) (B78_0_ok fuel)
def spg78 (F:YF78):Ev.Spec:=fun args objs k=>match args,objs with | [.agg [i6 a,i6 b,.sl (.int .u8) d]],[]=>F a b d (fun r=>match r with | e=>k (.c (.bool e),[])) | _,_=>none
theorem ok78 (fuel:Nat):FnOK Tryz.prog 78 (spg78 (F_bitmap_Valid fuel)):=by
  intro args objs kk r h
  unfold spg78 at h
  split at h
  · skip
    exact fo1 (hG78 fuel) Tryz.func78 rfl (B78_0_blk fuel) (by kernel_rfl) _ _ kk r ((F78_eqg fuel (F_bitmap_fits fuel) _ _ _ kk).trans h)
  · cases h
def kp95 (i:Nat):Option (List Nat):=Ev.look i []
def Gg95 (a:YF78) (f:Nat):Option Ev.Spec:=Ev.look f [(78,spg78 a)]
def G95 (fuel:Nat):Nat→Option Ev.Spec:=Gg95 (F_bitmap_Valid fuel)
def Fg_text_isShape (fuel:Nat) (c:YF78) (a b:Int) (d:LI) (k0:(Bool)→OA):OA:=(c a b d (fun e=>bif e then bif decide (a≥1) then bif decide (a≤40) then bif decide (b≥1) then k0 (decide (b≤40)) else k0 false else k0 false else k0 false else k0 false))
abbrev YF95:Type:=Int→Int→LI→(Bool→Option Ans)→Option Ans
def F_text_isShape (fuel:Nat):YF95:=Fg_text_isShape fuel (F_bitmap_Valid fuel)
theorem F95_eqg (fuel:Nat) (a:YF78) (b d:Int) (e:LI) (k:Ev.Cont):evalFn tab (Gg95 a) J0 kp95 fuel Tryz.f95 [.agg [i6 b,i6 d,.sl (.int .u8) e]] [] k=Fg_text_isShape fuel a b d e (fun r=>match r with | f=>k (.c (.bool f),[])):=by
  kernel_rfl
theorem hG95 (fuel:Nat):GOK Tryz.prog (G95 fuel):=
  gc (ok78 fuel) Tryz.func78 (by kernel_rfl) rfl <|
  gok_nil
def spg95 (F:YF95):Ev.Spec:=fun args objs k=>match args,objs with | [.agg [i6 a,i6 b,.sl (.int .u8) d]],[]=>F a b d (fun r=>match r with | e=>k (.c (.bool e),[])) | _,_=>none
theorem ok95 (fuel:Nat):FnOK Tryz.prog 95 (spg95 (F_text_isShape fuel)):=by
  intro args objs kk r h
  unfold spg95 at h
  split at h
  · skip
    exact fo0 (hG95 fuel) Tryz.func95 rfl (by kernel_rfl) _ _ kk r ((F95_eqg fuel (F_bitmap_Valid fuel) _ _ _ kk).trans h)
  · cases h
def kp94 (i:Nat):Option (List Nat):=Ev.look i []
def Gg94 (a:YF95) (f:Nat):Option Ev.Spec:=Ev.look f [(95,spg95 a)]
def G94 (fuel:Nat):Nat→Option Ev.Spec:=Gg94 (F_text_isShape fuel)
def Fg_text_begun_1 (fuel:Nat) (a:YF95) (b c:Int) (d:LI) (k0:(Bool)→OA):OA:=(a b c d (fun e=>k0 !e))
abbrev YF94:Type:=Int→Int→LI→(Bool→Option Ans)→Option Ans
def F_text_begun_1 (fuel:Nat):YF94:=Fg_text_begun_1 fuel (F_text_isShape fuel)
theorem F94_eqg (fuel:Nat) (a:YF95) (b d:Int) (e:LI) (k:Ev.Cont):evalFn tab (Gg94 a) J0 kp94 fuel Tryz.f94 [.agg [i6 b,i6 d,.sl (.int .u8) e]] [] k=Fg_text_begun_1 fuel a b d e (fun r=>match r with | f=>k (.c (.bool f),[])):=by
  kernel_rfl
theorem hG94 (fuel:Nat):GOK Tryz.prog (G94 fuel):=
  gc (ok95 fuel) Tryz.func95 (by kernel_rfl) rfl <|
  gok_nil
def spg94 (F:YF94):Ev.Spec:=fun args objs k=>match args,objs with | [.agg [i6 a,i6 b,.sl (.int .u8) d]],[]=>F a b d (fun r=>match r with | e=>k (.c (.bool e),[])) | _,_=>none
theorem ok94 (fuel:Nat):FnOK Tryz.prog 94 (spg94 (F_text_begun_1 fuel)):=by
  intro args objs kk r h
  unfold spg94 at h
  split at h
  · skip
    exact fo0 (hG94 fuel) Tryz.func94 rfl (by kernel_rfl) _ _ kk r ((F94_eqg fuel (F_text_isShape fuel) _ _ _ kk).trans h)
  · cases h
end
end Go.Proofs.YtmjeeaemmbkioaaGreat

