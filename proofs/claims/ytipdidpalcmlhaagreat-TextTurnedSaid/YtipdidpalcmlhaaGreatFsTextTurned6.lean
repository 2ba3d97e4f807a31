/- What the functions that TextTurned reaches do: their typed texts, each with the proof that the machine does it. No condition. -/
import Derived.Test.YtipdidpalcmlhaaGreatEvX
import Derived.Test.YtipdidpalcmlhaaGreatFsTextTurned3
import Derived.Test.YtipdidpalcmlhaaGreatFsTextTurned5
import Derived.Test.YtipdidpalcmlhaaGreatFsTextTurned1
set_option linter.unusedVariables false
set_option linter.unusedSimpArgs false
set_option linter.unusedSectionVars false
set_option linter.unusedVariables false
set_option linter.unusedSimpArgs false
set_option maxRecDepth 100000
set_option maxHeartbeats 2000000
namespace Go.Proofs.YtipdidpalcmlhaaGreat
open Go Ev
open Go.IntKind (i64 u64 u8 i32 u32 u16)
noncomputable section
def kp10 (i:Nat):Option (List Nat):=Ev.look i [(11,[1,3,4,5,11,12,17,61,62,63]),(100000,[1,3,4,5,11,12,17]),(400000,[10])]
def Gg10 (a:YF21) (b:YF22) (c:YF23) (d:YF25) (e:YF36) (g:YF38) (f:Nat):Option Ev.Spec:=Ev.look f [(21,spg21 a),(22,spg22 b),(23,spg23 c),(25,spg25 d),(36,spg36 e),(38,spg38 g)]
def G10 (fuel:Nat):Nat→Option Ev.Spec:=Gg10 (F_law10_long fuel) (F_law10_Awake fuel) (F_text_Encode fuel) (F_ref02_SameBytes fuel) (F_text_Render fuel) (F_ref06_SameBitmap fuel)
abbrev V_law10_TextTurned_0:Type:=(List (Int×(Int×LI)))×Int×Int×Int×(List (Int×(Int×(Int×(Bool×(Int×(Int×(Int×(Int×LI)))))))))×Int×Int×Int×Int×Bool×Int×Int×Int×Bool×Int×Int×Int×(List (Int×(Int×(Int×(Bool×(Int×(Int×(Int×(Int×LI)))))))))×LI
abbrev W_law10_TextTurned_0:Type:=((List (Int×(Int×LI)))×Int×Int×Int×Int×Int×Bool×Int×Int×Int×Bool×Int×Int×Int×(List (Int×(Int×(Int×(Bool×(Int×(Int×(Int×(Int×LI)))))))))×LI→OA)
def Sg_law10_TextTurned_0 (fuel:Nat) (v:YF21) (w:YF22) (x:YF23) (y:YF25) (z:YF36) (A:YF38) (n:(List (Int×(Int×LI)))) (o p q:Int) (d:(List (Int×(Int×(Int×(Bool×(Int×(Int×(Int×(Int×LI)))))))))) (r a:Int) (s t:Int) (u:Bool) (f g h:Int) (i:Bool) (j k l:Int) (e:(List (Int×(Int×(Int×(Bool×(Int×(Int×(Int×(Int×LI)))))))))) (m:LI) (c:V_law10_TextTurned_0→OA) (B:W_law10_TextTurned_0):OA:=match B with | b=>bif decide (a < r) then bif decide (0≤a∧a < (↑d.length:Int)) then bif decide ((e.length+(1:Nat))*(88:Nat)≤(140737488355328:Nat)∧e.length+(1:Nat)≤(140737488355328:Nat)) then c (n,o,p,q,d,r,i64.wrap (a+(1:Int)),s,t,u,f,g,h,i,j,k,l,e++ [((d.getD a.toNat ((0:Int),(0:Int),(0:Int),false,(0:Int),(0:Int),(0:Int),(0:Int),[])).fst,(d.getD a.toNat ((0:Int),(0:Int),(0:Int),false,(0:Int),(0:Int),(0:Int),(0:Int),[])).snd.snd.fst,(d.getD a.toNat ((0:Int),(0:Int),(0:Int),false,(0:Int),(0:Int),(0:Int),(0:Int),[])).snd.fst,(d.getD a.toNat ((0:Int),(0:Int),(0:Int),false,(0:Int),(0:Int),(0:Int),(0:Int),[])).snd.snd.snd.fst,(d.getD a.toNat ((0:Int),(0:Int),(0:Int),false,(0:Int),(0:Int),(0:Int),(0:Int),[])).snd.snd.snd.snd.fst,(d.getD a.toNat ((0:Int),(0:Int),(0:Int),false,(0:Int),(0:Int),(0:Int),(0:Int),[])).snd.snd.snd.snd.snd.fst,(d.getD a.toNat ((0:Int),(0:Int),(0:Int),false,(0:Int),(0:Int),(0:Int),(0:Int),[])).snd.snd.snd.snd.snd.snd.fst,(d.getD a.toNat ((0:Int),(0:Int),(0:Int),false,(0:Int),(0:Int),(0:Int),(0:Int),[])).snd.snd.snd.snd.snd.snd.snd.fst,(d.getD a.toNat ((0:Int),(0:Int),(0:Int),false,(0:Int),(0:Int),(0:Int),(0:Int),[])).snd.snd.snd.snd.snd.snd.snd.snd)],m) else none else none else b (n,o,p,q,s,t,u,f,g,h,i,j,k,l,e,m)
def S_law10_TextTurned_0 (fuel:Nat) (v:(List (Int×(Int×(List Int))))×Int×Int×Int×(List (Int×(Int×(Int×(Bool×(Int×(Int×(Int×(Int×(List Int))))))))))×Int×Int×Int×Int×Bool×Int×Int×Int×Bool×Int×Int×Int×(List (Int×(Int×(Int×(Bool×(Int×(Int×(Int×(Int×(List Int))))))))))×(List Int)) (c:((List (Int×(Int×(List Int))))×Int×Int×Int×(List (Int×(Int×(Int×(Bool×(Int×(Int×(Int×(Int×(List Int))))))))))×Int×Int×Int×Int×Bool×Int×Int×Int×Bool×Int×Int×Int×(List (Int×(Int×(Int×(Bool×(Int×(Int×(Int×(Int×(List Int))))))))))×(List Int))→Option Ans) (B:((List (Int×(Int×(List Int))))×Int×Int×Int×Int×Int×Bool×Int×Int×Int×Bool×Int×Int×Int×(List (Int×(Int×(Int×(Bool×(Int×(Int×(Int×(Int×(List Int))))))))))×(List Int)→Option Ans)):Option Ans:=match v with | (k,l,m,n,o,p,q,r,s,t,a,b,d,e,f,g,h,i,j)=>Sg_law10_TextTurned_0 fuel (F_law10_long fuel) (F_law10_Awake fuel) (F_text_Encode fuel) (F_ref02_SameBytes fuel) (F_text_Render fuel) (F_ref06_SameBitmap fuel) k l m n o p q r s t a b d e f g h i j c B
def L_law10_TextTurned_0 (fuel:Nat) (v:V_law10_TextTurned_0) (b:W_law10_TextTurned_0):Option Ans:=iter (S_law10_TextTurned_0 fuel) fuel v b
def T10_0 (v:V_law10_TextTurned_0):Ev.St:=match v with | (k,l,m,n,o,p,q,r,s,t,a,b,d,e,f,g,h,i,j)=>⟨[(1,.c (.sl (.pair (.int .i64) (.pair (.int .i64) (.sl (.int .u8)))) k)),(3,.c (i6 l)),(4,.c (i6 m)),(5,.c (.ptr 0 0)),(11,.c (.ptr 1 0)),(12,.c (i6 n)),(17,.c (.own 2)),(61,.c (.sl (.pair (.int .i64) (.pair (.int .i64) (.pair (.int .i64) (.pair .bool (.pair (.int .i64) (.pair (.int .i64) (.pair (.int .i64) (.pair (.int .i64) (.sl (.int .u8)))))))))) o)),(62,.c (i6 p)),(63,.c (i6 q))],[(0,.cells 40 [i6 r,i6 s,.bool t,i6 a,i6 b,i6 d,.bool e,i6 f]),(1,.cells 51 [i6 g,i6 h,.own 3]),(2,.vec 53 (.pair (.int .i64) (.pair (.int .i64) (.pair (.int .i64) (.pair .bool (.pair (.int .i64) (.pair (.int .i64) (.pair (.int .i64) (.pair (.int .i64) (.sl (.int .u8)))))))))) i true),(3,.vec 5 (.int .u8) j true)],4,0⟩
def E10_0 (K:KT):W_law10_TextTurned_0:=(fun v=>match v with | (h,i,j,k,l,m,n,o,p,q,a,b,d,e,f,g)=>K .normal ⟨[(1,.c (.sl (.pair (.int .i64) (.pair (.int .i64) (.sl (.int .u8)))) h)),(3,.c (i6 i)),(4,.c (i6 j)),(5,.c (.ptr 0 0)),(11,.c (.ptr 1 0)),(12,.c (i6 k)),(17,.c (.own 2))],[(0,.cells 40 [i6 l,i6 m,.bool n,i6 o,i6 p,i6 q,.bool a,i6 b]),(1,.cells 51 [i6 d,i6 e,.own 3]),(2,.vec 53 (.pair (.int .i64) (.pair (.int .i64) (.pair (.int .i64) (.pair .bool (.pair (.int .i64) (.pair (.int .i64) (.pair (.int .i64) (.pair (.int .i64) (.sl (.int .u8)))))))))) f true),(3,.vec 5 (.int .u8) g true)],4,0⟩)
theorem S10_0_okg (fuel:Nat) (a:YF21) (b:YF22) (c:YF23) (d:YF25) (e:YF36) (f:YF38) (R:Ev.St→OA) (K:KT) (p:(List (Int×(Int×LI)))) (q r s:Int) (t:(List (Int×(Int×(Int×(Bool×(Int×(Int×(Int×(Int×LI)))))))))) (u w:Int) (x y:Int) (z:Bool) (g h i:Int) (j:Bool) (k l m:Int) (n:(List (Int×(Int×(Int×(Bool×(Int×(Int×(Int×(Int×LI)))))))))) (o:LI):evalCode tab (Gg10 a b c d e f) J0 kp10 fuel (bodyOf 0 Tryz.f10) (T10_0 (p,q,r,s,t,u,w,x,y,z,g,h,i,j,k,l,m,n,o)) (lc kp10 11 0 R K)=Sg_law10_TextTurned_0 fuel a b c d e f p q r s t u w x y z g h i j k l m n o (fun v=>R (T10_0 v)) (E10_0 K):=by
  kernel_rfl
def B10_0 (fuel:Nat):Ev.Blk:=fun st K=>match canonO (kp10 11) st with | some s=>(match s with | ⟨[(B,.c (.sl (.pair (.int .i64) (.pair (.int .i64) (.sl (.int .u8)))) C)),(D,.c (i6 E)),(F,.c (i6 G)),(H,.c (.ptr I J)),(L,.c (.ptr M N)),(O,.c (i6 P)),(a,.c (.own b)),(d,.c (.sl (.pair (.int .i64) (.pair (.int .i64) (.pair (.int .i64) (.pair .bool (.pair (.int .i64) (.pair (.int .i64) (.pair (.int .i64) (.pair (.int .i64) (.sl (.int .u8)))))))))) Q)),(e,.c (i6 R)),(f,.c (i6 S))],[(g,.cells h [i6 T,i6 U,.bool V,i6 i,i6 j,i6 k,.bool l,i6 m]),(n,.cells o [i6 p,i6 q,.own r]),(t,.vec u (.pair (.int .i64) (.pair (.int .i64) (.pair (.int .i64) (.pair .bool (.pair (.int .i64) (.pair (.int .i64) (.pair (.int .i64) (.pair (.int .i64) (.sl (.int .u8)))))))))) v true),(w,.vec x (.int .u8) y true)],z,A⟩=>bif qb [B,D,F,H,I,J,L,M,N,O,a,b,d,e,f,g,h,n,o,r,t,u,w,x,z,A] [1,3,4,5,0,0,11,1,0,12,17,2,61,62,63,0,40,1,51,3,2,53,3,5,4,0] then iter (S_law10_TextTurned_0 fuel) fuel (C,E,G,P,Q,R,S,T,U,V,i,j,k,l,m,p,q,v,y) (E10_0 K) else none | _=>none) | none=>none
theorem B10_0_ok (fuel:Nat) (st:Ev.St) (K:KT) (r:Ans) (h:B10_0 fuel st K=some r):evalCode tab (G10 fuel) J0 kp10 fuel (.block 0 (.loop (bodyOf 0 Tryz.f10))) st K=some r:=by
  unfold B10_0 at h
  split at h
  · rename_i s hs
    split at h
    · skip
      obtain ⟨hb,h⟩:=cond_some' h
      cases qb_eq hb
      exact blk_loop (S:=T10_0) (ks:=E10_0) (step:=S_law10_TextTurned_0 fuel) (v:=(_,_,_,_,_,_,_,_,_,_,_,_,_,_,_,_,_,_,_)) (by kernel_rfl) (by kernel_rfl) (fun R K v=>by obtain ⟨k,l,m,n,o,p,q,t,u,w,a,b,c,d,e,f,g,i,j⟩:=v; exact S10_0_okg fuel (F_law10_long fuel) (F_law10_Awake fuel) (F_text_Encode fuel) (F_ref02_SameBytes fuel) (F_text_Render fuel) (F_ref06_SameBitmap fuel) R K k l m n o p q t u w a b c d e f g i j) hs h
    · cases h
  · cases h
def J10 (fuel:Nat) (i:Nat):Option Ev.Blk:=Ev.look i [(100000,B10_0 fuel)]
def Fg_law10_TextTurned (fuel:Nat) (R:YF21) (k:YF22) (l:YF23) (S:YF25) (m:YF36) (T:YF38) (c d:Int) (e:Bool) (f g h:Int) (i:Bool) (j:Int) (b:(List (Int×Int×LI))) (a:(List (Int×Int×Int×Bool×Int×Int×(Int×Int×LI)))) (n o:Int) (k0:(Bool)→OA):OA:=(R b a (fun X=>bif X then (k (fun Y=>k0 Y)) else (m c d e f g h i j b a n o (fun (D,E,F,G)=>(l c d e f g h i j b a (fun (p,q)=>(l c d (!e) f g h i j b a (fun (r,s)=>bif p != r then k0 false else (S q s (fun U=>bif !U then k0 false else (L_law10_TextTurned_0 fuel (b,n,o,F,a,(↑a.length:Int),0,c,d,!e,f,g,h,i,j,D,E,[],G) (fun (H,I,J,K,L,M,N,O,P,Q,t,u,v,w,x,y)=>(m L M N O P Q t u H x I J (fun (z,A,B,C)=>bif K==B then (T v w y z A C (fun V=>bif V then (k (fun W=>k0 W)) else k0 false)) else k0 false))))))))))))))
abbrev YF10:Type:=Int→Int→Bool→Int→Int→Int→Bool→Int→((List (Int×Int×LI)))→((List (Int×Int×Int×Bool×Int×Int×(Int×Int×LI))))→Int→Int→(Bool→Option Ans)→Option Ans
def F_law10_TextTurned (fuel:Nat):YF10:=Fg_law10_TextTurned fuel (F_law10_long fuel) (F_law10_Awake fuel) (F_text_Encode fuel) (F_ref02_SameBytes fuel) (F_text_Render fuel) (F_ref06_SameBitmap fuel)
theorem F10_eqg (fuel:Nat) (a:YF21) (b:YF22) (d:YF23) (e:YF25) (f:YF36) (g:YF38) (j l:Int) (m:Bool) (n o p:Int) (q:Bool) (s:Int) (t:(List (Int×Int×LI))) (u:(List (Int×Int×Int×Bool×Int×Int×(Int×Int×LI)))) (h i:Int) (k:Ev.Cont):evalFn tab (Gg10 a b d e f g) (J10 fuel) kp10 fuel Tryz.f10 [.agg [i6 j,i6 l,.bool m,i6 n,i6 o,i6 p,.bool q,i6 s],.c (.sl (.pair (.int .i64) (.pair (.int .i64) (.sl (.int .u8)))) t),.c (.sl (.pair (.int .i64) (.pair (.int .i64) (.pair (.int .i64) (.pair .bool (.pair (.int .i64) (.pair (.int .i64) (.pair (.int .i64) (.pair (.int .i64) (.sl (.int .u8)))))))))) u),.c (i6 h),.c (i6 i)] [] k=Fg_law10_TextTurned fuel a b d e f g j l m n o p q s t u h i (fun r=>match r with | v=>k (.c (.bool v),[])):=by
  kernel_rfl
theorem hG10 (fuel:Nat):GOK Tryz.prog (G10 fuel):=
  gc (ok21 fuel) Tryz.func21 (by kernel_rfl) rfl <|
  gc (ok22 fuel) Tryz.func22 (by kernel_rfl) rfl <|
  gc (ok23 fuel) Tryz.func23 (by kernel_rfl) rfl <|
  gc (ok25 fuel) Tryz.func25 (by kernel_rfl) rfl <|
  gc (ok36 fuel) Tryz.func36 (by kernel_rfl) rfl <|
  gc (ok38 fuel) Tryz.func38 (by kernel_rfl) rfl <|
  gok_nil
theorem B10_0_blk (fuel:Nat):BlkOK Tryz.prog Tryz.f10.ntmps (.block 0 (.loop (bodyOf 0 Tryz.f10))) (B10_0 fuel):=bo0 (hG10 fuel) (by kernel_rfl) (by kernel_rfl) (B10_0_ok fuel)
def spg10 (F:YF10):Ev.Spec:=fun args objs k=>match args,objs with | [.agg [i6 d,i6 e,.bool f,i6 g,i6 h,i6 i,.bool j,i6 l],.c (.sl (.pair (.int .i64) (.pair (.int .i64) (.sl (.int .u8)))) m),.c (.sl (.pair (.int .i64) (.pair (.int .i64) (.pair (.int .i64) (.pair .bool (.pair (.int .i64) (.pair (.int .i64) (.pair (.int .i64) (.pair (.int .i64) (.sl (.int .u8)))))))))) n),.c (i6 a),.c (i6 b)],[]=>F d e f g h i j l m n a b (fun r=>match r with | o=>k (.c (.bool o),[])) | _,_=>none
def spec10 (fuel:Nat):Ev.Spec:=spg10 (F_law10_TextTurned fuel)
theorem ok10 (fuel:Nat):FnOK Tryz.prog 10 (spec10 fuel):=by
  intro args objs kk r h
  unfold spec10 spg10 at h
  split at h
  · skip
    exact fo1 (hG10 fuel) Tryz.func10 rfl (B10_0_blk fuel) (by kernel_rfl) _ _ kk r ((F10_eqg fuel (F_law10_long fuel) (F_law10_Awake fuel) (F_text_Encode fuel) (F_ref02_SameBytes fuel) (F_text_Render fuel) (F_ref06_SameBitmap fuel) _ _ _ _ _ _ _ _ _ _ _ _ kk).trans h)
  · cases h
end
end Go.Proofs.YtipdidpalcmlhaaGreat

