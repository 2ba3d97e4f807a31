/- What the functions that TextDecodes reaches do: their typed texts, each with the proof that the machine does it. No condition. -/
import Derived.Test.YtipdidpalcmlhaaGreatEvX
import Derived.Test.YtipdidpalcmlhaaGreatFsTextDecodes5
import Derived.Test.YtipdidpalcmlhaaGreatFsTextDecodes3
import Derived.Test.YtipdidpalcmlhaaGreatFsTextDecodes1
import Derived.Test.YtipdidpalcmlhaaGreatFsTextDecodes2
set_option linter.unusedVariables false
set_option linter.unusedSimpArgs false
set_option linter.unusedSectionVars false
set_option linter.unusedVariables false
set_option linter.unusedSimpArgs false
set_option maxRecDepth 100000
set_option maxHeartbeats 2000000
namespace Go.Proofs.YtipdidpalcmlhaaGreat
open Go Ev
open Go.IntKind (i64 u64 u8 i32 u32 u16)
noncomputable section
def kp92_91e (i:Nat):Option (List Nat):=Ev.look i []
def Gg92_91e (a:YF190_e4a) (f:Nat):Option Ev.Spec:=Ev.look f [(190,spg190_e4a a)]
def G92_91e (fuel:Nat):Nat→Option Ev.Spec:=Gg92_91e (F_text_reader_fine_e4a fuel)
def Fg_text_reader_check_91e (fuel:Nat) (z:YF190_e4a) (a0:Bool) (q r:Int) (s:Bool) (t u v:Int) (w:Bool) (x y:Int) (b c:Int) (d:(List (Int×(Int×LI)))) (e a:Int) (f g:Int) (h i:Int) (j k:Int) (l m:Bool) (n:(List (Int×(Int×(Int×(Bool×(Int×(Int×(Int×(Int×LI)))))))))) (o p:LI) (k0:(Bool×Int×Int×Bool×Int×Int×Int×Bool×Int×Int×Int×Int×(List (Int×(Int×LI)))×Int×Int×Int×Int×Int×Int×Int×Int×Bool×Bool×(List (Int×(Int×(Int×(Bool×(Int×(Int×(Int×(Int×LI)))))))))×LI×LI)→OA):OA:=bif !a0 then (z (3) q r s t u v w x y b c d e a f g h i j k l m n o p (fun (Q,R,S,T,U,V,W,X,Y,Z,A,B,C,D,E,F,G,H,I,J,K,L,M,N,O,P)=>k0 (Q,R,S,T,U,V,W,X,Y,Z,A,B,C,D,E,F,G,H,I,J,K,L,M,N,O,P))) else k0 (a==0,q,r,s,t,u,v,w,x,y,b,c,d,e,a,f,g,h,i,j,k,l,m,n,o,p)
abbrev YF92_91e:Type:=Bool→Int→Int→Bool→Int→Int→Int→Bool→Int→Int→Int→Int→((List (Int×(Int×LI))))→Int→Int→Int→Int→Int→Int→Int→Int→Bool→Bool→((List (Int×(Int×(Int×(Bool×(Int×(Int×(Int×(Int×LI))))))))))→LI→LI→((Bool×Int×Int×Bool×Int×Int×Int×Bool×Int×Int×Int×Int×(List (Int×(Int×LI)))×Int×Int×Int×Int×Int×Int×Int×Int×Bool×Bool×(List (Int×(Int×(Int×(Bool×(Int×(Int×(Int×(Int×LI)))))))))×LI×LI)→Option Ans)→Option Ans
def F_text_reader_check_91e (fuel:Nat):YF92_91e:=Fg_text_reader_check_91e fuel (F_text_reader_fine_e4a fuel)
theorem F92_91e_eqg (fuel:Nat) (a:YF190_e4a) (u:Bool) (v w:Int) (x:Bool) (y z A:Int) (B:Bool) (C D:Int) (b d:Int) (e:(List (Int×(Int×LI)))) (f g:Int) (h i:Int) (j l:Int) (m n:Int) (o p:Bool) (q:(List (Int×(Int×(Int×(Bool×(Int×(Int×(Int×(Int×LI)))))))))) (s t:LI) (k:Ev.Cont):evalFn tab (Gg92_91e a) J0 kp92_91e fuel Tryz.f92 [.c (.ptr 0 0),.c (.bool u)] [.cells 139 [i6 v,i6 w,.bool x,i6 y,i6 z,i6 A,.bool B,i6 C,i6 D,i6 b,i6 d,.ptr 1 0,.sl (.pair (.int .i64) (.pair (.int .i64) (.sl (.int .u8)))) e,.own 2,i6 f,i6 g],.cells 194 (i6 h::.own 3::ctb (.int .u64 i::.int .u64 j::.own 4::i6 l::.int .u64 m::i6 n::.bool o::.bool p::[])),.vec 53 (.pair (.int .i64) (.pair (.int .i64) (.pair (.int .i64) (.pair .bool (.pair (.int .i64) (.pair (.int .i64) (.pair (.int .i64) (.pair (.int .i64) (.sl (.int .u8)))))))))) q false,.vec 3 (.int .i64) s false,.vec 5 (.int .u8) t false] k=Fg_text_reader_check_91e fuel a u v w x y z A B C D b d e f g h i j l m n o p q s t (fun r=>match r with | (U,V,W,X,Y,Z,a0,a1,a2,a3,E,F,G,H,I,J,K,L,M,N,O,P,Q,R,S,T)=>k (.c (.bool U),[.cells 139 [i6 V,i6 W,.bool X,i6 Y,i6 Z,i6 a0,.bool a1,i6 a2,i6 a3,i6 E,i6 F,.ptr 1 0,.sl (.pair (.int .i64) (.pair (.int .i64) (.sl (.int .u8)))) G,.own 2,i6 H,i6 I],.cells 194 (i6 J::.own 3::ctb (.int .u64 K::.int .u64 L::.own 4::i6 M::.int .u64 N::i6 O::.bool P::.bool Q::[])),.vec 53 (.pair (.int .i64) (.pair (.int .i64) (.pair (.int .i64) (.pair .bool (.pair (.int .i64) (.pair (.int .i64) (.pair (.int .i64) (.pair (.int .i64) (.sl (.int .u8)))))))))) R false,.vec 3 (.int .i64) S false,.vec 5 (.int .u8) T false])):=by
  kernel_rfl
theorem hG92_91e (fuel:Nat):GOK Tryz.prog (G92_91e fuel):=
  gc (ok190_e4a fuel) Tryz.func190 (by kernel_rfl) rfl <|
  gok_nil
def spg92_91e (F:YF92_91e):Ev.Spec:=fun args objs k=>match args,objs with | [.c (.ptr N O),.c (.bool P)],[.cells Q [i6 R,i6 S,.bool T,i6 U,i6 V,i6 W,.bool X,i6 Y,i6 Z,i6 a,i6 b,.ptr a0 a1,.sl (.pair (.int .i64) (.pair (.int .i64) (.sl (.int .u8)))) d,.own a2,i6 e,i6 f],.cells a3 g,.vec a4 (.pair (.int .i64) (.pair (.int .i64) (.pair (.int .i64) (.pair .bool (.pair (.int .i64) (.pair (.int .i64) (.pair (.int .i64) (.pair (.int .i64) (.sl (.int .u8)))))))))) h false,.vec a5 (.int .i64) i false,.vec a6 (.int .u8) j false]=>(match splitRun 2 ctn g with | some ([i6 l,.own m],[.int .u64 n,.int .u64 o,.own p,i6 q,.int .u64 s,i6 t,.bool u,.bool v])=>bif qb [N,O,Q,a0,a1,a2,a3,a4,a5,a6,m,p] [0,0,139,1,0,2,194,53,3,5,3,4] then F P R S T U V W X Y Z a b d e f l n o q s t u v h i j (fun r=>match r with | (a7,a8,a9,b0,b1,b2,b3,b4,b5,b6,w,x,y,z,A,B,C,D,E,G,H,I,J,K,L,M)=>k (.c (.bool a7),[.cells 139 [i6 a8,i6 a9,.bool b0,i6 b1,i6 b2,i6 b3,.bool b4,i6 b5,i6 b6,i6 w,i6 x,.ptr 1 0,.sl (.pair (.int .i64) (.pair (.int .i64) (.sl (.int .u8)))) y,.own 2,i6 z,i6 A],.cells 194 (i6 B::.own 3::ctb (.int .u64 C::.int .u64 D::.own 4::i6 E::.int .u64 G::i6 H::.bool I::.bool J::[])),.vec 53 (.pair (.int .i64) (.pair (.int .i64) (.pair (.int .i64) (.pair .bool (.pair (.int .i64) (.pair (.int .i64) (.pair (.int .i64) (.pair (.int .i64) (.sl (.int .u8)))))))))) K false,.vec 3 (.int .i64) L false,.vec 5 (.int .u8) M false])) else none | _=>none) | _,_=>none
theorem ok92_91e (fuel:Nat):FnOK Tryz.prog 92 (spg92_91e (F_text_reader_check_91e fuel)):=by
  intro args objs kk r h
  unfold spg92_91e at h
  split at h
  · skip
    split at h
    rotate_left 1
    · cases h
    rename_i hsp
    have esp:=splitRun_eq hsp
    subst esp
    obtain ⟨hb,h⟩:=cond_some' h
    cases qb_eq hb
    exact fo0 (hG92_91e fuel) Tryz.func92 rfl (by kernel_rfl) _ _ kk r ((F92_91e_eqg fuel (F_text_reader_fine_e4a fuel) _ _ _ _ _ _ _ _ _ _ _ _ _ _ _ _ _ _ _ _ _ _ _ _ _ _ kk).trans h)
  · cases h
def kp91_e4a (i:Nat):Option (List Nat):=Ev.look i []
def Gg91_e4a (a:YF189_aa3) (b:YF190_e4a) (f:Nat):Option Ev.Spec:=Ev.look f [(189,spg189_aa3 a),(190,spg190_e4a b)]
def G91_e4a (fuel:Nat):Nat→Option Ev.Spec:=Gg91_e4a (F_number_Get_aa3 fuel) (F_text_reader_fine_e4a fuel)
def Fg_text_reader_num_e4a (fuel:Nat) (z:YF189_aa3) (A:YF190_e4a) (b3 q r:Int) (s:Bool) (t u v:Int) (w:Bool) (x y:Int) (b c:Int) (d:(List (Int×(Int×LI)))) (e a:Int) (f g:Int) (h i:Int) (j k:Int) (l m:Bool) (n:(List (Int×(Int×(Int×(Bool×(Int×(Int×(Int×(Int×LI)))))))))) (o p:LI) (k0:(Bool×Int×Int×Int×Bool×Int×Int×Int×Bool×Int×Int×Int×Int×(List (Int×(Int×LI)))×Int×Int×Int×Int×Int×Int×Int×Int×Bool×Bool×(List (Int×(Int×(Int×(Bool×(Int×(Int×(Int×(Int×LI)))))))))×LI×LI)→OA):OA:=bif a != 0 then k0 (false,0,q,r,s,t,u,v,w,x,y,b,c,d,e,a,f,g,h,i,j,k,l,m,n,o,p) else (z b3 f g h i j k l m o p (fun (U,V,W,X,Y,Z,a0,a1,a2,a3,B,C,D)=>(A W q r s t u v w x y b c d e a X Y Z a0 a1 a2 a3 B n C D (fun (b4,a4,a5,a6,a7,a8,a9,b0,b1,b2,E,F,G,H,I,J,K,L,M,N,O,P,Q,R,S,T)=>k0 (U,V,a4,a5,a6,a7,a8,a9,b0,b1,b2,E,F,G,H,I,J,K,L,M,N,O,P,Q,R,S,T)))))
abbrev YF91_e4a:Type:=Int→Int→Int→Bool→Int→Int→Int→Bool→Int→Int→Int→Int→((List (Int×(Int×LI))))→Int→Int→Int→Int→Int→Int→Int→Int→Bool→Bool→((List (Int×(Int×(Int×(Bool×(Int×(Int×(Int×(Int×LI))))))))))→LI→LI→((Bool×Int×Int×Int×Bool×Int×Int×Int×Bool×Int×Int×Int×Int×(List (Int×(Int×LI)))×Int×Int×Int×Int×Int×Int×Int×Int×Bool×Bool×(List (Int×(Int×(Int×(Bool×(Int×(Int×(Int×(Int×LI)))))))))×LI×LI)→Option Ans)→Option Ans
def F_text_reader_num_e4a (fuel:Nat):YF91_e4a:=Fg_text_reader_num_e4a fuel (F_number_Get_aa3 fuel) (F_text_reader_fine_e4a fuel)
theorem F91_e4a_eqg (fuel:Nat) (a:YF189_aa3) (b:YF190_e4a) (v w x:Int) (y:Bool) (z A B:Int) (C:Bool) (D E:Int) (d e:Int) (f:(List (Int×(Int×LI)))) (g h:Int) (i j:Int) (l m:Int) (n o:Int) (p q:Bool) (s:(List (Int×(Int×(Int×(Bool×(Int×(Int×(Int×(Int×LI)))))))))) (t u:LI) (k:Ev.Cont):evalFn tab (Gg91_e4a a b) J0 kp91_e4a fuel Tryz.f91 [.c (.ptr 0 0),.c (i6 v)] [.cells 139 [i6 w,i6 x,.bool y,i6 z,i6 A,i6 B,.bool C,i6 D,i6 E,i6 d,i6 e,.ptr 1 0,.sl (.pair (.int .i64) (.pair (.int .i64) (.sl (.int .u8)))) f,.own 2,i6 g,i6 h],.cells 194 (i6 i::.own 3::ctb (.int .u64 j::.int .u64 l::.own 4::i6 m::.int .u64 n::i6 o::.bool p::.bool q::[])),.vec 53 (.pair (.int .i64) (.pair (.int .i64) (.pair (.int .i64) (.pair .bool (.pair (.int .i64) (.pair (.int .i64) (.pair (.int .i64) (.pair (.int .i64) (.sl (.int .u8)))))))))) s false,.vec 3 (.int .i64) t false,.vec 5 (.int .u8) u false] k=Fg_text_reader_num_e4a fuel a b v w x y z A B C D E d e f g h i j l m n o p q s t u (fun r=>match r with | (W,X,Y,Z,a0,a1,a2,a3,a4,a5,F,G,H,I,J,K,L,M,N,O,P,Q,R,S,T,U,V)=>k (.agg [.bool W,i6 X],[.cells 139 [i6 Y,i6 Z,.bool a0,i6 a1,i6 a2,i6 a3,.bool a4,i6 a5,i6 F,i6 G,i6 H,.ptr 1 0,.sl (.pair (.int .i64) (.pair (.int .i64) (.sl (.int .u8)))) I,.own 2,i6 J,i6 K],.cells 194 (i6 L::.own 3::ctb (.int .u64 M::.int .u64 N::.own 4::i6 O::.int .u64 P::i6 Q::.bool R::.bool S::[])),.vec 53 (.pair (.int .i64) (.pair (.int .i64) (.pair (.int .i64) (.pair .bool (.pair (.int .i64) (.pair (.int .i64) (.pair (.int .i64) (.pair (.int .i64) (.sl (.int .u8)))))))))) T false,.vec 3 (.int .i64) U false,.vec 5 (.int .u8) V false])):=by
  kernel_rfl
theorem hG91_e4a (fuel:Nat):GOK Tryz.prog (G91_e4a fuel):=
  gc (ok189_aa3 fuel) Tryz.func189 (by kernel_rfl) rfl <|
  gc (ok190_e4a fuel) Tryz.func190 (by kernel_rfl) rfl <|
  gok_nil
def spg91_e4a (F:YF91_e4a):Ev.Spec:=fun args objs k=>match args,objs with | [.c (.ptr O P),.c (i6 Q)],[.cells R [i6 S,i6 T,.bool U,i6 V,i6 W,i6 X,.bool Y,i6 Z,i6 a0,i6 a,i6 b,.ptr a1 a2,.sl (.pair (.int .i64) (.pair (.int .i64) (.sl (.int .u8)))) d,.own a3,i6 e,i6 f],.cells a4 g,.vec a5 (.pair (.int .i64) (.pair (.int .i64) (.pair (.int .i64) (.pair .bool (.pair (.int .i64) (.pair (.int .i64) (.pair (.int .i64) (.pair (.int .i64) (.sl (.int .u8)))))))))) h false,.vec a6 (.int .i64) i false,.vec a7 (.int .u8) j false]=>(match splitRun 2 ctn g with | some ([i6 l,.own m],[.int .u64 n,.int .u64 o,.own p,i6 q,.int .u64 s,i6 t,.bool u,.bool v])=>bif qb [O,P,R,a1,a2,a3,a4,a5,a6,a7,m,p] [0,0,139,1,0,2,194,53,3,5,3,4] then F Q S T U V W X Y Z a0 a b d e f l n o q s t u v h i j (fun r=>match r with | (a8,a9,b0,b1,b2,b3,b4,b5,b6,b7,w,x,y,z,A,B,C,D,E,G,H,I,J,K,L,M,N)=>k (.agg [.bool a8,i6 a9],[.cells 139 [i6 b0,i6 b1,.bool b2,i6 b3,i6 b4,i6 b5,.bool b6,i6 b7,i6 w,i6 x,i6 y,.ptr 1 0,.sl (.pair (.int .i64) (.pair (.int .i64) (.sl (.int .u8)))) z,.own 2,i6 A,i6 B],.cells 194 (i6 C::.own 3::ctb (.int .u64 D::.int .u64 E::.own 4::i6 G::.int .u64 H::i6 I::.bool J::.bool K::[])),.vec 53 (.pair (.int .i64) (.pair (.int .i64) (.pair (.int .i64) (.pair .bool (.pair (.int .i64) (.pair (.int .i64) (.pair (.int .i64) (.pair (.int .i64) (.sl (.int .u8)))))))))) L false,.vec 3 (.int .i64) M false,.vec 5 (.int .u8) N false])) else none | _=>none) | _,_=>none
theorem ok91_e4a (fuel:Nat):FnOK Tryz.prog 91 (spg91_e4a (F_text_reader_num_e4a fuel)):=by
  intro args objs kk r h
  unfold spg91_e4a at h
  split at h
  · skip
    split at h
    rotate_left 1
    · cases h
    rename_i hsp
    have esp:=splitRun_eq hsp
    subst esp
    obtain ⟨hb,h⟩:=cond_some' h
    cases qb_eq hb
    exact fo0 (hG91_e4a fuel) Tryz.func91 rfl (by kernel_rfl) _ _ kk r ((F91_e4a_eqg fuel (F_number_Get_aa3 fuel) (F_text_reader_fine_e4a fuel) _ _ _ _ _ _ _ _ _ _ _ _ _ _ _ _ _ _ _ _ _ _ _ _ _ _ kk).trans h)
  · cases h
def kp195 (i:Nat):Option (List Nat):=Ev.look i []
def Gg195 (a:YF212) (f:Nat):Option Ev.Spec:=Ev.look f [(212,spg212 a)]
def G195 (fuel:Nat):Nat→Option Ev.Spec:=Gg195 (F_bitmap_fits fuel)
def Fg_bitmap_blank (fuel:Nat) (c:YF212) (a b:Int) (k0:(Int×Int×Int×LI)→OA):OA:=(c a b (fun d=>bif !d then k0 (0,0,4,[]) else bif decide (0≤i64.wrap (a*b)∧i64.wrap (a*b)=i64.wrap (a*b)∧(↑(1:Nat):Int)*i64.wrap (a*b)≤281474976710656∧i64.wrap (a*b)≤281474976710656) then k0 (a,b,0,List.replicate (i64.wrap (a*b)).toNat (0:Int)) else none))
abbrev YF195:Type:=Int→Int→((Int×Int×Int×LI)→Option Ans)→Option Ans
def F_bitmap_blank (fuel:Nat):YF195:=Fg_bitmap_blank fuel (F_bitmap_fits fuel)
theorem F195_eqg (fuel:Nat) (a:YF212) (b d:Int) (k:Ev.Cont):evalFn tab (Gg195 a) J0 kp195 fuel Tryz.f195 [.c (i6 b),.c (i6 d)] [] k=Fg_bitmap_blank fuel a b d (fun r=>match r with | (e,f,g,h)=>k (.tup [(true,[i6 e,i6 f,.own 0]),(false,[i6 g])],[.vec 5 (.int .u8) h true])):=by
  kernel_rfl
theorem hG195 (fuel:Nat):GOK Tryz.prog (G195 fuel):=
  gc (ok212 fuel) Tryz.func212 (by kernel_rfl) rfl <|
  gok_nil
def spg195 (F:YF195):Ev.Spec:=fun args objs k=>match args,objs with | [.c (i6 a),.c (i6 b)],[]=>F a b (fun r=>match r with | (d,e,f,g)=>k (.tup [(true,[i6 d,i6 e,.own 0]),(false,[i6 f])],[.vec 5 (.int .u8) g true])) | _,_=>none
theorem ok195 (fuel:Nat):FnOK Tryz.prog 195 (spg195 (F_bitmap_blank fuel)):=by
  intro args objs kk r h
  unfold spg195 at h
  split at h
  · skip
    exact fo0 (hG195 fuel) Tryz.func195 rfl (by kernel_rfl) _ _ kk r ((F195_eqg fuel (F_bitmap_fits fuel) _ _ kk).trans h)
  · cases h
def kp105 (i:Nat):Option (List Nat):=Ev.look i [(5,[2,6,8,9,34,35]),(100000,[6,8,9]),(400000,[6,7])]
def Gg105 (a:YF195) (f:Nat):Option Ev.Spec:=Ev.look f [(195,spg195 a)]
def G105 (fuel:Nat):Nat→Option Ev.Spec:=Gg105 (F_bitmap_blank fuel)
abbrev V_bitmap_New_0:Type:=Int×Int×Int×Int×Int×Int×Int×Int×LI×LI
abbrev W_bitmap_New_0:Type:=(Int×Int×Int×Int×Int×LI×LI→OA)
def Sg_bitmap_New_0 (fuel:Nat) (m:YF195) (e f:Int) (g a:Int) (h i:Int) (j k:Int) (l d:LI) (c:V_bitmap_New_0→OA) (B:W_bitmap_New_0):OA:=match B with | b=>bif decide (a < g) then bif decide (0≤a∧a < (↑d.length:Int)) then c (e,f,g,i64.wrap (a+1),h,i,j,k,l,d.set a.toNat (u8.wrap e)) else none else b (f,h,i,j,k,l,d)
def S_bitmap_New_0 (fuel:Nat) (v:Int×Int×Int×Int×Int×Int×Int×Int×(List Int)×(List Int)) (c:(Int×Int×Int×Int×Int×Int×Int×Int×(List Int)×(List Int))→Option Ans) (B:(Int×Int×Int×Int×Int×(List Int)×(List Int)→Option Ans)):Option Ans:=match v with | (a,b,d,e,f,g,h,i,j,k)=>Sg_bitmap_New_0 fuel (F_bitmap_blank fuel) a b d e f g h i j k c B
def L_bitmap_New_0 (fuel:Nat) (v:V_bitmap_New_0) (b:W_bitmap_New_0):Option Ans:=iter (S_bitmap_New_0 fuel) fuel v b
def T105_0 (v:V_bitmap_New_0):Ev.St:=match v with | (a,b,d,e,f,g,h,i,j,k)=>⟨[(2,.c (i6 a)),(6,.c (.ptr 0 0)),(8,.c (.ptr 1 0)),(9,.c (i6 b)),(34,.c (i6 d)),(35,.c (i6 e))],[(0,.cells 51 [i6 f,i6 g,.own 2]),(1,.cells 51 [i6 h,i6 i,.own 3]),(2,.vec 5 (.int .u8) j true),(3,.vec 5 (.int .u8) k true)],4,0⟩
def E105_0 (K:KT):W_bitmap_New_0:=(fun v=>match v with | (a,b,d,e,f,g,h)=>K .normal ⟨[(6,.c (.ptr 0 0)),(8,.c (.ptr 1 0)),(9,.c (i6 a))],[(0,.cells 51 [i6 b,i6 d,.own 2]),(1,.cells 51 [i6 e,i6 f,.own 3]),(2,.vec 5 (.int .u8) g true),(3,.vec 5 (.int .u8) h true)],4,0⟩)
theorem S105_0_okg (fuel:Nat) (a:YF195) (R:Ev.St→OA) (K:KT) (b c:Int) (d e:Int) (f g:Int) (h i:Int) (j k:LI):evalCode tab (Gg105 a) J0 kp105 fuel (bodyOf 0 Tryz.f105) (T105_0 (b,c,d,e,f,g,h,i,j,k)) (lc kp105 5 0 R K)=Sg_bitmap_New_0 fuel a b c d e f g h i j k (fun v=>R (T105_0 v)) (E105_0 K):=by
  kernel_rfl
def B105_0 (fuel:Nat):Ev.Blk:=fun st K=>match canonO (kp105 5) st with | some s=>(match s with | ⟨[(n,.c (i6 o)),(p,.c (.ptr q r)),(t,.c (.ptr u v)),(w,.c (i6 x)),(y,.c (i6 z)),(A,.c (i6 B))],[(a,.cells b [i6 C,i6 D,.own d]),(e,.cells f [i6 E,i6 F,.own g]),(h,.vec i (.int .u8) G true),(j,.vec k (.int .u8) H true)],l,m⟩=>bif qb [n,p,q,r,t,u,v,w,y,A,a,b,d,e,f,g,h,i,j,k,l,m] [2,6,0,0,8,1,0,9,34,35,0,51,2,1,51,3,2,5,3,5,4,0] then iter (S_bitmap_New_0 fuel) fuel (o,x,z,B,C,D,E,F,G,H) (E105_0 K) else none | _=>none) | none=>none
theorem B105_0_ok (fuel:Nat) (st:Ev.St) (K:KT) (r:Ans) (h:B105_0 fuel st K=some r):evalCode tab (G105 fuel) J0 kp105 fuel (.block 0 (.loop (bodyOf 0 Tryz.f105))) st K=some r:=by
  unfold B105_0 at h
  split at h
  · rename_i s hs
    split at h
    · skip
      obtain ⟨hb,h⟩:=cond_some' h
      cases qb_eq hb
      exact blk_loop (S:=T105_0) (ks:=E105_0) (step:=S_bitmap_New_0 fuel) (v:=(_,_,_,_,_,_,_,_,_,_)) (by kernel_rfl) (by kernel_rfl) (fun R K v=>by obtain ⟨a,b,c,d,e,f,g,i,j,k⟩:=v; exact S105_0_okg fuel (F_bitmap_blank fuel) R K a b c d e f g i j k) hs h
    · cases h
  · cases h
def J105 (fuel:Nat) (i:Nat):Option Ev.Blk:=Ev.look i [(100000,B105_0 fuel)]
def Fg_bitmap_New (fuel:Nat) (h:YF195) (f g a:Int) (k0:(Int×Int×Int×LI)→OA):OA:=bif decide (f < 0) then k0 (0,0,2,[]) else bif decide (g < 0) then k0 (0,0,2,[]) else bif a != 0 then bif a != 1 then k0 (0,0,2,[]) else (h f g (fun (k,l,m,i)=>(L_bitmap_New_0 fuel (a,m,(↑i.length:Int),0,0,0,k,l,[],i) (fun (b,n,o,c,d,p,e)=>k0 (c,d,b,e))))) else (h f g (fun (q,r,s,j)=>(L_bitmap_New_0 fuel (a,s,(↑j.length:Int),0,0,0,q,r,[],j) (fun (b,n,o,c,d,p,e)=>k0 (c,d,b,e)))))
abbrev YF105:Type:=Int→Int→Int→((Int×Int×Int×LI)→Option Ans)→Option Ans
def F_bitmap_New (fuel:Nat):YF105:=Fg_bitmap_New fuel (F_bitmap_blank fuel)
theorem F105_eqg (fuel:Nat) (a:YF195) (b d e:Int) (k:Ev.Cont):evalFn tab (Gg105 a) (J105 fuel) kp105 fuel Tryz.f105 [.c (i6 b),.c (i6 d),.c (i6 e)] [] k=Fg_bitmap_New fuel a b d e (fun r=>match r with | (f,g,h,i)=>k (.tup [(true,[i6 f,i6 g,.own 0]),(false,[i6 h])],[.vec 5 (.int .u8) i true])):=by
  kernel_rfl
theorem hG105 (fuel:Nat):GOK Tryz.prog (G105 fuel):=
  gc (ok195 fuel) Tryz.func195 (by kernel_rfl) rfl <|
  gok_nil
theorem B105_0_blk (fuel:Nat):BlkOK Tryz.prog Tryz.f105.ntmps (.block 0 (.loop (bodyOf 0 Tryz.f105))) (B105_0 fuel):=bo0 (hG105 fuel) (by kernel_rfl) (by kernel_rfl) (B105_0_ok fuel)
def spg105 (F:YF105):Ev.Spec:=fun args objs k=>match args,objs with | [.c (i6 a),.c (i6 b),.c (i6 d)],[]=>F a b d (fun r=>match r with | (e,f,g,h)=>k (.tup [(true,[i6 e,i6 f,.own 0]),(false,[i6 g])],[.vec 5 (.int .u8) h true])) | _,_=>none
theorem ok105 (fuel:Nat):FnOK Tryz.prog 105 (spg105 (F_bitmap_New fuel)):=by
  intro args objs kk r h
  unfold spg105 at h
  split at h
  · skip
    exact fo1 (hG105 fuel) Tryz.func105 rfl (B105_0_blk fuel) (by kernel_rfl) _ _ kk r ((F105_eqg fuel (F_bitmap_blank fuel) _ _ _ kk).trans h)
  · cases h
def kp229 (i:Nat):Option (List Nat):=Ev.look i []
def Gg229 (f:Nat):Option Ev.Spec:=Ev.look f []
def G229 (fuel:Nat):Nat→Option Ev.Spec:=Gg229
def F_refine_Valid (fuel:Nat) (d a b:Int) (e:Bool) (c:Int) (k0:(Bool)→Option Ans):Option Ans:=bif d==0 then bif c==0 then bif decide ((bif decide (b < a) then b else a)≥(-200:Int)) then k0 (decide (Ev.imax (Ev.imax (Ev.imax a (i64.wrap (0 - a))) b) (i64.wrap (0 - b))≤200)) else k0 false else bif c==1 then bif decide ((bif decide (b < a) then b else a)≥(-200:Int)) then k0 (decide (Ev.imax (Ev.imax (Ev.imax a (i64.wrap (0 - a))) b) (i64.wrap (0 - b))≤200)) else k0 false else k0 false else bif d==1 then bif c==0 then bif decide ((bif decide (b < a) then b else a)≥(-200:Int)) then k0 (decide (Ev.imax (Ev.imax (Ev.imax a (i64.wrap (0 - a))) b) (i64.wrap (0 - b))≤200)) else k0 false else bif c==1 then bif decide ((bif decide (b < a) then b else a)≥(-200:Int)) then k0 (decide (Ev.imax (Ev.imax (Ev.imax a (i64.wrap (0 - a))) b) (i64.wrap (0 - b))≤200)) else k0 false else k0 false else k0 false
abbrev YF229:Type:=Int→Int→Int→Bool→Int→(Bool→Option Ans)→Option Ans
theorem F229_eq (fuel:Nat) (a b d:Int) (e:Bool) (f:Int) (k:Ev.Cont):evalFn tab (G229 fuel) J0 kp229 fuel Tryz.f229 [.agg [i6 a,i6 b,i6 d,.bool e,i6 f]] [] k=F_refine_Valid fuel a b d e f (fun r=>match r with | g=>k (.c (.bool g),[])):=by
  kernel_rfl
theorem hG229 (fuel:Nat):GOK Tryz.prog (G229 fuel):=
  gok_nil
def spg229 (F:YF229):Ev.Spec:=fun args objs k=>match args,objs with | [.agg [i6 a,i6 b,i6 d,.bool e,i6 f]],[]=>F a b d e f (fun r=>match r with | g=>k (.c (.bool g),[])) | _,_=>none
theorem ok229 (fuel:Nat):FnOK Tryz.prog 229 (spg229 (F_refine_Valid fuel)):=by
  intro args objs kk r h
  unfold spg229 at h
  split at h
  · skip
    exact fo0 (hG229 fuel) Tryz.func229 rfl (by kernel_rfl) _ _ kk r ((F229_eq fuel _ _ _ _ _ kk).trans h)
  · cases h
def kp230 (i:Nat):Option (List Nat):=Ev.look i [(200001,[3,5])]
def Gg230 (a:YF228) (f:Nat):Option Ev.Spec:=Ev.look f [(228,spg228 a)]
def G230 (fuel:Nat):Nat→Option Ev.Spec:=Gg230 (F_refine_contexts fuel)
def Fg_refine_fits (fuel:Nat) (b:YF228) (f:Int) (c:LI) (a d:Int) (g h:Int) (i:Bool) (j:Int) (k0:(Bool)→OA):OA:=bif decide (a≥0) then (b d (fun e=>k0 (decide (a≤i64.wrap (i64.wrap ((↑c.length:Int) - e) - 1))))) else k0 false
abbrev YF230:Type:=Int→LI→Int→Int→Int→Int→Bool→Int→(Bool→Option Ans)→Option Ans
def F_refine_fits (fuel:Nat):YF230:=Fg_refine_fits fuel (F_refine_contexts fuel)
theorem F230_eqg (fuel:Nat) (a:YF228) (b:Int) (d:LI) (e f:Int) (g h:Int) (i:Bool) (j:Int) (k:Ev.Cont):evalFn tab (Gg230 a) J0 kp230 fuel Tryz.f230 [.agg [i6 b,.sl (.int .i64) d],.c (i6 e),.agg [i6 f,i6 g,i6 h,.bool i,i6 j]] [] k=Fg_refine_fits fuel a b d e f g h i j (fun r=>match r with | l=>k (.c (.bool l),[])):=by
  kernel_rfl
theorem hG230 (fuel:Nat):GOK Tryz.prog (G230 fuel):=
  gc (ok228 fuel) Tryz.func228 (by kernel_rfl) rfl <|
  gok_nil
def spg230 (F:YF230):Ev.Spec:=fun args objs k=>match args,objs with | [.agg [i6 a,.sl (.int .i64) b],.c (i6 d),.agg [i6 e,i6 f,i6 g,.bool h,i6 i]],[]=>F a b d e f g h i (fun r=>match r with | j=>k (.c (.bool j),[])) | _,_=>none
theorem ok230 (fuel:Nat):FnOK Tryz.prog 230 (spg230 (F_refine_fits fuel)):=by
  intro args objs kk r h
  unfold spg230 at h
  split at h
  · skip
    exact fo0 (hG230 fuel) Tryz.func230 rfl (by kernel_rfl) _ _ kk r ((F230_eqg fuel (F_refine_contexts fuel) _ _ _ _ _ _ _ _ kk).trans h)
  · cases h
def kp231_adf (i:Nat):Option (List Nat):=Ev.look i []
def Gg231_adf (f:Nat):Option Ev.Spec:=Ev.look f []
def G231_adf (fuel:Nat):Nat→Option Ev.Spec:=Gg231_adf
def F_refine_newRegion_adf (fuel:Nat) (b c d:Int) (e:Bool) (f g:Int) (h i j:Int) (k a:(List Int)) (k0:((List Int)×Int×Int×Int×Bool×Int×Int×Int×Int×Int×(List Int))→Option Ans):Option Ans:=k0 (a,b,c,d,e,f,g,h,i,j,k)
abbrev YF231_adf:Type:=Int→Int→Int→Bool→Int→Int→Int→Int→Int→LI→LI→((LI×Int×Int×Int×Bool×Int×Int×Int×Int×Int×LI)→Option Ans)→Option Ans
theorem F231_adf_eq (fuel:Nat) (b d e:Int) (f:Bool) (g h:Int) (i j l:Int) (m a:LI) (k:Ev.Cont):evalFn tab (G231_adf fuel) J0 kp231_adf fuel Tryz.f231 [.agg [i6 b,i6 d,i6 e,.bool f,i6 g],.c (i6 h),.c (i6 i),.c (.own 0),.agg [i6 j,i6 l,.sl (.int .u8) m]] [.vec 5 (.int .u8) a false] k=F_refine_newRegion_adf fuel b d e f g h i j l m a (fun r=>match r with | (o,p,q,s,t,u,v,w,x,y,n)=>k (.c (.ptr 1 0),[.vec 5 (.int .u8) o false,.cells 266 [i6 p,i6 q,i6 s,.bool t,i6 u,i6 v,i6 w,.own 0,i6 x,i6 y,.sl (.int .u8) n]])):=by
  kernel_rfl
theorem hG231_adf (fuel:Nat):GOK Tryz.prog (G231_adf fuel):=
  gok_nil
def spg231_adf (F:YF231_adf):Ev.Spec:=fun args objs k=>match args,objs with | [.agg [i6 d,i6 e,i6 f,.bool g,i6 h],.c (i6 i),.c (i6 j),.c (.own l),.agg [i6 m,i6 n,.sl (.int .u8) o]],[.vec p (.int .u8) a false]=>bif qb [l,p] [0,5] then F d e f g h i j m n o a (fun r=>match r with | (q,s,t,u,v,w,x,y,z,A,b)=>k (.c (.ptr 1 0),[.vec 5 (.int .u8) q false,.cells 266 [i6 s,i6 t,i6 u,.bool v,i6 w,i6 x,i6 y,.own 0,i6 z,i6 A,.sl (.int .u8) b]])) else none | _,_=>none
theorem ok231_adf (fuel:Nat):FnOK Tryz.prog 231 (spg231_adf (F_refine_newRegion_adf fuel)):=by
  intro args objs kk r h
  unfold spg231_adf at h
  split at h
  · skip
    obtain ⟨hb,h⟩:=cond_some' h
    cases qb_eq hb
    exact fo0 (hG231_adf fuel) Tryz.func231 rfl (by kernel_rfl) _ _ kk r ((F231_adf_eq fuel _ _ _ _ _ _ _ _ _ _ _ kk).trans h)
  · cases h
def kp250 (i:Nat):Option (List Nat):=Ev.look i []
def Gg250 (f:Nat):Option Ev.Spec:=Ev.look f []
def G250 (fuel:Nat):Nat→Option Ev.Spec:=Gg250
def F_refine_beside (fuel:Nat)  (k0:((List (Int×Int)))→Option Ans):Option Ans:=k0 ([(0,0),((-1:Int),0),(1,0),(0,(-1:Int)),(0,1)])
abbrev YF250:Type:=(((List (Int×Int)))→Option Ans)→Option Ans
theorem F250_eq (fuel:Nat)  (k:Ev.Cont):evalFn tab (G250 fuel) J0 kp250 fuel Tryz.f250 [] [] k=F_refine_beside fuel  (fun r=>match r with | a=>k (.c (.own 0),[.vec 76 (.pair (.int .i64) (.int .i64)) a true])):=by
  kernel_rfl
theorem hG250 (fuel:Nat):GOK Tryz.prog (G250 fuel):=
  gok_nil
def spg250 (F:YF250):Ev.Spec:=fun args objs k=>match args,objs with | [],[]=>F  (fun r=>match r with | a=>k (.c (.own 0),[.vec 76 (.pair (.int .i64) (.int .i64)) a true])) | _,_=>none
theorem ok250 (fuel:Nat):FnOK Tryz.prog 250 (spg250 (F_refine_beside fuel)):=by
  intro args objs kk r h
  unfold spg250 at h
  split at h
  · skip
    exact fo0 (hG250 fuel) Tryz.func250 rfl (by kernel_rfl) _ _ kk r ((F250_eq fuel kk).trans h)
  · cases h
def kp235 (i:Nat):Option (List Nat):=Ev.look i []
def Gg235 (f:Nat):Option Ev.Spec:=Ev.look f []
def G235 (fuel:Nat):Nat→Option Ev.Spec:=Gg235
def F_refine_grid_at (fuel:Nat) (c e:Int) (d:(List Int)) (a b:Int) (k0:(Int)→Option Ans):Option Ans:=bif decide (a < 0) then k0 (0) else bif decide (b < 0) then k0 (0) else bif decide (a≥c) then k0 (0) else bif decide (b≥e) then k0 (0) else bif decide (0≤i64.wrap (i64.wrap (b*c)+a)∧i64.wrap (i64.wrap (b*c)+a) < (↑d.length:Int)) then k0 (d.getD (i64.wrap (i64.wrap (b*c)+a)).toNat 0) else none
abbrev YF235:Type:=Int→Int→LI→Int→Int→(Int→Option Ans)→Option Ans
theorem F235_eq (fuel:Nat) (a b:Int) (d:LI) (e f:Int) (k:Ev.Cont):evalFn tab (G235 fuel) J0 kp235 fuel Tryz.f235 [.agg [i6 a,i6 b,.sl (.int .u8) d],.c (i6 e),.c (i6 f)] [] k=F_refine_grid_at fuel a b d e f (fun r=>match r with | g=>k (.c (.int .u8 g),[])):=by
  kernel_rfl
theorem hG235 (fuel:Nat):GOK Tryz.prog (G235 fuel):=
  gok_nil
def spg235 (F:YF235):Ev.Spec:=fun args objs k=>match args,objs with | [.agg [i6 a,i6 b,.sl (.int .u8) d],.c (i6 e),.c (i6 f)],[]=>F a b d e f (fun r=>match r with | g=>k (.c (.int .u8 g),[])) | _,_=>none
theorem ok235 (fuel:Nat):FnOK Tryz.prog 235 (spg235 (F_refine_grid_at fuel)):=by
  intro args objs kk r h
  unfold spg235 at h
  split at h
  · skip
    exact fo0 (hG235 fuel) Tryz.func235 rfl (by kernel_rfl) _ _ kk r ((F235_eq fuel _ _ _ _ _ kk).trans h)
  · cases h
def kp234_391 (i:Nat):Option (List Nat):=Ev.look i [(3,[0,1,2,7,17,18,19]),(8,[0,1,2,7,41,42,43]),(100000,[0,1,2,7]),(100002,[7]),(200005,[0,9]),(200010,[0,11]),(400000,[6]),(400002,[6])]
def Gg234_391 (a:YF235) (b:YF249) (c:YF250) (f:Nat):Option Ev.Spec:=Ev.look f [(235,spg235 a),(249,spg249 b),(250,spg250 c)]
def G234_391 (fuel:Nat):Nat→Option Ev.Spec:=Gg234_391 (F_refine_grid_at fuel) (F_refine_fresh fuel) (F_refine_beside fuel)
abbrev V_refine_region_context_391_0:Type:=Int×Int×Int×Int×Int×Int×Int×Int×Bool×Int×Int×Int×Int×Int×LI×LI×(List (Int×Int))
abbrev W_refine_region_context_391_0:Type:=(Int×Int×Int×Int×Int×Int×Bool×Int×Int×Int×Int×Int×LI×LI→OA)
def Sg_refine_region_context_391_0 (fuel:Nat) (t:YF235) (v:YF249) (w:YF250) (h i:Int) (m n:Int) (a o:Int) (p q:Int) (r:Bool) (s e:Int) (f j k:Int) (l g:LI) (d:(List (Int×Int))) (c:V_refine_region_context_391_0→OA) (B:W_refine_region_context_391_0):OA:=match B with | b=>bif decide (a < n) then bif decide (0≤a∧a < (↑d.length:Int)) then (t e f g (i64.wrap (h+(d.getD a.toNat (0,0)).fst)) (i64.wrap (i+(d.getD a.toNat (0,0)).snd)) (fun u=>c (h,i,i64.wrap (i64.wrap (2*m)+i64.wrap u),n,i64.wrap (a+1),o,p,q,r,s,e,f,j,k,l,g,d))) else none else b (h,i,m,o,p,q,r,s,e,f,j,k,l,g)
def S_refine_region_context_391_0 (fuel:Nat) (v:Int×Int×Int×Int×Int×Int×Int×Int×Bool×Int×Int×Int×Int×Int×(List Int)×(List Int)×(List (Int×Int))) (c:(Int×Int×Int×Int×Int×Int×Int×Int×Bool×Int×Int×Int×Int×Int×(List Int)×(List Int)×(List (Int×Int)))→Option Ans) (B:(Int×Int×Int×Int×Int×Int×Bool×Int×Int×Int×Int×Int×(List Int)×(List Int)→Option Ans)):Option Ans:=match v with | (i,j,k,l,m,n,o,p,q,r,a,b,d,e,f,g,h)=>Sg_refine_region_context_391_0 fuel (F_refine_grid_at fuel) (F_refine_fresh fuel) (F_refine_beside fuel) i j k l m n o p q r a b d e f g h c B
def L_refine_region_context_391_0 (fuel:Nat) (v:V_refine_region_context_391_0) (b:W_refine_region_context_391_0):Option Ans:=iter (S_refine_region_context_391_0 fuel) fuel v b
def T234_391_0 (v:V_refine_region_context_391_0):Ev.St:=match v with | (i,j,k,l,m,n,o,p,q,r,a,b,d,e,f,g,h)=>⟨[(0,.c (.ptr 0 0)),(1,.c (i6 i)),(2,.c (i6 j)),(7,.c (i6 k)),(17,.c (.own 2)),(18,.c (i6 l)),(19,.c (i6 m))],[(0,.cells 266 [i6 n,i6 o,i6 p,.bool q,i6 r,i6 a,i6 b,.own 1,i6 d,i6 e,.sl (.int .u8) f]),(1,.vec 5 (.int .u8) g false),(2,.vec 76 (.pair (.int .i64) (.int .i64)) h true)],3,2⟩
def E234_391_0 (K:KT):W_refine_region_context_391_0:=(fun v=>match v with | (f,g,h,i,j,k,l,m,n,o,a,b,d,e)=>K .normal ⟨[(0,.c (.ptr 0 0)),(1,.c (i6 f)),(2,.c (i6 g)),(7,.c (i6 h))],[(0,.cells 266 [i6 i,i6 j,i6 k,.bool l,i6 m,i6 n,i6 o,.own 1,i6 a,i6 b,.sl (.int .u8) d]),(1,.vec 5 (.int .u8) e false)],2,2⟩)
theorem S234_391_0_okg (fuel:Nat) (a:YF235) (b:YF249) (c:YF250) (R:Ev.St→OA) (K:KT) (k l:Int) (m n:Int) (o p:Int) (q r:Int) (s:Bool) (t d:Int) (e f g:Int) (h i:LI) (j:(List (Int×Int))):evalCode tab (Gg234_391 a b c) J0 kp234_391 fuel (bodyOf 0 Tryz.f234) (T234_391_0 (k,l,m,n,o,p,q,r,s,t,d,e,f,g,h,i,j)) (lc kp234_391 3 0 R K)=Sg_refine_region_context_391_0 fuel a b c k l m n o p q r s t d e f g h i j (fun v=>R (T234_391_0 v)) (E234_391_0 K):=by
  kernel_rfl
def B234_391_0 (fuel:Nat):Ev.Blk:=fun st K=>match canonO (kp234_391 3) st with | some s=>(match s with | ⟨[(r,.c (.ptr t u)),(v,.c (i6 w)),(x,.c (i6 y)),(z,.c (i6 A)),(B,.c (.own C)),(D,.c (i6 E)),(F,.c (i6 G))],[(a,.cells b [i6 H,i6 I,i6 J,.bool L,i6 M,i6 d,i6 e,.own f,i6 g,i6 h,.sl (.int .u8) i]),(j,.vec k (.int .u8) l false),(m,.vec n (.pair (.int .i64) (.int .i64)) o true)],p,q⟩=>bif qb [r,t,u,v,x,z,B,C,D,F,a,b,f,j,k,m,n,p,q] [0,0,0,1,2,7,17,2,18,19,0,266,1,1,5,2,76,3,2] then iter (S_refine_region_context_391_0 fuel) fuel (w,y,A,E,G,H,I,J,L,M,d,e,g,h,i,l,o) (E234_391_0 K) else none | _=>none) | none=>none
theorem B234_391_0_ok (fuel:Nat) (st:Ev.St) (K:KT) (r:Ans) (h:B234_391_0 fuel st K=some r):evalCode tab (G234_391 fuel) J0 kp234_391 fuel (.block 0 (.loop (bodyOf 0 Tryz.f234))) st K=some r:=by
  unfold B234_391_0 at h
  split at h
  · rename_i s hs
    split at h
    · skip
      obtain ⟨hb,h⟩:=cond_some' h
      cases qb_eq hb
      exact blk_loop (S:=T234_391_0) (ks:=E234_391_0) (step:=S_refine_region_context_391_0 fuel) (v:=(_,_,_,_,_,_,_,_,_,_,_,_,_,_,_,_,_)) (by kernel_rfl) (by kernel_rfl) (fun R K v=>by obtain ⟨i,j,k,l,m,n,o,p,q,t,a,b,c,d,e,f,g⟩:=v; exact S234_391_0_okg fuel (F_refine_grid_at fuel) (F_refine_fresh fuel) (F_refine_beside fuel) R K i j k l m n o p q t a b c d e f g) hs h
    · cases h
  · cases h
abbrev V_refine_region_context_391_2:Type:=Int×Int×Int×Int×Int×Int×Int×Int×Bool×Int×Int×Int×Int×Int×LI×LI×(List (Int×Int))
abbrev W_refine_region_context_391_2:Type:=(Int×Int×Int×Int×Bool×Int×Int×Int×Int×Int×LI×LI→OA)
def Sg_refine_region_context_391_2 (fuel:Nat) (t:YF235) (v:YF249) (w:YF250) (m n:Int) (o p:Int) (a q:Int) (h i:Int) (r:Bool) (s j:Int) (k e f:Int) (g l:LI) (d:(List (Int×Int))) (c:V_refine_region_context_391_2→OA) (B:W_refine_region_context_391_2):OA:=match B with | b=>bif decide (a < p) then bif decide (0≤a∧a < (↑d.length:Int)) then (t e f g (i64.wrap (i64.wrap (m - h)+(d.getD a.toNat (0,0)).fst)) (i64.wrap (i64.wrap (n - i)+(d.getD a.toNat (0,0)).snd)) (fun u=>c (m,n,i64.wrap (i64.wrap (2*o)+i64.wrap u),p,i64.wrap (a+1),q,h,i,r,s,j,k,e,f,g,l,d))) else none else b (o,q,h,i,r,s,j,k,e,f,g,l)
def S_refine_region_context_391_2 (fuel:Nat) (v:Int×Int×Int×Int×Int×Int×Int×Int×Bool×Int×Int×Int×Int×Int×(List Int)×(List Int)×(List (Int×Int))) (c:(Int×Int×Int×Int×Int×Int×Int×Int×Bool×Int×Int×Int×Int×Int×(List Int)×(List Int)×(List (Int×Int)))→Option Ans) (B:(Int×Int×Int×Int×Bool×Int×Int×Int×Int×Int×(List Int)×(List Int)→Option Ans)):Option Ans:=match v with | (i,j,k,l,m,n,o,p,q,r,a,b,d,e,f,g,h)=>Sg_refine_region_context_391_2 fuel (F_refine_grid_at fuel) (F_refine_fresh fuel) (F_refine_beside fuel) i j k l m n o p q r a b d e f g h c B
def L_refine_region_context_391_2 (fuel:Nat) (v:V_refine_region_context_391_2) (b:W_refine_region_context_391_2):Option Ans:=iter (S_refine_region_context_391_2 fuel) fuel v b
def J234_391_2 (fuel:Nat) (i:Nat):Option Ev.Blk:=Ev.look i [(100000,B234_391_0 fuel)]
def T234_391_2 (v:V_refine_region_context_391_2):Ev.St:=match v with | (i,j,k,l,m,n,o,p,q,r,a,b,d,e,f,g,h)=>⟨[(0,.c (.ptr 0 0)),(1,.c (i6 i)),(2,.c (i6 j)),(7,.c (i6 k)),(41,.c (.own 2)),(42,.c (i6 l)),(43,.c (i6 m))],[(0,.cells 266 [i6 n,i6 o,i6 p,.bool q,i6 r,i6 a,i6 b,.own 1,i6 d,i6 e,.sl (.int .u8) f]),(1,.vec 5 (.int .u8) g false),(2,.vec 76 (.pair (.int .i64) (.int .i64)) h true)],3,2⟩
def E234_391_2 (K:KT):W_refine_region_context_391_2:=(fun v=>match v with | (d,e,f,g,h,i,j,k,l,m,a,b)=>K .normal ⟨[(7,.c (i6 d))],[(0,.cells 266 [i6 e,i6 f,i6 g,.bool h,i6 i,i6 j,i6 k,.own 1,i6 l,i6 m,.sl (.int .u8) a]),(1,.vec 5 (.int .u8) b false)],2,2⟩)
theorem S234_391_2_okg (fuel:Nat) (a:YF235) (b:YF249) (c:YF250) (R:Ev.St→OA) (K:KT) (k l:Int) (m n:Int) (o p:Int) (q r:Int) (s:Bool) (t d:Int) (e f g:Int) (h i:LI) (j:(List (Int×Int))):evalCode tab (Gg234_391 a b c) (J234_391_2 fuel) kp234_391 fuel (bodyOf 2 Tryz.f234) (T234_391_2 (k,l,m,n,o,p,q,r,s,t,d,e,f,g,h,i,j)) (lc kp234_391 8 2 R K)=Sg_refine_region_context_391_2 fuel a b c k l m n o p q r s t d e f g h i j (fun v=>R (T234_391_2 v)) (E234_391_2 K):=by
  kernel_rfl
def B234_391_2 (fuel:Nat):Ev.Blk:=fun st K=>match canonO (kp234_391 8) st with | some s=>(match s with | ⟨[(r,.c (.ptr t u)),(v,.c (i6 w)),(x,.c (i6 y)),(z,.c (i6 A)),(B,.c (.own C)),(D,.c (i6 E)),(F,.c (i6 G))],[(a,.cells b [i6 H,i6 I,i6 J,.bool L,i6 M,i6 d,i6 e,.own f,i6 g,i6 h,.sl (.int .u8) i]),(j,.vec k (.int .u8) l false),(m,.vec n (.pair (.int .i64) (.int .i64)) o true)],p,q⟩=>bif qb [r,t,u,v,x,z,B,C,D,F,a,b,f,j,k,m,n,p,q] [0,0,0,1,2,7,41,2,42,43,0,266,1,1,5,2,76,3,2] then iter (S_refine_region_context_391_2 fuel) fuel (w,y,A,E,G,H,I,J,L,M,d,e,g,h,i,l,o) (E234_391_2 K) else none | _=>none) | none=>none
theorem B234_391_2_ok (fuel:Nat) (st:Ev.St) (K:KT) (r:Ans) (h:B234_391_2 fuel st K=some r):evalCode tab (G234_391 fuel) (J234_391_2 fuel) kp234_391 fuel (.block 2 (.loop (bodyOf 2 Tryz.f234))) st K=some r:=by
  unfold B234_391_2 at h
  split at h
  · rename_i s hs
    split at h
    · skip
      obtain ⟨hb,h⟩:=cond_some' h
      cases qb_eq hb
      exact blk_loop (S:=T234_391_2) (ks:=E234_391_2) (step:=S_refine_region_context_391_2 fuel) (v:=(_,_,_,_,_,_,_,_,_,_,_,_,_,_,_,_,_)) (by kernel_rfl) (by kernel_rfl) (fun R K v=>by obtain ⟨i,j,k,l,m,n,o,p,q,t,a,b,c,d,e,f,g⟩:=v; exact S234_391_2_okg fuel (F_refine_grid_at fuel) (F_refine_fresh fuel) (F_refine_beside fuel) R K i j k l m n o p q t a b c d e f g) hs h
    · cases h
  · cases h
def J234_391 (fuel:Nat) (i:Nat):Option Ev.Blk:=Ev.look i [(100000,B234_391_0 fuel),(100002,B234_391_2 fuel)]
def Fg_refine_region_context_391 (fuel:Nat) (R:YF235) (j:YF249) (k:YF250) (I J:Int) (b K L:Int) (M:Bool) (N O:Int) (P Q F:Int) (G H:LI) (k0:(Int×Int×Int×Int×Bool×Int×Int×Int×Int×Int×LI×LI)→OA):OA:=(j b (fun c=>(L_refine_region_context_391_0 fuel (I,J,0,(↑c.length:Int),0,b,K,L,M,N,O,P,Q,F,G,H,c) (fun (l,m,n,o,p,q,r,s,t,u,d,e,f,g)=>(k (fun a=>(L_refine_region_context_391_2 fuel (l,m,n,(↑a.length:Int),0,o,p,q,r,s,t,u,d,e,f,g,a) (fun (v,w,x,y,z,A,B,C,D,E,h,i)=>k0 (v,w,x,y,z,A,B,C,D,E,h,i)))))))))
abbrev YF234_391:Type:=Int→Int→Int→Int→Int→Bool→Int→Int→Int→Int→Int→LI→LI→((Int×Int×Int×Int×Bool×Int×Int×Int×Int×Int×LI×LI)→Option Ans)→Option Ans
def F_refine_region_context_391 (fuel:Nat):YF234_391:=Fg_refine_region_context_391 fuel (F_refine_grid_at fuel) (F_refine_fresh fuel) (F_refine_beside fuel)
theorem F234_391_eqg (fuel:Nat) (a:YF235) (b:YF249) (d:YF250) (h i:Int) (j l m:Int) (n:Bool) (o p:Int) (q s e:Int) (f g:LI) (k:Ev.Cont):evalFn tab (Gg234_391 a b d) (J234_391 fuel) kp234_391 fuel Tryz.f234 [.c (.ptr 0 0),.c (i6 h),.c (i6 i)] [.cells 266 [i6 j,i6 l,i6 m,.bool n,i6 o,i6 p,i6 q,.own 1,i6 s,i6 e,.sl (.int .u8) f],.vec 5 (.int .u8) g false] k=Fg_refine_region_context_391 fuel a b d h i j l m n o p q s e f g (fun r=>match r with | (v,w,x,y,z,A,B,C,D,E,t,u)=>k (.c (i6 v),[.cells 266 [i6 w,i6 x,i6 y,.bool z,i6 A,i6 B,i6 C,.own 1,i6 D,i6 E,.sl (.int .u8) t],.vec 5 (.int .u8) u false])):=by
  kernel_rfl
theorem hG234_391 (fuel:Nat):GOK Tryz.prog (G234_391 fuel):=
  gc (ok235 fuel) Tryz.func235 (by kernel_rfl) rfl <|
  gc (ok249 fuel) Tryz.func249 (by kernel_rfl) rfl <|
  gc (ok250 fuel) Tryz.func250 (by kernel_rfl) rfl <|
  gok_nil
theorem B234_391_0_blk (fuel:Nat):BlkOK Tryz.prog Tryz.f234.ntmps (.block 0 (.loop (bodyOf 0 Tryz.f234))) (B234_391_0 fuel):=bo0 (hG234_391 fuel) (by kernel_rfl) (by kernel_rfl) (B234_391_0_ok fuel)
theorem B234_391_2_blk (fuel:Nat):BlkOK Tryz.prog Tryz.f234.ntmps (.block 2 (.loop (bodyOf 2 Tryz.f234))) (B234_391_2 fuel):=bo0 (hG234_391 fuel) (by kernel_rfl) (by kernel_rfl) (B234_391_2_ok fuel)
theorem fok234_391 (fuel:Nat):FnOK Tryz.prog 234 (evalFn tab (G234_391 fuel) (J234_391 fuel) kp234_391 fuel Tryz.f234):=
  fn_ok tab_ok (hG234_391 fuel) mixed Tryz.func234 (c:=(Tryz.f234.body).getD .skip) rfl (fun q hq=>by
    rw [(by kernel_rfl:obl (J234_391 fuel) ((Tryz.f234.body).getD .skip)= [(.block 0 (.loop (bodyOf 0 Tryz.f234)),B234_391_0 fuel),(.block 2 (.loop (bodyOf 2 Tryz.f234)),B234_391_2 fuel)])] at hq
    simp only [List.mem_cons,List.not_mem_nil,or_false] at hq
    rcases hq with rfl | rfl
    · exact B234_391_0_blk fuel
    · exact B234_391_2_blk fuel)
def spg234_391 (F:YF234_391):Ev.Spec:=fun args objs k=>match args,objs with | [.c (.ptr g h),.c (i6 i),.c (i6 j)],[.cells l [i6 m,i6 n,i6 o,.bool p,i6 q,i6 s,i6 t,.own u,i6 v,i6 a,.sl (.int .u8) b],.vec w (.int .u8) d false]=>bif qb [g,h,l,u,w] [0,0,266,1,5] then F i j m n o p q s t v a b d (fun r=>match r with | (x,y,z,A,B,C,D,E,G,H,e,f)=>k (.c (i6 x),[.cells 266 [i6 y,i6 z,i6 A,.bool B,i6 C,i6 D,i6 E,.own 1,i6 G,i6 H,.sl (.int .u8) e],.vec 5 (.int .u8) f false])) else none | _,_=>none
theorem ok234_391 (fuel:Nat):FnOK Tryz.prog 234 (spg234_391 (F_refine_region_context_391 fuel)):=by
  intro args objs kk r h
  unfold spg234_391 at h
  split at h
  · skip
    obtain ⟨hb,h⟩:=cond_some' h
    cases qb_eq hb
    exact fok234_391 fuel _ _ kk r ((F234_391_eqg fuel (F_refine_grid_at fuel) (F_refine_fresh fuel) (F_refine_beside fuel) _ _ _ _ _ _ _ _ _ _ _ _ _ kk).trans h)
  · cases h
def kp233_391 (i:Nat):Option (List Nat):=Ev.look i [(3,[0,1,2,8,29]),(100000,[8]),(200001,[0]),(200005,[0]),(400000,[6,7])]
def Gg233_391 (a:YF235) (f:Nat):Option Ev.Spec:=Ev.look f [(235,spg235 a)]
def G233_391 (fuel:Nat):Nat→Option Ev.Spec:=Gg233_391 (F_refine_grid_at fuel)
abbrev V_refine_region_flat_391_0:Type:=Int×Int×Int×Int×Int×Int×Int×Bool×Int×Int×Int×Int×Int×LI×LI
abbrev W_refine_region_flat_391_0:Type:=(Int×Bool×Int×Int×Int×Bool×Int×Int×Int×Int×Int×LI×LI→OA)×(Int×Int×Int×Int×Bool×Int×Int×Int×Int×Int×LI×LI→OA)
def Sg_refine_region_flat_391_0 (fuel:Nat) (r:YF235) (p q:Int) (k f:Int) (l g h:Int) (m:Bool) (n o:Int) (i a d:Int) (e j:LI) (c:V_refine_region_flat_391_0→OA) (B:W_refine_region_flat_391_0):OA:=match B with | (ret,b)=>bif decide (f < 9) then (r a d e (i64.wrap (i64.wrap (i64.wrap (p - g)+f.tmod 3) - 1)) (i64.wrap (i64.wrap (i64.wrap (q - h)+i64.wrap (f.tdiv 3)) - 1)) (fun s=>bif s != k then ret (0,false,l,g,h,m,n,o,i,a,d,e,j) else c (p,q,k,i64.wrap (f+1),l,g,h,m,n,o,i,a,d,e,j))) else b (k,l,g,h,m,n,o,i,a,d,e,j)
def S_refine_region_flat_391_0 (fuel:Nat) (v:Int×Int×Int×Int×Int×Int×Int×Bool×Int×Int×Int×Int×Int×(List Int)×(List Int)) (c:(Int×Int×Int×Int×Int×Int×Int×Bool×Int×Int×Int×Int×Int×(List Int)×(List Int))→Option Ans) (B:(Int×Bool×Int×Int×Int×Bool×Int×Int×Int×Int×Int×(List Int)×(List Int)→Option Ans)×(Int×Int×Int×Int×Bool×Int×Int×Int×Int×Int×(List Int)×(List Int)→Option Ans)):Option Ans:=match v with | (g,h,i,j,k,l,m,n,o,p,a,b,d,e,f)=>Sg_refine_region_flat_391_0 fuel (F_refine_grid_at fuel) g h i j k l m n o p a b d e f c B
def L_refine_region_flat_391_0 (fuel:Nat) (v:V_refine_region_flat_391_0) (ret:(Int×Bool×Int×Int×Int×Bool×Int×Int×Int×Int×Int×(List Int)×(List Int)→Option Ans)) (b:(Int×Int×Int×Int×Bool×Int×Int×Int×Int×Int×(List Int)×(List Int)→Option Ans)):Option Ans:=iter (S_refine_region_flat_391_0 fuel) fuel v (ret,b)
def T233_391_0 (v:V_refine_region_flat_391_0):Ev.St:=match v with | (g,h,i,j,k,l,m,n,o,p,a,b,d,e,f)=>⟨[(0,.c (.ptr 0 0)),(1,.c (i6 g)),(2,.c (i6 h)),(8,.c (.int .u8 i)),(29,.c (i6 j))],[(0,.cells 266 [i6 k,i6 l,i6 m,.bool n,i6 o,i6 p,i6 a,.own 1,i6 b,i6 d,.sl (.int .u8) e]),(1,.vec 5 (.int .u8) f false)],2,2⟩
def E233_391_0 (K:KT):W_refine_region_flat_391_0:=((fun v=>match v with | (d,e,f,g,h,i,j,k,l,m,a,b,n)=>K .ret ⟨[(6,.c (.int .u8 d)),(7,.c (.bool e))],[(0,.cells 266 [i6 f,i6 g,i6 h,.bool i,i6 j,i6 k,i6 l,.own 1,i6 m,i6 a,.sl (.int .u8) b]),(1,.vec 5 (.int .u8) n false)],2,2⟩),(fun v=>match v with | (d,e,f,g,h,i,j,k,l,m,a,b)=>K .normal ⟨[(8,.c (.int .u8 d))],[(0,.cells 266 [i6 e,i6 f,i6 g,.bool h,i6 i,i6 j,i6 k,.own 1,i6 l,i6 m,.sl (.int .u8) a]),(1,.vec 5 (.int .u8) b false)],2,2⟩))
theorem S233_391_0_okg (fuel:Nat) (a:YF235) (R:Ev.St→OA) (K:KT) (g h:Int) (i j:Int) (k l m:Int) (n:Bool) (o p:Int) (b c d:Int) (e f:LI):evalCode tab (Gg233_391 a) J0 kp233_391 fuel (bodyOf 0 Tryz.f233) (T233_391_0 (g,h,i,j,k,l,m,n,o,p,b,c,d,e,f)) (lc kp233_391 3 0 R K)=Sg_refine_region_flat_391_0 fuel a g h i j k l m n o p b c d e f (fun v=>R (T233_391_0 v)) (E233_391_0 K):=by
  kernel_rfl
def B233_391_0 (fuel:Nat):Ev.Blk:=fun st K=>match canonO (kp233_391 3) st with | some s=>(match s with | ⟨[(k,.c (.ptr l m)),(n,.c (i6 o)),(p,.c (i6 q)),(r,.c (.int .u8 t)),(u,.c (i6 v))],[(w,.cells x [i6 y,i6 z,i6 A,.bool B,i6 C,i6 D,i6 a,.own E,i6 b,i6 d,.sl (.int .u8) e]),(f,.vec g (.int .u8) h false)],i,j⟩=>bif qb [k,l,m,n,p,r,u,w,x,E,f,g,i,j] [0,0,0,1,2,8,29,0,266,1,1,5,2,2] then iter (S_refine_region_flat_391_0 fuel) fuel (o,q,t,v,y,z,A,B,C,D,a,b,d,e,h) (E233_391_0 K) else none | _=>none) | none=>none
theorem B233_391_0_ok (fuel:Nat) (st:Ev.St) (K:KT) (r:Ans) (h:B233_391_0 fuel st K=some r):evalCode tab (G233_391 fuel) J0 kp233_391 fuel (.block 0 (.loop (bodyOf 0 Tryz.f233))) st K=some r:=by
  unfold B233_391_0 at h
  split at h
  · rename_i s hs
    split at h
    · skip
      obtain ⟨hb,h⟩:=cond_some' h
      cases qb_eq hb
      exact blk_loop (S:=T233_391_0) (ks:=E233_391_0) (step:=S_refine_region_flat_391_0 fuel) (v:=(_,_,_,_,_,_,_,_,_,_,_,_,_,_,_)) (by kernel_rfl) (by kernel_rfl) (fun R K v=>by obtain ⟨f,g,i,j,k,l,m,n,o,p,a,b,c,d,e⟩:=v; exact S233_391_0_okg fuel (F_refine_grid_at fuel) R K f g i j k l m n o p a b c d e) hs h
    · cases h
  · cases h
def J233_391 (fuel:Nat) (i:Nat):Option Ev.Blk:=Ev.look i [(100000,B233_391_0 fuel)]
def Fg_refine_region_flat_391 (fuel:Nat) (j:YF235) (c d:Int) (v e f:Int) (w:Bool) (x y:Int) (z g a:Int) (b u:LI) (k0:(Int×Bool×Int×Int×Int×Bool×Int×Int×Int×Int×Int×LI×LI)→OA):OA:=(j g a b (i64.wrap (c - e)) (i64.wrap (d - f)) (fun A=>(L_refine_region_flat_391_0 fuel (c,d,A,0,v,e,f,w,x,y,z,g,a,b,u) (fun (ret0_0,ret0_1,ret0_2,ret0_3,ret0_4,ret0_5,ret0_6,ret0_7,ret0_8,ret0_9,ret0_10,ret0_11,ret0_12)=>k0 (ret0_0,ret0_1,ret0_2,ret0_3,ret0_4,ret0_5,ret0_6,ret0_7,ret0_8,ret0_9,ret0_10,ret0_11,ret0_12)) (fun (k,l,m,n,o,p,q,r,s,t,h,i)=>k0 (k,true,l,m,n,o,p,q,r,s,t,h,i)))))
abbrev YF233_391:Type:=Int→Int→Int→Int→Int→Bool→Int→Int→Int→Int→Int→LI→LI→((Int×Bool×Int×Int×Int×Bool×Int×Int×Int×Int×Int×LI×LI)→Option Ans)→Option Ans
def F_refine_region_flat_391 (fuel:Nat):YF233_391:=Fg_refine_region_flat_391 fuel (F_refine_grid_at fuel)
theorem F233_391_eqg (fuel:Nat) (a:YF235) (f g:Int) (h i j:Int) (l:Bool) (m n:Int) (o p b:Int) (d e:LI) (k:Ev.Cont):evalFn tab (Gg233_391 a) (J233_391 fuel) kp233_391 fuel Tryz.f233 [.c (.ptr 0 0),.c (i6 f),.c (i6 g)] [.cells 266 [i6 h,i6 i,i6 j,.bool l,i6 m,i6 n,i6 o,.own 1,i6 p,i6 b,.sl (.int .u8) d],.vec 5 (.int .u8) e false] k=Fg_refine_region_flat_391 fuel a f g h i j l m n o p b d e (fun r=>match r with | (u,v,w,x,y,z,A,B,C,D,q,s,t)=>k (.tup [(false,[.int .u8 u]),(false,[.bool v])],[.cells 266 [i6 w,i6 x,i6 y,.bool z,i6 A,i6 B,i6 C,.own 1,i6 D,i6 q,.sl (.int .u8) s],.vec 5 (.int .u8) t false])):=by
  kernel_rfl
theorem hG233_391 (fuel:Nat):GOK Tryz.prog (G233_391 fuel):=
  gc (ok235 fuel) Tryz.func235 (by kernel_rfl) rfl <|
  gok_nil
theorem B233_391_0_blk (fuel:Nat):BlkOK Tryz.prog Tryz.f233.ntmps (.block 0 (.loop (bodyOf 0 Tryz.f233))) (B233_391_0 fuel):=bo0 (hG233_391 fuel) (by kernel_rfl) (by kernel_rfl) (B233_391_0_ok fuel)
def spg233_391 (F:YF233_391):Ev.Spec:=fun args objs k=>match args,objs with | [.c (.ptr h i),.c (i6 j),.c (i6 l)],[.cells m [i6 n,i6 o,i6 p,.bool q,i6 s,i6 t,i6 u,.own v,i6 w,i6 a,.sl (.int .u8) b],.vec x (.int .u8) d false]=>bif qb [h,i,m,v,x] [0,0,266,1,5] then F j l n o p q s t u w a b d (fun r=>match r with | (y,z,A,B,C,D,E,G,H,I,e,f,g)=>k (.tup [(false,[.int .u8 y]),(false,[.bool z])],[.cells 266 [i6 A,i6 B,i6 C,.bool D,i6 E,i6 G,i6 H,.own 1,i6 I,i6 e,.sl (.int .u8) f],.vec 5 (.int .u8) g false])) else none | _,_=>none
theorem ok233_391 (fuel:Nat):FnOK Tryz.prog 233 (spg233_391 (F_refine_region_flat_391 fuel)):=by
  intro args objs kk r h
  unfold spg233_391 at h
  split at h
  · skip
    obtain ⟨hb,h⟩:=cond_some' h
    cases qb_eq hb
    exact fo1 (hG233_391 fuel) Tryz.func233 rfl (B233_391_0_blk fuel) (by kernel_rfl) _ _ kk r ((F233_391_eqg fuel (F_refine_grid_at fuel) _ _ _ _ _ _ _ _ _ _ _ _ _ kk).trans h)
  · cases h
def kp255_865 (i:Nat):Option (List Nat):=Ev.look i [(8,[0,1,2,3,9,44,45]),(100000,[]),(400000,[8])]
def Gg255_865 (a:YF146_aa3) (d:YF228) (b:YF233_391) (c:YF234_391) (f:Nat):Option Ev.Spec:=Ev.look f [(146,spg146_aa3 a),(228,spg228 d),(233,spg233_391 b),(234,spg234_391 c)]
def G255_865 (fuel:Nat):Nat→Option Ev.Spec:=Gg255_865 (F_coder_Decoder_Get_aa3 fuel) (F_refine_contexts fuel) (F_refine_region_flat_391 fuel) (F_refine_region_context_391 fuel)
abbrev V_refine_region_row_865_0:Type:=Int×Int×Int×Int×Int×Int×Int×Int×Bool×Int×Int×Int×Int×Int×LI×Int×Int×Int×Int×Int×Int×Bool×Bool×LI×LI×LI
abbrev W_refine_region_row_865_0:Type:=(Int×Int×Int×Int×Bool×Int×Int×Int×Int×Int×LI×Int×Int×Int×Int×Int×Int×Bool×Bool×LI×LI×LI→OA)×(Int×Int×Int×Bool×Int×Int×Int×Int×Int×LI×Int×Int×Int×Int×Int×Int×Bool×Bool×LI×LI×LI→OA)
def Sg_refine_region_row_865_0 (fuel:Nat) (G:YF146_aa3) (e1:YF228) (d4:YF233_391) (H:YF234_391) (f d:Int) (r s:Int) (a c9:Int) (d0 d1:Int) (d2:Bool) (d3 e:Int) (c4 c5 c6:Int) (c7:LI) (h i:Int) (j k:Int) (l m:Int) (n o:Bool) (c8 p q:LI) (c:V_refine_region_row_865_0→OA) (B:W_refine_region_row_865_0):OA:=match B with | (ret,b)=>bif decide (a < s) then (d4 a d c9 d0 d1 d2 d3 e c4 c5 c6 c7 c8 (fun (d7,d8,x,y,z,A,C,D,E,F,t,u,g)=>bif r==1 then bif d8 then bif decide (0≤i64.wrap (i64.wrap (d*e)+a)∧i64.wrap (i64.wrap (d*e)+a) < (↑g.length:Int)) then c (f,d,r,s,i64.wrap (a+1),x,y,z,A,C,D,E,F,t,u,h,i,j,k,l,m,n,o,g.set (i64.wrap (i64.wrap (d*e)+a)).toNat d7,p,q) else none else (H a d x y z A C D E F t u g (fun (d9,a6,a7,a8,a9,b0,b1,b2,b3,b4,M,v)=>(G (i64.wrap (f+d9)) h i j k l m n o p q (fun (d5,N,O,P,Q,R,S,T,U,V,I,J)=>bif N != 0 then ret (N,a6,a7,a8,a9,b0,b1,b2,b3,b4,M,O,P,Q,R,S,T,U,V,v,I,J) else bif decide (0≤i64.wrap (i64.wrap (d*e)+a)∧i64.wrap (i64.wrap (d*e)+a) < (↑v.length:Int)) then c (f,d,r,s,i64.wrap (a+1),a6,a7,a8,a9,b0,b1,b2,b3,b4,M,O,P,Q,R,S,T,U,V,v.set (i64.wrap (i64.wrap (d*e)+a)).toNat (u8.wrap d5),I,J) else none)))) else (H a d x y z A C D E F t u g (fun (e0,b5,b6,b7,b8,b9,c0,c1,c2,c3,W,w)=>(G (i64.wrap (f+e0)) h i j k l m n o p q (fun (d6,X,Y,Z,a0,a1,a2,a3,a4,a5,K,L)=>bif X != 0 then ret (X,b5,b6,b7,b8,b9,c0,c1,c2,c3,W,Y,Z,a0,a1,a2,a3,a4,a5,w,K,L) else bif decide (0≤i64.wrap (i64.wrap (d*e)+a)∧i64.wrap (i64.wrap (d*e)+a) < (↑w.length:Int)) then c (f,d,r,s,i64.wrap (a+1),b5,b6,b7,b8,b9,c0,c1,c2,c3,W,Y,Z,a0,a1,a2,a3,a4,a5,w.set (i64.wrap (i64.wrap (d*e)+a)).toNat (u8.wrap d6),K,L) else none)))))) else b (c9,d0,d1,d2,d3,e,c4,c5,c6,c7,h,i,j,k,l,m,n,o,c8,p,q)
def S_refine_region_row_865_0 (fuel:Nat) (v:Int×Int×Int×Int×Int×Int×Int×Int×Bool×Int×Int×Int×Int×Int×(List Int)×Int×Int×Int×Int×Int×Int×Bool×Bool×(List Int)×(List Int)×(List Int)) (c:(Int×Int×Int×Int×Int×Int×Int×Int×Bool×Int×Int×Int×Int×Int×(List Int)×Int×Int×Int×Int×Int×Int×Bool×Bool×(List Int)×(List Int)×(List Int))→Option Ans) (B:(Int×Int×Int×Int×Bool×Int×Int×Int×Int×Int×(List Int)×Int×Int×Int×Int×Int×Int×Bool×Bool×(List Int)×(List Int)×(List Int)→Option Ans)×(Int×Int×Int×Bool×Int×Int×Int×Int×Int×(List Int)×Int×Int×Int×Int×Int×Int×Bool×Bool×(List Int)×(List Int)×(List Int)→Option Ans)):Option Ans:=match v with | (r,s,t,u,w,x,y,z,A,C,a,b,d,e,f,g,h,i,j,k,l,m,n,o,p,q)=>Sg_refine_region_row_865_0 fuel (F_coder_Decoder_Get_aa3 fuel) (F_refine_contexts fuel) (F_refine_region_flat_391 fuel) (F_refine_region_context_391 fuel) r s t u w x y z A C a b d e f g h i j k l m n o p q c B
def L_refine_region_row_865_0 (fuel:Nat) (v:V_refine_region_row_865_0) (ret:(Int×Int×Int×Int×Bool×Int×Int×Int×Int×Int×(List Int)×Int×Int×Int×Int×Int×Int×Bool×Bool×(List Int)×(List Int)×(List Int)→Option Ans)) (b:(Int×Int×Int×Bool×Int×Int×Int×Int×Int×(List Int)×Int×Int×Int×Int×Int×Int×Bool×Bool×(List Int)×(List Int)×(List Int)→Option Ans)):Option Ans:=iter (S_refine_region_row_865_0 fuel) fuel v (ret,b)
def T255_865_0 (v:V_refine_region_row_865_0):Ev.St:=match v with | (r,s,t,u,w,x,y,z,A,B,a,b,d,e,f,g,h,i,j,k,l,m,n,o,p,q)=>⟨[(0,.c (.ptr 0 0)),(1,.c (.ptr 1 0)),(2,.c (i6 r)),(3,.c (i6 s)),(9,.c (i6 t)),(44,.c (i6 u)),(45,.c (i6 w))],[(0,.cells 266 [i6 x,i6 y,i6 z,.bool A,i6 B,i6 a,i6 b,.own 2,i6 d,i6 e,.sl (.int .u8) f]),(1,.cells 194 (i6 g::.own 3::ctb (.int .u64 h::.int .u64 i::.own 4::i6 j::.int .u64 k::i6 l::.bool m::.bool n::[]))),(2,.vec 5 (.int .u8) o false),(3,.vec 3 (.int .i64) p false),(4,.vec 5 (.int .u8) q false)],5,5⟩
def E255_865_0 (K:KT):W_refine_region_row_865_0:=((fun v=>match v with | (m,n,o,p,q,r,s,t,u,w,a,b,d,e,f,g,h,i,j,k,l,x)=>K .ret ⟨[(8,.c (i6 m))],[(0,.cells 266 [i6 n,i6 o,i6 p,.bool q,i6 r,i6 s,i6 t,.own 2,i6 u,i6 w,.sl (.int .u8) a]),(1,.cells 194 (i6 b::.own 3::ctb (.int .u64 d::.int .u64 e::.own 4::i6 f::.int .u64 g::i6 h::.bool i::.bool j::[]))),(2,.vec 5 (.int .u8) k false),(3,.vec 3 (.int .i64) l false),(4,.vec 5 (.int .u8) x false)],5,5⟩),(fun v=>match v with | (m,n,o,p,q,r,s,t,u,w,a,b,d,e,f,g,h,i,j,k,l)=>K .normal ⟨[],[(0,.cells 266 [i6 m,i6 n,i6 o,.bool p,i6 q,i6 r,i6 s,.own 2,i6 t,i6 u,.sl (.int .u8) w]),(1,.cells 194 (i6 a::.own 3::ctb (.int .u64 b::.int .u64 d::.own 4::i6 e::.int .u64 f::i6 g::.bool h::.bool i::[]))),(2,.vec 5 (.int .u8) j false),(3,.vec 3 (.int .i64) k false),(4,.vec 5 (.int .u8) l false)],5,5⟩))
theorem S255_865_0_okg (fuel:Nat) (a:YF146_aa3) (d:YF228) (b:YF233_391) (c:YF234_391) (R:Ev.St→OA) (K:KT) (u w:Int) (x y:Int) (z A:Int) (B C:Int) (D:Bool) (E e:Int) (f g h:Int) (i:LI) (j k:Int) (l m:Int) (n o:Int) (p q:Bool) (r s t:LI):evalCode tab (Gg255_865 a d b c) J0 kp255_865 fuel (bodyOf 0 Tryz.f255) (T255_865_0 (u,w,x,y,z,A,B,C,D,E,e,f,g,h,i,j,k,l,m,n,o,p,q,r,s,t)) (lc kp255_865 8 0 R K)=Sg_refine_region_row_865_0 fuel a d b c u w x y z A B C D E e f g h i j k l m n o p q r s t (fun v=>R (T255_865_0 v)) (E255_865_0 K):=by
  kernel_rfl
def B255_865_0 (fuel:Nat):Ev.Blk:=fun st K=>match canonO (kp255_865 8) st with | some s=>(match s with | ⟨[(J,.c (.ptr L M)),(N,.c (.ptr O P)),(Q,.c (i6 R)),(S,.c (i6 T)),(U,.c (i6 V)),(W,.c (i6 X)),(a,.c (i6 Y))],[(b,.cells d [i6 Z,i6 a0,i6 a1,.bool a2,i6 a3,i6 e,i6 f,.own g,i6 h,i6 i,.sl (.int .u8) j]),(k,.cells l m),(n,.vec o (.int .u8) p false),(q,.vec r (.int .i64) t false),(u,.vec v (.int .u8) w false)],x,y⟩=>(match splitRun 2 ctn m with | some ([i6 z,.own A],[.int .u64 B,.int .u64 C,.own D,i6 E,.int .u64 F,i6 G,.bool H,.bool I])=>bif qb [J,L,M,N,O,P,Q,S,U,W,a,b,d,g,k,l,n,o,q,r,u,v,x,y,A,D] [0,0,0,1,1,0,2,3,9,44,45,0,266,2,1,194,2,5,3,3,4,5,5,5,3,4] then iter (S_refine_region_row_865_0 fuel) fuel (R,T,V,X,Y,Z,a0,a1,a2,a3,e,f,h,i,j,z,B,C,E,F,G,H,I,p,t,w) (E255_865_0 K) else none | _=>none) | _=>none) | none=>none
theorem B255_865_0_ok (fuel:Nat) (st:Ev.St) (K:KT) (r:Ans) (h:B255_865_0 fuel st K=some r):evalCode tab (G255_865 fuel) J0 kp255_865 fuel (.block 0 (.loop (bodyOf 0 Tryz.f255))) st K=some r:=by
  unfold B255_865_0 at h
  split at h
  · rename_i s hs
    split at h
    · skip
      split at h
      rotate_left 1
      · cases h
      rename_i hsp
      have esp:=splitRun_eq hsp
      subst esp
      obtain ⟨hb,h⟩:=cond_some' h
      cases qb_eq hb
      exact blk_loop (S:=T255_865_0) (ks:=E255_865_0) (step:=S_refine_region_row_865_0 fuel) (v:=(_,_,_,_,_,_,_,_,_,_,_,_,_,_,_,_,_,_,_,_,_,_,_,_,_,_)) (by kernel_rfl) (by kernel_rfl) (fun R K v=>by obtain ⟨t,u,w,x,y,z,A,B,C,D,a,b,c,d,e,f,g,i,j,k,l,m,n,o,p,q⟩:=v; exact S255_865_0_okg fuel (F_coder_Decoder_Get_aa3 fuel) (F_refine_contexts fuel) (F_refine_region_flat_391 fuel) (F_refine_region_context_391 fuel) R K t u w x y z A B C D a b c d e f g i j k l m n o p q) hs h
    · cases h
  · cases h
def J255_865 (fuel:Nat) (i:Nat):Option Ev.Blk:=Ev.look i [(100000,B255_865_0 fuel)]
def Fg_refine_region_row_865 (fuel:Nat) (a3:YF146_aa3) (a4:YF228) (a7:YF233_391) (a8:YF234_391) (B a2:Int) (b C D:Int) (c:Bool) (E a:Int) (F G y:Int) (z:LI) (S T:Int) (U V:Int) (W X:Int) (Y Z:Bool) (A a0 a1:LI) (k0:(Int×Int×Int×Int×Bool×Int×Int×Int×Int×Int×LI×Int×Int×Int×Int×Int×Int×Bool×Bool×LI×LI×LI)→OA):OA:=bif c then (a4 b (fun a6=>(a3 (i64.wrap (B+a6)) S T U V W X Y Z a0 a1 (fun (a5,J,K,L,M,N,O,P,Q,R,H,I)=>bif J != 0 then k0 (J,b,C,D,c,E,a,F,G,y,z,K,L,M,N,O,P,Q,R,A,H,I) else (L_refine_region_row_865_0 fuel (B,a2,a5,a,0,b,C,D,c,E,a,F,G,y,z,K,L,M,N,O,P,Q,R,A,H,I) (fun (ret0_0,ret0_1,ret0_2,ret0_3,ret0_4,ret0_5,ret0_6,ret0_7,ret0_8,ret0_9,ret0_10,ret0_11,ret0_12,ret0_13,ret0_14,ret0_15,ret0_16,ret0_17,ret0_18,ret0_19,ret0_20,ret0_21)=>k0 (ret0_0,ret0_1,ret0_2,ret0_3,ret0_4,ret0_5,ret0_6,ret0_7,ret0_8,ret0_9,ret0_10,ret0_11,ret0_12,ret0_13,ret0_14,ret0_15,ret0_16,ret0_17,ret0_18,ret0_19,ret0_20,ret0_21)) (fun (o,p,q,r,s,t,u,v,w,x,d,e,f,g,h,i,j,k,l,m,n)=>k0 (0,o,p,q,r,s,t,u,v,w,x,d,e,f,g,h,i,j,k,l,m,n))))))) else (L_refine_region_row_865_0 fuel (B,a2,0,a,0,b,C,D,c,E,a,F,G,y,z,S,T,U,V,W,X,Y,Z,A,a0,a1) (fun (ret0_0,ret0_1,ret0_2,ret0_3,ret0_4,ret0_5,ret0_6,ret0_7,ret0_8,ret0_9,ret0_10,ret0_11,ret0_12,ret0_13,ret0_14,ret0_15,ret0_16,ret0_17,ret0_18,ret0_19,ret0_20,ret0_21)=>k0 (ret0_0,ret0_1,ret0_2,ret0_3,ret0_4,ret0_5,ret0_6,ret0_7,ret0_8,ret0_9,ret0_10,ret0_11,ret0_12,ret0_13,ret0_14,ret0_15,ret0_16,ret0_17,ret0_18,ret0_19,ret0_20,ret0_21)) (fun (o,p,q,r,s,t,u,v,w,x,d,e,f,g,h,i,j,k,l,m,n)=>k0 (0,o,p,q,r,s,t,u,v,w,x,d,e,f,g,h,i,j,k,l,m,n)))
abbrev YF255_865:Type:=Int→Int→Int→Int→Int→Bool→Int→Int→Int→Int→Int→LI→Int→Int→Int→Int→Int→Int→Bool→Bool→LI→LI→LI→((Int×Int×Int×Int×Bool×Int×Int×Int×Int×Int×LI×Int×Int×Int×Int×Int×Int×Bool×Bool×LI×LI×LI)→Option Ans)→Option Ans
def F_refine_region_row_865 (fuel:Nat):YF255_865:=Fg_refine_region_row_865 fuel (F_coder_Decoder_Get_aa3 fuel) (F_refine_contexts fuel) (F_refine_region_flat_391 fuel) (F_refine_region_context_391 fuel)
theorem F255_865_eqg (fuel:Nat) (a:YF146_aa3) (e:YF228) (b:YF233_391) (d:YF234_391) (u v:Int) (w x y:Int) (z:Bool) (A B:Int) (C D f:Int) (g:LI) (h i:Int) (j l:Int) (m n:Int) (o p:Bool) (q s t:LI) (k:Ev.Cont):evalFn tab (Gg255_865 a e b d) (J255_865 fuel) kp255_865 fuel Tryz.f255 [.c (.ptr 0 0),.c (.ptr 1 0),.c (i6 u),.c (i6 v)] [.cells 266 [i6 w,i6 x,i6 y,.bool z,i6 A,i6 B,i6 C,.own 2,i6 D,i6 f,.sl (.int .u8) g],.cells 194 (i6 h::.own 3::ctb (.int .u64 i::.int .u64 j::.own 4::i6 l::.int .u64 m::i6 n::.bool o::.bool p::[])),.vec 5 (.int .u8) q false,.vec 3 (.int .i64) s false,.vec 5 (.int .u8) t false] k=Fg_refine_region_row_865 fuel a e b d u v w x y z A B C D f g h i j l m n o p q s t (fun r=>match r with | (Q,R,S,T,U,V,W,X,Y,Z,E,F,G,H,I,J,K,L,M,N,O,P)=>k (.c (i6 Q),[.cells 266 [i6 R,i6 S,i6 T,.bool U,i6 V,i6 W,i6 X,.own 2,i6 Y,i6 Z,.sl (.int .u8) E],.cells 194 (i6 F::.own 3::ctb (.int .u64 G::.int .u64 H::.own 4::i6 I::.int .u64 J::i6 K::.bool L::.bool M::[])),.vec 5 (.int .u8) N false,.vec 3 (.int .i64) O false,.vec 5 (.int .u8) P false])):=by
  kernel_rfl
theorem hG255_865 (fuel:Nat):GOK Tryz.prog (G255_865 fuel):=
  gc (ok146_aa3 fuel) Tryz.func146 (by kernel_rfl) rfl <|
  gc (ok228 fuel) Tryz.func228 (by kernel_rfl) rfl <|
  gc (ok233_391 fuel) Tryz.func233 (by kernel_rfl) rfl <|
  gc (ok234_391 fuel) Tryz.func234 (by kernel_rfl) rfl <|
  gok_nil
theorem B255_865_0_blk (fuel:Nat):BlkOK Tryz.prog Tryz.f255.ntmps (.block 0 (.loop (bodyOf 0 Tryz.f255))) (B255_865_0 fuel):=bo0 (hG255_865 fuel) (by kernel_rfl) (by kernel_rfl) (B255_865_0_ok fuel)
def spg255_865 (F:YF255_865):Ev.Spec:=fun args objs k=>match args,objs with | [.c (.ptr G H),.c (.ptr I J),.c (i6 K),.c (i6 L)],[.cells M [i6 N,i6 O,i6 P,.bool Q,i6 R,i6 S,i6 T,.own U,i6 V,i6 a,.sl (.int .u8) b],.cells W d,.vec X (.int .u8) e false,.vec Y (.int .i64) f false,.vec Z (.int .u8) g false]=>(match splitRun 2 ctn d with | some ([i6 h,.own i],[.int .u64 j,.int .u64 l,.own m,i6 n,.int .u64 o,i6 p,.bool q,.bool s])=>bif qb [G,H,I,J,M,U,W,X,Y,Z,i,m] [0,0,1,0,266,2,194,5,3,5,3,4] then F K L N O P Q R S T V a b h j l n o p q s e f g (fun r=>match r with | (a0,a1,a2,a3,a4,a5,a6,a7,a8,a9,t,u,v,w,x,y,z,A,B,C,D,E)=>k (.c (i6 a0),[.cells 266 [i6 a1,i6 a2,i6 a3,.bool a4,i6 a5,i6 a6,i6 a7,.own 2,i6 a8,i6 a9,.sl (.int .u8) t],.cells 194 (i6 u::.own 3::ctb (.int .u64 v::.int .u64 w::.own 4::i6 x::.int .u64 y::i6 z::.bool A::.bool B::[])),.vec 5 (.int .u8) C false,.vec 3 (.int .i64) D false,.vec 5 (.int .u8) E false])) else none | _=>none) | _,_=>none
theorem ok255_865 (fuel:Nat):FnOK Tryz.prog 255 (spg255_865 (F_refine_region_row_865 fuel)):=by
  intro args objs kk r h
  unfold spg255_865 at h
  split at h
  · skip
    split at h
    rotate_left 1
    · cases h
    rename_i hsp
    have esp:=splitRun_eq hsp
    subst esp
    obtain ⟨hb,h⟩:=cond_some' h
    cases qb_eq hb
    exact fo1 (hG255_865 fuel) Tryz.func255 rfl (B255_865_0_blk fuel) (by kernel_rfl) _ _ kk r ((F255_865_eqg fuel (F_coder_Decoder_Get_aa3 fuel) (F_refine_contexts fuel) (F_refine_region_flat_391 fuel) (F_refine_region_context_391 fuel) _ _ _ _ _ _ _ _ _ _ _ _ _ _ _ _ _ _ _ _ _ _ _ kk).trans h)
  · cases h
def kp251_fd3 (i:Nat):Option (List Nat):=Ev.look i [(13,[0,1,3,4,12,18,64,65]),(100000,[3,4,12,18]),(200009,[8]),(200011,[8,11]),(400000,[12,13]),(600000,[])]
def Gg251_fd3 (e:YF105) (g:YF122) (a:YF146_aa3) (b:YF147_40a) (h:YF229) (i:YF230) (c:YF231_adf) (d:YF255_865) (f:Nat):Option Ev.Spec:=Ev.look f [(105,spg105 e),(122,spg122 g),(146,spg146_aa3 a),(147,spg147_40a b),(229,spg229 h),(230,spg230 i),(1000231,spg231_adf c),(255,spg255_865 d)]
def G251_fd3 (fuel:Nat):Nat→Option Ev.Spec:=Gg251_fd3 (F_bitmap_New fuel) (F_bitmap_Valid fuel) (F_coder_Decoder_Get_aa3 fuel) (F_coder_Decoder_Model_40a fuel) (F_refine_Valid fuel) (F_refine_fits fuel) (F_refine_newRegion_adf fuel) (F_refine_region_row_865 fuel)
abbrev V_refine_Get_fd3_0:Type:=Int×Int×Int×Int×Int×Int×Int×Int×Int×Int×Int×Bool×Bool×LI×LI×Int×Int×Int×Int×Int×Bool×Int×Int×Int×Int×Int×LI×LI×LI
abbrev W_refine_Get_fd3_0:Type:=(Int×Int×Int×Int×Int×Int×Int×Bool×Bool×LI×LI×Int×Int×LI→OA)×(Int×Int×Int×Int×Int×Int×Int×Int×Bool×Bool×LI×LI×Int×Int×Int×Int×Int×Bool×Int×Int×Int×Int×Int×LI×LI×LI→OA)
def Sg_refine_Get_fd3_0 (fuel:Nat) (a6:YF105) (a7:YF122) (a3:YF146_aa3) (a4:YF147_40a) (a8:YF229) (a9:YF230) (a5:YF231_adf) (R:YF255_865) (I J:Int) (K L:Int) (a M:Int) (N O:Int) (P Q o:Int) (p q:Bool) (r s:LI) (t u:Int) (v w x:Int) (y:Bool) (z A:Int) (C D E:Int) (F G H:LI) (c:V_refine_Get_fd3_0→OA) (B:W_refine_Get_fd3_0):OA:=match B with | (ret,b)=>bif decide (a < L) then (R I a v w x y z A C D E F M N O P Q o p q H r s (fun (n,U,V,W,X,Y,Z,a0,a1,a2,S,d,e,f,g,h,i,j,k,T,l,m)=>bif n != 0 then ret (n,d,e,f,g,h,i,j,k,l,m,0,0,[]) else c (I,J,K,L,i64.wrap (a+1),d,e,f,g,h,i,j,k,l,m,t,u,U,V,W,X,Y,Z,a0,a1,a2,S,G,T))) else b (J,K,M,N,O,P,Q,o,p,q,r,s,t,u,v,w,x,y,z,A,C,D,E,F,G,H)
def S_refine_Get_fd3_0 (fuel:Nat) (v:Int×Int×Int×Int×Int×Int×Int×Int×Int×Int×Int×Bool×Bool×(List Int)×(List Int)×Int×Int×Int×Int×Int×Bool×Int×Int×Int×Int×Int×(List Int)×(List Int)×(List Int)) (c:(Int×Int×Int×Int×Int×Int×Int×Int×Int×Int×Int×Bool×Bool×(List Int)×(List Int)×Int×Int×Int×Int×Int×Bool×Int×Int×Int×Int×Int×(List Int)×(List Int)×(List Int))→Option Ans) (B:(Int×Int×Int×Int×Int×Int×Int×Bool×Bool×(List Int)×(List Int)×Int×Int×(List Int)→Option Ans)×(Int×Int×Int×Int×Int×Int×Int×Int×Bool×Bool×(List Int)×(List Int)×Int×Int×Int×Int×Int×Bool×Int×Int×Int×Int×Int×(List Int)×(List Int)×(List Int)→Option Ans)):Option Ans:=match v with | (u,w,x,y,z,A,C,D,E,F,a,b,d,e,f,g,h,i,j,k,l,m,n,o,p,q,r,s,t)=>Sg_refine_Get_fd3_0 fuel (F_bitmap_New fuel) (F_bitmap_Valid fuel) (F_coder_Decoder_Get_aa3 fuel) (F_coder_Decoder_Model_40a fuel) (F_refine_Valid fuel) (F_refine_fits fuel) (F_refine_newRegion_adf fuel) (F_refine_region_row_865 fuel) u w x y z A C D E F a b d e f g h i j k l m n o p q r s t c B
def L_refine_Get_fd3_0 (fuel:Nat) (v:V_refine_Get_fd3_0) (ret:(Int×Int×Int×Int×Int×Int×Int×Bool×Bool×(List Int)×(List Int)×Int×Int×(List Int)→Option Ans)) (b:(Int×Int×Int×Int×Int×Int×Int×Int×Bool×Bool×(List Int)×(List Int)×Int×Int×Int×Int×Int×Bool×Int×Int×Int×Int×Int×(List Int)×(List Int)×(List Int)→Option Ans)):Option Ans:=iter (S_refine_Get_fd3_0 fuel) fuel v (ret,b)
def T251_fd3_0 (v:V_refine_Get_fd3_0):Ev.St:=match v with | (u,w,x,y,z,A,B,C,D,E,a,b,d,e,f,g,h,i,j,k,l,m,n,o,p,q,r,s,t)=>⟨[(0,.c (.ptr 0 0)),(1,.c (i6 u)),(3,.c (i6 w)),(4,.c (i6 x)),(12,.c (.ptr 3 0)),(18,.c (.ptr 4 0)),(64,.c (i6 y)),(65,.c (i6 z))],[(0,.cells 194 (i6 A::.own 1::ctb (.int .u64 B::.int .u64 C::.own 2::i6 D::.int .u64 E::i6 a::.bool b::.bool d::[]))),(1,.vec 3 (.int .i64) e false),(2,.vec 5 (.int .u8) f false),(3,.cells 51 [i6 g,i6 h,.own 5]),(4,.cells 266 [i6 i,i6 j,i6 k,.bool l,i6 m,i6 n,i6 o,.own 6,i6 p,i6 q,.sl (.int .u8) r]),(5,.vec 5 (.int .u8) s true),(6,.vec 5 (.int .u8) t true)],7,3⟩
def E251_fd3_0 (K:KT):W_refine_Get_fd3_0:=((fun v=>match v with | (f,g,h,i,j,k,l,m,n,o,a,b,d,e)=>K .ret ⟨[(12,.c (.ptr 3 0)),(13,.c (i6 f))],[(0,.cells 194 (i6 g::.own 1::ctb (.int .u64 h::.int .u64 i::.own 2::i6 j::.int .u64 k::i6 l::.bool m::.bool n::[]))),(1,.vec 3 (.int .i64) o false),(2,.vec 5 (.int .u8) a false),(3,.cells 51 [i6 b,i6 d,.own 4]),(4,.vec 5 (.int .u8) e true)],5,3⟩),(fun v=>match v with | (f,g,h,i,j,k,l,m,n,o,a,b,d,e,p,q,r,s,t,u,w,x,y,z,A,B)=>K .normal ⟨[(3,.c (i6 f)),(4,.c (i6 g)),(12,.c (.ptr 3 0)),(18,.c (.ptr 4 0))],[(0,.cells 194 (i6 h::.own 1::ctb (.int .u64 i::.int .u64 j::.own 2::i6 k::.int .u64 l::i6 m::.bool n::.bool o::[]))),(1,.vec 3 (.int .i64) a false),(2,.vec 5 (.int .u8) b false),(3,.cells 51 [i6 d,i6 e,.own 5]),(4,.cells 266 [i6 p,i6 q,i6 r,.bool s,i6 t,i6 u,i6 w,.own 6,i6 x,i6 y,.sl (.int .u8) z]),(5,.vec 5 (.int .u8) A true),(6,.vec 5 (.int .u8) B true)],7,3⟩))
theorem S251_fd3_0_okg (fuel:Nat) (e:YF105) (f:YF122) (a:YF146_aa3) (b:YF147_40a) (g:YF229) (h:YF230) (c:YF231_adf) (d:YF255_865) (R:Ev.St→OA) (K:KT) (C D:Int) (E F:Int) (G H:Int) (I J:Int) (L M i:Int) (j k:Bool) (l m:LI) (n o:Int) (p q r:Int) (s:Bool) (t u:Int) (w x y:Int) (z A B:LI):evalCode tab (Gg251_fd3 e f a b g h c d) J0 kp251_fd3 fuel (bodyOf 0 Tryz.f251) (T251_fd3_0 (C,D,E,F,G,H,I,J,L,M,i,j,k,l,m,n,o,p,q,r,s,t,u,w,x,y,z,A,B)) (lc kp251_fd3 13 0 R K)=Sg_refine_Get_fd3_0 fuel e f a b g h c d C D E F G H I J L M i j k l m n o p q r s t u w x y z A B (fun v=>R (T251_fd3_0 v)) (E251_fd3_0 K):=by
  kernel_rfl
def B251_fd3_0 (fuel:Nat):Ev.Blk:=fun st K=>match canonO (kp251_fd3 13) st with | some s=>(match s with | ⟨[(V,.c (.ptr W X)),(Y,.c (i6 Z)),(a0,.c (i6 a1)),(a2,.c (i6 a3)),(a4,.c (.ptr a5 a6)),(a7,.c (.ptr a b)),(d,.c (i6 a8)),(e,.c (i6 a9))],[(f,.cells g h),(i,.vec j (.int .i64) k false),(l,.vec m (.int .u8) n false),(o,.cells p [i6 q,i6 r,.own t]),(u,.cells v [i6 w,i6 x,i6 y,.bool z,i6 A,i6 B,i6 C,.own D,i6 E,i6 F,.sl (.int .u8) G]),(H,.vec I (.int .u8) J true),(L,.vec M (.int .u8) N true)],O,P⟩=>(match splitRun 2 ctn h with | some ([i6 b0,.own Q],[.int .u64 b1,.int .u64 b2,.own R,i6 b3,.int .u64 b4,i6 S,.bool T,.bool U])=>bif qb [V,W,X,Y,a0,a2,a4,a5,a6,a7,a,b,d,e,f,g,i,j,l,m,o,p,t,u,v,D,H,I,L,M,O,P,Q,R] [0,0,0,1,3,4,12,3,0,18,4,0,64,65,0,194,1,3,2,5,3,51,5,4,266,6,5,5,6,5,7,3,1,2] then iter (S_refine_Get_fd3_0 fuel) fuel (Z,a1,a3,a8,a9,b0,b1,b2,b3,b4,S,T,U,k,n,q,r,w,x,y,z,A,B,C,E,F,G,J,N) (E251_fd3_0 K) else none | _=>none) | _=>none) | none=>none
theorem B251_fd3_0_ok (fuel:Nat) (st:Ev.St) (K:KT) (r:Ans) (h:B251_fd3_0 fuel st K=some r):evalCode tab (G251_fd3 fuel) J0 kp251_fd3 fuel (.block 0 (.loop (bodyOf 0 Tryz.f251))) st K=some r:=by
  unfold B251_fd3_0 at h
  split at h
  · rename_i s hs
    split at h
    · skip
      split at h
      rotate_left 1
      · cases h
      rename_i hsp
      have esp:=splitRun_eq hsp
      subst esp
      obtain ⟨hb,h⟩:=cond_some' h
      cases qb_eq hb
      exact blk_loop (S:=T251_fd3_0) (ks:=E251_fd3_0) (step:=S_refine_Get_fd3_0 fuel) (v:=(_,_,_,_,_,_,_,_,_,_,_,_,_,_,_,_,_,_,_,_,_,_,_,_,_,_,_,_,_)) (by kernel_rfl) (by kernel_rfl) (fun R K v=>by obtain ⟨x,y,z,A,B,C,D,E,F,G,a,b,c,d,e,f,g,i,j,k,l,m,n,o,p,q,t,u,w⟩:=v; exact S251_fd3_0_okg fuel (F_bitmap_New fuel) (F_bitmap_Valid fuel) (F_coder_Decoder_Get_aa3 fuel) (F_coder_Decoder_Model_40a fuel) (F_refine_Valid fuel) (F_refine_fits fuel) (F_refine_newRegion_adf fuel) (F_refine_region_row_865 fuel) R K x y z A B C D E F G a b c d e f g i j k l m n o p q t u w) hs h
    · cases h
  · cases h
def J251_fd3 (fuel:Nat) (i:Nat):Option Ev.Blk:=Ev.look i [(100000,B251_fd3_0 fuel)]
def Fg_refine_Get_fd3 (fuel:Nat) (a0:YF105) (a1:YF122) (G:YF146_aa3) (H:YF147_40a) (a2:YF229) (a3:YF230) (I:YF231_adf) (c7:YF255_865) (D m:Int) (n o:Int) (p:Bool) (q b:Int) (a E F:Int) (C:LI) (b4 b5:Int) (b6 b7:Int) (b8 b9:Int) (c0 c1:Bool) (c2 c3:LI) (k0:(Int×Int×LI×Int×Int×Int×Int×Int×Int×Int×Bool×Bool×LI×LI)→OA):OA:=(G ((-1:Int)) b4 b5 b6 b7 b8 b9 c0 c1 c2 c3 (fun (e4,B,e,f,g,h,i,j,k,l,c,d)=>bif B==7 then k0 (0,0,[],B,e,f,g,h,i,j,k,l,c,d) else (a2 m n o p q (fun c6=>bif !c6 then k0 (0,0,[],2,e,f,g,h,i,j,k,l,c,d) else (a0 b a (0) (fun (c8,c9,L,d0)=>bif L != 0 then k0 (0,0,[],30,e,f,g,h,i,j,k,l,c,d) else (a1 E F C (fun c4=>bif !c4 then k0 (0,0,[],30,e,f,g,h,i,j,k,l,c,d) else (H e f g h i j k l c d (fun (M,s,t,u,v,w,x,y,z,A,r,J)=>(a3 M J D m n o p q (fun c5=>bif !c5 then k0 (0,0,[],2,s,t,u,v,w,x,y,z,A,r) else bif decide (0≤i64.wrap (b*a)∧i64.wrap (b*a)=i64.wrap (b*a)∧(↑(1:Nat):Int)*i64.wrap (b*a)≤281474976710656∧i64.wrap (b*a)≤281474976710656) then (I m n o p q b a E F C (List.replicate (i64.wrap (b*a)).toNat (0:Int)) (fun (N,O,P,Q,R,S,T,U,V,W,K)=>(L_refine_Get_fd3_0 fuel (D,b,a,a,0,s,t,u,v,w,x,y,z,A,r,0,0,O,P,Q,R,S,T,U,V,W,K,[],N) (fun (ret0_0,ret0_1,ret0_2,ret0_3,ret0_4,ret0_5,ret0_6,ret0_7,ret0_8,ret0_9,ret0_10,ret0_11,ret0_12,ret0_13)=>k0 (ret0_11,ret0_12,ret0_13,ret0_0,ret0_1,ret0_2,ret0_3,ret0_4,ret0_5,ret0_6,ret0_7,ret0_8,ret0_9,ret0_10)) (fun (a4,a5,a6,a7,a8,a9,b0,b1,b2,b3,X,Y,d1,d2,d3,d4,d5,d6,d7,d8,d9,e0,e1,e2,e3,Z)=>k0 (a4,a5,Z,0,a6,a7,a8,a9,b0,b1,b2,b3,X,Y))))) else none))))))))))))
abbrev YF251_fd3:Type:=Int→Int→Int→Int→Bool→Int→Int→Int→Int→Int→LI→Int→Int→Int→Int→Int→Int→Bool→Bool→LI→LI→((Int×Int×LI×Int×Int×Int×Int×Int×Int×Int×Bool×Bool×LI×LI)→Option Ans)→Option Ans
def F_refine_Get_fd3 (fuel:Nat):YF251_fd3:=Fg_refine_Get_fd3 fuel (F_bitmap_New fuel) (F_bitmap_Valid fuel) (F_coder_Decoder_Get_aa3 fuel) (F_coder_Decoder_Model_40a fuel) (F_refine_Valid fuel) (F_refine_fits fuel) (F_refine_newRegion_adf fuel) (F_refine_region_row_865 fuel)
theorem F251_fd3_eqg (fuel:Nat) (f:YF105) (g:YF122) (a:YF146_aa3) (b:YF147_40a) (h:YF229) (i:YF230) (d:YF231_adf) (e:YF255_865) (w x:Int) (y z:Int) (A:Bool) (B C:Int) (D E F:Int) (j:LI) (l m:Int) (n o:Int) (p q:Int) (s t:Bool) (u v:LI) (k:Ev.Cont):evalFn tab (Gg251_fd3 f g a b h i d e) (J251_fd3 fuel) kp251_fd3 fuel Tryz.f251 [.c (.ptr 0 0),.c (i6 w),.agg [i6 x,i6 y,i6 z,.bool A,i6 B],.c (i6 C),.c (i6 D),.agg [i6 E,i6 F,.sl (.int .u8) j]] [.cells 194 (i6 l::.own 1::ctb (.int .u64 m::.int .u64 n::.own 2::i6 o::.int .u64 p::i6 q::.bool s::.bool t::[])),.vec 3 (.int .i64) u false,.vec 5 (.int .u8) v false] k=Fg_refine_Get_fd3 fuel f g a b h i d e w x y z A B C D E F j l m n o p q s t u v (fun r=>match r with | (K,L,M,N,O,P,Q,R,S,T,G,H,I,J)=>k (.tup [(true,[i6 K,i6 L,.sl (.int .u8) M]),(false,[i6 N])],[.cells 194 (i6 O::.own 1::ctb (.int .u64 P::.int .u64 Q::.own 2::i6 R::.int .u64 S::i6 T::.bool G::.bool H::[])),.vec 3 (.int .i64) I false,.vec 5 (.int .u8) J false])):=by
  kernel_rfl
theorem hG251_fd3 (fuel:Nat):GOK Tryz.prog (G251_fd3 fuel):=
  gc (ok105 fuel) Tryz.func105 (by kernel_rfl) rfl <|
  gc (ok122 fuel) Tryz.func122 (by kernel_rfl) rfl <|
  gc (ok146_aa3 fuel) Tryz.func146 (by kernel_rfl) rfl <|
  gc (ok147_40a fuel) Tryz.func147 (by kernel_rfl) rfl <|
  gc (ok229 fuel) Tryz.func229 (by kernel_rfl) rfl <|
  gc (ok230 fuel) Tryz.func230 (by kernel_rfl) rfl <|
  gc (ok231_adf fuel) Tryz.func231 (by kernel_rfl) rfl <|
  gc (ok255_865 fuel) Tryz.func255 (by kernel_rfl) rfl <|
  gok_nil
theorem B251_fd3_0_blk (fuel:Nat):BlkOK Tryz.prog Tryz.f251.ntmps (.block 0 (.loop (bodyOf 0 Tryz.f251))) (B251_fd3_0 fuel):=bo0 (hG251_fd3 fuel) (by kernel_rfl) (by kernel_rfl) (B251_fd3_0_ok fuel)
def spg251_fd3 (F:YF251_fd3):Ev.Spec:=fun args objs k=>match args,objs with | [.c (.ptr t u),.c (i6 v),.agg [i6 w,i6 x,i6 y,.bool z,i6 A],.c (i6 B),.c (i6 C),.agg [i6 D,i6 E,.sl (.int .u8) a]],[.cells G b,.vec H (.int .i64) d false,.vec I (.int .u8) e false]=>(match splitRun 2 ctn b with | some ([i6 f,.own J],[.int .u64 g,.int .u64 h,.own K,i6 i,.int .u64 j,i6 l,.bool m,.bool n])=>bif qb [t,u,G,H,I,J,K] [0,0,194,3,5,1,2] then F v w x y z A B C D E a f g h i j l m n d e (fun r=>match r with | (L,M,N,O,P,Q,R,S,T,U,o,p,q,s)=>k (.tup [(true,[i6 L,i6 M,.sl (.int .u8) N]),(false,[i6 O])],[.cells 194 (i6 P::.own 1::ctb (.int .u64 Q::.int .u64 R::.own 2::i6 S::.int .u64 T::i6 U::.bool o::.bool p::[])),.vec 3 (.int .i64) q false,.vec 5 (.int .u8) s false])) else none | _=>none) | _,_=>none
theorem ok251_fd3 (fuel:Nat):FnOK Tryz.prog 251 (spg251_fd3 (F_refine_Get_fd3 fuel)):=by
  intro args objs kk r h
  unfold spg251_fd3 at h
  split at h
  · skip
    split at h
    rotate_left 1
    · cases h
    rename_i hsp
    have esp:=splitRun_eq hsp
    subst esp
    obtain ⟨hb,h⟩:=cond_some' h
    cases qb_eq hb
    exact fo1 (hG251_fd3 fuel) Tryz.func251 rfl (B251_fd3_0_blk fuel) (by kernel_rfl) _ _ kk r ((F251_fd3_eqg fuel (F_bitmap_New fuel) (F_bitmap_Valid fuel) (F_coder_Decoder_Get_aa3 fuel) (F_coder_Decoder_Model_40a fuel) (F_refine_Valid fuel) (F_refine_fits fuel) (F_refine_newRegion_adf fuel) (F_refine_region_row_865 fuel) _ _ _ _ _ _ _ _ _ _ _ _ _ _ _ _ _ _ _ _ _ kk).trans h)
  · cases h
def kp168 (i:Nat):Option (List Nat):=Ev.look i []
def Gg168 (f:Nat):Option Ev.Spec:=Ev.look f []
def G168 (fuel:Nat):Nat→Option Ev.Spec:=Gg168
def F_text_layout_options (fuel:Nat) (f g:Int) (h:Bool) (i j c:Int) (k:Bool) (d l:Int) (m e:Int) (a b:Int) (k0:(Int×Int×Int×Bool×Int)→Option Ans):Option Ans:=k0 (d,a,b,false,c)
abbrev YF168:Type:=Int→Int→Bool→Int→Int→Int→Bool→Int→Int→Int→Int→Int→Int→((Int×Int×Int×Bool×Int)→Option Ans)→Option Ans
theorem F168_eq (fuel:Nat) (e f:Int) (g:Bool) (h i j:Int) (l:Bool) (m n:Int) (o a:Int) (b d:Int) (k:Ev.Cont):evalFn tab (G168 fuel) J0 kp168 fuel Tryz.f168 [.agg [i6 e,i6 f,.bool g,i6 h,i6 i,i6 j,.bool l,i6 m,i6 n,i6 o,i6 a],.c (i6 b),.c (i6 d)] [] k=F_text_layout_options fuel e f g h i j l m n o a b d (fun r=>match r with | (p,q,s,t,u)=>k (.agg [i6 p,i6 q,i6 s,.bool t,i6 u],[])):=by
  kernel_rfl
theorem hG168 (fuel:Nat):GOK Tryz.prog (G168 fuel):=
  gok_nil
def spg168 (F:YF168):Ev.Spec:=fun args objs k=>match args,objs with | [.agg [i6 e,i6 f,.bool g,i6 h,i6 i,i6 j,.bool l,i6 m,i6 n,i6 o,i6 a],.c (i6 b),.c (i6 d)],[]=>F e f g h i j l m n o a b d (fun r=>match r with | (p,q,s,t,u)=>k (.agg [i6 p,i6 q,i6 s,.bool t,i6 u],[])) | _,_=>none
theorem ok168 (fuel:Nat):FnOK Tryz.prog 168 (spg168 (F_text_layout_options fuel)):=by
  intro args objs kk r h
  unfold spg168 at h
  split at h
  · skip
    exact fo0 (hG168 fuel) Tryz.func168 rfl (by kernel_rfl) _ _ kk r ((F168_eq fuel _ _ _ _ _ _ _ _ _ _ _ _ _ kk).trans h)
  · cases h
def kp94_b14 (i:Nat):Option (List Nat):=Ev.look i []
def Gg94_b14 (a:YF91_e4a) (b:YF92_91e) (f:Nat):Option Ev.Spec:=Ev.look f [(91,spg91_e4a a),(92,spg92_91e b)]
def G94_b14 (fuel:Nat):Nat→Option Ev.Spec:=Gg94_b14 (F_text_reader_num_e4a fuel) (F_text_reader_check_91e fuel)
def Fg_text_reader_within_b14 (fuel:Nat) (a1:YF91_e4a) (c:YF92_91e) (e8 b:Int) (e9 g0:Int) (g1 g2:Int) (g3:Bool) (g4 g5 g6:Int) (c9:Bool) (d0 d1:Int) (d2 d3:Int) (d4:(List (Int×(Int×LI)))) (d5 d6:Int) (d7 d8:Int) (d9 e0:Int) (e1 e2:Int) (e3 e4:Bool) (e5:(List (Int×(Int×(Int×(Bool×(Int×(Int×(Int×(Int×LI)))))))))) (e6 e7:LI) (k0:(Int×Int×Int×Bool×Int×Int×Int×Bool×Int×Int×Int×Int×(List (Int×(Int×LI)))×Int×Int×Int×Int×Int×Int×Int×Int×Bool×Bool×(List (Int×(Int×(Int×(Bool×(Int×(Int×(Int×(Int×LI)))))))))×LI×LI)→OA):OA:=(a1 e8 g1 g2 g3 g4 g5 g6 c9 d0 d1 d2 d3 d4 d5 d6 d7 d8 d9 e0 e1 e2 e3 e4 e5 e6 e7 (fun (b8,a,K,L,M,N,O,P,Q,R,d,e,f,g,h,i,j,k,l,m,n,o,p,q,r,s,t)=>bif !b8 then bif decide (i64.wrap (a+b)≥e9) then (c (decide (i64.wrap (a+b)≤g0)) K L M N O P Q R d e f g h i j k l m n o p q r s t (fun (b9,S,T,U,V,W,X,Y,Z,a0,u,v,w,x,y,z,A,B,C,D,E,F,G,H,I,J)=>k0 (i64.wrap (a+b),S,T,U,V,W,X,Y,Z,a0,u,v,w,x,y,z,A,B,C,D,E,F,G,H,I,J))) else (c (false) K L M N O P Q R d e f g h i j k l m n o p q r s t (fun (b9,S,T,U,V,W,X,Y,Z,a0,u,v,w,x,y,z,A,B,C,D,E,F,G,H,I,J)=>k0 (i64.wrap (a+b),S,T,U,V,W,X,Y,Z,a0,u,v,w,x,y,z,A,B,C,D,E,F,G,H,I,J))) else (c (false) K L M N O P Q R d e f g h i j k l m n o p q r s t (fun (g7,c0,c1,c2,c3,c4,c5,c6,c7,c8,a2,a3,a4,a5,a6,a7,a8,a9,b0,b1,b2,b3,b4,b5,b6,b7)=>k0 (i64.wrap (a+b),c0,c1,c2,c3,c4,c5,c6,c7,c8,a2,a3,a4,a5,a6,a7,a8,a9,b0,b1,b2,b3,b4,b5,b6,b7)))))
abbrev YF94_b14:Type:=Int→Int→Int→Int→Int→Int→Bool→Int→Int→Int→Bool→Int→Int→Int→Int→((List (Int×(Int×LI))))→Int→Int→Int→Int→Int→Int→Int→Int→Bool→Bool→((List (Int×(Int×(Int×(Bool×(Int×(Int×(Int×(Int×LI))))))))))→LI→LI→((Int×Int×Int×Bool×Int×Int×Int×Bool×Int×Int×Int×Int×(List (Int×(Int×LI)))×Int×Int×Int×Int×Int×Int×Int×Int×Bool×Bool×(List (Int×(Int×(Int×(Bool×(Int×(Int×(Int×(Int×LI)))))))))×LI×LI)→Option Ans)→Option Ans
def F_text_reader_within_b14 (fuel:Nat):YF94_b14:=Fg_text_reader_within_b14 fuel (F_text_reader_num_e4a fuel) (F_text_reader_check_91e fuel)
theorem F94_b14_eqg (fuel:Nat) (a:YF91_e4a) (b:YF92_91e) (y z:Int) (A B:Int) (C D:Int) (E:Bool) (F G H:Int) (d:Bool) (e f:Int) (g h:Int) (i:(List (Int×(Int×LI)))) (j l:Int) (m n:Int) (o p:Int) (q s:Int) (t u:Bool) (v:(List (Int×(Int×(Int×(Bool×(Int×(Int×(Int×(Int×LI)))))))))) (w x:LI) (k:Ev.Cont):evalFn tab (Gg94_b14 a b) J0 kp94_b14 fuel Tryz.f94 [.c (.ptr 0 0),.c (i6 y),.c (i6 z),.c (i6 A),.c (i6 B)] [.cells 139 [i6 C,i6 D,.bool E,i6 F,i6 G,i6 H,.bool d,i6 e,i6 f,i6 g,i6 h,.ptr 1 0,.sl (.pair (.int .i64) (.pair (.int .i64) (.sl (.int .u8)))) i,.own 2,i6 j,i6 l],.cells 194 (i6 m::.own 3::ctb (.int .u64 n::.int .u64 o::.own 4::i6 p::.int .u64 q::i6 s::.bool t::.bool u::[])),.vec 53 (.pair (.int .i64) (.pair (.int .i64) (.pair (.int .i64) (.pair .bool (.pair (.int .i64) (.pair (.int .i64) (.pair (.int .i64) (.pair (.int .i64) (.sl (.int .u8)))))))))) v false,.vec 3 (.int .i64) w false,.vec 5 (.int .u8) x false] k=Fg_text_reader_within_b14 fuel a b y z A B C D E F G H d e f g h i j l m n o p q s t u v w x (fun r=>match r with | (Y,Z,a0,a1,a2,a3,a4,a5,a6,a7,I,J,K,L,M,N,O,P,Q,R,S,T,U,V,W,X)=>k (.c (i6 Y),[.cells 139 [i6 Z,i6 a0,.bool a1,i6 a2,i6 a3,i6 a4,.bool a5,i6 a6,i6 a7,i6 I,i6 J,.ptr 1 0,.sl (.pair (.int .i64) (.pair (.int .i64) (.sl (.int .u8)))) K,.own 2,i6 L,i6 M],.cells 194 (i6 N::.own 3::ctb (.int .u64 O::.int .u64 P::.own 4::i6 Q::.int .u64 R::i6 S::.bool T::.bool U::[])),.vec 53 (.pair (.int .i64) (.pair (.int .i64) (.pair (.int .i64) (.pair .bool (.pair (.int .i64) (.pair (.int .i64) (.pair (.int .i64) (.pair (.int .i64) (.sl (.int .u8)))))))))) V false,.vec 3 (.int .i64) W false,.vec 5 (.int .u8) X false])):=by
  kernel_rfl
theorem hG94_b14 (fuel:Nat):GOK Tryz.prog (G94_b14 fuel):=
  gc (ok91_e4a fuel) Tryz.func91 (by kernel_rfl) rfl <|
  gc (ok92_91e fuel) Tryz.func92 (by kernel_rfl) rfl <|
  gok_nil
def spg94_b14 (F:YF94_b14):Ev.Spec:=fun args objs k=>match args,objs with | [.c (.ptr Q R),.c (i6 S),.c (i6 T),.c (i6 U),.c (i6 V)],[.cells W [i6 X,i6 Y,.bool Z,i6 a0,i6 a1,i6 a2,.bool a,i6 b,i6 d,i6 e,i6 f,.ptr a3 a4,.sl (.pair (.int .i64) (.pair (.int .i64) (.sl (.int .u8)))) g,.own a5,i6 h,i6 i],.cells a6 j,.vec a7 (.pair (.int .i64) (.pair (.int .i64) (.pair (.int .i64) (.pair .bool (.pair (.int .i64) (.pair (.int .i64) (.pair (.int .i64) (.pair (.int .i64) (.sl (.int .u8)))))))))) l false,.vec a8 (.int .i64) m false,.vec a9 (.int .u8) n false]=>(match splitRun 2 ctn j with | some ([i6 o,.own p],[.int .u64 q,.int .u64 s,.own t,i6 u,.int .u64 v,i6 w,.bool x,.bool y])=>bif qb [Q,R,W,a3,a4,a5,a6,a7,a8,a9,p,t] [0,0,139,1,0,2,194,53,3,5,3,4] then F S T U V X Y Z a0 a1 a2 a b d e f g h i o q s u v w x y l m n (fun r=>match r with | (b0,b1,b2,b3,b4,b5,b6,b7,b8,b9,z,A,B,C,D,E,G,H,I,J,K,L,M,N,O,P)=>k (.c (i6 b0),[.cells 139 [i6 b1,i6 b2,.bool b3,i6 b4,i6 b5,i6 b6,.bool b7,i6 b8,i6 b9,i6 z,i6 A,.ptr 1 0,.sl (.pair (.int .i64) (.pair (.int .i64) (.sl (.int .u8)))) B,.own 2,i6 C,i6 D],.cells 194 (i6 E::.own 3::ctb (.int .u64 G::.int .u64 H::.own 4::i6 I::.int .u64 J::i6 K::.bool L::.bool M::[])),.vec 53 (.pair (.int .i64) (.pair (.int .i64) (.pair (.int .i64) (.pair .bool (.pair (.int .i64) (.pair (.int .i64) (.pair (.int .i64) (.pair (.int .i64) (.sl (.int .u8)))))))))) N false,.vec 3 (.int .i64) O false,.vec 5 (.int .u8) P false])) else none | _=>none) | _,_=>none
theorem ok94_b14 (fuel:Nat):FnOK Tryz.prog 94 (spg94_b14 (F_text_reader_within_b14 fuel)):=by
  intro args objs kk r h
  unfold spg94_b14 at h
  split at h
  · skip
    split at h
    rotate_left 1
    · cases h
    rename_i hsp
    have esp:=splitRun_eq hsp
    subst esp
    obtain ⟨hb,h⟩:=cond_some' h
    cases qb_eq hb
    exact fo0 (hG94_b14 fuel) Tryz.func94 rfl (by kernel_rfl) _ _ kk r ((F94_b14_eqg fuel (F_text_reader_num_e4a fuel) (F_text_reader_check_91e fuel) _ _ _ _ _ _ _ _ _ _ _ _ _ _ _ _ _ _ _ _ _ _ _ _ _ _ _ _ _ kk).trans h)
  · cases h
end
end Go.Proofs.YtipdidpalcmlhaaGreat

