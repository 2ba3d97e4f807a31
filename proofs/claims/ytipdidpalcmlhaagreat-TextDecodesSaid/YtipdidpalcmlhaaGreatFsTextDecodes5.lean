/- What the functions that TextDecodes reaches do: their typed texts, each with the proof that the machine does it. No condition. -/
import Derived.Test.YtipdidpalcmlhaaGreatEvX
import Derived.Test.YtipdidpalcmlhaaGreatFsTextDecodes4
import Derived.Test.YtipdidpalcmlhaaGreatFsTextDecodes3
import Derived.Test.YtipdidpalcmlhaaGreatFsTextDecodes1
set_option linter.unusedVariables false
set_option linter.unusedSimpArgs false
set_option linter.unusedSectionVars false
set_option linter.unusedVariables false
set_option linter.unusedSimpArgs false
set_option maxRecDepth 100000
set_option maxHeartbeats 2000000
namespace Go.Proofs.YtipdidpalcmlhaaGreat
open Go Ev
open Go.IntKind (i64 u64 u8 i32 u32 u16)
noncomputable section
def kp244_cdb (i:Nat):Option (List Nat):=Ev.look i [(200001,[0,3]),(200014,[0,6]),(600000,[])]
def Gg244_cdb (d:YF90) (a:YF252_764) (b:YF253_986) (c:YF254_9c5) (f:Nat):Option Ev.Spec:=Ev.look f [(90,spg90 d),(252,spg252_764 a),(253,spg253_986 b),(254,spg254_9c5 c)]
def G244_cdb (fuel:Nat):Nat→Option Ev.Spec:=Gg244_cdb (F_ref10_refine fuel) (F_ref10_reader_side_764 fuel) (F_ref10_reader_offset_986 fuel) (F_ref08_Get_9c5 fuel)
def Fg_ref10_reader_refined_cdb (fuel:Nat) (h2:YF90) (W:YF252_764) (X:YF253_986) (Y:YF254_9c5) (a e f:Int) (g:Bool) (h3 V:Int) (q r:Int) (s:LI) (k2 h4:Int) (h5:Bool) (h6 h7 h8:Int) (h9:Bool) (j0:Int) (b:(List (Int×(Int×LI)))) (j1 j2:Int) (j3 j4:Int) (j5 j6 j7:Int) (j8:Bool) (j9 k1:LI) (k0:(Int×Int×Int×Bool×Int×Int×Int×Int×LI×Int×Int×Int×Bool×Int×Int×Int×Bool×Int×(List (Int×(Int×LI)))×Int×Int×Int×Int×Int×Int×Int×Bool×LI×LI)→OA):OA:=bif decide (0≤a∧a < (↑b.length:Int)) then (W (192) ((b.getD a.toNat (0,0,[])).fst) k2 h4 h5 h6 h7 h8 h9 j0 b j1 j2 j3 j4 j5 j6 j7 j8 j9 k1 (fun (e2,e3,e4,e5,e6,e7,e8,e9,g0,g1,b0,b1,b2,b3,b4,b5,b6,b7,b8,b9,c0)=>bif e3 != 0 then k0 (a,e,f,g,h3,V,q,r,s,e3,e4,e5,e6,e7,e8,e9,g0,g1,b0,b1,b2,b3,b4,b5,b6,b7,b8,b9,c0) else (W (240) ((b.getD a.toNat (0,0,[])).snd.fst) e4 e5 e6 e7 e8 e9 g0 g1 b0 b1 b2 b3 b4 b5 b6 b7 b8 b9 c0 (fun (g2,g3,g4,g5,g6,g7,g8,g9,h0,h1,c1,c2,c3,c4,c5,c6,c7,c8,c9,d0,d1)=>bif g3 != 0 then k0 (a,e,f,g,h3,V,q,r,s,g3,g4,g5,g6,g7,g8,g9,h0,h1,c1,c2,c3,c4,c5,c6,c7,c8,c9,d0,d1) else (X (288) g4 g5 g6 g7 g8 g9 h0 h1 c1 c2 c3 c4 c5 c6 c7 c8 c9 d0 d1 (fun (d,d2,d3,d4,d5,d6,d7,d8,d9,e0,Z,a0,a1,a2,a3,a4,a5,a6,a7,a8,a9)=>bif d2 != 0 then k0 (a,e,f,g,d,V,q,r,s,d2,d3,d4,d5,d6,d7,d8,d9,e0,Z,a0,a1,a2,a3,a4,a5,a6,a7,a8,a9) else (X (336) d3 d4 d5 d6 d7 d8 d9 e0 Z a0 a1 a2 a3 a4 a5 a6 a7 a8 a9 (fun (h,e1,i,j,k,l,m,n,o,p,t,c,u,v,w,x,y,z,A,B,C)=>bif e1 != 0 then k0 (a,e,f,g,d,h,q,r,s,e1,i,j,k,l,m,n,o,p,t,c,u,v,w,x,y,z,A,B,C) else bif decide (c < 0) then none else both ((h2 i j k l m n o p d h (fun (G,H,I,J,K)=>(Y (i64.wrap (i64.wrap (385+Ev.ishl IntKind.i64 1 c) - 1)) G H I J K e2 g2 ((b.getD a.toNat (0,0,[])).fst) ((b.getD a.toNat (0,0,[])).snd.fst) ((b.getD a.toNat (0,0,[])).snd.snd) u v w x y z A B C (fun (L,M,N,O,P,Q,R,S,T,U,D,E,F)=>k0 (a,e,f,g,d,h,L,M,F,N,i,j,k,l,m,n,o,p,t,c,O,P,Q,R,S,T,U,D,E)))))) ((h2 i j k l m n o p d h (fun (G,H,I,J,K)=>(Y (i64.wrap (i64.wrap (385+Ev.ishl IntKind.i64 1 c) - 1)) G H I J K e2 g2 ((b.getD a.toNat (0,0,[])).fst) ((b.getD a.toNat (0,0,[])).snd.fst) ((b.getD a.toNat (0,0,[])).snd.snd) u v w x y z A B C (fun (L,M,N,O,P,Q,R,S,T,U,D,E,F)=>k0 (a,e,f,g,d,h,L,M,F,N,i,j,k,l,m,n,o,p,t,c,O,P,Q,R,S,T,U,D,E)))))))))))))) else none
abbrev YF244_cdb:Type:=Int→Int→Int→Bool→Int→Int→Int→Int→LI→Int→Int→Bool→Int→Int→Int→Bool→Int→((List (Int×(Int×LI))))→Int→Int→Int→Int→Int→Int→Int→Bool→LI→LI→((Int×Int×Int×Bool×Int×Int×Int×Int×LI×Int×Int×Int×Bool×Int×Int×Int×Bool×Int×(List (Int×(Int×LI)))×Int×Int×Int×Int×Int×Int×Int×Bool×LI×LI)→Option Ans)→Option Ans
def F_ref10_reader_refined_cdb (fuel:Nat):YF244_cdb:=Fg_ref10_reader_refined_cdb fuel (F_ref10_refine fuel) (F_ref10_reader_side_764 fuel) (F_ref10_reader_offset_986 fuel) (F_ref08_Get_9c5 fuel)
theorem F244_cdb_eqg (fuel:Nat) (e:YF90) (a:YF252_764) (b:YF253_986) (d:YF254_9c5) (z A B:Int) (C:Bool) (D E:Int) (F G:Int) (H:LI) (I f:Int) (g:Bool) (h i j:Int) (l:Bool) (m:Int) (n:(List (Int×(Int×LI)))) (o p:Int) (q s:Int) (t u v:Int) (w:Bool) (x y:LI) (k:Ev.Cont):evalFn tab (Gg244_cdb e a b d) J0 kp244_cdb fuel Tryz.f244 [.c (.ptr 0 0),.agg [i6 z,i6 A,i6 B,.bool C,i6 D,i6 E,i6 F,i6 G,.sl (.int .u8) H]] [.cells 145 [i6 I,i6 f,.bool g,i6 h,i6 i,i6 j,.bool l,i6 m,.sl (.pair (.int .i64) (.pair (.int .i64) (.sl (.int .u8)))) n,.ptr 1 0,i6 o],.cells 204 [i6 p,.own 2,.int .u64 q,.int .u64 s,.own 3,i6 t,.int .u64 u,i6 v,.bool w],.vec 3 (.int .i64) x false,.vec 5 (.int .u8) y false] k=Fg_ref10_reader_refined_cdb fuel e a b d z A B C D E F G H I f g h i j l m n o p q s t u v w x y (fun r=>match r with | (a2,a3,a4,a5,a6,a7,a8,a9,b0,b1,J,K,L,M,N,O,P,Q,R,S,T,U,V,W,X,Y,Z,a0,a1)=>k (.tup [(true,[i6 a2,i6 a3,i6 a4,.bool a5,i6 a6,i6 a7,i6 a8,i6 a9,.sl (.int .u8) b0]),(false,[i6 b1])],[.cells 145 [i6 J,i6 K,.bool L,i6 M,i6 N,i6 O,.bool P,i6 Q,.sl (.pair (.int .i64) (.pair (.int .i64) (.sl (.int .u8)))) R,.ptr 1 0,i6 S],.cells 204 [i6 T,.own 2,.int .u64 U,.int .u64 V,.own 3,i6 W,.int .u64 X,i6 Y,.bool Z],.vec 3 (.int .i64) a0 false,.vec 5 (.int .u8) a1 false])):=by
  kernel_rfl
theorem hG244_cdb (fuel:Nat):GOK Tryz.prog (G244_cdb fuel):=
  gc (ok90 fuel) Tryz.func90 (by kernel_rfl) rfl <|
  gc (ok252_764 fuel) Tryz.func252 (by kernel_rfl) rfl <|
  gc (ok253_986 fuel) Tryz.func253 (by kernel_rfl) rfl <|
  gc (ok254_9c5 fuel) Tryz.func254 (by kernel_rfl) rfl <|
  gok_nil
def spg244_cdb (F:YF244_cdb):Ev.Spec:=fun args objs k=>match args,objs with | [.c (.ptr P Q),.agg [i6 R,i6 S,i6 T,.bool U,i6 V,i6 W,i6 X,i6 Y,.sl (.int .u8) Z]],[.cells a0 [i6 a1,i6 a,.bool b,i6 d,i6 e,i6 f,.bool g,i6 h,.sl (.pair (.int .i64) (.pair (.int .i64) (.sl (.int .u8)))) i,.ptr a2 a3,i6 j],.cells a4 [i6 l,.own a5,.int .u64 m,.int .u64 n,.own a6,i6 o,.int .u64 p,i6 q,.bool s],.vec a7 (.int .i64) t false,.vec a8 (.int .u8) u false]=>bif qb [P,Q,a0,a2,a3,a4,a5,a6,a7,a8] [0,0,145,1,0,204,2,3,3,5] then F R S T U V W X Y Z a1 a b d e f g h i j l m n o p q s t u (fun r=>match r with | (a9,b0,b1,b2,b3,b4,b5,b6,b7,b8,v,w,x,y,z,A,B,C,D,E,G,H,I,J,K,L,M,N,O)=>k (.tup [(true,[i6 a9,i6 b0,i6 b1,.bool b2,i6 b3,i6 b4,i6 b5,i6 b6,.sl (.int .u8) b7]),(false,[i6 b8])],[.cells 145 [i6 v,i6 w,.bool x,i6 y,i6 z,i6 A,.bool B,i6 C,.sl (.pair (.int .i64) (.pair (.int .i64) (.sl (.int .u8)))) D,.ptr 1 0,i6 E],.cells 204 [i6 G,.own 2,.int .u64 H,.int .u64 I,.own 3,i6 J,.int .u64 K,i6 L,.bool M],.vec 3 (.int .i64) N false,.vec 5 (.int .u8) O false])) else none | _,_=>none
theorem ok244_cdb (fuel:Nat):FnOK Tryz.prog 244 (spg244_cdb (F_ref10_reader_refined_cdb fuel)):=by
  intro args objs kk r h
  unfold spg244_cdb at h
  split at h
  · skip
    obtain ⟨hb,h⟩:=cond_some' h
    cases qb_eq hb
    exact fo0 (hG244_cdb fuel) Tryz.func244 rfl (by kernel_rfl) _ _ kk r ((F244_cdb_eqg fuel (F_ref10_refine fuel) (F_ref10_reader_side_764 fuel) (F_ref10_reader_offset_986 fuel) (F_ref08_Get_9c5 fuel) _ _ _ _ _ _ _ _ _ _ _ _ _ _ _ _ _ _ _ _ _ _ _ _ _ _ _ _ kk).trans h)
  · cases h
def kp193_764 (i:Nat):Option (List Nat):=Ev.look i [(200011,[0]),(600000,[])]
def Gg193_764 (d:YF96_986) (e:YF97) (a:YF157_0a6) (b:YF243_67d) (c:YF244_cdb) (f:Nat):Option Ev.Spec:=Ev.look f [(96,spg96_986 d),(97,spg97 e),(157,spg157_0a6 a),(243,spg243_67d b),(244,spg244_cdb c)]
def G193_764 (fuel:Nat):Nat→Option Ev.Spec:=Gg193_764 (F_ref10_reader_number_986 fuel) (F_ref10_isShift fuel) (F_ref02_Decoder_Get_0a6 fuel) (F_ref03_GetId_67d fuel) (F_ref10_reader_refined_cdb fuel)
def Fg_ref10_reader_rest_764 (fuel:Nat) (c4:YF96_986) (k6:YF97) (b1:YF157_0a6) (b2:YF243_67d) (b3:YF244_cdb) (b g:Int) (a r:Int) (s:Bool) (t u v:Int) (q:Bool) (w:Int) (o:(List (Int×(Int×LI)))) (p b5:Int) (b6 b7:Int) (b8 b9 c0:Int) (c1:Bool) (c2 c3:LI) (k0:(Int×Int×Int×Bool×Int×Int×Int×Int×LI×Int×Int×Int×Bool×Int×Int×Int×Bool×Int×(List (Int×(Int×LI)))×Int×Int×Int×Int×Int×Int×Int×Bool×LI×LI)→OA):OA:=bif decide (a > 1) then (c4 (144) a r s t u v q w o p b5 b6 b7 b8 b9 c0 c1 c2 c3 (fun (d,H,e,h,i,j,k,l,f,m,c,n,x,y,z,A,B,C,D,E,F)=>bif H != 0 then k0 (0,g,i64.wrap (b*a),false,0,0,0,0,[],H,e,h,i,j,k,l,f,m,c,n,x,y,z,A,B,C,D,E,F) else bif decide (d < 0) then k0 (0,g,i64.wrap (b*a),false,0,0,0,0,[],3,e,h,i,j,k,l,f,m,c,n,x,y,z,A,B,C,D,E,F) else bif decide (d≥e) then k0 (0,g,i64.wrap (b*a),false,0,0,0,0,[],3,e,h,i,j,k,l,f,m,c,n,x,y,z,A,B,C,D,E,F) else (k6 (i64.wrap (i64.wrap (b*a)+d)) (fun k7=>bif !k7 then k0 (0,g,i64.wrap (i64.wrap (b*a)+d),false,0,0,0,0,[],3,e,h,i,j,k,l,f,m,c,n,x,y,z,A,B,C,D,E,F) else (b2 (385) n x y z A B C D E F (fun (G,b4,J,K,L,M,N,O,P,Q,I)=>bif b4 != 0 then k0 (0,g,i64.wrap (i64.wrap (b*a)+d),false,0,0,0,0,[],b4,e,h,i,j,k,l,f,m,c,n,J,K,L,M,N,O,P,Q,I) else bif decide (G≥(↑c.length:Int)) then k0 (0,g,i64.wrap (i64.wrap (b*a)+d),false,0,0,0,0,[],3,e,h,i,j,k,l,f,m,c,n,J,K,L,M,N,O,P,Q,I) else bif !f then k0 (G,g,i64.wrap (i64.wrap (b*a)+d),false,0,0,0,0,[],0,e,h,i,j,k,l,f,m,c,n,J,K,L,M,N,O,P,Q,I) else (b1 (384) J K L M N O P Q I (fun (h3,T,U,V,W,X,Y,Z,a0,a1,R)=>bif T != 0 then k0 (G,g,i64.wrap (i64.wrap (b*a)+d),false,0,0,0,0,[],T,e,h,i,j,k,l,f,m,c,n,U,V,W,X,Y,Z,a0,a1,R) else bif h3==0 then k0 (G,g,i64.wrap (i64.wrap (b*a)+d),false,0,0,0,0,[],T,e,h,i,j,k,l,f,m,c,n,U,V,W,X,Y,Z,a0,a1,R) else (b3 G g (i64.wrap (i64.wrap (b*a)+d)) (true) (0) (0) (0) (0) ([]) e h i j k l f m c n U V W X Y Z a0 a1 R (fun (h4,h5,h6,h7,h8,h9,j0,j1,j2,j3,c5,c6,c7,c8,c9,d0,d1,d2,d3,d4,d5,d6,d7,d8,d9,e0,e1,e2,e3)=>k0 (h4,h5,h6,h7,h8,h9,j0,j1,j2,j3,c5,c6,c7,c8,c9,d0,d1,d2,d3,d4,d5,d6,d7,d8,d9,e0,e1,e2,e3))))))))))) else (b2 (385) p b5 b6 b7 b8 b9 c0 c1 c2 c3 (fun (d,H,e,h,i,j,k,l,f,m,c)=>bif H != 0 then k0 (0,g,i64.wrap (b*a),false,0,0,0,0,[],H,a,r,s,t,u,v,q,w,o,p,e,h,i,j,k,l,f,m,c) else bif decide (d≥(↑o.length:Int)) then k0 (0,g,i64.wrap (b*a),false,0,0,0,0,[],3,a,r,s,t,u,v,q,w,o,p,e,h,i,j,k,l,f,m,c) else bif !q then k0 (d,g,i64.wrap (b*a),false,0,0,0,0,[],0,a,r,s,t,u,v,q,w,o,p,e,h,i,j,k,l,f,m,c) else (b1 (384) e h i j k l f m c (fun (j4,a2,a3,a4,a5,a6,a7,a8,a9,b0,S)=>bif a2 != 0 then k0 (d,g,i64.wrap (b*a),false,0,0,0,0,[],a2,a,r,s,t,u,v,q,w,o,p,a3,a4,a5,a6,a7,a8,a9,b0,S) else bif j4==0 then k0 (d,g,i64.wrap (b*a),false,0,0,0,0,[],a2,a,r,s,t,u,v,q,w,o,p,a3,a4,a5,a6,a7,a8,a9,b0,S) else (b3 d g (i64.wrap (b*a)) (true) (0) (0) (0) (0) ([]) a r s t u v q w o p a3 a4 a5 a6 a7 a8 a9 b0 S (fun (j5,j6,j7,j8,j9,k1,k2,k3,k4,k5,e4,e5,e6,e7,e8,e9,g0,g1,g2,g3,g4,g5,g6,g7,g8,g9,h0,h1,h2)=>k0 (j5,j6,j7,j8,j9,k1,k2,k3,k4,k5,e4,e5,e6,e7,e8,e9,g0,g1,g2,g3,g4,g5,g6,g7,g8,g9,h0,h1,h2)))))))
abbrev YF193_764:Type:=Int→Int→Int→Int→Bool→Int→Int→Int→Bool→Int→((List (Int×(Int×LI))))→Int→Int→Int→Int→Int→Int→Int→Bool→LI→LI→((Int×Int×Int×Bool×Int×Int×Int×Int×LI×Int×Int×Int×Bool×Int×Int×Int×Bool×Int×(List (Int×(Int×LI)))×Int×Int×Int×Int×Int×Int×Int×Bool×LI×LI)→Option Ans)→Option Ans
def F_ref10_reader_rest_764 (fuel:Nat):YF193_764:=Fg_ref10_reader_rest_764 fuel (F_ref10_reader_number_986 fuel) (F_ref10_isShift fuel) (F_ref02_Decoder_Get_0a6 fuel) (F_ref03_GetId_67d fuel) (F_ref10_reader_refined_cdb fuel)
theorem F193_764_eqg (fuel:Nat) (e:YF96_986) (f:YF97) (a:YF157_0a6) (b:YF243_67d) (d:YF244_cdb) (t u:Int) (v w:Int) (x:Bool) (y z A:Int) (B:Bool) (C:Int) (g:(List (Int×(Int×LI)))) (h i:Int) (j l:Int) (m n o:Int) (p:Bool) (q s:LI) (k:Ev.Cont):evalFn tab (Gg193_764 e f a b d) J0 kp193_764 fuel Tryz.f193 [.c (.ptr 0 0),.c (i6 t),.c (i6 u)] [.cells 145 [i6 v,i6 w,.bool x,i6 y,i6 z,i6 A,.bool B,i6 C,.sl (.pair (.int .i64) (.pair (.int .i64) (.sl (.int .u8)))) g,.ptr 1 0,i6 h],.cells 204 [i6 i,.own 2,.int .u64 j,.int .u64 l,.own 3,i6 m,.int .u64 n,i6 o,.bool p],.vec 3 (.int .i64) q false,.vec 5 (.int .u8) s false] k=Fg_ref10_reader_rest_764 fuel e f a b d t u v w x y z A B C g h i j l m n o p q s (fun r=>match r with | (W,X,Y,Z,a0,a1,a2,a3,a4,a5,D,E,F,G,H,I,J,K,L,M,N,O,P,Q,R,S,T,U,V)=>k (.tup [(true,[i6 W,i6 X,i6 Y,.bool Z,i6 a0,i6 a1,i6 a2,i6 a3,.sl (.int .u8) a4]),(false,[i6 a5])],[.cells 145 [i6 D,i6 E,.bool F,i6 G,i6 H,i6 I,.bool J,i6 K,.sl (.pair (.int .i64) (.pair (.int .i64) (.sl (.int .u8)))) L,.ptr 1 0,i6 M],.cells 204 [i6 N,.own 2,.int .u64 O,.int .u64 P,.own 3,i6 Q,.int .u64 R,i6 S,.bool T],.vec 3 (.int .i64) U false,.vec 5 (.int .u8) V false])):=by
  kernel_rfl
theorem hG193_764 (fuel:Nat):GOK Tryz.prog (G193_764 fuel):=
  gc (ok96_986 fuel) Tryz.func96 (by kernel_rfl) rfl <|
  gc (ok97 fuel) Tryz.func97 (by kernel_rfl) rfl <|
  gc (ok157_0a6 fuel) Tryz.func157 (by kernel_rfl) rfl <|
  gc (ok243_67d fuel) Tryz.func243 (by kernel_rfl) rfl <|
  gc (ok244_cdb fuel) Tryz.func244 (by kernel_rfl) rfl <|
  gok_nil
def spg193_764 (F:YF193_764):Ev.Spec:=fun args objs k=>match args,objs with | [.c (.ptr I J),.c (i6 K),.c (i6 L)],[.cells M [i6 N,i6 O,.bool P,i6 Q,i6 R,i6 S,.bool T,i6 U,.sl (.pair (.int .i64) (.pair (.int .i64) (.sl (.int .u8)))) a,.ptr V W,i6 b],.cells X [i6 d,.own Y,.int .u64 e,.int .u64 f,.own Z,i6 g,.int .u64 h,i6 i,.bool j],.vec a0 (.int .i64) l false,.vec a1 (.int .u8) m false]=>bif qb [I,J,M,V,W,X,Y,Z,a0,a1] [0,0,145,1,0,204,2,3,3,5] then F K L N O P Q R S T U a b d e f g h i j l m (fun r=>match r with | (a2,a3,a4,a5,a6,a7,a8,a9,b0,b1,n,o,p,q,s,t,u,v,w,x,y,z,A,B,C,D,E,G,H)=>k (.tup [(true,[i6 a2,i6 a3,i6 a4,.bool a5,i6 a6,i6 a7,i6 a8,i6 a9,.sl (.int .u8) b0]),(false,[i6 b1])],[.cells 145 [i6 n,i6 o,.bool p,i6 q,i6 s,i6 t,.bool u,i6 v,.sl (.pair (.int .i64) (.pair (.int .i64) (.sl (.int .u8)))) w,.ptr 1 0,i6 x],.cells 204 [i6 y,.own 2,.int .u64 z,.int .u64 A,.own 3,i6 B,.int .u64 C,i6 D,.bool E],.vec 3 (.int .i64) G false,.vec 5 (.int .u8) H false])) else none | _,_=>none
theorem ok193_764 (fuel:Nat):FnOK Tryz.prog 193 (spg193_764 (F_ref10_reader_rest_764 fuel)):=by
  intro args objs kk r h
  unfold spg193_764 at h
  split at h
  · skip
    obtain ⟨hb,h⟩:=cond_some' h
    cases qb_eq hb
    exact fo0 (hG193_764 fuel) Tryz.func193 rfl (by kernel_rfl) _ _ kk r ((F193_764_eqg fuel (F_ref10_reader_number_986 fuel) (F_ref10_isShift fuel) (F_ref02_Decoder_Get_0a6 fuel) (F_ref03_GetId_67d fuel) (F_ref10_reader_refined_cdb fuel) _ _ _ _ _ _ _ _ _ _ _ _ _ _ _ _ _ _ _ _ _ kk).trans h)
  · cases h
def kp98_daf (i:Nat):Option (List Nat):=Ev.look i [(1,[0,1,2,3,4,1000001]),(100000,[10,11]),(200008,[0,14]),(400000,[10,11,1000001])]
def Gg98_daf (c:YF97) (a:YF192_0a6) (b:YF193_764) (f:Nat):Option Ev.Spec:=Ev.look f [(97,spg97 c),(192,spg192_0a6 a),(193,spg193_764 b)]
def G98_daf (fuel:Nat):Nat→Option Ev.Spec:=Gg98_daf (F_ref10_isShift fuel) (F_ref03_Get_0a6 fuel) (F_ref10_reader_rest_764 fuel)
abbrev V_ref10_reader_line_daf_0:Type:=Int×Int×Int×Int×Int×Bool×Int×Int×Int×Bool×Int×(List (Int×(Int×LI)))×Int×(List (Int×(Int×(Int×(Bool×(Int×(Int×(Int×(Int×LI)))))))))×Int×Int×Int×Int×Int×Int×Bool×LI×LI
abbrev W_ref10_reader_line_daf_0:Type:=(Int×Int×Int×Bool×Int×Int×Int×Bool×Int×(List (Int×(Int×LI)))×Int×(List (Int×(Int×(Int×(Bool×(Int×(Int×(Int×(Int×LI)))))))))×Int×Int×Int×Int×Int×Int×Bool×LI×LI×(List (Int×(Int×(Int×(Bool×(Int×(Int×(Int×(Int×LI)))))))))→OA)×(Int×Int×Int×Bool×Int×Int×Int×Bool×Int×(List (Int×(Int×LI)))×Int×(List (Int×(Int×(Int×(Bool×(Int×(Int×(Int×(Int×LI)))))))))×Int×Int×Int×Int×Int×Int×Bool×LI×LI→OA)
def Sg_ref10_reader_line_daf_0 (fuel:Nat) (X:YF97) (U:YF192_0a6) (V:YF193_764) (S T:Int) (G b1 b2:Int) (b3:Bool) (b4 b5 b6:Int) (b7:Bool) (Y:Int) (Z:(List (Int×(Int×LI)))) (a0:Int) (a:(List (Int×(Int×(Int×(Bool×(Int×(Int×(Int×(Int×LI)))))))))) (a1 a2:Int) (a3 a4:Int) (a5 a6:Int) (a7:Bool) (a8 a9:LI) (c:V_ref10_reader_line_daf_0→OA) (B:W_ref10_reader_line_daf_0):OA:=match B with | (ret,retB)=>(V T G b1 b2 b3 b4 b5 b6 b7 Y Z a0 a1 a2 a3 a4 a5 a6 a7 a8 a9 (fun (m,n,o,p,q,r,s,t,u,Q,d,e,f,b,g,h,i,j,k,l,H,I,J,K,L,M,N,O,P)=>bif Q != 0 then ret (Q,d,e,f,b,g,h,i,j,k,l,a,H,I,J,K,L,M,N,O,P,[]) else bif decide ((a.length+(1:Nat))*(88:Nat)≤(140737488355328:Nat)∧a.length+(1:Nat)≤(140737488355328:Nat)) then (U (96) H I J K L M N O P (fun (W,R,F,x,y,z,A,C,D,E,v,w)=>bif F != 0 then retB (F,d,e,f,b,g,h,i,j,k,l,a++ [(m,n,o,p,q,r,s,t,u)],x,y,z,A,C,D,E,v,w) else bif W then retB (F,d,e,f,b,g,h,i,j,k,l,a++ [(m,n,o,p,q,r,s,t,u)],x,y,z,A,C,D,E,v,w) else bif (↑(a++ [(m,n,o,p,q,r,s,t,u)]).length:Int)==S then ret ((3:Int),d,e,f,b,g,h,i,j,k,l,a++ [(m,n,o,p,q,r,s,t,u)],x,y,z,A,C,D,E,v,w,[]) else (X (i64.wrap (G+i64.wrap (R+b))) (fun b0=>bif !b0 then ret ((3:Int),d,e,f,b,g,h,i,j,k,l,a++ [(m,n,o,p,q,r,s,t,u)],x,y,z,A,C,D,E,v,w,[]) else c (S,T,i64.wrap (G+i64.wrap (R+b)),d,e,f,b,g,h,i,j,k,l,a++ [(m,n,o,p,q,r,s,t,u)],x,y,z,A,C,D,E,v,w))))) else none))
def S_ref10_reader_line_daf_0 (fuel:Nat) (v:Int×Int×Int×Int×Int×Bool×Int×Int×Int×Bool×Int×(List (Int×(Int×(List Int))))×Int×(List (Int×(Int×(Int×(Bool×(Int×(Int×(Int×(Int×(List Int))))))))))×Int×Int×Int×Int×Int×Int×Bool×(List Int)×(List Int)) (c:(Int×Int×Int×Int×Int×Bool×Int×Int×Int×Bool×Int×(List (Int×(Int×(List Int))))×Int×(List (Int×(Int×(Int×(Bool×(Int×(Int×(Int×(Int×(List Int))))))))))×Int×Int×Int×Int×Int×Int×Bool×(List Int)×(List Int))→Option Ans) (B:(Int×Int×Int×Bool×Int×Int×Int×Bool×Int×(List (Int×(Int×(List Int))))×Int×(List (Int×(Int×(Int×(Bool×(Int×(Int×(Int×(Int×(List Int))))))))))×Int×Int×Int×Int×Int×Int×Bool×(List Int)×(List Int)×(List (Int×(Int×(Int×(Bool×(Int×(Int×(Int×(Int×(List Int))))))))))→Option Ans)×(Int×Int×Int×Bool×Int×Int×Int×Bool×Int×(List (Int×(Int×(List Int))))×Int×(List (Int×(Int×(Int×(Bool×(Int×(Int×(Int×(Int×(List Int))))))))))×Int×Int×Int×Int×Int×Int×Bool×(List Int)×(List Int)→Option Ans)):Option Ans:=match v with | (o,p,q,r,s,t,u,w,x,y,a,b,d,e,f,g,h,i,j,k,l,m,n)=>Sg_ref10_reader_line_daf_0 fuel (F_ref10_isShift fuel) (F_ref03_Get_0a6 fuel) (F_ref10_reader_rest_764 fuel) o p q r s t u w x y a b d e f g h i j k l m n c B
def L_ref10_reader_line_daf_0 (fuel:Nat) (v:V_ref10_reader_line_daf_0) (ret:(Int×Int×Int×Bool×Int×Int×Int×Bool×Int×(List (Int×(Int×(List Int))))×Int×(List (Int×(Int×(Int×(Bool×(Int×(Int×(Int×(Int×(List Int))))))))))×Int×Int×Int×Int×Int×Int×Bool×(List Int)×(List Int)×(List (Int×(Int×(Int×(Bool×(Int×(Int×(Int×(Int×(List Int))))))))))→Option Ans)) (retB:(Int×Int×Int×Bool×Int×Int×Int×Bool×Int×(List (Int×(Int×(List Int))))×Int×(List (Int×(Int×(Int×(Bool×(Int×(Int×(Int×(Int×(List Int))))))))))×Int×Int×Int×Int×Int×Int×Bool×(List Int)×(List Int)→Option Ans)):Option Ans:=iter (S_ref10_reader_line_daf_0 fuel) fuel v (ret,retB)
def T98_daf_0 (v:V_ref10_reader_line_daf_0):Ev.St:=match v with | (o,p,q,r,s,t,u,w,x,y,a,b,d,e,f,g,h,i,j,k,l,m,n)=>⟨[(0,.c (.ptr 0 0)),(1,.c (.own 1)),(2,.c (i6 o)),(3,.c (i6 p)),(4,.c (i6 q))],[(0,.cells 145 [i6 r,i6 s,.bool t,i6 u,i6 w,i6 x,.bool y,i6 a,.sl (.pair (.int .i64) (.pair (.int .i64) (.sl (.int .u8)))) b,.ptr 2 0,i6 d]),(1,.vec 53 (.pair (.int .i64) (.pair (.int .i64) (.pair (.int .i64) (.pair .bool (.pair (.int .i64) (.pair (.int .i64) (.pair (.int .i64) (.pair (.int .i64) (.sl (.int .u8)))))))))) e true),(2,.cells 204 [i6 f,.own 3,.int .u64 g,.int .u64 h,.own 4,i6 i,.int .u64 j,i6 k,.bool l]),(3,.vec 3 (.int .i64) m false),(4,.vec 5 (.int .u8) n false)],5,5⟩
def E98_daf_0 (K:KT):W_ref10_reader_line_daf_0:=((fun v=>match v with | (m,n,o,p,q,r,s,t,u,w,a,b,d,e,f,g,h,i,j,k,l,x)=>K .ret ⟨[(10,.c (.own 5)),(11,.c (i6 m))],[(0,.cells 145 [i6 n,i6 o,.bool p,i6 q,i6 r,i6 s,.bool t,i6 u,.sl (.pair (.int .i64) (.pair (.int .i64) (.sl (.int .u8)))) w,.ptr 2 0,i6 a]),(1,.vec 53 (.pair (.int .i64) (.pair (.int .i64) (.pair (.int .i64) (.pair .bool (.pair (.int .i64) (.pair (.int .i64) (.pair (.int .i64) (.pair (.int .i64) (.sl (.int .u8)))))))))) b true),(2,.cells 204 [i6 d,.own 3,.int .u64 e,.int .u64 f,.own 4,i6 g,.int .u64 h,i6 i,.bool j]),(3,.vec 3 (.int .i64) k false),(4,.vec 5 (.int .u8) l false),(5,.vec 53 (.pair (.int .i64) (.pair (.int .i64) (.pair (.int .i64) (.pair .bool (.pair (.int .i64) (.pair (.int .i64) (.pair (.int .i64) (.pair (.int .i64) (.sl (.int .u8)))))))))) x true)],6,5⟩),(fun v=>match v with | (m,n,o,p,q,r,s,t,u,w,a,b,d,e,f,g,h,i,j,k,l)=>K .ret ⟨[(10,.c (.own 1)),(11,.c (i6 m))],[(0,.cells 145 [i6 n,i6 o,.bool p,i6 q,i6 r,i6 s,.bool t,i6 u,.sl (.pair (.int .i64) (.pair (.int .i64) (.sl (.int .u8)))) w,.ptr 2 0,i6 a]),(1,.vec 53 (.pair (.int .i64) (.pair (.int .i64) (.pair (.int .i64) (.pair .bool (.pair (.int .i64) (.pair (.int .i64) (.pair (.int .i64) (.pair (.int .i64) (.sl (.int .u8)))))))))) b true),(2,.cells 204 [i6 d,.own 3,.int .u64 e,.int .u64 f,.own 4,i6 g,.int .u64 h,i6 i,.bool j]),(3,.vec 3 (.int .i64) k false),(4,.vec 5 (.int .u8) l false)],5,5⟩))
theorem S98_daf_0_okg (fuel:Nat) (c:YF97) (a:YF192_0a6) (b:YF193_764) (R:Ev.St→OA) (K:KT) (q r:Int) (s t u:Int) (w:Bool) (x y z:Int) (A:Bool) (d:Int) (e:(List (Int×(Int×LI)))) (f:Int) (g:(List (Int×(Int×(Int×(Bool×(Int×(Int×(Int×(Int×LI)))))))))) (h i:Int) (j k:Int) (l m:Int) (n:Bool) (o p:LI):evalCode tab (Gg98_daf c a b) J0 kp98_daf fuel (bodyOf 0 Tryz.f98) (T98_daf_0 (q,r,s,t,u,w,x,y,z,A,d,e,f,g,h,i,j,k,l,m,n,o,p)) (lc kp98_daf 1 0 R K)=Sg_ref10_reader_line_daf_0 fuel c a b q r s t u w x y z A d e f g h i j k l m n o p (fun v=>R (T98_daf_0 v)) (E98_daf_0 K):=by
  kernel_rfl
def B98_daf_0 (fuel:Nat):Ev.Blk:=fun st K=>match canonO (kp98_daf 1) st with | some s=>(match s with | ⟨[(D,.c (.ptr E F)),(G,.c (.own H)),(I,.c (i6 J)),(L,.c (i6 M)),(N,.c (i6 O))],[(P,.cells Q [i6 R,i6 S,.bool T,i6 U,i6 V,i6 W,.bool X,i6 a,.sl (.pair (.int .i64) (.pair (.int .i64) (.sl (.int .u8)))) b,.ptr d e,i6 f]),(g,.vec h (.pair (.int .i64) (.pair (.int .i64) (.pair (.int .i64) (.pair .bool (.pair (.int .i64) (.pair (.int .i64) (.pair (.int .i64) (.pair (.int .i64) (.sl (.int .u8)))))))))) i true),(j,.cells k [i6 l,.own m,.int .u64 n,.int .u64 o,.own p,i6 q,.int .u64 r,i6 t,.bool u]),(v,.vec w (.int .i64) x false),(y,.vec z (.int .u8) A false)],B,C⟩=>bif qb [D,E,F,G,H,I,L,N,P,Q,d,e,g,h,j,k,m,p,v,w,y,z,B,C] [0,0,0,1,1,2,3,4,0,145,2,0,1,53,2,204,3,4,3,3,4,5,5,5] then iter (S_ref10_reader_line_daf_0 fuel) fuel (J,M,O,R,S,T,U,V,W,X,a,b,f,i,l,n,o,q,r,t,u,x,A) (E98_daf_0 K) else none | _=>none) | none=>none
theorem B98_daf_0_ok (fuel:Nat) (st:Ev.St) (K:KT) (r:Ans) (h:B98_daf_0 fuel st K=some r):evalCode tab (G98_daf fuel) J0 kp98_daf fuel (.block 0 (.loop (bodyOf 0 Tryz.f98))) st K=some r:=by
  unfold B98_daf_0 at h
  split at h
  · rename_i s hs
    split at h
    · skip
      obtain ⟨hb,h⟩:=cond_some' h
      cases qb_eq hb
      exact blk_loop (S:=T98_daf_0) (ks:=E98_daf_0) (step:=S_ref10_reader_line_daf_0 fuel) (v:=(_,_,_,_,_,_,_,_,_,_,_,_,_,_,_,_,_,_,_,_,_,_,_)) (by kernel_rfl) (by kernel_rfl) (fun R K v=>by obtain ⟨o,p,q,t,u,w,x,y,z,A,a,b,c,d,e,f,g,i,j,k,l,m,n⟩:=v; exact S98_daf_0_okg fuel (F_ref10_isShift fuel) (F_ref03_Get_0a6 fuel) (F_ref10_reader_rest_764 fuel) R K o p q t u w x y z A a b c d e f g i j k l m n) hs h
    · cases h
  · cases h
def J98_daf (fuel:Nat) (i:Nat):Option Ev.Blk:=Ev.look i [(100000,B98_daf_0 fuel)]
def Fg_ref10_reader_line_daf (fuel:Nat) (z:YF97) (x:YF192_0a6) (y:YF193_764) (n o:Int) (p q r:Int) (s:Bool) (t u v:Int) (w:Bool) (a:Int) (b:(List (Int×(Int×LI)))) (c:Int) (d:(List (Int×(Int×(Int×(Bool×(Int×(Int×(Int×(Int×LI)))))))))) (e f:Int) (g h:Int) (i j:Int) (k:Bool) (l m:LI) (k0:(Int×Int×Int×Bool×Int×Int×Int×Bool×Int×(List (Int×(Int×LI)))×Int×(List (Int×(Int×(Int×(Bool×(Int×(Int×(Int×(Int×LI)))))))))×Int×Int×Int×Int×Int×Int×Bool×LI×LI×(List (Int×(Int×(Int×(Bool×(Int×(Int×(Int×(Int×LI))))))))))→OA) (k1:(Int×Int×Int×Bool×Int×Int×Int×Bool×Int×(List (Int×(Int×LI)))×Int×(List (Int×(Int×(Int×(Bool×(Int×(Int×(Int×(Int×LI)))))))))×Int×Int×Int×Int×Int×Int×Bool×LI×LI)→OA):OA:=(L_ref10_reader_line_daf_0 fuel (n,o,p,q,r,s,t,u,v,w,a,b,c,d,e,f,g,h,i,j,k,l,m) (fun (ret0_0,ret0_1,ret0_2,ret0_3,ret0_4,ret0_5,ret0_6,ret0_7,ret0_8,ret0_9,ret0_10,ret0_11,ret0_12,ret0_13,ret0_14,ret0_15,ret0_16,ret0_17,ret0_18,ret0_19,ret0_20,ret0_21)=>k0 (ret0_0,ret0_1,ret0_2,ret0_3,ret0_4,ret0_5,ret0_6,ret0_7,ret0_8,ret0_9,ret0_10,ret0_11,ret0_12,ret0_13,ret0_14,ret0_15,ret0_16,ret0_17,ret0_18,ret0_19,ret0_20,ret0_21)) (fun (retB0_0,retB0_1,retB0_2,retB0_3,retB0_4,retB0_5,retB0_6,retB0_7,retB0_8,retB0_9,retB0_10,retB0_11,retB0_12,retB0_13,retB0_14,retB0_15,retB0_16,retB0_17,retB0_18,retB0_19,retB0_20)=>k1 (retB0_0,retB0_1,retB0_2,retB0_3,retB0_4,retB0_5,retB0_6,retB0_7,retB0_8,retB0_9,retB0_10,retB0_11,retB0_12,retB0_13,retB0_14,retB0_15,retB0_16,retB0_17,retB0_18,retB0_19,retB0_20)))
abbrev YF98_daf:Type:=Int→Int→Int→Int→Int→Bool→Int→Int→Int→Bool→Int→((List (Int×(Int×LI))))→Int→((List (Int×(Int×(Int×(Bool×(Int×(Int×(Int×(Int×LI))))))))))→Int→Int→Int→Int→Int→Int→Bool→LI→LI→((Int×Int×Int×Bool×Int×Int×Int×Bool×Int×(List (Int×(Int×LI)))×Int×(List (Int×(Int×(Int×(Bool×(Int×(Int×(Int×(Int×LI)))))))))×Int×Int×Int×Int×Int×Int×Bool×LI×LI×(List (Int×(Int×(Int×(Bool×(Int×(Int×(Int×(Int×LI))))))))))→Option Ans)→((Int×Int×Int×Bool×Int×Int×Int×Bool×Int×(List (Int×(Int×LI)))×Int×(List (Int×(Int×(Int×(Bool×(Int×(Int×(Int×(Int×LI)))))))))×Int×Int×Int×Int×Int×Int×Bool×LI×LI)→Option Ans)→Option Ans
def F_ref10_reader_line_daf (fuel:Nat):YF98_daf:=Fg_ref10_reader_line_daf fuel (F_ref10_isShift fuel) (F_ref03_Get_0a6 fuel) (F_ref10_reader_rest_764 fuel)
theorem F98_daf_eqg (fuel:Nat) (A:YF97) (y:YF192_0a6) (z:YF193_764) (O P:Int) (Q R S:Int) (T:Bool) (U V W:Int) (X:Bool) (B:Int) (C:(List (Int×(Int×LI)))) (D:Int) (E:(List (Int×(Int×(Int×(Bool×(Int×(Int×(Int×(Int×LI)))))))))) (F G:Int) (H I:Int) (J K:Int) (L:Bool) (M N:LI) (k:Ev.Cont):evalFn tab (Gg98_daf A y z) (J98_daf fuel) kp98_daf fuel Tryz.f98 [.c (.ptr 0 0),.c (.own 1),.c (i6 O),.c (i6 P),.c (i6 Q)] [.cells 145 [i6 R,i6 S,.bool T,i6 U,i6 V,i6 W,.bool X,i6 B,.sl (.pair (.int .i64) (.pair (.int .i64) (.sl (.int .u8)))) C,.ptr 2 0,i6 D],.vec 53 (.pair (.int .i64) (.pair (.int .i64) (.pair (.int .i64) (.pair .bool (.pair (.int .i64) (.pair (.int .i64) (.pair (.int .i64) (.pair (.int .i64) (.sl (.int .u8)))))))))) E false,.cells 204 [i6 F,.own 3,.int .u64 G,.int .u64 H,.own 4,i6 I,.int .u64 J,i6 K,.bool L],.vec 3 (.int .i64) M false,.vec 5 (.int .u8) N false] k=Fg_ref10_reader_line_daf fuel A y z O P Q R S T U V W X B C D E F G H I J K L M N (fun r=>match r with | (n,o,p,q,s,t,u,v,w,x,a,b,d,e,f,g,h,i,j,l,m,Y)=>k (.tup [(false,[.own 5]),(false,[i6 n])],[.cells 145 [i6 o,i6 p,.bool q,i6 s,i6 t,i6 u,.bool v,i6 w,.sl (.pair (.int .i64) (.pair (.int .i64) (.sl (.int .u8)))) x,.ptr 2 0,i6 a],.vec 53 (.pair (.int .i64) (.pair (.int .i64) (.pair (.int .i64) (.pair .bool (.pair (.int .i64) (.pair (.int .i64) (.pair (.int .i64) (.pair (.int .i64) (.sl (.int .u8)))))))))) b true,.cells 204 [i6 d,.own 3,.int .u64 e,.int .u64 f,.own 4,i6 g,.int .u64 h,i6 i,.bool j],.vec 3 (.int .i64) l false,.vec 5 (.int .u8) m false,.vec 53 (.pair (.int .i64) (.pair (.int .i64) (.pair (.int .i64) (.pair .bool (.pair (.int .i64) (.pair (.int .i64) (.pair (.int .i64) (.pair (.int .i64) (.sl (.int .u8)))))))))) Y true])) (fun r=>match r with | (n,o,p,q,s,t,u,v,w,x,a,b,d,e,f,g,h,i,j,l,m)=>k (.tup [(false,[.own 1]),(false,[i6 n])],[.cells 145 [i6 o,i6 p,.bool q,i6 s,i6 t,i6 u,.bool v,i6 w,.sl (.pair (.int .i64) (.pair (.int .i64) (.sl (.int .u8)))) x,.ptr 2 0,i6 a],.vec 53 (.pair (.int .i64) (.pair (.int .i64) (.pair (.int .i64) (.pair .bool (.pair (.int .i64) (.pair (.int .i64) (.pair (.int .i64) (.pair (.int .i64) (.sl (.int .u8)))))))))) b true,.cells 204 [i6 d,.own 3,.int .u64 e,.int .u64 f,.own 4,i6 g,.int .u64 h,i6 i,.bool j],.vec 3 (.int .i64) l false,.vec 5 (.int .u8) m false])):=by
  kernel_rfl
theorem hG98_daf (fuel:Nat):GOK Tryz.prog (G98_daf fuel):=
  gc (ok97 fuel) Tryz.func97 (by kernel_rfl) rfl <|
  gc (ok192_0a6 fuel) Tryz.func192 (by kernel_rfl) rfl <|
  gc (ok193_764 fuel) Tryz.func193 (by kernel_rfl) rfl <|
  gok_nil
theorem B98_daf_0_blk (fuel:Nat):BlkOK Tryz.prog Tryz.f98.ntmps (.block 0 (.loop (bodyOf 0 Tryz.f98))) (B98_daf_0 fuel):=bo0 (hG98_daf fuel) (by kernel_rfl) (by kernel_rfl) (B98_daf_0_ok fuel)
def spg98_daf (F:YF98_daf):Ev.Spec:=fun args objs k=>match args,objs with | [.c (.ptr P Q),.c (.own R),.c (i6 S),.c (i6 T),.c (i6 U)],[.cells V [i6 W,i6 X,.bool Y,i6 Z,i6 a0,i6 a1,.bool a2,i6 y,.sl (.pair (.int .i64) (.pair (.int .i64) (.sl (.int .u8)))) z,.ptr a3 a4,i6 A],.vec a5 (.pair (.int .i64) (.pair (.int .i64) (.pair (.int .i64) (.pair .bool (.pair (.int .i64) (.pair (.int .i64) (.pair (.int .i64) (.pair (.int .i64) (.sl (.int .u8)))))))))) B false,.cells a6 [i6 C,.own a7,.int .u64 D,.int .u64 E,.own a8,i6 G,.int .u64 H,i6 I,.bool J],.vec K (.int .i64) L false,.vec M (.int .u8) N false]=>bif qb [P,Q,R,V,a3,a4,a5,a6,a7,a8,K,M] [0,0,1,145,2,0,53,204,3,4,3,5] then F S T U W X Y Z a0 a1 a2 y z A B C D E G H I J L N (fun r=>match r with | (n,o,p,q,s,t,u,v,w,x,a,b,d,e,f,g,h,i,j,l,m,O)=>k (.tup [(false,[.own 5]),(false,[i6 n])],[.cells 145 [i6 o,i6 p,.bool q,i6 s,i6 t,i6 u,.bool v,i6 w,.sl (.pair (.int .i64) (.pair (.int .i64) (.sl (.int .u8)))) x,.ptr 2 0,i6 a],.vec 53 (.pair (.int .i64) (.pair (.int .i64) (.pair (.int .i64) (.pair .bool (.pair (.int .i64) (.pair (.int .i64) (.pair (.int .i64) (.pair (.int .i64) (.sl (.int .u8)))))))))) b true,.cells 204 [i6 d,.own 3,.int .u64 e,.int .u64 f,.own 4,i6 g,.int .u64 h,i6 i,.bool j],.vec 3 (.int .i64) l false,.vec 5 (.int .u8) m false,.vec 53 (.pair (.int .i64) (.pair (.int .i64) (.pair (.int .i64) (.pair .bool (.pair (.int .i64) (.pair (.int .i64) (.pair (.int .i64) (.pair (.int .i64) (.sl (.int .u8)))))))))) O true])) (fun r=>match r with | (n,o,p,q,s,t,u,v,w,x,a,b,d,e,f,g,h,i,j,l,m)=>k (.tup [(false,[.own 1]),(false,[i6 n])],[.cells 145 [i6 o,i6 p,.bool q,i6 s,i6 t,i6 u,.bool v,i6 w,.sl (.pair (.int .i64) (.pair (.int .i64) (.sl (.int .u8)))) x,.ptr 2 0,i6 a],.vec 53 (.pair (.int .i64) (.pair (.int .i64) (.pair (.int .i64) (.pair .bool (.pair (.int .i64) (.pair (.int .i64) (.pair (.int .i64) (.pair (.int .i64) (.sl (.int .u8)))))))))) b true,.cells 204 [i6 d,.own 3,.int .u64 e,.int .u64 f,.own 4,i6 g,.int .u64 h,i6 i,.bool j],.vec 3 (.int .i64) l false,.vec 5 (.int .u8) m false])) else none | _,_=>none
theorem ok98_daf (fuel:Nat):FnOK Tryz.prog 98 (spg98_daf (F_ref10_reader_line_daf fuel)):=by
  intro args objs kk r h
  unfold spg98_daf at h
  split at h
  · skip
    obtain ⟨hb,h⟩:=cond_some' h
    cases qb_eq hb
    exact fo1 (hG98_daf fuel) Tryz.func98 rfl (B98_daf_0_blk fuel) (by kernel_rfl) _ _ kk r ((F98_daf_eqg fuel (F_ref10_isShift fuel) (F_ref03_Get_0a6 fuel) (F_ref10_reader_rest_764 fuel) _ _ _ _ _ _ _ _ _ _ _ _ _ _ _ _ _ _ _ _ _ _ _ kk).trans h)
  · cases h
def kp27 (i:Nat):Option (List Nat):=Ev.look i [(11,[2,4,15,16,17,18]),(100000,[16]),(400000,[8,9])]
def Gg27 (c:YF69) (d:YF82) (e:YF84) (a:YF96_986) (g:YF97) (b:YF98_daf) (f:Nat):Option Ev.Spec:=Ev.look f [(69,spg69 c),(82,spg82 d),(84,spg84 e),(96,spg96_986 a),(97,spg97 g),(1000098,spg98_daf b)]
def G27 (fuel:Nat):Nat→Option Ev.Spec:=Gg27 (F_ref02_NewDecoder fuel) (F_ref10_asked fuel) (F_ref10_Model fuel) (F_ref10_reader_number_986 fuel) (F_ref10_isShift fuel) (F_ref10_reader_line_daf fuel)
abbrev V_ref10_Decode_0:Type:=Int×Int×Int×Int×Int×Bool×Int×Int×Int×Bool×Int×Int×Int×Bool×Int×Int×Int×Bool×Int×(List (Int×(Int×LI)))×Int×(List (Int×(Int×(Int×(Bool×(Int×(Int×(Int×(Int×LI)))))))))×Int×Int×Int×Int×Int×Int×Bool×LI×LI
abbrev W_ref10_Decode_0:Type:=(Int×(List (Int×(Int×(Int×(Bool×(Int×(Int×(Int×(Int×LI)))))))))→OA)×((List (Int×(Int×(Int×(Bool×(Int×(Int×(Int×(Int×LI)))))))))→OA)
def Sg_ref10_Decode_0 (fuel:Nat) (v4:YF69) (v5:YF82) (v6:YF84) (q:YF96_986) (p:YF97) (v:YF98_daf) (f e:Int) (a g i:Int) (j:Bool) (k l m:Int) (n:Bool) (h r9 s0:Int) (s1:Bool) (s2 s3 s4:Int) (s5:Bool) (s6:Int) (s7:(List (Int×(Int×LI)))) (s8:Int) (o:(List (Int×(Int×(Int×(Bool×(Int×(Int×(Int×(Int×LI)))))))))) (s9 t0:Int) (t1 t2:Int) (t3 t4:Int) (t5:Bool) (t6 t7:LI) (c:V_ref10_Decode_0→OA) (B:W_ref10_Decode_0):OA:=match B with | (ret,b)=>bif decide ((↑o.length:Int) < f) then (q (0) r9 s0 s1 s2 s3 s4 s5 s6 s7 s8 s9 t0 t1 t2 t3 t4 t5 t6 t7 (fun (d,j8,M,N,O,P,Q,R,S,T,w,x,y,z,A,C,D,E,F,G,H)=>bif j8 != 0 then ret (j8,[]) else bif decide ((↑o.length:Int) > 0) then bif decide (d≤0) then ret (3,[]) else bif g==1 then (p (i64.wrap (e+d)) (fun t8=>bif !t8 then ret (3,[]) else (q (48) M N O P Q R S T w x y z A C D E F G H (fun (I,j4,o7,o8,o9,p0,p1,p2,p3,p4,j9,k0,k1,k2,k3,k4,k5,k6,k7,k8,k9)=>bif j4 != 0 then ret (j4,[]) else (p (i64.wrap (a+I)) (fun t9=>bif !t9 then ret (3,[]) else (v f (i64.wrap (e+d)) (i64.wrap (a+I)) o7 o8 o9 p0 p1 p2 p3 p4 j9 k0 o k1 k2 k3 k4 k5 k6 k7 k8 k9 (fun (r,d4,d5,d6,d7,d8,d9,e0,e1,e2,U,j0,V,W,X,Y,Z,a0,a1,a2,a3,l0)=>bif r != 0 then ret (r,[]) else c (f,i64.wrap (e+d),i64.wrap (a+I),g,i,j,k,l,m,n,h,d4,d5,d6,d7,d8,d9,e0,e1,e2,U,l0,V,W,X,Y,Z,a0,a1,a2,a3)) (fun (r,d4,d5,d6,d7,d8,d9,e0,e1,e2,U,j0,V,W,X,Y,Z,a0,a1,a2,a3)=>bif r != 0 then ret (r,[]) else c (f,i64.wrap (e+d),i64.wrap (a+I),g,i,j,k,l,m,n,h,d4,d5,d6,d7,d8,d9,e0,e1,e2,U,j0,V,W,X,Y,Z,a0,a1,a2,a3))))))))) else (q (48) M N O P Q R S T w x y z A C D E F G H (fun (J,j5,p5,p6,p7,p8,p9,q0,q1,q2,l1,l2,l3,l4,l5,l6,l7,l8,l9,m0,m1)=>bif j5 != 0 then ret (j5,[]) else (p (i64.wrap (a+J)) (fun v0=>bif !v0 then ret (3,[]) else (v f (i64.wrap (e+d)) (i64.wrap (a+J)) p5 p6 p7 p8 p9 q0 q1 q2 l1 l2 o l3 l4 l5 l6 l7 l8 l9 m0 m1 (fun (s,e3,e4,e5,e6,e7,e8,e9,g0,g1,a4,j1,a5,a6,a7,a8,a9,b0,b1,b2,b3,m2)=>bif s != 0 then ret (s,[]) else c (f,i64.wrap (e+d),i64.wrap (a+J),g,i,j,k,l,m,n,h,e3,e4,e5,e6,e7,e8,e9,g0,g1,a4,m2,a5,a6,a7,a8,a9,b0,b1,b2,b3)) (fun (s,e3,e4,e5,e6,e7,e8,e9,g0,g1,a4,j1,a5,a6,a7,a8,a9,b0,b1,b2,b3)=>bif s != 0 then ret (s,[]) else c (f,i64.wrap (e+d),i64.wrap (a+J),g,i,j,k,l,m,n,h,e3,e4,e5,e6,e7,e8,e9,g0,g1,a4,j1,a5,a6,a7,a8,a9,b0,b1,b2,b3))))))) else bif g==1 then (p (i64.wrap (e+d)) (fun v1=>bif !v1 then ret (3,[]) else (q (48) M N O P Q R S T w x y z A C D E F G H (fun (K,j6,q3,q4,q5,q6,q7,q8,q9,r0,m3,m4,m5,m6,m7,m8,m9,n0,n1,n2,n3)=>bif j6 != 0 then ret (j6,[]) else (p (i64.wrap (a+K)) (fun v2=>bif !v2 then ret (3,[]) else (v f (i64.wrap (e+d)) (i64.wrap (a+K)) q3 q4 q5 q6 q7 q8 q9 r0 m3 m4 o m5 m6 m7 m8 m9 n0 n1 n2 n3 (fun (t,g2,g3,g4,g5,g6,g7,g8,g9,h0,b4,j2,b5,b6,b7,b8,b9,c0,c1,c2,c3,n4)=>bif t != 0 then ret (t,[]) else c (f,i64.wrap (e+d),i64.wrap (a+K),g,i,j,k,l,m,n,h,g2,g3,g4,g5,g6,g7,g8,g9,h0,b4,n4,b5,b6,b7,b8,b9,c0,c1,c2,c3)) (fun (t,g2,g3,g4,g5,g6,g7,g8,g9,h0,b4,j2,b5,b6,b7,b8,b9,c0,c1,c2,c3)=>bif t != 0 then ret (t,[]) else c (f,i64.wrap (e+d),i64.wrap (a+K),g,i,j,k,l,m,n,h,g2,g3,g4,g5,g6,g7,g8,g9,h0,b4,j2,b5,b6,b7,b8,b9,c0,c1,c2,c3))))))))) else (q (48) M N O P Q R S T w x y z A C D E F G H (fun (L,j7,r1,r2,r3,r4,r5,r6,r7,r8,n5,n6,n7,n8,n9,o0,o1,o2,o3,o4,o5)=>bif j7 != 0 then ret (j7,[]) else (p (i64.wrap (a+L)) (fun v3=>bif !v3 then ret (3,[]) else (v f (i64.wrap (e+d)) (i64.wrap (a+L)) r1 r2 r3 r4 r5 r6 r7 r8 n5 n6 o n7 n8 n9 o0 o1 o2 o3 o4 o5 (fun (u,h1,h2,h3,h4,h5,h6,h7,h8,h9,c4,j3,c5,c6,c7,c8,c9,d0,d1,d2,d3,o6)=>bif u != 0 then ret (u,[]) else c (f,i64.wrap (e+d),i64.wrap (a+L),g,i,j,k,l,m,n,h,h1,h2,h3,h4,h5,h6,h7,h8,h9,c4,o6,c5,c6,c7,c8,c9,d0,d1,d2,d3)) (fun (u,h1,h2,h3,h4,h5,h6,h7,h8,h9,c4,j3,c5,c6,c7,c8,c9,d0,d1,d2,d3)=>bif u != 0 then ret (u,[]) else c (f,i64.wrap (e+d),i64.wrap (a+L),g,i,j,k,l,m,n,h,h1,h2,h3,h4,h5,h6,h7,h8,h9,c4,j3,c5,c6,c7,c8,c9,d0,d1,d2,d3))))))))) else b o
def S_ref10_Decode_0 (fuel:Nat) (v:Int×Int×Int×Int×Int×Bool×Int×Int×Int×Bool×Int×Int×Int×Bool×Int×Int×Int×Bool×Int×(List (Int×(Int×(List Int))))×Int×(List (Int×(Int×(Int×(Bool×(Int×(Int×(Int×(Int×(List Int))))))))))×Int×Int×Int×Int×Int×Int×Bool×(List Int)×(List Int)) (c:(Int×Int×Int×Int×Int×Bool×Int×Int×Int×Bool×Int×Int×Int×Bool×Int×Int×Int×Bool×Int×(List (Int×(Int×(List Int))))×Int×(List (Int×(Int×(Int×(Bool×(Int×(Int×(Int×(Int×(List Int))))))))))×Int×Int×Int×Int×Int×Int×Bool×(List Int)×(List Int))→Option Ans) (B:(Int×(List (Int×(Int×(Int×(Bool×(Int×(Int×(Int×(Int×(List Int))))))))))→Option Ans)×((List (Int×(Int×(Int×(Bool×(Int×(Int×(Int×(Int×(List Int))))))))))→Option Ans)):Option Ans:=match v with | (x,y,z,A,C,D,E,F,G,H,a,b,d,e,f,g,h,i,j,k,l,m,n,o,p,q,r,s,t,u,w)=>Sg_ref10_Decode_0 fuel (F_ref02_NewDecoder fuel) (F_ref10_asked fuel) (F_ref10_Model fuel) (F_ref10_reader_number_986 fuel) (F_ref10_isShift fuel) (F_ref10_reader_line_daf fuel) x y z A C D E F G H a b d e f g h i j k l m n o p q r s t u w c B
def L_ref10_Decode_0 (fuel:Nat) (v:V_ref10_Decode_0) (ret:(Int×(List (Int×(Int×(Int×(Bool×(Int×(Int×(Int×(Int×(List Int))))))))))→Option Ans)) (b:((List (Int×(Int×(Int×(Bool×(Int×(Int×(Int×(Int×(List Int))))))))))→Option Ans)):Option Ans:=iter (S_ref10_Decode_0 fuel) fuel v (ret,b)
def T27_0 (v:V_ref10_Decode_0):Ev.St:=match v with | (x,y,z,A,B,C,D,E,F,G,a,b,d,e,f,g,h,i,j,k,l,m,n,o,p,q,r,s,t,u,w)=>⟨[(2,.c (i6 x)),(4,.c (.ptr 0 0)),(15,.c (.ptr 1 0)),(16,.c (.own 2)),(17,.c (i6 y)),(18,.c (i6 z))],[(0,.cells 40 [i6 A,i6 B,.bool C,i6 D,i6 E,i6 F,.bool G,i6 a]),(1,.cells 145 [i6 b,i6 d,.bool e,i6 f,i6 g,i6 h,.bool i,i6 j,.sl (.pair (.int .i64) (.pair (.int .i64) (.sl (.int .u8)))) k,.ptr 3 0,i6 l]),(2,.vec 53 (.pair (.int .i64) (.pair (.int .i64) (.pair (.int .i64) (.pair .bool (.pair (.int .i64) (.pair (.int .i64) (.pair (.int .i64) (.pair (.int .i64) (.sl (.int .u8)))))))))) m true),(3,.cells 204 [i6 n,.own 4,.int .u64 o,.int .u64 p,.own 5,i6 q,.int .u64 r,i6 s,.bool t]),(4,.vec 3 (.int .i64) u true),(5,.vec 5 (.int .u8) w true)],6,0⟩
def E27_0 (K:KT):W_ref10_Decode_0:=((fun v=>match v with | (a,b)=>K .ret ⟨[(8,.c (.own 0)),(9,.c (i6 a))],[(0,.vec 53 (.pair (.int .i64) (.pair (.int .i64) (.pair (.int .i64) (.pair .bool (.pair (.int .i64) (.pair (.int .i64) (.pair (.int .i64) (.pair (.int .i64) (.sl (.int .u8)))))))))) b true)],1,0⟩),(fun v=>match v with | a=>K .normal ⟨[(16,.c (.own 0))],[(0,.vec 53 (.pair (.int .i64) (.pair (.int .i64) (.pair (.int .i64) (.pair .bool (.pair (.int .i64) (.pair (.int .i64) (.pair (.int .i64) (.pair (.int .i64) (.sl (.int .u8)))))))))) a true)],1,0⟩))
theorem S27_0_okg (fuel:Nat) (c:YF69) (d:YF82) (e:YF84) (a:YF96_986) (f:YF97) (b:YF98_daf) (R:Ev.St→OA) (K:KT) (C D:Int) (E F G:Int) (H:Bool) (I J L:Int) (M:Bool) (g h i:Int) (j:Bool) (k l m:Int) (n:Bool) (o:Int) (p:(List (Int×(Int×LI)))) (q:Int) (r:(List (Int×(Int×(Int×(Bool×(Int×(Int×(Int×(Int×LI)))))))))) (s t:Int) (u w:Int) (x y:Int) (z:Bool) (A B:LI):evalCode tab (Gg27 c d e a f b) J0 kp27 fuel (bodyOf 0 Tryz.f27) (T27_0 (C,D,E,F,G,H,I,J,L,M,g,h,i,j,k,l,m,n,o,p,q,r,s,t,u,w,x,y,z,A,B)) (lc kp27 11 0 R K)=Sg_ref10_Decode_0 fuel c d e a f b C D E F G H I J L M g h i j k l m n o p q r s t u w x y z A B (fun v=>R (T27_0 v)) (E27_0 K):=by
  kernel_rfl
def B27_0 (fuel:Nat):Ev.Blk:=fun st K=>match canonO (kp27 11) st with | some s=>(match s with | ⟨[(R,.c (i6 S)),(T,.c (.ptr U V)),(W,.c (.ptr X Y)),(Z,.c (.own a0)),(a1,.c (i6 a2)),(a,.c (i6 a3))],[(b,.cells d [i6 a4,i6 a5,.bool a6,i6 a7,i6 a8,i6 a9,.bool b0,i6 e]),(f,.cells g [i6 h,i6 i,.bool j,i6 k,i6 l,i6 m,.bool n,i6 o,.sl (.pair (.int .i64) (.pair (.int .i64) (.sl (.int .u8)))) p,.ptr q r,i6 t]),(u,.vec v (.pair (.int .i64) (.pair (.int .i64) (.pair (.int .i64) (.pair .bool (.pair (.int .i64) (.pair (.int .i64) (.pair (.int .i64) (.pair (.int .i64) (.sl (.int .u8)))))))))) w true),(x,.cells y [i6 z,.own A,.int .u64 B,.int .u64 C,.own D,i6 E,.int .u64 F,i6 G,.bool H]),(I,.vec J (.int .i64) L true),(M,.vec N (.int .u8) O true)],P,Q⟩=>bif qb [R,T,U,V,W,X,Y,Z,a0,a1,a,b,d,f,g,q,r,u,v,x,y,A,D,I,J,M,N,P,Q] [2,4,0,0,15,1,0,16,2,17,18,0,40,1,145,3,0,2,53,3,204,4,5,4,3,5,5,6,0] then iter (S_ref10_Decode_0 fuel) fuel (S,a2,a3,a4,a5,a6,a7,a8,a9,b0,e,h,i,j,k,l,m,n,o,p,t,w,z,B,C,E,F,G,H,L,O) (E27_0 K) else none | _=>none) | none=>none
theorem B27_0_ok (fuel:Nat) (st:Ev.St) (K:KT) (r:Ans) (h:B27_0 fuel st K=some r):evalCode tab (G27 fuel) J0 kp27 fuel (.block 0 (.loop (bodyOf 0 Tryz.f27))) st K=some r:=by
  unfold B27_0 at h
  split at h
  · rename_i s hs
    split at h
    · skip
      obtain ⟨hb,h⟩:=cond_some' h
      cases qb_eq hb
      exact blk_loop (S:=T27_0) (ks:=E27_0) (step:=S_ref10_Decode_0 fuel) (v:=(_,_,_,_,_,_,_,_,_,_,_,_,_,_,_,_,_,_,_,_,_,_,_,_,_,_,_,_,_,_,_)) (by kernel_rfl) (by kernel_rfl) (fun R K v=>by obtain ⟨z,A,B,C,D,E,F,G,H,I,a,b,c,d,e,f,g,i,j,k,l,m,n,o,p,q,t,u,w,x,y⟩:=v; exact S27_0_okg fuel (F_ref02_NewDecoder fuel) (F_ref10_asked fuel) (F_ref10_Model fuel) (F_ref10_reader_number_986 fuel) (F_ref10_isShift fuel) (F_ref10_reader_line_daf fuel) R K z A B C D E F G H I a b c d e f g i j k l m n o p q t u w x y) hs h
    · cases h
  · cases h
def J27 (fuel:Nat) (i:Nat):Option Ev.Blk:=Ev.look i [(100000,B27_0 fuel)]
def Fg_ref10_Decode (fuel:Nat) (y:YF69) (z:YF82) (A:YF84) (C:YF96_986) (F:YF97) (D:YF98_daf) (a b:Int) (c:Bool) (d e f:Int) (g:Bool) (h:Int) (i:(List (Int×Int×LI))) (j:Int) (B:LI) (k0:(Int×(List (Int×(Int×(Int×(Bool×(Int×(Int×(Int×(Int×LI))))))))))→OA):OA:=(z a b c d e f g h i ([]) (true) ((↑i.length:Int)) (fun k=>bif k != 0 then k0 (k,[]) else bif decide (j < 0) then k0 (2,[]) else bif decide (j > 300) then k0 (2,[]) else (A a b c d e f g h ((↑i.length:Int)) (fun (u,v,w)=>(y u w B (fun G=>none) (fun (E,l,m,n,o,p,q,r,s,t)=>(L_ref10_Decode_0 fuel (j,0,0,a,b,c,d,e,f,g,h,a,b,c,d,e,f,g,h,i,v,[],l,m,n,o,p,q,r,s,t) (fun (ret0_0,ret0_1)=>k0 (ret0_0,ret0_1)) (fun x=>k0 (0,x)))))))))
abbrev YF27:Type:=Int→Int→Bool→Int→Int→Int→Bool→Int→((List (Int×Int×LI)))→Int→LI→((Int×(List (Int×(Int×(Int×(Bool×(Int×(Int×(Int×(Int×LI))))))))))→Option Ans)→Option Ans
def F_ref10_Decode (fuel:Nat):YF27:=Fg_ref10_Decode fuel (F_ref02_NewDecoder fuel) (F_ref10_asked fuel) (F_ref10_Model fuel) (F_ref10_reader_number_986 fuel) (F_ref10_isShift fuel) (F_ref10_reader_line_daf fuel)
theorem F27_eqg (fuel:Nat) (d:YF69) (e:YF82) (f:YF84) (a:YF96_986) (g:YF97) (b:YF98_daf) (i j:Int) (l:Bool) (m n o:Int) (p:Bool) (q:Int) (s:(List (Int×Int×LI))) (t:Int) (h:LI) (k:Ev.Cont):evalFn tab (Gg27 d e f a g b) (J27 fuel) kp27 fuel Tryz.f27 [.agg [i6 i,i6 j,.bool l,i6 m,i6 n,i6 o,.bool p,i6 q],.c (.sl (.pair (.int .i64) (.pair (.int .i64) (.sl (.int .u8)))) s),.c (i6 t),.c (.sl (.int .u8) h)] [] k=Fg_ref10_Decode fuel d e f a g b i j l m n o p q s t h (fun r=>match r with | (u,v)=>k (.tup [(false,[.own 0]),(false,[i6 u])],[.vec 53 (.pair (.int .i64) (.pair (.int .i64) (.pair (.int .i64) (.pair .bool (.pair (.int .i64) (.pair (.int .i64) (.pair (.int .i64) (.pair (.int .i64) (.sl (.int .u8)))))))))) v true])):=by
  kernel_rfl
theorem hG27 (fuel:Nat):GOK Tryz.prog (G27 fuel):=
  gc (ok69 fuel) Tryz.func69 (by kernel_rfl) rfl <|
  gc (ok82 fuel) Tryz.func82 (by kernel_rfl) rfl <|
  gc (ok84 fuel) Tryz.func84 (by kernel_rfl) rfl <|
  gc (ok96_986 fuel) Tryz.func96 (by kernel_rfl) rfl <|
  gc (ok97 fuel) Tryz.func97 (by kernel_rfl) rfl <|
  gc (ok98_daf fuel) Tryz.func98 (by kernel_rfl) rfl <|
  gok_nil
theorem B27_0_blk (fuel:Nat):BlkOK Tryz.prog Tryz.f27.ntmps (.block 0 (.loop (bodyOf 0 Tryz.f27))) (B27_0 fuel):=bo0 (hG27 fuel) (by kernel_rfl) (by kernel_rfl) (B27_0_ok fuel)
def spg27 (F:YF27):Ev.Spec:=fun args objs k=>match args,objs with | [.agg [i6 b,i6 d,.bool e,i6 f,i6 g,i6 h,.bool i,i6 j],.c (.sl (.pair (.int .i64) (.pair (.int .i64) (.sl (.int .u8)))) l),.c (i6 m),.c (.sl (.int .u8) a)],[]=>F b d e f g h i j l m a (fun r=>match r with | (n,o)=>k (.tup [(false,[.own 0]),(false,[i6 n])],[.vec 53 (.pair (.int .i64) (.pair (.int .i64) (.pair (.int .i64) (.pair .bool (.pair (.int .i64) (.pair (.int .i64) (.pair (.int .i64) (.pair (.int .i64) (.sl (.int .u8)))))))))) o true])) | _,_=>none
theorem ok27 (fuel:Nat):FnOK Tryz.prog 27 (spg27 (F_ref10_Decode fuel)):=by
  intro args objs kk r h
  unfold spg27 at h
  split at h
  · skip
    exact fo1 (hG27 fuel) Tryz.func27 rfl (B27_0_blk fuel) (by kernel_rfl) _ _ kk r ((F27_eqg fuel (F_ref02_NewDecoder fuel) (F_ref10_asked fuel) (F_ref10_Model fuel) (F_ref10_reader_number_986 fuel) (F_ref10_isShift fuel) (F_ref10_reader_line_daf fuel) _ _ _ _ _ _ _ _ _ _ _ kk).trans h)
  · cases h
def kp38 (i:Nat):Option (List Nat):=Ev.look i [(4,[2,3,29,30]),(100000,[]),(200006,[2,3]),(400000,[4])]
def Gg38 (f:Nat):Option Ev.Spec:=Ev.look f []
def G38 (fuel:Nat):Nat→Option Ev.Spec:=Gg38
abbrev V_ref06_SameBitmap_0:Type:=Int×Int×Int×Int×LI×Int×Int×LI
abbrev W_ref06_SameBitmap_0:Type:=(Bool→OA)×(Unit→OA)
def S_ref06_SameBitmap_0 (fuel:Nat) (v:Int×Int×Int×Int×(List Int)×Int×Int×(List Int)) (c:(Int×Int×Int×Int×(List Int)×Int×Int×(List Int))→Option Ans) (B:(Bool→Option Ans)×(Unit→Option Ans)):Option Ans:=match v,B with | (f,a,g,h,d,i,j,e),(ret,b)=>bif decide (a < f) then bif decide ((0:Int)≤a∧a < (↑d.length:Int)) then bif decide ((0:Int)≤a∧a < (↑e.length:Int)) then bif d.getD a.toNat (0:Int) != e.getD a.toNat (0:Int) then ret false else c (f,i64.wrap (a+(1:Int)),g,h,d,i,j,e) else none else none else b ()
def L_ref06_SameBitmap_0 (fuel:Nat) (v:V_ref06_SameBitmap_0) (ret:(Bool→Option Ans)) (b:(Unit→Option Ans)):Option Ans:=iter (S_ref06_SameBitmap_0 fuel) fuel v (ret,b)
def T38_0 (v:V_ref06_SameBitmap_0):Ev.St:=match v with | (a,b,d,e,f,g,h,i)=>⟨[(2,.c (.ptr 0 0)),(3,.c (.ptr 1 0)),(29,.c (i6 a)),(30,.c (i6 b))],[(0,.cells 51 [i6 d,i6 e,.sl (.int .u8) f]),(1,.cells 51 [i6 g,i6 h,.sl (.int .u8) i])],2,0⟩
def E38_0 (K:KT):W_ref06_SameBitmap_0:=((fun v=>match v with | a=>K .ret ⟨[(4,.c (.bool a))],[],0,0⟩),(fun v=>match v with | ()=>K .normal ⟨[],[],0,0⟩))
theorem S38_0_ok (fuel:Nat) (R:Ev.St→OA) (K:KT) (a b:Int) (c d:Int) (e:LI) (f g:Int) (h:LI):evalCode tab (G38 fuel) J0 kp38 fuel (bodyOf 0 Tryz.f38) (T38_0 (a,b,c,d,e,f,g,h)) (lc kp38 4 0 R K)=S_ref06_SameBitmap_0 fuel (a,b,c,d,e,f,g,h) (fun v=>R (T38_0 v)) (E38_0 K):=by
  kernel_rfl
def B38_0 (fuel:Nat):Ev.Blk:=fun st K=>match canonO (kp38 4) st with | some s=>(match s with | ⟨[(f,.c (.ptr g h)),(i,.c (.ptr j k)),(l,.c (i6 m)),(n,.c (i6 o))],[(p,.cells q [i6 r,i6 t,.sl (.int .u8) u]),(a,.cells b [i6 v,i6 w,.sl (.int .u8) x])],d,e⟩=>bif qb [f,g,h,i,j,k,l,n,p,q,a,b,d,e] [2,0,0,3,1,0,29,30,0,51,1,51,2,0] then iter (S_ref06_SameBitmap_0 fuel) fuel (m,o,r,t,u,v,w,x) (E38_0 K) else none | _=>none) | none=>none
theorem B38_0_ok (fuel:Nat) (st:Ev.St) (K:KT) (r:Ans) (h:B38_0 fuel st K=some r):evalCode tab (G38 fuel) J0 kp38 fuel (.block 0 (.loop (bodyOf 0 Tryz.f38))) st K=some r:=by
  unfold B38_0 at h
  split at h
  · rename_i s hs
    split at h
    · skip
      obtain ⟨hb,h⟩:=cond_some' h
      cases qb_eq hb
      exact blk_loop (S:=T38_0) (ks:=E38_0) (step:=S_ref06_SameBitmap_0 fuel) (v:=(_,_,_,_,_,_,_,_)) (by kernel_rfl) (by kernel_rfl) (fun R K v=>by obtain ⟨a,b,c,d,e,f,g,i⟩:=v; exact S38_0_ok fuel R K a b c d e f g i) hs h
    · cases h
  · cases h
def J38 (fuel:Nat) (i:Nat):Option Ev.Blk:=Ev.look i [(100000,B38_0 fuel)]
def F_ref06_SameBitmap (fuel:Nat) (b c:Int) (a:(List Int)) (d e:Int) (f:(List Int)) (k0:(Bool)→Option Ans):Option Ans:=bif b != d then k0 false else bif c != e then k0 false else bif (↑a.length:Int) != (↑f.length:Int) then k0 false else (L_ref06_SameBitmap_0 fuel ((↑a.length:Int),0,b,c,a,d,e,f) (fun ret0_0=>k0 ret0_0) (fun ()=>k0 true))
abbrev YF38:Type:=Int→Int→LI→Int→Int→LI→(Bool→Option Ans)→Option Ans
theorem F38_eq (fuel:Nat) (a b:Int) (d:LI) (e f:Int) (g:LI) (k:Ev.Cont):evalFn tab (G38 fuel) (J38 fuel) kp38 fuel Tryz.f38 [.agg [i6 a,i6 b,.sl (.int .u8) d],.agg [i6 e,i6 f,.sl (.int .u8) g]] [] k=F_ref06_SameBitmap fuel a b d e f g (fun r=>match r with | h=>k (.c (.bool h),[])):=by
  kernel_rfl
theorem hG38 (fuel:Nat):GOK Tryz.prog (G38 fuel):=
  gok_nil
theorem B38_0_blk (fuel:Nat):BlkOK Tryz.prog Tryz.f38.ntmps (.block 0 (.loop (bodyOf 0 Tryz.f38))) (B38_0 fuel):=bo0 (hG38 fuel) (by kernel_rfl) (by kernel_rfl) (B38_0_ok fuel)
def spg38 (F:YF38):Ev.Spec:=fun args objs k=>match args,objs with | [.agg [i6 a,i6 b,.sl (.int .u8) d],.agg [i6 e,i6 f,.sl (.int .u8) g]],[]=>F a b d e f g (fun r=>match r with | h=>k (.c (.bool h),[])) | _,_=>none
theorem ok38 (fuel:Nat):FnOK Tryz.prog 38 (spg38 (F_ref06_SameBitmap fuel)):=by
  intro args objs kk r h
  unfold spg38 at h
  split at h
  · skip
    exact fo1 (hG38 fuel) Tryz.func38 rfl (B38_0_blk fuel) (by kernel_rfl) _ _ kk r ((F38_eq fuel _ _ _ _ _ _ kk).trans h)
  · cases h
def kp35 (i:Nat):Option (List Nat):=Ev.look i []
def Gg35 (a:YF38) (f:Nat):Option Ev.Spec:=Ev.look f [(38,spg38 a)]
def G35 (fuel:Nat):Nat→Option Ev.Spec:=Gg35 (F_ref06_SameBitmap fuel)
def Fg_ref10_SameItem (fuel:Nat) (a:YF38) (j k l:Int) (m:Bool) (n o:Int) (p q:Int) (r:LI) (s b c:Int) (d:Bool) (e f:Int) (g h:Int) (i:LI) (k0:(Bool)→OA):OA:=bif j==s then bif k==b then bif l==c then bif m==d then bif n==e then bif o==f then (a p q r g h i (fun t=>k0 t)) else k0 false else k0 false else k0 false else k0 false else k0 false else k0 false
abbrev YF35:Type:=Int→Int→Int→Bool→Int→Int→Int→Int→LI→Int→Int→Int→Bool→Int→Int→Int→Int→LI→(Bool→Option Ans)→Option Ans
def F_ref10_SameItem (fuel:Nat):YF35:=Fg_ref10_SameItem fuel (F_ref06_SameBitmap fuel)
theorem F35_eqg (fuel:Nat) (a:YF38) (l m n:Int) (o:Bool) (p q:Int) (s t:Int) (u:LI) (v b d:Int) (e:Bool) (f g:Int) (h i:Int) (j:LI) (k:Ev.Cont):evalFn tab (Gg35 a) J0 kp35 fuel Tryz.f35 [.agg [i6 l,i6 m,i6 n,.bool o,i6 p,i6 q,i6 s,i6 t,.sl (.int .u8) u],.agg [i6 v,i6 b,i6 d,.bool e,i6 f,i6 g,i6 h,i6 i,.sl (.int .u8) j]] [] k=Fg_ref10_SameItem fuel a l m n o p q s t u v b d e f g h i j (fun r=>match r with | w=>k (.c (.bool w),[])):=by
  kernel_rfl
theorem hG35 (fuel:Nat):GOK Tryz.prog (G35 fuel):=
  gc (ok38 fuel) Tryz.func38 (by kernel_rfl) rfl <|
  gok_nil
def spg35 (F:YF35):Ev.Spec:=fun args objs k=>match args,objs with | [.agg [i6 j,i6 l,i6 m,.bool n,i6 o,i6 p,i6 q,i6 s,.sl (.int .u8) t],.agg [i6 u,i6 a,i6 b,.bool d,i6 e,i6 f,i6 g,i6 h,.sl (.int .u8) i]],[]=>F j l m n o p q s t u a b d e f g h i (fun r=>match r with | v=>k (.c (.bool v),[])) | _,_=>none
theorem ok35 (fuel:Nat):FnOK Tryz.prog 35 (spg35 (F_ref10_SameItem fuel)):=by
  intro args objs kk r h
  unfold spg35 at h
  split at h
  · skip
    exact fo0 (hG35 fuel) Tryz.func35 rfl (by kernel_rfl) _ _ kk r ((F35_eqg fuel (F_ref06_SameBitmap fuel) _ _ _ _ _ _ _ _ _ _ _ _ _ _ _ _ _ _ kk).trans h)
  · cases h
def kp28 (i:Nat):Option (List Nat):=Ev.look i [(4,[0,1,12,13]),(100000,[]),(200006,[0,1]),(400000,[4])]
def Gg28 (a:YF35) (f:Nat):Option Ev.Spec:=Ev.look f [(35,spg35 a)]
def G28 (fuel:Nat):Nat→Option Ev.Spec:=Gg28 (F_ref10_SameItem fuel)
abbrev V_ref10_SameItems_0:Type:=(List (Int×(Int×(Int×(Bool×(Int×(Int×(Int×(Int×LI)))))))))×(List (Int×(Int×(Int×(Bool×(Int×(Int×(Int×(Int×LI)))))))))×Int×Int
abbrev W_ref10_SameItems_0:Type:=(Bool→OA)×(Unit→OA)
def Sg_ref10_SameItems_0 (fuel:Nat) (g:YF35) (d:(List (Int×(Int×(Int×(Bool×(Int×(Int×(Int×(Int×LI)))))))))) (e:(List (Int×(Int×(Int×(Bool×(Int×(Int×(Int×(Int×LI)))))))))) (f a:Int) (c:V_ref10_SameItems_0→OA) (B:W_ref10_SameItems_0):OA:=match B with | (ret,b)=>bif decide (a < f) then bif decide (0≤a∧a < (↑d.length:Int)) then bif decide (0≤a∧a < (↑e.length:Int)) then (g ((d.getD a.toNat (0,0,0,false,0,0,0,0,[])).fst) ((d.getD a.toNat (0,0,0,false,0,0,0,0,[])).snd.fst) ((d.getD a.toNat (0,0,0,false,0,0,0,0,[])).snd.snd.fst) ((d.getD a.toNat (0,0,0,false,0,0,0,0,[])).snd.snd.snd.fst) ((d.getD a.toNat (0,0,0,false,0,0,0,0,[])).snd.snd.snd.snd.fst) ((d.getD a.toNat (0,0,0,false,0,0,0,0,[])).snd.snd.snd.snd.snd.fst) ((d.getD a.toNat (0,0,0,false,0,0,0,0,[])).snd.snd.snd.snd.snd.snd.fst) ((d.getD a.toNat (0,0,0,false,0,0,0,0,[])).snd.snd.snd.snd.snd.snd.snd.fst) ((d.getD a.toNat (0,0,0,false,0,0,0,0,[])).snd.snd.snd.snd.snd.snd.snd.snd) ((e.getD a.toNat (0,0,0,false,0,0,0,0,[])).fst) ((e.getD a.toNat (0,0,0,false,0,0,0,0,[])).snd.fst) ((e.getD a.toNat (0,0,0,false,0,0,0,0,[])).snd.snd.fst) ((e.getD a.toNat (0,0,0,false,0,0,0,0,[])).snd.snd.snd.fst) ((e.getD a.toNat (0,0,0,false,0,0,0,0,[])).snd.snd.snd.snd.fst) ((e.getD a.toNat (0,0,0,false,0,0,0,0,[])).snd.snd.snd.snd.snd.fst) ((e.getD a.toNat (0,0,0,false,0,0,0,0,[])).snd.snd.snd.snd.snd.snd.fst) ((e.getD a.toNat (0,0,0,false,0,0,0,0,[])).snd.snd.snd.snd.snd.snd.snd.fst) ((e.getD a.toNat (0,0,0,false,0,0,0,0,[])).snd.snd.snd.snd.snd.snd.snd.snd) (fun h=>bif !h then ret false else c (d,e,f,i64.wrap (a+1)))) else none else none else b ()
def S_ref10_SameItems_0 (fuel:Nat) (v:(List (Int×(Int×(Int×(Bool×(Int×(Int×(Int×(Int×(List Int))))))))))×(List (Int×(Int×(Int×(Bool×(Int×(Int×(Int×(Int×(List Int))))))))))×Int×Int) (c:((List (Int×(Int×(Int×(Bool×(Int×(Int×(Int×(Int×(List Int))))))))))×(List (Int×(Int×(Int×(Bool×(Int×(Int×(Int×(Int×(List Int))))))))))×Int×Int)→Option Ans) (B:(Bool→Option Ans)×(Unit→Option Ans)):Option Ans:=match v with | (a,b,d,e)=>Sg_ref10_SameItems_0 fuel (F_ref10_SameItem fuel) a b d e c B
def L_ref10_SameItems_0 (fuel:Nat) (v:V_ref10_SameItems_0) (ret:(Bool→Option Ans)) (b:(Unit→Option Ans)):Option Ans:=iter (S_ref10_SameItems_0 fuel) fuel v (ret,b)
def T28_0 (v:V_ref10_SameItems_0):Ev.St:=match v with | (a,b,d,e)=>⟨[(0,.c (.sl (.pair (.int .i64) (.pair (.int .i64) (.pair (.int .i64) (.pair .bool (.pair (.int .i64) (.pair (.int .i64) (.pair (.int .i64) (.pair (.int .i64) (.sl (.int .u8)))))))))) a)),(1,.c (.sl (.pair (.int .i64) (.pair (.int .i64) (.pair (.int .i64) (.pair .bool (.pair (.int .i64) (.pair (.int .i64) (.pair (.int .i64) (.pair (.int .i64) (.sl (.int .u8)))))))))) b)),(12,.c (i6 d)),(13,.c (i6 e))],[],0,0⟩
def E28_0 (K:KT):W_ref10_SameItems_0:=((fun v=>match v with | a=>K .ret ⟨[(4,.c (.bool a))],[],0,0⟩),(fun v=>match v with | ()=>K .normal ⟨[],[],0,0⟩))
theorem S28_0_okg (fuel:Nat) (a:YF35) (R:Ev.St→OA) (K:KT) (b:(List (Int×(Int×(Int×(Bool×(Int×(Int×(Int×(Int×LI)))))))))) (c:(List (Int×(Int×(Int×(Bool×(Int×(Int×(Int×(Int×LI)))))))))) (d e:Int):evalCode tab (Gg28 a) J0 kp28 fuel (bodyOf 0 Tryz.f28) (T28_0 (b,c,d,e)) (lc kp28 4 0 R K)=Sg_ref10_SameItems_0 fuel a b c d e (fun v=>R (T28_0 v)) (E28_0 K):=by
  kernel_rfl
def B28_0 (fuel:Nat):Ev.Blk:=fun st K=>match canonO (kp28 4) st with | some s=>(match s with | ⟨[(a,.c (.sl (.pair (.int .i64) (.pair (.int .i64) (.pair (.int .i64) (.pair .bool (.pair (.int .i64) (.pair (.int .i64) (.pair (.int .i64) (.pair (.int .i64) (.sl (.int .u8)))))))))) b)),(d,.c (.sl (.pair (.int .i64) (.pair (.int .i64) (.pair (.int .i64) (.pair .bool (.pair (.int .i64) (.pair (.int .i64) (.pair (.int .i64) (.pair (.int .i64) (.sl (.int .u8)))))))))) e)),(f,.c (i6 g)),(h,.c (i6 i))],[],j,k⟩=>bif qb [a,d,f,h,j,k] [0,1,12,13,0,0] then iter (S_ref10_SameItems_0 fuel) fuel (b,e,g,i) (E28_0 K) else none | _=>none) | none=>none
theorem B28_0_ok (fuel:Nat) (st:Ev.St) (K:KT) (r:Ans) (h:B28_0 fuel st K=some r):evalCode tab (G28 fuel) J0 kp28 fuel (.block 0 (.loop (bodyOf 0 Tryz.f28))) st K=some r:=by
  unfold B28_0 at h
  split at h
  · rename_i s hs
    split at h
    · skip
      obtain ⟨hb,h⟩:=cond_some' h
      cases qb_eq hb
      exact blk_loop (S:=T28_0) (ks:=E28_0) (step:=S_ref10_SameItems_0 fuel) (v:=(_,_,_,_)) (by kernel_rfl) (by kernel_rfl) (fun R K v=>by obtain ⟨a,b,c,d⟩:=v; exact S28_0_okg fuel (F_ref10_SameItem fuel) R K a b c d) hs h
    · cases h
  · cases h
def J28 (fuel:Nat) (i:Nat):Option Ev.Blk:=Ev.look i [(100000,B28_0 fuel)]
def Fg_ref10_SameItems (fuel:Nat) (c:YF35) (a:(List (Int×Int×Int×Bool×Int×Int×(Int×Int×LI)))) (b:(List (Int×Int×Int×Bool×Int×Int×(Int×Int×LI)))) (k0:(Bool)→OA):OA:=bif (↑a.length:Int) != (↑b.length:Int) then k0 false else (L_ref10_SameItems_0 fuel (a,b,(↑a.length:Int),0) (fun ret0_0=>k0 ret0_0) (fun ()=>k0 true))
abbrev YF28:Type:=((List (Int×Int×Int×Bool×Int×Int×(Int×Int×LI))))→((List (Int×Int×Int×Bool×Int×Int×(Int×Int×LI))))→(Bool→Option Ans)→Option Ans
def F_ref10_SameItems (fuel:Nat):YF28:=Fg_ref10_SameItems fuel (F_ref10_SameItem fuel)
theorem F28_eqg (fuel:Nat) (a:YF35) (b:(List (Int×Int×Int×Bool×Int×Int×(Int×Int×LI)))) (d:(List (Int×Int×Int×Bool×Int×Int×(Int×Int×LI)))) (k:Ev.Cont):evalFn tab (Gg28 a) (J28 fuel) kp28 fuel Tryz.f28 [.c (.sl (.pair (.int .i64) (.pair (.int .i64) (.pair (.int .i64) (.pair .bool (.pair (.int .i64) (.pair (.int .i64) (.pair (.int .i64) (.pair (.int .i64) (.sl (.int .u8)))))))))) b),.c (.sl (.pair (.int .i64) (.pair (.int .i64) (.pair (.int .i64) (.pair .bool (.pair (.int .i64) (.pair (.int .i64) (.pair (.int .i64) (.pair (.int .i64) (.sl (.int .u8)))))))))) d)] [] k=Fg_ref10_SameItems fuel a b d (fun r=>match r with | e=>k (.c (.bool e),[])):=by
  kernel_rfl
theorem hG28 (fuel:Nat):GOK Tryz.prog (G28 fuel):=
  gc (ok35 fuel) Tryz.func35 (by kernel_rfl) rfl <|
  gok_nil
theorem B28_0_blk (fuel:Nat):BlkOK Tryz.prog Tryz.f28.ntmps (.block 0 (.loop (bodyOf 0 Tryz.f28))) (B28_0 fuel):=bo0 (hG28 fuel) (by kernel_rfl) (by kernel_rfl) (B28_0_ok fuel)
def spg28 (F:YF28):Ev.Spec:=fun args objs k=>match args,objs with | [.c (.sl (.pair (.int .i64) (.pair (.int .i64) (.pair (.int .i64) (.pair .bool (.pair (.int .i64) (.pair (.int .i64) (.pair (.int .i64) (.pair (.int .i64) (.sl (.int .u8)))))))))) a),.c (.sl (.pair (.int .i64) (.pair (.int .i64) (.pair (.int .i64) (.pair .bool (.pair (.int .i64) (.pair (.int .i64) (.pair (.int .i64) (.pair (.int .i64) (.sl (.int .u8)))))))))) b)],[]=>F a b (fun r=>match r with | d=>k (.c (.bool d),[])) | _,_=>none
theorem ok28 (fuel:Nat):FnOK Tryz.prog 28 (spg28 (F_ref10_SameItems fuel)):=by
  intro args objs kk r h
  unfold spg28 at h
  split at h
  · skip
    exact fo1 (hG28 fuel) Tryz.func28 rfl (B28_0_blk fuel) (by kernel_rfl) _ _ kk r ((F28_eqg fuel (F_ref10_SameItem fuel) _ _ kk).trans h)
  · cases h
def kp212 (i:Nat):Option (List Nat):=Ev.look i []
def Gg212 (f:Nat):Option Ev.Spec:=Ev.look f []
def G212 (fuel:Nat):Nat→Option Ev.Spec:=Gg212
def F_bitmap_fits (fuel:Nat) (a b:Int) (k0:(Bool)→Option Ans):Option Ans:=bif decide (a≥0) then bif decide (b≥0) then bif decide (a≤200) then bif decide (b≤200) then k0 (decide (i64.wrap (a*b)≤8192)) else k0 false else k0 false else k0 false else k0 false
abbrev YF212:Type:=Int→Int→(Bool→Option Ans)→Option Ans
theorem F212_eq (fuel:Nat) (a b:Int) (k:Ev.Cont):evalFn tab (G212 fuel) J0 kp212 fuel Tryz.f212 [.c (i6 a),.c (i6 b)] [] k=F_bitmap_fits fuel a b (fun r=>match r with | d=>k (.c (.bool d),[])):=by
  kernel_rfl
theorem hG212 (fuel:Nat):GOK Tryz.prog (G212 fuel):=
  gok_nil
def spg212 (F:YF212):Ev.Spec:=fun args objs k=>match args,objs with | [.c (i6 a),.c (i6 b)],[]=>F a b (fun r=>match r with | d=>k (.c (.bool d),[])) | _,_=>none
theorem ok212 (fuel:Nat):FnOK Tryz.prog 212 (spg212 (F_bitmap_fits fuel)):=by
  intro args objs kk r h
  unfold spg212 at h
  split at h
  · skip
    exact fo0 (hG212 fuel) Tryz.func212 rfl (by kernel_rfl) _ _ kk r ((F212_eq fuel _ _ kk).trans h)
  · cases h
def kp122 (i:Nat):Option (List Nat):=Ev.look i [(4,[23,24,25]),(100000,[]),(400000,[2])]
def Gg122 (a:YF212) (f:Nat):Option Ev.Spec:=Ev.look f [(212,spg212 a)]
def G122 (fuel:Nat):Nat→Option Ev.Spec:=Gg122 (F_bitmap_fits fuel)
def Sg_bitmap_Valid_0 (fuel:Nat) (f:YF212) (d:LI) (e a:Int) (c:(LI×Int×Int)→OA) (B:(Bool→OA)×(Unit→OA)):OA:=match B with | (ret,b)=>bif decide (a < e) then bif decide (0≤a∧a < (↑d.length:Int)) then bif decide (d.getD a.toNat (0:Int) > (1:Int)) then ret false else c (d,e,i64.wrap (a+1)) else none else b ()
def S_bitmap_Valid_0 (fuel:Nat) (v:(List Int)×Int×Int) (c:((List Int)×Int×Int)→Option Ans) (B:(Bool→Option Ans)×(Unit→Option Ans)):Option Ans:=match v with | (a,b,d)=>Sg_bitmap_Valid_0 fuel (F_bitmap_fits fuel) a b d c B
def L_bitmap_Valid_0 (fuel:Nat) (v:(List Int)×Int×Int) (ret:(Bool→Option Ans)) (b:(Unit→Option Ans)):Option Ans:=iter (S_bitmap_Valid_0 fuel) fuel v (ret,b)
def T122_0 (v:LI×Int×Int):Ev.St:=match v with | (a,b,d)=>⟨[(23,.c (.sl (.int .u8) a)),(24,.c (i6 b)),(25,.c (i6 d))],[],0,0⟩
def E122_0 (K:KT):(Bool→OA)×(Unit→OA):=((fun v=>match v with | a=>K .ret ⟨[(2,.c (.bool a))],[],0,0⟩),(fun v=>match v with | ()=>K .normal ⟨[],[],0,0⟩))
theorem S122_0_okg (fuel:Nat) (a:YF212) (R:Ev.St→OA) (K:KT) (b:LI) (c d:Int):evalCode tab (Gg122 a) J0 kp122 fuel (bodyOf 0 Tryz.f122) (T122_0 (b,c,d)) (lc kp122 4 0 R K)=Sg_bitmap_Valid_0 fuel a b c d (fun v=>R (T122_0 v)) (E122_0 K):=by
  kernel_rfl
def B122_0 (fuel:Nat):Ev.Blk:=fun st K=>match canonO (kp122 4) st with | some s=>(match s with | ⟨[(a,.c (.sl (.int .u8) b)),(d,.c (i6 e)),(f,.c (i6 g))],[],h,i⟩=>bif qb [a,d,f,h,i] [23,24,25,0,0] then iter (S_bitmap_Valid_0 fuel) fuel (b,e,g) (E122_0 K) else none | _=>none) | none=>none
theorem B122_0_ok (fuel:Nat) (st:Ev.St) (K:KT) (r:Ans) (h:B122_0 fuel st K=some r):evalCode tab (G122 fuel) J0 kp122 fuel (.block 0 (.loop (bodyOf 0 Tryz.f122))) st K=some r:=by
  unfold B122_0 at h
  split at h
  · rename_i s hs
    split at h
    · skip
      obtain ⟨hb,h⟩:=cond_some' h
      cases qb_eq hb
      exact blk_loop (S:=T122_0) (ks:=E122_0) (step:=S_bitmap_Valid_0 fuel) (v:=(_,_,_)) (by kernel_rfl) (by kernel_rfl) (fun R K v=>by obtain ⟨a,b,c⟩:=v; exact S122_0_okg fuel (F_bitmap_fits fuel) R K a b c) hs h
    · cases h
  · cases h
def J122 (fuel:Nat) (i:Nat):Option Ev.Blk:=Ev.look i [(100000,B122_0 fuel)]
def Fg_bitmap_Valid (fuel:Nat) (d:YF212) (b c:Int) (a:LI) (k0:(Bool)→OA):OA:=(d b c (fun e=>bif !e then k0 false else bif (↑a.length:Int) != i64.wrap (b*c) then k0 false else (L_bitmap_Valid_0 fuel (a,(↑a.length:Int),0) (fun ret0_0=>k0 ret0_0) (fun ()=>k0 true))))
abbrev YF122:Type:=Int→Int→LI→(Bool→Option Ans)→Option Ans
def F_bitmap_Valid (fuel:Nat):YF122:=Fg_bitmap_Valid fuel (F_bitmap_fits fuel)
theorem F122_eqg (fuel:Nat) (a:YF212) (b d:Int) (e:LI) (k:Ev.Cont):evalFn tab (Gg122 a) (J122 fuel) kp122 fuel Tryz.f122 [.agg [i6 b,i6 d,.sl (.int .u8) e]] [] k=Fg_bitmap_Valid fuel a b d e (fun r=>match r with | f=>k (.c (.bool f),[])):=by
  kernel_rfl
theorem hG122 (fuel:Nat):GOK Tryz.prog (G122 fuel):=
  gc (ok212 fuel) Tryz.func212 (by kernel_rfl) rfl <|
  gok_nil
theorem B122_0_blk (fuel:Nat):BlkOK Tryz.prog Tryz.f122.ntmps (.block 0 (.loop (bodyOf 0 Tryz.f122))) (B122_0 fuel):=bo0 (hG122 fuel) (by kernel_rfl) (by kernel_rfl) (B122_0_ok fuel)
def spg122 (F:YF122):Ev.Spec:=fun args objs k=>match args,objs with | [.agg [i6 a,i6 b,.sl (.int .u8) d]],[]=>F a b d (fun r=>match r with | e=>k (.c (.bool e),[])) | _,_=>none
theorem ok122 (fuel:Nat):FnOK Tryz.prog 122 (spg122 (F_bitmap_Valid fuel)):=by
  intro args objs kk r h
  unfold spg122 at h
  split at h
  · skip
    exact fo1 (hG122 fuel) Tryz.func122 rfl (B122_0_blk fuel) (by kernel_rfl) _ _ kk r ((F122_eqg fuel (F_bitmap_fits fuel) _ _ _ kk).trans h)
  · cases h
def kp160 (i:Nat):Option (List Nat):=Ev.look i []
def Gg160 (a:YF122) (f:Nat):Option Ev.Spec:=Ev.look f [(122,spg122 a)]
def G160 (fuel:Nat):Nat→Option Ev.Spec:=Gg160 (F_bitmap_Valid fuel)
def Fg_text_isShape (fuel:Nat) (c:YF122) (a b:Int) (d:LI) (k0:(Bool)→OA):OA:=(c a b d (fun e=>bif e then bif decide (a≥1) then bif decide (a≤40) then bif decide (b≥1) then k0 (decide (b≤40)) else k0 false else k0 false else k0 false else k0 false))
abbrev YF160:Type:=Int→Int→LI→(Bool→Option Ans)→Option Ans
def F_text_isShape (fuel:Nat):YF160:=Fg_text_isShape fuel (F_bitmap_Valid fuel)
theorem F160_eqg (fuel:Nat) (a:YF122) (b d:Int) (e:LI) (k:Ev.Cont):evalFn tab (Gg160 a) J0 kp160 fuel Tryz.f160 [.agg [i6 b,i6 d,.sl (.int .u8) e]] [] k=Fg_text_isShape fuel a b d e (fun r=>match r with | f=>k (.c (.bool f),[])):=by
  kernel_rfl
theorem hG160 (fuel:Nat):GOK Tryz.prog (G160 fuel):=
  gc (ok122 fuel) Tryz.func122 (by kernel_rfl) rfl <|
  gok_nil
def spg160 (F:YF160):Ev.Spec:=fun args objs k=>match args,objs with | [.agg [i6 a,i6 b,.sl (.int .u8) d]],[]=>F a b d (fun r=>match r with | e=>k (.c (.bool e),[])) | _,_=>none
theorem ok160 (fuel:Nat):FnOK Tryz.prog 160 (spg160 (F_text_isShape fuel)):=by
  intro args objs kk r h
  unfold spg160 at h
  split at h
  · skip
    exact fo0 (hG160 fuel) Tryz.func160 rfl (by kernel_rfl) _ _ kk r ((F160_eqg fuel (F_bitmap_Valid fuel) _ _ _ kk).trans h)
  · cases h
def kp159 (i:Nat):Option (List Nat):=Ev.look i []
def Gg159 (a:YF160) (f:Nat):Option Ev.Spec:=Ev.look f [(160,spg160 a)]
def G159 (fuel:Nat):Nat→Option Ev.Spec:=Gg159 (F_text_isShape fuel)
def Fg_text_begun_1 (fuel:Nat) (a:YF160) (b c:Int) (d:LI) (k0:(Bool)→OA):OA:=(a b c d (fun e=>k0 !e))
abbrev YF159:Type:=Int→Int→LI→(Bool→Option Ans)→Option Ans
def F_text_begun_1 (fuel:Nat):YF159:=Fg_text_begun_1 fuel (F_text_isShape fuel)
theorem F159_eqg (fuel:Nat) (a:YF160) (b d:Int) (e:LI) (k:Ev.Cont):evalFn tab (Gg159 a) J0 kp159 fuel Tryz.f159 [.agg [i6 b,i6 d,.sl (.int .u8) e]] [] k=Fg_text_begun_1 fuel a b d e (fun r=>match r with | f=>k (.c (.bool f),[])):=by
  kernel_rfl
theorem hG159 (fuel:Nat):GOK Tryz.prog (G159 fuel):=
  gc (ok160 fuel) Tryz.func160 (by kernel_rfl) rfl <|
  gok_nil
def spg159 (F:YF159):Ev.Spec:=fun args objs k=>match args,objs with | [.agg [i6 a,i6 b,.sl (.int .u8) d]],[]=>F a b d (fun r=>match r with | e=>k (.c (.bool e),[])) | _,_=>none
theorem ok159 (fuel:Nat):FnOK Tryz.prog 159 (spg159 (F_text_begun_1 fuel)):=by
  intro args objs kk r h
  unfold spg159 at h
  split at h
  · skip
    exact fo0 (hG159 fuel) Tryz.func159 rfl (by kernel_rfl) _ _ kk r ((F159_eqg fuel (F_text_isShape fuel) _ _ _ kk).trans h)
  · cases h
def kp226_261 (i:Nat):Option (List Nat):=Ev.look i [(2,[0,1,7,8]),(100000,[]),(400000,[4])]
def Gg226_261 (a:YF159) (f:Nat):Option Ev.Spec:=Ev.look f [(159,spg159 a)]
def G226_261 (fuel:Nat):Nat→Option Ev.Spec:=Gg226_261 (F_text_begun_1 fuel)
abbrev V_slices_IndexFunc_api_Bitmap_api_Bitmap_261_0:Type:=(List (Int×(Int×LI)))×Int×Int
abbrev W_slices_IndexFunc_api_Bitmap_api_Bitmap_261_0:Type:=(Int→OA)×(Unit→OA)
def Sg_slices_IndexFunc_api_Bitmap_api_Bitmap_261_0 (fuel:Nat) (f:YF159) (d:(List (Int×(Int×LI)))) (e a:Int) (c:V_slices_IndexFunc_api_Bitmap_api_Bitmap_261_0→OA) (B:W_slices_IndexFunc_api_Bitmap_api_Bitmap_261_0):OA:=match B with | (ret,b)=>bif decide (a < e) then bif decide (0≤a∧a < (↑d.length:Int)) then (f ((d.getD a.toNat (0,0,[])).fst) ((d.getD a.toNat (0,0,[])).snd.fst) ((d.getD a.toNat (0,0,[])).snd.snd) (fun g=>bif g then ret a else c (d,e,i64.wrap (a+1)))) else none else b ()
def S_slices_IndexFunc_api_Bitmap_api_Bitmap_261_0 (fuel:Nat) (v:(List (Int×(Int×(List Int))))×Int×Int) (c:((List (Int×(Int×(List Int))))×Int×Int)→Option Ans) (B:(Int→Option Ans)×(Unit→Option Ans)):Option Ans:=match v with | (a,b,d)=>Sg_slices_IndexFunc_api_Bitmap_api_Bitmap_261_0 fuel (F_text_begun_1 fuel) a b d c B
def L_slices_IndexFunc_api_Bitmap_api_Bitmap_261_0 (fuel:Nat) (v:V_slices_IndexFunc_api_Bitmap_api_Bitmap_261_0) (ret:(Int→Option Ans)) (b:(Unit→Option Ans)):Option Ans:=iter (S_slices_IndexFunc_api_Bitmap_api_Bitmap_261_0 fuel) fuel v (ret,b)
def T226_261_0 (v:V_slices_IndexFunc_api_Bitmap_api_Bitmap_261_0):Ev.St:=match v with | (a,b,d)=>⟨[(0,.c (.sl (.pair (.int .i64) (.pair (.int .i64) (.sl (.int .u8)))) a)),(1,.c (.clo 159 [])),(7,.c (i6 b)),(8,.c (i6 d))],[],0,0⟩
def E226_261_0 (K:KT):W_slices_IndexFunc_api_Bitmap_api_Bitmap_261_0:=((fun v=>match v with | a=>K .ret ⟨[(4,.c (i6 a))],[],0,0⟩),(fun v=>match v with | ()=>K .normal ⟨[],[],0,0⟩))
theorem S226_261_0_okg (fuel:Nat) (a:YF159) (R:Ev.St→OA) (K:KT) (b:(List (Int×(Int×LI)))) (c d:Int):evalCode tab (Gg226_261 a) J0 kp226_261 fuel (bodyOf 0 Tryz.f226) (T226_261_0 (b,c,d)) (lc kp226_261 2 0 R K)=Sg_slices_IndexFunc_api_Bitmap_api_Bitmap_261_0 fuel a b c d (fun v=>R (T226_261_0 v)) (E226_261_0 K):=by
  kernel_rfl
def B226_261_0 (fuel:Nat):Ev.Blk:=fun st K=>match canonO (kp226_261 2) st with | some s=>(match s with | ⟨[(a,.c (.sl (.pair (.int .i64) (.pair (.int .i64) (.sl (.int .u8)))) b)),(d,.c (.clo e [])),(f,.c (i6 g)),(h,.c (i6 i))],[],j,k⟩=>bif qb [a,d,e,f,h,j,k] [0,1,159,7,8,0,0] then iter (S_slices_IndexFunc_api_Bitmap_api_Bitmap_261_0 fuel) fuel (b,g,i) (E226_261_0 K) else none | _=>none) | none=>none
theorem B226_261_0_ok (fuel:Nat) (st:Ev.St) (K:KT) (r:Ans) (h:B226_261_0 fuel st K=some r):evalCode tab (G226_261 fuel) J0 kp226_261 fuel (.block 0 (.loop (bodyOf 0 Tryz.f226))) st K=some r:=by
  unfold B226_261_0 at h
  split at h
  · rename_i s hs
    split at h
    · skip
      obtain ⟨hb,h⟩:=cond_some' h
      cases qb_eq hb
      exact blk_loop (S:=T226_261_0) (ks:=E226_261_0) (step:=S_slices_IndexFunc_api_Bitmap_api_Bitmap_261_0 fuel) (v:=(_,_,_)) (by kernel_rfl) (by kernel_rfl) (fun R K v=>by obtain ⟨a,b,c⟩:=v; exact S226_261_0_okg fuel (F_text_begun_1 fuel) R K a b c) hs h
    · cases h
  · cases h
def J226_261 (fuel:Nat) (i:Nat):Option Ev.Blk:=Ev.look i [(100000,B226_261_0 fuel)]
def Fg_slices_IndexFunc_api_Bitmap_api_Bitmap_261 (fuel:Nat) (b:YF159) (a:(List (Int×(Int×LI)))) (k0:(Int)→OA):OA:=(L_slices_IndexFunc_api_Bitmap_api_Bitmap_261_0 fuel (a,(↑a.length:Int),0) (fun ret0_0=>k0 ret0_0) (fun ()=>k0 ((-1:Int))))
abbrev YF226_261:Type:=((List (Int×(Int×LI))))→(Int→Option Ans)→Option Ans
def F_slices_IndexFunc_api_Bitmap_api_Bitmap_261 (fuel:Nat):YF226_261:=Fg_slices_IndexFunc_api_Bitmap_api_Bitmap_261 fuel (F_text_begun_1 fuel)
theorem F226_261_eqg (fuel:Nat) (a:YF159) (b:(List (Int×(Int×LI)))) (k:Ev.Cont):evalFn tab (Gg226_261 a) (J226_261 fuel) kp226_261 fuel Tryz.f226 [.c (.sl (.pair (.int .i64) (.pair (.int .i64) (.sl (.int .u8)))) b),.c (.clo 159 [])] [] k=Fg_slices_IndexFunc_api_Bitmap_api_Bitmap_261 fuel a b (fun r=>match r with | d=>k (.c (i6 d),[])):=by
  kernel_rfl
theorem hG226_261 (fuel:Nat):GOK Tryz.prog (G226_261 fuel):=
  gc (ok159 fuel) Tryz.func159 (by kernel_rfl) rfl <|
  gok_nil
theorem B226_261_0_blk (fuel:Nat):BlkOK Tryz.prog Tryz.f226.ntmps (.block 0 (.loop (bodyOf 0 Tryz.f226))) (B226_261_0 fuel):=bo0 (hG226_261 fuel) (by kernel_rfl) (by kernel_rfl) (B226_261_0_ok fuel)
def spg226_261 (F:YF226_261):Ev.Spec:=fun args objs k=>match args,objs with | [.c (.sl (.pair (.int .i64) (.pair (.int .i64) (.sl (.int .u8)))) a),.c (.clo b [])],[]=>bif qb [b] [159] then F a (fun r=>match r with | d=>k (.c (i6 d),[])) else none | _,_=>none
theorem ok226_261 (fuel:Nat):FnOK Tryz.prog 226 (spg226_261 (F_slices_IndexFunc_api_Bitmap_api_Bitmap_261 fuel)):=by
  intro args objs kk r h
  unfold spg226_261 at h
  split at h
  · skip
    obtain ⟨hb,h⟩:=cond_some' h
    cases qb_eq hb
    exact fo1 (hG226_261 fuel) Tryz.func226 rfl (B226_261_0_blk fuel) (by kernel_rfl) _ _ kk r ((F226_261_eqg fuel (F_text_begun_1 fuel) _ kk).trans h)
  · cases h
def kp158_261 (i:Nat):Option (List Nat):=Ev.look i []
def Gg158_261 (a:YF226_261) (f:Nat):Option Ev.Spec:=Ev.look f [(226,spg226_261 a)]
def G158_261 (fuel:Nat):Nat→Option Ev.Spec:=Gg158_261 (F_slices_IndexFunc_api_Bitmap_api_Bitmap_261 fuel)
def Fg_slices_ContainsFunc_api_Bitmap_api_Bitmap_261 (fuel:Nat) (a:YF226_261) (b:(List (Int×(Int×LI)))) (k0:(Bool)→OA):OA:=(a b (fun c=>k0 (decide (c≥0))))
abbrev YF158_261:Type:=((List (Int×(Int×LI))))→(Bool→Option Ans)→Option Ans
def F_slices_ContainsFunc_api_Bitmap_api_Bitmap_261 (fuel:Nat):YF158_261:=Fg_slices_ContainsFunc_api_Bitmap_api_Bitmap_261 fuel (F_slices_IndexFunc_api_Bitmap_api_Bitmap_261 fuel)
theorem F158_261_eqg (fuel:Nat) (a:YF226_261) (b:(List (Int×(Int×LI)))) (k:Ev.Cont):evalFn tab (Gg158_261 a) J0 kp158_261 fuel Tryz.f158 [.c (.sl (.pair (.int .i64) (.pair (.int .i64) (.sl (.int .u8)))) b),.c (.clo 159 [])] [] k=Fg_slices_ContainsFunc_api_Bitmap_api_Bitmap_261 fuel a b (fun r=>match r with | d=>k (.c (.bool d),[])):=by
  kernel_rfl
theorem hG158_261 (fuel:Nat):GOK Tryz.prog (G158_261 fuel):=
  gc (ok226_261 fuel) Tryz.func226 (by kernel_rfl) rfl <|
  gok_nil
def spg158_261 (F:YF158_261):Ev.Spec:=fun args objs k=>match args,objs with | [.c (.sl (.pair (.int .i64) (.pair (.int .i64) (.sl (.int .u8)))) a),.c (.clo b [])],[]=>bif qb [b] [159] then F a (fun r=>match r with | d=>k (.c (.bool d),[])) else none | _,_=>none
theorem ok158_261 (fuel:Nat):FnOK Tryz.prog 158 (spg158_261 (F_slices_ContainsFunc_api_Bitmap_api_Bitmap_261 fuel)):=by
  intro args objs kk r h
  unfold spg158_261 at h
  split at h
  · skip
    obtain ⟨hb,h⟩:=cond_some' h
    cases qb_eq hb
    exact fo0 (hG158_261 fuel) Tryz.func158 rfl (by kernel_rfl) _ _ kk r ((F158_261_eqg fuel (F_slices_IndexFunc_api_Bitmap_api_Bitmap_261 fuel) _ kk).trans h)
  · cases h
def kp162 (i:Nat):Option (List Nat):=Ev.look i []
def Gg162 (a:YF160) (f:Nat):Option Ev.Spec:=Ev.look f [(160,spg160 a)]
def G162 (fuel:Nat):Nat→Option Ev.Spec:=Gg162 (F_text_isShape fuel)
def Fg_text_begun_2 (fuel:Nat) (a:YF160) (g h i:Int) (b:Bool) (j k:Int) (c d:Int) (e:LI) (k0:(Bool)→OA):OA:=bif b then (a c d e (fun f=>k0 !f)) else k0 false
abbrev YF162:Type:=Int→Int→Int→Bool→Int→Int→Int→Int→LI→(Bool→Option Ans)→Option Ans
def F_text_begun_2 (fuel:Nat):YF162:=Fg_text_begun_2 fuel (F_text_isShape fuel)
theorem F162_eqg (fuel:Nat) (a:YF160) (b d e:Int) (f:Bool) (g h:Int) (i j:Int) (l:LI) (k:Ev.Cont):evalFn tab (Gg162 a) J0 kp162 fuel Tryz.f162 [.agg [i6 b,i6 d,i6 e,.bool f,i6 g,i6 h,i6 i,i6 j,.sl (.int .u8) l]] [] k=Fg_text_begun_2 fuel a b d e f g h i j l (fun r=>match r with | m=>k (.c (.bool m),[])):=by
  kernel_rfl
theorem hG162 (fuel:Nat):GOK Tryz.prog (G162 fuel):=
  gc (ok160 fuel) Tryz.func160 (by kernel_rfl) rfl <|
  gok_nil
def spg162 (F:YF162):Ev.Spec:=fun args objs k=>match args,objs with | [.agg [i6 a,i6 b,i6 d,.bool e,i6 f,i6 g,i6 h,i6 i,.sl (.int .u8) j]],[]=>F a b d e f g h i j (fun r=>match r with | l=>k (.c (.bool l),[])) | _,_=>none
theorem ok162 (fuel:Nat):FnOK Tryz.prog 162 (spg162 (F_text_begun_2 fuel)):=by
  intro args objs kk r h
  unfold spg162 at h
  split at h
  · skip
    exact fo0 (hG162 fuel) Tryz.func162 rfl (by kernel_rfl) _ _ kk r ((F162_eqg fuel (F_text_isShape fuel) _ _ _ _ _ _ _ _ _ kk).trans h)
  · cases h
def kp227_177 (i:Nat):Option (List Nat):=Ev.look i [(2,[0,1,7,8]),(100000,[]),(400000,[4])]
def Gg227_177 (a:YF162) (f:Nat):Option Ev.Spec:=Ev.look f [(162,spg162 a)]
def G227_177 (fuel:Nat):Nat→Option Ev.Spec:=Gg227_177 (F_text_begun_2 fuel)
abbrev V_slices_IndexFunc_api_Item_api_Item_177_0:Type:=(List (Int×(Int×(Int×(Bool×(Int×(Int×(Int×(Int×LI)))))))))×Int×Int
abbrev W_slices_IndexFunc_api_Item_api_Item_177_0:Type:=(Int→OA)×(Unit→OA)
def Sg_slices_IndexFunc_api_Item_api_Item_177_0 (fuel:Nat) (f:YF162) (d:(List (Int×(Int×(Int×(Bool×(Int×(Int×(Int×(Int×LI)))))))))) (e a:Int) (c:V_slices_IndexFunc_api_Item_api_Item_177_0→OA) (B:W_slices_IndexFunc_api_Item_api_Item_177_0):OA:=match B with | (ret,b)=>bif decide (a < e) then bif decide (0≤a∧a < (↑d.length:Int)) then (f ((d.getD a.toNat (0,0,0,false,0,0,0,0,[])).fst) ((d.getD a.toNat (0,0,0,false,0,0,0,0,[])).snd.fst) ((d.getD a.toNat (0,0,0,false,0,0,0,0,[])).snd.snd.fst) ((d.getD a.toNat (0,0,0,false,0,0,0,0,[])).snd.snd.snd.fst) ((d.getD a.toNat (0,0,0,false,0,0,0,0,[])).snd.snd.snd.snd.fst) ((d.getD a.toNat (0,0,0,false,0,0,0,0,[])).snd.snd.snd.snd.snd.fst) ((d.getD a.toNat (0,0,0,false,0,0,0,0,[])).snd.snd.snd.snd.snd.snd.fst) ((d.getD a.toNat (0,0,0,false,0,0,0,0,[])).snd.snd.snd.snd.snd.snd.snd.fst) ((d.getD a.toNat (0,0,0,false,0,0,0,0,[])).snd.snd.snd.snd.snd.snd.snd.snd) (fun g=>bif g then ret a else c (d,e,i64.wrap (a+1)))) else none else b ()
def S_slices_IndexFunc_api_Item_api_Item_177_0 (fuel:Nat) (v:(List (Int×(Int×(Int×(Bool×(Int×(Int×(Int×(Int×(List Int))))))))))×Int×Int) (c:((List (Int×(Int×(Int×(Bool×(Int×(Int×(Int×(Int×(List Int))))))))))×Int×Int)→Option Ans) (B:(Int→Option Ans)×(Unit→Option Ans)):Option Ans:=match v with | (a,b,d)=>Sg_slices_IndexFunc_api_Item_api_Item_177_0 fuel (F_text_begun_2 fuel) a b d c B
def L_slices_IndexFunc_api_Item_api_Item_177_0 (fuel:Nat) (v:V_slices_IndexFunc_api_Item_api_Item_177_0) (ret:(Int→Option Ans)) (b:(Unit→Option Ans)):Option Ans:=iter (S_slices_IndexFunc_api_Item_api_Item_177_0 fuel) fuel v (ret,b)
def T227_177_0 (v:V_slices_IndexFunc_api_Item_api_Item_177_0):Ev.St:=match v with | (a,b,d)=>⟨[(0,.c (.sl (.pair (.int .i64) (.pair (.int .i64) (.pair (.int .i64) (.pair .bool (.pair (.int .i64) (.pair (.int .i64) (.pair (.int .i64) (.pair (.int .i64) (.sl (.int .u8)))))))))) a)),(1,.c (.clo 162 [])),(7,.c (i6 b)),(8,.c (i6 d))],[],0,0⟩
def E227_177_0 (K:KT):W_slices_IndexFunc_api_Item_api_Item_177_0:=((fun v=>match v with | a=>K .ret ⟨[(4,.c (i6 a))],[],0,0⟩),(fun v=>match v with | ()=>K .normal ⟨[],[],0,0⟩))
theorem S227_177_0_okg (fuel:Nat) (a:YF162) (R:Ev.St→OA) (K:KT) (b:(List (Int×(Int×(Int×(Bool×(Int×(Int×(Int×(Int×LI)))))))))) (c d:Int):evalCode tab (Gg227_177 a) J0 kp227_177 fuel (bodyOf 0 Tryz.f227) (T227_177_0 (b,c,d)) (lc kp227_177 2 0 R K)=Sg_slices_IndexFunc_api_Item_api_Item_177_0 fuel a b c d (fun v=>R (T227_177_0 v)) (E227_177_0 K):=by
  kernel_rfl
def B227_177_0 (fuel:Nat):Ev.Blk:=fun st K=>match canonO (kp227_177 2) st with | some s=>(match s with | ⟨[(a,.c (.sl (.pair (.int .i64) (.pair (.int .i64) (.pair (.int .i64) (.pair .bool (.pair (.int .i64) (.pair (.int .i64) (.pair (.int .i64) (.pair (.int .i64) (.sl (.int .u8)))))))))) b)),(d,.c (.clo e [])),(f,.c (i6 g)),(h,.c (i6 i))],[],j,k⟩=>bif qb [a,d,e,f,h,j,k] [0,1,162,7,8,0,0] then iter (S_slices_IndexFunc_api_Item_api_Item_177_0 fuel) fuel (b,g,i) (E227_177_0 K) else none | _=>none) | none=>none
theorem B227_177_0_ok (fuel:Nat) (st:Ev.St) (K:KT) (r:Ans) (h:B227_177_0 fuel st K=some r):evalCode tab (G227_177 fuel) J0 kp227_177 fuel (.block 0 (.loop (bodyOf 0 Tryz.f227))) st K=some r:=by
  unfold B227_177_0 at h
  split at h
  · rename_i s hs
    split at h
    · skip
      obtain ⟨hb,h⟩:=cond_some' h
      cases qb_eq hb
      exact blk_loop (S:=T227_177_0) (ks:=E227_177_0) (step:=S_slices_IndexFunc_api_Item_api_Item_177_0 fuel) (v:=(_,_,_)) (by kernel_rfl) (by kernel_rfl) (fun R K v=>by obtain ⟨a,b,c⟩:=v; exact S227_177_0_okg fuel (F_text_begun_2 fuel) R K a b c) hs h
    · cases h
  · cases h
def J227_177 (fuel:Nat) (i:Nat):Option Ev.Blk:=Ev.look i [(100000,B227_177_0 fuel)]
def Fg_slices_IndexFunc_api_Item_api_Item_177 (fuel:Nat) (b:YF162) (a:(List (Int×(Int×(Int×(Bool×(Int×(Int×(Int×(Int×LI)))))))))) (k0:(Int)→OA):OA:=(L_slices_IndexFunc_api_Item_api_Item_177_0 fuel (a,(↑a.length:Int),0) (fun ret0_0=>k0 ret0_0) (fun ()=>k0 ((-1:Int))))
abbrev YF227_177:Type:=((List (Int×(Int×(Int×(Bool×(Int×(Int×(Int×(Int×LI))))))))))→(Int→Option Ans)→Option Ans
def F_slices_IndexFunc_api_Item_api_Item_177 (fuel:Nat):YF227_177:=Fg_slices_IndexFunc_api_Item_api_Item_177 fuel (F_text_begun_2 fuel)
theorem F227_177_eqg (fuel:Nat) (a:YF162) (b:(List (Int×(Int×(Int×(Bool×(Int×(Int×(Int×(Int×LI)))))))))) (k:Ev.Cont):evalFn tab (Gg227_177 a) (J227_177 fuel) kp227_177 fuel Tryz.f227 [.c (.sl (.pair (.int .i64) (.pair (.int .i64) (.pair (.int .i64) (.pair .bool (.pair (.int .i64) (.pair (.int .i64) (.pair (.int .i64) (.pair (.int .i64) (.sl (.int .u8)))))))))) b),.c (.clo 162 [])] [] k=Fg_slices_IndexFunc_api_Item_api_Item_177 fuel a b (fun r=>match r with | d=>k (.c (i6 d),[])):=by
  kernel_rfl
theorem hG227_177 (fuel:Nat):GOK Tryz.prog (G227_177 fuel):=
  gc (ok162 fuel) Tryz.func162 (by kernel_rfl) rfl <|
  gok_nil
theorem B227_177_0_blk (fuel:Nat):BlkOK Tryz.prog Tryz.f227.ntmps (.block 0 (.loop (bodyOf 0 Tryz.f227))) (B227_177_0 fuel):=bo0 (hG227_177 fuel) (by kernel_rfl) (by kernel_rfl) (B227_177_0_ok fuel)
def spg227_177 (F:YF227_177):Ev.Spec:=fun args objs k=>match args,objs with | [.c (.sl (.pair (.int .i64) (.pair (.int .i64) (.pair (.int .i64) (.pair .bool (.pair (.int .i64) (.pair (.int .i64) (.pair (.int .i64) (.pair (.int .i64) (.sl (.int .u8)))))))))) a),.c (.clo b [])],[]=>bif qb [b] [162] then F a (fun r=>match r with | d=>k (.c (i6 d),[])) else none | _,_=>none
theorem ok227_177 (fuel:Nat):FnOK Tryz.prog 227 (spg227_177 (F_slices_IndexFunc_api_Item_api_Item_177 fuel)):=by
  intro args objs kk r h
  unfold spg227_177 at h
  split at h
  · skip
    obtain ⟨hb,h⟩:=cond_some' h
    cases qb_eq hb
    exact fo1 (hG227_177 fuel) Tryz.func227 rfl (B227_177_0_blk fuel) (by kernel_rfl) _ _ kk r ((F227_177_eqg fuel (F_text_begun_2 fuel) _ kk).trans h)
  · cases h
def kp161_177 (i:Nat):Option (List Nat):=Ev.look i []
def Gg161_177 (a:YF227_177) (f:Nat):Option Ev.Spec:=Ev.look f [(227,spg227_177 a)]
def G161_177 (fuel:Nat):Nat→Option Ev.Spec:=Gg161_177 (F_slices_IndexFunc_api_Item_api_Item_177 fuel)
def Fg_slices_ContainsFunc_api_Item_api_Item_177 (fuel:Nat) (a:YF227_177) (b:(List (Int×(Int×(Int×(Bool×(Int×(Int×(Int×(Int×LI)))))))))) (k0:(Bool)→OA):OA:=(a b (fun c=>k0 (decide (c≥0))))
abbrev YF161_177:Type:=((List (Int×(Int×(Int×(Bool×(Int×(Int×(Int×(Int×LI))))))))))→(Bool→Option Ans)→Option Ans
def F_slices_ContainsFunc_api_Item_api_Item_177 (fuel:Nat):YF161_177:=Fg_slices_ContainsFunc_api_Item_api_Item_177 fuel (F_slices_IndexFunc_api_Item_api_Item_177 fuel)
theorem F161_177_eqg (fuel:Nat) (a:YF227_177) (b:(List (Int×(Int×(Int×(Bool×(Int×(Int×(Int×(Int×LI)))))))))) (k:Ev.Cont):evalFn tab (Gg161_177 a) J0 kp161_177 fuel Tryz.f161 [.c (.sl (.pair (.int .i64) (.pair (.int .i64) (.pair (.int .i64) (.pair .bool (.pair (.int .i64) (.pair (.int .i64) (.pair (.int .i64) (.pair (.int .i64) (.sl (.int .u8)))))))))) b),.c (.clo 162 [])] [] k=Fg_slices_ContainsFunc_api_Item_api_Item_177 fuel a b (fun r=>match r with | d=>k (.c (.bool d),[])):=by
  kernel_rfl
theorem hG161_177 (fuel:Nat):GOK Tryz.prog (G161_177 fuel):=
  gc (ok227_177 fuel) Tryz.func227 (by kernel_rfl) rfl <|
  gok_nil
def spg161_177 (F:YF161_177):Ev.Spec:=fun args objs k=>match args,objs with | [.c (.sl (.pair (.int .i64) (.pair (.int .i64) (.pair (.int .i64) (.pair .bool (.pair (.int .i64) (.pair (.int .i64) (.pair (.int .i64) (.pair (.int .i64) (.sl (.int .u8)))))))))) a),.c (.clo b [])],[]=>bif qb [b] [162] then F a (fun r=>match r with | d=>k (.c (.bool d),[])) else none | _,_=>none
theorem ok161_177 (fuel:Nat):FnOK Tryz.prog 161 (spg161_177 (F_slices_ContainsFunc_api_Item_api_Item_177 fuel)):=by
  intro args objs kk r h
  unfold spg161_177 at h
  split at h
  · skip
    obtain ⟨hb,h⟩:=cond_some' h
    cases qb_eq hb
    exact fo0 (hG161_177 fuel) Tryz.func161 rfl (by kernel_rfl) _ _ kk r ((F161_177_eqg fuel (F_slices_IndexFunc_api_Item_api_Item_177 fuel) _ kk).trans h)
  · cases h
def kp194 (i:Nat):Option (List Nat):=Ev.look i [(2,[0,1,7,8]),(100000,[]),(400000,[4])]
def Gg194 (f:Nat):Option Ev.Spec:=Ev.look f []
def G194 (fuel:Nat):Nat→Option Ev.Spec:=Gg194
def S_slices_Index_int_int_0 (fuel:Nat) (v:(List Int)×Int×Int×Int) (c:((List Int)×Int×Int×Int)→Option Ans) (B:(Int→Option Ans)×(Unit→Option Ans)):Option Ans:=match v,B with | (d,e,f,a),(ret,b)=>bif decide (a < f) then bif decide ((0:Int)≤a∧a < (↑d.length:Int)) then bif e==d.getD a.toNat (0:Int) then ret a else c (d,e,f,i64.wrap (a+(1:Int))) else none else b ()
def L_slices_Index_int_int_0 (fuel:Nat) (v:(List Int)×Int×Int×Int) (ret:(Int→Option Ans)) (b:(Unit→Option Ans)):Option Ans:=iter (S_slices_Index_int_int_0 fuel) fuel v (ret,b)
def T194_0 (v:LI×Int×Int×Int):Ev.St:=match v with | (a,b,d,e)=>⟨[(0,.c (.sl (.int .i64) a)),(1,.c (i6 b)),(7,.c (i6 d)),(8,.c (i6 e))],[],0,0⟩
def E194_0 (K:KT):(Int→OA)×(Unit→OA):=((fun v=>match v with | a=>K .ret ⟨[(4,.c (i6 a))],[],0,0⟩),(fun v=>match v with | ()=>K .normal ⟨[],[],0,0⟩))
theorem S194_0_ok (fuel:Nat) (R:Ev.St→OA) (K:KT) (a:LI) (b c d:Int):evalCode tab (G194 fuel) J0 kp194 fuel (bodyOf 0 Tryz.f194) (T194_0 (a,b,c,d)) (lc kp194 2 0 R K)=S_slices_Index_int_int_0 fuel (a,b,c,d) (fun v=>R (T194_0 v)) (E194_0 K):=by
  kernel_rfl
def B194_0 (fuel:Nat):Ev.Blk:=fun st K=>match canonO (kp194 2) st with | some s=>(match s with | ⟨[(a,.c (.sl (.int .i64) b)),(d,.c (i6 e)),(f,.c (i6 g)),(h,.c (i6 i))],[],j,k⟩=>bif qb [a,d,f,h,j,k] [0,1,7,8,0,0] then iter (S_slices_Index_int_int_0 fuel) fuel (b,e,g,i) (E194_0 K) else none | _=>none) | none=>none
theorem B194_0_ok (fuel:Nat) (st:Ev.St) (K:KT) (r:Ans) (h:B194_0 fuel st K=some r):evalCode tab (G194 fuel) J0 kp194 fuel (.block 0 (.loop (bodyOf 0 Tryz.f194))) st K=some r:=by
  unfold B194_0 at h
  split at h
  · rename_i s hs
    split at h
    · skip
      obtain ⟨hb,h⟩:=cond_some' h
      cases qb_eq hb
      exact blk_loop (S:=T194_0) (ks:=E194_0) (step:=S_slices_Index_int_int_0 fuel) (v:=(_,_,_,_)) (by kernel_rfl) (by kernel_rfl) (fun R K v=>by obtain ⟨a,b,c,d⟩:=v; exact S194_0_ok fuel R K a b c d) hs h
    · cases h
  · cases h
def J194 (fuel:Nat) (i:Nat):Option Ev.Blk:=Ev.look i [(100000,B194_0 fuel)]
def F_slices_Index_int_int (fuel:Nat) (a:(List Int)) (b:Int) (k0:(Int)→Option Ans):Option Ans:=(L_slices_Index_int_int_0 fuel (a,b,(↑a.length:Int),0) (fun ret0_0=>k0 ret0_0) (fun ()=>k0 ((-1:Int))))
abbrev YF194:Type:=LI→Int→(Int→Option Ans)→Option Ans
theorem F194_eq (fuel:Nat) (a:LI) (b:Int) (k:Ev.Cont):evalFn tab (G194 fuel) (J194 fuel) kp194 fuel Tryz.f194 [.c (.sl (.int .i64) a),.c (i6 b)] [] k=F_slices_Index_int_int fuel a b (fun r=>match r with | d=>k (.c (i6 d),[])):=by
  kernel_rfl
theorem hG194 (fuel:Nat):GOK Tryz.prog (G194 fuel):=
  gok_nil
theorem B194_0_blk (fuel:Nat):BlkOK Tryz.prog Tryz.f194.ntmps (.block 0 (.loop (bodyOf 0 Tryz.f194))) (B194_0 fuel):=bo0 (hG194 fuel) (by kernel_rfl) (by kernel_rfl) (B194_0_ok fuel)
def spg194 (F:YF194):Ev.Spec:=fun args objs k=>match args,objs with | [.c (.sl (.int .i64) a),.c (i6 b)],[]=>F a b (fun r=>match r with | d=>k (.c (i6 d),[])) | _,_=>none
theorem ok194 (fuel:Nat):FnOK Tryz.prog 194 (spg194 (F_slices_Index_int_int fuel)):=by
  intro args objs kk r h
  unfold spg194 at h
  split at h
  · skip
    exact fo1 (hG194 fuel) Tryz.func194 rfl (B194_0_blk fuel) (by kernel_rfl) _ _ kk r ((F194_eq fuel _ _ kk).trans h)
  · cases h
def kp102 (i:Nat):Option (List Nat):=Ev.look i []
def Gg102 (a:YF194) (f:Nat):Option Ev.Spec:=Ev.look f [(194,spg194 a)]
def G102 (fuel:Nat):Nat→Option Ev.Spec:=Gg102 (F_slices_Index_int_int fuel)
def Fg_slices_Contains_int_int (fuel:Nat) (a:YF194) (b:LI) (c:Int) (k0:(Bool)→OA):OA:=(a b c (fun d=>k0 (decide (d≥0))))
abbrev YF102:Type:=LI→Int→(Bool→Option Ans)→Option Ans
def F_slices_Contains_int_int (fuel:Nat):YF102:=Fg_slices_Contains_int_int fuel (F_slices_Index_int_int fuel)
theorem F102_eqg (fuel:Nat) (a:YF194) (b:LI) (d:Int) (k:Ev.Cont):evalFn tab (Gg102 a) J0 kp102 fuel Tryz.f102 [.c (.sl (.int .i64) b),.c (i6 d)] [] k=Fg_slices_Contains_int_int fuel a b d (fun r=>match r with | e=>k (.c (.bool e),[])):=by
  kernel_rfl
theorem hG102 (fuel:Nat):GOK Tryz.prog (G102 fuel):=
  gc (ok194 fuel) Tryz.func194 (by kernel_rfl) rfl <|
  gok_nil
def spg102 (F:YF102):Ev.Spec:=fun args objs k=>match args,objs with | [.c (.sl (.int .i64) a),.c (i6 b)],[]=>F a b (fun r=>match r with | d=>k (.c (.bool d),[])) | _,_=>none
theorem ok102 (fuel:Nat):FnOK Tryz.prog 102 (spg102 (F_slices_Contains_int_int fuel)):=by
  intro args objs kk r h
  unfold spg102 at h
  split at h
  · skip
    exact fo0 (hG102 fuel) Tryz.func102 rfl (by kernel_rfl) _ _ kk r ((F102_eqg fuel (F_slices_Index_int_int fuel) _ _ kk).trans h)
  · cases h
def kp31 (i:Nat):Option (List Nat):=Ev.look i []
def Gg31 (a:YF102) (f:Nat):Option Ev.Spec:=Ev.look f [(102,spg102 a)]
def G31 (fuel:Nat):Nat→Option Ev.Spec:=Gg31 (F_slices_Contains_int_int fuel)
def Fg_text_Valid (fuel:Nat) (f:YF102) (g b:Int) (i:Bool) (c d e:Int) (j:Bool) (a:Int) (k0:(Bool)→OA):OA:=(f ([1,2,4,8]) g (fun h=>bif h then bif decide (b≥0) then bif decide (b≤3) then bif decide (c≥(-16:Int)) then bif decide (c≤16) then bif decide (d≥0) then bif decide (d≤4) then bif e==0 then bif a==0 then k0 true else k0 (a==1) else bif e==1 then bif a==0 then k0 true else k0 (a==1) else k0 false else k0 false else k0 false else k0 false else k0 false else k0 false else k0 false else k0 false))
abbrev YF31:Type:=Int→Int→Bool→Int→Int→Int→Bool→Int→(Bool→Option Ans)→Option Ans
def F_text_Valid (fuel:Nat):YF31:=Fg_text_Valid fuel (F_slices_Contains_int_int fuel)
theorem F31_eqg (fuel:Nat) (a:YF102) (b d:Int) (e:Bool) (f g h:Int) (i:Bool) (j:Int) (k:Ev.Cont):evalFn tab (Gg31 a) J0 kp31 fuel Tryz.f31 [.agg [i6 b,i6 d,.bool e,i6 f,i6 g,i6 h,.bool i,i6 j]] [] k=Fg_text_Valid fuel a b d e f g h i j (fun r=>match r with | l=>k (.c (.bool l),[])):=by
  kernel_rfl
theorem hG31 (fuel:Nat):GOK Tryz.prog (G31 fuel):=
  gc (ok102 fuel) Tryz.func102 (by kernel_rfl) rfl <|
  gok_nil
def spg31 (F:YF31):Ev.Spec:=fun args objs k=>match args,objs with | [.agg [i6 a,i6 b,.bool d,i6 e,i6 f,i6 g,.bool h,i6 i]],[]=>F a b d e f g h i (fun r=>match r with | j=>k (.c (.bool j),[])) | _,_=>none
theorem ok31 (fuel:Nat):FnOK Tryz.prog 31 (spg31 (F_text_Valid fuel)):=by
  intro args objs kk r h
  unfold spg31 at h
  split at h
  · skip
    exact fo0 (hG31 fuel) Tryz.func31 rfl (by kernel_rfl) _ _ kk r ((F31_eqg fuel (F_slices_Contains_int_int fuel) _ _ _ _ _ _ _ _ kk).trans h)
  · cases h
def kp73 (i:Nat):Option (List Nat):=Ev.look i []
def Gg73 (c:YF31) (a:YF158_261) (b:YF161_177) (f:Nat):Option Ev.Spec:=Ev.look f [(31,spg31 c),(158,spg158_261 a),(161,spg161_177 b)]
def G73 (fuel:Nat):Nat→Option Ev.Spec:=Gg73 (F_text_Valid fuel) (F_slices_ContainsFunc_api_Bitmap_api_Bitmap_261 fuel) (F_slices_ContainsFunc_api_Item_api_Item_177 fuel)
def Fg_text_begun (fuel:Nat) (c:YF31) (a:YF158_261) (b:YF161_177) (e f:Int) (g:Bool) (h i j:Int) (k:Bool) (l:Int) (m:(List (Int×Int×LI))) (n:(List (Int×Int×Int×Bool×Int×Int×(Int×Int×LI)))) (k0:(Int)→OA):OA:=(c e f g h i j k l (fun o=>bif !o then k0 (2) else (a m (fun p=>bif p then k0 (30) else (b n (fun d=>bif d then k0 (30) else k0 (0)))))))
abbrev YF73:Type:=Int→Int→Bool→Int→Int→Int→Bool→Int→((List (Int×Int×LI)))→((List (Int×Int×Int×Bool×Int×Int×(Int×Int×LI))))→(Int→Option Ans)→Option Ans
def F_text_begun (fuel:Nat):YF73:=Fg_text_begun fuel (F_text_Valid fuel) (F_slices_ContainsFunc_api_Bitmap_api_Bitmap_261 fuel) (F_slices_ContainsFunc_api_Item_api_Item_177 fuel)
theorem F73_eqg (fuel:Nat) (d:YF31) (a:YF158_261) (b:YF161_177) (e f:Int) (g:Bool) (h i j:Int) (l:Bool) (m:Int) (n:(List (Int×Int×LI))) (o:(List (Int×Int×Int×Bool×Int×Int×(Int×Int×LI)))) (k:Ev.Cont):evalFn tab (Gg73 d a b) J0 kp73 fuel Tryz.f73 [.agg [i6 e,i6 f,.bool g,i6 h,i6 i,i6 j,.bool l,i6 m],.c (.sl (.pair (.int .i64) (.pair (.int .i64) (.sl (.int .u8)))) n),.c (.sl (.pair (.int .i64) (.pair (.int .i64) (.pair (.int .i64) (.pair .bool (.pair (.int .i64) (.pair (.int .i64) (.pair (.int .i64) (.pair (.int .i64) (.sl (.int .u8)))))))))) o)] [] k=Fg_text_begun fuel d a b e f g h i j l m n o (fun r=>match r with | p=>k (.c (i6 p),[])):=by
  kernel_rfl
theorem hG73 (fuel:Nat):GOK Tryz.prog (G73 fuel):=
  gc (ok31 fuel) Tryz.func31 (by kernel_rfl) rfl <|
  gc (ok158_261 fuel) Tryz.func158 (by kernel_rfl) rfl <|
  gc (ok161_177 fuel) Tryz.func161 (by kernel_rfl) rfl <|
  gok_nil
def spg73 (F:YF73):Ev.Spec:=fun args objs k=>match args,objs with | [.agg [i6 a,i6 b,.bool d,i6 e,i6 f,i6 g,.bool h,i6 i],.c (.sl (.pair (.int .i64) (.pair (.int .i64) (.sl (.int .u8)))) j),.c (.sl (.pair (.int .i64) (.pair (.int .i64) (.pair (.int .i64) (.pair .bool (.pair (.int .i64) (.pair (.int .i64) (.pair (.int .i64) (.pair (.int .i64) (.sl (.int .u8)))))))))) l)],[]=>F a b d e f g h i j l (fun r=>match r with | m=>k (.c (i6 m),[])) | _,_=>none
theorem ok73 (fuel:Nat):FnOK Tryz.prog 73 (spg73 (F_text_begun fuel)):=by
  intro args objs kk r h
  unfold spg73 at h
  split at h
  · skip
    exact fo0 (hG73 fuel) Tryz.func73 rfl (by kernel_rfl) _ _ kk r ((F73_eqg fuel (F_text_Valid fuel) (F_slices_ContainsFunc_api_Bitmap_api_Bitmap_261 fuel) (F_slices_ContainsFunc_api_Item_api_Item_177 fuel) _ _ _ _ _ _ _ _ _ _ kk).trans h)
  · cases h
def kp93 (i:Nat):Option (List Nat):=Ev.look i []
def Gg93 (f:Nat):Option Ev.Spec:=Ev.look f []
def G93 (fuel:Nat):Nat→Option Ev.Spec:=Gg93
def F_text_near (fuel:Nat) (a b:Int) (k0:(Bool)→Option Ans):Option Ans:=bif decide (a≥i64.wrap (0 - b)) then k0 (decide (a≤b)) else k0 false
abbrev YF93:Type:=Int→Int→(Bool→Option Ans)→Option Ans
theorem F93_eq (fuel:Nat) (a b:Int) (k:Ev.Cont):evalFn tab (G93 fuel) J0 kp93 fuel Tryz.f93 [.c (i6 a),.c (i6 b)] [] k=F_text_near fuel a b (fun r=>match r with | d=>k (.c (.bool d),[])):=by
  kernel_rfl
theorem hG93 (fuel:Nat):GOK Tryz.prog (G93 fuel):=
  gok_nil
def spg93 (F:YF93):Ev.Spec:=fun args objs k=>match args,objs with | [.c (i6 a),.c (i6 b)],[]=>F a b (fun r=>match r with | d=>k (.c (.bool d),[])) | _,_=>none
theorem ok93 (fuel:Nat):FnOK Tryz.prog 93 (spg93 (F_text_near fuel)):=by
  intro args objs kk r h
  unfold spg93 at h
  split at h
  · skip
    exact fo0 (hG93 fuel) Tryz.func93 rfl (by kernel_rfl) _ _ kk r ((F93_eq fuel _ _ kk).trans h)
  · cases h
def kp190_e4a (i:Nat):Option (List Nat):=Ev.look i []
def Gg190_e4a (f:Nat):Option Ev.Spec:=Ev.look f []
def G190_e4a (fuel:Nat):Nat→Option Ev.Spec:=Gg190_e4a
def F_text_reader_fine_e4a (fuel:Nat) (q r s:Int) (t:Bool) (u v w:Int) (x:Bool) (y z:Int) (b c:Int) (d:(List (Int×(Int×(List Int))))) (e a:Int) (f g:Int) (h i:Int) (j k:Int) (l m:Bool) (n:(List (Int×(Int×(Int×(Bool×(Int×(Int×(Int×(Int×(List Int))))))))))) (o p:(List Int)) (k0:(Bool×Int×Int×Bool×Int×Int×Int×Bool×Int×Int×Int×Int×(List (Int×(Int×(List Int))))×Int×Int×Int×Int×Int×Int×Int×Int×Bool×Bool×(List (Int×(Int×(Int×(Bool×(Int×(Int×(Int×(Int×(List Int))))))))))×(List Int)×(List Int))→Option Ans):Option Ans:=bif a==0 then k0 (q==0,r,s,t,u,v,w,x,y,z,b,c,d,e,q,f,g,h,i,j,k,l,m,n,o,p) else k0 (a==0,r,s,t,u,v,w,x,y,z,b,c,d,e,a,f,g,h,i,j,k,l,m,n,o,p)
abbrev YF190_e4a:Type:=Int→Int→Int→Bool→Int→Int→Int→Bool→Int→Int→Int→Int→((List (Int×(Int×LI))))→Int→Int→Int→Int→Int→Int→Int→Int→Bool→Bool→((List (Int×(Int×(Int×(Bool×(Int×(Int×(Int×(Int×LI))))))))))→LI→LI→((Bool×Int×Int×Bool×Int×Int×Int×Bool×Int×Int×Int×Int×(List (Int×(Int×LI)))×Int×Int×Int×Int×Int×Int×Int×Int×Bool×Bool×(List (Int×(Int×(Int×(Bool×(Int×(Int×(Int×(Int×LI)))))))))×LI×LI)→Option Ans)→Option Ans
theorem F190_e4a_eq (fuel:Nat) (t u v:Int) (w:Bool) (x y z:Int) (A:Bool) (B C:Int) (a b:Int) (d:(List (Int×(Int×LI)))) (e f:Int) (g h:Int) (i j:Int) (l m:Int) (n o:Bool) (p:(List (Int×(Int×(Int×(Bool×(Int×(Int×(Int×(Int×LI)))))))))) (q s:LI) (k:Ev.Cont):evalFn tab (G190_e4a fuel) J0 kp190_e4a fuel Tryz.f190 [.c (.ptr 0 0),.c (i6 t)] [.cells 139 [i6 u,i6 v,.bool w,i6 x,i6 y,i6 z,.bool A,i6 B,i6 C,i6 a,i6 b,.ptr 1 0,.sl (.pair (.int .i64) (.pair (.int .i64) (.sl (.int .u8)))) d,.own 2,i6 e,i6 f],.cells 194 (i6 g::.own 3::ctb (.int .u64 h::.int .u64 i::.own 4::i6 j::.int .u64 l::i6 m::.bool n::.bool o::[])),.vec 53 (.pair (.int .i64) (.pair (.int .i64) (.pair (.int .i64) (.pair .bool (.pair (.int .i64) (.pair (.int .i64) (.pair (.int .i64) (.pair (.int .i64) (.sl (.int .u8)))))))))) p false,.vec 3 (.int .i64) q false,.vec 5 (.int .u8) s false] k=F_text_reader_fine_e4a fuel t u v w x y z A B C a b d e f g h i j l m n o p q s (fun r=>match r with | (T,U,V,W,X,Y,Z,a0,a1,a2,D,E,F,G,H,I,J,K,L,M,N,O,P,Q,R,S)=>k (.c (.bool T),[.cells 139 [i6 U,i6 V,.bool W,i6 X,i6 Y,i6 Z,.bool a0,i6 a1,i6 a2,i6 D,i6 E,.ptr 1 0,.sl (.pair (.int .i64) (.pair (.int .i64) (.sl (.int .u8)))) F,.own 2,i6 G,i6 H],.cells 194 (i6 I::.own 3::ctb (.int .u64 J::.int .u64 K::.own 4::i6 L::.int .u64 M::i6 N::.bool O::.bool P::[])),.vec 53 (.pair (.int .i64) (.pair (.int .i64) (.pair (.int .i64) (.pair .bool (.pair (.int .i64) (.pair (.int .i64) (.pair (.int .i64) (.pair (.int .i64) (.sl (.int .u8)))))))))) Q false,.vec 3 (.int .i64) R false,.vec 5 (.int .u8) S false])):=by
  kernel_rfl
theorem hG190_e4a (fuel:Nat):GOK Tryz.prog (G190_e4a fuel):=
  gok_nil
def spg190_e4a (F:YF190_e4a):Ev.Spec:=fun args objs k=>match args,objs with | [.c (.ptr N O),.c (i6 P)],[.cells Q [i6 R,i6 S,.bool T,i6 U,i6 V,i6 W,.bool X,i6 Y,i6 Z,i6 a,i6 b,.ptr a0 a1,.sl (.pair (.int .i64) (.pair (.int .i64) (.sl (.int .u8)))) d,.own a2,i6 e,i6 f],.cells a3 g,.vec a4 (.pair (.int .i64) (.pair (.int .i64) (.pair (.int .i64) (.pair .bool (.pair (.int .i64) (.pair (.int .i64) (.pair (.int .i64) (.pair (.int .i64) (.sl (.int .u8)))))))))) h false,.vec a5 (.int .i64) i false,.vec a6 (.int .u8) j false]=>(match splitRun 2 ctn g with | some ([i6 l,.own m],[.int .u64 n,.int .u64 o,.own p,i6 q,.int .u64 s,i6 t,.bool u,.bool v])=>bif qb [N,O,Q,a0,a1,a2,a3,a4,a5,a6,m,p] [0,0,139,1,0,2,194,53,3,5,3,4] then F P R S T U V W X Y Z a b d e f l n o q s t u v h i j (fun r=>match r with | (a7,a8,a9,b0,b1,b2,b3,b4,b5,b6,w,x,y,z,A,B,C,D,E,G,H,I,J,K,L,M)=>k (.c (.bool a7),[.cells 139 [i6 a8,i6 a9,.bool b0,i6 b1,i6 b2,i6 b3,.bool b4,i6 b5,i6 b6,i6 w,i6 x,.ptr 1 0,.sl (.pair (.int .i64) (.pair (.int .i64) (.sl (.int .u8)))) y,.own 2,i6 z,i6 A],.cells 194 (i6 B::.own 3::ctb (.int .u64 C::.int .u64 D::.own 4::i6 E::.int .u64 G::i6 H::.bool I::.bool J::[])),.vec 53 (.pair (.int .i64) (.pair (.int .i64) (.pair (.int .i64) (.pair .bool (.pair (.int .i64) (.pair (.int .i64) (.pair (.int .i64) (.pair (.int .i64) (.sl (.int .u8)))))))))) K false,.vec 3 (.int .i64) L false,.vec 5 (.int .u8) M false])) else none | _=>none) | _,_=>none
theorem ok190_e4a (fuel:Nat):FnOK Tryz.prog 190 (spg190_e4a (F_text_reader_fine_e4a fuel)):=by
  intro args objs kk r h
  unfold spg190_e4a at h
  split at h
  · skip
    split at h
    rotate_left 1
    · cases h
    rename_i hsp
    have esp:=splitRun_eq hsp
    subst esp
    obtain ⟨hb,h⟩:=cond_some' h
    cases qb_eq hb
    exact fo0 (hG190_e4a fuel) Tryz.func190 rfl (by kernel_rfl) _ _ kk r ((F190_e4a_eq fuel _ _ _ _ _ _ _ _ _ _ _ _ _ _ _ _ _ _ _ _ _ _ _ _ _ _ kk).trans h)
  · cases h
end
end Go.Proofs.YtipdidpalcmlhaaGreat

