/- What the functions that TextDecodes reaches do: their typed texts, each with the proof that the machine does it. No condition. -/
import Derived.Test.YtipdidpalcmlhaaGreatEvX
import Derived.Test.YtipdidpalcmlhaaGreatFsTextDecodes1
import Derived.Test.YtipdidpalcmlhaaGreatFsTextDecodes5
import Derived.Test.YtipdidpalcmlhaaGreatFsTextDecodes6
import Derived.Test.YtipdidpalcmlhaaGreatFsTextDecodes7
import Derived.Test.YtipdidpalcmlhaaGreatFsTextDecodes3
set_option linter.unusedVariables false
set_option linter.unusedSimpArgs false
set_option linter.unusedSectionVars false
set_option linter.unusedVariables false
set_option linter.unusedSimpArgs false
set_option maxRecDepth 100000
set_option maxHeartbeats 2000000
namespace Go.Proofs.YtipdidpalcmlhaaGreat
open Go Ev
open Go.IntKind (i64 u64 u8 i32 u32 u16)
noncomputable section
def kp26 (i:Nat):Option (List Nat):=Ev.look i [(11,[2,4,16,17,18]),(100000,[16]),(200019,[16]),(400000,[8,9])]
def Gg26 (e:YF48) (g:YF65) (h:YF73) (i:YF78) (a:YF91_e4a) (b:YF92_91e) (j:YF93) (c:YF94_b14) (d:YF95_457) (f:Nat):Option Ev.Spec:=Ev.look f [(48,spg48 e),(65,spg65 g),(73,spg73 h),(78,spg78 i),(91,spg91_e4a a),(92,spg92_91e b),(93,spg93 j),(94,spg94_b14 c),(95,spg95_457 d)]
def G26 (fuel:Nat):Nat→Option Ev.Spec:=Gg26 (F_coder_New fuel) (F_coder_NewDecoder fuel) (F_text_begun fuel) (F_text_lay fuel) (F_text_reader_num_e4a fuel) (F_text_reader_check_91e fuel) (F_text_near fuel) (F_text_reader_within_b14 fuel) (F_text_reader_strip_457 fuel)
abbrev V_text_Decode_0:Type:=Int×Int×Int×Int×Int×Bool×Int×Int×Int×Bool×Int×Int×Int×Bool×Int×Int×Int×Bool×Int×Int×Int×Int×(List (Int×(Int×LI)))×Int×Int×Int×Int×Int×Int×Int×Int×Bool×Bool×(List (Int×(Int×(Int×(Bool×(Int×(Int×(Int×(Int×LI)))))))))×LI×LI
abbrev W_text_Decode_0:Type:=(Int×Int×Bool×Int×Int×Int×Bool×Int×Int×Int×Int×(List (Int×(Int×LI)))×Int×Int×Int×Int×Int×Int×Int×Int×Bool×Bool×(List (Int×(Int×(Int×(Bool×(Int×(Int×(Int×(Int×LI)))))))))×LI×LI→OA)
def Sg_text_Decode_0 (fuel:Nat) (K9:YF48) (L0:YF65) (L1:YF73) (L2:YF78) (t2:YF91_e4a) (R:YF92_91e) (t1:YF93) (S:YF94_b14) (T:YF95_457) (f d:Int) (e1 e h:Int) (i:Bool) (j k l:Int) (m:Bool) (g l9 m0:Int) (m1:Bool) (m2 m3 m4:Int) (m5:Bool) (m6 m7:Int) (m8 m9:Int) (n0:(List (Int×(Int×LI)))) (n1 h8:Int) (n2 n3:Int) (n4 n5:Int) (n6 n7:Int) (n8 n9:Bool) (h9:(List (Int×(Int×(Int×(Bool×(Int×(Int×(Int×(Int×LI)))))))))) (o0 o1:LI) (c:V_text_Decode_0→OA) (B:W_text_Decode_0):OA:=match B with | b=>bif h8==0 then bif decide ((↑h9.length:Int) < f) then (t2 (0) l9 m0 m1 m2 m3 m4 m5 m6 m7 m8 m9 n0 n1 h8 n2 n3 n4 n5 n6 n7 n8 n9 h9 o0 o1 (fun (J5,a,d3,d4,d5,d6,d7,d8,d9,e0,a8,a9,b0,b1,b2,b3,b4,b5,b6,b7,b8,b9,c0,c1,G,c2,c3)=>bif !J5 then bif decide (a > 0) then bif decide (e > 1) then (R (true) d3 d4 d5 d6 d7 d8 d9 e0 a8 a9 b0 b1 b2 b3 b4 b5 b6 b7 b8 b9 c0 c1 G c2 c3 (fun (B9,k8,k9,l0,l1,l2,l3,l4,l5,l6,j0,j1,j2,j3,j4,j5,j6,j7,j8,j9,k0,k1,k2,k3,k4,k5)=>(S (48) e1 ((-100000:Int)) (100000) k8 k9 l0 l1 l2 l3 l4 l5 l6 j0 j1 j2 j3 j4 j5 j6 j7 j8 j9 k0 k1 k2 k3 k4 k5 (fun (o,H,I,J,K,L,M,N,O,P,p,q,r,s,n,t,u,v,w,x,y,z,A,C,D,E)=>bif n==0 then (T (i64.wrap (d+a)) o H I J K L M N O P p q r s n t u v w x y z A C D E (fun (Q,c4,c5,c6,c7,c8,c9,d0,d1,d2,U,V,W,X,F,Y,Z,a0,a1,a2,a3,a4,a5,a6,a7)=>c (f,i64.wrap (d+a),o,e,h,i,j,k,l,m,g,Q,c4,c5,c6,c7,c8,c9,d0,d1,d2,U,V,W,X,F,Y,Z,a0,a1,a2,a3,a4,a5,a6,a7))) else c (f,i64.wrap (d+a),o,e,h,i,j,k,l,m,g,H,I,J,K,L,M,N,O,P,p,q,r,s,n,t,u,v,w,x,y,z,A,C,D,E))))) else (t1 (i64.wrap (d+a)) (100000) (fun K5=>(R K5 d3 d4 d5 d6 d7 d8 d9 e0 a8 a9 b0 b1 b2 b3 b4 b5 b6 b7 b8 b9 c0 c1 G c2 c3 (fun (o,H,I,J,K,L,M,N,O,P,p,q,r,s,n,t,u,v,w,x,y,z,A,C,D,E)=>(S (48) e1 ((-100000:Int)) (100000) H I J K L M N O P p q r s n t u v w x y z A C D E (fun (l7,r3,r4,r5,r6,r7,r8,r9,s0,s1,o2,o3,o4,o5,k6,o6,o7,o8,o9,p0,p1,p2,p3,p4,p5,p6)=>bif k6==0 then (T (i64.wrap (d+a)) l7 r3 r4 r5 r6 r7 r8 r9 s0 s1 o2 o3 o4 o5 k6 o6 o7 o8 o9 p0 p1 p2 p3 p4 p5 p6 (fun (C0,C1,C2,C3,C4,C5,C6,C7,C8,C9,t3,t4,t5,t6,t7,t8,t9,v0,v1,v2,v3,v4,v5,v6,v7)=>c (f,i64.wrap (d+a),l7,e,h,i,j,k,l,m,g,C0,C1,C2,C3,C4,C5,C6,C7,C8,C9,t3,t4,t5,t6,t7,t8,t9,v0,v1,v2,v3,v4,v5,v6,v7))) else c (f,i64.wrap (d+a),l7,e,h,i,j,k,l,m,g,r3,r4,r5,r6,r7,r8,r9,s0,s1,o2,o3,o4,o5,k6,o6,o7,o8,o9,p0,p1,p2,p3,p4,p5,p6))))))) else bif (↑G.length:Int)==0 then bif decide (e > 1) then (R (true) d3 d4 d5 d6 d7 d8 d9 e0 a8 a9 b0 b1 b2 b3 b4 b5 b6 b7 b8 b9 c0 c1 G c2 c3 (fun (K7,D0,D1,D2,D3,D4,D5,D6,D7,D8,v8,v9,w0,w1,w2,w3,w4,w5,w6,w7,w8,w9,x0,x1,x2,x3)=>(S (48) e1 ((-100000:Int)) (100000) D0 D1 D2 D3 D4 D5 D6 D7 D8 v8 v9 w0 w1 w2 w3 w4 w5 w6 w7 w8 w9 x0 x1 x2 x3 (fun (g8,g9,h0,h1,h2,h3,h4,h5,h6,h7,e3,e4,e5,e6,e2,e7,e8,e9,g0,g1,g2,g3,g4,g5,g6,g7)=>bif e2==0 then (T (i64.wrap (d+a)) g8 g9 h0 h1 h2 h3 h4 h5 h6 h7 e3 e4 e5 e6 e2 e7 e8 e9 g0 g1 g2 g3 g4 g5 g6 g7 (fun (D9,E0,E1,E2,E3,E4,E5,E6,E7,E8,x4,x5,x6,x7,x8,x9,y0,y1,y2,y3,y4,y5,y6,y7,y8)=>c (f,i64.wrap (d+a),g8,e,h,i,j,k,l,m,g,D9,E0,E1,E2,E3,E4,E5,E6,E7,E8,x4,x5,x6,x7,x8,x9,y0,y1,y2,y3,y4,y5,y6,y7,y8))) else c (f,i64.wrap (d+a),g8,e,h,i,j,k,l,m,g,g9,h0,h1,h2,h3,h4,h5,h6,h7,e3,e4,e5,e6,e2,e7,e8,e9,g0,g1,g2,g3,g4,g5,g6,g7))))) else (t1 (i64.wrap (d+a)) (100000) (fun K6=>(R K6 d3 d4 d5 d6 d7 d8 d9 e0 a8 a9 b0 b1 b2 b3 b4 b5 b6 b7 b8 b9 c0 c1 G c2 c3 (fun (g8,g9,h0,h1,h2,h3,h4,h5,h6,h7,e3,e4,e5,e6,e2,e7,e8,e9,g0,g1,g2,g3,g4,g5,g6,g7)=>(S (48) e1 ((-100000:Int)) (100000) g9 h0 h1 h2 h3 h4 h5 h6 h7 e3 e4 e5 e6 e2 e7 e8 e9 g0 g1 g2 g3 g4 g5 g6 g7 (fun (Q,c4,c5,c6,c7,c8,c9,d0,d1,d2,U,V,W,X,F,Y,Z,a0,a1,a2,a3,a4,a5,a6,a7,p7)=>bif F==0 then (T (i64.wrap (d+a)) Q c4 c5 c6 c7 c8 c9 d0 d1 d2 U V W X F Y Z a0 a1 a2 a3 a4 a5 a6 a7 p7 (fun (E9,F0,F1,F2,F3,F4,F5,F6,F7,F8,y9,z0,z1,z2,z3,z4,z5,z6,z7,z8,z9,A0,A1,A2,A3)=>c (f,i64.wrap (d+a),Q,e,h,i,j,k,l,m,g,E9,F0,F1,F2,F3,F4,F5,F6,F7,F8,y9,z0,z1,z2,z3,z4,z5,z6,z7,z8,z9,A0,A1,A2,A3))) else c (f,i64.wrap (d+a),Q,e,h,i,j,k,l,m,g,c4,c5,c6,c7,c8,c9,d0,d1,d2,U,V,W,X,F,Y,Z,a0,a1,a2,a3,a4,a5,a6,a7,p7))))))) else (R (false) d3 d4 d5 d6 d7 d8 d9 e0 a8 a9 b0 b1 b2 b3 b4 b5 b6 b7 b8 b9 c0 c1 G c2 c3 (fun (B9,k8,k9,l0,l1,l2,l3,l4,l5,l6,j0,j1,j2,j3,j4,j5,j6,j7,j8,j9,k0,k1,k2,k3,k4,k5)=>(S (48) e1 ((-100000:Int)) (100000) k8 k9 l0 l1 l2 l3 l4 l5 l6 j0 j1 j2 j3 j4 j5 j6 j7 j8 j9 k0 k1 k2 k3 k4 k5 (fun (o,H,I,J,K,L,M,N,O,P,p,q,r,s,n,t,u,v,w,x,y,z,A,C,D,E)=>bif n==0 then (T (i64.wrap (d+a)) o H I J K L M N O P p q r s n t u v w x y z A C D E (fun (Q,c4,c5,c6,c7,c8,c9,d0,d1,d2,U,V,W,X,F,Y,Z,a0,a1,a2,a3,a4,a5,a6,a7)=>c (f,i64.wrap (d+a),o,e,h,i,j,k,l,m,g,Q,c4,c5,c6,c7,c8,c9,d0,d1,d2,U,V,W,X,F,Y,Z,a0,a1,a2,a3,a4,a5,a6,a7))) else c (f,i64.wrap (d+a),o,e,h,i,j,k,l,m,g,H,I,J,K,L,M,N,O,P,p,q,r,s,n,t,u,v,w,x,y,z,A,C,D,E))))) else (R (false) d3 d4 d5 d6 d7 d8 d9 e0 a8 a9 b0 b1 b2 b3 b4 b5 b6 b7 b8 b9 c0 c1 G c2 c3 (fun (K8,J6,J7,J8,J9,K0,K1,K2,K3,K4,F9,G0,G1,G2,G3,G4,G5,G6,G7,G8,G9,H0,H1,H2,H3,H4)=>(S (48) e1 ((-100000:Int)) (100000) J6 J7 J8 J9 K0 K1 K2 K3 K4 F9 G0 G1 G2 G3 G4 G5 G6 G7 G8 G9 H0 H1 H2 H3 H4 (fun (l8,s2,s3,s4,s5,s6,s7,s8,s9,t0,p8,p9,q0,q1,k7,q2,q3,q4,q5,q6,q7,q8,q9,r0,r1,r2)=>bif k7==0 then (T (i64.wrap (d+a)) l8 s2 s3 s4 s5 s6 s7 s8 s9 t0 p8 p9 q0 q1 k7 q2 q3 q4 q5 q6 q7 q8 q9 r0 r1 r2 (fun (H5,H6,H7,H8,H9,J0,J1,J2,J3,J4,A4,A5,A6,A7,A8,A9,B0,B1,B2,B3,B4,B5,B6,B7,B8)=>c (f,i64.wrap (d+a),l8,e,h,i,j,k,l,m,g,H5,H6,H7,H8,H9,J0,J1,J2,J3,J4,A4,A5,A6,A7,A8,A9,B0,B1,B2,B3,B4,B5,B6,B7,B8))) else c (f,i64.wrap (d+a),l8,e,h,i,j,k,l,m,g,s2,s3,s4,s5,s6,s7,s8,s9,t0,p8,p9,q0,q1,k7,q2,q3,q4,q5,q6,q7,q8,q9,r0,r1,r2))))))) else b (l9,m0,m1,m2,m3,m4,m5,m6,m7,m8,m9,n0,n1,h8,n2,n3,n4,n5,n6,n7,n8,n9,h9,o0,o1) else b (l9,m0,m1,m2,m3,m4,m5,m6,m7,m8,m9,n0,n1,h8,n2,n3,n4,n5,n6,n7,n8,n9,h9,o0,o1)
def S_text_Decode_0 (fuel:Nat) (v:Int×Int×Int×Int×Int×Bool×Int×Int×Int×Bool×Int×Int×Int×Bool×Int×Int×Int×Bool×Int×Int×Int×Int×(List (Int×(Int×(List Int))))×Int×Int×Int×Int×Int×Int×Int×Int×Bool×Bool×(List (Int×(Int×(Int×(Bool×(Int×(Int×(Int×(Int×(List Int))))))))))×(List Int)×(List Int)) (c:(Int×Int×Int×Int×Int×Bool×Int×Int×Int×Bool×Int×Int×Int×Bool×Int×Int×Int×Bool×Int×Int×Int×Int×(List (Int×(Int×(List Int))))×Int×Int×Int×Int×Int×Int×Int×Int×Bool×Bool×(List (Int×(Int×(Int×(Bool×(Int×(Int×(Int×(Int×(List Int))))))))))×(List Int)×(List Int))→Option Ans) (B:(Int×Int×Bool×Int×Int×Int×Bool×Int×Int×Int×Int×(List (Int×(Int×(List Int))))×Int×Int×Int×Int×Int×Int×Int×Int×Bool×Bool×(List (Int×(Int×(Int×(Bool×(Int×(Int×(Int×(Int×(List Int))))))))))×(List Int)×(List Int)→Option Ans)):Option Ans:=match v with | (D,E,F,G,H,I,J,K,L,M,a,b,d,e,f,g,h,i,j,k,l,m,n,o,p,q,r,s,t,u,w,x,y,z,A,C)=>Sg_text_Decode_0 fuel (F_coder_New fuel) (F_coder_NewDecoder fuel) (F_text_begun fuel) (F_text_lay fuel) (F_text_reader_num_e4a fuel) (F_text_reader_check_91e fuel) (F_text_near fuel) (F_text_reader_within_b14 fuel) (F_text_reader_strip_457 fuel) D E F G H I J K L M a b d e f g h i j k l m n o p q r s t u w x y z A C c B
def L_text_Decode_0 (fuel:Nat) (v:V_text_Decode_0) (b:W_text_Decode_0):Option Ans:=iter (S_text_Decode_0 fuel) fuel v b
def T26_0 (v:V_text_Decode_0):Ev.St:=match v with | (C,D,E,F,G,H,I,J,K,L,a,b,d,e,f,g,h,i,j,k,l,m,n,o,p,q,r,s,t,u,w,x,y,z,A,B)=>⟨[(2,.c (i6 C)),(4,.c (.ptr 0 0)),(16,.c (.ptr 1 0)),(17,.c (i6 D)),(18,.c (i6 E))],[(0,.cells 40 [i6 F,i6 G,.bool H,i6 I,i6 J,i6 K,.bool L,i6 a]),(1,.cells 139 [i6 b,i6 d,.bool e,i6 f,i6 g,i6 h,.bool i,i6 j,i6 k,i6 l,i6 m,.ptr 2 0,.sl (.pair (.int .i64) (.pair (.int .i64) (.sl (.int .u8)))) n,.own 3,i6 o,i6 p]),(2,.cells 194 (i6 q::.own 4::ctb (.int .u64 r::.int .u64 s::.own 5::i6 t::.int .u64 u::i6 w::.bool x::.bool y::[]))),(3,.vec 53 (.pair (.int .i64) (.pair (.int .i64) (.pair (.int .i64) (.pair .bool (.pair (.int .i64) (.pair (.int .i64) (.pair (.int .i64) (.pair (.int .i64) (.sl (.int .u8)))))))))) z true),(4,.vec 3 (.int .i64) A true),(5,.vec 5 (.int .u8) B true)],6,0⟩
def E26_0 (K:KT):W_text_Decode_0:=(fun v=>match v with | (q,r,s,t,u,w,x,y,z,A,a,b,d,e,f,g,h,i,j,k,l,m,n,o,p)=>K .normal ⟨[(16,.c (.ptr 0 0))],[(0,.cells 139 [i6 q,i6 r,.bool s,i6 t,i6 u,i6 w,.bool x,i6 y,i6 z,i6 A,i6 a,.ptr 1 0,.sl (.pair (.int .i64) (.pair (.int .i64) (.sl (.int .u8)))) b,.own 2,i6 d,i6 e]),(1,.cells 194 (i6 f::.own 3::ctb (.int .u64 g::.int .u64 h::.own 4::i6 i::.int .u64 j::i6 k::.bool l::.bool m::[]))),(2,.vec 53 (.pair (.int .i64) (.pair (.int .i64) (.pair (.int .i64) (.pair .bool (.pair (.int .i64) (.pair (.int .i64) (.pair (.int .i64) (.pair (.int .i64) (.sl (.int .u8)))))))))) n true),(3,.vec 3 (.int .i64) o true),(4,.vec 5 (.int .u8) p true)],5,0⟩)
theorem S26_0_okg (fuel:Nat) (e:YF48) (f:YF65) (g:YF73) (h:YF78) (a:YF91_e4a) (b:YF92_91e) (i:YF93) (c:YF94_b14) (d:YF95_457) (R:Ev.St→OA) (K:KT) (L M:Int) (N O P:Int) (Q:Bool) (S T U:Int) (V:Bool) (j k l:Int) (m:Bool) (n o p:Int) (q:Bool) (r s:Int) (t u:Int) (w:(List (Int×(Int×LI)))) (x y:Int) (z A:Int) (B C:Int) (D E:Int) (F G:Bool) (H:(List (Int×(Int×(Int×(Bool×(Int×(Int×(Int×(Int×LI)))))))))) (I J:LI):evalCode tab (Gg26 e f g h a b i c d) J0 kp26 fuel (bodyOf 0 Tryz.f26) (T26_0 (L,M,N,O,P,Q,S,T,U,V,j,k,l,m,n,o,p,q,r,s,t,u,w,x,y,z,A,B,C,D,E,F,G,H,I,J)) (lc kp26 11 0 R K)=Sg_text_Decode_0 fuel e f g h a b i c d L M N O P Q S T U V j k l m n o p q r s t u w x y z A B C D E F G H I J (fun v=>R (T26_0 v)) (E26_0 K):=by
  kernel_rfl
def B26_0 (fuel:Nat):Ev.Blk:=fun st K=>match canonO (kp26 11) st with | some s=>(match s with | ⟨[(W,.c (i6 X)),(Y,.c (.ptr Z a0)),(a1,.c (.ptr a2 a3)),(a4,.c (i6 a5)),(a6,.c (i6 a7))],[(a8,.cells a [i6 a9,i6 b0,.bool b1,i6 b2,i6 b3,i6 b4,.bool b5,i6 b]),(d,.cells e [i6 f,i6 g,.bool h,i6 i,i6 j,i6 k,.bool l,i6 m,i6 n,i6 o,i6 p,.ptr q r,.sl (.pair (.int .i64) (.pair (.int .i64) (.sl (.int .u8)))) t,.own u,i6 v,i6 w]),(x,.cells y z),(A,.vec B (.pair (.int .i64) (.pair (.int .i64) (.pair (.int .i64) (.pair .bool (.pair (.int .i64) (.pair (.int .i64) (.pair (.int .i64) (.pair (.int .i64) (.sl (.int .u8)))))))))) C true),(D,.vec E (.int .i64) F true),(G,.vec H (.int .u8) I true)],J,L⟩=>(match splitRun 2 ctn z with | some ([i6 M,.own N],[.int .u64 O,.int .u64 P,.own Q,i6 R,.int .u64 S,i6 T,.bool U,.bool V])=>bif qb [W,Y,Z,a0,a1,a2,a3,a4,a6,a8,a,d,e,q,r,u,x,y,A,B,D,E,G,H,J,L,N,Q] [2,4,0,0,16,1,0,17,18,0,40,1,139,2,0,3,2,194,3,53,4,3,5,5,6,0,4,5] then iter (S_text_Decode_0 fuel) fuel (X,a5,a7,a9,b0,b1,b2,b3,b4,b5,b,f,g,h,i,j,k,l,m,n,o,p,t,v,w,M,O,P,R,S,T,U,V,C,F,I) (E26_0 K) else none | _=>none) | _=>none) | none=>none
theorem B26_0_ok (fuel:Nat) (st:Ev.St) (K:KT) (r:Ans) (h:B26_0 fuel st K=some r):evalCode tab (G26 fuel) J0 kp26 fuel (.block 0 (.loop (bodyOf 0 Tryz.f26))) st K=some r:=by
  unfold B26_0 at h
  split at h
  · rename_i s hs
    split at h
    · skip
      split at h
      rotate_left 1
      · cases h
      rename_i hsp
      have esp:=splitRun_eq hsp
      subst esp
      obtain ⟨hb,h⟩:=cond_some' h
      cases qb_eq hb
      exact blk_loop (S:=T26_0) (ks:=E26_0) (step:=S_text_Decode_0 fuel) (v:=(_,_,_,_,_,_,_,_,_,_,_,_,_,_,_,_,_,_,_,_,_,_,_,_,_,_,_,_,_,_,_,_,_,_,_,_)) (by kernel_rfl) (by kernel_rfl) (fun R K v=>by obtain ⟨E,F,G,H,I,J,L,M,N,O,a,b,c,d,e,f,g,i,j,k,l,m,n,o,p,q,t,u,w,x,y,z,A,B,C,D⟩:=v; exact S26_0_okg fuel (F_coder_New fuel) (F_coder_NewDecoder fuel) (F_text_begun fuel) (F_text_lay fuel) (F_text_reader_num_e4a fuel) (F_text_reader_check_91e fuel) (F_text_near fuel) (F_text_reader_within_b14 fuel) (F_text_reader_strip_457 fuel) R K E F G H I J L M N O a b c d e f g i j k l m n o p q t u w x y z A B C D) hs h
    · cases h
  · cases h
def J26 (fuel:Nat) (i:Nat):Option Ev.Blk:=Ev.look i [(100000,B26_0 fuel)]
def Fg_text_Decode (fuel:Nat) (K:YF48) (L:YF65) (M:YF73) (N:YF78) (P:YF91_e4a) (Q:YF92_91e) (b8:YF93) (R:YF94_b14) (S:YF95_457) (d e:Int) (f:Bool) (g h a:Int) (i:Bool) (j:Int) (b:(List (Int×Int×LI))) (c:Int) (O:LI) (k0:(Int×(List (Int×(Int×(Int×(Bool×(Int×(Int×(Int×(Int×LI))))))))))→OA):OA:=(M d e f g h a i j b ([]) (fun m=>bif m != 0 then k0 (m,[]) else bif decide ((↑b.length:Int) > 60) then k0 (2,[]) else bif decide (c < 0) then k0 (2,[]) else bif decide (c > 300) then k0 (2,[]) else (N d e f g h a i j ((↑b.length:Int)) (fun (o,p,q,r,s,t,u,v,w,x,k)=>(K a k (fun (y,T,z)=>(L y z O (fun b9=>none) (fun (U,A,B,C,D,E,F,G,H,I,n)=>(L_text_Decode_0 fuel (c,0,0,d,e,f,g,h,a,i,j,o,p,q,r,s,t,u,v,w,x,k,b,c,0,A,B,C,D,E,F,G,H,[],I,n) (fun (a8,a9,b0,b1,b2,b3,b4,b5,b6,b7,V,W,X,l,Y,Z,a0,a1,a2,a3,a4,a5,J,a6,a7)=>bif l != 0 then k0 (l,[]) else k0 (0,J)))))))))))
abbrev YF26:Type:=Int→Int→Bool→Int→Int→Int→Bool→Int→((List (Int×Int×LI)))→Int→LI→((Int×(List (Int×(Int×(Int×(Bool×(Int×(Int×(Int×(Int×LI))))))))))→Option Ans)→Option Ans
def F_text_Decode (fuel:Nat):YF26:=Fg_text_Decode fuel (F_coder_New fuel) (F_coder_NewDecoder fuel) (F_text_begun fuel) (F_text_lay fuel) (F_text_reader_num_e4a fuel) (F_text_reader_check_91e fuel) (F_text_near fuel) (F_text_reader_within_b14 fuel) (F_text_reader_strip_457 fuel)
theorem F26_eqg (fuel:Nat) (f:YF48) (g:YF65) (h:YF73) (i:YF78) (a:YF91_e4a) (b:YF92_91e) (j:YF93) (d:YF94_b14) (e:YF95_457) (m n:Int) (o:Bool) (p q s:Int) (t:Bool) (u:Int) (v:(List (Int×Int×LI))) (w:Int) (l:LI) (k:Ev.Cont):evalFn tab (Gg26 f g h i a b j d e) (J26 fuel) kp26 fuel Tryz.f26 [.agg [i6 m,i6 n,.bool o,i6 p,i6 q,i6 s,.bool t,i6 u],.c (.sl (.pair (.int .i64) (.pair (.int .i64) (.sl (.int .u8)))) v),.c (i6 w),.c (.sl (.int .u8) l)] [] k=Fg_text_Decode fuel f g h i a b j d e m n o p q s t u v w l (fun r=>match r with | (x,y)=>k (.tup [(false,[.own 0]),(false,[i6 x])],[.vec 53 (.pair (.int .i64) (.pair (.int .i64) (.pair (.int .i64) (.pair .bool (.pair (.int .i64) (.pair (.int .i64) (.pair (.int .i64) (.pair (.int .i64) (.sl (.int .u8)))))))))) y true])):=by
  kernel_rfl
theorem hG26 (fuel:Nat):GOK Tryz.prog (G26 fuel):=
  gc (ok48 fuel) Tryz.func48 (by kernel_rfl) rfl <|
  gc (ok65 fuel) Tryz.func65 (by kernel_rfl) rfl <|
  gc (ok73 fuel) Tryz.func73 (by kernel_rfl) rfl <|
  gc (ok78 fuel) Tryz.func78 (by kernel_rfl) rfl <|
  gc (ok91_e4a fuel) Tryz.func91 (by kernel_rfl) rfl <|
  gc (ok92_91e fuel) Tryz.func92 (by kernel_rfl) rfl <|
  gc (ok93 fuel) Tryz.func93 (by kernel_rfl) rfl <|
  gc (ok94_b14 fuel) Tryz.func94 (by kernel_rfl) rfl <|
  gc (ok95_457 fuel) Tryz.func95 (by kernel_rfl) rfl <|
  gok_nil
theorem B26_0_blk (fuel:Nat):BlkOK Tryz.prog Tryz.f26.ntmps (.block 0 (.loop (bodyOf 0 Tryz.f26))) (B26_0 fuel):=bo0 (hG26 fuel) (by kernel_rfl) (by kernel_rfl) (B26_0_ok fuel)
def spg26 (F:YF26):Ev.Spec:=fun args objs k=>match args,objs with | [.agg [i6 b,i6 d,.bool e,i6 f,i6 g,i6 h,.bool i,i6 j],.c (.sl (.pair (.int .i64) (.pair (.int .i64) (.sl (.int .u8)))) l),.c (i6 m),.c (.sl (.int .u8) a)],[]=>F b d e f g h i j l m a (fun r=>match r with | (n,o)=>k (.tup [(false,[.own 0]),(false,[i6 n])],[.vec 53 (.pair (.int .i64) (.pair (.int .i64) (.pair (.int .i64) (.pair .bool (.pair (.int .i64) (.pair (.int .i64) (.pair (.int .i64) (.pair (.int .i64) (.sl (.int .u8)))))))))) o true])) | _,_=>none
theorem ok26 (fuel:Nat):FnOK Tryz.prog 26 (spg26 (F_text_Decode fuel)):=by
  intro args objs kk r h
  unfold spg26 at h
  split at h
  · skip
    exact fo1 (hG26 fuel) Tryz.func26 rfl (B26_0_blk fuel) (by kernel_rfl) _ _ kk r ((F26_eqg fuel (F_coder_New fuel) (F_coder_NewDecoder fuel) (F_text_begun fuel) (F_text_lay fuel) (F_text_reader_num_e4a fuel) (F_text_reader_check_91e fuel) (F_text_near fuel) (F_text_reader_within_b14 fuel) (F_text_reader_strip_457 fuel) _ _ _ _ _ _ _ _ _ _ _ kk).trans h)
  · cases h
def kp6 (i:Nat):Option (List Nat):=Ev.look i []
def Gg6 (a:YF21) (b:YF22) (c:YF26) (d:YF27) (e:YF28) (f:Nat):Option Ev.Spec:=Ev.look f [(21,spg21 a),(22,spg22 b),(26,spg26 c),(27,spg27 d),(28,spg28 e)]
def G6 (fuel:Nat):Nat→Option Ev.Spec:=Gg6 (F_law10_long fuel) (F_law10_Awake fuel) (F_text_Decode fuel) (F_ref10_Decode fuel) (F_ref10_SameItems fuel)
def Fg_law10_TextDecodes (fuel:Nat) (q:YF21) (a:YF22) (r:YF26) (s:YF27) (t:YF28) (d e:Int) (f:Bool) (g h i:Int) (j:Bool) (k:Int) (c:(List (Int×Int×LI))) (l:Int) (b:LI) (k0:(Bool)→OA):OA:=(q c ([]) (fun w=>bif w then (a (fun x=>k0 x)) else bif decide ((↑b.length:Int) > 100000) then (a (fun y=>k0 y)) else (r d e f g h i j k c l b (fun (o,p)=>(s d e f g h i j k c l b (fun (m,n)=>bif o==m then (t p n (fun u=>bif u then (a (fun v=>k0 v)) else k0 false)) else k0 false))))))
abbrev YF6:Type:=Int→Int→Bool→Int→Int→Int→Bool→Int→((List (Int×Int×LI)))→Int→LI→(Bool→Option Ans)→Option Ans
def F_law10_TextDecodes (fuel:Nat):YF6:=Fg_law10_TextDecodes fuel (F_law10_long fuel) (F_law10_Awake fuel) (F_text_Decode fuel) (F_ref10_Decode fuel) (F_ref10_SameItems fuel)
theorem F6_eqg (fuel:Nat) (a:YF21) (b:YF22) (d:YF26) (e:YF27) (f:YF28) (h i:Int) (j:Bool) (l m n:Int) (o:Bool) (p:Int) (q:(List (Int×Int×LI))) (s:Int) (g:LI) (k:Ev.Cont):evalFn tab (Gg6 a b d e f) J0 kp6 fuel Tryz.f6 [.agg [i6 h,i6 i,.bool j,i6 l,i6 m,i6 n,.bool o,i6 p],.c (.sl (.pair (.int .i64) (.pair (.int .i64) (.sl (.int .u8)))) q),.c (i6 s),.c (.sl (.int .u8) g)] [] k=Fg_law10_TextDecodes fuel a b d e f h i j l m n o p q s g (fun r=>match r with | t=>k (.c (.bool t),[])):=by
  kernel_rfl
theorem hG6 (fuel:Nat):GOK Tryz.prog (G6 fuel):=
  gc (ok21 fuel) Tryz.func21 (by kernel_rfl) rfl <|
  gc (ok22 fuel) Tryz.func22 (by kernel_rfl) rfl <|
  gc (ok26 fuel) Tryz.func26 (by kernel_rfl) rfl <|
  gc (ok27 fuel) Tryz.func27 (by kernel_rfl) rfl <|
  gc (ok28 fuel) Tryz.func28 (by kernel_rfl) rfl <|
  gok_nil
def spg6 (F:YF6):Ev.Spec:=fun args objs k=>match args,objs with | [.agg [i6 b,i6 d,.bool e,i6 f,i6 g,i6 h,.bool i,i6 j],.c (.sl (.pair (.int .i64) (.pair (.int .i64) (.sl (.int .u8)))) l),.c (i6 m),.c (.sl (.int .u8) a)],[]=>F b d e f g h i j l m a (fun r=>match r with | n=>k (.c (.bool n),[])) | _,_=>none
def spec6 (fuel:Nat):Ev.Spec:=spg6 (F_law10_TextDecodes fuel)
theorem ok6 (fuel:Nat):FnOK Tryz.prog 6 (spec6 fuel):=by
  intro args objs kk r h
  unfold spec6 spg6 at h
  split at h
  · skip
    exact fo0 (hG6 fuel) Tryz.func6 rfl (by kernel_rfl) _ _ kk r ((F6_eqg fuel (F_law10_long fuel) (F_law10_Awake fuel) (F_text_Decode fuel) (F_ref10_Decode fuel) (F_ref10_SameItems fuel) _ _ _ _ _ _ _ _ _ _ _ kk).trans h)
  · cases h
end
end Go.Proofs.YtipdidpalcmlhaaGreat

