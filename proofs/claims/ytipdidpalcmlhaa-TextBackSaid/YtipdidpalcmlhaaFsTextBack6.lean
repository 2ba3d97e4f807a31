/- What the functions that TextBack reaches do: their typed texts, each with the proof that the machine does it. No condition. -/
import Derived.Test.YtipdidpalcmlhaaEvX
import Derived.Test.YtipdidpalcmlhaaFsTextBack1
import Derived.Test.YtipdidpalcmlhaaFsTextBack2
import Derived.Test.YtipdidpalcmlhaaFsTextBack3
import Derived.Test.YtipdidpalcmlhaaFsTextBack5
import Derived.Test.YtipdidpalcmlhaaFsTextBack4
set_option linter.unusedVariables false
set_option linter.unusedSimpArgs false
set_option linter.unusedSectionVars false
set_option linter.unusedVariables false
set_option linter.unusedSimpArgs false
set_option maxRecDepth 100000
set_option maxHeartbeats 2000000
namespace Go.Proofs.Ytipdidpalcmlhaa
open Go Ev
open Go.IntKind (i64 u64 u8 i32 u32 u16)
noncomputable section
def kp20 (i:Nat):Option (List Nat):=Ev.look i [(11,[2,4,16,17,18]),(100000,[16]),(200019,[16]),(400000,[8,9])]
def Gg20 (e:YF43) (g:YF48) (h:YF49) (i:YF55) (a:YF56_e4a) (b:YF57_91e) (j:YF58) (c:YF59_b14) (d:YF60_457) (f:Nat):Option Ev.Spec:=Ev.look f [(43,spg43 e),(48,spg48 g),(49,spg49 h),(55,spg55 i),(56,spg56_e4a a),(57,spg57_91e b),(58,spg58 j),(59,spg59_b14 c),(60,spg60_457 d)]
def G20 (fuel:Nat):Nat→Option Ev.Spec:=Gg20 (F_text_begun fuel) (F_text_lay fuel) (F_coder_New fuel) (F_coder_NewDecoder fuel) (F_text_reader_num_e4a fuel) (F_text_reader_check_91e fuel) (F_text_near fuel) (F_text_reader_within_b14 fuel) (F_text_reader_strip_457 fuel)
abbrev V_text_Decode_0:Type:=Int×Int×Int×Int×Int×Bool×Int×Int×Int×Bool×Int×Int×Int×Bool×Int×Int×Int×Bool×Int×Int×Int×Int×(List (Int×(Int×LI)))×Int×Int×Int×Int×Int×Int×Int×Int×Bool×Bool×(List (Int×(Int×(Int×(Bool×(Int×(Int×(Int×(Int×LI)))))))))×LI×LI
abbrev W_text_Decode_0:Type:=(Int×Int×Bool×Int×Int×Int×Bool×Int×Int×Int×Int×(List (Int×(Int×LI)))×Int×Int×Int×Int×Int×Int×Int×Int×Bool×Bool×(List (Int×(Int×(Int×(Bool×(Int×(Int×(Int×(Int×LI)))))))))×LI×LI→OA)
def Sg_text_Decode_0 (fuel:Nat) (K9:YF43) (L0:YF48) (L1:YF49) (L2:YF55) (t2:YF56_e4a) (R:YF57_91e) (t1:YF58) (S:YF59_b14) (T:YF60_457) (f d:Int) (e1 e h:Int) (i:Bool) (j k l:Int) (m:Bool) (g l9 m0:Int) (m1:Bool) (m2 m3 m4:Int) (m5:Bool) (m6 m7:Int) (m8 m9:Int) (n0:(List (Int×(Int×LI)))) (n1 h8:Int) (n2 n3:Int) (n4 n5:Int) (n6 n7:Int) (n8 n9:Bool) (h9:(List (Int×(Int×(Int×(Bool×(Int×(Int×(Int×(Int×LI)))))))))) (o0 o1:LI) (c:V_text_Decode_0→OA) (B:W_text_Decode_0):OA:=match B with | b=>bif h8==0 then bif decide ((↑h9.length:Int) < f) then (t2 (0) l9 m0 m1 m2 m3 m4 m5 m6 m7 m8 m9 n0 n1 h8 n2 n3 n4 n5 n6 n7 n8 n9 h9 o0 o1 (fun (J5,a,d3,d4,d5,d6,d7,d8,d9,e0,a8,a9,b0,b1,b2,b3,b4,b5,b6,b7,b8,b9,c0,c1,G,c2,c3)=>bif !J5 then bif decide (a > 0) then bif decide (e > 1) then (R (true) d3 d4 d5 d6 d7 d8 d9 e0 a8 a9 b0 b1 b2 b3 b4 b5 b6 b7 b8 b9 c0 c1 G c2 c3 (fun (B9,k8,k9,l0,l1,l2,l3,l4,l5,l6,j0,j1,j2,j3,j4,j5,j6,j7,j8,j9,k0,k1,k2,k3,k4,k5)=>(S (48) e1 ((-100000:Int)) (100000) k8 k9 l0 l1 l2 l3 l4 l5 l6 j0 j1 j2 j3 j4 j5 j6 j7 j8 j9 k0 k1 k2 k3 k4 k5 (fun (o,H,I,J,K,L,M,N,O,P,p,q,r,s,n,t,u,v,w,x,y,z,A,C,D,E)=>bif n==0 then (T (i64.wrap (d+a)) o H I J K L M N O P p q r s n t u v w x y z A C D E (fun (Q,c4,c5,c6,c7,c8,c9,d0,d1,d2,U,V,W,X,F,Y,Z,a0,a1,a2,a3,a4,a5,a6,a7)=>c (f,i64.wrap (d+a),o,e,h,i,j,k,l,m,g,Q,c4,c5,c6,c7,c8,c9,d0,d1,d2,U,V,W,X,F,Y,Z,a0,a1,a2,a3,a4,a5,a6,a7))) else c (f,i64.wrap (d+a),o,e,h,i,j,k,l,m,g,H,I,J,K,L,M,N,O,P,p,q,r,s,n,t,u,v,w,x,y,z,A,C,D,E))))) else (t1 (i64.wrap (d+a)) (100000) (fun K5=>(R K5 d3 d4 d5 d6 d7 d8 d9 e0 a8 a9 b0 b1 b2 b3 b4 b5 b6 b7 b8 b9 c0 c1 G c2 c3 (fun (o,H,I,J,K,L,M,N,O,P,p,q,r,s,n,t,u,v,w,x,y,z,A,C,D,E)=>(S (48) e1 ((-100000:Int)) (100000) H I J K L M N O P p q r s n t u v w x y z A C D E (fun (l7,r3,r4,r5,r6,r7,r8,r9,s0,s1,o2,o3,o4,o5,k6,o6,o7,o8,o9,p0,p1,p2,p3,p4,p5,p6)=>bif k6==0 then (T (i64.wrap (d+a)) l7 r3 r4 r5 r6 r7 r8 r9 s0 s1 o2 o3 o4 o5 k6 o6 o7 o8 o9 p0 p1 p2 p3 p4 p5 p6 (fun (C0,C1,C2,C3,C4,C5,C6,C7,C8,C9,t3,t4,t5,t6,t7,t8,t9,v0,v1,v2,v3,v4,v5,v6,v7)=>c (f,i64.wrap (d+a),l7,e,h,i,j,k,l,m,g,C0,C1,C2,C3,C4,C5,C6,C7,C8,C9,t3,t4,t5,t6,t7,t8,t9,v0,v1,v2,v3,v4,v5,v6,v7))) else c (f,i64.wrap (d+a),l7,e,h,i,j,k,l,m,g,r3,r4,r5,r6,r7,r8,r9,s0,s1,o2,o3,o4,o5,k6,o6,o7,o8,o9,p0,p1,p2,p3,p4,p5,p6))))))) else bif (↑G.length:Int)==0 then bif decide (e > 1) then (R (true) d3 d4 d5 d6 d7 d8 d9 e0 a8 a9 b0 b1 b2 b3 b4 b5 b6 b7 b8 b9 c0 c1 G c2 c3 (fun (K7,D0,D1,D2,D3,D4,D5,D6,D7,D8,v8,v9,w0,w1,w2,w3,w4,w5,w6,w7,w8,w9,x0,x1,x2,x3)=>(S (48) e1 ((-100000:Int)) (100000) D0 D1 D2 D3 D4 D5 D6 D7 D8 v8 v9 w0 w1 w2 w3 w4 w5 w6 w7 w8 w9 x0 x1 x2 x3 (fun (g8,g9,h0,h1,h2,h3,h4,h5,h6,h7,e3,e4,e5,e6,e2,e7,e8,e9,g0,g1,g2,g3,g4,g5,g6,g7)=>bif e2==0 then (T (i64.wrap (d+a)) g8 g9 h0 h1 h2 h3 h4 h5 h6 h7 e3 e4 e5 e6 e2 e7 e8 e9 g0 g1 g2 g3 g4 g5 g6 g7 (fun (D9,E0,E1,E2,E3,E4,E5,E6,E7,E8,x4,x5,x6,x7,x8,x9,y0,y1,y2,y3,y4,y5,y6,y7,y8)=>c (f,i64.wrap (d+a),g8,e,h,i,j,k,l,m,g,D9,E0,E1,E2,E3,E4,E5,E6,E7,E8,x4,x5,x6,x7,x8,x9,y0,y1,y2,y3,y4,y5,y6,y7,y8))) else c (f,i64.wrap (d+a),g8,e,h,i,j,k,l,m,g,g9,h0,h1,h2,h3,h4,h5,h6,h7,e3,e4,e5,e6,e2,e7,e8,e9,g0,g1,g2,g3,g4,g5,g6,g7))))) else (t1 (i64.wrap (d+a)) (100000) (fun K6=>(R K6 d3 d4 d5 d6 d7 d8 d9 e0 a8 a9 b0 b1 b2 b3 b4 b5 b6 b7 b8 b9 c0 c1 G c2 c3 (fun (g8,g9,h0,h1,h2,h3,h4,h5,h6,h7,e3,e4,e5,e6,e2,e7,e8,e9,g0,g1,g2,g3,g4,g5,g6,g7)=>(S (48) e1 ((-100000:Int)) (100000) g9 h0 h1 h2 h3 h4 h5 h6 h7 e3 e4 e5 e6 e2 e7 e8 e9 g0 g1 g2 g3 g4 g5 g6 g7 (fun (Q,c4,c5,c6,c7,c8,c9,d0,d1,d2,U,V,W,X,F,Y,Z,a0,a1,a2,a3,a4,a5,a6,a7,p7)=>bif F==0 then (T (i64.wrap (d+a)) Q c4 c5 c6 c7 c8 c9 d0 d1 d2 U V W X F Y Z a0 a1 a2 a3 a4 a5 a6 a7 p7 (fun (E9,F0,F1,F2,F3,F4,F5,F6,F7,F8,y9,z0,z1,z2,z3,z4,z5,z6,z7,z8,z9,A0,A1,A2,A3)=>c (f,i64.wrap (d+a),Q,e,h,i,j,k,l,m,g,E9,F0,F1,F2,F3,F4,F5,F6,F7,F8,y9,z0,z1,z2,z3,z4,z5,z6,z7,z8,z9,A0,A1,A2,A3))) else c (f,i64.wrap (d+a),Q,e,h,i,j,k,l,m,g,c4,c5,c6,c7,c8,c9,d0,d1,d2,U,V,W,X,F,Y,Z,a0,a1,a2,a3,a4,a5,a6,a7,p7))))))) else (R (false) d3 d4 d5 d6 d7 d8 d9 e0 a8 a9 b0 b1 b2 b3 b4 b5 b6 b7 b8 b9 c0 c1 G c2 c3 (fun (B9,k8,k9,l0,l1,l2,l3,l4,l5,l6,j0,j1,j2,j3,j4,j5,j6,j7,j8,j9,k0,k1,k2,k3,k4,k5)=>(S (48) e1 ((-100000:Int)) (100000) k8 k9 l0 l1 l2 l3 l4 l5 l6 j0 j1 j2 j3 j4 j5 j6 j7 j8 j9 k0 k1 k2 k3 k4 k5 (fun (o,H,I,J,K,L,M,N,O,P,p,q,r,s,n,t,u,v,w,x,y,z,A,C,D,E)=>bif n==0 then (T (i64.wrap (d+a)) o H I J K L M N O P p q r s n t u v w x y z A C D E (fun (Q,c4,c5,c6,c7,c8,c9,d0,d1,d2,U,V,W,X,F,Y,Z,a0,a1,a2,a3,a4,a5,a6,a7)=>c (f,i64.wrap (d+a),o,e,h,i,j,k,l,m,g,Q,c4,c5,c6,c7,c8,c9,d0,d1,d2,U,V,W,X,F,Y,Z,a0,a1,a2,a3,a4,a5,a6,a7))) else c (f,i64.wrap (d+a),o,e,h,i,j,k,l,m,g,H,I,J,K,L,M,N,O,P,p,q,r,s,n,t,u,v,w,x,y,z,A,C,D,E))))) else (R (false) d3 d4 d5 d6 d7 d8 d9 e0 a8 a9 b0 b1 b2 b3 b4 b5 b6 b7 b8 b9 c0 c1 G c2 c3 (fun (K8,J6,J7,J8,J9,K0,K1,K2,K3,K4,F9,G0,G1,G2,G3,G4,G5,G6,G7,G8,G9,H0,H1,H2,H3,H4)=>(S (48) e1 ((-100000:Int)) (100000) J6 J7 J8 J9 K0 K1 K2 K3 K4 F9 G0 G1 G2 G3 G4 G5 G6 G7 G8 G9 H0 H1 H2 H3 H4 (fun (l8,s2,s3,s4,s5,s6,s7,s8,s9,t0,p8,p9,q0,q1,k7,q2,q3,q4,q5,q6,q7,q8,q9,r0,r1,r2)=>bif k7==0 then (T (i64.wrap (d+a)) l8 s2 s3 s4 s5 s6 s7 s8 s9 t0 p8 p9 q0 q1 k7 q2 q3 q4 q5 q6 q7 q8 q9 r0 r1 r2 (fun (H5,H6,H7,H8,H9,J0,J1,J2,J3,J4,A4,A5,A6,A7,A8,A9,B0,B1,B2,B3,B4,B5,B6,B7,B8)=>c (f,i64.wrap (d+a),l8,e,h,i,j,k,l,m,g,H5,H6,H7,H8,H9,J0,J1,J2,J3,J4,A4,A5,A6,A7,A8,A9,B0,B1,B2,B3,B4,B5,B6,B7,B8))) else c (f,i64.wrap (d+a),l8,e,h,i,j,k,l,m,g,s2,s3,s4,s5,s6,s7,s8,s9,t0,p8,p9,q0,q1,k7,q2,q3,q4,q5,q6,q7,q8,q9,r0,r1,r2))))))) else b (l9,m0,m1,m2,m3,m4,m5,m6,m7,m8,m9,n0,n1,h8,n2,n3,n4,n5,n6,n7,n8,n9,h9,o0,o1) else b (l9,m0,m1,m2,m3,m4,m5,m6,m7,m8,m9,n0,n1,h8,n2,n3,n4,n5,n6,n7,n8,n9,h9,o0,o1)
def S_text_Decode_0 (fuel:Nat) (v:Int×Int×Int×Int×Int×Bool×Int×Int×Int×Bool×Int×Int×Int×Bool×Int×Int×Int×Bool×Int×Int×Int×Int×(List (Int×(Int×(List Int))))×Int×Int×Int×Int×Int×Int×Int×Int×Bool×Bool×(List (Int×(Int×(Int×(Bool×(Int×(Int×(Int×(Int×(List Int))))))))))×(List Int)×(List Int)) (c:(Int×Int×Int×Int×Int×Bool×Int×Int×Int×Bool×Int×Int×Int×Bool×Int×Int×Int×Bool×Int×Int×Int×Int×(List (Int×(Int×(List Int))))×Int×Int×Int×Int×Int×Int×Int×Int×Bool×Bool×(List (Int×(Int×(Int×(Bool×(Int×(Int×(Int×(Int×(List Int))))))))))×(List Int)×(List Int))→Option Ans) (B:(Int×Int×Bool×Int×Int×Int×Bool×Int×Int×Int×Int×(List (Int×(Int×(List Int))))×Int×Int×Int×Int×Int×Int×Int×Int×Bool×Bool×(List (Int×(Int×(Int×(Bool×(Int×(Int×(Int×(Int×(List Int))))))))))×(List Int)×(List Int)→Option Ans)):Option Ans:=match v with | (D,E,F,G,H,I,J,K,L,M,a,b,d,e,f,g,h,i,j,k,l,m,n,o,p,q,r,s,t,u,w,x,y,z,A,C)=>Sg_text_Decode_0 fuel (F_text_begun fuel) (F_text_lay fuel) (F_coder_New fuel) (F_coder_NewDecoder fuel) (F_text_reader_num_e4a fuel) (F_text_reader_check_91e fuel) (F_text_near fuel) (F_text_reader_within_b14 fuel) (F_text_reader_strip_457 fuel) D E F G H I J K L M a b d e f g h i j k l m n o p q r s t u w x y z A C c B
def L_text_Decode_0 (fuel:Nat) (v:V_text_Decode_0) (b:W_text_Decode_0):Option Ans:=iter (S_text_Decode_0 fuel) fuel v b
def T20_0 (v:V_text_Decode_0):Ev.St:=match v with | (C,D,E,F,G,H,I,J,K,L,a,b,d,e,f,g,h,i,j,k,l,m,n,o,p,q,r,s,t,u,w,x,y,z,A,B)=>⟨[(2,.c (i6 C)),(4,.c (.ptr 0 0)),(16,.c (.ptr 1 0)),(17,.c (i6 D)),(18,.c (i6 E))],[(0,.cells 47 [i6 F,i6 G,.bool H,i6 I,i6 J,i6 K,.bool L,i6 a]),(1,.cells 104 [i6 b,i6 d,.bool e,i6 f,i6 g,i6 h,.bool i,i6 j,i6 k,i6 l,i6 m,.ptr 2 0,.sl (.pair (.int .i64) (.pair (.int .i64) (.sl (.int .u8)))) n,.own 3,i6 o,i6 p]),(2,.cells 163 (i6 q::.own 4::ctb (.int .u64 r::.int .u64 s::.own 5::i6 t::.int .u64 u::i6 w::.bool x::.bool y::[]))),(3,.vec 73 (.pair (.int .i64) (.pair (.int .i64) (.pair (.int .i64) (.pair .bool (.pair (.int .i64) (.pair (.int .i64) (.pair (.int .i64) (.pair (.int .i64) (.sl (.int .u8)))))))))) z true),(4,.vec 3 (.int .i64) A true),(5,.vec 5 (.int .u8) B true)],6,0⟩
def E20_0 (K:KT):W_text_Decode_0:=(fun v=>match v with | (q,r,s,t,u,w,x,y,z,A,a,b,d,e,f,g,h,i,j,k,l,m,n,o,p)=>K .normal ⟨[(16,.c (.ptr 0 0))],[(0,.cells 104 [i6 q,i6 r,.bool s,i6 t,i6 u,i6 w,.bool x,i6 y,i6 z,i6 A,i6 a,.ptr 1 0,.sl (.pair (.int .i64) (.pair (.int .i64) (.sl (.int .u8)))) b,.own 2,i6 d,i6 e]),(1,.cells 163 (i6 f::.own 3::ctb (.int .u64 g::.int .u64 h::.own 4::i6 i::.int .u64 j::i6 k::.bool l::.bool m::[]))),(2,.vec 73 (.pair (.int .i64) (.pair (.int .i64) (.pair (.int .i64) (.pair .bool (.pair (.int .i64) (.pair (.int .i64) (.pair (.int .i64) (.pair (.int .i64) (.sl (.int .u8)))))))))) n true),(3,.vec 3 (.int .i64) o true),(4,.vec 5 (.int .u8) p true)],5,0⟩)
theorem S20_0_okg (fuel:Nat) (e:YF43) (f:YF48) (g:YF49) (h:YF55) (a:YF56_e4a) (b:YF57_91e) (i:YF58) (c:YF59_b14) (d:YF60_457) (R:Ev.St→OA) (K:KT) (L M:Int) (N O P:Int) (Q:Bool) (S T U:Int) (V:Bool) (j k l:Int) (m:Bool) (n o p:Int) (q:Bool) (r s:Int) (t u:Int) (w:(List (Int×(Int×LI)))) (x y:Int) (z A:Int) (B C:Int) (D E:Int) (F G:Bool) (H:(List (Int×(Int×(Int×(Bool×(Int×(Int×(Int×(Int×LI)))))))))) (I J:LI):evalCode tab (Gg20 e f g h a b i c d) J0 kp20 fuel (bodyOf 0 Try.f20) (T20_0 (L,M,N,O,P,Q,S,T,U,V,j,k,l,m,n,o,p,q,r,s,t,u,w,x,y,z,A,B,C,D,E,F,G,H,I,J)) (lc kp20 11 0 R K)=Sg_text_Decode_0 fuel e f g h a b i c d L M N O P Q S T U V j k l m n o p q r s t u w x y z A B C D E F G H I J (fun v=>R (T20_0 v)) (E20_0 K):=by
  kernel_rfl
def B20_0 (fuel:Nat):Ev.Blk:=fun st K=>match canonO (kp20 11) st with | some s=>(match s with | ⟨[(W,.c (i6 X)),(Y,.c (.ptr Z a0)),(a1,.c (.ptr a2 a3)),(a4,.c (i6 a5)),(a6,.c (i6 a7))],[(a8,.cells a [i6 a9,i6 b0,.bool b1,i6 b2,i6 b3,i6 b4,.bool b5,i6 b]),(d,.cells e [i6 f,i6 g,.bool h,i6 i,i6 j,i6 k,.bool l,i6 m,i6 n,i6 o,i6 p,.ptr q r,.sl (.pair (.int .i64) (.pair (.int .i64) (.sl (.int .u8)))) t,.own u,i6 v,i6 w]),(x,.cells y z),(A,.vec B (.pair (.int .i64) (.pair (.int .i64) (.pair (.int .i64) (.pair .bool (.pair (.int .i64) (.pair (.int .i64) (.pair (.int .i64) (.pair (.int .i64) (.sl (.int .u8)))))))))) C true),(D,.vec E (.int .i64) F true),(G,.vec H (.int .u8) I true)],J,L⟩=>(match splitRun 2 ctn z with | some ([i6 M,.own N],[.int .u64 O,.int .u64 P,.own Q,i6 R,.int .u64 S,i6 T,.bool U,.bool V])=>bif qb [W,Y,Z,a0,a1,a2,a3,a4,a6,a8,a,d,e,q,r,u,x,y,A,B,D,E,G,H,J,L,N,Q] [2,4,0,0,16,1,0,17,18,0,47,1,104,2,0,3,2,163,3,73,4,3,5,5,6,0,4,5] then iter (S_text_Decode_0 fuel) fuel (X,a5,a7,a9,b0,b1,b2,b3,b4,b5,b,f,g,h,i,j,k,l,m,n,o,p,t,v,w,M,O,P,R,S,T,U,V,C,F,I) (E20_0 K) else none | _=>none) | _=>none) | none=>none
theorem B20_0_ok (fuel:Nat) (st:Ev.St) (K:KT) (r:Ans) (h:B20_0 fuel st K=some r):evalCode tab (G20 fuel) J0 kp20 fuel (.block 0 (.loop (bodyOf 0 Try.f20))) st K=some r:=by
  unfold B20_0 at h
  split at h
  · rename_i s hs
    split at h
    · skip
      split at h
      rotate_left 1
      · cases h
      rename_i hsp
      have esp:=splitRun_eq hsp
      subst esp
      obtain ⟨hb,h⟩:=cond_some' h
      cases qb_eq hb
      exact blk_loop (S:=T20_0) (ks:=E20_0) (step:=S_text_Decode_0 fuel) (v:=(_,_,_,_,_,_,_,_,_,_,_,_,_,_,_,_,_,_,_,_,_,_,_,_,_,_,_,_,_,_,_,_,_,_,_,_)) (by kernel_rfl) (by kernel_rfl) (fun R K v=>by obtain ⟨E,F,G,H,I,J,L,M,N,O,a,b,c,d,e,f,g,i,j,k,l,m,n,o,p,q,t,u,w,x,y,z,A,B,C,D⟩:=v; exact S20_0_okg fuel (F_text_begun fuel) (F_text_lay fuel) (F_coder_New fuel) (F_coder_NewDecoder fuel) (F_text_reader_num_e4a fuel) (F_text_reader_check_91e fuel) (F_text_near fuel) (F_text_reader_within_b14 fuel) (F_text_reader_strip_457 fuel) R K E F G H I J L M N O a b c d e f g i j k l m n o p q t u w x y z A B C D) hs h
    · cases h
  · cases h
def J20 (fuel:Nat) (i:Nat):Option Ev.Blk:=Ev.look i [(100000,B20_0 fuel)]
def Fg_text_Decode (fuel:Nat) (K:YF43) (L:YF48) (M:YF49) (N:YF55) (P:YF56_e4a) (Q:YF57_91e) (b8:YF58) (R:YF59_b14) (S:YF60_457) (d e:Int) (f:Bool) (g h a:Int) (i:Bool) (j:Int) (b:(List (Int×Int×LI))) (c:Int) (O:LI) (k0:(Int×(List (Int×(Int×(Int×(Bool×(Int×(Int×(Int×(Int×LI))))))))))→OA):OA:=(K d e f g h a i j b ([]) (fun m=>bif m != 0 then k0 (m,[]) else bif decide ((↑b.length:Int) > 60) then k0 (2,[]) else bif decide (c < 0) then k0 (2,[]) else bif decide (c > 300) then k0 (2,[]) else (L d e f g h a i j ((↑b.length:Int)) (fun (o,p,q,r,s,t,u,v,w,x,k)=>(M a k (fun (y,T,z)=>(N y z O (fun b9=>none) (fun (U,A,B,C,D,E,F,G,H,I,n)=>(L_text_Decode_0 fuel (c,0,0,d,e,f,g,h,a,i,j,o,p,q,r,s,t,u,v,w,x,k,b,c,0,A,B,C,D,E,F,G,H,[],I,n) (fun (a8,a9,b0,b1,b2,b3,b4,b5,b6,b7,V,W,X,l,Y,Z,a0,a1,a2,a3,a4,a5,J,a6,a7)=>bif l != 0 then k0 (l,[]) else k0 (0,J)))))))))))
abbrev YF20:Type:=Int→Int→Bool→Int→Int→Int→Bool→Int→((List (Int×Int×LI)))→Int→LI→((Int×(List (Int×(Int×(Int×(Bool×(Int×(Int×(Int×(Int×LI))))))))))→Option Ans)→Option Ans
def F_text_Decode (fuel:Nat):YF20:=Fg_text_Decode fuel (F_text_begun fuel) (F_text_lay fuel) (F_coder_New fuel) (F_coder_NewDecoder fuel) (F_text_reader_num_e4a fuel) (F_text_reader_check_91e fuel) (F_text_near fuel) (F_text_reader_within_b14 fuel) (F_text_reader_strip_457 fuel)
theorem F20_eqg (fuel:Nat) (f:YF43) (g:YF48) (h:YF49) (i:YF55) (a:YF56_e4a) (b:YF57_91e) (j:YF58) (d:YF59_b14) (e:YF60_457) (m n:Int) (o:Bool) (p q s:Int) (t:Bool) (u:Int) (v:(List (Int×Int×LI))) (w:Int) (l:LI) (k:Ev.Cont):evalFn tab (Gg20 f g h i a b j d e) (J20 fuel) kp20 fuel Try.f20 [.agg [i6 m,i6 n,.bool o,i6 p,i6 q,i6 s,.bool t,i6 u],.c (.sl (.pair (.int .i64) (.pair (.int .i64) (.sl (.int .u8)))) v),.c (i6 w),.c (.sl (.int .u8) l)] [] k=Fg_text_Decode fuel f g h i a b j d e m n o p q s t u v w l (fun r=>match r with | (x,y)=>k (.tup [(false,[.own 0]),(false,[i6 x])],[.vec 73 (.pair (.int .i64) (.pair (.int .i64) (.pair (.int .i64) (.pair .bool (.pair (.int .i64) (.pair (.int .i64) (.pair (.int .i64) (.pair (.int .i64) (.sl (.int .u8)))))))))) y true])):=by
  kernel_rfl
theorem hG20 (fuel:Nat):GOK Try.prog (G20 fuel):=
  gc (ok43 fuel) Try.func43 (by kernel_rfl) rfl <|
  gc (ok48 fuel) Try.func48 (by kernel_rfl) rfl <|
  gc (ok49 fuel) Try.func49 (by kernel_rfl) rfl <|
  gc (ok55 fuel) Try.func55 (by kernel_rfl) rfl <|
  gc (ok56_e4a fuel) Try.func56 (by kernel_rfl) rfl <|
  gc (ok57_91e fuel) Try.func57 (by kernel_rfl) rfl <|
  gc (ok58 fuel) Try.func58 (by kernel_rfl) rfl <|
  gc (ok59_b14 fuel) Try.func59 (by kernel_rfl) rfl <|
  gc (ok60_457 fuel) Try.func60 (by kernel_rfl) rfl <|
  gok_nil
theorem B20_0_blk (fuel:Nat):BlkOK Try.prog Try.f20.ntmps (.block 0 (.loop (bodyOf 0 Try.f20))) (B20_0 fuel):=bo0 (hG20 fuel) (by kernel_rfl) (by kernel_rfl) (B20_0_ok fuel)
def spg20 (F:YF20):Ev.Spec:=fun args objs k=>match args,objs with | [.agg [i6 b,i6 d,.bool e,i6 f,i6 g,i6 h,.bool i,i6 j],.c (.sl (.pair (.int .i64) (.pair (.int .i64) (.sl (.int .u8)))) l),.c (i6 m),.c (.sl (.int .u8) a)],[]=>F b d e f g h i j l m a (fun r=>match r with | (n,o)=>k (.tup [(false,[.own 0]),(false,[i6 n])],[.vec 73 (.pair (.int .i64) (.pair (.int .i64) (.pair (.int .i64) (.pair .bool (.pair (.int .i64) (.pair (.int .i64) (.pair (.int .i64) (.pair (.int .i64) (.sl (.int .u8)))))))))) o true])) | _,_=>none
theorem ok20 (fuel:Nat):FnOK Try.prog 20 (spg20 (F_text_Decode fuel)):=by
  intro args objs kk r h
  unfold spg20 at h
  split at h
  · skip
    exact fo1 (hG20 fuel) Try.func20 rfl (B20_0_blk fuel) (by kernel_rfl) _ _ kk r ((F20_eqg fuel (F_text_begun fuel) (F_text_lay fuel) (F_coder_New fuel) (F_coder_NewDecoder fuel) (F_text_reader_num_e4a fuel) (F_text_reader_check_91e fuel) (F_text_near fuel) (F_text_reader_within_b14 fuel) (F_text_reader_strip_457 fuel) _ _ _ _ _ _ _ _ _ _ _ kk).trans h)
  · cases h
def kp95 (i:Nat):Option (List Nat):=Ev.look i []
def Gg95 (f:Nat):Option Ev.Spec:=Ev.look f []
def G95 (fuel:Nat):Nat→Option Ev.Spec:=Gg95
def F_text_floor (fuel:Nat) (b a:Int) (k0:(Int)→Option Ans):Option Ans:=bif decide (a=0) then none else bif decide (a=0) then none else bif b.tmod a != 0 then bif decide (b < 0) then k0 (i64.wrap (i64.wrap (b.tdiv a) - 1)) else k0 (i64.wrap (b.tdiv a)) else k0 (i64.wrap (b.tdiv a))
abbrev YF95:Type:=Int→Int→(Int→Option Ans)→Option Ans
theorem F95_eq (fuel:Nat) (a b:Int) (k:Ev.Cont):evalFn tab (G95 fuel) J0 kp95 fuel Try.f95 [.c (i6 a),.c (i6 b)] [] k=F_text_floor fuel a b (fun r=>match r with | d=>k (.c (i6 d),[])):=by
  kernel_rfl
theorem hG95 (fuel:Nat):GOK Try.prog (G95 fuel):=
  gok_nil
def spg95 (F:YF95):Ev.Spec:=fun args objs k=>match args,objs with | [.c (i6 a),.c (i6 b)],[]=>F a b (fun r=>match r with | d=>k (.c (i6 d),[])) | _,_=>none
theorem ok95 (fuel:Nat):FnOK Try.prog 95 (spg95 (F_text_floor fuel)):=by
  intro args objs kk r h
  unfold spg95 at h
  split at h
  · skip
    exact fo0 (hG95 fuel) Try.func95 rfl (by kernel_rfl) _ _ kk r ((F95_eq fuel _ _ kk).trans h)
  · cases h
def kp46 (i:Nat):Option (List Nat):=Ev.look i []
def Gg46 (a:YF95) (f:Nat):Option Ev.Spec:=Ev.look f [(95,spg95 a)]
def G46 (fuel:Nat):Nat→Option Ev.Spec:=Gg46 (F_text_floor fuel)
def Fg_text_strip (fuel:Nat) (a:YF95) (c k:Int) (l:Bool) (m n o:Int) (p:Bool) (q r:Int) (s b:Int) (e:Bool) (f g:Int) (h i:Int) (j:LI) (k0:(Int)→OA):OA:=(a b c (fun d=>k0 d))
abbrev YF46:Type:=Int→Int→Bool→Int→Int→Int→Bool→Int→Int→Int→Int→Bool→Int→Int→Int→Int→LI→(Int→Option Ans)→Option Ans
def F_text_strip (fuel:Nat):YF46:=Fg_text_strip fuel (F_text_floor fuel)
theorem F46_eqg (fuel:Nat) (a:YF95) (j l:Int) (m:Bool) (n o p:Int) (q:Bool) (s t:Int) (u b:Int) (d:Bool) (e f:Int) (g h:Int) (i:LI) (k:Ev.Cont):evalFn tab (Gg46 a) J0 kp46 fuel Try.f46 [.agg [i6 j,i6 l,.bool m,i6 n,i6 o,i6 p,.bool q,i6 s],.agg [i6 t,i6 u,i6 b,.bool d,i6 e,i6 f,i6 g,i6 h,.sl (.int .u8) i]] [] k=Fg_text_strip fuel a j l m n o p q s t u b d e f g h i (fun r=>match r with | v=>k (.c (i6 v),[])):=by
  kernel_rfl
theorem hG46 (fuel:Nat):GOK Try.prog (G46 fuel):=
  gc (ok95 fuel) Try.func95 (by kernel_rfl) rfl <|
  gok_nil
def spg46 (F:YF46):Ev.Spec:=fun args objs k=>match args,objs with | [.agg [i6 i,i6 j,.bool l,i6 m,i6 n,i6 o,.bool p,i6 q],.agg [i6 s,i6 t,i6 a,.bool b,i6 d,i6 e,i6 f,i6 g,.sl (.int .u8) h]],[]=>F i j l m n o p q s t a b d e f g h (fun r=>match r with | u=>k (.c (i6 u),[])) | _,_=>none
theorem ok46 (fuel:Nat):FnOK Try.prog 46 (spg46 (F_text_strip fuel)):=by
  intro args objs kk r h
  unfold spg46 at h
  split at h
  · skip
    exact fo0 (hG46 fuel) Try.func46 rfl (by kernel_rfl) _ _ kk r ((F46_eqg fuel (F_text_floor fuel) _ _ _ _ _ _ _ _ _ _ _ _ _ _ _ _ _ kk).trans h)
  · cases h
def kp45_805 (i:Nat):Option (List Nat):=Ev.look i [(200001,[2,3,4])]
def Gg45_805 (a:YF46) (f:Nat):Option Ev.Spec:=Ev.look f [(46,spg46 a)]
def G45_805 (fuel:Nat):Nat→Option Ev.Spec:=Gg45_805 (F_text_strip fuel)
def Fg_text_Encode_1_805 (fuel:Nat) (i:YF46) (r s t:Int) (u:Bool) (v w:Int) (x y:Int) (z:LI) (A j k:Int) (l:Bool) (m n:Int) (o p:Int) (q:LI) (a b:Int) (c:Bool) (d e f:Int) (g:Bool) (h:Int) (k0:(Int×Int×Int×Bool×Int×Int×Int×Bool×Int)→OA):OA:=(i a b c d e f g h r s t u v w x y z (fun B=>(i a b c d e f g h A j k l m n o p q (fun C=>k0 (i64.wrap (B - C),a,b,c,d,e,f,g,h)))))
abbrev YF45_805:Type:=Int→Int→Int→Bool→Int→Int→Int→Int→LI→Int→Int→Int→Bool→Int→Int→Int→Int→LI→Int→Int→Bool→Int→Int→Int→Bool→Int→((Int×Int×Int×Bool×Int×Int×Int×Bool×Int)→Option Ans)→Option Ans
def F_text_Encode_1_805 (fuel:Nat):YF45_805:=Fg_text_Encode_1_805 fuel (F_text_strip fuel)
theorem F45_805_eqg (fuel:Nat) (a:YF46) (u v w:Int) (x:Bool) (y z:Int) (A B:Int) (C:LI) (D b d:Int) (e:Bool) (f g:Int) (h i:Int) (j:LI) (l m:Int) (n:Bool) (o p q:Int) (s:Bool) (t:Int) (k:Ev.Cont):evalFn tab (Gg45_805 a) J0 kp45_805 fuel Try.f45 [.agg [i6 u,i6 v,i6 w,.bool x,i6 y,i6 z,i6 A,i6 B,.sl (.int .u8) C],.agg [i6 D,i6 b,i6 d,.bool e,i6 f,i6 g,i6 h,i6 i,.sl (.int .u8) j],.c (.ptr 0 0)] [.cells 47 [i6 l,i6 m,.bool n,i6 o,i6 p,i6 q,.bool s,i6 t]] k=Fg_text_Encode_1_805 fuel a u v w x y z A B C D b d e f g h i j l m n o p q s t (fun r=>match r with | (E,F,G,H,I,J,K,L,M)=>k (.c (i6 E),[.cells 47 [i6 F,i6 G,.bool H,i6 I,i6 J,i6 K,.bool L,i6 M]])):=by
  kernel_rfl
theorem hG45_805 (fuel:Nat):GOK Try.prog (G45_805 fuel):=
  gc (ok46 fuel) Try.func46 (by kernel_rfl) rfl <|
  gok_nil
def spg45_805 (F:YF45_805):Ev.Spec:=fun args objs k=>match args,objs with | [.agg [i6 t,i6 u,i6 v,.bool w,i6 x,i6 y,i6 z,i6 A,.sl (.int .u8) B],.agg [i6 C,i6 a,i6 b,.bool d,i6 e,i6 f,i6 g,i6 h,.sl (.int .u8) i],.c (.ptr D E)],[.cells G [i6 j,i6 l,.bool m,i6 n,i6 o,i6 p,.bool q,i6 s]]=>bif qb [D,E,G] [0,0,47] then F t u v w x y z A B C a b d e f g h i j l m n o p q s (fun r=>match r with | (H,I,J,K,L,M,N,O,P)=>k (.c (i6 H),[.cells 47 [i6 I,i6 J,.bool K,i6 L,i6 M,i6 N,.bool O,i6 P]])) else none | _,_=>none
theorem ok45_805 (fuel:Nat):FnOK Try.prog 45 (spg45_805 (F_text_Encode_1_805 fuel)):=by
  intro args objs kk r h
  unfold spg45_805 at h
  split at h
  · skip
    obtain ⟨hb,h⟩:=cond_some' h
    cases qb_eq hb
    exact fo0 (hG45_805 fuel) Try.func45 rfl (by kernel_rfl) _ _ kk r ((F45_805_eqg fuel (F_text_strip fuel) _ _ _ _ _ _ _ _ _ _ _ _ _ _ _ _ _ _ _ _ _ _ _ _ _ _ kk).trans h)
  · cases h
def kp44_040 (i:Nat):Option (List Nat):=Ev.look i [(2,[0,1,5]),(100000,[]),(200004,[0]),(400000,[4])]
def Gg44_040 (a:YF45_805) (f:Nat):Option Ev.Spec:=Ev.look f [(45,spg45_805 a)]
def G44_040 (fuel:Nat):Nat→Option Ev.Spec:=Gg44_040 (F_text_Encode_1_805 fuel)
abbrev V_slices_IsSortedFunc_api_Item_api_Item_040_0:Type:=(List (Int×(Int×(Int×(Bool×(Int×(Int×(Int×(Int×LI)))))))))×Int×Int×Int×Bool×Int×Int×Int×Bool×Int
abbrev W_slices_IsSortedFunc_api_Item_api_Item_040_0:Type:=(Bool×Int×Int×Bool×Int×Int×Int×Bool×Int→OA)×(Int×Int×Bool×Int×Int×Int×Bool×Int→OA)
def Sg_slices_IsSortedFunc_api_Item_api_Item_040_0 (fuel:Nat) (u:YF45_805) (d:(List (Int×(Int×(Int×(Bool×(Int×(Int×(Int×(Int×LI)))))))))) (a m n:Int) (o:Bool) (p q r:Int) (s:Bool) (t:Int) (c:V_slices_IsSortedFunc_api_Item_api_Item_040_0→OA) (B:W_slices_IsSortedFunc_api_Item_api_Item_040_0):OA:=match B with | (ret,b)=>bif decide (a > 0) then bif decide (0≤a∧a < (↑d.length:Int)) then bif decide (0≤i64.wrap (a - 1)∧i64.wrap (a - 1) < (↑d.length:Int)) then (u ((d.getD a.toNat (0,0,0,false,0,0,0,0,[])).fst) ((d.getD a.toNat (0,0,0,false,0,0,0,0,[])).snd.fst) ((d.getD a.toNat (0,0,0,false,0,0,0,0,[])).snd.snd.fst) ((d.getD a.toNat (0,0,0,false,0,0,0,0,[])).snd.snd.snd.fst) ((d.getD a.toNat (0,0,0,false,0,0,0,0,[])).snd.snd.snd.snd.fst) ((d.getD a.toNat (0,0,0,false,0,0,0,0,[])).snd.snd.snd.snd.snd.fst) ((d.getD a.toNat (0,0,0,false,0,0,0,0,[])).snd.snd.snd.snd.snd.snd.fst) ((d.getD a.toNat (0,0,0,false,0,0,0,0,[])).snd.snd.snd.snd.snd.snd.snd.fst) ((d.getD a.toNat (0,0,0,false,0,0,0,0,[])).snd.snd.snd.snd.snd.snd.snd.snd) ((d.getD (i64.wrap (a - 1)).toNat (0,0,0,false,0,0,0,0,[])).fst) ((d.getD (i64.wrap (a - 1)).toNat (0,0,0,false,0,0,0,0,[])).snd.fst) ((d.getD (i64.wrap (a - 1)).toNat (0,0,0,false,0,0,0,0,[])).snd.snd.fst) ((d.getD (i64.wrap (a - 1)).toNat (0,0,0,false,0,0,0,0,[])).snd.snd.snd.fst) ((d.getD (i64.wrap (a - 1)).toNat (0,0,0,false,0,0,0,0,[])).snd.snd.snd.snd.fst) ((d.getD (i64.wrap (a - 1)).toNat (0,0,0,false,0,0,0,0,[])).snd.snd.snd.snd.snd.fst) ((d.getD (i64.wrap (a - 1)).toNat (0,0,0,false,0,0,0,0,[])).snd.snd.snd.snd.snd.snd.fst) ((d.getD (i64.wrap (a - 1)).toNat (0,0,0,false,0,0,0,0,[])).snd.snd.snd.snd.snd.snd.snd.fst) ((d.getD (i64.wrap (a - 1)).toNat (0,0,0,false,0,0,0,0,[])).snd.snd.snd.snd.snd.snd.snd.snd) m n o p q r s t (fun (v,e,f,g,h,i,j,k,l)=>bif decide (v < 0) then ret (false,e,f,g,h,i,j,k,l) else c (d,i64.wrap (a - 1),e,f,g,h,i,j,k,l))) else none else none else b (m,n,o,p,q,r,s,t)
def S_slices_IsSortedFunc_api_Item_api_Item_040_0 (fuel:Nat) (v:(List (Int×(Int×(Int×(Bool×(Int×(Int×(Int×(Int×(List Int))))))))))×Int×Int×Int×Bool×Int×Int×Int×Bool×Int) (c:((List (Int×(Int×(Int×(Bool×(Int×(Int×(Int×(Int×(List Int))))))))))×Int×Int×Int×Bool×Int×Int×Int×Bool×Int)→Option Ans) (B:(Bool×Int×Int×Bool×Int×Int×Int×Bool×Int→Option Ans)×(Int×Int×Bool×Int×Int×Int×Bool×Int→Option Ans)):Option Ans:=match v with | (a,b,d,e,f,g,h,i,j,k)=>Sg_slices_IsSortedFunc_api_Item_api_Item_040_0 fuel (F_text_Encode_1_805 fuel) a b d e f g h i j k c B
def L_slices_IsSortedFunc_api_Item_api_Item_040_0 (fuel:Nat) (v:V_slices_IsSortedFunc_api_Item_api_Item_040_0) (ret:(Bool×Int×Int×Bool×Int×Int×Int×Bool×Int→Option Ans)) (b:(Int×Int×Bool×Int×Int×Int×Bool×Int→Option Ans)):Option Ans:=iter (S_slices_IsSortedFunc_api_Item_api_Item_040_0 fuel) fuel v (ret,b)
def T44_040_0 (v:V_slices_IsSortedFunc_api_Item_api_Item_040_0):Ev.St:=match v with | (a,b,d,e,f,g,h,i,j,k)=>⟨[(0,.c (.sl (.pair (.int .i64) (.pair (.int .i64) (.pair (.int .i64) (.pair .bool (.pair (.int .i64) (.pair (.int .i64) (.pair (.int .i64) (.pair (.int .i64) (.sl (.int .u8)))))))))) a)),(1,.c (.clo 45 [0])),(5,.c (i6 b))],[(0,.cells 47 [i6 d,i6 e,.bool f,i6 g,i6 h,i6 i,.bool j,i6 k])],1,1⟩
def E44_040_0 (K:KT):W_slices_IsSortedFunc_api_Item_api_Item_040_0:=((fun v=>match v with | (a,b,d,e,f,g,h,i,j)=>K .ret ⟨[(4,.c (.bool a))],[(0,.cells 47 [i6 b,i6 d,.bool e,i6 f,i6 g,i6 h,.bool i,i6 j])],1,1⟩),(fun v=>match v with | (a,b,d,e,f,g,h,i)=>K .normal ⟨[],[(0,.cells 47 [i6 a,i6 b,.bool d,i6 e,i6 f,i6 g,.bool h,i6 i])],1,1⟩))
theorem S44_040_0_okg (fuel:Nat) (a:YF45_805) (R:Ev.St→OA) (K:KT) (b:(List (Int×(Int×(Int×(Bool×(Int×(Int×(Int×(Int×LI)))))))))) (c d e:Int) (f:Bool) (g h i:Int) (j:Bool) (k:Int):evalCode tab (Gg44_040 a) J0 kp44_040 fuel (bodyOf 0 Try.f44) (T44_040_0 (b,c,d,e,f,g,h,i,j,k)) (lc kp44_040 2 0 R K)=Sg_slices_IsSortedFunc_api_Item_api_Item_040_0 fuel a b c d e f g h i j k (fun v=>R (T44_040_0 v)) (E44_040_0 K):=by
  kernel_rfl
def B44_040_0 (fuel:Nat):Ev.Blk:=fun st K=>match canonO (kp44_040 2) st with | some s=>(match s with | ⟨[(a,.c (.sl (.pair (.int .i64) (.pair (.int .i64) (.pair (.int .i64) (.pair .bool (.pair (.int .i64) (.pair (.int .i64) (.pair (.int .i64) (.pair (.int .i64) (.sl (.int .u8)))))))))) b)),(d,.c (.clo e [f])),(g,.c (i6 h))],[(i,.cells j [i6 k,i6 l,.bool m,i6 n,i6 o,i6 p,.bool q,i6 r])],t,u⟩=>bif qb [a,d,e,f,g,i,j,t,u] [0,1,45,0,5,0,47,1,1] then iter (S_slices_IsSortedFunc_api_Item_api_Item_040_0 fuel) fuel (b,h,k,l,m,n,o,p,q,r) (E44_040_0 K) else none | _=>none) | none=>none
theorem B44_040_0_ok (fuel:Nat) (st:Ev.St) (K:KT) (r:Ans) (h:B44_040_0 fuel st K=some r):evalCode tab (G44_040 fuel) J0 kp44_040 fuel (.block 0 (.loop (bodyOf 0 Try.f44))) st K=some r:=by
  unfold B44_040_0 at h
  split at h
  · rename_i s hs
    split at h
    · skip
      obtain ⟨hb,h⟩:=cond_some' h
      cases qb_eq hb
      exact blk_loop (S:=T44_040_0) (ks:=E44_040_0) (step:=S_slices_IsSortedFunc_api_Item_api_Item_040_0 fuel) (v:=(_,_,_,_,_,_,_,_,_,_)) (by kernel_rfl) (by kernel_rfl) (fun R K v=>by obtain ⟨a,b,c,d,e,f,g,i,j,k⟩:=v; exact S44_040_0_okg fuel (F_text_Encode_1_805 fuel) R K a b c d e f g i j k) hs h
    · cases h
  · cases h
def J44_040 (fuel:Nat) (i:Nat):Option Ev.Blk:=Ev.look i [(100000,B44_040_0 fuel)]
def Fg_slices_IsSortedFunc_api_Item_api_Item_040 (fuel:Nat) (r:YF45_805) (a:(List (Int×(Int×(Int×(Bool×(Int×(Int×(Int×(Int×LI)))))))))) (j k:Int) (l:Bool) (m n o:Int) (p:Bool) (q:Int) (k0:(Bool×Int×Int×Bool×Int×Int×Int×Bool×Int)→OA):OA:=(L_slices_IsSortedFunc_api_Item_api_Item_040_0 fuel (a,i64.wrap ((↑a.length:Int) - 1),j,k,l,m,n,o,p,q) (fun (ret0_0,ret0_1,ret0_2,ret0_3,ret0_4,ret0_5,ret0_6,ret0_7,ret0_8)=>k0 (ret0_0,ret0_1,ret0_2,ret0_3,ret0_4,ret0_5,ret0_6,ret0_7,ret0_8)) (fun (b,c,d,e,f,g,h,i)=>k0 (true,b,c,d,e,f,g,h,i)))
abbrev YF44_040:Type:=((List (Int×(Int×(Int×(Bool×(Int×(Int×(Int×(Int×LI))))))))))→Int→Int→Bool→Int→Int→Int→Bool→Int→((Bool×Int×Int×Bool×Int×Int×Int×Bool×Int)→Option Ans)→Option Ans
def F_slices_IsSortedFunc_api_Item_api_Item_040 (fuel:Nat):YF44_040:=Fg_slices_IsSortedFunc_api_Item_api_Item_040 fuel (F_text_Encode_1_805 fuel)
theorem F44_040_eqg (fuel:Nat) (a:YF45_805) (b:(List (Int×(Int×(Int×(Bool×(Int×(Int×(Int×(Int×LI)))))))))) (d e:Int) (f:Bool) (g h i:Int) (j:Bool) (l:Int) (k:Ev.Cont):evalFn tab (Gg44_040 a) (J44_040 fuel) kp44_040 fuel Try.f44 [.c (.sl (.pair (.int .i64) (.pair (.int .i64) (.pair (.int .i64) (.pair .bool (.pair (.int .i64) (.pair (.int .i64) (.pair (.int .i64) (.pair (.int .i64) (.sl (.int .u8)))))))))) b),.c (.clo 45 [0])] [.cells 47 [i6 d,i6 e,.bool f,i6 g,i6 h,i6 i,.bool j,i6 l]] k=Fg_slices_IsSortedFunc_api_Item_api_Item_040 fuel a b d e f g h i j l (fun r=>match r with | (m,n,o,p,q,s,t,u,v)=>k (.c (.bool m),[.cells 47 [i6 n,i6 o,.bool p,i6 q,i6 s,i6 t,.bool u,i6 v]])):=by
  kernel_rfl
theorem hG44_040 (fuel:Nat):GOK Try.prog (G44_040 fuel):=
  gc (ok45_805 fuel) Try.func45 (by kernel_rfl) rfl <|
  gok_nil
theorem B44_040_0_blk (fuel:Nat):BlkOK Try.prog Try.f44.ntmps (.block 0 (.loop (bodyOf 0 Try.f44))) (B44_040_0 fuel):=bo0 (hG44_040 fuel) (by kernel_rfl) (by kernel_rfl) (B44_040_0_ok fuel)
def spg44_040 (F:YF44_040):Ev.Spec:=fun args objs k=>match args,objs with | [.c (.sl (.pair (.int .i64) (.pair (.int .i64) (.pair (.int .i64) (.pair .bool (.pair (.int .i64) (.pair (.int .i64) (.pair (.int .i64) (.pair (.int .i64) (.sl (.int .u8)))))))))) a),.c (.clo b [d])],[.cells e [i6 f,i6 g,.bool h,i6 i,i6 j,i6 l,.bool m,i6 n]]=>bif qb [b,d,e] [45,0,47] then F a f g h i j l m n (fun r=>match r with | (o,p,q,s,t,u,v,w,x)=>k (.c (.bool o),[.cells 47 [i6 p,i6 q,.bool s,i6 t,i6 u,i6 v,.bool w,i6 x]])) else none | _,_=>none
theorem ok44_040 (fuel:Nat):FnOK Try.prog 44 (spg44_040 (F_slices_IsSortedFunc_api_Item_api_Item_040 fuel)):=by
  intro args objs kk r h
  unfold spg44_040 at h
  split at h
  · skip
    obtain ⟨hb,h⟩:=cond_some' h
    cases qb_eq hb
    exact fo1 (hG44_040 fuel) Try.func44 rfl (B44_040_0_blk fuel) (by kernel_rfl) _ _ kk r ((F44_040_eqg fuel (F_text_Encode_1_805 fuel) _ _ _ _ _ _ _ _ _ kk).trans h)
  · cases h
def kp97 (i:Nat):Option (List Nat):=Ev.look i []
def Gg97 (a:YF58) (f:Nat):Option Ev.Spec:=Ev.look f [(58,spg58 a)]
def G97 (fuel:Nat):Nat→Option Ev.Spec:=Gg97 (F_text_near fuel)
def Fg_text_rightItem (fuel:Nat) (a:YF58) (q r:Int) (s:Bool) (t u v:Int) (m:Bool) (w n:Int) (d e f:Int) (g:Bool) (b c:Int) (h i:Int) (j:LI) (k0:(Bool)→OA):OA:=bif decide (d < 0) then k0 false else bif decide (d≥n) then k0 false else (a e (100000) (fun o=>bif !o then k0 false else (a f (100000) (fun p=>bif !p then k0 false else bif !g then bif b==0 then bif c==0 then bif h==0 then bif i==0 then k0 ((↑j.length:Int)==0) else k0 false else k0 false else k0 false else k0 false else bif m then (a b (200) (fun k=>bif k then (a c (200) (fun l=>k0 l)) else k0 false)) else k0 false))))
abbrev YF97:Type:=Int→Int→Bool→Int→Int→Int→Bool→Int→Int→Int→Int→Int→Bool→Int→Int→Int→Int→LI→(Bool→Option Ans)→Option Ans
def F_text_rightItem (fuel:Nat):YF97:=Fg_text_rightItem fuel (F_text_near fuel)
theorem F97_eqg (fuel:Nat) (a:YF58) (l m:Int) (n:Bool) (o p q:Int) (s:Bool) (t u:Int) (v b d:Int) (e:Bool) (f g:Int) (h i:Int) (j:LI) (k:Ev.Cont):evalFn tab (Gg97 a) J0 kp97 fuel Try.f97 [.agg [i6 l,i6 m,.bool n,i6 o,i6 p,i6 q,.bool s,i6 t],.c (i6 u),.agg [i6 v,i6 b,i6 d,.bool e,i6 f,i6 g,i6 h,i6 i,.sl (.int .u8) j]] [] k=Fg_text_rightItem fuel a l m n o p q s t u v b d e f g h i j (fun r=>match r with | w=>k (.c (.bool w),[])):=by
  kernel_rfl
theorem hG97 (fuel:Nat):GOK Try.prog (G97 fuel):=
  gc (ok58 fuel) Try.func58 (by kernel_rfl) rfl <|
  gok_nil
def spg97 (F:YF97):Ev.Spec:=fun args objs k=>match args,objs with | [.agg [i6 j,i6 l,.bool m,i6 n,i6 o,i6 p,.bool q,i6 s],.c (i6 t),.agg [i6 u,i6 a,i6 b,.bool d,i6 e,i6 f,i6 g,i6 h,.sl (.int .u8) i]],[]=>F j l m n o p q s t u a b d e f g h i (fun r=>match r with | v=>k (.c (.bool v),[])) | _,_=>none
theorem ok97 (fuel:Nat):FnOK Try.prog 97 (spg97 (F_text_rightItem fuel)):=by
  intro args objs kk r h
  unfold spg97 at h
  split at h
  · skip
    exact fo0 (hG97 fuel) Try.func97 rfl (by kernel_rfl) _ _ kk r ((F97_eqg fuel (F_text_near fuel) _ _ _ _ _ _ _ _ _ _ _ _ _ _ _ _ _ _ kk).trans h)
  · cases h
def kp96_e36 (i:Nat):Option (List Nat):=Ev.look i []
def Gg96_e36 (a:YF97) (f:Nat):Option Ev.Spec:=Ev.look f [(97,spg97 a)]
def G96_e36 (fuel:Nat):Nat→Option Ev.Spec:=Gg96_e36 (F_text_rightItem fuel)
def Fg_text_right_1_e36 (fuel:Nat) (j:YF97) (k l m:Int) (n:Bool) (o p:Int) (q r:Int) (s:LI) (i a:Int) (b:Bool) (c d e:Int) (f:Bool) (g h:Int) (k0:(Bool×Int×Int×Bool×Int×Int×Int×Bool×Int×Int)→OA):OA:=(j i a b c d e f g h k l m n o p q r s (fun t=>k0 (!t,i,a,b,c,d,e,f,g,h)))
abbrev YF96_e36:Type:=Int→Int→Int→Bool→Int→Int→Int→Int→LI→Int→Int→Bool→Int→Int→Int→Bool→Int→Int→((Bool×Int×Int×Bool×Int×Int×Int×Bool×Int×Int)→Option Ans)→Option Ans
def F_text_right_1_e36 (fuel:Nat):YF96_e36:=Fg_text_right_1_e36 fuel (F_text_rightItem fuel)
theorem F96_e36_eqg (fuel:Nat) (a:YF97) (l m n:Int) (o:Bool) (p q:Int) (s t:Int) (u:LI) (v b:Int) (d:Bool) (e f g:Int) (h:Bool) (i j:Int) (k:Ev.Cont):evalFn tab (Gg96_e36 a) J0 kp96_e36 fuel Try.f96 [.agg [i6 l,i6 m,i6 n,.bool o,i6 p,i6 q,i6 s,i6 t,.sl (.int .u8) u],.c (.ptr 0 0),.c (.ptr 1 0)] [.cells 47 [i6 v,i6 b,.bool d,i6 e,i6 f,i6 g,.bool h,i6 i],.cells 3 [i6 j]] k=Fg_text_right_1_e36 fuel a l m n o p q s t u v b d e f g h i j (fun r=>match r with | (w,x,y,z,A,B,C,D,E,F)=>k (.c (.bool w),[.cells 47 [i6 x,i6 y,.bool z,i6 A,i6 B,i6 C,.bool D,i6 E],.cells 3 [i6 F]])):=by
  kernel_rfl
theorem hG96_e36 (fuel:Nat):GOK Try.prog (G96_e36 fuel):=
  gc (ok97 fuel) Try.func97 (by kernel_rfl) rfl <|
  gok_nil
def spg96_e36 (F:YF96_e36):Ev.Spec:=fun args objs k=>match args,objs with | [.agg [i6 j,i6 l,i6 m,.bool n,i6 o,i6 p,i6 q,i6 s,.sl (.int .u8) t],.c (.ptr u v),.c (.ptr w x)],[.cells y [i6 z,i6 a,.bool b,i6 d,i6 e,i6 f,.bool g,i6 h],.cells A [i6 i]]=>bif qb [u,v,w,x,y,A] [0,0,1,0,47,3] then F j l m n o p q s t z a b d e f g h i (fun r=>match r with | (B,C,D,E,G,H,I,J,K,L)=>k (.c (.bool B),[.cells 47 [i6 C,i6 D,.bool E,i6 G,i6 H,i6 I,.bool J,i6 K],.cells 3 [i6 L]])) else none | _,_=>none
theorem ok96_e36 (fuel:Nat):FnOK Try.prog 96 (spg96_e36 (F_text_right_1_e36 fuel)):=by
  intro args objs kk r h
  unfold spg96_e36 at h
  split at h
  · skip
    obtain ⟨hb,h⟩:=cond_some' h
    cases qb_eq hb
    exact fo0 (hG96_e36 fuel) Try.func96 rfl (by kernel_rfl) _ _ kk r ((F96_e36_eqg fuel (F_text_rightItem fuel) _ _ _ _ _ _ _ _ _ _ _ _ _ _ _ _ _ _ kk).trans h)
  · cases h
def kp145_766 (i:Nat):Option (List Nat):=Ev.look i [(2,[0,1,7,8]),(100000,[]),(400000,[4])]
def Gg145_766 (a:YF96_e36) (f:Nat):Option Ev.Spec:=Ev.look f [(96,spg96_e36 a)]
def G145_766 (fuel:Nat):Nat→Option Ev.Spec:=Gg145_766 (F_text_right_1_e36 fuel)
abbrev V_slices_IndexFunc_api_Item_api_Item_766_0:Type:=(List (Int×(Int×(Int×(Bool×(Int×(Int×(Int×(Int×LI)))))))))×Int×Int×Int×Int×Bool×Int×Int×Int×Bool×Int×Int
abbrev W_slices_IndexFunc_api_Item_api_Item_766_0:Type:=(Int×Int×Int×Bool×Int×Int×Int×Bool×Int×Int→OA)×(Int×Int×Bool×Int×Int×Int×Bool×Int×Int→OA)
def Sg_slices_IndexFunc_api_Item_api_Item_766_0 (fuel:Nat) (x:YF96_e36) (d:(List (Int×(Int×(Int×(Bool×(Int×(Int×(Int×(Int×LI)))))))))) (p a:Int) (q r:Int) (s:Bool) (t u v:Int) (w:Bool) (n o:Int) (c:V_slices_IndexFunc_api_Item_api_Item_766_0→OA) (B:W_slices_IndexFunc_api_Item_api_Item_766_0):OA:=match B with | (ret,b)=>bif decide (a < p) then bif decide (0≤a∧a < (↑d.length:Int)) then (x ((d.getD a.toNat (0,0,0,false,0,0,0,0,[])).fst) ((d.getD a.toNat (0,0,0,false,0,0,0,0,[])).snd.fst) ((d.getD a.toNat (0,0,0,false,0,0,0,0,[])).snd.snd.fst) ((d.getD a.toNat (0,0,0,false,0,0,0,0,[])).snd.snd.snd.fst) ((d.getD a.toNat (0,0,0,false,0,0,0,0,[])).snd.snd.snd.snd.fst) ((d.getD a.toNat (0,0,0,false,0,0,0,0,[])).snd.snd.snd.snd.snd.fst) ((d.getD a.toNat (0,0,0,false,0,0,0,0,[])).snd.snd.snd.snd.snd.snd.fst) ((d.getD a.toNat (0,0,0,false,0,0,0,0,[])).snd.snd.snd.snd.snd.snd.snd.fst) ((d.getD a.toNat (0,0,0,false,0,0,0,0,[])).snd.snd.snd.snd.snd.snd.snd.snd) q r s t u v w n o (fun (y,e,f,g,h,i,j,k,l,m)=>bif y then ret (a,e,f,g,h,i,j,k,l,m) else c (d,p,i64.wrap (a+1),e,f,g,h,i,j,k,l,m))) else none else b (q,r,s,t,u,v,w,n,o)
def S_slices_IndexFunc_api_Item_api_Item_766_0 (fuel:Nat) (v:(List (Int×(Int×(Int×(Bool×(Int×(Int×(Int×(Int×(List Int))))))))))×Int×Int×Int×Int×Bool×Int×Int×Int×Bool×Int×Int) (c:((List (Int×(Int×(Int×(Bool×(Int×(Int×(Int×(Int×(List Int))))))))))×Int×Int×Int×Int×Bool×Int×Int×Int×Bool×Int×Int)→Option Ans) (B:(Int×Int×Int×Bool×Int×Int×Int×Bool×Int×Int→Option Ans)×(Int×Int×Bool×Int×Int×Int×Bool×Int×Int→Option Ans)):Option Ans:=match v with | (d,e,f,g,h,i,j,k,l,m,a,b)=>Sg_slices_IndexFunc_api_Item_api_Item_766_0 fuel (F_text_right_1_e36 fuel) d e f g h i j k l m a b c B
def L_slices_IndexFunc_api_Item_api_Item_766_0 (fuel:Nat) (v:V_slices_IndexFunc_api_Item_api_Item_766_0) (ret:(Int×Int×Int×Bool×Int×Int×Int×Bool×Int×Int→Option Ans)) (b:(Int×Int×Bool×Int×Int×Int×Bool×Int×Int→Option Ans)):Option Ans:=iter (S_slices_IndexFunc_api_Item_api_Item_766_0 fuel) fuel v (ret,b)
def T145_766_0 (v:V_slices_IndexFunc_api_Item_api_Item_766_0):Ev.St:=match v with | (d,e,f,g,h,i,j,k,l,m,a,b)=>⟨[(0,.c (.sl (.pair (.int .i64) (.pair (.int .i64) (.pair (.int .i64) (.pair .bool (.pair (.int .i64) (.pair (.int .i64) (.pair (.int .i64) (.pair (.int .i64) (.sl (.int .u8)))))))))) d)),(1,.c (.clo 96 [0,1])),(7,.c (i6 e)),(8,.c (i6 f))],[(0,.cells 47 [i6 g,i6 h,.bool i,i6 j,i6 k,i6 l,.bool m,i6 a]),(1,.cells 3 [i6 b])],2,2⟩
def E145_766_0 (K:KT):W_slices_IndexFunc_api_Item_api_Item_766_0:=((fun v=>match v with | (a,b,d,e,f,g,h,i,j,k)=>K .ret ⟨[(4,.c (i6 a))],[(0,.cells 47 [i6 b,i6 d,.bool e,i6 f,i6 g,i6 h,.bool i,i6 j]),(1,.cells 3 [i6 k])],2,2⟩),(fun v=>match v with | (a,b,d,e,f,g,h,i,j)=>K .normal ⟨[],[(0,.cells 47 [i6 a,i6 b,.bool d,i6 e,i6 f,i6 g,.bool h,i6 i]),(1,.cells 3 [i6 j])],2,2⟩))
theorem S145_766_0_okg (fuel:Nat) (a:YF96_e36) (R:Ev.St→OA) (K:KT) (d:(List (Int×(Int×(Int×(Bool×(Int×(Int×(Int×(Int×LI)))))))))) (e f:Int) (g h:Int) (i:Bool) (j k l:Int) (m:Bool) (b c:Int):evalCode tab (Gg145_766 a) J0 kp145_766 fuel (bodyOf 0 Try.f145) (T145_766_0 (d,e,f,g,h,i,j,k,l,m,b,c)) (lc kp145_766 2 0 R K)=Sg_slices_IndexFunc_api_Item_api_Item_766_0 fuel a d e f g h i j k l m b c (fun v=>R (T145_766_0 v)) (E145_766_0 K):=by
  kernel_rfl
def B145_766_0 (fuel:Nat):Ev.Blk:=fun st K=>match canonO (kp145_766 2) st with | some s=>(match s with | ⟨[(g,.c (.sl (.pair (.int .i64) (.pair (.int .i64) (.pair (.int .i64) (.pair .bool (.pair (.int .i64) (.pair (.int .i64) (.pair (.int .i64) (.pair (.int .i64) (.sl (.int .u8)))))))))) h)),(i,.c (.clo j [k,l])),(m,.c (i6 n)),(o,.c (i6 p))],[(q,.cells r [i6 t,i6 u,.bool v,i6 w,i6 x,i6 y,.bool z,i6 a]),(A,.cells b [i6 d])],e,f⟩=>bif qb [g,i,j,k,l,m,o,q,r,A,b,e,f] [0,1,96,0,1,7,8,0,47,1,3,2,2] then iter (S_slices_IndexFunc_api_Item_api_Item_766_0 fuel) fuel (h,n,p,t,u,v,w,x,y,z,a,d) (E145_766_0 K) else none | _=>none) | none=>none
theorem B145_766_0_ok (fuel:Nat) (st:Ev.St) (K:KT) (r:Ans) (h:B145_766_0 fuel st K=some r):evalCode tab (G145_766 fuel) J0 kp145_766 fuel (.block 0 (.loop (bodyOf 0 Try.f145))) st K=some r:=by
  unfold B145_766_0 at h
  split at h
  · rename_i s hs
    split at h
    · skip
      obtain ⟨hb,h⟩:=cond_some' h
      cases qb_eq hb
      exact blk_loop (S:=T145_766_0) (ks:=E145_766_0) (step:=S_slices_IndexFunc_api_Item_api_Item_766_0 fuel) (v:=(_,_,_,_,_,_,_,_,_,_,_,_)) (by kernel_rfl) (by kernel_rfl) (fun R K v=>by obtain ⟨c,d,e,f,g,i,j,k,l,m,a,b⟩:=v; exact S145_766_0_okg fuel (F_text_right_1_e36 fuel) R K c d e f g i j k l m a b) hs h
    · cases h
  · cases h
def J145_766 (fuel:Nat) (i:Nat):Option Ev.Blk:=Ev.look i [(100000,B145_766_0 fuel)]
def Fg_slices_IndexFunc_api_Item_api_Item_766 (fuel:Nat) (t:YF96_e36) (a:(List (Int×(Int×(Int×(Bool×(Int×(Int×(Int×(Int×LI)))))))))) (k l:Int) (m:Bool) (n o p:Int) (q:Bool) (r s:Int) (k0:(Int×Int×Int×Bool×Int×Int×Int×Bool×Int×Int)→OA):OA:=(L_slices_IndexFunc_api_Item_api_Item_766_0 fuel (a,(↑a.length:Int),0,k,l,m,n,o,p,q,r,s) (fun (ret0_0,ret0_1,ret0_2,ret0_3,ret0_4,ret0_5,ret0_6,ret0_7,ret0_8,ret0_9)=>k0 (ret0_0,ret0_1,ret0_2,ret0_3,ret0_4,ret0_5,ret0_6,ret0_7,ret0_8,ret0_9)) (fun (b,c,d,e,f,g,h,i,j)=>k0 ((-1:Int),b,c,d,e,f,g,h,i,j)))
abbrev YF145_766:Type:=((List (Int×(Int×(Int×(Bool×(Int×(Int×(Int×(Int×LI))))))))))→Int→Int→Bool→Int→Int→Int→Bool→Int→Int→((Int×Int×Int×Bool×Int×Int×Int×Bool×Int×Int)→Option Ans)→Option Ans
def F_slices_IndexFunc_api_Item_api_Item_766 (fuel:Nat):YF145_766:=Fg_slices_IndexFunc_api_Item_api_Item_766 fuel (F_text_right_1_e36 fuel)
theorem F145_766_eqg (fuel:Nat) (a:YF96_e36) (b:(List (Int×(Int×(Int×(Bool×(Int×(Int×(Int×(Int×LI)))))))))) (d e:Int) (f:Bool) (g h i:Int) (j:Bool) (l m:Int) (k:Ev.Cont):evalFn tab (Gg145_766 a) (J145_766 fuel) kp145_766 fuel Try.f145 [.c (.sl (.pair (.int .i64) (.pair (.int .i64) (.pair (.int .i64) (.pair .bool (.pair (.int .i64) (.pair (.int .i64) (.pair (.int .i64) (.pair (.int .i64) (.sl (.int .u8)))))))))) b),.c (.clo 96 [0,1])] [.cells 47 [i6 d,i6 e,.bool f,i6 g,i6 h,i6 i,.bool j,i6 l],.cells 3 [i6 m]] k=Fg_slices_IndexFunc_api_Item_api_Item_766 fuel a b d e f g h i j l m (fun r=>match r with | (n,o,p,q,s,t,u,v,w,x)=>k (.c (i6 n),[.cells 47 [i6 o,i6 p,.bool q,i6 s,i6 t,i6 u,.bool v,i6 w],.cells 3 [i6 x]])):=by
  kernel_rfl
theorem hG145_766 (fuel:Nat):GOK Try.prog (G145_766 fuel):=
  gc (ok96_e36 fuel) Try.func96 (by kernel_rfl) rfl <|
  gok_nil
theorem B145_766_0_blk (fuel:Nat):BlkOK Try.prog Try.f145.ntmps (.block 0 (.loop (bodyOf 0 Try.f145))) (B145_766_0 fuel):=bo0 (hG145_766 fuel) (by kernel_rfl) (by kernel_rfl) (B145_766_0_ok fuel)
def spg145_766 (F:YF145_766):Ev.Spec:=fun args objs k=>match args,objs with | [.c (.sl (.pair (.int .i64) (.pair (.int .i64) (.pair (.int .i64) (.pair .bool (.pair (.int .i64) (.pair (.int .i64) (.pair (.int .i64) (.pair (.int .i64) (.sl (.int .u8)))))))))) a),.c (.clo b [d,e])],[.cells f [i6 g,i6 h,.bool i,i6 j,i6 l,i6 m,.bool n,i6 o],.cells p [i6 q]]=>bif qb [b,d,e,f,p] [96,0,1,47,3] then F a g h i j l m n o q (fun r=>match r with | (s,t,u,v,w,x,y,z,A,B)=>k (.c (i6 s),[.cells 47 [i6 t,i6 u,.bool v,i6 w,i6 x,i6 y,.bool z,i6 A],.cells 3 [i6 B]])) else none | _,_=>none
theorem ok145_766 (fuel:Nat):FnOK Try.prog 145 (spg145_766 (F_slices_IndexFunc_api_Item_api_Item_766 fuel)):=by
  intro args objs kk r h
  unfold spg145_766 at h
  split at h
  · skip
    obtain ⟨hb,h⟩:=cond_some' h
    cases qb_eq hb
    exact fo1 (hG145_766 fuel) Try.func145 rfl (B145_766_0_blk fuel) (by kernel_rfl) _ _ kk r ((F145_766_eqg fuel (F_text_right_1_e36 fuel) _ _ _ _ _ _ _ _ _ _ kk).trans h)
  · cases h
def kp93_766 (i:Nat):Option (List Nat):=Ev.look i []
def Gg93_766 (a:YF145_766) (f:Nat):Option Ev.Spec:=Ev.look f [(145,spg145_766 a)]
def G93_766 (fuel:Nat):Nat→Option Ev.Spec:=Gg93_766 (F_slices_IndexFunc_api_Item_api_Item_766 fuel)
def Fg_slices_ContainsFunc_api_Item_api_Item_766 (fuel:Nat) (a:YF145_766) (l:(List (Int×(Int×(Int×(Bool×(Int×(Int×(Int×(Int×LI)))))))))) (m n:Int) (o:Bool) (p q r:Int) (s:Bool) (t u:Int) (k0:(Bool×Int×Int×Bool×Int×Int×Int×Bool×Int×Int)→OA):OA:=(a l m n o p q r s t u (fun (b,c,d,e,f,g,h,i,j,k)=>k0 (decide (b≥0),c,d,e,f,g,h,i,j,k)))
abbrev YF93_766:Type:=((List (Int×(Int×(Int×(Bool×(Int×(Int×(Int×(Int×LI))))))))))→Int→Int→Bool→Int→Int→Int→Bool→Int→Int→((Bool×Int×Int×Bool×Int×Int×Int×Bool×Int×Int)→Option Ans)→Option Ans
def F_slices_ContainsFunc_api_Item_api_Item_766 (fuel:Nat):YF93_766:=Fg_slices_ContainsFunc_api_Item_api_Item_766 fuel (F_slices_IndexFunc_api_Item_api_Item_766 fuel)
theorem F93_766_eqg (fuel:Nat) (a:YF145_766) (b:(List (Int×(Int×(Int×(Bool×(Int×(Int×(Int×(Int×LI)))))))))) (d e:Int) (f:Bool) (g h i:Int) (j:Bool) (l m:Int) (k:Ev.Cont):evalFn tab (Gg93_766 a) J0 kp93_766 fuel Try.f93 [.c (.sl (.pair (.int .i64) (.pair (.int .i64) (.pair (.int .i64) (.pair .bool (.pair (.int .i64) (.pair (.int .i64) (.pair (.int .i64) (.pair (.int .i64) (.sl (.int .u8)))))))))) b),.c (.clo 96 [0,1])] [.cells 47 [i6 d,i6 e,.bool f,i6 g,i6 h,i6 i,.bool j,i6 l],.cells 3 [i6 m]] k=Fg_slices_ContainsFunc_api_Item_api_Item_766 fuel a b d e f g h i j l m (fun r=>match r with | (n,o,p,q,s,t,u,v,w,x)=>k (.c (.bool n),[.cells 47 [i6 o,i6 p,.bool q,i6 s,i6 t,i6 u,.bool v,i6 w],.cells 3 [i6 x]])):=by
  kernel_rfl
theorem hG93_766 (fuel:Nat):GOK Try.prog (G93_766 fuel):=
  gc (ok145_766 fuel) Try.func145 (by kernel_rfl) rfl <|
  gok_nil
def spg93_766 (F:YF93_766):Ev.Spec:=fun args objs k=>match args,objs with | [.c (.sl (.pair (.int .i64) (.pair (.int .i64) (.pair (.int .i64) (.pair .bool (.pair (.int .i64) (.pair (.int .i64) (.pair (.int .i64) (.pair (.int .i64) (.sl (.int .u8)))))))))) a),.c (.clo b [d,e])],[.cells f [i6 g,i6 h,.bool i,i6 j,i6 l,i6 m,.bool n,i6 o],.cells p [i6 q]]=>bif qb [b,d,e,f,p] [96,0,1,47,3] then F a g h i j l m n o q (fun r=>match r with | (s,t,u,v,w,x,y,z,A,B)=>k (.c (.bool s),[.cells 47 [i6 t,i6 u,.bool v,i6 w,i6 x,i6 y,.bool z,i6 A],.cells 3 [i6 B]])) else none | _,_=>none
theorem ok93_766 (fuel:Nat):FnOK Try.prog 93 (spg93_766 (F_slices_ContainsFunc_api_Item_api_Item_766 fuel)):=by
  intro args objs kk r h
  unfold spg93_766 at h
  split at h
  · skip
    obtain ⟨hb,h⟩:=cond_some' h
    cases qb_eq hb
    exact fo0 (hG93_766 fuel) Try.func93 rfl (by kernel_rfl) _ _ kk r ((F93_766_eqg fuel (F_slices_IndexFunc_api_Item_api_Item_766 fuel) _ _ _ _ _ _ _ _ _ _ kk).trans h)
  · cases h
def kp47 (i:Nat):Option (List Nat):=Ev.look i []
def Gg47 (a:YF93_766) (f:Nat):Option Ev.Spec:=Ev.look f [(93,spg93_766 a)]
def G47 (fuel:Nat):Nat→Option Ev.Spec:=Gg47 (F_slices_ContainsFunc_api_Item_api_Item_766 fuel)
def Fg_text_right (fuel:Nat) (c:YF93_766) (e f:Int) (g:Bool) (h i j:Int) (k:Bool) (l a:Int) (b:(List (Int×Int×Int×Bool×Int×Int×(Int×Int×LI)))) (k0:(Bool)→OA):OA:=bif decide (a≤60) then bif decide ((↑b.length:Int)≤300) then (c b e f g h i j k l a (fun (d,m,n,o,p,q,r,s,t,u)=>k0 !d)) else k0 false else k0 false
abbrev YF47:Type:=Int→Int→Bool→Int→Int→Int→Bool→Int→Int→((List (Int×Int×Int×Bool×Int×Int×(Int×Int×LI))))→(Bool→Option Ans)→Option Ans
def F_text_right (fuel:Nat):YF47:=Fg_text_right fuel (F_slices_ContainsFunc_api_Item_api_Item_766 fuel)
theorem F47_eqg (fuel:Nat) (a:YF93_766) (b d:Int) (e:Bool) (f g h:Int) (i:Bool) (j l:Int) (m:(List (Int×Int×Int×Bool×Int×Int×(Int×Int×LI)))) (k:Ev.Cont):evalFn tab (Gg47 a) J0 kp47 fuel Try.f47 [.agg [i6 b,i6 d,.bool e,i6 f,i6 g,i6 h,.bool i,i6 j],.c (i6 l),.c (.sl (.pair (.int .i64) (.pair (.int .i64) (.pair (.int .i64) (.pair .bool (.pair (.int .i64) (.pair (.int .i64) (.pair (.int .i64) (.pair (.int .i64) (.sl (.int .u8)))))))))) m)] [] k=Fg_text_right fuel a b d e f g h i j l m (fun r=>match r with | n=>k (.c (.bool n),[])):=by
  kernel_rfl
theorem hG47 (fuel:Nat):GOK Try.prog (G47 fuel):=
  gc (ok93_766 fuel) Try.func93 (by kernel_rfl) rfl <|
  gok_nil
def spg47 (F:YF47):Ev.Spec:=fun args objs k=>match args,objs with | [.agg [i6 a,i6 b,.bool d,i6 e,i6 f,i6 g,.bool h,i6 i],.c (i6 j),.c (.sl (.pair (.int .i64) (.pair (.int .i64) (.pair (.int .i64) (.pair .bool (.pair (.int .i64) (.pair (.int .i64) (.pair (.int .i64) (.pair (.int .i64) (.sl (.int .u8)))))))))) l)],[]=>F a b d e f g h i j l (fun r=>match r with | m=>k (.c (.bool m),[])) | _,_=>none
theorem ok47 (fuel:Nat):FnOK Try.prog 47 (spg47 (F_text_right fuel)):=by
  intro args objs kk r h
  unfold spg47 at h
  split at h
  · skip
    exact fo0 (hG47 fuel) Try.func47 rfl (by kernel_rfl) _ _ kk r ((F47_eqg fuel (F_slices_ContainsFunc_api_Item_api_Item_766 fuel) _ _ _ _ _ _ _ _ _ _ kk).trans h)
  · cases h
def kp156 (i:Nat):Option (List Nat):=Ev.look i []
def Gg156 (f:Nat):Option Ev.Spec:=Ev.look f []
def G156 (fuel:Nat):Nat→Option Ev.Spec:=Gg156
def F_refine_newRegion (fuel:Nat) (b c d:Int) (e:Bool) (f g h:Int) (i:(List Int)) (j k:Int) (a:(List Int)) (k0:(Int×Int×Int×Bool×Int×Int×Int×(List Int)×Int×Int×(List Int))→Option Ans):Option Ans:=k0 (b,c,d,e,f,g,h,i,j,k,a)
abbrev YF156:Type:=Int→Int→Int→Bool→Int→Int→Int→LI→Int→Int→LI→((Int×Int×Int×Bool×Int×Int×Int×LI×Int×Int×LI)→Option Ans)→Option Ans
theorem F156_eq (fuel:Nat) (b d e:Int) (f:Bool) (g h i:Int) (j:LI) (l m:Int) (a:LI) (k:Ev.Cont):evalFn tab (G156 fuel) J0 kp156 fuel Try.f156 [.agg [i6 b,i6 d,i6 e,.bool f,i6 g],.c (i6 h),.c (i6 i),.c (.sl (.int .u8) j),.agg [i6 l,i6 m,.sl (.int .u8) a]] [] k=F_refine_newRegion fuel b d e f g h i j l m a (fun r=>match r with | (o,p,q,s,t,u,v,w,x,y,n)=>k (.c (.ptr 0 0),[.cells 212 [i6 o,i6 p,i6 q,.bool s,i6 t,i6 u,i6 v,.sl (.int .u8) w,i6 x,i6 y,.sl (.int .u8) n]])):=by
  kernel_rfl
theorem hG156 (fuel:Nat):GOK Try.prog (G156 fuel):=
  gok_nil
def spg156 (F:YF156):Ev.Spec:=fun args objs k=>match args,objs with | [.agg [i6 d,i6 e,i6 f,.bool g,i6 h],.c (i6 i),.c (i6 j),.c (.sl (.int .u8) l),.agg [i6 m,i6 n,.sl (.int .u8) a]],[]=>F d e f g h i j l m n a (fun r=>match r with | (o,p,q,s,t,u,v,w,x,y,b)=>k (.c (.ptr 0 0),[.cells 212 [i6 o,i6 p,i6 q,.bool s,i6 t,i6 u,i6 v,.sl (.int .u8) w,i6 x,i6 y,.sl (.int .u8) b]])) | _,_=>none
theorem ok156 (fuel:Nat):FnOK Try.prog 156 (spg156 (F_refine_newRegion fuel)):=by
  intro args objs kk r h
  unfold spg156 at h
  split at h
  · skip
    exact fo0 (hG156 fuel) Try.func156 rfl (by kernel_rfl) _ _ kk r ((F156_eq fuel _ _ _ _ _ _ _ _ _ _ _ kk).trans h)
  · cases h
def kp159_0d1 (i:Nat):Option (List Nat):=Ev.look i [(3,[0,1,2,7,17,18,19]),(8,[0,1,2,7,41,42,43]),(100000,[0,1,2,7]),(100002,[7]),(200005,[0,9]),(200010,[0,11]),(400000,[6]),(400002,[6])]
def Gg159_0d1 (a:YF160) (b:YF178) (c:YF181) (f:Nat):Option Ev.Spec:=Ev.look f [(160,spg160 a),(178,spg178 b),(181,spg181 c)]
def G159_0d1 (fuel:Nat):Nat→Option Ev.Spec:=Gg159_0d1 (F_refine_grid_at fuel) (F_refine_fresh fuel) (F_refine_beside fuel)
abbrev V_refine_region_context_0d1_0:Type:=Int×Int×Int×Int×Int×Int×Int×Int×Bool×Int×Int×Int×LI×Int×Int×LI×(List (Int×Int))
abbrev W_refine_region_context_0d1_0:Type:=(Int×Int×Int×Int×Int×Int×Bool×Int×Int×Int×LI×Int×Int×LI→OA)
def Sg_refine_region_context_0d1_0 (fuel:Nat) (t:YF160) (v:YF178) (w:YF181) (h i:Int) (m n:Int) (a o:Int) (p q:Int) (r:Bool) (s e f:Int) (g:LI) (j k:Int) (l:LI) (d:(List (Int×Int))) (c:V_refine_region_context_0d1_0→OA) (B:W_refine_region_context_0d1_0):OA:=match B with | b=>bif decide (a < n) then bif decide (0≤a∧a < (↑d.length:Int)) then (t e f g (i64.wrap (h+(d.getD a.toNat (0,0)).fst)) (i64.wrap (i+(d.getD a.toNat (0,0)).snd)) (fun u=>c (h,i,i64.wrap (i64.wrap (2*m)+i64.wrap u),n,i64.wrap (a+1),o,p,q,r,s,e,f,g,j,k,l,d))) else none else b (h,i,m,o,p,q,r,s,e,f,g,j,k,l)
def S_refine_region_context_0d1_0 (fuel:Nat) (v:Int×Int×Int×Int×Int×Int×Int×Int×Bool×Int×Int×Int×(List Int)×Int×Int×(List Int)×(List (Int×Int))) (c:(Int×Int×Int×Int×Int×Int×Int×Int×Bool×Int×Int×Int×(List Int)×Int×Int×(List Int)×(List (Int×Int)))→Option Ans) (B:(Int×Int×Int×Int×Int×Int×Bool×Int×Int×Int×(List Int)×Int×Int×(List Int)→Option Ans)):Option Ans:=match v with | (i,j,k,l,m,n,o,p,q,r,a,b,d,e,f,g,h)=>Sg_refine_region_context_0d1_0 fuel (F_refine_grid_at fuel) (F_refine_fresh fuel) (F_refine_beside fuel) i j k l m n o p q r a b d e f g h c B
def L_refine_region_context_0d1_0 (fuel:Nat) (v:V_refine_region_context_0d1_0) (b:W_refine_region_context_0d1_0):Option Ans:=iter (S_refine_region_context_0d1_0 fuel) fuel v b
def T159_0d1_0 (v:V_refine_region_context_0d1_0):Ev.St:=match v with | (i,j,k,l,m,n,o,p,q,r,a,b,d,e,f,g,h)=>⟨[(0,.c (.ptr 0 0)),(1,.c (i6 i)),(2,.c (i6 j)),(7,.c (i6 k)),(17,.c (.own 1)),(18,.c (i6 l)),(19,.c (i6 m))],[(0,.cells 212 [i6 n,i6 o,i6 p,.bool q,i6 r,i6 a,i6 b,.sl (.int .u8) d,i6 e,i6 f,.sl (.int .u8) g]),(1,.vec 22 (.pair (.int .i64) (.int .i64)) h true)],2,1⟩
def E159_0d1_0 (K:KT):W_refine_region_context_0d1_0:=(fun v=>match v with | (f,g,h,i,j,k,l,m,n,o,a,b,d,e)=>K .normal ⟨[(0,.c (.ptr 0 0)),(1,.c (i6 f)),(2,.c (i6 g)),(7,.c (i6 h))],[(0,.cells 212 [i6 i,i6 j,i6 k,.bool l,i6 m,i6 n,i6 o,.sl (.int .u8) a,i6 b,i6 d,.sl (.int .u8) e])],1,1⟩)
theorem S159_0d1_0_okg (fuel:Nat) (a:YF160) (b:YF178) (c:YF181) (R:Ev.St→OA) (K:KT) (k l:Int) (m n:Int) (o p:Int) (q r:Int) (s:Bool) (t d e:Int) (f:LI) (g h:Int) (i:LI) (j:(List (Int×Int))):evalCode tab (Gg159_0d1 a b c) J0 kp159_0d1 fuel (bodyOf 0 Try.f159) (T159_0d1_0 (k,l,m,n,o,p,q,r,s,t,d,e,f,g,h,i,j)) (lc kp159_0d1 3 0 R K)=Sg_refine_region_context_0d1_0 fuel a b c k l m n o p q r s t d e f g h i j (fun v=>R (T159_0d1_0 v)) (E159_0d1_0 K):=by
  kernel_rfl
def B159_0d1_0 (fuel:Nat):Ev.Blk:=fun st K=>match canonO (kp159_0d1 3) st with | some s=>(match s with | ⟨[(o,.c (.ptr p q)),(r,.c (i6 t)),(u,.c (i6 v)),(w,.c (i6 x)),(y,.c (.own z)),(A,.c (i6 B)),(C,.c (i6 D))],[(a,.cells b [i6 E,i6 F,i6 G,.bool H,i6 I,i6 d,i6 e,.sl (.int .u8) f,i6 g,i6 h,.sl (.int .u8) i]),(j,.vec k (.pair (.int .i64) (.int .i64)) l true)],m,n⟩=>bif qb [o,p,q,r,u,w,y,z,A,C,a,b,j,k,m,n] [0,0,0,1,2,7,17,1,18,19,0,212,1,22,2,1] then iter (S_refine_region_context_0d1_0 fuel) fuel (t,v,x,B,D,E,F,G,H,I,d,e,f,g,h,i,l) (E159_0d1_0 K) else none | _=>none) | none=>none
theorem B159_0d1_0_ok (fuel:Nat) (st:Ev.St) (K:KT) (r:Ans) (h:B159_0d1_0 fuel st K=some r):evalCode tab (G159_0d1 fuel) J0 kp159_0d1 fuel (.block 0 (.loop (bodyOf 0 Try.f159))) st K=some r:=by
  unfold B159_0d1_0 at h
  split at h
  · rename_i s hs
    split at h
    · skip
      obtain ⟨hb,h⟩:=cond_some' h
      cases qb_eq hb
      exact blk_loop (S:=T159_0d1_0) (ks:=E159_0d1_0) (step:=S_refine_region_context_0d1_0 fuel) (v:=(_,_,_,_,_,_,_,_,_,_,_,_,_,_,_,_,_)) (by kernel_rfl) (by kernel_rfl) (fun R K v=>by obtain ⟨i,j,k,l,m,n,o,p,q,t,a,b,c,d,e,f,g⟩:=v; exact S159_0d1_0_okg fuel (F_refine_grid_at fuel) (F_refine_fresh fuel) (F_refine_beside fuel) R K i j k l m n o p q t a b c d e f g) hs h
    · cases h
  · cases h
abbrev V_refine_region_context_0d1_2:Type:=Int×Int×Int×Int×Int×Int×Int×Int×Bool×Int×Int×Int×LI×Int×Int×LI×(List (Int×Int))
abbrev W_refine_region_context_0d1_2:Type:=(Int×Int×Int×Int×Bool×Int×Int×Int×LI×Int×Int×LI→OA)
def Sg_refine_region_context_0d1_2 (fuel:Nat) (t:YF160) (v:YF178) (w:YF181) (m n:Int) (o p:Int) (a q:Int) (h i:Int) (r:Bool) (s j k:Int) (l:LI) (e f:Int) (g:LI) (d:(List (Int×Int))) (c:V_refine_region_context_0d1_2→OA) (B:W_refine_region_context_0d1_2):OA:=match B with | b=>bif decide (a < p) then bif decide (0≤a∧a < (↑d.length:Int)) then (t e f g (i64.wrap (i64.wrap (m - h)+(d.getD a.toNat (0,0)).fst)) (i64.wrap (i64.wrap (n - i)+(d.getD a.toNat (0,0)).snd)) (fun u=>c (m,n,i64.wrap (i64.wrap (2*o)+i64.wrap u),p,i64.wrap (a+1),q,h,i,r,s,j,k,l,e,f,g,d))) else none else b (o,q,h,i,r,s,j,k,l,e,f,g)
def S_refine_region_context_0d1_2 (fuel:Nat) (v:Int×Int×Int×Int×Int×Int×Int×Int×Bool×Int×Int×Int×(List Int)×Int×Int×(List Int)×(List (Int×Int))) (c:(Int×Int×Int×Int×Int×Int×Int×Int×Bool×Int×Int×Int×(List Int)×Int×Int×(List Int)×(List (Int×Int)))→Option Ans) (B:(Int×Int×Int×Int×Bool×Int×Int×Int×(List Int)×Int×Int×(List Int)→Option Ans)):Option Ans:=match v with | (i,j,k,l,m,n,o,p,q,r,a,b,d,e,f,g,h)=>Sg_refine_region_context_0d1_2 fuel (F_refine_grid_at fuel) (F_refine_fresh fuel) (F_refine_beside fuel) i j k l m n o p q r a b d e f g h c B
def L_refine_region_context_0d1_2 (fuel:Nat) (v:V_refine_region_context_0d1_2) (b:W_refine_region_context_0d1_2):Option Ans:=iter (S_refine_region_context_0d1_2 fuel) fuel v b
def J159_0d1_2 (fuel:Nat) (i:Nat):Option Ev.Blk:=Ev.look i [(100000,B159_0d1_0 fuel)]
def T159_0d1_2 (v:V_refine_region_context_0d1_2):Ev.St:=match v with | (i,j,k,l,m,n,o,p,q,r,a,b,d,e,f,g,h)=>⟨[(0,.c (.ptr 0 0)),(1,.c (i6 i)),(2,.c (i6 j)),(7,.c (i6 k)),(41,.c (.own 1)),(42,.c (i6 l)),(43,.c (i6 m))],[(0,.cells 212 [i6 n,i6 o,i6 p,.bool q,i6 r,i6 a,i6 b,.sl (.int .u8) d,i6 e,i6 f,.sl (.int .u8) g]),(1,.vec 22 (.pair (.int .i64) (.int .i64)) h true)],2,1⟩
def E159_0d1_2 (K:KT):W_refine_region_context_0d1_2:=(fun v=>match v with | (d,e,f,g,h,i,j,k,l,m,a,b)=>K .normal ⟨[(7,.c (i6 d))],[(0,.cells 212 [i6 e,i6 f,i6 g,.bool h,i6 i,i6 j,i6 k,.sl (.int .u8) l,i6 m,i6 a,.sl (.int .u8) b])],1,1⟩)
theorem S159_0d1_2_okg (fuel:Nat) (a:YF160) (b:YF178) (c:YF181) (R:Ev.St→OA) (K:KT) (k l:Int) (m n:Int) (o p:Int) (q r:Int) (s:Bool) (t d e:Int) (f:LI) (g h:Int) (i:LI) (j:(List (Int×Int))):evalCode tab (Gg159_0d1 a b c) (J159_0d1_2 fuel) kp159_0d1 fuel (bodyOf 2 Try.f159) (T159_0d1_2 (k,l,m,n,o,p,q,r,s,t,d,e,f,g,h,i,j)) (lc kp159_0d1 8 2 R K)=Sg_refine_region_context_0d1_2 fuel a b c k l m n o p q r s t d e f g h i j (fun v=>R (T159_0d1_2 v)) (E159_0d1_2 K):=by
  kernel_rfl
def B159_0d1_2 (fuel:Nat):Ev.Blk:=fun st K=>match canonO (kp159_0d1 8) st with | some s=>(match s with | ⟨[(o,.c (.ptr p q)),(r,.c (i6 t)),(u,.c (i6 v)),(w,.c (i6 x)),(y,.c (.own z)),(A,.c (i6 B)),(C,.c (i6 D))],[(a,.cells b [i6 E,i6 F,i6 G,.bool H,i6 I,i6 d,i6 e,.sl (.int .u8) f,i6 g,i6 h,.sl (.int .u8) i]),(j,.vec k (.pair (.int .i64) (.int .i64)) l true)],m,n⟩=>bif qb [o,p,q,r,u,w,y,z,A,C,a,b,j,k,m,n] [0,0,0,1,2,7,41,1,42,43,0,212,1,22,2,1] then iter (S_refine_region_context_0d1_2 fuel) fuel (t,v,x,B,D,E,F,G,H,I,d,e,f,g,h,i,l) (E159_0d1_2 K) else none | _=>none) | none=>none
theorem B159_0d1_2_ok (fuel:Nat) (st:Ev.St) (K:KT) (r:Ans) (h:B159_0d1_2 fuel st K=some r):evalCode tab (G159_0d1 fuel) (J159_0d1_2 fuel) kp159_0d1 fuel (.block 2 (.loop (bodyOf 2 Try.f159))) st K=some r:=by
  unfold B159_0d1_2 at h
  split at h
  · rename_i s hs
    split at h
    · skip
      obtain ⟨hb,h⟩:=cond_some' h
      cases qb_eq hb
      exact blk_loop (S:=T159_0d1_2) (ks:=E159_0d1_2) (step:=S_refine_region_context_0d1_2 fuel) (v:=(_,_,_,_,_,_,_,_,_,_,_,_,_,_,_,_,_)) (by kernel_rfl) (by kernel_rfl) (fun R K v=>by obtain ⟨i,j,k,l,m,n,o,p,q,t,a,b,c,d,e,f,g⟩:=v; exact S159_0d1_2_okg fuel (F_refine_grid_at fuel) (F_refine_fresh fuel) (F_refine_beside fuel) R K i j k l m n o p q t a b c d e f g) hs h
    · cases h
  · cases h
def J159_0d1 (fuel:Nat) (i:Nat):Option Ev.Blk:=Ev.look i [(100000,B159_0d1_0 fuel),(100002,B159_0d1_2 fuel)]
def Fg_refine_region_context_0d1 (fuel:Nat) (R:YF160) (j:YF178) (k:YF181) (I J:Int) (b K L:Int) (M:Bool) (N O P:Int) (Q:LI) (F G:Int) (H:LI) (k0:(Int×Int×Int×Int×Bool×Int×Int×Int×LI×Int×Int×LI)→OA):OA:=(j b (fun c=>(L_refine_region_context_0d1_0 fuel (I,J,0,(↑c.length:Int),0,b,K,L,M,N,O,P,Q,F,G,H,c) (fun (l,m,n,o,p,q,r,s,t,u,d,e,f,g)=>(k (fun a=>(L_refine_region_context_0d1_2 fuel (l,m,n,(↑a.length:Int),0,o,p,q,r,s,t,u,d,e,f,g,a) (fun (v,w,x,y,z,A,B,C,D,E,h,i)=>k0 (v,w,x,y,z,A,B,C,D,E,h,i)))))))))
abbrev YF159_0d1:Type:=Int→Int→Int→Int→Int→Bool→Int→Int→Int→LI→Int→Int→LI→((Int×Int×Int×Int×Bool×Int×Int×Int×LI×Int×Int×LI)→Option Ans)→Option Ans
def F_refine_region_context_0d1 (fuel:Nat):YF159_0d1:=Fg_refine_region_context_0d1 fuel (F_refine_grid_at fuel) (F_refine_fresh fuel) (F_refine_beside fuel)
theorem F159_0d1_eqg (fuel:Nat) (a:YF160) (b:YF178) (d:YF181) (h i:Int) (j l m:Int) (n:Bool) (o p q:Int) (s:LI) (e f:Int) (g:LI) (k:Ev.Cont):evalFn tab (Gg159_0d1 a b d) (J159_0d1 fuel) kp159_0d1 fuel Try.f159 [.c (.ptr 0 0),.c (i6 h),.c (i6 i)] [.cells 212 [i6 j,i6 l,i6 m,.bool n,i6 o,i6 p,i6 q,.sl (.int .u8) s,i6 e,i6 f,.sl (.int .u8) g]] k=Fg_refine_region_context_0d1 fuel a b d h i j l m n o p q s e f g (fun r=>match r with | (v,w,x,y,z,A,B,C,D,E,t,u)=>k (.c (i6 v),[.cells 212 [i6 w,i6 x,i6 y,.bool z,i6 A,i6 B,i6 C,.sl (.int .u8) D,i6 E,i6 t,.sl (.int .u8) u]])):=by
  kernel_rfl
theorem hG159_0d1 (fuel:Nat):GOK Try.prog (G159_0d1 fuel):=
  gc (ok160 fuel) Try.func160 (by kernel_rfl) rfl <|
  gc (ok178 fuel) Try.func178 (by kernel_rfl) rfl <|
  gc (ok181 fuel) Try.func181 (by kernel_rfl) rfl <|
  gok_nil
theorem B159_0d1_0_blk (fuel:Nat):BlkOK Try.prog Try.f159.ntmps (.block 0 (.loop (bodyOf 0 Try.f159))) (B159_0d1_0 fuel):=bo0 (hG159_0d1 fuel) (by kernel_rfl) (by kernel_rfl) (B159_0d1_0_ok fuel)
theorem B159_0d1_2_blk (fuel:Nat):BlkOK Try.prog Try.f159.ntmps (.block 2 (.loop (bodyOf 2 Try.f159))) (B159_0d1_2 fuel):=bo0 (hG159_0d1 fuel) (by kernel_rfl) (by kernel_rfl) (B159_0d1_2_ok fuel)
theorem fok159_0d1 (fuel:Nat):FnOK Try.prog 159 (evalFn tab (G159_0d1 fuel) (J159_0d1 fuel) kp159_0d1 fuel Try.f159):=
  fn_ok tab_ok (hG159_0d1 fuel) mixed Try.func159 (c:=(Try.f159.body).getD .skip) rfl (fun q hq=>by
    rw [(by kernel_rfl:obl (J159_0d1 fuel) ((Try.f159.body).getD .skip)= [(.block 0 (.loop (bodyOf 0 Try.f159)),B159_0d1_0 fuel),(.block 2 (.loop (bodyOf 2 Try.f159)),B159_0d1_2 fuel)])] at hq
    simp only [List.mem_cons,List.not_mem_nil,or_false] at hq
    rcases hq with rfl | rfl
    · exact B159_0d1_0_blk fuel
    · exact B159_0d1_2_blk fuel)
def spg159_0d1 (F:YF159_0d1):Ev.Spec:=fun args objs k=>match args,objs with | [.c (.ptr g h),.c (i6 i),.c (i6 j)],[.cells l [i6 m,i6 n,i6 o,.bool p,i6 q,i6 s,i6 t,.sl (.int .u8) u,i6 a,i6 b,.sl (.int .u8) d]]=>bif qb [g,h,l] [0,0,212] then F i j m n o p q s t u a b d (fun r=>match r with | (v,w,x,y,z,A,B,C,D,E,e,f)=>k (.c (i6 v),[.cells 212 [i6 w,i6 x,i6 y,.bool z,i6 A,i6 B,i6 C,.sl (.int .u8) D,i6 E,i6 e,.sl (.int .u8) f]])) else none | _,_=>none
theorem ok159_0d1 (fuel:Nat):FnOK Try.prog 159 (spg159_0d1 (F_refine_region_context_0d1 fuel)):=by
  intro args objs kk r h
  unfold spg159_0d1 at h
  split at h
  · skip
    obtain ⟨hb,h⟩:=cond_some' h
    cases qb_eq hb
    exact fok159_0d1 fuel _ _ kk r ((F159_0d1_eqg fuel (F_refine_grid_at fuel) (F_refine_fresh fuel) (F_refine_beside fuel) _ _ _ _ _ _ _ _ _ _ _ _ _ kk).trans h)
  · cases h
def kp158_0d1 (i:Nat):Option (List Nat):=Ev.look i [(3,[0,1,2,8,29]),(100000,[8]),(200001,[0]),(200005,[0]),(400000,[6,7])]
def Gg158_0d1 (a:YF160) (f:Nat):Option Ev.Spec:=Ev.look f [(160,spg160 a)]
def G158_0d1 (fuel:Nat):Nat→Option Ev.Spec:=Gg158_0d1 (F_refine_grid_at fuel)
abbrev V_refine_region_flat_0d1_0:Type:=Int×Int×Int×Int×Int×Int×Int×Bool×Int×Int×Int×LI×Int×Int×LI
abbrev W_refine_region_flat_0d1_0:Type:=(Int×Bool×Int×Int×Int×Bool×Int×Int×Int×LI×Int×Int×LI→OA)×(Int×Int×Int×Int×Bool×Int×Int×Int×LI×Int×Int×LI→OA)
def Sg_refine_region_flat_0d1_0 (fuel:Nat) (r:YF160) (p q:Int) (k f:Int) (l g h:Int) (m:Bool) (n o i:Int) (j:LI) (a d:Int) (e:LI) (c:V_refine_region_flat_0d1_0→OA) (B:W_refine_region_flat_0d1_0):OA:=match B with | (ret,b)=>bif decide (f < 9) then (r a d e (i64.wrap (i64.wrap (i64.wrap (p - g)+f.tmod 3) - 1)) (i64.wrap (i64.wrap (i64.wrap (q - h)+i64.wrap (f.tdiv 3)) - 1)) (fun s=>bif s != k then ret (0,false,l,g,h,m,n,o,i,j,a,d,e) else c (p,q,k,i64.wrap (f+1),l,g,h,m,n,o,i,j,a,d,e))) else b (k,l,g,h,m,n,o,i,j,a,d,e)
def S_refine_region_flat_0d1_0 (fuel:Nat) (v:Int×Int×Int×Int×Int×Int×Int×Bool×Int×Int×Int×(List Int)×Int×Int×(List Int)) (c:(Int×Int×Int×Int×Int×Int×Int×Bool×Int×Int×Int×(List Int)×Int×Int×(List Int))→Option Ans) (B:(Int×Bool×Int×Int×Int×Bool×Int×Int×Int×(List Int)×Int×Int×(List Int)→Option Ans)×(Int×Int×Int×Int×Bool×Int×Int×Int×(List Int)×Int×Int×(List Int)→Option Ans)):Option Ans:=match v with | (g,h,i,j,k,l,m,n,o,p,a,b,d,e,f)=>Sg_refine_region_flat_0d1_0 fuel (F_refine_grid_at fuel) g h i j k l m n o p a b d e f c B
def L_refine_region_flat_0d1_0 (fuel:Nat) (v:V_refine_region_flat_0d1_0) (ret:(Int×Bool×Int×Int×Int×Bool×Int×Int×Int×(List Int)×Int×Int×(List Int)→Option Ans)) (b:(Int×Int×Int×Int×Bool×Int×Int×Int×(List Int)×Int×Int×(List Int)→Option Ans)):Option Ans:=iter (S_refine_region_flat_0d1_0 fuel) fuel v (ret,b)
def T158_0d1_0 (v:V_refine_region_flat_0d1_0):Ev.St:=match v with | (g,h,i,j,k,l,m,n,o,p,a,b,d,e,f)=>⟨[(0,.c (.ptr 0 0)),(1,.c (i6 g)),(2,.c (i6 h)),(8,.c (.int .u8 i)),(29,.c (i6 j))],[(0,.cells 212 [i6 k,i6 l,i6 m,.bool n,i6 o,i6 p,i6 a,.sl (.int .u8) b,i6 d,i6 e,.sl (.int .u8) f])],1,1⟩
def E158_0d1_0 (K:KT):W_refine_region_flat_0d1_0:=((fun v=>match v with | (d,e,f,g,h,i,j,k,l,m,a,b,n)=>K .ret ⟨[(6,.c (.int .u8 d)),(7,.c (.bool e))],[(0,.cells 212 [i6 f,i6 g,i6 h,.bool i,i6 j,i6 k,i6 l,.sl (.int .u8) m,i6 a,i6 b,.sl (.int .u8) n])],1,1⟩),(fun v=>match v with | (d,e,f,g,h,i,j,k,l,m,a,b)=>K .normal ⟨[(8,.c (.int .u8 d))],[(0,.cells 212 [i6 e,i6 f,i6 g,.bool h,i6 i,i6 j,i6 k,.sl (.int .u8) l,i6 m,i6 a,.sl (.int .u8) b])],1,1⟩))
theorem S158_0d1_0_okg (fuel:Nat) (a:YF160) (R:Ev.St→OA) (K:KT) (g h:Int) (i j:Int) (k l m:Int) (n:Bool) (o p b:Int) (c:LI) (d e:Int) (f:LI):evalCode tab (Gg158_0d1 a) J0 kp158_0d1 fuel (bodyOf 0 Try.f158) (T158_0d1_0 (g,h,i,j,k,l,m,n,o,p,b,c,d,e,f)) (lc kp158_0d1 3 0 R K)=Sg_refine_region_flat_0d1_0 fuel a g h i j k l m n o p b c d e f (fun v=>R (T158_0d1_0 v)) (E158_0d1_0 K):=by
  kernel_rfl
def B158_0d1_0 (fuel:Nat):Ev.Blk:=fun st K=>match canonO (kp158_0d1 3) st with | some s=>(match s with | ⟨[(h,.c (.ptr i j)),(k,.c (i6 l)),(m,.c (i6 n)),(o,.c (.int .u8 p)),(q,.c (i6 r))],[(t,.cells u [i6 v,i6 w,i6 x,.bool y,i6 z,i6 A,i6 a,.sl (.int .u8) b,i6 d,i6 e,.sl (.int .u8) f])],B,g⟩=>bif qb [h,i,j,k,m,o,q,t,u,B,g] [0,0,0,1,2,8,29,0,212,1,1] then iter (S_refine_region_flat_0d1_0 fuel) fuel (l,n,p,r,v,w,x,y,z,A,a,b,d,e,f) (E158_0d1_0 K) else none | _=>none) | none=>none
theorem B158_0d1_0_ok (fuel:Nat) (st:Ev.St) (K:KT) (r:Ans) (h:B158_0d1_0 fuel st K=some r):evalCode tab (G158_0d1 fuel) J0 kp158_0d1 fuel (.block 0 (.loop (bodyOf 0 Try.f158))) st K=some r:=by
  unfold B158_0d1_0 at h
  split at h
  · rename_i s hs
    split at h
    · skip
      obtain ⟨hb,h⟩:=cond_some' h
      cases qb_eq hb
      exact blk_loop (S:=T158_0d1_0) (ks:=E158_0d1_0) (step:=S_refine_region_flat_0d1_0 fuel) (v:=(_,_,_,_,_,_,_,_,_,_,_,_,_,_,_)) (by kernel_rfl) (by kernel_rfl) (fun R K v=>by obtain ⟨f,g,i,j,k,l,m,n,o,p,a,b,c,d,e⟩:=v; exact S158_0d1_0_okg fuel (F_refine_grid_at fuel) R K f g i j k l m n o p a b c d e) hs h
    · cases h
  · cases h
def J158_0d1 (fuel:Nat) (i:Nat):Option Ev.Blk:=Ev.look i [(100000,B158_0d1_0 fuel)]
def Fg_refine_region_flat_0d1 (fuel:Nat) (j:YF160) (d e:Int) (u f g:Int) (v:Bool) (w x y:Int) (z:LI) (a b:Int) (c:LI) (k0:(Int×Bool×Int×Int×Int×Bool×Int×Int×Int×LI×Int×Int×LI)→OA):OA:=(j a b c (i64.wrap (d - f)) (i64.wrap (e - g)) (fun A=>(L_refine_region_flat_0d1_0 fuel (d,e,A,0,u,f,g,v,w,x,y,z,a,b,c) (fun (ret0_0,ret0_1,ret0_2,ret0_3,ret0_4,ret0_5,ret0_6,ret0_7,ret0_8,ret0_9,ret0_10,ret0_11,ret0_12)=>k0 (ret0_0,ret0_1,ret0_2,ret0_3,ret0_4,ret0_5,ret0_6,ret0_7,ret0_8,ret0_9,ret0_10,ret0_11,ret0_12)) (fun (k,l,m,n,o,p,q,r,s,t,h,i)=>k0 (k,true,l,m,n,o,p,q,r,s,t,h,i)))))
abbrev YF158_0d1:Type:=Int→Int→Int→Int→Int→Bool→Int→Int→Int→LI→Int→Int→LI→((Int×Bool×Int×Int×Int×Bool×Int×Int×Int×LI×Int×Int×LI)→Option Ans)→Option Ans
def F_refine_region_flat_0d1 (fuel:Nat):YF158_0d1:=Fg_refine_region_flat_0d1 fuel (F_refine_grid_at fuel)
theorem F158_0d1_eqg (fuel:Nat) (a:YF160) (f g:Int) (h i j:Int) (l:Bool) (m n o:Int) (p:LI) (b d:Int) (e:LI) (k:Ev.Cont):evalFn tab (Gg158_0d1 a) (J158_0d1 fuel) kp158_0d1 fuel Try.f158 [.c (.ptr 0 0),.c (i6 f),.c (i6 g)] [.cells 212 [i6 h,i6 i,i6 j,.bool l,i6 m,i6 n,i6 o,.sl (.int .u8) p,i6 b,i6 d,.sl (.int .u8) e]] k=Fg_refine_region_flat_0d1 fuel a f g h i j l m n o p b d e (fun r=>match r with | (u,v,w,x,y,z,A,B,C,D,q,s,t)=>k (.tup [(false,[.int .u8 u]),(false,[.bool v])],[.cells 212 [i6 w,i6 x,i6 y,.bool z,i6 A,i6 B,i6 C,.sl (.int .u8) D,i6 q,i6 s,.sl (.int .u8) t]])):=by
  kernel_rfl
theorem hG158_0d1 (fuel:Nat):GOK Try.prog (G158_0d1 fuel):=
  gc (ok160 fuel) Try.func160 (by kernel_rfl) rfl <|
  gok_nil
theorem B158_0d1_0_blk (fuel:Nat):BlkOK Try.prog Try.f158.ntmps (.block 0 (.loop (bodyOf 0 Try.f158))) (B158_0d1_0 fuel):=bo0 (hG158_0d1 fuel) (by kernel_rfl) (by kernel_rfl) (B158_0d1_0_ok fuel)
def spg158_0d1 (F:YF158_0d1):Ev.Spec:=fun args objs k=>match args,objs with | [.c (.ptr h i),.c (i6 j),.c (i6 l)],[.cells m [i6 n,i6 o,i6 p,.bool q,i6 s,i6 t,i6 u,.sl (.int .u8) v,i6 a,i6 b,.sl (.int .u8) d]]=>bif qb [h,i,m] [0,0,212] then F j l n o p q s t u v a b d (fun r=>match r with | (w,x,y,z,A,B,C,D,E,G,e,f,g)=>k (.tup [(false,[.int .u8 w]),(false,[.bool x])],[.cells 212 [i6 y,i6 z,i6 A,.bool B,i6 C,i6 D,i6 E,.sl (.int .u8) G,i6 e,i6 f,.sl (.int .u8) g]])) else none | _,_=>none
theorem ok158_0d1 (fuel:Nat):FnOK Try.prog 158 (spg158_0d1 (F_refine_region_flat_0d1 fuel)):=by
  intro args objs kk r h
  unfold spg158_0d1 at h
  split at h
  · skip
    obtain ⟨hb,h⟩:=cond_some' h
    cases qb_eq hb
    exact fo1 (hG158_0d1 fuel) Try.func158 rfl (B158_0d1_0_blk fuel) (by kernel_rfl) _ _ kk r ((F158_0d1_eqg fuel (F_refine_grid_at fuel) _ _ _ _ _ _ _ _ _ _ _ _ _ kk).trans h)
  · cases h
def kp157_1c7 (i:Nat):Option (List Nat):=Ev.look i [(2,[0,1,12,13]),(100000,[]),(400000,[4])]
def Gg157_1c7 (a:YF158_0d1) (b:YF160) (f:Nat):Option Ev.Spec:=Ev.look f [(158,spg158_0d1 a),(160,spg160 b)]
def G157_1c7 (fuel:Nat):Nat→Option Ev.Spec:=Gg157_1c7 (F_refine_region_flat_0d1 fuel) (F_refine_grid_at fuel)
abbrev V_refine_region_typical_1c7_0:Type:=Int×Int×Int×Int×Int×Int×Bool×Int×Int×Int×LI×Int×Int×LI
abbrev W_refine_region_typical_1c7_0:Type:=(Bool×Int×Int×Int×Bool×Int×Int×Int×LI×Int×Int×LI→OA)×(Int×Int×Int×Bool×Int×Int×Int×LI×Int×Int×LI→OA)
def Sg_refine_region_typical_1c7_0 (fuel:Nat) (C:YF158_0d1) (D:YF160) (g p:Int) (a u:Int) (v w:Int) (x:Bool) (y z A:Int) (q:LI) (r s:Int) (t:LI) (c:V_refine_region_typical_1c7_0→OA) (B:W_refine_region_typical_1c7_0):OA:=match B with | (ret,b)=>bif decide (a < p) then (C a g u v w x y z A q r s t (fun (E,F,k,l,m,n,o,d,e,f,h,i,j)=>bif F then (D d e f a g (fun G=>bif E != G then ret (false,k,l,m,n,o,d,e,f,h,i,j) else c (g,p,i64.wrap (a+1),k,l,m,n,o,d,e,f,h,i,j))) else c (g,p,i64.wrap (a+1),k,l,m,n,o,d,e,f,h,i,j))) else b (u,v,w,x,y,z,A,q,r,s,t)
def S_refine_region_typical_1c7_0 (fuel:Nat) (v:Int×Int×Int×Int×Int×Int×Bool×Int×Int×Int×(List Int)×Int×Int×(List Int)) (c:(Int×Int×Int×Int×Int×Int×Bool×Int×Int×Int×(List Int)×Int×Int×(List Int))→Option Ans) (B:(Bool×Int×Int×Int×Bool×Int×Int×Int×(List Int)×Int×Int×(List Int)→Option Ans)×(Int×Int×Int×Bool×Int×Int×Int×(List Int)×Int×Int×(List Int)→Option Ans)):Option Ans:=match v with | (f,g,h,i,j,k,l,m,n,o,a,b,d,e)=>Sg_refine_region_typical_1c7_0 fuel (F_refine_region_flat_0d1 fuel) (F_refine_grid_at fuel) f g h i j k l m n o a b d e c B
def L_refine_region_typical_1c7_0 (fuel:Nat) (v:V_refine_region_typical_1c7_0) (ret:(Bool×Int×Int×Int×Bool×Int×Int×Int×(List Int)×Int×Int×(List Int)→Option Ans)) (b:(Int×Int×Int×Bool×Int×Int×Int×(List Int)×Int×Int×(List Int)→Option Ans)):Option Ans:=iter (S_refine_region_typical_1c7_0 fuel) fuel v (ret,b)
def T157_1c7_0 (v:V_refine_region_typical_1c7_0):Ev.St:=match v with | (f,g,h,i,j,k,l,m,n,o,a,b,d,e)=>⟨[(0,.c (.ptr 0 0)),(1,.c (i6 f)),(12,.c (i6 g)),(13,.c (i6 h))],[(0,.cells 212 [i6 i,i6 j,i6 k,.bool l,i6 m,i6 n,i6 o,.sl (.int .u8) a,i6 b,i6 d,.sl (.int .u8) e])],1,1⟩
def E157_1c7_0 (K:KT):W_refine_region_typical_1c7_0:=((fun v=>match v with | (b,d,e,f,g,h,i,j,k,l,a,m)=>K .ret ⟨[(4,.c (.bool b))],[(0,.cells 212 [i6 d,i6 e,i6 f,.bool g,i6 h,i6 i,i6 j,.sl (.int .u8) k,i6 l,i6 a,.sl (.int .u8) m])],1,1⟩),(fun v=>match v with | (b,d,e,f,g,h,i,j,k,l,a)=>K .normal ⟨[],[(0,.cells 212 [i6 b,i6 d,i6 e,.bool f,i6 g,i6 h,i6 i,.sl (.int .u8) j,i6 k,i6 l,.sl (.int .u8) a])],1,1⟩))
theorem S157_1c7_0_okg (fuel:Nat) (a:YF158_0d1) (b:YF160) (R:Ev.St→OA) (K:KT) (g h:Int) (i j:Int) (k l:Int) (m:Bool) (n o p:Int) (c:LI) (d e:Int) (f:LI):evalCode tab (Gg157_1c7 a b) J0 kp157_1c7 fuel (bodyOf 0 Try.f157) (T157_1c7_0 (g,h,i,j,k,l,m,n,o,p,c,d,e,f)) (lc kp157_1c7 2 0 R K)=Sg_refine_region_typical_1c7_0 fuel a b g h i j k l m n o p c d e f (fun v=>R (T157_1c7_0 v)) (E157_1c7_0 K):=by
  kernel_rfl
def B157_1c7_0 (fuel:Nat):Ev.Blk:=fun st K=>match canonO (kp157_1c7 2) st with | some s=>(match s with | ⟨[(f,.c (.ptr g h)),(i,.c (i6 j)),(k,.c (i6 l)),(m,.c (i6 n))],[(o,.cells p [i6 q,i6 r,i6 t,.bool u,i6 v,i6 w,i6 x,.sl (.int .u8) a,i6 b,i6 d,.sl (.int .u8) e])],y,z⟩=>bif qb [f,g,h,i,k,m,o,p,y,z] [0,0,0,1,12,13,0,212,1,1] then iter (S_refine_region_typical_1c7_0 fuel) fuel (j,l,n,q,r,t,u,v,w,x,a,b,d,e) (E157_1c7_0 K) else none | _=>none) | none=>none
theorem B157_1c7_0_ok (fuel:Nat) (st:Ev.St) (K:KT) (r:Ans) (h:B157_1c7_0 fuel st K=some r):evalCode tab (G157_1c7 fuel) J0 kp157_1c7 fuel (.block 0 (.loop (bodyOf 0 Try.f157))) st K=some r:=by
  unfold B157_1c7_0 at h
  split at h
  · rename_i s hs
    split at h
    · skip
      obtain ⟨hb,h⟩:=cond_some' h
      cases qb_eq hb
      exact blk_loop (S:=T157_1c7_0) (ks:=E157_1c7_0) (step:=S_refine_region_typical_1c7_0 fuel) (v:=(_,_,_,_,_,_,_,_,_,_,_,_,_,_)) (by kernel_rfl) (by kernel_rfl) (fun R K v=>by obtain ⟨e,f,g,i,j,k,l,m,n,o,a,b,c,d⟩:=v; exact S157_1c7_0_okg fuel (F_refine_region_flat_0d1 fuel) (F_refine_grid_at fuel) R K e f g i j k l m n o a b c d) hs h
    · cases h
  · cases h
def J157_1c7 (fuel:Nat) (i:Nat):Option Ev.Blk:=Ev.look i [(100000,B157_1c7_0 fuel)]
def Fg_refine_region_typical_1c7 (fuel:Nat) (x:YF158_0d1) (y:YF160) (o p:Int) (q r:Int) (s:Bool) (t a u:Int) (v:LI) (w m:Int) (n:LI) (k0:(Bool×Int×Int×Int×Bool×Int×Int×Int×LI×Int×Int×LI)→OA):OA:=(L_refine_region_typical_1c7_0 fuel (o,a,0,p,q,r,s,t,a,u,v,w,m,n) (fun (ret0_0,ret0_1,ret0_2,ret0_3,ret0_4,ret0_5,ret0_6,ret0_7,ret0_8,ret0_9,ret0_10,ret0_11)=>k0 (ret0_0,ret0_1,ret0_2,ret0_3,ret0_4,ret0_5,ret0_6,ret0_7,ret0_8,ret0_9,ret0_10,ret0_11)) (fun (c,d,e,f,g,h,i,j,k,l,b)=>k0 (true,c,d,e,f,g,h,i,j,k,l,b)))
abbrev YF157_1c7:Type:=Int→Int→Int→Int→Bool→Int→Int→Int→LI→Int→Int→LI→((Bool×Int×Int×Int×Bool×Int×Int×Int×LI×Int×Int×LI)→Option Ans)→Option Ans
def F_refine_region_typical_1c7 (fuel:Nat):YF157_1c7:=Fg_refine_region_typical_1c7 fuel (F_refine_region_flat_0d1 fuel) (F_refine_grid_at fuel)
theorem F157_1c7_eqg (fuel:Nat) (a:YF158_0d1) (b:YF160) (f g:Int) (h i:Int) (j:Bool) (l m n:Int) (o:LI) (p d:Int) (e:LI) (k:Ev.Cont):evalFn tab (Gg157_1c7 a b) (J157_1c7 fuel) kp157_1c7 fuel Try.f157 [.c (.ptr 0 0),.c (i6 f)] [.cells 212 [i6 g,i6 h,i6 i,.bool j,i6 l,i6 m,i6 n,.sl (.int .u8) o,i6 p,i6 d,.sl (.int .u8) e]] k=Fg_refine_region_typical_1c7 fuel a b f g h i j l m n o p d e (fun r=>match r with | (t,u,v,w,x,y,z,A,B,C,q,s)=>k (.c (.bool t),[.cells 212 [i6 u,i6 v,i6 w,.bool x,i6 y,i6 z,i6 A,.sl (.int .u8) B,i6 C,i6 q,.sl (.int .u8) s]])):=by
  kernel_rfl
theorem hG157_1c7 (fuel:Nat):GOK Try.prog (G157_1c7 fuel):=
  gc (ok158_0d1 fuel) Try.func158 (by kernel_rfl) rfl <|
  gc (ok160 fuel) Try.func160 (by kernel_rfl) rfl <|
  gok_nil
theorem B157_1c7_0_blk (fuel:Nat):BlkOK Try.prog Try.f157.ntmps (.block 0 (.loop (bodyOf 0 Try.f157))) (B157_1c7_0 fuel):=bo0 (hG157_1c7 fuel) (by kernel_rfl) (by kernel_rfl) (B157_1c7_0_ok fuel)
def spg157_1c7 (F:YF157_1c7):Ev.Spec:=fun args objs k=>match args,objs with | [.c (.ptr f g),.c (i6 h)],[.cells i [i6 j,i6 l,i6 m,.bool n,i6 o,i6 p,i6 q,.sl (.int .u8) s,i6 t,i6 a,.sl (.int .u8) b]]=>bif qb [f,g,i] [0,0,212] then F h j l m n o p q s t a b (fun r=>match r with | (u,v,w,x,y,z,A,B,C,D,d,e)=>k (.c (.bool u),[.cells 212 [i6 v,i6 w,i6 x,.bool y,i6 z,i6 A,i6 B,.sl (.int .u8) C,i6 D,i6 d,.sl (.int .u8) e]])) else none | _,_=>none
theorem ok157_1c7 (fuel:Nat):FnOK Try.prog 157 (spg157_1c7 (F_refine_region_typical_1c7 fuel)):=by
  intro args objs kk r h
  unfold spg157_1c7 at h
  split at h
  · skip
    obtain ⟨hb,h⟩:=cond_some' h
    cases qb_eq hb
    exact fo1 (hG157_1c7 fuel) Try.func157 rfl (B157_1c7_0_blk fuel) (by kernel_rfl) _ _ kk r ((F157_1c7_eqg fuel (F_refine_region_flat_0d1 fuel) (F_refine_grid_at fuel) _ _ _ _ _ _ _ _ _ _ _ _ kk).trans h)
  · cases h
end
end Go.Proofs.Ytipdidpalcmlhaa

