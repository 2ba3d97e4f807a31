/- What the functions that TextTurned reaches do: their typed texts, each with the proof that the machine does it. No condition. -/
import Derived.Test.YtipdidpalcmlhaaGreatEvX
import Derived.Test.YtipdidpalcmlhaaGreatFsTextTurned2
import Derived.Test.YtipdidpalcmlhaaGreatFsTextTurned4
import Derived.Test.YtipdidpalcmlhaaGreatFsTextTurned3
import Derived.Test.YtipdidpalcmlhaaGreatFsTextTurned1
set_option linter.unusedVariables false
set_option linter.unusedSimpArgs false
set_option linter.unusedSectionVars false
set_option linter.unusedVariables false
set_option linter.unusedSimpArgs false
set_option maxRecDepth 100000
set_option maxHeartbeats 2000000
namespace Go.Proofs.YtipdidpalcmlhaaGreat
open Go Ev
open Go.IntKind (i64 u64 u8 i32 u32 u16)
noncomputable section
def kp80_1a8 (i:Nat):Option (List Nat):=Ev.look i [(200002,[3]),(200003,[0,3]),(200008,[0,3]),(200013,[0,3,4])]
def Gg80_1a8 (g:YF76) (d:YF79_9ea) (a:YF121_cf0) (b:YF166_b82) (c:YF167_d0e) (e:YF168) (f:Nat):Option Ev.Spec:=Ev.look f [(76,spg76 g),(79,spg79_9ea d),(121,spg121_cf0 a),(166,spg166_b82 b),(167,spg167_d0e c),(168,spg168 e)]
def G80_1a8 (fuel:Nat):Nat→Option Ev.Spec:=Gg80_1a8 (F_text_strip fuel) (F_text_writer_put_9ea fuel) (F_coder_Encoder_Put_cf0 fuel) (F_number_PutId_b82 fuel) (F_refine_Put_d0e fuel) (F_text_layout_options fuel)
def Fg_text_writer_item_1a8 (fuel:Nat) (D3:YF76) (b:YF79_9ea) (d2:YF121_cf0) (n0:YF166_b82) (d3:YF167_d0e) (d4:YF168) (a D4 l6:Int) (l4:Bool) (e f:Int) (g h:Int) (c8:LI) (r c2:Int) (c3:Bool) (c4 c5 c6:Int) (K:Bool) (c7 d1:Int) (d5 d6:Int) (d:(List (Int×(Int×LI)))) (n1 n2 n3:Int) (n4:Bool) (n5 n6:LI) (k0:(Int×Int×Bool×Int×Int×Int×Bool×Int×Int×Int×Int×(List (Int×(Int×LI)))×Int×Int×Int×Bool×LI×LI)→OA):OA:=bif decide (r > 1) then both (both ((D3 r c2 c3 c4 c5 c6 K c7 a D4 l6 l4 e f g h c8 (fun D5=>(b (144) (i64.wrap (l6 - i64.wrap (D5*r))) r c2 c3 c4 c5 c6 K c7 d1 d5 d6 d n1 n2 n3 n4 n5 n6 (fun (U,V,W,X,Y,Z,u,a0,v,a1,L,c,n7,n8,n9,o0,o1,o2)=>(n0 (385) v a n7 n8 n9 o0 o1 o2 (fun (D6,h0,h1,h2,h3,h4,h5)=>bif !u then k0 (U,V,W,X,Y,Z,u,a0,v,a1,L,c,h0,h1,h2,h3,h4,h5) else bif !l4 then (d2 (384) (0) h0 h1 h2 h3 h4 h5 (fun (h6,j,k,l,m,n,o)=>k0 (U,V,W,X,Y,Z,u,a0,v,a1,L,c,j,k,l,m,n,o)) (fun (h6,j,k,l,m,n,o)=>k0 (U,V,W,X,Y,Z,u,a0,v,a1,L,c,j,k,l,m,n,o))) else (d2 (384) (1) h0 h1 h2 h3 h4 h5 (fun (h6,j,k,l,m,n,o)=>bif decide (0≤a∧a < (↑c.length:Int)) then (b (192) (i64.wrap (g - (c.getD a.toNat (0,0,[])).fst)) U V W X Y Z u a0 v a1 L c j k l m n o (fun (w,x,y,z,A,B,C,D,E,p,t,M,N,O,P,Q,R,S)=>(b (240) (i64.wrap (h - (c.getD a.toNat (0,0,[])).snd.fst)) w x y z A B C D E p t M N O P Q R S (fun (a2,a3,a4,a5,a6,h7,h8,h9,j0,j1,d7,d8,d9,e0,e1,e2,e3,e4)=>(b (288) e a2 a3 a4 a5 a6 h7 h8 h9 j0 j1 d7 d8 d9 e0 e1 e2 e3 e4 (fun (c9,a7,a8,a9,b0,b1,b2,j2,j3,j4,e5,e6,e7,e8,e9,g0,g1,g2)=>(b (336) f c9 a7 a8 a9 b0 b1 b2 j2 j3 j4 e5 e6 e7 e8 e9 g0 g1 g2 (fun (b3,b4,b5,b6,b7,b8,b9,c0,c1,q,T,g3,g4,g5,g6,g7,g8,g9)=>(d4 b3 b4 b5 b6 b7 b8 b9 c0 c1 q T e f (fun (j5,j6,j7,j8,j9)=>(d3 q j5 j6 j7 j8 j9 g h c8 ((c.getD a.toNat (0,0,[])).fst) ((c.getD a.toNat (0,0,[])).snd.fst) ((c.getD a.toNat (0,0,[])).snd.snd) g4 g5 g6 g7 g8 g9 (fun (t8,k1,k2,k3,k4,k5,k6)=>k0 (b3,b4,b5,b6,b7,b8,b9,c0,c1,q,T,g3,k1,k2,k3,k4,k5,k6))))))))))))) else none) (fun (h6,j,k,l,m,n,o)=>bif decide (0≤a∧a < (↑c.length:Int)) then (b (192) (i64.wrap (g - (c.getD a.toNat (0,0,[])).fst)) U V W X Y Z u a0 v a1 L c j k l m n o (fun (w,x,y,z,A,B,C,D,E,p,t,M,N,O,P,Q,R,S)=>(b (240) (i64.wrap (h - (c.getD a.toNat (0,0,[])).snd.fst)) w x y z A B C D E p t M N O P Q R S (fun (a2,a3,a4,a5,a6,h7,h8,h9,j0,j1,d7,d8,d9,e0,e1,e2,e3,e4)=>(b (288) e a2 a3 a4 a5 a6 h7 h8 h9 j0 j1 d7 d8 d9 e0 e1 e2 e3 e4 (fun (c9,a7,a8,a9,b0,b1,b2,j2,j3,j4,e5,e6,e7,e8,e9,g0,g1,g2)=>(b (336) f c9 a7 a8 a9 b0 b1 b2 j2 j3 j4 e5 e6 e7 e8 e9 g0 g1 g2 (fun (b3,b4,b5,b6,b7,b8,b9,c0,c1,q,T,g3,g4,g5,g6,g7,g8,g9)=>(d4 b3 b4 b5 b6 b7 b8 b9 c0 c1 q T e f (fun (j5,j6,j7,j8,j9)=>(d3 q j5 j6 j7 j8 j9 g h c8 ((c.getD a.toNat (0,0,[])).fst) ((c.getD a.toNat (0,0,[])).snd.fst) ((c.getD a.toNat (0,0,[])).snd.snd) g4 g5 g6 g7 g8 g9 (fun (t8,k1,k2,k3,k4,k5,k6)=>k0 (b3,b4,b5,b6,b7,b8,b9,c0,c1,q,T,g3,k1,k2,k3,k4,k5,k6))))))))))))) else none))))))))) ((D3 r c2 c3 c4 c5 c6 K c7 a D4 l6 l4 e f g h c8 (fun D5=>(b (144) (i64.wrap (l6 - i64.wrap (D5*r))) r c2 c3 c4 c5 c6 K c7 d1 d5 d6 d n1 n2 n3 n4 n5 n6 (fun (U,V,W,X,Y,Z,u,a0,v,a1,L,c,n7,n8,n9,o0,o1,o2)=>(n0 (385) v a n7 n8 n9 o0 o1 o2 (fun (D6,h0,h1,h2,h3,h4,h5)=>bif !u then k0 (U,V,W,X,Y,Z,u,a0,v,a1,L,c,h0,h1,h2,h3,h4,h5) else bif !l4 then (d2 (384) (0) h0 h1 h2 h3 h4 h5 (fun (h6,j,k,l,m,n,o)=>k0 (U,V,W,X,Y,Z,u,a0,v,a1,L,c,j,k,l,m,n,o)) (fun (h6,j,k,l,m,n,o)=>k0 (U,V,W,X,Y,Z,u,a0,v,a1,L,c,j,k,l,m,n,o))) else (d2 (384) (1) h0 h1 h2 h3 h4 h5 (fun (h6,j,k,l,m,n,o)=>bif decide (0≤a∧a < (↑c.length:Int)) then (b (192) (i64.wrap (g - (c.getD a.toNat (0,0,[])).fst)) U V W X Y Z u a0 v a1 L c j k l m n o (fun (w,x,y,z,A,B,C,D,E,p,t,M,N,O,P,Q,R,S)=>(b (240) (i64.wrap (h - (c.getD a.toNat (0,0,[])).snd.fst)) w x y z A B C D E p t M N O P Q R S (fun (a2,a3,a4,a5,a6,h7,h8,h9,j0,j1,d7,d8,d9,e0,e1,e2,e3,e4)=>(b (288) e a2 a3 a4 a5 a6 h7 h8 h9 j0 j1 d7 d8 d9 e0 e1 e2 e3 e4 (fun (c9,a7,a8,a9,b0,b1,b2,j2,j3,j4,e5,e6,e7,e8,e9,g0,g1,g2)=>(b (336) f c9 a7 a8 a9 b0 b1 b2 j2 j3 j4 e5 e6 e7 e8 e9 g0 g1 g2 (fun (b3,b4,b5,b6,b7,b8,b9,c0,c1,q,T,g3,g4,g5,g6,g7,g8,g9)=>(d4 b3 b4 b5 b6 b7 b8 b9 c0 c1 q T e f (fun (j5,j6,j7,j8,j9)=>(d3 q j5 j6 j7 j8 j9 g h c8 ((c.getD a.toNat (0,0,[])).fst) ((c.getD a.toNat (0,0,[])).snd.fst) ((c.getD a.toNat (0,0,[])).snd.snd) g4 g5 g6 g7 g8 g9 (fun (t8,k1,k2,k3,k4,k5,k6)=>k0 (b3,b4,b5,b6,b7,b8,b9,c0,c1,q,T,g3,k1,k2,k3,k4,k5,k6))))))))))))) else none) (fun (h6,j,k,l,m,n,o)=>bif decide (0≤a∧a < (↑c.length:Int)) then (b (192) (i64.wrap (g - (c.getD a.toNat (0,0,[])).fst)) U V W X Y Z u a0 v a1 L c j k l m n o (fun (w,x,y,z,A,B,C,D,E,p,t,M,N,O,P,Q,R,S)=>(b (240) (i64.wrap (h - (c.getD a.toNat (0,0,[])).snd.fst)) w x y z A B C D E p t M N O P Q R S (fun (a2,a3,a4,a5,a6,h7,h8,h9,j0,j1,d7,d8,d9,e0,e1,e2,e3,e4)=>(b (288) e a2 a3 a4 a5 a6 h7 h8 h9 j0 j1 d7 d8 d9 e0 e1 e2 e3 e4 (fun (c9,a7,a8,a9,b0,b1,b2,j2,j3,j4,e5,e6,e7,e8,e9,g0,g1,g2)=>(b (336) f c9 a7 a8 a9 b0 b1 b2 j2 j3 j4 e5 e6 e7 e8 e9 g0 g1 g2 (fun (b3,b4,b5,b6,b7,b8,b9,c0,c1,q,T,g3,g4,g5,g6,g7,g8,g9)=>(d4 b3 b4 b5 b6 b7 b8 b9 c0 c1 q T e f (fun (j5,j6,j7,j8,j9)=>(d3 q j5 j6 j7 j8 j9 g h c8 ((c.getD a.toNat (0,0,[])).fst) ((c.getD a.toNat (0,0,[])).snd.fst) ((c.getD a.toNat (0,0,[])).snd.snd) g4 g5 g6 g7 g8 g9 (fun (t8,k1,k2,k3,k4,k5,k6)=>k0 (b3,b4,b5,b6,b7,b8,b9,c0,c1,q,T,g3,k1,k2,k3,k4,k5,k6))))))))))))) else none)))))))))) ((D3 r c2 c3 c4 c5 c6 K c7 a D4 l6 l4 e f g h c8 (fun E4=>(b (144) (i64.wrap (l6 - i64.wrap (E4*r))) r c2 c3 c4 c5 c6 K c7 d1 d5 d6 d n1 n2 n3 n4 n5 n6 (fun (d0,F,G,H,I,J,s,m8,l5,m9,l8,i,D7,D8,D9,E0,E1,E2)=>(n0 (385) l5 a D7 D8 D9 E0 E1 E2 (fun (E5,t9,v0,v1,v2,v3,v4)=>bif !s then k0 (d0,F,G,H,I,J,s,m8,l5,m9,l8,i,t9,v0,v1,v2,v3,v4) else bif !l4 then (d2 (384) (0) t9 v0 v1 v2 v3 v4 (fun (v5,k7,k8,k9,l0,l1,l2)=>k0 (d0,F,G,H,I,J,s,m8,l5,m9,l8,i,k7,k8,k9,l0,l1,l2)) (fun (v5,k7,k8,k9,l0,l1,l2)=>k0 (d0,F,G,H,I,J,s,m8,l5,m9,l8,i,k7,k8,k9,l0,l1,l2))) else (d2 (384) (1) t9 v0 v1 v2 v3 v4 (fun (v5,k7,k8,k9,l0,l1,l2)=>bif decide (0≤a∧a < (↑i.length:Int)) then (b (192) (i64.wrap (g - (i.getD a.toNat (0,0,[])).fst)) d0 F G H I J s m8 l5 m9 l8 i k7 k8 k9 l0 l1 l2 (fun (v6,v7,v8,v9,w0,w1,w2,w3,w4,w5,o3,o4,o5,o6,o7,o8,o9,p0)=>(b (240) (i64.wrap (h - (i.getD a.toNat (0,0,[])).snd.fst)) v6 v7 v8 v9 w0 w1 w2 w3 w4 w5 o3 o4 o5 o6 o7 o8 o9 p0 (fun (w6,w7,w8,w9,x0,x1,x2,x3,x4,x5,p1,p2,p3,p4,p5,p6,p7,p8)=>(b (288) e w6 w7 w8 w9 x0 x1 x2 x3 x4 x5 p1 p2 p3 p4 p5 p6 p7 p8 (fun (x6,x7,x8,x9,y0,y1,y2,y3,y4,y5,p9,q0,q1,q2,q3,q4,q5,q6)=>(b (336) f x6 x7 x8 x9 y0 y1 y2 y3 y4 y5 p9 q0 q1 q2 q3 q4 q5 q6 (fun (l9,m0,m1,m2,m3,m4,m5,m6,m7,l3,l7,q7,q8,q9,r0,r1,r2,r3)=>(d4 l9 m0 m1 m2 m3 m4 m5 m6 m7 l3 l7 e f (fun (y6,y7,y8,y9,z0)=>(d3 l3 y6 y7 y8 y9 z0 g h c8 ((i.getD a.toNat (0,0,[])).fst) ((i.getD a.toNat (0,0,[])).snd.fst) ((i.getD a.toNat (0,0,[])).snd.snd) q8 q9 r0 r1 r2 r3 (fun (E3,z1,z2,z3,z4,z5,z6)=>k0 (l9,m0,m1,m2,m3,m4,m5,m6,m7,l3,l7,q7,z1,z2,z3,z4,z5,z6))))))))))))) else none) (fun (v5,k7,k8,k9,l0,l1,l2)=>bif decide (0≤a∧a < (↑i.length:Int)) then (b (192) (i64.wrap (g - (i.getD a.toNat (0,0,[])).fst)) d0 F G H I J s m8 l5 m9 l8 i k7 k8 k9 l0 l1 l2 (fun (v6,v7,v8,v9,w0,w1,w2,w3,w4,w5,o3,o4,o5,o6,o7,o8,o9,p0)=>(b (240) (i64.wrap (h - (i.getD a.toNat (0,0,[])).snd.fst)) v6 v7 v8 v9 w0 w1 w2 w3 w4 w5 o3 o4 o5 o6 o7 o8 o9 p0 (fun (w6,w7,w8,w9,x0,x1,x2,x3,x4,x5,p1,p2,p3,p4,p5,p6,p7,p8)=>(b (288) e w6 w7 w8 w9 x0 x1 x2 x3 x4 x5 p1 p2 p3 p4 p5 p6 p7 p8 (fun (x6,x7,x8,x9,y0,y1,y2,y3,y4,y5,p9,q0,q1,q2,q3,q4,q5,q6)=>(b (336) f x6 x7 x8 x9 y0 y1 y2 y3 y4 y5 p9 q0 q1 q2 q3 q4 q5 q6 (fun (l9,m0,m1,m2,m3,m4,m5,m6,m7,l3,l7,q7,q8,q9,r0,r1,r2,r3)=>(d4 l9 m0 m1 m2 m3 m4 m5 m6 m7 l3 l7 e f (fun (y6,y7,y8,y9,z0)=>(d3 l3 y6 y7 y8 y9 z0 g h c8 ((i.getD a.toNat (0,0,[])).fst) ((i.getD a.toNat (0,0,[])).snd.fst) ((i.getD a.toNat (0,0,[])).snd.snd) q8 q9 r0 r1 r2 r3 (fun (E3,z1,z2,z3,z4,z5,z6)=>k0 (l9,m0,m1,m2,m3,m4,m5,m6,m7,l3,l7,q7,z1,z2,z3,z4,z5,z6))))))))))))) else none))))))))) else (n0 (385) d1 a n1 n2 n3 n4 n5 n6 (fun (E6,C7,C8,C9,D0,D1,D2)=>bif !K then k0 (r,c2,c3,c4,c5,c6,K,c7,d1,d5,d6,d,C7,C8,C9,D0,D1,D2) else bif !l4 then (d2 (384) (0) C7 C8 C9 D0 D1 D2 (fun (d0,F,G,H,I,J,s)=>k0 (r,c2,c3,c4,c5,c6,K,c7,d1,d5,d6,d,F,G,H,I,J,s)) (fun (d0,F,G,H,I,J,s)=>k0 (r,c2,c3,c4,c5,c6,K,c7,d1,d5,d6,d,F,G,H,I,J,s))) else (d2 (384) (1) C7 C8 C9 D0 D1 D2 (fun (d0,F,G,H,I,J,s)=>bif decide (0≤a∧a < (↑d.length:Int)) then (b (192) (i64.wrap (g - (d.getD a.toNat (0,0,[])).fst)) r c2 c3 c4 c5 c6 K c7 d1 d5 d6 d F G H I J s (fun (z7,z8,z9,A0,A1,A2,A3,A4,A5,A6,r4,r5,r6,r7,r8,r9,s0,s1)=>(b (240) (i64.wrap (h - (d.getD a.toNat (0,0,[])).snd.fst)) z7 z8 z9 A0 A1 A2 A3 A4 A5 A6 r4 r5 r6 r7 r8 r9 s0 s1 (fun (A7,A8,A9,B0,B1,B2,B3,B4,B5,B6,s2,s3,s4,s5,s6,s7,s8,s9)=>(b (288) e A7 A8 A9 B0 B1 B2 B3 B4 B5 B6 s2 s3 s4 s5 s6 s7 s8 s9 (fun (B7,B8,B9,C0,C1,C2,C3,C4,C5,C6,t0,t1,t2,t3,t4,t5,t6,t7)=>(b (336) f B7 B8 B9 C0 C1 C2 C3 C4 C5 C6 t0 t1 t2 t3 t4 t5 t6 t7 (fun (w,x,y,z,A,B,C,D,E,p,t,M,N,O,P,Q,R,S)=>(d4 w x y z A B C D E p t e f (fun (a2,a3,a4,a5,a6)=>(d3 p a2 a3 a4 a5 a6 g h c8 ((d.getD a.toNat (0,0,[])).fst) ((d.getD a.toNat (0,0,[])).snd.fst) ((d.getD a.toNat (0,0,[])).snd.snd) N O P Q R S (fun (c9,a7,a8,a9,b0,b1,b2)=>k0 (w,x,y,z,A,B,C,D,E,p,t,M,a7,a8,a9,b0,b1,b2))))))))))))) else none) (fun (d0,F,G,H,I,J,s)=>bif decide (0≤a∧a < (↑d.length:Int)) then (b (192) (i64.wrap (g - (d.getD a.toNat (0,0,[])).fst)) r c2 c3 c4 c5 c6 K c7 d1 d5 d6 d F G H I J s (fun (z7,z8,z9,A0,A1,A2,A3,A4,A5,A6,r4,r5,r6,r7,r8,r9,s0,s1)=>(b (240) (i64.wrap (h - (d.getD a.toNat (0,0,[])).snd.fst)) z7 z8 z9 A0 A1 A2 A3 A4 A5 A6 r4 r5 r6 r7 r8 r9 s0 s1 (fun (A7,A8,A9,B0,B1,B2,B3,B4,B5,B6,s2,s3,s4,s5,s6,s7,s8,s9)=>(b (288) e A7 A8 A9 B0 B1 B2 B3 B4 B5 B6 s2 s3 s4 s5 s6 s7 s8 s9 (fun (B7,B8,B9,C0,C1,C2,C3,C4,C5,C6,t0,t1,t2,t3,t4,t5,t6,t7)=>(b (336) f B7 B8 B9 C0 C1 C2 C3 C4 C5 C6 t0 t1 t2 t3 t4 t5 t6 t7 (fun (w,x,y,z,A,B,C,D,E,p,t,M,N,O,P,Q,R,S)=>(d4 w x y z A B C D E p t e f (fun (a2,a3,a4,a5,a6)=>(d3 p a2 a3 a4 a5 a6 g h c8 ((d.getD a.toNat (0,0,[])).fst) ((d.getD a.toNat (0,0,[])).snd.fst) ((d.getD a.toNat (0,0,[])).snd.snd) N O P Q R S (fun (c9,a7,a8,a9,b0,b1,b2)=>k0 (w,x,y,z,A,B,C,D,E,p,t,M,a7,a8,a9,b0,b1,b2))))))))))))) else none))))
abbrev YF80_1a8:Type:=Int→Int→Int→Bool→Int→Int→Int→Int→LI→Int→Int→Bool→Int→Int→Int→Bool→Int→Int→Int→Int→((List (Int×(Int×LI))))→Int→Int→Int→Bool→LI→LI→((Int×Int×Bool×Int×Int×Int×Bool×Int×Int×Int×Int×(List (Int×(Int×LI)))×Int×Int×Int×Bool×LI×LI)→Option Ans)→Option Ans
def F_text_writer_item_1a8 (fuel:Nat):YF80_1a8:=Fg_text_writer_item_1a8 fuel (F_text_strip fuel) (F_text_writer_put_9ea fuel) (F_coder_Encoder_Put_cf0 fuel) (F_number_PutId_b82 fuel) (F_refine_Put_d0e fuel) (F_text_layout_options fuel)
theorem F80_1a8_eqg (fuel:Nat) (g:YF76) (e:YF79_9ea) (a:YF121_cf0) (b:YF166_b82) (d:YF167_d0e) (f:YF168) (A B C:Int) (D:Bool) (E F:Int) (G H:Int) (I:LI) (J h:Int) (i:Bool) (j l m:Int) (n:Bool) (o p:Int) (q s:Int) (t:(List (Int×(Int×LI)))) (u v w:Int) (x:Bool) (y z:LI) (k:Ev.Cont):evalFn tab (Gg80_1a8 g e a b d f) J0 kp80_1a8 fuel Tryz.f80 [.c (.ptr 0 0),.agg [i6 A,i6 B,i6 C,.bool D,i6 E,i6 F,i6 G,i6 H,.sl (.int .u8) I]] [.cells 119 [i6 J,i6 h,.bool i,i6 j,i6 l,i6 m,.bool n,i6 o,i6 p,i6 q,i6 s,.ptr 1 0,.sl (.pair (.int .i64) (.pair (.int .i64) (.sl (.int .u8)))) t],.cells 173 (i6 u::.own 2::ctb (.int .u64 v::.int .u64 w::.own 3::.bool x::[])),.vec 3 (.int .i64) y false,.vec 5 (.int .u8) z false] k=Fg_text_writer_item_1a8 fuel g e a b d f A B C D E F G H I J h i j l m n o p q s t u v w x y z (fun r=>match r with | (S,T,U,V,W,X,Y,Z,a0,a1,K,L,M,N,O,P,Q,R)=>k (.tup [],[.cells 119 [i6 S,i6 T,.bool U,i6 V,i6 W,i6 X,.bool Y,i6 Z,i6 a0,i6 a1,i6 K,.ptr 1 0,.sl (.pair (.int .i64) (.pair (.int .i64) (.sl (.int .u8)))) L],.cells 173 (i6 M::.own 2::ctb (.int .u64 N::.int .u64 O::.own 3::.bool P::[])),.vec 3 (.int .i64) Q false,.vec 5 (.int .u8) R true])):=by
  kernel_rfl
theorem hG80_1a8 (fuel:Nat):GOK Tryz.prog (G80_1a8 fuel):=
  gc (ok76 fuel) Tryz.func76 (by kernel_rfl) rfl <|
  gc (ok79_9ea fuel) Tryz.func79 (by kernel_rfl) rfl <|
  gc (ok121_cf0 fuel) Tryz.func121 (by kernel_rfl) rfl <|
  gc (ok166_b82 fuel) Tryz.func166 (by kernel_rfl) rfl <|
  gc (ok167_d0e fuel) Tryz.func167 (by kernel_rfl) rfl <|
  gc (ok168 fuel) Tryz.func168 (by kernel_rfl) rfl <|
  gok_nil
def spg80_1a8 (F:YF80_1a8):Ev.Spec:=fun args objs k=>match args,objs with | [.c (.ptr D E),.agg [i6 G,i6 H,i6 I,.bool J,i6 K,i6 L,i6 M,i6 N,.sl (.int .u8) O]],[.cells P [i6 Q,i6 a,.bool b,i6 d,i6 e,i6 f,.bool g,i6 h,i6 i,i6 j,i6 l,.ptr R S,.sl (.pair (.int .i64) (.pair (.int .i64) (.sl (.int .u8)))) m],.cells T n,.vec U (.int .i64) o false,.vec V (.int .u8) p false]=>(match splitRun 2 ctn n with | some ([i6 q,.own W],[.int .u64 s,.int .u64 t,.own X,.bool u])=>bif qb [D,E,P,R,S,T,U,V,W,X] [0,0,119,1,0,173,3,5,2,3] then F G H I J K L M N O Q a b d e f g h i j l m q s t u o p (fun r=>match r with | (Y,Z,a0,a1,a2,a3,a4,a5,a6,a7,v,w,x,y,z,A,B,C)=>k (.tup [],[.cells 119 [i6 Y,i6 Z,.bool a0,i6 a1,i6 a2,i6 a3,.bool a4,i6 a5,i6 a6,i6 a7,i6 v,.ptr 1 0,.sl (.pair (.int .i64) (.pair (.int .i64) (.sl (.int .u8)))) w],.cells 173 (i6 x::.own 2::ctb (.int .u64 y::.int .u64 z::.own 3::.bool A::[])),.vec 3 (.int .i64) B false,.vec 5 (.int .u8) C true])) else none | _=>none) | _,_=>none
theorem ok80_1a8 (fuel:Nat):FnOK Tryz.prog 80 (spg80_1a8 (F_text_writer_item_1a8 fuel)):=by
  intro args objs kk r h
  unfold spg80_1a8 at h
  split at h
  · skip
    split at h
    rotate_left 1
    · cases h
    rename_i hsp
    have esp:=splitRun_eq hsp
    subst esp
    obtain ⟨hb,h⟩:=cond_some' h
    cases qb_eq hb
    exact fo0 (hG80_1a8 fuel) Tryz.func80 rfl (by kernel_rfl) _ _ kk r ((F80_1a8_eqg fuel (F_text_strip fuel) (F_text_writer_put_9ea fuel) (F_coder_Encoder_Put_cf0 fuel) (F_number_PutId_b82 fuel) (F_refine_Put_d0e fuel) (F_text_layout_options fuel) _ _ _ _ _ _ _ _ _ _ _ _ _ _ _ _ _ _ _ _ _ _ _ _ _ _ _ kk).trans h)
  · cases h
def kp23 (i:Nat):Option (List Nat):=Ev.look i [(12,[2,3,13,15,16,17]),(19,[2,3,13,15,16,17,18,19,20]),(100000,[13]),(100002,[2,3,13,15,16,17]),(200013,[2,3]),(200016,[2]),(200019,[3]),(200022,[2,3]),(400000,[6,7]),(400002,[6,7])]
def Gg23 (g:YF48) (h:YF49) (a:YF52_a20) (i:YF73) (b:YF74_040) (j:YF76) (k:YF77) (l:YF78) (c:YF79_9ea) (d:YF80_1a8) (e:YF81_856) (f:Nat):Option Ev.Spec:=Ev.look f [(48,spg48 g),(49,spg49 h),(52,spg52_a20 a),(73,spg73 i),(74,spg74_040 b),(76,spg76 j),(77,spg77 k),(78,spg78 l),(79,spg79_9ea c),(80,spg80_1a8 d),(81,spg81_856 e)]
def G23 (fuel:Nat):Nat→Option Ev.Spec:=Gg23 (F_coder_New fuel) (F_coder_NewEncoder fuel) (F_coder_Encoder_End_a20 fuel) (F_text_begun fuel) (F_slices_IsSortedFunc_api_Item_api_Item_040 fuel) (F_text_strip fuel) (F_text_right fuel) (F_text_lay fuel) (F_text_writer_put_9ea fuel) (F_text_writer_item_1a8 fuel) (F_number_Put_856 fuel)
abbrev V_text_Encode_2:Type:=(List (Int×(Int×(Int×(Bool×(Int×(Int×(Int×(Int×LI)))))))))×Int×Int×Int×Int×Int×Int×Int×Bool×Int×Int×Int×Bool×Int×Int×Int×Int×Bool×Int×Int×Bool×Int×Int×Int×Bool×Int×Int×Int×Int×(List (Int×(Int×LI)))×LI×LI
abbrev W_text_Encode_2:Type:=((List (Int×(Int×(Int×(Bool×(Int×(Int×(Int×(Int×LI)))))))))×Int×Int×Int×Int×Bool×Int×Int×Int×Bool×Int×Int×Int×Int×Bool×Int×Int×Bool×Int×Int×Int×Bool×Int×Int×Int×Int×(List (Int×(Int×LI)))×LI×LI→OA)
def Sg_text_Encode_2 (fuel:Nat) (e4:YF48) (e5:YF49) (e1:YF52_a20) (e6:YF73) (e2:YF74_040) (d8:YF76) (e7:YF77) (e8:YF78) (J:YF79_9ea) (I:YF80_1a8) (e3:YF81_856) (a:(List (Int×(Int×(Int×(Bool×(Int×(Int×(Int×(Int×LI)))))))))) (E F:Int) (G d9:Int) (H i j:Int) (k:Bool) (d e f:Int) (g:Bool) (h l:Int) (m n:Int) (o:Bool) (p q:Int) (r:Bool) (s t u:Int) (v:Bool) (w x:Int) (y z:Int) (A:(List (Int×(Int×LI)))) (C D:LI) (c:V_text_Encode_2→OA) (B:W_text_Encode_2):OA:=match B with | b=>bif decide ((↑a.length:Int) > 0) then bif decide ((0:Int)≤(0:Int)∧(0:Int) < (↑a.length:Int)) then (d8 i j k d e f g h ((a.getD (Int.toNat 0) (0,0,0,false,0,0,0,0,[])).fst) ((a.getD (Int.toNat 0) (0,0,0,false,0,0,0,0,[])).snd.fst) ((a.getD (Int.toNat 0) (0,0,0,false,0,0,0,0,[])).snd.snd.fst) ((a.getD (Int.toNat 0) (0,0,0,false,0,0,0,0,[])).snd.snd.snd.fst) ((a.getD (Int.toNat 0) (0,0,0,false,0,0,0,0,[])).snd.snd.snd.snd.fst) ((a.getD (Int.toNat 0) (0,0,0,false,0,0,0,0,[])).snd.snd.snd.snd.snd.fst) ((a.getD (Int.toNat 0) (0,0,0,false,0,0,0,0,[])).snd.snd.snd.snd.snd.snd.fst) ((a.getD (Int.toNat 0) (0,0,0,false,0,0,0,0,[])).snd.snd.snd.snd.snd.snd.snd.fst) ((a.getD (Int.toNat 0) (0,0,0,false,0,0,0,0,[])).snd.snd.snd.snd.snd.snd.snd.snd) (fun e0=>bif e0==G then bif decide (H > 0) then bif decide ((0:Int)≤(0:Int)∧(0:Int) < (↑a.length:Int)) then (J (96) (i64.wrap (i64.wrap ((a.getD (Int.toNat 0) (0,0,0,false,0,0,0,0,[])).snd.fst - d9) - d)) p q r s t u v w x y z A l m n o C D (fun (a8,a9,b0,b1,b2,b3,b4,b5,b6,b7,K,L,M,N,O,P,Q,R)=>bif decide ((0:Int)≤(0:Int)∧(0:Int) < (↑a.length:Int)) then bif decide ((0:Int)≤(0:Int)∧(0:Int) < (↑a.length:Int)) then (I ((a.getD (Int.toNat 0) (0,0,0,false,0,0,0,0,[])).fst) ((a.getD (Int.toNat 0) (0,0,0,false,0,0,0,0,[])).snd.fst) ((a.getD (Int.toNat 0) (0,0,0,false,0,0,0,0,[])).snd.snd.fst) ((a.getD (Int.toNat 0) (0,0,0,false,0,0,0,0,[])).snd.snd.snd.fst) ((a.getD (Int.toNat 0) (0,0,0,false,0,0,0,0,[])).snd.snd.snd.snd.fst) ((a.getD (Int.toNat 0) (0,0,0,false,0,0,0,0,[])).snd.snd.snd.snd.snd.fst) ((a.getD (Int.toNat 0) (0,0,0,false,0,0,0,0,[])).snd.snd.snd.snd.snd.snd.fst) ((a.getD (Int.toNat 0) (0,0,0,false,0,0,0,0,[])).snd.snd.snd.snd.snd.snd.snd.fst) ((a.getD (Int.toNat 0) (0,0,0,false,0,0,0,0,[])).snd.snd.snd.snd.snd.snd.snd.snd) a8 a9 b0 b1 b2 b3 b4 b5 b6 b7 K L M N O P Q R (fun (b8,b9,c0,c1,c2,c3,c4,c5,c6,c7,S,T,U,V,W,X,Y,Z)=>bif decide (0≤Ev.loOf (some 1)∧Ev.loOf (some 1)≤Ev.hiOf Option.none (↑a.length:Int)∧Ev.hiOf Option.none (↑a.length:Int)≤(↑a.length:Int)) then c (List.take (Ev.hiOf Option.none (↑a.length:Int) - Ev.loOf (some 1)).toNat (List.drop (Ev.loOf (some 1)).toNat a),E,F,G,(a.getD (Int.toNat 0) (0,0,0,false,0,0,0,0,[])).snd.fst,i64.wrap (H+1),i,j,k,d,e,f,g,h,U,V,W,X,b8,b9,c0,c1,c2,c3,c4,c5,c6,c7,S,T,Y,Z) else none)) else none else none)) else none else bif decide ((0:Int)≤(0:Int)∧(0:Int) < (↑a.length:Int)) then bif decide ((0:Int)≤(0:Int)∧(0:Int) < (↑a.length:Int)) then (I ((a.getD (Int.toNat 0) (0,0,0,false,0,0,0,0,[])).fst) ((a.getD (Int.toNat 0) (0,0,0,false,0,0,0,0,[])).snd.fst) ((a.getD (Int.toNat 0) (0,0,0,false,0,0,0,0,[])).snd.snd.fst) ((a.getD (Int.toNat 0) (0,0,0,false,0,0,0,0,[])).snd.snd.snd.fst) ((a.getD (Int.toNat 0) (0,0,0,false,0,0,0,0,[])).snd.snd.snd.snd.fst) ((a.getD (Int.toNat 0) (0,0,0,false,0,0,0,0,[])).snd.snd.snd.snd.snd.fst) ((a.getD (Int.toNat 0) (0,0,0,false,0,0,0,0,[])).snd.snd.snd.snd.snd.snd.fst) ((a.getD (Int.toNat 0) (0,0,0,false,0,0,0,0,[])).snd.snd.snd.snd.snd.snd.snd.fst) ((a.getD (Int.toNat 0) (0,0,0,false,0,0,0,0,[])).snd.snd.snd.snd.snd.snd.snd.snd) p q r s t u v w x y z A l m n o C D (fun (c8,c9,d0,d1,d2,d3,d4,d5,d6,d7,a0,a1,a2,a3,a4,a5,a6,a7)=>bif decide (0≤Ev.loOf (some 1)∧Ev.loOf (some 1)≤Ev.hiOf Option.none (↑a.length:Int)∧Ev.hiOf Option.none (↑a.length:Int)≤(↑a.length:Int)) then c (List.take (Ev.hiOf Option.none (↑a.length:Int) - Ev.loOf (some 1)).toNat (List.drop (Ev.loOf (some 1)).toNat a),E,F,G,(a.getD (Int.toNat 0) (0,0,0,false,0,0,0,0,[])).snd.fst,i64.wrap (H+1),i,j,k,d,e,f,g,h,a2,a3,a4,a5,c8,c9,d0,d1,d2,d3,d4,d5,d6,d7,a0,a1,a6,a7) else none)) else none else none else b (a,E,F,i,j,k,d,e,f,g,h,l,m,n,o,p,q,r,s,t,u,v,w,x,y,z,A,C,D))) else none else b (a,E,F,i,j,k,d,e,f,g,h,l,m,n,o,p,q,r,s,t,u,v,w,x,y,z,A,C,D)
def S_text_Encode_2 (fuel:Nat) (v:(List (Int×(Int×(Int×(Bool×(Int×(Int×(Int×(Int×(List Int))))))))))×Int×Int×Int×Int×Int×Int×Int×Bool×Int×Int×Int×Bool×Int×Int×Int×Int×Bool×Int×Int×Bool×Int×Int×Int×Bool×Int×Int×Int×Int×(List (Int×(Int×(List Int))))×(List Int)×(List Int)) (c:((List (Int×(Int×(Int×(Bool×(Int×(Int×(Int×(Int×(List Int))))))))))×Int×Int×Int×Int×Int×Int×Int×Bool×Int×Int×Int×Bool×Int×Int×Int×Int×Bool×Int×Int×Bool×Int×Int×Int×Bool×Int×Int×Int×Int×(List (Int×(Int×(List Int))))×(List Int)×(List Int))→Option Ans) (B:((List (Int×(Int×(Int×(Bool×(Int×(Int×(Int×(Int×(List Int))))))))))×Int×Int×Int×Int×Bool×Int×Int×Int×Bool×Int×Int×Int×Int×Bool×Int×Int×Bool×Int×Int×Int×Bool×Int×Int×Int×Int×(List (Int×(Int×(List Int))))×(List Int)×(List Int)→Option Ans)):Option Ans:=match v with | (y,z,A,C,D,E,F,G,H,I,a,b,d,e,f,g,h,i,j,k,l,m,n,o,p,q,r,s,t,u,w,x)=>Sg_text_Encode_2 fuel (F_coder_New fuel) (F_coder_NewEncoder fuel) (F_coder_Encoder_End_a20 fuel) (F_text_begun fuel) (F_slices_IsSortedFunc_api_Item_api_Item_040 fuel) (F_text_strip fuel) (F_text_right fuel) (F_text_lay fuel) (F_text_writer_put_9ea fuel) (F_text_writer_item_1a8 fuel) (F_number_Put_856 fuel) y z A C D E F G H I a b d e f g h i j k l m n o p q r s t u w x c B
def L_text_Encode_2 (fuel:Nat) (v:V_text_Encode_2) (b:W_text_Encode_2):Option Ans:=iter (S_text_Encode_2 fuel) fuel v b
def T23_2 (v:V_text_Encode_2):Ev.St:=match v with | (y,z,A,B,C,D,E,F,G,H,a,b,d,e,f,g,h,i,j,k,l,m,n,o,p,q,r,s,t,u,w,x)=>⟨[(2,.c (.sl (.pair (.int .i64) (.pair (.int .i64) (.pair (.int .i64) (.pair .bool (.pair (.int .i64) (.pair (.int .i64) (.pair (.int .i64) (.pair (.int .i64) (.sl (.int .u8)))))))))) y)),(3,.c (.ptr 0 0)),(13,.c (.ptr 1 0)),(15,.c (.ptr 2 0)),(16,.c (i6 z)),(17,.c (i6 A)),(18,.c (i6 B)),(19,.c (i6 C)),(20,.c (i6 D))],[(0,.cells 40 [i6 E,i6 F,.bool G,i6 H,i6 a,i6 b,.bool d,i6 e]),(1,.cells 173 (i6 f::.own 3::ctb (.int .u64 g::.int .u64 h::.own 4::.bool i::[]))),(2,.cells 119 [i6 j,i6 k,.bool l,i6 m,i6 n,i6 o,.bool p,i6 q,i6 r,i6 s,i6 t,.ptr 1 0,.sl (.pair (.int .i64) (.pair (.int .i64) (.sl (.int .u8)))) u]),(3,.vec 3 (.int .i64) w true),(4,.vec 5 (.int .u8) x true)],5,0⟩
def E23_2 (K:KT):W_text_Encode_2:=(fun v=>match v with | (u,w,x,y,z,A,B,C,D,E,a,b,d,e,f,g,h,i,j,k,l,m,n,o,p,q,r,s,t)=>K .normal ⟨[(2,.c (.sl (.pair (.int .i64) (.pair (.int .i64) (.pair (.int .i64) (.pair .bool (.pair (.int .i64) (.pair (.int .i64) (.pair (.int .i64) (.pair (.int .i64) (.sl (.int .u8)))))))))) u)),(3,.c (.ptr 0 0)),(13,.c (.ptr 1 0)),(15,.c (.ptr 2 0)),(16,.c (i6 w)),(17,.c (i6 x))],[(0,.cells 40 [i6 y,i6 z,.bool A,i6 B,i6 C,i6 D,.bool E,i6 a]),(1,.cells 173 (i6 b::.own 3::ctb (.int .u64 d::.int .u64 e::.own 4::.bool f::[]))),(2,.cells 119 [i6 g,i6 h,.bool i,i6 j,i6 k,i6 l,.bool m,i6 n,i6 o,i6 p,i6 q,.ptr 1 0,.sl (.pair (.int .i64) (.pair (.int .i64) (.sl (.int .u8)))) r]),(3,.vec 3 (.int .i64) s true),(4,.vec 5 (.int .u8) t true)],5,0⟩)
theorem S23_2_okg (fuel:Nat) (f:YF48) (g:YF49) (a:YF52_a20) (h:YF73) (b:YF74_040) (i:YF76) (j:YF77) (k:YF78) (c:YF79_9ea) (d:YF80_1a8) (e:YF81_856) (R:Ev.St→OA) (K:KT) (I:(List (Int×(Int×(Int×(Bool×(Int×(Int×(Int×(Int×LI)))))))))) (J L:Int) (M N:Int) (O P Q:Int) (S:Bool) (T l m:Int) (n:Bool) (o p:Int) (q r:Int) (s:Bool) (t u:Int) (w:Bool) (x y z:Int) (A:Bool) (B C:Int) (D E:Int) (F:(List (Int×(Int×LI)))) (G H:LI):evalCode tab (Gg23 f g a h b i j k c d e) J0 kp23 fuel (bodyOf 2 Tryz.f23) (T23_2 (I,J,L,M,N,O,P,Q,S,T,l,m,n,o,p,q,r,s,t,u,w,x,y,z,A,B,C,D,E,F,G,H)) (lc kp23 19 2 R K)=Sg_text_Encode_2 fuel f g a h b i j k c d e I J L M N O P Q S T l m n o p q r s t u w x y z A B C D E F G H (fun v=>R (T23_2 v)) (E23_2 K):=by
  kernel_rfl
def B23_2 (fuel:Nat):Ev.Blk:=fun st K=>match canonO (kp23 19) st with | some s=>(match s with | ⟨[(V,.c (.sl (.pair (.int .i64) (.pair (.int .i64) (.pair (.int .i64) (.pair .bool (.pair (.int .i64) (.pair (.int .i64) (.pair (.int .i64) (.pair (.int .i64) (.sl (.int .u8)))))))))) W)),(X,.c (.ptr Y Z)),(a0,.c (.ptr a1 a2)),(a3,.c (.ptr a4 a5)),(a,.c (i6 a6)),(b,.c (i6 a7)),(d,.c (i6 a8)),(e,.c (i6 a9)),(f,.c (i6 b0))],[(g,.cells h [i6 b1,i6 b2,.bool b3,i6 b4,i6 i,i6 j,.bool k,i6 l]),(m,.cells n o),(p,.cells q [i6 r,i6 t,.bool u,i6 v,i6 w,i6 x,.bool y,i6 z,i6 A,i6 B,i6 C,.ptr D E,.sl (.pair (.int .i64) (.pair (.int .i64) (.sl (.int .u8)))) F]),(G,.vec H (.int .i64) I true),(J,.vec L (.int .u8) M true)],N,O⟩=>(match splitRun 2 ctn o with | some ([i6 P,.own Q],[.int .u64 R,.int .u64 S,.own T,.bool U])=>bif qb [V,X,Y,Z,a0,a1,a2,a3,a4,a5,a,b,d,e,f,g,h,m,n,p,q,D,E,G,H,J,L,N,O,Q,T] [2,3,0,0,13,1,0,15,2,0,16,17,18,19,20,0,40,1,173,2,119,1,0,3,3,4,5,5,0,3,4] then iter (S_text_Encode_2 fuel) fuel (W,a6,a7,a8,a9,b0,b1,b2,b3,b4,i,j,k,l,P,R,S,U,r,t,u,v,w,x,y,z,A,B,C,F,I,M) (E23_2 K) else none | _=>none) | _=>none) | none=>none
theorem B23_2_ok (fuel:Nat) (st:Ev.St) (K:KT) (r:Ans) (h:B23_2 fuel st K=some r):evalCode tab (G23 fuel) J0 kp23 fuel (.block 2 (.loop (bodyOf 2 Tryz.f23))) st K=some r:=by
  unfold B23_2 at h
  split at h
  · rename_i s hs
    split at h
    · skip
      split at h
      rotate_left 1
      · cases h
      rename_i hsp
      have esp:=splitRun_eq hsp
      subst esp
      obtain ⟨hb,h⟩:=cond_some' h
      cases qb_eq hb
      exact blk_loop (S:=T23_2) (ks:=E23_2) (step:=S_text_Encode_2 fuel) (v:=(_,_,_,_,_,_,_,_,_,_,_,_,_,_,_,_,_,_,_,_,_,_,_,_,_,_,_,_,_,_,_,_)) (by kernel_rfl) (by kernel_rfl) (fun R K v=>by obtain ⟨A,B,C,D,E,F,G,H,I,J,a,b,c,d,e,f,g,i,j,k,l,m,n,o,p,q,t,u,w,x,y,z⟩:=v; exact S23_2_okg fuel (F_coder_New fuel) (F_coder_NewEncoder fuel) (F_coder_Encoder_End_a20 fuel) (F_text_begun fuel) (F_slices_IsSortedFunc_api_Item_api_Item_040 fuel) (F_text_strip fuel) (F_text_right fuel) (F_text_lay fuel) (F_text_writer_put_9ea fuel) (F_text_writer_item_1a8 fuel) (F_number_Put_856 fuel) R K A B C D E F G H I J a b c d e f g i j k l m n o p q t u w x y z) hs h
    · cases h
  · cases h
abbrev V_text_Encode_0:Type:=(List (Int×(Int×(Int×(Bool×(Int×(Int×(Int×(Int×LI)))))))))×Int×Int×Int×Int×Bool×Int×Int×Int×Bool×Int×Int×Int×Int×Bool×Int×Int×Bool×Int×Int×Int×Bool×Int×Int×Int×Int×(List (Int×(Int×LI)))×LI×LI
abbrev W_text_Encode_0:Type:=(Int×Int×Int×Bool×LI×LI→OA)
def Sg_text_Encode_0 (fuel:Nat) (g9:YF48) (h0:YF49) (g5:YF52_a20) (h1:YF73) (g6:YF74_040) (e0:YF76) (h2:YF77) (h3:YF78) (e:YF79_9ea) (g7:YF80_1a8) (t:YF81_856) (a:(List (Int×(Int×(Int×(Bool×(Int×(Int×(Int×(Int×LI)))))))))) (g3 g4:Int) (m n:Int) (o:Bool) (p q r:Int) (s:Bool) (f g:Int) (h i:Int) (j:Bool) (e1 e2:Int) (e3:Bool) (e4 e5 e6:Int) (e7:Bool) (e8 e9:Int) (g0 g1:Int) (g2:(List (Int×(Int×LI)))) (k l:LI) (c:V_text_Encode_0→OA) (B:W_text_Encode_0):OA:=match B with | b=>bif decide ((↑a.length:Int) > 0) then bif decide ((0:Int)≤(0:Int)∧(0:Int) < (↑a.length:Int)) then (e0 m n o p q r s f ((a.getD (Int.toNat 0) (0,0,0,false,0,0,0,0,[])).fst) ((a.getD (Int.toNat 0) (0,0,0,false,0,0,0,0,[])).snd.fst) ((a.getD (Int.toNat 0) (0,0,0,false,0,0,0,0,[])).snd.snd.fst) ((a.getD (Int.toNat 0) (0,0,0,false,0,0,0,0,[])).snd.snd.snd.fst) ((a.getD (Int.toNat 0) (0,0,0,false,0,0,0,0,[])).snd.snd.snd.snd.fst) ((a.getD (Int.toNat 0) (0,0,0,false,0,0,0,0,[])).snd.snd.snd.snd.snd.fst) ((a.getD (Int.toNat 0) (0,0,0,false,0,0,0,0,[])).snd.snd.snd.snd.snd.snd.fst) ((a.getD (Int.toNat 0) (0,0,0,false,0,0,0,0,[])).snd.snd.snd.snd.snd.snd.snd.fst) ((a.getD (Int.toNat 0) (0,0,0,false,0,0,0,0,[])).snd.snd.snd.snd.snd.snd.snd.snd) (fun d=>(e (0) (i64.wrap (d - g3)) e1 e2 e3 e4 e5 e6 e7 e8 e9 g0 g1 g2 g h i j k l (fun (c0,c1,c2,c3,c4,c5,c6,c7,c8,c9,D,E,F,G,H,I,J,K)=>bif decide ((0:Int)≤(0:Int)∧(0:Int) < (↑a.length:Int)) then (e (48) (i64.wrap ((a.getD (Int.toNat 0) (0,0,0,false,0,0,0,0,[])).snd.fst - g4)) c0 c1 c2 c3 c4 c5 c6 c7 c8 c9 D E F G H I J K (fun (L,M,N,O,P,Q,R,S,T,U,u,v,w,x,y,z,A,C)=>bif decide ((0:Int)≤(0:Int)∧(0:Int) < (↑a.length:Int)) then (L_text_Encode_2 fuel (a,d,(a.getD (Int.toNat 0) (0,0,0,false,0,0,0,0,[])).snd.fst,d,(a.getD (Int.toNat 0) (0,0,0,false,0,0,0,0,[])).snd.fst,0,m,n,o,p,q,r,s,f,w,x,y,z,L,M,N,O,P,Q,R,S,T,U,u,v,A,C) (fun (d0,d1,d2,d3,d4,d5,d6,d7,d8,d9,V,W,X,Y,Z,a0,a1,a2,a3,a4,a5,a6,a7,a8,a9,b0,b1,b2,b3)=>(t (96) (true) (0) W X Y Z b2 b3 (fun (g8,b4,b5,b6,b7,b8,b9)=>c (d0,d1,d2,d3,d4,d5,d6,d7,d8,d9,V,b4,b5,b6,b7,a0,a1,a2,a3,a4,a5,a6,a7,a8,a9,b0,b1,b8,b9))))) else none)) else none)))) else none else b (g,h,i,j,k,l)
def S_text_Encode_0 (fuel:Nat) (v:(List (Int×(Int×(Int×(Bool×(Int×(Int×(Int×(Int×(List Int))))))))))×Int×Int×Int×Int×Bool×Int×Int×Int×Bool×Int×Int×Int×Int×Bool×Int×Int×Bool×Int×Int×Int×Bool×Int×Int×Int×Int×(List (Int×(Int×(List Int))))×(List Int)×(List Int)) (c:((List (Int×(Int×(Int×(Bool×(Int×(Int×(Int×(Int×(List Int))))))))))×Int×Int×Int×Int×Bool×Int×Int×Int×Bool×Int×Int×Int×Int×Bool×Int×Int×Bool×Int×Int×Int×Bool×Int×Int×Int×Int×(List (Int×(Int×(List Int))))×(List Int)×(List Int))→Option Ans) (B:(Int×Int×Int×Bool×(List Int)×(List Int)→Option Ans)):Option Ans:=match v with | (u,w,x,y,z,A,C,D,E,F,a,b,d,e,f,g,h,i,j,k,l,m,n,o,p,q,r,s,t)=>Sg_text_Encode_0 fuel (F_coder_New fuel) (F_coder_NewEncoder fuel) (F_coder_Encoder_End_a20 fuel) (F_text_begun fuel) (F_slices_IsSortedFunc_api_Item_api_Item_040 fuel) (F_text_strip fuel) (F_text_right fuel) (F_text_lay fuel) (F_text_writer_put_9ea fuel) (F_text_writer_item_1a8 fuel) (F_number_Put_856 fuel) u w x y z A C D E F a b d e f g h i j k l m n o p q r s t c B
def L_text_Encode_0 (fuel:Nat) (v:V_text_Encode_0) (b:W_text_Encode_0):Option Ans:=iter (S_text_Encode_0 fuel) fuel v b
def J23_0 (fuel:Nat) (i:Nat):Option Ev.Blk:=Ev.look i [(100002,B23_2 fuel)]
def T23_0 (v:V_text_Encode_0):Ev.St:=match v with | (u,w,x,y,z,A,B,C,D,E,a,b,d,e,f,g,h,i,j,k,l,m,n,o,p,q,r,s,t)=>⟨[(2,.c (.sl (.pair (.int .i64) (.pair (.int .i64) (.pair (.int .i64) (.pair .bool (.pair (.int .i64) (.pair (.int .i64) (.pair (.int .i64) (.pair (.int .i64) (.sl (.int .u8)))))))))) u)),(3,.c (.ptr 0 0)),(13,.c (.ptr 1 0)),(15,.c (.ptr 2 0)),(16,.c (i6 w)),(17,.c (i6 x))],[(0,.cells 40 [i6 y,i6 z,.bool A,i6 B,i6 C,i6 D,.bool E,i6 a]),(1,.cells 173 (i6 b::.own 3::ctb (.int .u64 d::.int .u64 e::.own 4::.bool f::[]))),(2,.cells 119 [i6 g,i6 h,.bool i,i6 j,i6 k,i6 l,.bool m,i6 n,i6 o,i6 p,i6 q,.ptr 1 0,.sl (.pair (.int .i64) (.pair (.int .i64) (.sl (.int .u8)))) r]),(3,.vec 3 (.int .i64) s true),(4,.vec 5 (.int .u8) t true)],5,0⟩
def E23_0 (K:KT):W_text_Encode_0:=(fun v=>match v with | (a,b,d,e,f,g)=>K .normal ⟨[(13,.c (.ptr 0 0))],[(0,.cells 173 (i6 a::.own 1::ctb (.int .u64 b::.int .u64 d::.own 2::.bool e::[]))),(1,.vec 3 (.int .i64) f true),(2,.vec 5 (.int .u8) g true)],3,0⟩)
theorem S23_0_okg (fuel:Nat) (f:YF48) (g:YF49) (a:YF52_a20) (h:YF73) (b:YF74_040) (i:YF76) (j:YF77) (k:YF78) (c:YF79_9ea) (d:YF80_1a8) (e:YF81_856) (R:Ev.St→OA) (K:KT) (F:(List (Int×(Int×(Int×(Bool×(Int×(Int×(Int×(Int×LI)))))))))) (G H:Int) (I J:Int) (L:Bool) (M N O:Int) (P:Bool) (l m:Int) (n o:Int) (p:Bool) (q r:Int) (s:Bool) (t u w:Int) (x:Bool) (y z:Int) (A B:Int) (C:(List (Int×(Int×LI)))) (D E:LI):evalCode tab (Gg23 f g a h b i j k c d e) (J23_0 fuel) kp23 fuel (bodyOf 0 Tryz.f23) (T23_0 (F,G,H,I,J,L,M,N,O,P,l,m,n,o,p,q,r,s,t,u,w,x,y,z,A,B,C,D,E)) (lc kp23 12 0 R K)=Sg_text_Encode_0 fuel f g a h b i j k c d e F G H I J L M N O P l m n o p q r s t u w x y z A B C D E (fun v=>R (T23_0 v)) (E23_0 K):=by
  kernel_rfl
def B23_0 (fuel:Nat):Ev.Blk:=fun st K=>match canonO (kp23 12) st with | some s=>(match s with | ⟨[(P,.c (.sl (.pair (.int .i64) (.pair (.int .i64) (.pair (.int .i64) (.pair .bool (.pair (.int .i64) (.pair (.int .i64) (.pair (.int .i64) (.pair (.int .i64) (.sl (.int .u8)))))))))) Q)),(R,.c (.ptr S T)),(U,.c (.ptr V W)),(X,.c (.ptr Y Z)),(a,.c (i6 a0)),(b,.c (i6 a1))],[(d,.cells e [i6 a2,i6 a3,.bool a4,i6 a5,i6 a6,i6 a7,.bool a8,i6 f]),(g,.cells h i),(j,.cells k [i6 l,i6 m,.bool n,i6 o,i6 p,i6 q,.bool r,i6 t,i6 u,i6 v,i6 w,.ptr x y,.sl (.pair (.int .i64) (.pair (.int .i64) (.sl (.int .u8)))) z]),(A,.vec B (.int .i64) C true),(D,.vec E (.int .u8) F true)],G,H⟩=>(match splitRun 2 ctn i with | some ([i6 I,.own J],[.int .u64 L,.int .u64 M,.own N,.bool O])=>bif qb [P,R,S,T,U,V,W,X,Y,Z,a,b,d,e,g,h,j,k,x,y,A,B,D,E,G,H,J,N] [2,3,0,0,13,1,0,15,2,0,16,17,0,40,1,173,2,119,1,0,3,3,4,5,5,0,3,4] then iter (S_text_Encode_0 fuel) fuel (Q,a0,a1,a2,a3,a4,a5,a6,a7,a8,f,I,L,M,O,l,m,n,o,p,q,r,t,u,v,w,z,C,F) (E23_0 K) else none | _=>none) | _=>none) | none=>none
theorem B23_0_ok (fuel:Nat) (st:Ev.St) (K:KT) (r:Ans) (h:B23_0 fuel st K=some r):evalCode tab (G23 fuel) (J23_0 fuel) kp23 fuel (.block 0 (.loop (bodyOf 0 Tryz.f23))) st K=some r:=by
  unfold B23_0 at h
  split at h
  · rename_i s hs
    split at h
    · skip
      split at h
      rotate_left 1
      · cases h
      rename_i hsp
      have esp:=splitRun_eq hsp
      subst esp
      obtain ⟨hb,h⟩:=cond_some' h
      cases qb_eq hb
      exact blk_loop (S:=T23_0) (ks:=E23_0) (step:=S_text_Encode_0 fuel) (v:=(_,_,_,_,_,_,_,_,_,_,_,_,_,_,_,_,_,_,_,_,_,_,_,_,_,_,_,_,_)) (by kernel_rfl) (by kernel_rfl) (fun R K v=>by obtain ⟨x,y,z,A,B,C,D,E,F,G,a,b,c,d,e,f,g,i,j,k,l,m,n,o,p,q,t,u,w⟩:=v; exact S23_0_okg fuel (F_coder_New fuel) (F_coder_NewEncoder fuel) (F_coder_Encoder_End_a20 fuel) (F_text_begun fuel) (F_slices_IsSortedFunc_api_Item_api_Item_040 fuel) (F_text_strip fuel) (F_text_right fuel) (F_text_lay fuel) (F_text_writer_put_9ea fuel) (F_text_writer_item_1a8 fuel) (F_number_Put_856 fuel) R K x y z A B C D E F G a b c d e f g i j k l m n o p q t u w) hs h
    · cases h
  · cases h
def J23 (fuel:Nat) (i:Nat):Option Ev.Blk:=Ev.look i [(100002,B23_2 fuel),(100000,B23_0 fuel)]
def Fg_text_Encode (fuel:Nat) (W:YF48) (X:YF49) (u:YF52_a20) (Y:YF73) (v:YF74_040) (b3:YF76) (Z:YF77) (a0:YF78) (a2:YF79_9ea) (a3:YF80_1a8) (a4:YF81_856) (l m:Int) (n:Bool) (o p q:Int) (r:Bool) (s:Int) (b:(List (Int×Int×LI))) (c:(List (Int×Int×Int×Bool×Int×Int×(Int×Int×LI)))) (k0:(Int×LI)→OA):OA:=(Y l m n o p q r s b c (fun t=>bif t != 0 then k0 (t,[]) else (v c l m n o p q r s (fun (P,d,e,f,g,h,a,i,j)=>(Z d e f g h a i j ((↑b.length:Int)) c (fun a1=>bif !a1 then k0 (2,[]) else bif !P then k0 (2,[]) else (a0 d e f g h a i j ((↑b.length:Int)) (fun (w,x,y,z,A,B,C,D,E,F,k)=>(W a k (fun (G,a5,H)=>(X G H (fun b4=>none) (fun (a6,I,J,K,L,M,N)=>(L_text_Encode_0 fuel (c,0,0,d,e,f,g,h,a,i,j,I,J,K,L,w,x,y,z,A,B,C,D,E,F,k,b,M,N) (fun (Q,R,S,T,U,V)=>(u Q R S T U V (fun (a7,a8,a9,b0,b1,b2,O)=>k0 (0,O)))))))))))))))))
abbrev YF23:Type:=Int→Int→Bool→Int→Int→Int→Bool→Int→((List (Int×Int×LI)))→((List (Int×Int×Int×Bool×Int×Int×(Int×Int×LI))))→((Int×LI)→Option Ans)→Option Ans
def F_text_Encode (fuel:Nat):YF23:=Fg_text_Encode fuel (F_coder_New fuel) (F_coder_NewEncoder fuel) (F_coder_Encoder_End_a20 fuel) (F_text_begun fuel) (F_slices_IsSortedFunc_api_Item_api_Item_040 fuel) (F_text_strip fuel) (F_text_right fuel) (F_text_lay fuel) (F_text_writer_put_9ea fuel) (F_text_writer_item_1a8 fuel) (F_number_Put_856 fuel)
theorem F23_eqg (fuel:Nat) (g:YF48) (h:YF49) (a:YF52_a20) (i:YF73) (b:YF74_040) (j:YF76) (l:YF77) (m:YF78) (d:YF79_9ea) (e:YF80_1a8) (f:YF81_856) (n o:Int) (p:Bool) (q s t:Int) (u:Bool) (v:Int) (w:(List (Int×Int×LI))) (x:(List (Int×Int×Int×Bool×Int×Int×(Int×Int×LI)))) (k:Ev.Cont):evalFn tab (Gg23 g h a i b j l m d e f) (J23 fuel) kp23 fuel Tryz.f23 [.agg [i6 n,i6 o,.bool p,i6 q,i6 s,i6 t,.bool u,i6 v],.c (.sl (.pair (.int .i64) (.pair (.int .i64) (.sl (.int .u8)))) w),.c (.sl (.pair (.int .i64) (.pair (.int .i64) (.pair (.int .i64) (.pair .bool (.pair (.int .i64) (.pair (.int .i64) (.pair (.int .i64) (.pair (.int .i64) (.sl (.int .u8)))))))))) x)] [] k=Fg_text_Encode fuel g h a i b j l m d e f n o p q s t u v w x (fun r=>match r with | (y,z)=>k (.tup [(false,[.own 0]),(false,[i6 y])],[.vec 5 (.int .u8) z true])):=by
  kernel_rfl
theorem hG23 (fuel:Nat):GOK Tryz.prog (G23 fuel):=
  gc (ok48 fuel) Tryz.func48 (by kernel_rfl) rfl <|
  gc (ok49 fuel) Tryz.func49 (by kernel_rfl) rfl <|
  gc (ok52_a20 fuel) Tryz.func52 (by kernel_rfl) rfl <|
  gc (ok73 fuel) Tryz.func73 (by kernel_rfl) rfl <|
  gc (ok74_040 fuel) Tryz.func74 (by kernel_rfl) rfl <|
  gc (ok76 fuel) Tryz.func76 (by kernel_rfl) rfl <|
  gc (ok77 fuel) Tryz.func77 (by kernel_rfl) rfl <|
  gc (ok78 fuel) Tryz.func78 (by kernel_rfl) rfl <|
  gc (ok79_9ea fuel) Tryz.func79 (by kernel_rfl) rfl <|
  gc (ok80_1a8 fuel) Tryz.func80 (by kernel_rfl) rfl <|
  gc (ok81_856 fuel) Tryz.func81 (by kernel_rfl) rfl <|
  gok_nil
theorem B23_2_blk (fuel:Nat):BlkOK Tryz.prog Tryz.f23.ntmps (.block 2 (.loop (bodyOf 2 Tryz.f23))) (B23_2 fuel):=bo0 (hG23 fuel) (by kernel_rfl) (by kernel_rfl) (B23_2_ok fuel)
theorem B23_0_blk (fuel:Nat):BlkOK Tryz.prog Tryz.f23.ntmps (.block 0 (.loop (bodyOf 0 Tryz.f23))) (B23_0 fuel):=
  blk_of (blk_of_code tab_ok (hG23 fuel) mixed (J:=J23_0 fuel) (kp:=kp23) (fuel:=fuel) (by kernel_rfl) (fun q hq=>by
    rw [(by kernel_rfl:obl (J23_0 fuel) (.block 0 (.loop (bodyOf 0 Tryz.f23)))= [(.block 2 (.loop (bodyOf 2 Tryz.f23)),B23_2 fuel)])] at hq
    simp only [List.mem_cons,List.not_mem_nil,or_false] at hq
    subst hq
    · exact B23_2_blk fuel)) (B23_0_ok fuel)
def spg23 (F:YF23):Ev.Spec:=fun args objs k=>match args,objs with | [.agg [i6 a,i6 b,.bool d,i6 e,i6 f,i6 g,.bool h,i6 i],.c (.sl (.pair (.int .i64) (.pair (.int .i64) (.sl (.int .u8)))) j),.c (.sl (.pair (.int .i64) (.pair (.int .i64) (.pair (.int .i64) (.pair .bool (.pair (.int .i64) (.pair (.int .i64) (.pair (.int .i64) (.pair (.int .i64) (.sl (.int .u8)))))))))) l)],[]=>F a b d e f g h i j l (fun r=>match r with | (m,n)=>k (.tup [(false,[.own 0]),(false,[i6 m])],[.vec 5 (.int .u8) n true])) | _,_=>none
theorem ok23 (fuel:Nat):FnOK Tryz.prog 23 (spg23 (F_text_Encode fuel)):=by
  intro args objs kk r h
  unfold spg23 at h
  split at h
  · skip
    exact fo1 (hG23 fuel) Tryz.func23 rfl (B23_0_blk fuel) (by kernel_rfl) _ _ kk r ((F23_eqg fuel (F_coder_New fuel) (F_coder_NewEncoder fuel) (F_coder_Encoder_End_a20 fuel) (F_text_begun fuel) (F_slices_IsSortedFunc_api_Item_api_Item_040 fuel) (F_text_strip fuel) (F_text_right fuel) (F_text_lay fuel) (F_text_writer_put_9ea fuel) (F_text_writer_item_1a8 fuel) (F_number_Put_856 fuel) _ _ _ _ _ _ _ _ _ _ kk).trans h)
  · cases h
def kp199 (i:Nat):Option (List Nat):=Ev.look i []
def Gg199 (f:Nat):Option Ev.Spec:=Ev.look f []
def G199 (fuel:Nat):Nat→Option Ev.Spec:=Gg199
def F_bitmap_at (fuel:Nat) (c e:Int) (d:(List Int)) (a b:Int) (k0:(Int)→Option Ans):Option Ans:=bif decide (a < 0) then k0 (0) else bif decide (b < 0) then k0 (0) else bif decide (a≥c) then k0 (0) else bif decide (b≥e) then k0 (0) else bif decide (0≤i64.wrap (i64.wrap (b*c)+a)∧i64.wrap (i64.wrap (b*c)+a) < (↑d.length:Int)) then k0 (d.getD (i64.wrap (i64.wrap (b*c)+a)).toNat 0) else none
abbrev YF199:Type:=Int→Int→LI→Int→Int→(Int→Option Ans)→Option Ans
theorem F199_eq (fuel:Nat) (a b:Int) (d:LI) (e f:Int) (k:Ev.Cont):evalFn tab (G199 fuel) J0 kp199 fuel Tryz.f199 [.agg [i6 a,i6 b,.sl (.int .u8) d],.c (i6 e),.c (i6 f)] [] k=F_bitmap_at fuel a b d e f (fun r=>match r with | g=>k (.c (.int .u8 g),[])):=by
  kernel_rfl
theorem hG199 (fuel:Nat):GOK Tryz.prog (G199 fuel):=
  gok_nil
def spg199 (F:YF199):Ev.Spec:=fun args objs k=>match args,objs with | [.agg [i6 a,i6 b,.sl (.int .u8) d],.c (i6 e),.c (i6 f)],[]=>F a b d e f (fun r=>match r with | g=>k (.c (.int .u8 g),[])) | _,_=>none
theorem ok199 (fuel:Nat):FnOK Tryz.prog 199 (spg199 (F_bitmap_at fuel)):=by
  intro args objs kk r h
  unfold spg199 at h
  split at h
  · skip
    exact fo0 (hG199 fuel) Tryz.func199 rfl (by kernel_rfl) _ _ kk r ((F199_eq fuel _ _ _ _ _ kk).trans h)
  · cases h
def kp245 (i:Nat):Option (List Nat):=Ev.look i []
def Gg245 (f:Nat):Option Ev.Spec:=Ev.look f []
def G245 (fuel:Nat):Nat→Option Ev.Spec:=Gg245
def F_bytes_Clone (fuel:Nat) (a:(List Int)) (k0:((List Int))→Option Ans):Option Ans:=bif decide ((↑a.length:Int)=0) then both (k0 []) (bif decide (((0:Nat)+a.length)*(1:Nat)≤(140737488355328:Nat)∧(0:Nat)+a.length≤(140737488355328:Nat)) then k0 ([]++a) else none) else bif decide (((0:Nat)+a.length)*(1:Nat)≤(140737488355328:Nat)∧(0:Nat)+a.length≤(140737488355328:Nat)) then k0 ([]++a) else none
abbrev YF245:Type:=LI→(LI→Option Ans)→Option Ans
theorem F245_eq (fuel:Nat) (a:LI) (k:Ev.Cont):evalFn tab (G245 fuel) J0 kp245 fuel Tryz.f245 [.c (.sl (.int .u8) a)] [] k=F_bytes_Clone fuel a (fun r=>match r with | b=>k (.c (.own 0),[.vec 5 (.int .u8) b true])):=by
  kernel_rfl
theorem hG245 (fuel:Nat):GOK Tryz.prog (G245 fuel):=
  gok_nil
def spg245 (F:YF245):Ev.Spec:=fun args objs k=>match args,objs with | [.c (.sl (.int .u8) a)],[]=>F a (fun r=>match r with | b=>k (.c (.own 0),[.vec 5 (.int .u8) b true])) | _,_=>none
theorem ok245 (fuel:Nat):FnOK Tryz.prog 245 (spg245 (F_bytes_Clone fuel)):=by
  intro args objs kk r h
  unfold spg245 at h
  split at h
  · skip
    exact fo0 (hG245 fuel) Tryz.func245 rfl (by kernel_rfl) _ _ kk r ((F245_eq fuel _ kk).trans h)
  · cases h
def kp197 (i:Nat):Option (List Nat):=Ev.look i [(200001,[1])]
def Gg197 (a:YF245) (f:Nat):Option Ev.Spec:=Ev.look f [(245,spg245 a)]
def G197 (fuel:Nat):Nat→Option Ev.Spec:=Gg197 (F_bytes_Clone fuel)
def Fg_bitmap_clone (fuel:Nat) (a:YF245) (b c:Int) (d:LI) (k0:(Int×Int×LI)→OA):OA:=(a d (fun e=>k0 (b,c,e)))
abbrev YF197:Type:=Int→Int→LI→((Int×Int×LI)→Option Ans)→Option Ans
def F_bitmap_clone (fuel:Nat):YF197:=Fg_bitmap_clone fuel (F_bytes_Clone fuel)
theorem F197_eqg (fuel:Nat) (a:YF245) (b c:Int) (d:LI) (k:Ev.Cont):evalFn tab (Gg197 a) J0 kp197 fuel Tryz.f197 [.agg [i6 b,i6 c,.sl (.int .u8) d]] [] k=Fg_bitmap_clone fuel a b c d (fun r=>match r with | (e,f,g)=>k (.agg [i6 e,i6 f,.own 0],[.vec 5 (.int .u8) g true])):=by
  kernel_rfl
theorem hG197 (fuel:Nat):GOK Tryz.prog (G197 fuel):=
  gc (ok245 fuel) Tryz.func245 (by kernel_rfl) rfl <|
  gok_nil
def spg197 (F:YF197):Ev.Spec:=fun args objs k=>match args,objs with | [.agg [i6 a,i6 b,.sl (.int .u8) c]],[]=>F a b c (fun r=>match r with | (d,e,f)=>k (.agg [i6 d,i6 e,.own 0],[.vec 5 (.int .u8) f true])) | _,_=>none
theorem ok197 (fuel:Nat):FnOK Tryz.prog 197 (spg197 (F_bitmap_clone fuel)):=by
  intro args objs kk r h
  unfold spg197 at h
  split at h
  · skip
    exact fo0 (hG197 fuel) Tryz.func197 rfl (by kernel_rfl) _ _ kk r ((F197_eqg fuel (F_bytes_Clone fuel) _ _ _ kk).trans h)
  · cases h
def kp198 (i:Nat):Option (List Nat):=Ev.look i []
def Gg198 (f:Nat):Option Ev.Spec:=Ev.look f []
def G198 (fuel:Nat):Nat→Option Ev.Spec:=Gg198
def F_bitmap_combine (fuel:Nat) (b a c:Int) (k0:(Int)→Option Ans):Option Ans:=bif c==1 then k0 (Ev.ior IntKind.u8 b a) else bif c==2 then k0 (Ev.iand IntKind.u8 b a) else bif c==3 then k0 (Ev.ixor IntKind.u8 b a) else bif c==4 then k0 (Ev.ixor IntKind.u8 (u8.wrap (1 - b)) a) else k0 a
abbrev YF198:Type:=Int→Int→Int→(Int→Option Ans)→Option Ans
theorem F198_eq (fuel:Nat) (a b d:Int) (k:Ev.Cont):evalFn tab (G198 fuel) J0 kp198 fuel Tryz.f198 [.c (.int .u8 a),.c (.int .u8 b),.c (i6 d)] [] k=F_bitmap_combine fuel a b d (fun r=>match r with | e=>k (.c (.int .u8 e),[])):=by
  kernel_rfl
theorem hG198 (fuel:Nat):GOK Tryz.prog (G198 fuel):=
  gok_nil
def spg198 (F:YF198):Ev.Spec:=fun args objs k=>match args,objs with | [.c (.int .u8 a),.c (.int .u8 b),.c (i6 d)],[]=>F a b d (fun r=>match r with | e=>k (.c (.int .u8 e),[])) | _,_=>none
theorem ok198 (fuel:Nat):FnOK Tryz.prog 198 (spg198 (F_bitmap_combine fuel)):=by
  intro args objs kk r h
  unfold spg198 at h
  split at h
  · skip
    exact fo0 (hG198 fuel) Tryz.func198 rfl (by kernel_rfl) _ _ kk r ((F198_eq fuel _ _ _ kk).trans h)
  · cases h
def kp196 (i:Nat):Option (List Nat):=Ev.look i []
def Gg196 (f:Nat):Option Ev.Spec:=Ev.look f []
def G196 (fuel:Nat):Nat→Option Ev.Spec:=Gg196
def F_bitmap_isShift (fuel:Nat) (a b:Int) (k0:(Bool)→Option Ans):Option Ans:=bif decide ((bif decide (b < a) then b else a)≥(-100000:Int)) then k0 (decide ((bif decide (b > a) then b else a)≤100000)) else k0 false
abbrev YF196:Type:=Int→Int→(Bool→Option Ans)→Option Ans
theorem F196_eq (fuel:Nat) (a b:Int) (k:Ev.Cont):evalFn tab (G196 fuel) J0 kp196 fuel Tryz.f196 [.c (i6 a),.c (i6 b)] [] k=F_bitmap_isShift fuel a b (fun r=>match r with | d=>k (.c (.bool d),[])):=by
  kernel_rfl
theorem hG196 (fuel:Nat):GOK Tryz.prog (G196 fuel):=
  gok_nil
def spg196 (F:YF196):Ev.Spec:=fun args objs k=>match args,objs with | [.c (i6 a),.c (i6 b)],[]=>F a b (fun r=>match r with | d=>k (.c (.bool d),[])) | _,_=>none
theorem ok196 (fuel:Nat):FnOK Tryz.prog 196 (spg196 (F_bitmap_isShift fuel)):=by
  intro args objs kk r h
  unfold spg196 at h
  split at h
  · skip
    exact fo0 (hG196 fuel) Tryz.func196 rfl (by kernel_rfl) _ _ kk r ((F196_eq fuel _ _ kk).trans h)
  · cases h
def kp106 (i:Nat):Option (List Nat):=Ev.look i [(7,[2,3,4,5,6,10,12,45,46]),(10,[2,3,4,5,6,10,12,13,45,46,50,51]),(100001,[10,12]),(100003,[2,3,4,5,6,10,12,45,46]),(200015,[6]),(400001,[10,11]),(400003,[10,11])]
def Gg106 (a:YF122) (b:YF196) (c:YF197) (d:YF198) (e:YF199) (f:Nat):Option Ev.Spec:=Ev.look f [(122,spg122 a),(196,spg196 b),(197,spg197 c),(198,spg198 d),(199,spg199 e)]
def G106 (fuel:Nat):Nat→Option Ev.Spec:=Gg106 (F_bitmap_Valid fuel) (F_bitmap_isShift fuel) (F_bitmap_clone fuel) (F_bitmap_combine fuel) (F_bitmap_at fuel)
abbrev V_bitmap_Draw_3:Type:=Int×Int×Int×Int×Int×Int×Int×Int×Int×Int×LI×Int×Int×LI×Int×Int×Int×Int×LI×LI
abbrev W_bitmap_Draw_3:Type:=(Int×Int×Int×Int×Int×Int×Int×LI×Int×Int×LI×Int×Int×Int×Int×LI×LI→OA)
def Sg_bitmap_Draw_3 (fuel:Nat) (A:YF122) (C:YF196) (D:YF197) (y:YF198) (z:YF199) (e f:Int) (l d:Int) (t u:Int) (v a:Int) (g m:Int) (n:LI) (i j:Int) (k:LI) (o p:Int) (q r:Int) (s h:LI) (c:V_bitmap_Draw_3→OA) (B:W_bitmap_Draw_3):OA:=match B with | b=>bif decide (a < v) then bif decide (i64.wrap (e+a)≥0) then bif decide (i64.wrap (f+d)≥0) then bif decide (i64.wrap (e+a) < g) then bif decide (i64.wrap (f+d) < m) then bif decide (0≤i64.wrap (i64.wrap (i64.wrap (f+d)*g)+i64.wrap (e+a))∧i64.wrap (i64.wrap (i64.wrap (f+d)*g)+i64.wrap (e+a)) < (↑h.length:Int)) then both ((z i j k a d (fun w=>(y (h.getD (i64.wrap (i64.wrap (i64.wrap (f+d)*g)+i64.wrap (e+a))).toNat 0) w l (fun x=>c (e,f,l,d,t,u,v,i64.wrap (a+1),g,m,n,i,j,k,o,p,q,r,s,h.set (i64.wrap (i64.wrap (i64.wrap (f+d)*g)+i64.wrap (e+a))).toNat x)))))) ((z i j k a d (fun w=>(y (h.getD (i64.wrap (i64.wrap (i64.wrap (f+d)*g)+i64.wrap (e+a))).toNat 0) w l (fun x=>c (e,f,l,d,t,u,v,i64.wrap (a+1),g,m,n,i,j,k,o,p,q,r,s,h.set (i64.wrap (i64.wrap (i64.wrap (f+d)*g)+i64.wrap (e+a))).toNat x)))))) else none else c (e,f,l,d,t,u,v,i64.wrap (a+1),g,m,n,i,j,k,o,p,q,r,s,h) else c (e,f,l,d,t,u,v,i64.wrap (a+1),g,m,n,i,j,k,o,p,q,r,s,h) else c (e,f,l,d,t,u,v,i64.wrap (a+1),g,m,n,i,j,k,o,p,q,r,s,h) else c (e,f,l,d,t,u,v,i64.wrap (a+1),g,m,n,i,j,k,o,p,q,r,s,h) else b (e,f,l,t,u,g,m,n,i,j,k,o,p,q,r,s,h)
def S_bitmap_Draw_3 (fuel:Nat) (v:Int×Int×Int×Int×Int×Int×Int×Int×Int×Int×(List Int)×Int×Int×(List Int)×Int×Int×Int×Int×(List Int)×(List Int)) (c:(Int×Int×Int×Int×Int×Int×Int×Int×Int×Int×(List Int)×Int×Int×(List Int)×Int×Int×Int×Int×(List Int)×(List Int))→Option Ans) (B:(Int×Int×Int×Int×Int×Int×Int×(List Int)×Int×Int×(List Int)×Int×Int×Int×Int×(List Int)×(List Int)→Option Ans)):Option Ans:=match v with | (l,m,n,o,p,q,r,s,t,u,a,b,d,e,f,g,h,i,j,k)=>Sg_bitmap_Draw_3 fuel (F_bitmap_Valid fuel) (F_bitmap_isShift fuel) (F_bitmap_clone fuel) (F_bitmap_combine fuel) (F_bitmap_at fuel) l m n o p q r s t u a b d e f g h i j k c B
def L_bitmap_Draw_3 (fuel:Nat) (v:V_bitmap_Draw_3) (b:W_bitmap_Draw_3):Option Ans:=iter (S_bitmap_Draw_3 fuel) fuel v b
def T106_3 (v:V_bitmap_Draw_3):Ev.St:=match v with | (l,m,n,o,p,q,r,s,t,u,a,b,d,e,f,g,h,i,j,k)=>⟨[(2,.c (i6 l)),(3,.c (i6 m)),(4,.c (i6 n)),(5,.c (.ptr 0 0)),(6,.c (.ptr 1 0)),(10,.c (.ptr 2 0)),(12,.c (.ptr 3 0)),(13,.c (i6 o)),(45,.c (i6 p)),(46,.c (i6 q)),(50,.c (i6 r)),(51,.c (i6 s))],[(0,.cells 51 [i6 t,i6 u,.sl (.int .u8) a]),(1,.cells 51 [i6 b,i6 d,.sl (.int .u8) e]),(2,.cells 51 [i6 f,i6 g,.own 4]),(3,.cells 51 [i6 h,i6 i,.own 5]),(4,.vec 5 (.int .u8) j true),(5,.vec 5 (.int .u8) k true)],6,0⟩
def E106_3 (K:KT):W_bitmap_Draw_3:=(fun v=>match v with | (i,j,k,l,m,n,o,p,q,r,a,b,d,e,f,g,h)=>K .normal ⟨[(2,.c (i6 i)),(3,.c (i6 j)),(4,.c (i6 k)),(5,.c (.ptr 0 0)),(6,.c (.ptr 1 0)),(10,.c (.ptr 2 0)),(12,.c (.ptr 3 0)),(45,.c (i6 l)),(46,.c (i6 m))],[(0,.cells 51 [i6 n,i6 o,.sl (.int .u8) p]),(1,.cells 51 [i6 q,i6 r,.sl (.int .u8) a]),(2,.cells 51 [i6 b,i6 d,.own 4]),(3,.cells 51 [i6 e,i6 f,.own 5]),(4,.vec 5 (.int .u8) g true),(5,.vec 5 (.int .u8) h true)],6,0⟩)
theorem S106_3_okg (fuel:Nat) (a:YF122) (b:YF196) (c:YF197) (d:YF198) (e:YF199) (R:Ev.St→OA) (K:KT) (p q:Int) (r s:Int) (t u:Int) (w x:Int) (y z:Int) (f:LI) (g h:Int) (i:LI) (j k:Int) (l m:Int) (n o:LI):evalCode tab (Gg106 a b c d e) J0 kp106 fuel (bodyOf 3 Tryz.f106) (T106_3 (p,q,r,s,t,u,w,x,y,z,f,g,h,i,j,k,l,m,n,o)) (lc kp106 10 3 R K)=Sg_bitmap_Draw_3 fuel a b c d e p q r s t u w x y z f g h i j k l m n o (fun v=>R (T106_3 v)) (E106_3 K):=by
  kernel_rfl
def B106_3 (fuel:Nat):Ev.Blk:=fun st K=>match canonO (kp106 10) st with | some s=>(match s with | ⟨[(N,.c (i6 O)),(P,.c (i6 Q)),(R,.c (i6 S)),(T,.c (.ptr U V)),(W,.c (.ptr X Y)),(Z,.c (.ptr a b)),(d,.c (.ptr e f)),(g,.c (i6 a0)),(h,.c (i6 a1)),(i,.c (i6 a2)),(j,.c (i6 a3)),(k,.c (i6 a4))],[(l,.cells m [i6 a5,i6 a6,.sl (.int .u8) n]),(o,.cells p [i6 q,i6 r,.sl (.int .u8) t]),(u,.cells v [i6 w,i6 x,.own y]),(z,.cells A [i6 B,i6 C,.own D]),(E,.vec F (.int .u8) G true),(H,.vec I (.int .u8) J true)],L,M⟩=>bif qb [N,P,R,T,U,V,W,X,Y,Z,a,b,d,e,f,g,h,i,j,k,l,m,o,p,u,v,y,z,A,D,E,F,H,I,L,M] [2,3,4,5,0,0,6,1,0,10,2,0,12,3,0,13,45,46,50,51,0,51,1,51,2,51,4,3,51,5,4,5,5,5,6,0] then iter (S_bitmap_Draw_3 fuel) fuel (O,Q,S,a0,a1,a2,a3,a4,a5,a6,n,q,r,t,w,x,B,C,G,J) (E106_3 K) else none | _=>none) | none=>none
theorem B106_3_ok (fuel:Nat) (st:Ev.St) (K:KT) (r:Ans) (h:B106_3 fuel st K=some r):evalCode tab (G106 fuel) J0 kp106 fuel (.block 3 (.loop (bodyOf 3 Tryz.f106))) st K=some r:=by
  unfold B106_3 at h
  split at h
  · rename_i s hs
    split at h
    · skip
      obtain ⟨hb,h⟩:=cond_some' h
      cases qb_eq hb
      exact blk_loop (S:=T106_3) (ks:=E106_3) (step:=S_bitmap_Draw_3 fuel) (v:=(_,_,_,_,_,_,_,_,_,_,_,_,_,_,_,_,_,_,_,_)) (by kernel_rfl) (by kernel_rfl) (fun R K v=>by obtain ⟨l,m,n,o,p,q,t,u,w,x,a,b,c,d,e,f,g,i,j,k⟩:=v; exact S106_3_okg fuel (F_bitmap_Valid fuel) (F_bitmap_isShift fuel) (F_bitmap_clone fuel) (F_bitmap_combine fuel) (F_bitmap_at fuel) R K l m n o p q t u w x a b c d e f g i j k) hs h
    · cases h
  · cases h
abbrev V_bitmap_Draw_1:Type:=Int×Int×Int×Int×Int×Int×Int×LI×Int×Int×LI×Int×Int×Int×Int×LI×LI
abbrev W_bitmap_Draw_1:Type:=(Int×Int×Int×Int×LI×LI→OA)
def Sg_bitmap_Draw_1 (fuel:Nat) (L:YF122) (M:YF196) (N:YF197) (O:YF198) (P:YF199) (E F:Int) (G j:Int) (a H I:Int) (J:LI) (k K:Int) (D:LI) (d e:Int) (f g:Int) (h i:LI) (c:V_bitmap_Draw_1→OA) (B:W_bitmap_Draw_1):OA:=match B with | b=>bif decide (a < j) then (L_bitmap_Draw_3 fuel (E,F,G,a,j,a,k,0,H,I,J,k,K,D,d,e,f,g,h,i) (fun (s,t,u,v,w,x,y,z,A,C,l,m,n,o,p,q,r)=>c (s,t,u,v,i64.wrap (w+1),x,y,z,A,C,l,m,n,o,p,q,r))) else b (d,e,f,g,h,i)
def S_bitmap_Draw_1 (fuel:Nat) (v:Int×Int×Int×Int×Int×Int×Int×(List Int)×Int×Int×(List Int)×Int×Int×Int×Int×(List Int)×(List Int)) (c:(Int×Int×Int×Int×Int×Int×Int×(List Int)×Int×Int×(List Int)×Int×Int×Int×Int×(List Int)×(List Int))→Option Ans) (B:(Int×Int×Int×Int×(List Int)×(List Int)→Option Ans)):Option Ans:=match v with | (i,j,k,l,m,n,o,p,q,r,a,b,d,e,f,g,h)=>Sg_bitmap_Draw_1 fuel (F_bitmap_Valid fuel) (F_bitmap_isShift fuel) (F_bitmap_clone fuel) (F_bitmap_combine fuel) (F_bitmap_at fuel) i j k l m n o p q r a b d e f g h c B
def L_bitmap_Draw_1 (fuel:Nat) (v:V_bitmap_Draw_1) (b:W_bitmap_Draw_1):Option Ans:=iter (S_bitmap_Draw_1 fuel) fuel v b
def J106_1 (fuel:Nat) (i:Nat):Option Ev.Blk:=Ev.look i [(100003,B106_3 fuel)]
def T106_1 (v:V_bitmap_Draw_1):Ev.St:=match v with | (i,j,k,l,m,n,o,p,q,r,a,b,d,e,f,g,h)=>⟨[(2,.c (i6 i)),(3,.c (i6 j)),(4,.c (i6 k)),(5,.c (.ptr 0 0)),(6,.c (.ptr 1 0)),(10,.c (.ptr 2 0)),(12,.c (.ptr 3 0)),(45,.c (i6 l)),(46,.c (i6 m))],[(0,.cells 51 [i6 n,i6 o,.sl (.int .u8) p]),(1,.cells 51 [i6 q,i6 r,.sl (.int .u8) a]),(2,.cells 51 [i6 b,i6 d,.own 4]),(3,.cells 51 [i6 e,i6 f,.own 5]),(4,.vec 5 (.int .u8) g true),(5,.vec 5 (.int .u8) h true)],6,0⟩
def E106_1 (K:KT):W_bitmap_Draw_1:=(fun v=>match v with | (a,b,d,e,f,g)=>K .normal ⟨[(10,.c (.ptr 0 0)),(12,.c (.ptr 1 0))],[(0,.cells 51 [i6 a,i6 b,.own 2]),(1,.cells 51 [i6 d,i6 e,.own 3]),(2,.vec 5 (.int .u8) f true),(3,.vec 5 (.int .u8) g true)],4,0⟩)
theorem S106_1_okg (fuel:Nat) (a:YF122) (b:YF196) (c:YF197) (d:YF198) (e:YF199) (R:Ev.St→OA) (K:KT) (m n:Int) (o p:Int) (q r s:Int) (t:LI) (u w:Int) (f:LI) (g h:Int) (i j:Int) (k l:LI):evalCode tab (Gg106 a b c d e) (J106_1 fuel) kp106 fuel (bodyOf 1 Tryz.f106) (T106_1 (m,n,o,p,q,r,s,t,u,w,f,g,h,i,j,k,l)) (lc kp106 7 1 R K)=Sg_bitmap_Draw_1 fuel a b c d e m n o p q r s t u w f g h i j k l (fun v=>R (T106_1 v)) (E106_1 K):=by
  kernel_rfl
def B106_1 (fuel:Nat):Ev.Blk:=fun st K=>match canonO (kp106 7) st with | some s=>(match s with | ⟨[(G,.c (i6 H)),(I,.c (i6 J)),(L,.c (i6 M)),(N,.c (.ptr O P)),(Q,.c (.ptr R S)),(T,.c (.ptr a b)),(d,.c (.ptr e f)),(g,.c (i6 U)),(h,.c (i6 V))],[(i,.cells j [i6 W,i6 X,.sl (.int .u8) Y]),(k,.cells l [i6 Z,i6 a0,.sl (.int .u8) m]),(n,.cells o [i6 p,i6 q,.own r]),(t,.cells u [i6 v,i6 w,.own x]),(y,.vec z (.int .u8) A true),(B,.vec C (.int .u8) D true)],E,F⟩=>bif qb [G,I,L,N,O,P,Q,R,S,T,a,b,d,e,f,g,h,i,j,k,l,n,o,r,t,u,x,y,z,B,C,E,F] [2,3,4,5,0,0,6,1,0,10,2,0,12,3,0,45,46,0,51,1,51,2,51,4,3,51,5,4,5,5,5,6,0] then iter (S_bitmap_Draw_1 fuel) fuel (H,J,M,U,V,W,X,Y,Z,a0,m,p,q,v,w,A,D) (E106_1 K) else none | _=>none) | none=>none
theorem B106_1_ok (fuel:Nat) (st:Ev.St) (K:KT) (r:Ans) (h:B106_1 fuel st K=some r):evalCode tab (G106 fuel) (J106_1 fuel) kp106 fuel (.block 1 (.loop (bodyOf 1 Tryz.f106))) st K=some r:=by
  unfold B106_1 at h
  split at h
  · rename_i s hs
    split at h
    · skip
      obtain ⟨hb,h⟩:=cond_some' h
      cases qb_eq hb
      exact blk_loop (S:=T106_1) (ks:=E106_1) (step:=S_bitmap_Draw_1 fuel) (v:=(_,_,_,_,_,_,_,_,_,_,_,_,_,_,_,_,_)) (by kernel_rfl) (by kernel_rfl) (fun R K v=>by obtain ⟨i,j,k,l,m,n,o,p,q,t,a,b,c,d,e,f,g⟩:=v; exact S106_1_okg fuel (F_bitmap_Valid fuel) (F_bitmap_isShift fuel) (F_bitmap_clone fuel) (F_bitmap_combine fuel) (F_bitmap_at fuel) R K i j k l m n o p q t a b c d e f g) hs h
    · cases h
  · cases h
def J106 (fuel:Nat) (i:Nat):Option Ev.Blk:=Ev.look i [(100003,B106_3 fuel),(100001,B106_1 fuel)]
def Fg_bitmap_Draw (fuel:Nat) (f:YF122) (n:YF196) (o:YF197) (v:YF198) (w:YF199) (a b:Int) (c:LI) (g d:Int) (h:LI) (i j e:Int) (k0:(Int×Int×Int×LI)→OA):OA:=(f a b c (fun t=>bif !t then k0 (0,0,30,[]) else (f g d h (fun u=>bif !u then k0 (0,0,30,[]) else bif decide (e < 0) then k0 (0,0,2,[]) else bif decide (e > 4) then k0 (0,0,2,[]) else (n i j (fun s=>bif !s then k0 (0,0,2,[]) else (o a b c (fun (k,l,m)=>(L_bitmap_Draw_1 fuel (i,j,e,d,0,a,b,c,g,d,h,0,0,k,l,[],m) (fun (x,y,p,q,z,r)=>k0 (p,q,0,r)))))))))))
abbrev YF106:Type:=Int→Int→LI→Int→Int→LI→Int→Int→Int→((Int×Int×Int×LI)→Option Ans)→Option Ans
def F_bitmap_Draw (fuel:Nat):YF106:=Fg_bitmap_Draw fuel (F_bitmap_Valid fuel) (F_bitmap_isShift fuel) (F_bitmap_clone fuel) (F_bitmap_combine fuel) (F_bitmap_at fuel)
theorem F106_eqg (fuel:Nat) (a:YF122) (b:YF196) (d:YF197) (e:YF198) (f:YF199) (g h:Int) (i:LI) (j l:Int) (m:LI) (n o p:Int) (k:Ev.Cont):evalFn tab (Gg106 a b d e f) (J106 fuel) kp106 fuel Tryz.f106 [.agg [i6 g,i6 h,.sl (.int .u8) i],.agg [i6 j,i6 l,.sl (.int .u8) m],.c (i6 n),.c (i6 o),.c (i6 p)] [] k=Fg_bitmap_Draw fuel a b d e f g h i j l m n o p (fun r=>match r with | (q,s,t,u)=>k (.tup [(true,[i6 q,i6 s,.own 0]),(false,[i6 t])],[.vec 5 (.int .u8) u true])):=by
  kernel_rfl
theorem hG106 (fuel:Nat):GOK Tryz.prog (G106 fuel):=
  gc (ok122 fuel) Tryz.func122 (by kernel_rfl) rfl <|
  gc (ok196 fuel) Tryz.func196 (by kernel_rfl) rfl <|
  gc (ok197 fuel) Tryz.func197 (by kernel_rfl) rfl <|
  gc (ok198 fuel) Tryz.func198 (by kernel_rfl) rfl <|
  gc (ok199 fuel) Tryz.func199 (by kernel_rfl) rfl <|
  gok_nil
theorem B106_3_blk (fuel:Nat):BlkOK Tryz.prog Tryz.f106.ntmps (.block 3 (.loop (bodyOf 3 Tryz.f106))) (B106_3 fuel):=bo0 (hG106 fuel) (by kernel_rfl) (by kernel_rfl) (B106_3_ok fuel)
theorem B106_1_blk (fuel:Nat):BlkOK Tryz.prog Tryz.f106.ntmps (.block 1 (.loop (bodyOf 1 Tryz.f106))) (B106_1 fuel):=
  blk_of (blk_of_code tab_ok (hG106 fuel) mixed (J:=J106_1 fuel) (kp:=kp106) (fuel:=fuel) (by kernel_rfl) (fun q hq=>by
    rw [(by kernel_rfl:obl (J106_1 fuel) (.block 1 (.loop (bodyOf 1 Tryz.f106)))= [(.block 3 (.loop (bodyOf 3 Tryz.f106)),B106_3 fuel)])] at hq
    simp only [List.mem_cons,List.not_mem_nil,or_false] at hq
    subst hq
    · exact B106_3_blk fuel)) (B106_1_ok fuel)
def spg106 (F:YF106):Ev.Spec:=fun args objs k=>match args,objs with | [.agg [i6 a,i6 b,.sl (.int .u8) d],.agg [i6 e,i6 f,.sl (.int .u8) g],.c (i6 h),.c (i6 i),.c (i6 j)],[]=>F a b d e f g h i j (fun r=>match r with | (l,m,n,o)=>k (.tup [(true,[i6 l,i6 m,.own 0]),(false,[i6 n])],[.vec 5 (.int .u8) o true])) | _,_=>none
theorem ok106 (fuel:Nat):FnOK Tryz.prog 106 (spg106 (F_bitmap_Draw fuel)):=by
  intro args objs kk r h
  unfold spg106 at h
  split at h
  · skip
    exact fo1 (hG106 fuel) Tryz.func106 rfl (B106_1_blk fuel) (by kernel_rfl) _ _ kk r ((F106_eqg fuel (F_bitmap_Valid fuel) (F_bitmap_isShift fuel) (F_bitmap_clone fuel) (F_bitmap_combine fuel) (F_bitmap_at fuel) _ _ _ _ _ _ _ _ _ kk).trans h)
  · cases h
def kp195 (i:Nat):Option (List Nat):=Ev.look i []
def Gg195 (a:YF212) (f:Nat):Option Ev.Spec:=Ev.look f [(212,spg212 a)]
def G195 (fuel:Nat):Nat→Option Ev.Spec:=Gg195 (F_bitmap_fits fuel)
def Fg_bitmap_blank (fuel:Nat) (c:YF212) (a b:Int) (k0:(Int×Int×Int×LI)→OA):OA:=(c a b (fun d=>bif !d then k0 (0,0,4,[]) else bif decide (0≤i64.wrap (a*b)∧i64.wrap (a*b)=i64.wrap (a*b)∧(↑(1:Nat):Int)*i64.wrap (a*b)≤281474976710656∧i64.wrap (a*b)≤281474976710656) then k0 (a,b,0,List.replicate (i64.wrap (a*b)).toNat (0:Int)) else none))
abbrev YF195:Type:=Int→Int→((Int×Int×Int×LI)→Option Ans)→Option Ans
def F_bitmap_blank (fuel:Nat):YF195:=Fg_bitmap_blank fuel (F_bitmap_fits fuel)
theorem F195_eqg (fuel:Nat) (a:YF212) (b d:Int) (k:Ev.Cont):evalFn tab (Gg195 a) J0 kp195 fuel Tryz.f195 [.c (i6 b),.c (i6 d)] [] k=Fg_bitmap_blank fuel a b d (fun r=>match r with | (e,f,g,h)=>k (.tup [(true,[i6 e,i6 f,.own 0]),(false,[i6 g])],[.vec 5 (.int .u8) h true])):=by
  kernel_rfl
theorem hG195 (fuel:Nat):GOK Tryz.prog (G195 fuel):=
  gc (ok212 fuel) Tryz.func212 (by kernel_rfl) rfl <|
  gok_nil
def spg195 (F:YF195):Ev.Spec:=fun args objs k=>match args,objs with | [.c (i6 a),.c (i6 b)],[]=>F a b (fun r=>match r with | (d,e,f,g)=>k (.tup [(true,[i6 d,i6 e,.own 0]),(false,[i6 f])],[.vec 5 (.int .u8) g true])) | _,_=>none
theorem ok195 (fuel:Nat):FnOK Tryz.prog 195 (spg195 (F_bitmap_blank fuel)):=by
  intro args objs kk r h
  unfold spg195 at h
  split at h
  · skip
    exact fo0 (hG195 fuel) Tryz.func195 rfl (by kernel_rfl) _ _ kk r ((F195_eqg fuel (F_bitmap_fits fuel) _ _ kk).trans h)
  · cases h
def kp105 (i:Nat):Option (List Nat):=Ev.look i [(5,[2,6,8,9,34,35]),(100000,[6,8,9]),(400000,[6,7])]
def Gg105 (a:YF195) (f:Nat):Option Ev.Spec:=Ev.look f [(195,spg195 a)]
def G105 (fuel:Nat):Nat→Option Ev.Spec:=Gg105 (F_bitmap_blank fuel)
abbrev V_bitmap_New_0:Type:=Int×Int×Int×Int×Int×Int×Int×Int×LI×LI
abbrev W_bitmap_New_0:Type:=(Int×Int×Int×Int×Int×LI×LI→OA)
def Sg_bitmap_New_0 (fuel:Nat) (m:YF195) (e f:Int) (g a:Int) (h i:Int) (j k:Int) (l d:LI) (c:V_bitmap_New_0→OA) (B:W_bitmap_New_0):OA:=match B with | b=>bif decide (a < g) then bif decide (0≤a∧a < (↑d.length:Int)) then c (e,f,g,i64.wrap (a+1),h,i,j,k,l,d.set a.toNat (u8.wrap e)) else none else b (f,h,i,j,k,l,d)
def S_bitmap_New_0 (fuel:Nat) (v:Int×Int×Int×Int×Int×Int×Int×Int×(List Int)×(List Int)) (c:(Int×Int×Int×Int×Int×Int×Int×Int×(List Int)×(List Int))→Option Ans) (B:(Int×Int×Int×Int×Int×(List Int)×(List Int)→Option Ans)):Option Ans:=match v with | (a,b,d,e,f,g,h,i,j,k)=>Sg_bitmap_New_0 fuel (F_bitmap_blank fuel) a b d e f g h i j k c B
def L_bitmap_New_0 (fuel:Nat) (v:V_bitmap_New_0) (b:W_bitmap_New_0):Option Ans:=iter (S_bitmap_New_0 fuel) fuel v b
def T105_0 (v:V_bitmap_New_0):Ev.St:=match v with | (a,b,d,e,f,g,h,i,j,k)=>⟨[(2,.c (i6 a)),(6,.c (.ptr 0 0)),(8,.c (.ptr 1 0)),(9,.c (i6 b)),(34,.c (i6 d)),(35,.c (i6 e))],[(0,.cells 51 [i6 f,i6 g,.own 2]),(1,.cells 51 [i6 h,i6 i,.own 3]),(2,.vec 5 (.int .u8) j true),(3,.vec 5 (.int .u8) k true)],4,0⟩
def E105_0 (K:KT):W_bitmap_New_0:=(fun v=>match v with | (a,b,d,e,f,g,h)=>K .normal ⟨[(6,.c (.ptr 0 0)),(8,.c (.ptr 1 0)),(9,.c (i6 a))],[(0,.cells 51 [i6 b,i6 d,.own 2]),(1,.cells 51 [i6 e,i6 f,.own 3]),(2,.vec 5 (.int .u8) g true),(3,.vec 5 (.int .u8) h true)],4,0⟩)
theorem S105_0_okg (fuel:Nat) (a:YF195) (R:Ev.St→OA) (K:KT) (b c:Int) (d e:Int) (f g:Int) (h i:Int) (j k:LI):evalCode tab (Gg105 a) J0 kp105 fuel (bodyOf 0 Tryz.f105) (T105_0 (b,c,d,e,f,g,h,i,j,k)) (lc kp105 5 0 R K)=Sg_bitmap_New_0 fuel a b c d e f g h i j k (fun v=>R (T105_0 v)) (E105_0 K):=by
  kernel_rfl
def B105_0 (fuel:Nat):Ev.Blk:=fun st K=>match canonO (kp105 5) st with | some s=>(match s with | ⟨[(n,.c (i6 o)),(p,.c (.ptr q r)),(t,.c (.ptr u v)),(w,.c (i6 x)),(y,.c (i6 z)),(A,.c (i6 B))],[(a,.cells b [i6 C,i6 D,.own d]),(e,.cells f [i6 E,i6 F,.own g]),(h,.vec i (.int .u8) G true),(j,.vec k (.int .u8) H true)],l,m⟩=>bif qb [n,p,q,r,t,u,v,w,y,A,a,b,d,e,f,g,h,i,j,k,l,m] [2,6,0,0,8,1,0,9,34,35,0,51,2,1,51,3,2,5,3,5,4,0] then iter (S_bitmap_New_0 fuel) fuel (o,x,z,B,C,D,E,F,G,H) (E105_0 K) else none | _=>none) | none=>none
theorem B105_0_ok (fuel:Nat) (st:Ev.St) (K:KT) (r:Ans) (h:B105_0 fuel st K=some r):evalCode tab (G105 fuel) J0 kp105 fuel (.block 0 (.loop (bodyOf 0 Tryz.f105))) st K=some r:=by
  unfold B105_0 at h
  split at h
  · rename_i s hs
    split at h
    · skip
      obtain ⟨hb,h⟩:=cond_some' h
      cases qb_eq hb
      exact blk_loop (S:=T105_0) (ks:=E105_0) (step:=S_bitmap_New_0 fuel) (v:=(_,_,_,_,_,_,_,_,_,_)) (by kernel_rfl) (by kernel_rfl) (fun R K v=>by obtain ⟨a,b,c,d,e,f,g,i,j,k⟩:=v; exact S105_0_okg fuel (F_bitmap_blank fuel) R K a b c d e f g i j k) hs h
    · cases h
  · cases h
def J105 (fuel:Nat) (i:Nat):Option Ev.Blk:=Ev.look i [(100000,B105_0 fuel)]
def Fg_bitmap_New (fuel:Nat) (h:YF195) (f g a:Int) (k0:(Int×Int×Int×LI)→OA):OA:=bif decide (f < 0) then k0 (0,0,2,[]) else bif decide (g < 0) then k0 (0,0,2,[]) else bif a != 0 then bif a != 1 then k0 (0,0,2,[]) else (h f g (fun (k,l,m,i)=>(L_bitmap_New_0 fuel (a,m,(↑i.length:Int),0,0,0,k,l,[],i) (fun (b,n,o,c,d,p,e)=>k0 (c,d,b,e))))) else (h f g (fun (q,r,s,j)=>(L_bitmap_New_0 fuel (a,s,(↑j.length:Int),0,0,0,q,r,[],j) (fun (b,n,o,c,d,p,e)=>k0 (c,d,b,e)))))
abbrev YF105:Type:=Int→Int→Int→((Int×Int×Int×LI)→Option Ans)→Option Ans
def F_bitmap_New (fuel:Nat):YF105:=Fg_bitmap_New fuel (F_bitmap_blank fuel)
theorem F105_eqg (fuel:Nat) (a:YF195) (b d e:Int) (k:Ev.Cont):evalFn tab (Gg105 a) (J105 fuel) kp105 fuel Tryz.f105 [.c (i6 b),.c (i6 d),.c (i6 e)] [] k=Fg_bitmap_New fuel a b d e (fun r=>match r with | (f,g,h,i)=>k (.tup [(true,[i6 f,i6 g,.own 0]),(false,[i6 h])],[.vec 5 (.int .u8) i true])):=by
  kernel_rfl
theorem hG105 (fuel:Nat):GOK Tryz.prog (G105 fuel):=
  gc (ok195 fuel) Tryz.func195 (by kernel_rfl) rfl <|
  gok_nil
theorem B105_0_blk (fuel:Nat):BlkOK Tryz.prog Tryz.f105.ntmps (.block 0 (.loop (bodyOf 0 Tryz.f105))) (B105_0 fuel):=bo0 (hG105 fuel) (by kernel_rfl) (by kernel_rfl) (B105_0_ok fuel)
def spg105 (F:YF105):Ev.Spec:=fun args objs k=>match args,objs with | [.c (i6 a),.c (i6 b),.c (i6 d)],[]=>F a b d (fun r=>match r with | (e,f,g,h)=>k (.tup [(true,[i6 e,i6 f,.own 0]),(false,[i6 g])],[.vec 5 (.int .u8) h true])) | _,_=>none
theorem ok105 (fuel:Nat):FnOK Tryz.prog 105 (spg105 (F_bitmap_New fuel)):=by
  intro args objs kk r h
  unfold spg105 at h
  split at h
  · skip
    exact fo1 (hG105 fuel) Tryz.func105 rfl (B105_0_blk fuel) (by kernel_rfl) _ _ kk r ((F105_eqg fuel (F_bitmap_blank fuel) _ _ _ kk).trans h)
  · cases h
def kp107 (i:Nat):Option (List Nat):=Ev.look i []
def Gg107 (f:Nat):Option Ev.Spec:=Ev.look f []
def G107 (fuel:Nat):Nat→Option Ev.Spec:=Gg107
def F_text_drawn (fuel:Nat) (b:(List (Int×Int×(List Int)))) (a g h:Int) (c:Bool) (i j:Int) (d e:Int) (f:(List Int)) (k0:(Int×Int×(List Int))→Option Ans):Option Ans:=bif c then k0 (d,e,f) else bif decide (0≤a∧a < (↑b.length:Int)) then k0 ((b.getD a.toNat (0,0,[])).fst,(b.getD a.toNat (0,0,[])).snd.fst,(b.getD a.toNat (0,0,[])).snd.snd) else none
abbrev YF107:Type:=((List (Int×Int×LI)))→Int→Int→Int→Bool→Int→Int→Int→Int→LI→((Int×Int×LI)→Option Ans)→Option Ans
theorem F107_eq (fuel:Nat) (a:(List (Int×Int×LI))) (b d e:Int) (f:Bool) (g h:Int) (i j:Int) (l:LI) (k:Ev.Cont):evalFn tab (G107 fuel) J0 kp107 fuel Tryz.f107 [.c (.sl (.pair (.int .i64) (.pair (.int .i64) (.sl (.int .u8)))) a),.agg [i6 b,i6 d,i6 e,.bool f,i6 g,i6 h,i6 i,i6 j,.sl (.int .u8) l]] [] k=F_text_drawn fuel a b d e f g h i j l (fun r=>match r with | (m,n,o)=>k (.agg [i6 m,i6 n,.sl (.int .u8) o],[])):=by
  kernel_rfl
theorem hG107 (fuel:Nat):GOK Tryz.prog (G107 fuel):=
  gok_nil
def spg107 (F:YF107):Ev.Spec:=fun args objs k=>match args,objs with | [.c (.sl (.pair (.int .i64) (.pair (.int .i64) (.sl (.int .u8)))) a),.agg [i6 b,i6 d,i6 e,.bool f,i6 g,i6 h,i6 i,i6 j,.sl (.int .u8) l]],[]=>F a b d e f g h i j l (fun r=>match r with | (m,n,o)=>k (.agg [i6 m,i6 n,.sl (.int .u8) o],[])) | _,_=>none
theorem ok107 (fuel:Nat):FnOK Tryz.prog 107 (spg107 (F_text_drawn fuel)):=by
  intro args objs kk r h
  unfold spg107 at h
  split at h
  · skip
    exact fo0 (hG107 fuel) Tryz.func107 rfl (by kernel_rfl) _ _ kk r ((F107_eq fuel _ _ _ _ _ _ _ _ _ _ kk).trans h)
  · cases h
def kp103 (i:Nat):Option (List Nat):=Ev.look i []
def Gg103 (f:Nat):Option Ev.Spec:=Ev.look f []
def G103 (fuel:Nat):Nat→Option Ev.Spec:=Gg103
def F_text_corner (fuel:Nat) (e a:Int) (f:Bool) (g h i:Int) (j:Bool) (k b c:Int) (d:(List Int)) (k0:(Int×Int)→Option Ans):Option Ans:=bif a.tmod (2:Int)==(1:Int) then bif decide (a≥2) then k0 (i64.wrap (b - 1),i64.wrap (c - 1)) else k0 (i64.wrap (b - 1),0) else bif decide (a≥2) then k0 (0,i64.wrap (c - 1)) else k0 (0,0)
abbrev YF103:Type:=Int→Int→Bool→Int→Int→Int→Bool→Int→Int→Int→LI→((Int×Int)→Option Ans)→Option Ans
theorem F103_eq (fuel:Nat) (b c:Int) (d:Bool) (e f g:Int) (h:Bool) (i j l:Int) (a:LI) (k:Ev.Cont):evalFn tab (G103 fuel) J0 kp103 fuel Tryz.f103 [.agg [i6 b,i6 c,.bool d,i6 e,i6 f,i6 g,.bool h,i6 i],.agg [i6 j,i6 l,.sl (.int .u8) a]] [] k=F_text_corner fuel b c d e f g h i j l a (fun r=>match r with | (m,n)=>k (.tup [(false,[i6 m]),(false,[i6 n])],[])):=by
  kernel_rfl
theorem hG103 (fuel:Nat):GOK Tryz.prog (G103 fuel):=
  gok_nil
def spg103 (F:YF103):Ev.Spec:=fun args objs k=>match args,objs with | [.agg [i6 b,i6 c,.bool d,i6 e,i6 f,i6 g,.bool h,i6 i],.agg [i6 j,i6 l,.sl (.int .u8) a]],[]=>F b c d e f g h i j l a (fun r=>match r with | (m,n)=>k (.tup [(false,[i6 m]),(false,[i6 n])],[])) | _,_=>none
theorem ok103 (fuel:Nat):FnOK Tryz.prog 103 (spg103 (F_text_corner fuel)):=by
  intro args objs kk r h
  unfold spg103 at h
  split at h
  · skip
    exact fo0 (hG103 fuel) Tryz.func103 rfl (by kernel_rfl) _ _ kk r ((F103_eq fuel _ _ _ _ _ _ _ _ _ _ _ kk).trans h)
  · cases h
def kp99 (i:Nat):Option (List Nat):=Ev.look i [(200001,[5]),(200004,[3,5])]
def Gg99 (a:YF103) (b:YF107) (f:Nat):Option Ev.Spec:=Ev.look f [(103,spg103 a),(107,spg107 b)]
def G99 (fuel:Nat):Nat→Option Ev.Spec:=Gg99 (F_text_corner fuel) (F_text_drawn fuel)
def Fg_text_place (fuel:Nat) (i:YF103) (j:YF107) (q r:Int) (h:Bool) (s t u:Int) (v:Bool) (w:Int) (x:(List (Int×Int×LI))) (y a b:Int) (k:Bool) (l m:Int) (n o:Int) (p:LI) (k0:(Int×Int)→OA):OA:=bif h then (j x y a b k l m n o p (fun (c,d,e)=>(i q r h s t u v w c d e (fun (f,g)=>k0 (i64.wrap (b - f),i64.wrap (a - g)))))) else (j x y a b k l m n o p (fun (c,d,e)=>(i q r h s t u v w c d e (fun (f,g)=>k0 (i64.wrap (a - f),i64.wrap (b - g))))))
abbrev YF99:Type:=Int→Int→Bool→Int→Int→Int→Bool→Int→((List (Int×Int×LI)))→Int→Int→Int→Bool→Int→Int→Int→Int→LI→((Int×Int)→Option Ans)→Option Ans
def F_text_place (fuel:Nat):YF99:=Fg_text_place fuel (F_text_corner fuel) (F_text_drawn fuel)
theorem F99_eqg (fuel:Nat) (a:YF103) (b:YF107) (m n:Int) (o:Bool) (p q s:Int) (t:Bool) (u:Int) (v:(List (Int×Int×LI))) (w d e:Int) (f:Bool) (g h:Int) (i j:Int) (l:LI) (k:Ev.Cont):evalFn tab (Gg99 a b) J0 kp99 fuel Tryz.f99 [.agg [i6 m,i6 n,.bool o,i6 p,i6 q,i6 s,.bool t,i6 u],.c (.sl (.pair (.int .i64) (.pair (.int .i64) (.sl (.int .u8)))) v),.agg [i6 w,i6 d,i6 e,.bool f,i6 g,i6 h,i6 i,i6 j,.sl (.int .u8) l]] [] k=Fg_text_place fuel a b m n o p q s t u v w d e f g h i j l (fun r=>match r with | (x,y)=>k (.tup [(false,[i6 x]),(false,[i6 y])],[])):=by
  kernel_rfl
theorem hG99 (fuel:Nat):GOK Tryz.prog (G99 fuel):=
  gc (ok103 fuel) Tryz.func103 (by kernel_rfl) rfl <|
  gc (ok107 fuel) Tryz.func107 (by kernel_rfl) rfl <|
  gok_nil
def spg99 (F:YF99):Ev.Spec:=fun args objs k=>match args,objs with | [.agg [i6 j,i6 l,.bool m,i6 n,i6 o,i6 p,.bool q,i6 s],.c (.sl (.pair (.int .i64) (.pair (.int .i64) (.sl (.int .u8)))) t),.agg [i6 u,i6 a,i6 b,.bool d,i6 e,i6 f,i6 g,i6 h,.sl (.int .u8) i]],[]=>F j l m n o p q s t u a b d e f g h i (fun r=>match r with | (v,w)=>k (.tup [(false,[i6 v]),(false,[i6 w])],[])) | _,_=>none
theorem ok99 (fuel:Nat):FnOK Tryz.prog 99 (spg99 (F_text_place fuel)):=by
  intro args objs kk r h
  unfold spg99 at h
  split at h
  · skip
    exact fo0 (hG99 fuel) Tryz.func99 rfl (by kernel_rfl) _ _ kk r ((F99_eqg fuel (F_text_corner fuel) (F_text_drawn fuel) _ _ _ _ _ _ _ _ _ _ _ _ _ _ _ _ _ _ kk).trans h)
  · cases h
def kp36 (i:Nat):Option (List Nat):=Ev.look i [(10,[1,5,10,13,47,48,49]),(100001,[10,13]),(200013,[5,13,16]),(400001,[10,11])]
def Gg36 (d:YF73) (e:YF77) (g:YF99) (a:YF105) (b:YF106) (c:YF107) (f:Nat):Option Ev.Spec:=Ev.look f [(73,spg73 d),(77,spg77 e),(99,spg99 g),(105,spg105 a),(106,spg106 b),(107,spg107 c)]
def G36 (fuel:Nat):Nat→Option Ev.Spec:=Gg36 (F_text_begun fuel) (F_text_right fuel) (F_text_place fuel) (F_bitmap_New fuel) (F_bitmap_Draw fuel) (F_text_drawn fuel)
abbrev V_text_Render_1:Type:=(List (Int×(Int×LI)))×(List (Int×(Int×(Int×(Bool×(Int×(Int×(Int×(Int×LI)))))))))×Int×Int×Int×Int×Bool×Int×Int×Int×Bool×Int×Int×Int×Int×Int×LI×LI
abbrev W_text_Render_1:Type:=(Int×Int×Int×Int×LI×LI→OA)
def Sg_text_Render_1 (fuel:Nat) (M:YF73) (N:YF77) (K:YF99) (L:YF105) (C:YF106) (F:YF107) (f:(List (Int×(Int×LI)))) (d:(List (Int×(Int×(Int×(Bool×(Int×(Int×(Int×(Int×LI)))))))))) (o a:Int) (p q:Int) (r:Bool) (s e t:Int) (g:Bool) (h i:Int) (j k l:Int) (m n:LI) (c:V_text_Render_1→OA) (B:W_text_Render_1):OA:=match B with | b=>bif decide (a < o) then bif decide (0≤a∧a < (↑d.length:Int)) then (K p q r s e t g h f ((d.getD a.toNat (0,0,0,false,0,0,0,0,[])).fst) ((d.getD a.toNat (0,0,0,false,0,0,0,0,[])).snd.fst) ((d.getD a.toNat (0,0,0,false,0,0,0,0,[])).snd.snd.fst) ((d.getD a.toNat (0,0,0,false,0,0,0,0,[])).snd.snd.snd.fst) ((d.getD a.toNat (0,0,0,false,0,0,0,0,[])).snd.snd.snd.snd.fst) ((d.getD a.toNat (0,0,0,false,0,0,0,0,[])).snd.snd.snd.snd.snd.fst) ((d.getD a.toNat (0,0,0,false,0,0,0,0,[])).snd.snd.snd.snd.snd.snd.fst) ((d.getD a.toNat (0,0,0,false,0,0,0,0,[])).snd.snd.snd.snd.snd.snd.snd.fst) ((d.getD a.toNat (0,0,0,false,0,0,0,0,[])).snd.snd.snd.snd.snd.snd.snd.snd) (fun (D,E)=>both ((F f ((d.getD a.toNat (0,0,0,false,0,0,0,0,[])).fst) ((d.getD a.toNat (0,0,0,false,0,0,0,0,[])).snd.fst) ((d.getD a.toNat (0,0,0,false,0,0,0,0,[])).snd.snd.fst) ((d.getD a.toNat (0,0,0,false,0,0,0,0,[])).snd.snd.snd.fst) ((d.getD a.toNat (0,0,0,false,0,0,0,0,[])).snd.snd.snd.snd.fst) ((d.getD a.toNat (0,0,0,false,0,0,0,0,[])).snd.snd.snd.snd.snd.fst) ((d.getD a.toNat (0,0,0,false,0,0,0,0,[])).snd.snd.snd.snd.snd.snd.fst) ((d.getD a.toNat (0,0,0,false,0,0,0,0,[])).snd.snd.snd.snd.snd.snd.snd.fst) ((d.getD a.toNat (0,0,0,false,0,0,0,0,[])).snd.snd.snd.snd.snd.snd.snd.snd) (fun (u,v,w)=>both ((C k l n u v w D E e (fun (x,y,z,A)=>bif z==0 then c (f,d,o,i64.wrap (a+1),p,q,r,s,e,t,g,h,i,j,x,y,m,A) else c (f,d,o,i64.wrap (a+1),p,q,r,s,e,t,g,h,i,j,k,l,m,n)))) ((C k l n u v w D E e (fun (x,y,z,A)=>bif z==0 then c (f,d,o,i64.wrap (a+1),p,q,r,s,e,t,g,h,i,j,x,y,m,A) else c (f,d,o,i64.wrap (a+1),p,q,r,s,e,t,g,h,i,j,k,l,m,n))))))) ((F f ((d.getD a.toNat (0,0,0,false,0,0,0,0,[])).fst) ((d.getD a.toNat (0,0,0,false,0,0,0,0,[])).snd.fst) ((d.getD a.toNat (0,0,0,false,0,0,0,0,[])).snd.snd.fst) ((d.getD a.toNat (0,0,0,false,0,0,0,0,[])).snd.snd.snd.fst) ((d.getD a.toNat (0,0,0,false,0,0,0,0,[])).snd.snd.snd.snd.fst) ((d.getD a.toNat (0,0,0,false,0,0,0,0,[])).snd.snd.snd.snd.snd.fst) ((d.getD a.toNat (0,0,0,false,0,0,0,0,[])).snd.snd.snd.snd.snd.snd.fst) ((d.getD a.toNat (0,0,0,false,0,0,0,0,[])).snd.snd.snd.snd.snd.snd.snd.fst) ((d.getD a.toNat (0,0,0,false,0,0,0,0,[])).snd.snd.snd.snd.snd.snd.snd.snd) (fun (u,v,w)=>(C k l n u v w D E e (fun (G,H,I,J)=>bif I==0 then c (f,d,o,i64.wrap (a+1),p,q,r,s,e,t,g,h,i,j,G,H,m,J) else c (f,d,o,i64.wrap (a+1),p,q,r,s,e,t,g,h,i,j,k,l,m,n)))))))) else none else b (i,j,k,l,m,n)
def S_text_Render_1 (fuel:Nat) (v:(List (Int×(Int×(List Int))))×(List (Int×(Int×(Int×(Bool×(Int×(Int×(Int×(Int×(List Int))))))))))×Int×Int×Int×Int×Bool×Int×Int×Int×Bool×Int×Int×Int×Int×Int×(List Int)×(List Int)) (c:((List (Int×(Int×(List Int))))×(List (Int×(Int×(Int×(Bool×(Int×(Int×(Int×(Int×(List Int))))))))))×Int×Int×Int×Int×Bool×Int×Int×Int×Bool×Int×Int×Int×Int×Int×(List Int)×(List Int))→Option Ans) (B:(Int×Int×Int×Int×(List Int)×(List Int)→Option Ans)):Option Ans:=match v with | (j,k,l,m,n,o,p,q,r,s,a,b,d,e,f,g,h,i)=>Sg_text_Render_1 fuel (F_text_begun fuel) (F_text_right fuel) (F_text_place fuel) (F_bitmap_New fuel) (F_bitmap_Draw fuel) (F_text_drawn fuel) j k l m n o p q r s a b d e f g h i c B
def L_text_Render_1 (fuel:Nat) (v:V_text_Render_1) (b:W_text_Render_1):Option Ans:=iter (S_text_Render_1 fuel) fuel v b
def T36_1 (v:V_text_Render_1):Ev.St:=match v with | (j,k,l,m,n,o,p,q,r,s,a,b,d,e,f,g,h,i)=>⟨[(1,.c (.sl (.pair (.int .i64) (.pair (.int .i64) (.sl (.int .u8)))) j)),(5,.c (.ptr 0 0)),(10,.c (.ptr 1 0)),(13,.c (.ptr 2 0)),(47,.c (.sl (.pair (.int .i64) (.pair (.int .i64) (.pair (.int .i64) (.pair .bool (.pair (.int .i64) (.pair (.int .i64) (.pair (.int .i64) (.pair (.int .i64) (.sl (.int .u8)))))))))) k)),(48,.c (i6 l)),(49,.c (i6 m))],[(0,.cells 40 [i6 n,i6 o,.bool p,i6 q,i6 r,i6 s,.bool a,i6 b]),(1,.cells 51 [i6 d,i6 e,.own 3]),(2,.cells 51 [i6 f,i6 g,.own 4]),(3,.vec 5 (.int .u8) h true),(4,.vec 5 (.int .u8) i true)],5,0⟩
def E36_1 (K:KT):W_text_Render_1:=(fun v=>match v with | (a,b,d,e,f,g)=>K .normal ⟨[(10,.c (.ptr 0 0)),(13,.c (.ptr 1 0))],[(0,.cells 51 [i6 a,i6 b,.own 2]),(1,.cells 51 [i6 d,i6 e,.own 3]),(2,.vec 5 (.int .u8) f true),(3,.vec 5 (.int .u8) g true)],4,0⟩)
theorem S36_1_okg (fuel:Nat) (d:YF73) (e:YF77) (f:YF99) (a:YF105) (b:YF106) (c:YF107) (R:Ev.St→OA) (K:KT) (o:(List (Int×(Int×LI)))) (p:(List (Int×(Int×(Int×(Bool×(Int×(Int×(Int×(Int×LI)))))))))) (q r:Int) (s t:Int) (u:Bool) (w x y:Int) (g:Bool) (h i:Int) (j k l:Int) (m n:LI):evalCode tab (Gg36 d e f a b c) J0 kp36 fuel (bodyOf 1 Tryz.f36) (T36_1 (o,p,q,r,s,t,u,w,x,y,g,h,i,j,k,l,m,n)) (lc kp36 10 1 R K)=Sg_text_Render_1 fuel d e f a b c o p q r s t u w x y g h i j k l m n (fun v=>R (T36_1 v)) (E36_1 K):=by
  kernel_rfl
def B36_1 (fuel:Nat):Ev.Blk:=fun st K=>match canonO (kp36 10) st with | some s=>(match s with | ⟨[(B,.c (.sl (.pair (.int .i64) (.pair (.int .i64) (.sl (.int .u8)))) C)),(D,.c (.ptr E F)),(G,.c (.ptr H I)),(J,.c (.ptr L M)),(a,.c (.sl (.pair (.int .i64) (.pair (.int .i64) (.pair (.int .i64) (.pair .bool (.pair (.int .i64) (.pair (.int .i64) (.pair (.int .i64) (.pair (.int .i64) (.sl (.int .u8)))))))))) N)),(b,.c (i6 O)),(d,.c (i6 P))],[(e,.cells f [i6 Q,i6 R,.bool S,i6 T,i6 U,i6 V,.bool g,i6 h]),(i,.cells j [i6 k,i6 l,.own m]),(n,.cells o [i6 p,i6 q,.own r]),(t,.vec u (.int .u8) v true),(w,.vec x (.int .u8) y true)],z,A⟩=>bif qb [B,D,E,F,G,H,I,J,L,M,a,b,d,e,f,i,j,m,n,o,r,t,u,w,x,z,A] [1,5,0,0,10,1,0,13,2,0,47,48,49,0,40,1,51,3,2,51,4,3,5,4,5,5,0] then iter (S_text_Render_1 fuel) fuel (C,N,O,P,Q,R,S,T,U,V,g,h,k,l,p,q,v,y) (E36_1 K) else none | _=>none) | none=>none
theorem B36_1_ok (fuel:Nat) (st:Ev.St) (K:KT) (r:Ans) (h:B36_1 fuel st K=some r):evalCode tab (G36 fuel) J0 kp36 fuel (.block 1 (.loop (bodyOf 1 Tryz.f36))) st K=some r:=by
  unfold B36_1 at h
  split at h
  · rename_i s hs
    split at h
    · skip
      obtain ⟨hb,h⟩:=cond_some' h
      cases qb_eq hb
      exact blk_loop (S:=T36_1) (ks:=E36_1) (step:=S_text_Render_1 fuel) (v:=(_,_,_,_,_,_,_,_,_,_,_,_,_,_,_,_,_,_)) (by kernel_rfl) (by kernel_rfl) (fun R K v=>by obtain ⟨j,k,l,m,n,o,p,q,t,u,a,b,c,d,e,f,g,i⟩:=v; exact S36_1_okg fuel (F_text_begun fuel) (F_text_right fuel) (F_text_place fuel) (F_bitmap_New fuel) (F_bitmap_Draw fuel) (F_text_drawn fuel) R K j k l m n o p q t u a b c d e f g i) hs h
    · cases h
  · cases h
def J36 (fuel:Nat) (i:Nat):Option Ev.Blk:=Ev.look i [(100001,B36_1 fuel)]
def Fg_text_Render (fuel:Nat) (t:YF73) (u:YF77) (D:YF99) (l:YF105) (y:YF106) (z:YF107) (b c:Int) (d:Bool) (e f g:Int) (h:Bool) (i:Int) (j:(List (Int×Int×LI))) (a:(List (Int×Int×Int×Bool×Int×Int×(Int×Int×LI)))) (v w:Int) (k0:(Int×Int×Int×LI)→OA):OA:=(t b c d e f g h i j a (fun k=>bif k != 0 then k0 (0,0,k,[]) else (l v w (0) (fun (m,n,o,p)=>bif o != 0 then k0 (0,0,30,[]) else (u b c d e f g h i ((↑j.length:Int)) a (fun x=>bif !x then k0 (0,0,2,[]) else (L_text_Render_1 fuel (j,a,(↑a.length:Int),0,b,c,d,e,f,g,h,i,0,0,m,n,[],p) (fun (A,B,q,r,C,s)=>k0 (q,r,0,s)))))))))
abbrev YF36:Type:=Int→Int→Bool→Int→Int→Int→Bool→Int→((List (Int×Int×LI)))→((List (Int×Int×Int×Bool×Int×Int×(Int×Int×LI))))→Int→Int→((Int×Int×Int×LI)→Option Ans)→Option Ans
def F_text_Render (fuel:Nat):YF36:=Fg_text_Render fuel (F_text_begun fuel) (F_text_right fuel) (F_text_place fuel) (F_bitmap_New fuel) (F_bitmap_Draw fuel) (F_text_drawn fuel)
theorem F36_eqg (fuel:Nat) (e:YF73) (f:YF77) (g:YF99) (a:YF105) (b:YF106) (d:YF107) (j l:Int) (m:Bool) (n o p:Int) (q:Bool) (s:Int) (t:(List (Int×Int×LI))) (u:(List (Int×Int×Int×Bool×Int×Int×(Int×Int×LI)))) (h i:Int) (k:Ev.Cont):evalFn tab (Gg36 e f g a b d) (J36 fuel) kp36 fuel Tryz.f36 [.agg [i6 j,i6 l,.bool m,i6 n,i6 o,i6 p,.bool q,i6 s],.c (.sl (.pair (.int .i64) (.pair (.int .i64) (.sl (.int .u8)))) t),.c (.sl (.pair (.int .i64) (.pair (.int .i64) (.pair (.int .i64) (.pair .bool (.pair (.int .i64) (.pair (.int .i64) (.pair (.int .i64) (.pair (.int .i64) (.sl (.int .u8)))))))))) u),.c (i6 h),.c (i6 i)] [] k=Fg_text_Render fuel e f g a b d j l m n o p q s t u h i (fun r=>match r with | (v,w,x,y)=>k (.tup [(true,[i6 v,i6 w,.own 0]),(false,[i6 x])],[.vec 5 (.int .u8) y true])):=by
  kernel_rfl
theorem hG36 (fuel:Nat):GOK Tryz.prog (G36 fuel):=
  gc (ok73 fuel) Tryz.func73 (by kernel_rfl) rfl <|
  gc (ok77 fuel) Tryz.func77 (by kernel_rfl) rfl <|
  gc (ok99 fuel) Tryz.func99 (by kernel_rfl) rfl <|
  gc (ok105 fuel) Tryz.func105 (by kernel_rfl) rfl <|
  gc (ok106 fuel) Tryz.func106 (by kernel_rfl) rfl <|
  gc (ok107 fuel) Tryz.func107 (by kernel_rfl) rfl <|
  gok_nil
theorem B36_1_blk (fuel:Nat):BlkOK Tryz.prog Tryz.f36.ntmps (.block 1 (.loop (bodyOf 1 Tryz.f36))) (B36_1 fuel):=bo0 (hG36 fuel) (by kernel_rfl) (by kernel_rfl) (B36_1_ok fuel)
def spg36 (F:YF36):Ev.Spec:=fun args objs k=>match args,objs with | [.agg [i6 d,i6 e,.bool f,i6 g,i6 h,i6 i,.bool j,i6 l],.c (.sl (.pair (.int .i64) (.pair (.int .i64) (.sl (.int .u8)))) m),.c (.sl (.pair (.int .i64) (.pair (.int .i64) (.pair (.int .i64) (.pair .bool (.pair (.int .i64) (.pair (.int .i64) (.pair (.int .i64) (.pair (.int .i64) (.sl (.int .u8)))))))))) n),.c (i6 a),.c (i6 b)],[]=>F d e f g h i j l m n a b (fun r=>match r with | (o,p,q,s)=>k (.tup [(true,[i6 o,i6 p,.own 0]),(false,[i6 q])],[.vec 5 (.int .u8) s true])) | _,_=>none
theorem ok36 (fuel:Nat):FnOK Tryz.prog 36 (spg36 (F_text_Render fuel)):=by
  intro args objs kk r h
  unfold spg36 at h
  split at h
  · skip
    exact fo1 (hG36 fuel) Tryz.func36 rfl (B36_1_blk fuel) (by kernel_rfl) _ _ kk r ((F36_eqg fuel (F_text_begun fuel) (F_text_right fuel) (F_text_place fuel) (F_bitmap_New fuel) (F_bitmap_Draw fuel) (F_text_drawn fuel) _ _ _ _ _ _ _ _ _ _ _ _ kk).trans h)
  · cases h
end
end Go.Proofs.YtipdidpalcmlhaaGreat

