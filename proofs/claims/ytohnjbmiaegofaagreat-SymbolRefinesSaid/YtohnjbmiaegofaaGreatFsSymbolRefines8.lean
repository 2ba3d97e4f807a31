/- What the functions that SymbolRefines reaches do: their typed texts, each with the proof that the machine does it. No condition. -/
import Derived.Test.YtohnjbmiaegofaaGreatEvX
import Derived.Test.YtohnjbmiaegofaaGreatFsSymbolRefines7
import Derived.Test.YtohnjbmiaegofaaGreatFsSymbolRefines3
import Derived.Test.YtohnjbmiaegofaaGreatFsSymbolRefines6
import Derived.Test.YtohnjbmiaegofaaGreatFsSymbolRefines1
set_option linter.unusedVariables false
set_option linter.unusedSimpArgs false
set_option linter.unusedSectionVars false
set_option linter.unusedVariables false
set_option linter.unusedSimpArgs false
set_option maxRecDepth 100000
set_option maxHeartbeats 2000000
namespace Go.Proofs.YtohnjbmiaegofaaGreat
open Go Ev
open Go.IntKind (i64 u64 u8 i32 u32 u16)
noncomputable section
def Bq (i:Nat):Option (List Nat):=Ev.look i []
def uW (a:lS) (f:Nat):Option Ev.Spec:=Ev.look f [(91,qZ a)]
def Au (fuel:Nat):Nat→Option Ev.Spec:=uW (em fuel)
def tO (fuel:Nat) (a:lS) (b c:Int) (d:LI) (k0:(Int×Int×LI)→OA):OA:=(a d (fun e=>k0 (b,c,e)))
abbrev cR:Type:=Int→Int→LI→((Int×Int×LI)→Option Ans)→Option Ans
def cJ (fuel:Nat):cR:=tO fuel (em fuel)
theorem zp (fuel:Nat) (a:lS) (b c:Int) (d:LI) (k:Ev.Cont):evalFn tab (uW a) J0 Bq fuel Tryz.f44 [.agg [i6 b,i6 c,.sl (.int .u8) d]] [] k=tO fuel a b c d (fun r=>match r with | (e,f,g)=>k (.agg [i6 e,i6 f,.own 0],[.vec 5 (.int .u8) g true])):=by
  kernel_rfl
theorem J2 (fuel:Nat):GOK Tryz.prog (Au fuel):=
  gc (EU fuel) Tryz.func91 (by kernel_rfl) rfl <|
  gok_nil
def oI (F:cR):Ev.Spec:=fun args objs k=>match args,objs with | [.agg [i6 a,i6 b,.sl (.int .u8) c]],[]=>F a b c (fun r=>match r with | (d,e,f)=>k (.agg [i6 d,i6 e,.own 0],[.vec 5 (.int .u8) f true])) | _,_=>none
theorem CR (fuel:Nat):FnOK Tryz.prog 44 (oI (cJ fuel)):=by
  intro args objs kk r h
  unfold oI at h
  split at h
  · skip
    exact fo0 (J2 fuel) Tryz.func44 rfl (by kernel_rfl) _ _ kk r ((zp fuel (em fuel) _ _ _ kk).trans h)
  · cases h
def ck (i:Nat):Option (List Nat):=Ev.look i [(10,[2,9,33,34,35]),(16,[9,12,45,46,47]),(100000,[2,9]),(100002,[12]),(400000,[6,7]),(400002,[6,7])]
def lN (b:bz) (c:aO) (a:cT) (d:cR) (f:Nat):Option Ev.Spec:=Ev.look f [(26,kv b),(30,ir c),(41,tS a),(44,oI d)]
def ls (fuel:Nat):Nat→Option Ev.Spec:=lN (bp fuel) (aA fuel) (bS fuel) (cJ fuel)
abbrev mX:Type:=(List Bool)×(List ((Int×(Int×LI))×Int))×Int×Int×(List (Int×(Int×LI)))
abbrev nP:Type:=((List Bool)×(List (Int×(Int×LI)))→OA)
def ky (fuel:Nat) (i:bz) (j:aO) (h:cT) (k:cR) (f:(List Bool)) (d:(List ((Int×(Int×LI))×Int))) (g a:Int) (e:(List (Int×(Int×LI)))) (c:mX→OA) (B:nP):OA:=match B with | b=>bif decide (a < g) then bif decide (0≤a∧a < (↑d.length:Int)) then bif decide ((e.length+(1:Nat))*(40:Nat)≤(140737488355328:Nat)∧e.length+(1:Nat)≤(140737488355328:Nat)) then c (f,d,g,i64.wrap (a+(1:Int)),e++ [((d.getD a.toNat (((0:Int),(0:Int),[]),(0:Int))).fst.fst,(d.getD a.toNat (((0:Int),(0:Int),[]),(0:Int))).fst.snd.fst,(d.getD a.toNat (((0:Int),(0:Int),[]),(0:Int))).fst.snd.snd)]) else none else none else b (f,e)
def fN (fuel:Nat) (v:(List Bool)×(List ((Int×(Int×(List Int)))×Int))×Int×Int×(List (Int×(Int×(List Int))))) (c:((List Bool)×(List ((Int×(Int×(List Int)))×Int))×Int×Int×(List (Int×(Int×(List Int)))))→Option Ans) (B:((List Bool)×(List (Int×(Int×(List Int))))→Option Ans)):Option Ans:=match v with | (a,b,d,e,f)=>ky fuel (bp fuel) (aA fuel) (bS fuel) (cJ fuel) a b d e f c B
def qC (fuel:Nat) (v:mX) (b:nP):Option Ans:=iter (fN fuel) fuel v b
def mp (v:mX):Ev.St:=match v with | (a,b,d,e,f)=>⟨[(2,.c (.sl .bool a)),(9,.c (.own 0)),(33,.c (.sl (.pair (.pair (.int .i64) (.pair (.int .i64) (.sl (.int .u8)))) (.int .i64)) b)),(34,.c (i6 d)),(35,.c (i6 e))],[(0,.vec 29 (.pair (.int .i64) (.pair (.int .i64) (.sl (.int .u8)))) f true)],1,0⟩
def pB (K:KT):nP:=(fun v=>match v with | (a,b)=>K .normal ⟨[(2,.c (.sl .bool a)),(9,.c (.own 0))],[(0,.vec 29 (.pair (.int .i64) (.pair (.int .i64) (.sl (.int .u8)))) b true)],1,0⟩)
theorem F1 (fuel:Nat) (b:bz) (c:aO) (a:cT) (d:cR) (R:Ev.St→OA) (K:KT) (e:(List Bool)) (f:(List ((Int×(Int×LI))×Int))) (g h:Int) (i:(List (Int×(Int×LI)))):evalCode tab (lN b c a d) J0 ck fuel (bodyOf 0 Tryz.f14) (mp (e,f,g,h,i)) (lc ck 10 0 R K)=ky fuel b c a d e f g h i (fun v=>R (mp v)) (pB K):=by
  kernel_rfl
def eS (fuel:Nat):Ev.Blk:=fun st K=>match canonO (ck 10) st with | some s=>(match s with | ⟨[(a,.c (.sl .bool b)),(d,.c (.own e)),(f,.c (.sl (.pair (.pair (.int .i64) (.pair (.int .i64) (.sl (.int .u8)))) (.int .i64)) g)),(h,.c (i6 i)),(j,.c (i6 k))],[(l,.vec m (.pair (.int .i64) (.pair (.int .i64) (.sl (.int .u8)))) n true)],o,p⟩=>bif qb [a,d,e,f,h,j,l,m,o,p] [2,9,0,33,34,35,0,29,1,0] then iter (fN fuel) fuel (b,g,i,k,n) (pB K) else none | _=>none) | none=>none
theorem Hm (fuel:Nat) (st:Ev.St) (K:KT) (r:Ans) (h:eS fuel st K=some r):evalCode tab (ls fuel) J0 ck fuel (.block 0 (.loop (bodyOf 0 Tryz.f14))) st K=some r:=by
  unfold eS at h
  split at h
  · rename_i s hs
    split at h
    · skip
      obtain ⟨hb,h⟩:=cond_some' h
      cases qb_eq hb
      exact blk_loop (S:=mp) (ks:=pB) (step:=fN fuel) (v:=(_,_,_,_,_)) (by kernel_rfl) (by kernel_rfl) (fun R K v=>by obtain ⟨a,b,c,d,e⟩:=v; exact F1 fuel (bp fuel) (aA fuel) (bS fuel) (cJ fuel) R K a b c d e) hs h
    · cases h
  · cases h
abbrev ue:Type:=(List Bool)×Int×Int×(List (Int×(Int×LI)))×(List (Int×(Int×LI)))
abbrev ol:Type:=((List (Int×(Int×LI)))→OA)
def kI (fuel:Nat) (m:bz) (n:aO) (l:cT) (k:cR) (f:(List Bool)) (g a:Int) (d:(List (Int×(Int×LI)))) (e:(List (Int×(Int×LI)))) (c:ue→OA) (B:ol):OA:=match B with | b=>bif decide (a < g) then bif decide (0≤a∧a < (↑f.length:Int)) then bif f.getD a.toNat false then bif decide (0≤a∧a < (↑d.length:Int)) then (k ((d.getD a.toNat (0,0,[])).fst) ((d.getD a.toNat (0,0,[])).snd.fst) ((d.getD a.toNat (0,0,[])).snd.snd) (fun (h,i,j)=>bif decide ((e.length+(1:Nat))*(40:Nat)≤(140737488355328:Nat)∧e.length+(1:Nat)≤(140737488355328:Nat)) then c (f,g,i64.wrap (a+(1:Int)),d,e++ [(h,i,j)]) else none)) else none else c (f,g,i64.wrap (a+1),d,e) else none else b e
def fp (fuel:Nat) (v:(List Bool)×Int×Int×(List (Int×(Int×(List Int))))×(List (Int×(Int×(List Int))))) (c:((List Bool)×Int×Int×(List (Int×(Int×(List Int))))×(List (Int×(Int×(List Int)))))→Option Ans) (B:((List (Int×(Int×(List Int))))→Option Ans)):Option Ans:=match v with | (a,b,d,e,f)=>kI fuel (bp fuel) (aA fuel) (bS fuel) (cJ fuel) a b d e f c B
def vo (fuel:Nat) (v:ue) (b:ol):Option Ans:=iter (fp fuel) fuel v b
def vw (fuel:Nat) (i:Nat):Option Ev.Blk:=Ev.look i [(100000,eS fuel)]
def sI (v:ue):Ev.St:=match v with | (a,b,d,e,f)=>⟨[(9,.c (.own 0)),(12,.c (.own 1)),(45,.c (.sl .bool a)),(46,.c (i6 b)),(47,.c (i6 d))],[(0,.vec 29 (.pair (.int .i64) (.pair (.int .i64) (.sl (.int .u8)))) e true),(1,.vec 29 (.pair (.int .i64) (.pair (.int .i64) (.sl (.int .u8)))) f true)],2,0⟩
def mr (K:KT):ol:=(fun v=>match v with | a=>K .normal ⟨[(12,.c (.own 0))],[(0,.vec 29 (.pair (.int .i64) (.pair (.int .i64) (.sl (.int .u8)))) a true)],1,0⟩)
theorem Cp (fuel:Nat) (b:bz) (c:aO) (a:cT) (d:cR) (R:Ev.St→OA) (K:KT) (e:(List Bool)) (f g:Int) (h:(List (Int×(Int×LI)))) (i:(List (Int×(Int×LI)))):evalCode tab (lN b c a d) (vw fuel) ck fuel (bodyOf 2 Tryz.f14) (sI (e,f,g,h,i)) (lc ck 16 2 R K)=kI fuel b c a d e f g h i (fun v=>R (sI v)) (mr K):=by
  kernel_rfl
def go (fuel:Nat):Ev.Blk:=fun st K=>match canonO (ck 16) st with | some s=>(match s with | ⟨[(e,.c (.own f)),(g,.c (.own h)),(i,.c (.sl .bool j)),(k,.c (i6 l)),(m,.c (i6 n))],[(o,.vec p (.pair (.int .i64) (.pair (.int .i64) (.sl (.int .u8)))) q true),(r,.vec a (.pair (.int .i64) (.pair (.int .i64) (.sl (.int .u8)))) t true)],b,d⟩=>bif qb [e,f,g,h,i,k,m,o,p,r,a,b,d] [9,0,12,1,45,46,47,0,29,1,29,2,0] then iter (fp fuel) fuel (j,l,n,q,t) (mr K) else none | _=>none) | none=>none
theorem AP (fuel:Nat) (st:Ev.St) (K:KT) (r:Ans) (h:go fuel st K=some r):evalCode tab (ls fuel) (vw fuel) ck fuel (.block 2 (.loop (bodyOf 2 Tryz.f14))) st K=some r:=by
  unfold go at h
  split at h
  · rename_i s hs
    split at h
    · skip
      obtain ⟨hb,h⟩:=cond_some' h
      cases qb_eq hb
      exact blk_loop (S:=sI) (ks:=mr) (step:=fp fuel) (v:=(_,_,_,_,_)) (by kernel_rfl) (by kernel_rfl) (fun R K v=>by obtain ⟨a,b,c,d,e⟩:=v; exact Cp fuel (bp fuel) (aA fuel) (bS fuel) (cJ fuel) R K a b c d e) hs h
    · cases h
  · cases h
def qh (fuel:Nat) (i:Nat):Option Ev.Blk:=Ev.look i [(100000,eS fuel),(100002,go fuel)]
def ut (fuel:Nat) (i:bz) (j:aO) (f:cT) (m:cR) (a:(List (Int×Int×LI))) (b:(List ((Int×Int×LI)×Int))) (d:(List Bool)) (k0:(Int×(List (Int×(Int×LI))))→OA):OA:=(f a (fun l=>bif l then k0 (30,[]) else (i a b (fun e=>bif e != 0 then k0 (e,[]) else bif (↑d.length:Int) != i64.wrap ((↑a.length:Int)+(↑b.length:Int)) then k0 (2,[]) else (j a (fun k=>(qC fuel (d,b,(↑b.length:Int),0,k) (fun (c,g)=>(vo fuel (c,(↑c.length:Int),0,g,[]) (fun h=>k0 (0,h)))))))))))
abbrev hP:Type:=((List (Int×Int×LI)))→((List ((Int×Int×LI)×Int)))→((List Bool))→((Int×(List (Int×(Int×LI))))→Option Ans)→Option Ans
def fk (fuel:Nat):hP:=ut fuel (bp fuel) (aA fuel) (bS fuel) (cJ fuel)
theorem GK (fuel:Nat) (b:bz) (d:aO) (a:cT) (e:cR) (f:(List (Int×Int×LI))) (g:(List ((Int×Int×LI)×Int))) (h:(List Bool)) (k:Ev.Cont):evalFn tab (lN b d a e) (qh fuel) ck fuel Tryz.f14 [.c (.sl (.pair (.int .i64) (.pair (.int .i64) (.sl (.int .u8)))) f),.c (.sl (.pair (.pair (.int .i64) (.pair (.int .i64) (.sl (.int .u8)))) (.int .i64)) g),.c (.sl .bool h)] [] k=ut fuel b d a e f g h (fun r=>match r with | (i,j)=>k (.tup [(false,[.own 0]),(false,[i6 i])],[.vec 29 (.pair (.int .i64) (.pair (.int .i64) (.sl (.int .u8)))) j true])):=by
  kernel_rfl
theorem qK (fuel:Nat):GOK Tryz.prog (ls fuel):=
  gc (xw fuel) Tryz.func26 (by kernel_rfl) rfl <|
  gc (rk fuel) Tryz.func30 (by kernel_rfl) rfl <|
  gc (Em fuel) Tryz.func41 (by kernel_rfl) rfl <|
  gc (CR fuel) Tryz.func44 (by kernel_rfl) rfl <|
  gok_nil
theorem EH (fuel:Nat):BlkOK Tryz.prog Tryz.f14.ntmps (.block 0 (.loop (bodyOf 0 Tryz.f14))) (eS fuel):=bo0 (qK fuel) (by kernel_rfl) (by kernel_rfl) (Hm fuel)
theorem F8 (fuel:Nat):BlkOK Tryz.prog Tryz.f14.ntmps (.block 2 (.loop (bodyOf 2 Tryz.f14))) (go fuel):=bo0 (qK fuel) (by kernel_rfl) (by kernel_rfl) (AP fuel)
theorem Hd (fuel:Nat):FnOK Tryz.prog 14 (evalFn tab (ls fuel) (qh fuel) ck fuel Tryz.f14):=
  fn_ok tab_ok (qK fuel) mixed Tryz.func14 (c:=(Tryz.f14.body).getD .skip) rfl (fun q hq=>by
    rw [(by kernel_rfl:obl (qh fuel) ((Tryz.f14.body).getD .skip)= [(.block 0 (.loop (bodyOf 0 Tryz.f14)),eS fuel),(.block 2 (.loop (bodyOf 2 Tryz.f14)),go fuel)])] at hq
    simp only [List.mem_cons,List.not_mem_nil,or_false] at hq
    rcases hq with rfl | rfl
    · exact EH fuel
    · exact F8 fuel)
def sV (F:hP):Ev.Spec:=fun args objs k=>match args,objs with | [.c (.sl (.pair (.int .i64) (.pair (.int .i64) (.sl (.int .u8)))) a),.c (.sl (.pair (.pair (.int .i64) (.pair (.int .i64) (.sl (.int .u8)))) (.int .i64)) b),.c (.sl .bool d)],[]=>F a b d (fun r=>match r with | (e,f)=>k (.tup [(false,[.own 0]),(false,[i6 e])],[.vec 29 (.pair (.int .i64) (.pair (.int .i64) (.sl (.int .u8)))) f true])) | _,_=>none
theorem F3 (fuel:Nat):FnOK Tryz.prog 14 (sV (fk fuel)):=by
  intro args objs kk r h
  unfold sV at h
  split at h
  · skip
    exact Hd fuel _ _ kk r ((GK fuel (bp fuel) (aA fuel) (bS fuel) (cJ fuel) _ _ _ kk).trans h)
  · cases h
def Cu (i:Nat):Option (List Nat):=Ev.look i [(200004,[4]),(200011,[4])]
def u4 (h:gM) (i:iz) (j:i9) (a:jX) (b:gD) (c:gR) (d:gX) (e:hP) (g:cU) (f:Nat):Option Ev.Spec:=Ev.look f [(7,uh h),(8,uy i),(9,tG j),(10,tg a),(11,uu b),(12,ne c),(13,rE d),(14,sV e),(15,lm g)]
def G3 (fuel:Nat):Nat→Option Ev.Spec:=u4 (gk fuel) (fj fuel) (hJ fuel) (fc fuel) (eU fuel) (gl fuel) (fV fuel) (fk fuel) (bx fuel)
def oW (fuel:Nat) (H:gM) (I:iz) (e:i9) (x:jX) (y:gD) (z:gR) (A:gX) (B:hP) (C:cU) (i j k:Int) (l:Bool) (m n:Int) (b c:Int) (a:LI) (r:Int) (k0:(Bool)→OA):OA:=bif decide ((↑a.length:Int) > 400) then (e (fun o=>k0 o)) else (H i j k l m n (fun o=>bif !o then (e (fun p=>k0 p)) else (I b c a (fun p=>bif !p then (e (fun D=>k0 D)) else (x (fun (f,g,h)=>(y i j k l m n ((0:Int)) ([]) ([(b,c,a),(f,g,h)]) ([((b,c,a),(i64.wrap (r.tmod (2:Int)+(2:Int))).tmod (2:Int))]) ([false,false,true]) (fun (J,s,t,K)=>(z i j k l m n (0) ([]) ([(b,c,a),(f,g,h)]) (1) t (fun (L,u,q,v,M)=>bif s != 0 then k0 false else bif u != 0 then k0 false else (A q ([((b,c,a),(i64.wrap (r.tmod (2:Int)+(2:Int))).tmod (2:Int))]) (fun E=>bif !E then k0 false else (B ([(b,c,a),(f,g,h)]) q v (fun (w,d)=>bif w==0 then bif (↑d.length:Int)==1 then bif decide ((0:Int)≤(0:Int)∧(0:Int) < (↑d.length:Int)) then (C ((d.getD (Int.toNat 0) (0,0,[])).fst) ((d.getD (Int.toNat 0) (0,0,[])).snd.fst) ((d.getD (Int.toNat 0) (0,0,[])).snd.snd) b c a (fun F=>bif F then (e (fun G=>k0 G)) else k0 false)) else none else k0 false else k0 false))))))))))))))
abbrev xu:Type:=Int→Int→Int→Bool→Int→Int→Int→Int→LI→Int→(Bool→Option Ans)→Option Ans
def hY (fuel:Nat):xu:=oW fuel (gk fuel) (fj fuel) (hJ fuel) (fc fuel) (eU fuel) (gl fuel) (fV fuel) (fk fuel) (bx fuel)
theorem EN (fuel:Nat) (h:gM) (i:iz) (j:i9) (a:jX) (b:gD) (d:gR) (e:gX) (f:hP) (g:cU) (l m n:Int) (o:Bool) (p q:Int) (s t:Int) (u:LI) (v:Int) (k:Ev.Cont):evalFn tab (u4 h i j a b d e f g) J0 Cu fuel Tryz.f3 [.agg [i6 l,i6 m,i6 n,.bool o,i6 p,i6 q],.agg [i6 s,i6 t,.sl (.int .u8) u],.c (i6 v)] [] k=oW fuel h i j a b d e f g l m n o p q s t u v (fun r=>match r with | w=>k (.c (.bool w),[])):=by
  kernel_rfl
theorem FA (fuel:Nat):GOK Tryz.prog (G3 fuel):=
  gc (Cw fuel) Tryz.func7 (by kernel_rfl) rfl <|
  gc (zr fuel) Tryz.func8 (by kernel_rfl) rfl <|
  gc (Ap fuel) Tryz.func9 (by kernel_rfl) rfl <|
  gc (DG fuel) Tryz.func10 (by kernel_rfl) rfl <|
  gc (H9 fuel) Tryz.func11 (by kernel_rfl) rfl <|
  gc (D5 fuel) Tryz.func12 (by kernel_rfl) rfl <|
  gc (Ga fuel) Tryz.func13 (by kernel_rfl) rfl <|
  gc (F3 fuel) Tryz.func14 (by kernel_rfl) rfl <|
  gc (wl fuel) Tryz.func15 (by kernel_rfl) rfl <|
  gok_nil
def yA (F:xu):Ev.Spec:=fun args objs k=>match args,objs with | [.agg [i6 a,i6 b,i6 d,.bool e,i6 f,i6 g],.agg [i6 h,i6 i,.sl (.int .u8) j],.c (i6 l)],[]=>F a b d e f g h i j l (fun r=>match r with | m=>k (.c (.bool m),[])) | _,_=>none
def mx (fuel:Nat):Ev.Spec:=yA (hY fuel)
theorem JB (fuel:Nat):FnOK Tryz.prog 3 (mx fuel):=by
  intro args objs kk r h
  unfold mx yA at h
  split at h
  · skip
    exact fo0 (FA fuel) Tryz.func3 rfl (by kernel_rfl) _ _ kk r ((EN fuel (gk fuel) (fj fuel) (hJ fuel) (fc fuel) (eU fuel) (gl fuel) (fV fuel) (fk fuel) (bx fuel) _ _ _ _ _ _ _ _ _ _ kk).trans h)
  · cases h
end
end Go.Proofs.YtohnjbmiaegofaaGreat

