/- What the functions that TextOrder reaches do: their typed texts, each with the proof that the machine does it. No condition. -/
import Derived.Test.YtmjeeaemmbkioaaGreatEvX
import Derived.Test.YtmjeeaemmbkioaaGreatFsTextOrder5
import Derived.Test.YtmjeeaemmbkioaaGreatFsTextOrder3
import Derived.Test.YtmjeeaemmbkioaaGreatFsTextOrder1
set_option linter.unusedVariables false
set_option linter.unusedSimpArgs false
set_option linter.unusedSectionVars false
set_option linter.unusedVariables false
set_option linter.unusedSimpArgs false
set_option maxRecDepth 100000
set_option maxHeartbeats 2000000
namespace Go.Proofs.YtmjeeaemmbkioaaGreat
open Go Ev
open Go.IntKind (i64 u64 u8 i32 u32 u16)
noncomputable section
def kp77_261 (i:Nat):Option (List Nat):=Ev.look i [(2,[0,1,7,8]),(100000,[]),(400000,[4])]
def Gg77_261 (a:YF94) (f:Nat):Option Ev.Spec:=Ev.look f [(94,spg94 a)]
def G77_261 (fuel:Nat):Nat→Option Ev.Spec:=Gg77_261 (F_text_begun_1 fuel)
abbrev V_slices_IndexFunc_api_Bitmap_api_Bitmap_261_0:Type:=(List (Int×(Int×LI)))×Int×Int
abbrev W_slices_IndexFunc_api_Bitmap_api_Bitmap_261_0:Type:=(Int→OA)×(Unit→OA)
def Sg_slices_IndexFunc_api_Bitmap_api_Bitmap_261_0 (fuel:Nat) (f:YF94) (d:(List (Int×(Int×LI)))) (e a:Int) (c:V_slices_IndexFunc_api_Bitmap_api_Bitmap_261_0→OA) (B:W_slices_IndexFunc_api_Bitmap_api_Bitmap_261_0):OA:=match B with | (ret,b)=>bif decide (a < e) then bif decide (0≤a∧a < (↑d.length:Int)) then (f ((d.getD a.toNat (0,0,[])).fst) ((d.getD a.toNat (0,0,[])).snd.fst) ((d.getD a.toNat (0,0,[])).snd.snd) (fun g=>bif g then ret a else c (d,e,i64.wrap (a+1)))) else none else b ()
def S_slices_IndexFunc_api_Bitmap_api_Bitmap_261_0 (fuel:Nat) (v:(List (Int×(Int×(List Int))))×Int×Int) (c:((List (Int×(Int×(List Int))))×Int×Int)→Option Ans) (B:(Int→Option Ans)×(Unit→Option Ans)):Option Ans:=match v with | (a,b,d)=>Sg_slices_IndexFunc_api_Bitmap_api_Bitmap_261_0 fuel (F_text_begun_1 fuel) a b d c B
def L_slices_IndexFunc_api_Bitmap_api_Bitmap_261_0 (fuel:Nat) (v:V_slices_IndexFunc_api_Bitmap_api_Bitmap_261_0) (ret:(Int→Option Ans)) (b:(Unit→Option Ans)):Option Ans:=iter (S_slices_IndexFunc_api_Bitmap_api_Bitmap_261_0 fuel) fuel v (ret,b)
def T77_261_0 (v:V_slices_IndexFunc_api_Bitmap_api_Bitmap_261_0):Ev.St:=match v with | (a,b,d)=>⟨[(0,.c (.sl (.pair (.int .i64) (.pair (.int .i64) (.sl (.int .u8)))) a)),(1,.c (.clo 94 [])),(7,.c (i6 b)),(8,.c (i6 d))],[],0,0⟩
def E77_261_0 (K:KT):W_slices_IndexFunc_api_Bitmap_api_Bitmap_261_0:=((fun v=>match v with | a=>K .ret ⟨[(4,.c (i6 a))],[],0,0⟩),(fun v=>match v with | ()=>K .normal ⟨[],[],0,0⟩))
theorem S77_261_0_okg (fuel:Nat) (a:YF94) (R:Ev.St→OA) (K:KT) (b:(List (Int×(Int×LI)))) (c d:Int):evalCode tab (Gg77_261 a) J0 kp77_261 fuel (bodyOf 0 Tryz.f77) (T77_261_0 (b,c,d)) (lc kp77_261 2 0 R K)=Sg_slices_IndexFunc_api_Bitmap_api_Bitmap_261_0 fuel a b c d (fun v=>R (T77_261_0 v)) (E77_261_0 K):=by
  kernel_rfl
def B77_261_0 (fuel:Nat):Ev.Blk:=fun st K=>match canonO (kp77_261 2) st with | some s=>(match s with | ⟨[(a,.c (.sl (.pair (.int .i64) (.pair (.int .i64) (.sl (.int .u8)))) b)),(d,.c (.clo e [])),(f,.c (i6 g)),(h,.c (i6 i))],[],j,k⟩=>bif qb [a,d,e,f,h,j,k] [0,1,94,7,8,0,0] then iter (S_slices_IndexFunc_api_Bitmap_api_Bitmap_261_0 fuel) fuel (b,g,i) (E77_261_0 K) else none | _=>none) | none=>none
theorem B77_261_0_ok (fuel:Nat) (st:Ev.St) (K:KT) (r:Ans) (h:B77_261_0 fuel st K=some r):evalCode tab (G77_261 fuel) J0 kp77_261 fuel (.block 0 (.loop (bodyOf 0 Tryz.f77))) st K=some r:=by
  unfold B77_261_0 at h
  split at h
  · rename_i s hs
    split at h
    · skip
      obtain ⟨hb,h⟩:=cond_some' h
      cases qb_eq hb
      exact blk_loop (S:=T77_261_0) (ks:=E77_261_0) (step:=S_slices_IndexFunc_api_Bitmap_api_Bitmap_261_0 fuel) (v:=(_,_,_)) (by kernel_rfl) (by kernel_rfl) (fun R K v=>by obtain ⟨a,b,c⟩:=v; exact S77_261_0_okg fuel (F_text_begun_1 fuel) R K a b c) hs h
    · cases h
  · cases h
def J77_261 (fuel:Nat) (i:Nat):Option Ev.Blk:=Ev.look i [(100000,B77_261_0 fuel)]
def Fg_slices_IndexFunc_api_Bitmap_api_Bitmap_261 (fuel:Nat) (b:YF94) (a:(List (Int×(Int×LI)))) (k0:(Int)→OA):OA:=(L_slices_IndexFunc_api_Bitmap_api_Bitmap_261_0 fuel (a,(↑a.length:Int),0) (fun ret0_0=>k0 ret0_0) (fun ()=>k0 ((-1:Int))))
abbrev YF77_261:Type:=((List (Int×(Int×LI))))→(Int→Option Ans)→Option Ans
def F_slices_IndexFunc_api_Bitmap_api_Bitmap_261 (fuel:Nat):YF77_261:=Fg_slices_IndexFunc_api_Bitmap_api_Bitmap_261 fuel (F_text_begun_1 fuel)
theorem F77_261_eqg (fuel:Nat) (a:YF94) (b:(List (Int×(Int×LI)))) (k:Ev.Cont):evalFn tab (Gg77_261 a) (J77_261 fuel) kp77_261 fuel Tryz.f77 [.c (.sl (.pair (.int .i64) (.pair (.int .i64) (.sl (.int .u8)))) b),.c (.clo 94 [])] [] k=Fg_slices_IndexFunc_api_Bitmap_api_Bitmap_261 fuel a b (fun r=>match r with | d=>k (.c (i6 d),[])):=by
  kernel_rfl
theorem hG77_261 (fuel:Nat):GOK Tryz.prog (G77_261 fuel):=
  gc (ok94 fuel) Tryz.func94 (by kernel_rfl) rfl <|
  gok_nil
theorem B77_261_0_blk (fuel:Nat):BlkOK Tryz.prog Tryz.f77.ntmps (.block 0 (.loop (bodyOf 0 Tryz.f77))) (B77_261_0 fuel):=bo0 (hG77_261 fuel) (by kernel_rfl) (by kernel_rfl) (B77_261_0_ok fuel)
def spg77_261 (F:YF77_261):Ev.Spec:=fun args objs k=>match args,objs with | [.c (.sl (.pair (.int .i64) (.pair (.int .i64) (.sl (.int .u8)))) a),.c (.clo b [])],[]=>bif qb [b] [94] then F a (fun r=>match r with | d=>k (.c (i6 d),[])) else none | _,_=>none
theorem ok77_261 (fuel:Nat):FnOK Tryz.prog 77 (spg77_261 (F_slices_IndexFunc_api_Bitmap_api_Bitmap_261 fuel)):=by
  intro args objs kk r h
  unfold spg77_261 at h
  split at h
  · skip
    obtain ⟨hb,h⟩:=cond_some' h
    cases qb_eq hb
    exact fo1 (hG77_261 fuel) Tryz.func77 rfl (B77_261_0_blk fuel) (by kernel_rfl) _ _ kk r ((F77_261_eqg fuel (F_text_begun_1 fuel) _ kk).trans h)
  · cases h
def kp33_261 (i:Nat):Option (List Nat):=Ev.look i []
def Gg33_261 (a:YF77_261) (f:Nat):Option Ev.Spec:=Ev.look f [(77,spg77_261 a)]
def G33_261 (fuel:Nat):Nat→Option Ev.Spec:=Gg33_261 (F_slices_IndexFunc_api_Bitmap_api_Bitmap_261 fuel)
def Fg_slices_ContainsFunc_api_Bitmap_api_Bitmap_261 (fuel:Nat) (a:YF77_261) (b:(List (Int×(Int×LI)))) (k0:(Bool)→OA):OA:=(a b (fun c=>k0 (decide (c≥0))))
abbrev YF33_261:Type:=((List (Int×(Int×LI))))→(Bool→Option Ans)→Option Ans
def F_slices_ContainsFunc_api_Bitmap_api_Bitmap_261 (fuel:Nat):YF33_261:=Fg_slices_ContainsFunc_api_Bitmap_api_Bitmap_261 fuel (F_slices_IndexFunc_api_Bitmap_api_Bitmap_261 fuel)
theorem F33_261_eqg (fuel:Nat) (a:YF77_261) (b:(List (Int×(Int×LI)))) (k:Ev.Cont):evalFn tab (Gg33_261 a) J0 kp33_261 fuel Tryz.f33 [.c (.sl (.pair (.int .i64) (.pair (.int .i64) (.sl (.int .u8)))) b),.c (.clo 94 [])] [] k=Fg_slices_ContainsFunc_api_Bitmap_api_Bitmap_261 fuel a b (fun r=>match r with | d=>k (.c (.bool d),[])):=by
  kernel_rfl
theorem hG33_261 (fuel:Nat):GOK Tryz.prog (G33_261 fuel):=
  gc (ok77_261 fuel) Tryz.func77 (by kernel_rfl) rfl <|
  gok_nil
def spg33_261 (F:YF33_261):Ev.Spec:=fun args objs k=>match args,objs with | [.c (.sl (.pair (.int .i64) (.pair (.int .i64) (.sl (.int .u8)))) a),.c (.clo b [])],[]=>bif qb [b] [94] then F a (fun r=>match r with | d=>k (.c (.bool d),[])) else none | _,_=>none
theorem ok33_261 (fuel:Nat):FnOK Tryz.prog 33 (spg33_261 (F_slices_ContainsFunc_api_Bitmap_api_Bitmap_261 fuel)):=by
  intro args objs kk r h
  unfold spg33_261 at h
  split at h
  · skip
    obtain ⟨hb,h⟩:=cond_some' h
    cases qb_eq hb
    exact fo0 (hG33_261 fuel) Tryz.func33 rfl (by kernel_rfl) _ _ kk r ((F33_261_eqg fuel (F_slices_IndexFunc_api_Bitmap_api_Bitmap_261 fuel) _ kk).trans h)
  · cases h
def kp97 (i:Nat):Option (List Nat):=Ev.look i []
def Gg97 (a:YF95) (f:Nat):Option Ev.Spec:=Ev.look f [(95,spg95 a)]
def G97 (fuel:Nat):Nat→Option Ev.Spec:=Gg97 (F_text_isShape fuel)
def Fg_text_begun_2 (fuel:Nat) (a:YF95) (g h i:Int) (b:Bool) (j k:Int) (c d:Int) (e:LI) (k0:(Bool)→OA):OA:=bif b then (a c d e (fun f=>k0 !f)) else k0 false
abbrev YF97:Type:=Int→Int→Int→Bool→Int→Int→Int→Int→LI→(Bool→Option Ans)→Option Ans
def F_text_begun_2 (fuel:Nat):YF97:=Fg_text_begun_2 fuel (F_text_isShape fuel)
theorem F97_eqg (fuel:Nat) (a:YF95) (b d e:Int) (f:Bool) (g h:Int) (i j:Int) (l:LI) (k:Ev.Cont):evalFn tab (Gg97 a) J0 kp97 fuel Tryz.f97 [.agg [i6 b,i6 d,i6 e,.bool f,i6 g,i6 h,i6 i,i6 j,.sl (.int .u8) l]] [] k=Fg_text_begun_2 fuel a b d e f g h i j l (fun r=>match r with | m=>k (.c (.bool m),[])):=by
  kernel_rfl
theorem hG97 (fuel:Nat):GOK Tryz.prog (G97 fuel):=
  gc (ok95 fuel) Tryz.func95 (by kernel_rfl) rfl <|
  gok_nil
def spg97 (F:YF97):Ev.Spec:=fun args objs k=>match args,objs with | [.agg [i6 a,i6 b,i6 d,.bool e,i6 f,i6 g,i6 h,i6 i,.sl (.int .u8) j]],[]=>F a b d e f g h i j (fun r=>match r with | l=>k (.c (.bool l),[])) | _,_=>none
theorem ok97 (fuel:Nat):FnOK Tryz.prog 97 (spg97 (F_text_begun_2 fuel)):=by
  intro args objs kk r h
  unfold spg97 at h
  split at h
  · skip
    exact fo0 (hG97 fuel) Tryz.func97 rfl (by kernel_rfl) _ _ kk r ((F97_eqg fuel (F_text_isShape fuel) _ _ _ _ _ _ _ _ _ kk).trans h)
  · cases h
def kp141_177 (i:Nat):Option (List Nat):=Ev.look i [(2,[0,1,7,8]),(100000,[]),(400000,[4])]
def Gg141_177 (a:YF97) (f:Nat):Option Ev.Spec:=Ev.look f [(97,spg97 a)]
def G141_177 (fuel:Nat):Nat→Option Ev.Spec:=Gg141_177 (F_text_begun_2 fuel)
abbrev V_slices_IndexFunc_api_Item_api_Item_177_0:Type:=(List (Int×(Int×(Int×(Bool×(Int×(Int×(Int×(Int×LI)))))))))×Int×Int
abbrev W_slices_IndexFunc_api_Item_api_Item_177_0:Type:=(Int→OA)×(Unit→OA)
def Sg_slices_IndexFunc_api_Item_api_Item_177_0 (fuel:Nat) (f:YF97) (d:(List (Int×(Int×(Int×(Bool×(Int×(Int×(Int×(Int×LI)))))))))) (e a:Int) (c:V_slices_IndexFunc_api_Item_api_Item_177_0→OA) (B:W_slices_IndexFunc_api_Item_api_Item_177_0):OA:=match B with | (ret,b)=>bif decide (a < e) then bif decide (0≤a∧a < (↑d.length:Int)) then (f ((d.getD a.toNat (0,0,0,false,0,0,0,0,[])).fst) ((d.getD a.toNat (0,0,0,false,0,0,0,0,[])).snd.fst) ((d.getD a.toNat (0,0,0,false,0,0,0,0,[])).snd.snd.fst) ((d.getD a.toNat (0,0,0,false,0,0,0,0,[])).snd.snd.snd.fst) ((d.getD a.toNat (0,0,0,false,0,0,0,0,[])).snd.snd.snd.snd.fst) ((d.getD a.toNat (0,0,0,false,0,0,0,0,[])).snd.snd.snd.snd.snd.fst) ((d.getD a.toNat (0,0,0,false,0,0,0,0,[])).snd.snd.snd.snd.snd.snd.fst) ((d.getD a.toNat (0,0,0,false,0,0,0,0,[])).snd.snd.snd.snd.snd.snd.snd.fst) ((d.getD a.toNat (0,0,0,false,0,0,0,0,[])).snd.snd.snd.snd.snd.snd.snd.snd) (fun g=>bif g then ret a else c (d,e,i64.wrap (a+1)))) else none else b ()
def S_slices_IndexFunc_api_Item_api_Item_177_0 (fuel:Nat) (v:(List (Int×(Int×(Int×(Bool×(Int×(Int×(Int×(Int×(List Int))))))))))×Int×Int) (c:((List (Int×(Int×(Int×(Bool×(Int×(Int×(Int×(Int×(List Int))))))))))×Int×Int)→Option Ans) (B:(Int→Option Ans)×(Unit→Option Ans)):Option Ans:=match v with | (a,b,d)=>Sg_slices_IndexFunc_api_Item_api_Item_177_0 fuel (F_text_begun_2 fuel) a b d c B
def L_slices_IndexFunc_api_Item_api_Item_177_0 (fuel:Nat) (v:V_slices_IndexFunc_api_Item_api_Item_177_0) (ret:(Int→Option Ans)) (b:(Unit→Option Ans)):Option Ans:=iter (S_slices_IndexFunc_api_Item_api_Item_177_0 fuel) fuel v (ret,b)
def T141_177_0 (v:V_slices_IndexFunc_api_Item_api_Item_177_0):Ev.St:=match v with | (a,b,d)=>⟨[(0,.c (.sl (.pair (.int .i64) (.pair (.int .i64) (.pair (.int .i64) (.pair .bool (.pair (.int .i64) (.pair (.int .i64) (.pair (.int .i64) (.pair (.int .i64) (.sl (.int .u8)))))))))) a)),(1,.c (.clo 97 [])),(7,.c (i6 b)),(8,.c (i6 d))],[],0,0⟩
def E141_177_0 (K:KT):W_slices_IndexFunc_api_Item_api_Item_177_0:=((fun v=>match v with | a=>K .ret ⟨[(4,.c (i6 a))],[],0,0⟩),(fun v=>match v with | ()=>K .normal ⟨[],[],0,0⟩))
theorem S141_177_0_okg (fuel:Nat) (a:YF97) (R:Ev.St→OA) (K:KT) (b:(List (Int×(Int×(Int×(Bool×(Int×(Int×(Int×(Int×LI)))))))))) (c d:Int):evalCode tab (Gg141_177 a) J0 kp141_177 fuel (bodyOf 0 Tryz.f141) (T141_177_0 (b,c,d)) (lc kp141_177 2 0 R K)=Sg_slices_IndexFunc_api_Item_api_Item_177_0 fuel a b c d (fun v=>R (T141_177_0 v)) (E141_177_0 K):=by
  kernel_rfl
def B141_177_0 (fuel:Nat):Ev.Blk:=fun st K=>match canonO (kp141_177 2) st with | some s=>(match s with | ⟨[(a,.c (.sl (.pair (.int .i64) (.pair (.int .i64) (.pair (.int .i64) (.pair .bool (.pair (.int .i64) (.pair (.int .i64) (.pair (.int .i64) (.pair (.int .i64) (.sl (.int .u8)))))))))) b)),(d,.c (.clo e [])),(f,.c (i6 g)),(h,.c (i6 i))],[],j,k⟩=>bif qb [a,d,e,f,h,j,k] [0,1,97,7,8,0,0] then iter (S_slices_IndexFunc_api_Item_api_Item_177_0 fuel) fuel (b,g,i) (E141_177_0 K) else none | _=>none) | none=>none
theorem B141_177_0_ok (fuel:Nat) (st:Ev.St) (K:KT) (r:Ans) (h:B141_177_0 fuel st K=some r):evalCode tab (G141_177 fuel) J0 kp141_177 fuel (.block 0 (.loop (bodyOf 0 Tryz.f141))) st K=some r:=by
  unfold B141_177_0 at h
  split at h
  · rename_i s hs
    split at h
    · skip
      obtain ⟨hb,h⟩:=cond_some' h
      cases qb_eq hb
      exact blk_loop (S:=T141_177_0) (ks:=E141_177_0) (step:=S_slices_IndexFunc_api_Item_api_Item_177_0 fuel) (v:=(_,_,_)) (by kernel_rfl) (by kernel_rfl) (fun R K v=>by obtain ⟨a,b,c⟩:=v; exact S141_177_0_okg fuel (F_text_begun_2 fuel) R K a b c) hs h
    · cases h
  · cases h
def J141_177 (fuel:Nat) (i:Nat):Option Ev.Blk:=Ev.look i [(100000,B141_177_0 fuel)]
def Fg_slices_IndexFunc_api_Item_api_Item_177 (fuel:Nat) (b:YF97) (a:(List (Int×(Int×(Int×(Bool×(Int×(Int×(Int×(Int×LI)))))))))) (k0:(Int)→OA):OA:=(L_slices_IndexFunc_api_Item_api_Item_177_0 fuel (a,(↑a.length:Int),0) (fun ret0_0=>k0 ret0_0) (fun ()=>k0 ((-1:Int))))
abbrev YF141_177:Type:=((List (Int×(Int×(Int×(Bool×(Int×(Int×(Int×(Int×LI))))))))))→(Int→Option Ans)→Option Ans
def F_slices_IndexFunc_api_Item_api_Item_177 (fuel:Nat):YF141_177:=Fg_slices_IndexFunc_api_Item_api_Item_177 fuel (F_text_begun_2 fuel)
theorem F141_177_eqg (fuel:Nat) (a:YF97) (b:(List (Int×(Int×(Int×(Bool×(Int×(Int×(Int×(Int×LI)))))))))) (k:Ev.Cont):evalFn tab (Gg141_177 a) (J141_177 fuel) kp141_177 fuel Tryz.f141 [.c (.sl (.pair (.int .i64) (.pair (.int .i64) (.pair (.int .i64) (.pair .bool (.pair (.int .i64) (.pair (.int .i64) (.pair (.int .i64) (.pair (.int .i64) (.sl (.int .u8)))))))))) b),.c (.clo 97 [])] [] k=Fg_slices_IndexFunc_api_Item_api_Item_177 fuel a b (fun r=>match r with | d=>k (.c (i6 d),[])):=by
  kernel_rfl
theorem hG141_177 (fuel:Nat):GOK Tryz.prog (G141_177 fuel):=
  gc (ok97 fuel) Tryz.func97 (by kernel_rfl) rfl <|
  gok_nil
theorem B141_177_0_blk (fuel:Nat):BlkOK Tryz.prog Tryz.f141.ntmps (.block 0 (.loop (bodyOf 0 Tryz.f141))) (B141_177_0 fuel):=bo0 (hG141_177 fuel) (by kernel_rfl) (by kernel_rfl) (B141_177_0_ok fuel)
def spg141_177 (F:YF141_177):Ev.Spec:=fun args objs k=>match args,objs with | [.c (.sl (.pair (.int .i64) (.pair (.int .i64) (.pair (.int .i64) (.pair .bool (.pair (.int .i64) (.pair (.int .i64) (.pair (.int .i64) (.pair (.int .i64) (.sl (.int .u8)))))))))) a),.c (.clo b [])],[]=>bif qb [b] [97] then F a (fun r=>match r with | d=>k (.c (i6 d),[])) else none | _,_=>none
theorem ok141_177 (fuel:Nat):FnOK Tryz.prog 141 (spg141_177 (F_slices_IndexFunc_api_Item_api_Item_177 fuel)):=by
  intro args objs kk r h
  unfold spg141_177 at h
  split at h
  · skip
    obtain ⟨hb,h⟩:=cond_some' h
    cases qb_eq hb
    exact fo1 (hG141_177 fuel) Tryz.func141 rfl (B141_177_0_blk fuel) (by kernel_rfl) _ _ kk r ((F141_177_eqg fuel (F_text_begun_2 fuel) _ kk).trans h)
  · cases h
def kp96_177 (i:Nat):Option (List Nat):=Ev.look i []
def Gg96_177 (a:YF141_177) (f:Nat):Option Ev.Spec:=Ev.look f [(141,spg141_177 a)]
def G96_177 (fuel:Nat):Nat→Option Ev.Spec:=Gg96_177 (F_slices_IndexFunc_api_Item_api_Item_177 fuel)
def Fg_slices_ContainsFunc_api_Item_api_Item_177 (fuel:Nat) (a:YF141_177) (b:(List (Int×(Int×(Int×(Bool×(Int×(Int×(Int×(Int×LI)))))))))) (k0:(Bool)→OA):OA:=(a b (fun c=>k0 (decide (c≥0))))
abbrev YF96_177:Type:=((List (Int×(Int×(Int×(Bool×(Int×(Int×(Int×(Int×LI))))))))))→(Bool→Option Ans)→Option Ans
def F_slices_ContainsFunc_api_Item_api_Item_177 (fuel:Nat):YF96_177:=Fg_slices_ContainsFunc_api_Item_api_Item_177 fuel (F_slices_IndexFunc_api_Item_api_Item_177 fuel)
theorem F96_177_eqg (fuel:Nat) (a:YF141_177) (b:(List (Int×(Int×(Int×(Bool×(Int×(Int×(Int×(Int×LI)))))))))) (k:Ev.Cont):evalFn tab (Gg96_177 a) J0 kp96_177 fuel Tryz.f96 [.c (.sl (.pair (.int .i64) (.pair (.int .i64) (.pair (.int .i64) (.pair .bool (.pair (.int .i64) (.pair (.int .i64) (.pair (.int .i64) (.pair (.int .i64) (.sl (.int .u8)))))))))) b),.c (.clo 97 [])] [] k=Fg_slices_ContainsFunc_api_Item_api_Item_177 fuel a b (fun r=>match r with | d=>k (.c (.bool d),[])):=by
  kernel_rfl
theorem hG96_177 (fuel:Nat):GOK Tryz.prog (G96_177 fuel):=
  gc (ok141_177 fuel) Tryz.func141 (by kernel_rfl) rfl <|
  gok_nil
def spg96_177 (F:YF96_177):Ev.Spec:=fun args objs k=>match args,objs with | [.c (.sl (.pair (.int .i64) (.pair (.int .i64) (.pair (.int .i64) (.pair .bool (.pair (.int .i64) (.pair (.int .i64) (.pair (.int .i64) (.pair (.int .i64) (.sl (.int .u8)))))))))) a),.c (.clo b [])],[]=>bif qb [b] [97] then F a (fun r=>match r with | d=>k (.c (.bool d),[])) else none | _,_=>none
theorem ok96_177 (fuel:Nat):FnOK Tryz.prog 96 (spg96_177 (F_slices_ContainsFunc_api_Item_api_Item_177 fuel)):=by
  intro args objs kk r h
  unfold spg96_177 at h
  split at h
  · skip
    obtain ⟨hb,h⟩:=cond_some' h
    cases qb_eq hb
    exact fo0 (hG96_177 fuel) Tryz.func96 rfl (by kernel_rfl) _ _ kk r ((F96_177_eqg fuel (F_slices_IndexFunc_api_Item_api_Item_177 fuel) _ kk).trans h)
  · cases h
def kp175 (i:Nat):Option (List Nat):=Ev.look i [(2,[0,1,7,8]),(100000,[]),(400000,[4])]
def Gg175 (f:Nat):Option Ev.Spec:=Ev.look f []
def G175 (fuel:Nat):Nat→Option Ev.Spec:=Gg175
def S_slices_Index_int_int_0 (fuel:Nat) (v:(List Int)×Int×Int×Int) (c:((List Int)×Int×Int×Int)→Option Ans) (B:(Int→Option Ans)×(Unit→Option Ans)):Option Ans:=match v,B with | (d,e,f,a),(ret,b)=>bif decide (a < f) then bif decide ((0:Int)≤a∧a < (↑d.length:Int)) then bif e==d.getD a.toNat (0:Int) then ret a else c (d,e,f,i64.wrap (a+(1:Int))) else none else b ()
def L_slices_Index_int_int_0 (fuel:Nat) (v:(List Int)×Int×Int×Int) (ret:(Int→Option Ans)) (b:(Unit→Option Ans)):Option Ans:=iter (S_slices_Index_int_int_0 fuel) fuel v (ret,b)
def T175_0 (v:LI×Int×Int×Int):Ev.St:=match v with | (a,b,d,e)=>⟨[(0,.c (.sl (.int .i64) a)),(1,.c (i6 b)),(7,.c (i6 d)),(8,.c (i6 e))],[],0,0⟩
def E175_0 (K:KT):(Int→OA)×(Unit→OA):=((fun v=>match v with | a=>K .ret ⟨[(4,.c (i6 a))],[],0,0⟩),(fun v=>match v with | ()=>K .normal ⟨[],[],0,0⟩))
theorem S175_0_ok (fuel:Nat) (R:Ev.St→OA) (K:KT) (a:LI) (b c d:Int):evalCode tab (G175 fuel) J0 kp175 fuel (bodyOf 0 Tryz.f175) (T175_0 (a,b,c,d)) (lc kp175 2 0 R K)=S_slices_Index_int_int_0 fuel (a,b,c,d) (fun v=>R (T175_0 v)) (E175_0 K):=by
  kernel_rfl
def B175_0 (fuel:Nat):Ev.Blk:=fun st K=>match canonO (kp175 2) st with | some s=>(match s with | ⟨[(a,.c (.sl (.int .i64) b)),(d,.c (i6 e)),(f,.c (i6 g)),(h,.c (i6 i))],[],j,k⟩=>bif qb [a,d,f,h,j,k] [0,1,7,8,0,0] then iter (S_slices_Index_int_int_0 fuel) fuel (b,e,g,i) (E175_0 K) else none | _=>none) | none=>none
theorem B175_0_ok (fuel:Nat) (st:Ev.St) (K:KT) (r:Ans) (h:B175_0 fuel st K=some r):evalCode tab (G175 fuel) J0 kp175 fuel (.block 0 (.loop (bodyOf 0 Tryz.f175))) st K=some r:=by
  unfold B175_0 at h
  split at h
  · rename_i s hs
    split at h
    · skip
      obtain ⟨hb,h⟩:=cond_some' h
      cases qb_eq hb
      exact blk_loop (S:=T175_0) (ks:=E175_0) (step:=S_slices_Index_int_int_0 fuel) (v:=(_,_,_,_)) (by kernel_rfl) (by kernel_rfl) (fun R K v=>by obtain ⟨a,b,c,d⟩:=v; exact S175_0_ok fuel R K a b c d) hs h
    · cases h
  · cases h
def J175 (fuel:Nat) (i:Nat):Option Ev.Blk:=Ev.look i [(100000,B175_0 fuel)]
def F_slices_Index_int_int (fuel:Nat) (a:(List Int)) (b:Int) (k0:(Int)→Option Ans):Option Ans:=(L_slices_Index_int_int_0 fuel (a,b,(↑a.length:Int),0) (fun ret0_0=>k0 ret0_0) (fun ()=>k0 ((-1:Int))))
abbrev YF175:Type:=LI→Int→(Int→Option Ans)→Option Ans
theorem F175_eq (fuel:Nat) (a:LI) (b:Int) (k:Ev.Cont):evalFn tab (G175 fuel) (J175 fuel) kp175 fuel Tryz.f175 [.c (.sl (.int .i64) a),.c (i6 b)] [] k=F_slices_Index_int_int fuel a b (fun r=>match r with | d=>k (.c (i6 d),[])):=by
  kernel_rfl
theorem hG175 (fuel:Nat):GOK Tryz.prog (G175 fuel):=
  gok_nil
theorem B175_0_blk (fuel:Nat):BlkOK Tryz.prog Tryz.f175.ntmps (.block 0 (.loop (bodyOf 0 Tryz.f175))) (B175_0 fuel):=bo0 (hG175 fuel) (by kernel_rfl) (by kernel_rfl) (B175_0_ok fuel)
def spg175 (F:YF175):Ev.Spec:=fun args objs k=>match args,objs with | [.c (.sl (.int .i64) a),.c (i6 b)],[]=>F a b (fun r=>match r with | d=>k (.c (i6 d),[])) | _,_=>none
theorem ok175 (fuel:Nat):FnOK Tryz.prog 175 (spg175 (F_slices_Index_int_int fuel)):=by
  intro args objs kk r h
  unfold spg175 at h
  split at h
  · skip
    exact fo1 (hG175 fuel) Tryz.func175 rfl (B175_0_blk fuel) (by kernel_rfl) _ _ kk r ((F175_eq fuel _ _ kk).trans h)
  · cases h
def kp140 (i:Nat):Option (List Nat):=Ev.look i []
def Gg140 (a:YF175) (f:Nat):Option Ev.Spec:=Ev.look f [(175,spg175 a)]
def G140 (fuel:Nat):Nat→Option Ev.Spec:=Gg140 (F_slices_Index_int_int fuel)
def Fg_slices_Contains_int_int (fuel:Nat) (a:YF175) (b:LI) (c:Int) (k0:(Bool)→OA):OA:=(a b c (fun d=>k0 (decide (d≥0))))
abbrev YF140:Type:=LI→Int→(Bool→Option Ans)→Option Ans
def F_slices_Contains_int_int (fuel:Nat):YF140:=Fg_slices_Contains_int_int fuel (F_slices_Index_int_int fuel)
theorem F140_eqg (fuel:Nat) (a:YF175) (b:LI) (d:Int) (k:Ev.Cont):evalFn tab (Gg140 a) J0 kp140 fuel Tryz.f140 [.c (.sl (.int .i64) b),.c (i6 d)] [] k=Fg_slices_Contains_int_int fuel a b d (fun r=>match r with | e=>k (.c (.bool e),[])):=by
  kernel_rfl
theorem hG140 (fuel:Nat):GOK Tryz.prog (G140 fuel):=
  gc (ok175 fuel) Tryz.func175 (by kernel_rfl) rfl <|
  gok_nil
def spg140 (F:YF140):Ev.Spec:=fun args objs k=>match args,objs with | [.c (.sl (.int .i64) a),.c (i6 b)],[]=>F a b (fun r=>match r with | d=>k (.c (.bool d),[])) | _,_=>none
theorem ok140 (fuel:Nat):FnOK Tryz.prog 140 (spg140 (F_slices_Contains_int_int fuel)):=by
  intro args objs kk r h
  unfold spg140 at h
  split at h
  · skip
    exact fo0 (hG140 fuel) Tryz.func140 rfl (by kernel_rfl) _ _ kk r ((F140_eqg fuel (F_slices_Index_int_int fuel) _ _ kk).trans h)
  · cases h
def kp93 (i:Nat):Option (List Nat):=Ev.look i []
def Gg93 (a:YF140) (f:Nat):Option Ev.Spec:=Ev.look f [(140,spg140 a)]
def G93 (fuel:Nat):Nat→Option Ev.Spec:=Gg93 (F_slices_Contains_int_int fuel)
def Fg_text_Valid (fuel:Nat) (f:YF140) (g b:Int) (i:Bool) (c d e:Int) (j:Bool) (a:Int) (k0:(Bool)→OA):OA:=(f ([1,2,4,8]) g (fun h=>bif h then bif decide (b≥0) then bif decide (b≤3) then bif decide (c≥(-16:Int)) then bif decide (c≤16) then bif decide (d≥0) then bif decide (d≤4) then bif e==0 then bif a==0 then k0 true else k0 (a==1) else bif e==1 then bif a==0 then k0 true else k0 (a==1) else k0 false else k0 false else k0 false else k0 false else k0 false else k0 false else k0 false else k0 false))
abbrev YF93:Type:=Int→Int→Bool→Int→Int→Int→Bool→Int→(Bool→Option Ans)→Option Ans
def F_text_Valid (fuel:Nat):YF93:=Fg_text_Valid fuel (F_slices_Contains_int_int fuel)
theorem F93_eqg (fuel:Nat) (a:YF140) (b d:Int) (e:Bool) (f g h:Int) (i:Bool) (j:Int) (k:Ev.Cont):evalFn tab (Gg93 a) J0 kp93 fuel Tryz.f93 [.agg [i6 b,i6 d,.bool e,i6 f,i6 g,i6 h,.bool i,i6 j]] [] k=Fg_text_Valid fuel a b d e f g h i j (fun r=>match r with | l=>k (.c (.bool l),[])):=by
  kernel_rfl
theorem hG93 (fuel:Nat):GOK Tryz.prog (G93 fuel):=
  gc (ok140 fuel) Tryz.func140 (by kernel_rfl) rfl <|
  gok_nil
def spg93 (F:YF93):Ev.Spec:=fun args objs k=>match args,objs with | [.agg [i6 a,i6 b,.bool d,i6 e,i6 f,i6 g,.bool h,i6 i]],[]=>F a b d e f g h i (fun r=>match r with | j=>k (.c (.bool j),[])) | _,_=>none
theorem ok93 (fuel:Nat):FnOK Tryz.prog 93 (spg93 (F_text_Valid fuel)):=by
  intro args objs kk r h
  unfold spg93 at h
  split at h
  · skip
    exact fo0 (hG93 fuel) Tryz.func93 rfl (by kernel_rfl) _ _ kk r ((F93_eqg fuel (F_slices_Contains_int_int fuel) _ _ _ _ _ _ _ _ kk).trans h)
  · cases h
def kp49 (i:Nat):Option (List Nat):=Ev.look i []
def Gg49 (a:YF33_261) (c:YF93) (b:YF96_177) (f:Nat):Option Ev.Spec:=Ev.look f [(33,spg33_261 a),(93,spg93 c),(96,spg96_177 b)]
def G49 (fuel:Nat):Nat→Option Ev.Spec:=Gg49 (F_slices_ContainsFunc_api_Bitmap_api_Bitmap_261 fuel) (F_text_Valid fuel) (F_slices_ContainsFunc_api_Item_api_Item_177 fuel)
def Fg_text_begun (fuel:Nat) (a:YF33_261) (c:YF93) (b:YF96_177) (e f:Int) (g:Bool) (h i j:Int) (k:Bool) (l:Int) (m:(List (Int×Int×LI))) (n:(List (Int×Int×Int×Bool×Int×Int×(Int×Int×LI)))) (k0:(Int)→OA):OA:=(c e f g h i j k l (fun o=>bif !o then k0 (2) else (a m (fun p=>bif p then k0 (30) else (b n (fun d=>bif d then k0 (30) else k0 (0)))))))
abbrev YF49:Type:=Int→Int→Bool→Int→Int→Int→Bool→Int→((List (Int×Int×LI)))→((List (Int×Int×Int×Bool×Int×Int×(Int×Int×LI))))→(Int→Option Ans)→Option Ans
def F_text_begun (fuel:Nat):YF49:=Fg_text_begun fuel (F_slices_ContainsFunc_api_Bitmap_api_Bitmap_261 fuel) (F_text_Valid fuel) (F_slices_ContainsFunc_api_Item_api_Item_177 fuel)
theorem F49_eqg (fuel:Nat) (a:YF33_261) (d:YF93) (b:YF96_177) (e f:Int) (g:Bool) (h i j:Int) (l:Bool) (m:Int) (n:(List (Int×Int×LI))) (o:(List (Int×Int×Int×Bool×Int×Int×(Int×Int×LI)))) (k:Ev.Cont):evalFn tab (Gg49 a d b) J0 kp49 fuel Tryz.f49 [.agg [i6 e,i6 f,.bool g,i6 h,i6 i,i6 j,.bool l,i6 m],.c (.sl (.pair (.int .i64) (.pair (.int .i64) (.sl (.int .u8)))) n),.c (.sl (.pair (.int .i64) (.pair (.int .i64) (.pair (.int .i64) (.pair .bool (.pair (.int .i64) (.pair (.int .i64) (.pair (.int .i64) (.pair (.int .i64) (.sl (.int .u8)))))))))) o)] [] k=Fg_text_begun fuel a d b e f g h i j l m n o (fun r=>match r with | p=>k (.c (i6 p),[])):=by
  kernel_rfl
theorem hG49 (fuel:Nat):GOK Tryz.prog (G49 fuel):=
  gc (ok33_261 fuel) Tryz.func33 (by kernel_rfl) rfl <|
  gc (ok93 fuel) Tryz.func93 (by kernel_rfl) rfl <|
  gc (ok96_177 fuel) Tryz.func96 (by kernel_rfl) rfl <|
  gok_nil
def spg49 (F:YF49):Ev.Spec:=fun args objs k=>match args,objs with | [.agg [i6 a,i6 b,.bool d,i6 e,i6 f,i6 g,.bool h,i6 i],.c (.sl (.pair (.int .i64) (.pair (.int .i64) (.sl (.int .u8)))) j),.c (.sl (.pair (.int .i64) (.pair (.int .i64) (.pair (.int .i64) (.pair .bool (.pair (.int .i64) (.pair (.int .i64) (.pair (.int .i64) (.pair (.int .i64) (.sl (.int .u8)))))))))) l)],[]=>F a b d e f g h i j l (fun r=>match r with | m=>k (.c (i6 m),[])) | _,_=>none
theorem ok49 (fuel:Nat):FnOK Tryz.prog 49 (spg49 (F_text_begun fuel)):=by
  intro args objs kk r h
  unfold spg49 at h
  split at h
  · skip
    exact fo0 (hG49 fuel) Tryz.func49 rfl (by kernel_rfl) _ _ kk r ((F49_eqg fuel (F_slices_ContainsFunc_api_Bitmap_api_Bitmap_261 fuel) (F_text_Valid fuel) (F_slices_ContainsFunc_api_Item_api_Item_177 fuel) _ _ _ _ _ _ _ _ _ _ kk).trans h)
  · cases h
def kp90 (i:Nat):Option (List Nat):=Ev.look i []
def Gg90 (f:Nat):Option Ev.Spec:=Ev.look f []
def G90 (fuel:Nat):Nat→Option Ev.Spec:=Gg90
def F_text_near (fuel:Nat) (a b:Int) (k0:(Bool)→Option Ans):Option Ans:=bif decide (a≥i64.wrap (0 - b)) then k0 (decide (a≤b)) else k0 false
abbrev YF90:Type:=Int→Int→(Bool→Option Ans)→Option Ans
theorem F90_eq (fuel:Nat) (a b:Int) (k:Ev.Cont):evalFn tab (G90 fuel) J0 kp90 fuel Tryz.f90 [.c (i6 a),.c (i6 b)] [] k=F_text_near fuel a b (fun r=>match r with | d=>k (.c (.bool d),[])):=by
  kernel_rfl
theorem hG90 (fuel:Nat):GOK Tryz.prog (G90 fuel):=
  gok_nil
def spg90 (F:YF90):Ev.Spec:=fun args objs k=>match args,objs with | [.c (i6 a),.c (i6 b)],[]=>F a b (fun r=>match r with | d=>k (.c (.bool d),[])) | _,_=>none
theorem ok90 (fuel:Nat):FnOK Tryz.prog 90 (spg90 (F_text_near fuel)):=by
  intro args objs kk r h
  unfold spg90 at h
  split at h
  · skip
    exact fo0 (hG90 fuel) Tryz.func90 rfl (by kernel_rfl) _ _ kk r ((F90_eq fuel _ _ kk).trans h)
  · cases h
def kp99 (i:Nat):Option (List Nat):=Ev.look i []
def Gg99 (a:YF90) (f:Nat):Option Ev.Spec:=Ev.look f [(90,spg90 a)]
def G99 (fuel:Nat):Nat→Option Ev.Spec:=Gg99 (F_text_near fuel)
def Fg_text_rightItem (fuel:Nat) (a:YF90) (q r:Int) (s:Bool) (t u v:Int) (m:Bool) (w n:Int) (d e f:Int) (g:Bool) (b c:Int) (h i:Int) (j:LI) (k0:(Bool)→OA):OA:=bif decide (d < 0) then k0 false else bif decide (d≥n) then k0 false else (a e (100000) (fun o=>bif !o then k0 false else (a f (100000) (fun p=>bif !p then k0 false else bif !g then bif b==0 then bif c==0 then bif h==0 then bif i==0 then k0 ((↑j.length:Int)==0) else k0 false else k0 false else k0 false else k0 false else bif m then (a b (200) (fun k=>bif k then (a c (200) (fun l=>k0 l)) else k0 false)) else k0 false))))
abbrev YF99:Type:=Int→Int→Bool→Int→Int→Int→Bool→Int→Int→Int→Int→Int→Bool→Int→Int→Int→Int→LI→(Bool→Option Ans)→Option Ans
def F_text_rightItem (fuel:Nat):YF99:=Fg_text_rightItem fuel (F_text_near fuel)
theorem F99_eqg (fuel:Nat) (a:YF90) (l m:Int) (n:Bool) (o p q:Int) (s:Bool) (t u:Int) (v b d:Int) (e:Bool) (f g:Int) (h i:Int) (j:LI) (k:Ev.Cont):evalFn tab (Gg99 a) J0 kp99 fuel Tryz.f99 [.agg [i6 l,i6 m,.bool n,i6 o,i6 p,i6 q,.bool s,i6 t],.c (i6 u),.agg [i6 v,i6 b,i6 d,.bool e,i6 f,i6 g,i6 h,i6 i,.sl (.int .u8) j]] [] k=Fg_text_rightItem fuel a l m n o p q s t u v b d e f g h i j (fun r=>match r with | w=>k (.c (.bool w),[])):=by
  kernel_rfl
theorem hG99 (fuel:Nat):GOK Tryz.prog (G99 fuel):=
  gc (ok90 fuel) Tryz.func90 (by kernel_rfl) rfl <|
  gok_nil
def spg99 (F:YF99):Ev.Spec:=fun args objs k=>match args,objs with | [.agg [i6 j,i6 l,.bool m,i6 n,i6 o,i6 p,.bool q,i6 s],.c (i6 t),.agg [i6 u,i6 a,i6 b,.bool d,i6 e,i6 f,i6 g,i6 h,.sl (.int .u8) i]],[]=>F j l m n o p q s t u a b d e f g h i (fun r=>match r with | v=>k (.c (.bool v),[])) | _,_=>none
theorem ok99 (fuel:Nat):FnOK Tryz.prog 99 (spg99 (F_text_rightItem fuel)):=by
  intro args objs kk r h
  unfold spg99 at h
  split at h
  · skip
    exact fo0 (hG99 fuel) Tryz.func99 rfl (by kernel_rfl) _ _ kk r ((F99_eqg fuel (F_text_near fuel) _ _ _ _ _ _ _ _ _ _ _ _ _ _ _ _ _ _ kk).trans h)
  · cases h
def kp98_e36 (i:Nat):Option (List Nat):=Ev.look i []
def Gg98_e36 (a:YF99) (f:Nat):Option Ev.Spec:=Ev.look f [(99,spg99 a)]
def G98_e36 (fuel:Nat):Nat→Option Ev.Spec:=Gg98_e36 (F_text_rightItem fuel)
def Fg_text_right_1_e36 (fuel:Nat) (j:YF99) (k l m:Int) (n:Bool) (o p:Int) (q r:Int) (s:LI) (i a:Int) (b:Bool) (c d e:Int) (f:Bool) (g h:Int) (k0:(Bool×Int×Int×Bool×Int×Int×Int×Bool×Int×Int)→OA):OA:=(j i a b c d e f g h k l m n o p q r s (fun t=>k0 (!t,i,a,b,c,d,e,f,g,h)))
abbrev YF98_e36:Type:=Int→Int→Int→Bool→Int→Int→Int→Int→LI→Int→Int→Bool→Int→Int→Int→Bool→Int→Int→((Bool×Int×Int×Bool×Int×Int×Int×Bool×Int×Int)→Option Ans)→Option Ans
def F_text_right_1_e36 (fuel:Nat):YF98_e36:=Fg_text_right_1_e36 fuel (F_text_rightItem fuel)
theorem F98_e36_eqg (fuel:Nat) (a:YF99) (l m n:Int) (o:Bool) (p q:Int) (s t:Int) (u:LI) (v b:Int) (d:Bool) (e f g:Int) (h:Bool) (i j:Int) (k:Ev.Cont):evalFn tab (Gg98_e36 a) J0 kp98_e36 fuel Tryz.f98 [.agg [i6 l,i6 m,i6 n,.bool o,i6 p,i6 q,i6 s,i6 t,.sl (.int .u8) u],.c (.ptr 0 0),.c (.ptr 1 0)] [.cells 51 [i6 v,i6 b,.bool d,i6 e,i6 f,i6 g,.bool h,i6 i],.cells 3 [i6 j]] k=Fg_text_right_1_e36 fuel a l m n o p q s t u v b d e f g h i j (fun r=>match r with | (w,x,y,z,A,B,C,D,E,F)=>k (.c (.bool w),[.cells 51 [i6 x,i6 y,.bool z,i6 A,i6 B,i6 C,.bool D,i6 E],.cells 3 [i6 F]])):=by
  kernel_rfl
theorem hG98_e36 (fuel:Nat):GOK Tryz.prog (G98_e36 fuel):=
  gc (ok99 fuel) Tryz.func99 (by kernel_rfl) rfl <|
  gok_nil
def spg98_e36 (F:YF98_e36):Ev.Spec:=fun args objs k=>match args,objs with | [.agg [i6 j,i6 l,i6 m,.bool n,i6 o,i6 p,i6 q,i6 s,.sl (.int .u8) t],.c (.ptr u v),.c (.ptr w x)],[.cells y [i6 z,i6 a,.bool b,i6 d,i6 e,i6 f,.bool g,i6 h],.cells A [i6 i]]=>bif qb [u,v,w,x,y,A] [0,0,1,0,51,3] then F j l m n o p q s t z a b d e f g h i (fun r=>match r with | (B,C,D,E,G,H,I,J,K,L)=>k (.c (.bool B),[.cells 51 [i6 C,i6 D,.bool E,i6 G,i6 H,i6 I,.bool J,i6 K],.cells 3 [i6 L]])) else none | _,_=>none
theorem ok98_e36 (fuel:Nat):FnOK Tryz.prog 98 (spg98_e36 (F_text_right_1_e36 fuel)):=by
  intro args objs kk r h
  unfold spg98_e36 at h
  split at h
  · skip
    obtain ⟨hb,h⟩:=cond_some' h
    cases qb_eq hb
    exact fo0 (hG98_e36 fuel) Tryz.func98 rfl (by kernel_rfl) _ _ kk r ((F98_e36_eqg fuel (F_text_rightItem fuel) _ _ _ _ _ _ _ _ _ _ _ _ _ _ _ _ _ _ kk).trans h)
  · cases h
def kp141_766 (i:Nat):Option (List Nat):=Ev.look i [(2,[0,1,7,8]),(100000,[]),(400000,[4])]
def Gg141_766 (a:YF98_e36) (f:Nat):Option Ev.Spec:=Ev.look f [(98,spg98_e36 a)]
def G141_766 (fuel:Nat):Nat→Option Ev.Spec:=Gg141_766 (F_text_right_1_e36 fuel)
abbrev V_slices_IndexFunc_api_Item_api_Item_766_0:Type:=(List (Int×(Int×(Int×(Bool×(Int×(Int×(Int×(Int×LI)))))))))×Int×Int×Int×Int×Bool×Int×Int×Int×Bool×Int×Int
abbrev W_slices_IndexFunc_api_Item_api_Item_766_0:Type:=(Int×Int×Int×Bool×Int×Int×Int×Bool×Int×Int→OA)×(Int×Int×Bool×Int×Int×Int×Bool×Int×Int→OA)
def Sg_slices_IndexFunc_api_Item_api_Item_766_0 (fuel:Nat) (x:YF98_e36) (d:(List (Int×(Int×(Int×(Bool×(Int×(Int×(Int×(Int×LI)))))))))) (p a:Int) (q r:Int) (s:Bool) (t u v:Int) (w:Bool) (n o:Int) (c:V_slices_IndexFunc_api_Item_api_Item_766_0→OA) (B:W_slices_IndexFunc_api_Item_api_Item_766_0):OA:=match B with | (ret,b)=>bif decide (a < p) then bif decide (0≤a∧a < (↑d.length:Int)) then (x ((d.getD a.toNat (0,0,0,false,0,0,0,0,[])).fst) ((d.getD a.toNat (0,0,0,false,0,0,0,0,[])).snd.fst) ((d.getD a.toNat (0,0,0,false,0,0,0,0,[])).snd.snd.fst) ((d.getD a.toNat (0,0,0,false,0,0,0,0,[])).snd.snd.snd.fst) ((d.getD a.toNat (0,0,0,false,0,0,0,0,[])).snd.snd.snd.snd.fst) ((d.getD a.toNat (0,0,0,false,0,0,0,0,[])).snd.snd.snd.snd.snd.fst) ((d.getD a.toNat (0,0,0,false,0,0,0,0,[])).snd.snd.snd.snd.snd.snd.fst) ((d.getD a.toNat (0,0,0,false,0,0,0,0,[])).snd.snd.snd.snd.snd.snd.snd.fst) ((d.getD a.toNat (0,0,0,false,0,0,0,0,[])).snd.snd.snd.snd.snd.snd.snd.snd) q r s t u v w n o (fun (y,e,f,g,h,i,j,k,l,m)=>bif y then ret (a,e,f,g,h,i,j,k,l,m) else c (d,p,i64.wrap (a+1),e,f,g,h,i,j,k,l,m))) else none else b (q,r,s,t,u,v,w,n,o)
def S_slices_IndexFunc_api_Item_api_Item_766_0 (fuel:Nat) (v:(List (Int×(Int×(Int×(Bool×(Int×(Int×(Int×(Int×(List Int))))))))))×Int×Int×Int×Int×Bool×Int×Int×Int×Bool×Int×Int) (c:((List (Int×(Int×(Int×(Bool×(Int×(Int×(Int×(Int×(List Int))))))))))×Int×Int×Int×Int×Bool×Int×Int×Int×Bool×Int×Int)→Option Ans) (B:(Int×Int×Int×Bool×Int×Int×Int×Bool×Int×Int→Option Ans)×(Int×Int×Bool×Int×Int×Int×Bool×Int×Int→Option Ans)):Option Ans:=match v with | (d,e,f,g,h,i,j,k,l,m,a,b)=>Sg_slices_IndexFunc_api_Item_api_Item_766_0 fuel (F_text_right_1_e36 fuel) d e f g h i j k l m a b c B
def L_slices_IndexFunc_api_Item_api_Item_766_0 (fuel:Nat) (v:V_slices_IndexFunc_api_Item_api_Item_766_0) (ret:(Int×Int×Int×Bool×Int×Int×Int×Bool×Int×Int→Option Ans)) (b:(Int×Int×Bool×Int×Int×Int×Bool×Int×Int→Option Ans)):Option Ans:=iter (S_slices_IndexFunc_api_Item_api_Item_766_0 fuel) fuel v (ret,b)
def T141_766_0 (v:V_slices_IndexFunc_api_Item_api_Item_766_0):Ev.St:=match v with | (d,e,f,g,h,i,j,k,l,m,a,b)=>⟨[(0,.c (.sl (.pair (.int .i64) (.pair (.int .i64) (.pair (.int .i64) (.pair .bool (.pair (.int .i64) (.pair (.int .i64) (.pair (.int .i64) (.pair (.int .i64) (.sl (.int .u8)))))))))) d)),(1,.c (.clo 98 [0,1])),(7,.c (i6 e)),(8,.c (i6 f))],[(0,.cells 51 [i6 g,i6 h,.bool i,i6 j,i6 k,i6 l,.bool m,i6 a]),(1,.cells 3 [i6 b])],2,2⟩
def E141_766_0 (K:KT):W_slices_IndexFunc_api_Item_api_Item_766_0:=((fun v=>match v with | (a,b,d,e,f,g,h,i,j,k)=>K .ret ⟨[(4,.c (i6 a))],[(0,.cells 51 [i6 b,i6 d,.bool e,i6 f,i6 g,i6 h,.bool i,i6 j]),(1,.cells 3 [i6 k])],2,2⟩),(fun v=>match v with | (a,b,d,e,f,g,h,i,j)=>K .normal ⟨[],[(0,.cells 51 [i6 a,i6 b,.bool d,i6 e,i6 f,i6 g,.bool h,i6 i]),(1,.cells 3 [i6 j])],2,2⟩))
theorem S141_766_0_okg (fuel:Nat) (a:YF98_e36) (R:Ev.St→OA) (K:KT) (d:(List (Int×(Int×(Int×(Bool×(Int×(Int×(Int×(Int×LI)))))))))) (e f:Int) (g h:Int) (i:Bool) (j k l:Int) (m:Bool) (b c:Int):evalCode tab (Gg141_766 a) J0 kp141_766 fuel (bodyOf 0 Tryz.f141) (T141_766_0 (d,e,f,g,h,i,j,k,l,m,b,c)) (lc kp141_766 2 0 R K)=Sg_slices_IndexFunc_api_Item_api_Item_766_0 fuel a d e f g h i j k l m b c (fun v=>R (T141_766_0 v)) (E141_766_0 K):=by
  kernel_rfl
def B141_766_0 (fuel:Nat):Ev.Blk:=fun st K=>match canonO (kp141_766 2) st with | some s=>(match s with | ⟨[(g,.c (.sl (.pair (.int .i64) (.pair (.int .i64) (.pair (.int .i64) (.pair .bool (.pair (.int .i64) (.pair (.int .i64) (.pair (.int .i64) (.pair (.int .i64) (.sl (.int .u8)))))))))) h)),(i,.c (.clo j [k,l])),(m,.c (i6 n)),(o,.c (i6 p))],[(q,.cells r [i6 t,i6 u,.bool v,i6 w,i6 x,i6 y,.bool z,i6 a]),(A,.cells b [i6 d])],e,f⟩=>bif qb [g,i,j,k,l,m,o,q,r,A,b,e,f] [0,1,98,0,1,7,8,0,51,1,3,2,2] then iter (S_slices_IndexFunc_api_Item_api_Item_766_0 fuel) fuel (h,n,p,t,u,v,w,x,y,z,a,d) (E141_766_0 K) else none | _=>none) | none=>none
theorem B141_766_0_ok (fuel:Nat) (st:Ev.St) (K:KT) (r:Ans) (h:B141_766_0 fuel st K=some r):evalCode tab (G141_766 fuel) J0 kp141_766 fuel (.block 0 (.loop (bodyOf 0 Tryz.f141))) st K=some r:=by
  unfold B141_766_0 at h
  split at h
  · rename_i s hs
    split at h
    · skip
      obtain ⟨hb,h⟩:=cond_some' h
      cases qb_eq hb
      exact blk_loop (S:=T141_766_0) (ks:=E141_766_0) (step:=S_slices_IndexFunc_api_Item_api_Item_766_0 fuel) (v:=(_,_,_,_,_,_,_,_,_,_,_,_)) (by kernel_rfl) (by kernel_rfl) (fun R K v=>by obtain ⟨c,d,e,f,g,i,j,k,l,m,a,b⟩:=v; exact S141_766_0_okg fuel (F_text_right_1_e36 fuel) R K c d e f g i j k l m a b) hs h
    · cases h
  · cases h
def J141_766 (fuel:Nat) (i:Nat):Option Ev.Blk:=Ev.look i [(100000,B141_766_0 fuel)]
def Fg_slices_IndexFunc_api_Item_api_Item_766 (fuel:Nat) (t:YF98_e36) (a:(List (Int×(Int×(Int×(Bool×(Int×(Int×(Int×(Int×LI)))))))))) (k l:Int) (m:Bool) (n o p:Int) (q:Bool) (r s:Int) (k0:(Int×Int×Int×Bool×Int×Int×Int×Bool×Int×Int)→OA):OA:=(L_slices_IndexFunc_api_Item_api_Item_766_0 fuel (a,(↑a.length:Int),0,k,l,m,n,o,p,q,r,s) (fun (ret0_0,ret0_1,ret0_2,ret0_3,ret0_4,ret0_5,ret0_6,ret0_7,ret0_8,ret0_9)=>k0 (ret0_0,ret0_1,ret0_2,ret0_3,ret0_4,ret0_5,ret0_6,ret0_7,ret0_8,ret0_9)) (fun (b,c,d,e,f,g,h,i,j)=>k0 ((-1:Int),b,c,d,e,f,g,h,i,j)))
abbrev YF141_766:Type:=((List (Int×(Int×(Int×(Bool×(Int×(Int×(Int×(Int×LI))))))))))→Int→Int→Bool→Int→Int→Int→Bool→Int→Int→((Int×Int×Int×Bool×Int×Int×Int×Bool×Int×Int)→Option Ans)→Option Ans
def F_slices_IndexFunc_api_Item_api_Item_766 (fuel:Nat):YF141_766:=Fg_slices_IndexFunc_api_Item_api_Item_766 fuel (F_text_right_1_e36 fuel)
theorem F141_766_eqg (fuel:Nat) (a:YF98_e36) (b:(List (Int×(Int×(Int×(Bool×(Int×(Int×(Int×(Int×LI)))))))))) (d e:Int) (f:Bool) (g h i:Int) (j:Bool) (l m:Int) (k:Ev.Cont):evalFn tab (Gg141_766 a) (J141_766 fuel) kp141_766 fuel Tryz.f141 [.c (.sl (.pair (.int .i64) (.pair (.int .i64) (.pair (.int .i64) (.pair .bool (.pair (.int .i64) (.pair (.int .i64) (.pair (.int .i64) (.pair (.int .i64) (.sl (.int .u8)))))))))) b),.c (.clo 98 [0,1])] [.cells 51 [i6 d,i6 e,.bool f,i6 g,i6 h,i6 i,.bool j,i6 l],.cells 3 [i6 m]] k=Fg_slices_IndexFunc_api_Item_api_Item_766 fuel a b d e f g h i j l m (fun r=>match r with | (n,o,p,q,s,t,u,v,w,x)=>k (.c (i6 n),[.cells 51 [i6 o,i6 p,.bool q,i6 s,i6 t,i6 u,.bool v,i6 w],.cells 3 [i6 x]])):=by
  kernel_rfl
theorem hG141_766 (fuel:Nat):GOK Tryz.prog (G141_766 fuel):=
  gc (ok98_e36 fuel) Tryz.func98 (by kernel_rfl) rfl <|
  gok_nil
theorem B141_766_0_blk (fuel:Nat):BlkOK Tryz.prog Tryz.f141.ntmps (.block 0 (.loop (bodyOf 0 Tryz.f141))) (B141_766_0 fuel):=bo0 (hG141_766 fuel) (by kernel_rfl) (by kernel_rfl) (B141_766_0_ok fuel)
def spg141_766 (F:YF141_766):Ev.Spec:=fun args objs k=>match args,objs with | [.c (.sl (.pair (.int .i64) (.pair (.int .i64) (.pair (.int .i64) (.pair .bool (.pair (.int .i64) (.pair (.int .i64) (.pair (.int .i64) (.pair (.int .i64) (.sl (.int .u8)))))))))) a),.c (.clo b [d,e])],[.cells f [i6 g,i6 h,.bool i,i6 j,i6 l,i6 m,.bool n,i6 o],.cells p [i6 q]]=>bif qb [b,d,e,f,p] [98,0,1,51,3] then F a g h i j l m n o q (fun r=>match r with | (s,t,u,v,w,x,y,z,A,B)=>k (.c (i6 s),[.cells 51 [i6 t,i6 u,.bool v,i6 w,i6 x,i6 y,.bool z,i6 A],.cells 3 [i6 B]])) else none | _,_=>none
theorem ok141_766 (fuel:Nat):FnOK Tryz.prog 141 (spg141_766 (F_slices_IndexFunc_api_Item_api_Item_766 fuel)):=by
  intro args objs kk r h
  unfold spg141_766 at h
  split at h
  · skip
    obtain ⟨hb,h⟩:=cond_some' h
    cases qb_eq hb
    exact fo1 (hG141_766 fuel) Tryz.func141 rfl (B141_766_0_blk fuel) (by kernel_rfl) _ _ kk r ((F141_766_eqg fuel (F_text_right_1_e36 fuel) _ _ _ _ _ _ _ _ _ _ kk).trans h)
  · cases h
def kp96_766 (i:Nat):Option (List Nat):=Ev.look i []
def Gg96_766 (a:YF141_766) (f:Nat):Option Ev.Spec:=Ev.look f [(141,spg141_766 a)]
def G96_766 (fuel:Nat):Nat→Option Ev.Spec:=Gg96_766 (F_slices_IndexFunc_api_Item_api_Item_766 fuel)
def Fg_slices_ContainsFunc_api_Item_api_Item_766 (fuel:Nat) (a:YF141_766) (l:(List (Int×(Int×(Int×(Bool×(Int×(Int×(Int×(Int×LI)))))))))) (m n:Int) (o:Bool) (p q r:Int) (s:Bool) (t u:Int) (k0:(Bool×Int×Int×Bool×Int×Int×Int×Bool×Int×Int)→OA):OA:=(a l m n o p q r s t u (fun (b,c,d,e,f,g,h,i,j,k)=>k0 (decide (b≥0),c,d,e,f,g,h,i,j,k)))
abbrev YF96_766:Type:=((List (Int×(Int×(Int×(Bool×(Int×(Int×(Int×(Int×LI))))))))))→Int→Int→Bool→Int→Int→Int→Bool→Int→Int→((Bool×Int×Int×Bool×Int×Int×Int×Bool×Int×Int)→Option Ans)→Option Ans
def F_slices_ContainsFunc_api_Item_api_Item_766 (fuel:Nat):YF96_766:=Fg_slices_ContainsFunc_api_Item_api_Item_766 fuel (F_slices_IndexFunc_api_Item_api_Item_766 fuel)
theorem F96_766_eqg (fuel:Nat) (a:YF141_766) (b:(List (Int×(Int×(Int×(Bool×(Int×(Int×(Int×(Int×LI)))))))))) (d e:Int) (f:Bool) (g h i:Int) (j:Bool) (l m:Int) (k:Ev.Cont):evalFn tab (Gg96_766 a) J0 kp96_766 fuel Tryz.f96 [.c (.sl (.pair (.int .i64) (.pair (.int .i64) (.pair (.int .i64) (.pair .bool (.pair (.int .i64) (.pair (.int .i64) (.pair (.int .i64) (.pair (.int .i64) (.sl (.int .u8)))))))))) b),.c (.clo 98 [0,1])] [.cells 51 [i6 d,i6 e,.bool f,i6 g,i6 h,i6 i,.bool j,i6 l],.cells 3 [i6 m]] k=Fg_slices_ContainsFunc_api_Item_api_Item_766 fuel a b d e f g h i j l m (fun r=>match r with | (n,o,p,q,s,t,u,v,w,x)=>k (.c (.bool n),[.cells 51 [i6 o,i6 p,.bool q,i6 s,i6 t,i6 u,.bool v,i6 w],.cells 3 [i6 x]])):=by
  kernel_rfl
theorem hG96_766 (fuel:Nat):GOK Tryz.prog (G96_766 fuel):=
  gc (ok141_766 fuel) Tryz.func141 (by kernel_rfl) rfl <|
  gok_nil
def spg96_766 (F:YF96_766):Ev.Spec:=fun args objs k=>match args,objs with | [.c (.sl (.pair (.int .i64) (.pair (.int .i64) (.pair (.int .i64) (.pair .bool (.pair (.int .i64) (.pair (.int .i64) (.pair (.int .i64) (.pair (.int .i64) (.sl (.int .u8)))))))))) a),.c (.clo b [d,e])],[.cells f [i6 g,i6 h,.bool i,i6 j,i6 l,i6 m,.bool n,i6 o],.cells p [i6 q]]=>bif qb [b,d,e,f,p] [98,0,1,51,3] then F a g h i j l m n o q (fun r=>match r with | (s,t,u,v,w,x,y,z,A,B)=>k (.c (.bool s),[.cells 51 [i6 t,i6 u,.bool v,i6 w,i6 x,i6 y,.bool z,i6 A],.cells 3 [i6 B]])) else none | _,_=>none
theorem ok96_766 (fuel:Nat):FnOK Tryz.prog 96 (spg96_766 (F_slices_ContainsFunc_api_Item_api_Item_766 fuel)):=by
  intro args objs kk r h
  unfold spg96_766 at h
  split at h
  · skip
    obtain ⟨hb,h⟩:=cond_some' h
    cases qb_eq hb
    exact fo0 (hG96_766 fuel) Tryz.func96 rfl (by kernel_rfl) _ _ kk r ((F96_766_eqg fuel (F_slices_IndexFunc_api_Item_api_Item_766 fuel) _ _ _ _ _ _ _ _ _ _ kk).trans h)
  · cases h
def kp50 (i:Nat):Option (List Nat):=Ev.look i []
def Gg50 (a:YF96_766) (f:Nat):Option Ev.Spec:=Ev.look f [(96,spg96_766 a)]
def G50 (fuel:Nat):Nat→Option Ev.Spec:=Gg50 (F_slices_ContainsFunc_api_Item_api_Item_766 fuel)
def Fg_text_right (fuel:Nat) (c:YF96_766) (e f:Int) (g:Bool) (h i j:Int) (k:Bool) (l a:Int) (b:(List (Int×Int×Int×Bool×Int×Int×(Int×Int×LI)))) (k0:(Bool)→OA):OA:=bif decide (a≤60) then bif decide ((↑b.length:Int)≤300) then (c b e f g h i j k l a (fun (d,m,n,o,p,q,r,s,t,u)=>k0 !d)) else k0 false else k0 false
abbrev YF50:Type:=Int→Int→Bool→Int→Int→Int→Bool→Int→Int→((List (Int×Int×Int×Bool×Int×Int×(Int×Int×LI))))→(Bool→Option Ans)→Option Ans
def F_text_right (fuel:Nat):YF50:=Fg_text_right fuel (F_slices_ContainsFunc_api_Item_api_Item_766 fuel)
theorem F50_eqg (fuel:Nat) (a:YF96_766) (b d:Int) (e:Bool) (f g h:Int) (i:Bool) (j l:Int) (m:(List (Int×Int×Int×Bool×Int×Int×(Int×Int×LI)))) (k:Ev.Cont):evalFn tab (Gg50 a) J0 kp50 fuel Tryz.f50 [.agg [i6 b,i6 d,.bool e,i6 f,i6 g,i6 h,.bool i,i6 j],.c (i6 l),.c (.sl (.pair (.int .i64) (.pair (.int .i64) (.pair (.int .i64) (.pair .bool (.pair (.int .i64) (.pair (.int .i64) (.pair (.int .i64) (.pair (.int .i64) (.sl (.int .u8)))))))))) m)] [] k=Fg_text_right fuel a b d e f g h i j l m (fun r=>match r with | n=>k (.c (.bool n),[])):=by
  kernel_rfl
theorem hG50 (fuel:Nat):GOK Tryz.prog (G50 fuel):=
  gc (ok96_766 fuel) Tryz.func96 (by kernel_rfl) rfl <|
  gok_nil
def spg50 (F:YF50):Ev.Spec:=fun args objs k=>match args,objs with | [.agg [i6 a,i6 b,.bool d,i6 e,i6 f,i6 g,.bool h,i6 i],.c (i6 j),.c (.sl (.pair (.int .i64) (.pair (.int .i64) (.pair (.int .i64) (.pair .bool (.pair (.int .i64) (.pair (.int .i64) (.pair (.int .i64) (.pair (.int .i64) (.sl (.int .u8)))))))))) l)],[]=>F a b d e f g h i j l (fun r=>match r with | m=>k (.c (.bool m),[])) | _,_=>none
theorem ok50 (fuel:Nat):FnOK Tryz.prog 50 (spg50 (F_text_right fuel)):=by
  intro args objs kk r h
  unfold spg50 at h
  split at h
  · skip
    exact fo0 (hG50 fuel) Tryz.func50 rfl (by kernel_rfl) _ _ kk r ((F50_eqg fuel (F_slices_ContainsFunc_api_Item_api_Item_766 fuel) _ _ _ _ _ _ _ _ _ _ kk).trans h)
  · cases h
def kp20 (i:Nat):Option (List Nat):=Ev.look i [(8,[2,7,22,23]),(100000,[2,7]),(400000,[4,5])]
def Gg20 (b:YF49) (c:YF50) (d:YF51) (e:YF52) (a:YF53_43d) (f:Nat):Option Ev.Spec:=Ev.look f [(49,spg49 b),(50,spg50 c),(51,spg51 d),(52,spg52 e),(1000053,spg53_43d a)]
def G20 (fuel:Nat):Nat→Option Ev.Spec:=Gg20 (F_text_begun fuel) (F_text_right fuel) (F_slices_Clone_api_Item_api_Item fuel) (F_slices_Clone_byte_byte fuel) (F_slices_SortStableFunc_api_Item_api_Item_43d fuel)
abbrev V_text_Order_0:Type:=Int×Int×Int×Int×Bool×Int×Int×Int×Bool×Int×(List (Int×(Int×(Int×(Bool×(Int×(Int×(Int×(Int×LI)))))))))
abbrev W_text_Order_0:Type:=(Int×Int×Bool×Int×Int×Int×Bool×Int×(List (Int×(Int×(Int×(Bool×(Int×(Int×(Int×(Int×LI)))))))))→OA)
def Sg_text_Order_0 (fuel:Nat) (q:YF49) (r:YF50) (s:YF51) (n:YF52) (p:YF53_43d) (e a:Int) (f g:Int) (h:Bool) (i j k:Int) (l:Bool) (m:Int) (d:(List (Int×(Int×(Int×(Bool×(Int×(Int×(Int×(Int×LI)))))))))) (c:V_text_Order_0→OA) (B:W_text_Order_0):OA:=match B with | b=>bif decide (a < e) then bif decide (0≤a∧a < (↑d.length:Int)) then (n ((d.getD a.toNat (0,0,0,false,0,0,0,0,[])).snd.snd.snd.snd.snd.snd.snd.snd) (fun o=>bif decide (0≤a∧a < (↑d.length:Int)) then c (e,i64.wrap (a+1),f,g,h,i,j,k,l,m,d.set a.toNat ((d.getD a.toNat (0,0,0,false,0,0,0,0,[])).fst,(d.getD a.toNat (0,0,0,false,0,0,0,0,[])).snd.fst,(d.getD a.toNat (0,0,0,false,0,0,0,0,[])).snd.snd.fst,(d.getD a.toNat (0,0,0,false,0,0,0,0,[])).snd.snd.snd.fst,(d.getD a.toNat (0,0,0,false,0,0,0,0,[])).snd.snd.snd.snd.fst,(d.getD a.toNat (0,0,0,false,0,0,0,0,[])).snd.snd.snd.snd.snd.fst,(d.getD a.toNat (0,0,0,false,0,0,0,0,[])).snd.snd.snd.snd.snd.snd.fst,(d.getD a.toNat (0,0,0,false,0,0,0,0,[])).snd.snd.snd.snd.snd.snd.snd.fst,o)) else none)) else none else b (f,g,h,i,j,k,l,m,d)
def S_text_Order_0 (fuel:Nat) (v:Int×Int×Int×Int×Bool×Int×Int×Int×Bool×Int×(List (Int×(Int×(Int×(Bool×(Int×(Int×(Int×(Int×(List Int))))))))))) (c:(Int×Int×Int×Int×Bool×Int×Int×Int×Bool×Int×(List (Int×(Int×(Int×(Bool×(Int×(Int×(Int×(Int×(List Int)))))))))))→Option Ans) (B:(Int×Int×Bool×Int×Int×Int×Bool×Int×(List (Int×(Int×(Int×(Bool×(Int×(Int×(Int×(Int×(List Int))))))))))→Option Ans)):Option Ans:=match v with | (b,d,e,f,g,h,i,j,k,l,a)=>Sg_text_Order_0 fuel (F_text_begun fuel) (F_text_right fuel) (F_slices_Clone_api_Item_api_Item fuel) (F_slices_Clone_byte_byte fuel) (F_slices_SortStableFunc_api_Item_api_Item_43d fuel) b d e f g h i j k l a c B
def L_text_Order_0 (fuel:Nat) (v:V_text_Order_0) (b:W_text_Order_0):Option Ans:=iter (S_text_Order_0 fuel) fuel v b
def T20_0 (v:V_text_Order_0):Ev.St:=match v with | (b,d,e,f,g,h,i,j,k,l,a)=>⟨[(2,.c (.ptr 0 0)),(7,.c (.own 1)),(22,.c (i6 b)),(23,.c (i6 d))],[(0,.cells 51 [i6 e,i6 f,.bool g,i6 h,i6 i,i6 j,.bool k,i6 l]),(1,.vec 85 (.pair (.int .i64) (.pair (.int .i64) (.pair (.int .i64) (.pair .bool (.pair (.int .i64) (.pair (.int .i64) (.pair (.int .i64) (.pair (.int .i64) (.sl (.int .u8)))))))))) a true)],2,0⟩
def E20_0 (K:KT):W_text_Order_0:=(fun v=>match v with | (a,b,d,e,f,g,h,i,j)=>K .normal ⟨[(2,.c (.ptr 0 0)),(7,.c (.own 1))],[(0,.cells 51 [i6 a,i6 b,.bool d,i6 e,i6 f,i6 g,.bool h,i6 i]),(1,.vec 85 (.pair (.int .i64) (.pair (.int .i64) (.pair (.int .i64) (.pair .bool (.pair (.int .i64) (.pair (.int .i64) (.pair (.int .i64) (.pair (.int .i64) (.sl (.int .u8)))))))))) j true)],2,0⟩)
theorem S20_0_okg (fuel:Nat) (b:YF49) (c:YF50) (d:YF51) (e:YF52) (a:YF53_43d) (R:Ev.St→OA) (K:KT) (g h:Int) (i j:Int) (k:Bool) (l m n:Int) (o:Bool) (p:Int) (f:(List (Int×(Int×(Int×(Bool×(Int×(Int×(Int×(Int×LI)))))))))):evalCode tab (Gg20 b c d e a) J0 kp20 fuel (bodyOf 0 Tryz.f20) (T20_0 (g,h,i,j,k,l,m,n,o,p,f)) (lc kp20 8 0 R K)=Sg_text_Order_0 fuel b c d e a g h i j k l m n o p f (fun v=>R (T20_0 v)) (E20_0 K):=by
  kernel_rfl
def B20_0 (fuel:Nat):Ev.Blk:=fun st K=>match canonO (kp20 8) st with | some s=>(match s with | ⟨[(f,.c (.ptr g h)),(i,.c (.own j)),(k,.c (i6 l)),(m,.c (i6 n))],[(o,.cells p [i6 q,i6 r,.bool t,i6 u,i6 v,i6 w,.bool x,i6 y]),(z,.vec a (.pair (.int .i64) (.pair (.int .i64) (.pair (.int .i64) (.pair .bool (.pair (.int .i64) (.pair (.int .i64) (.pair (.int .i64) (.pair (.int .i64) (.sl (.int .u8)))))))))) b true)],d,e⟩=>bif qb [f,g,h,i,j,k,m,o,p,z,a,d,e] [2,0,0,7,1,22,23,0,51,1,85,2,0] then iter (S_text_Order_0 fuel) fuel (l,n,q,r,t,u,v,w,x,y,b) (E20_0 K) else none | _=>none) | none=>none
theorem B20_0_ok (fuel:Nat) (st:Ev.St) (K:KT) (r:Ans) (h:B20_0 fuel st K=some r):evalCode tab (G20 fuel) J0 kp20 fuel (.block 0 (.loop (bodyOf 0 Tryz.f20))) st K=some r:=by
  unfold B20_0 at h
  split at h
  · rename_i s hs
    split at h
    · skip
      obtain ⟨hb,h⟩:=cond_some' h
      cases qb_eq hb
      exact blk_loop (S:=T20_0) (ks:=E20_0) (step:=S_text_Order_0 fuel) (v:=(_,_,_,_,_,_,_,_,_,_,_)) (by kernel_rfl) (by kernel_rfl) (fun R K v=>by obtain ⟨b,c,d,e,f,g,i,j,k,l,a⟩:=v; exact S20_0_okg fuel (F_text_begun fuel) (F_text_right fuel) (F_slices_Clone_api_Item_api_Item fuel) (F_slices_Clone_byte_byte fuel) (F_slices_SortStableFunc_api_Item_api_Item_43d fuel) R K b c d e f g i j k l a) hs h
    · cases h
  · cases h
def J20 (fuel:Nat) (i:Nat):Option Ev.Blk:=Ev.look i [(100000,B20_0 fuel)]
def Fg_text_Order (fuel:Nat) (w:YF49) (x:YF50) (y:YF51) (I:YF52) (l:YF53_43d) (a b:Int) (c:Bool) (d e f:Int) (g:Bool) (h:Int) (i:(List (Int×Int×Int×Bool×Int×Int×(Int×Int×LI)))) (k0:(Int×(List (Int×(Int×(Int×(Bool×(Int×(Int×(Int×(Int×LI))))))))))→OA):OA:=(w a b c d e f g h ([]) i (fun k=>bif k != 0 then k0 (k,[]) else (x a b c d e f g h (60) i (fun z=>bif !z then k0 (2,[]) else (y i (fun j=>(L_text_Order_0 fuel ((↑j.length:Int),0,a,b,c,d,e,f,g,h,j) (fun (n,o,p,q,r,s,t,u,v)=>(l v n o p q r s t u (fun (m,A,B,C,D,E,F,G,H)=>k0 (0,m)))))))))))
abbrev YF20:Type:=Int→Int→Bool→Int→Int→Int→Bool→Int→((List (Int×Int×Int×Bool×Int×Int×(Int×Int×LI))))→((Int×(List (Int×(Int×(Int×(Bool×(Int×(Int×(Int×(Int×LI))))))))))→Option Ans)→Option Ans
def F_text_Order (fuel:Nat):YF20:=Fg_text_Order fuel (F_text_begun fuel) (F_text_right fuel) (F_slices_Clone_api_Item_api_Item fuel) (F_slices_Clone_byte_byte fuel) (F_slices_SortStableFunc_api_Item_api_Item_43d fuel)
theorem F20_eqg (fuel:Nat) (b:YF49) (d:YF50) (e:YF51) (f:YF52) (a:YF53_43d) (g h:Int) (i:Bool) (j l m:Int) (n:Bool) (o:Int) (p:(List (Int×Int×Int×Bool×Int×Int×(Int×Int×LI)))) (k:Ev.Cont):evalFn tab (Gg20 b d e f a) (J20 fuel) kp20 fuel Tryz.f20 [.agg [i6 g,i6 h,.bool i,i6 j,i6 l,i6 m,.bool n,i6 o],.c (.sl (.pair (.int .i64) (.pair (.int .i64) (.pair (.int .i64) (.pair .bool (.pair (.int .i64) (.pair (.int .i64) (.pair (.int .i64) (.pair (.int .i64) (.sl (.int .u8)))))))))) p)] [] k=Fg_text_Order fuel b d e f a g h i j l m n o p (fun r=>match r with | (q,s)=>k (.tup [(false,[.own 0]),(false,[i6 q])],[.vec 85 (.pair (.int .i64) (.pair (.int .i64) (.pair (.int .i64) (.pair .bool (.pair (.int .i64) (.pair (.int .i64) (.pair (.int .i64) (.pair (.int .i64) (.sl (.int .u8)))))))))) s true])):=by
  kernel_rfl
theorem hG20 (fuel:Nat):GOK Tryz.prog (G20 fuel):=
  gc (ok49 fuel) Tryz.func49 (by kernel_rfl) rfl <|
  gc (ok50 fuel) Tryz.func50 (by kernel_rfl) rfl <|
  gc (ok51 fuel) Tryz.func51 (by kernel_rfl) rfl <|
  gc (ok52 fuel) Tryz.func52 (by kernel_rfl) rfl <|
  gc (ok53_43d fuel) Tryz.func53 (by kernel_rfl) rfl <|
  gok_nil
theorem B20_0_blk (fuel:Nat):BlkOK Tryz.prog Tryz.f20.ntmps (.block 0 (.loop (bodyOf 0 Tryz.f20))) (B20_0 fuel):=bo0 (hG20 fuel) (by kernel_rfl) (by kernel_rfl) (B20_0_ok fuel)
def spg20 (F:YF20):Ev.Spec:=fun args objs k=>match args,objs with | [.agg [i6 a,i6 b,.bool d,i6 e,i6 f,i6 g,.bool h,i6 i],.c (.sl (.pair (.int .i64) (.pair (.int .i64) (.pair (.int .i64) (.pair .bool (.pair (.int .i64) (.pair (.int .i64) (.pair (.int .i64) (.pair (.int .i64) (.sl (.int .u8)))))))))) j)],[]=>F a b d e f g h i j (fun r=>match r with | (l,m)=>k (.tup [(false,[.own 0]),(false,[i6 l])],[.vec 85 (.pair (.int .i64) (.pair (.int .i64) (.pair (.int .i64) (.pair .bool (.pair (.int .i64) (.pair (.int .i64) (.pair (.int .i64) (.pair (.int .i64) (.sl (.int .u8)))))))))) m true])) | _,_=>none
theorem ok20 (fuel:Nat):FnOK Tryz.prog 20 (spg20 (F_text_Order fuel)):=by
  intro args objs kk r h
  unfold spg20 at h
  split at h
  · skip
    exact fo1 (hG20 fuel) Tryz.func20 rfl (B20_0_blk fuel) (by kernel_rfl) _ _ kk r ((F20_eqg fuel (F_text_begun fuel) (F_text_right fuel) (F_slices_Clone_api_Item_api_Item fuel) (F_slices_Clone_byte_byte fuel) (F_slices_SortStableFunc_api_Item_api_Item_43d fuel) _ _ _ _ _ _ _ _ _ kk).trans h)
  · cases h
def kp6 (i:Nat):Option (List Nat):=Ev.look i []
def Gg6 (a:YF18) (b:YF19) (c:YF20) (d:YF21) (e:YF22) (f:Nat):Option Ev.Spec:=Ev.look f [(18,spg18 a),(19,spg19 b),(20,spg20 c),(21,spg21 d),(22,spg22 e)]
def G6 (fuel:Nat):Nat→Option Ev.Spec:=Gg6 (F_law10_long fuel) (F_law10_Awake fuel) (F_text_Order fuel) (F_ref10_Order fuel) (F_ref10_SameItems fuel)
def Fg_law10_TextOrder (fuel:Nat) (s:YF18) (b:YF19) (m:YF20) (t:YF21) (n:YF22) (c d:Int) (e:Bool) (f g h:Int) (i:Bool) (j:Int) (k:(List (Int×Int×Int×Bool×Int×Int×(Int×Int×LI)))) (k0:(Bool)→OA):OA:=(s ([]) k (fun y=>bif y then (b (fun z=>k0 z)) else (m c d e f g h i j k (fun (l,a)=>(t c d e f g h i j k (fun (o,p)=>bif l != o then k0 false else (n a p (fun u=>bif !u then k0 false else (m c d e f g h i j a (fun (q,r)=>bif l != 0 then (b (fun v=>k0 v)) else bif q==0 then (n r a (fun w=>bif w then (b (fun x=>k0 x)) else k0 false)) else k0 false))))))))))
abbrev YF6:Type:=Int→Int→Bool→Int→Int→Int→Bool→Int→((List (Int×Int×Int×Bool×Int×Int×(Int×Int×LI))))→(Bool→Option Ans)→Option Ans
def F_law10_TextOrder (fuel:Nat):YF6:=Fg_law10_TextOrder fuel (F_law10_long fuel) (F_law10_Awake fuel) (F_text_Order fuel) (F_ref10_Order fuel) (F_ref10_SameItems fuel)
theorem F6_eqg (fuel:Nat) (a:YF18) (b:YF19) (d:YF20) (e:YF21) (f:YF22) (g h:Int) (i:Bool) (j l m:Int) (n:Bool) (o:Int) (p:(List (Int×Int×Int×Bool×Int×Int×(Int×Int×LI)))) (k:Ev.Cont):evalFn tab (Gg6 a b d e f) J0 kp6 fuel Tryz.f6 [.agg [i6 g,i6 h,.bool i,i6 j,i6 l,i6 m,.bool n,i6 o],.c (.sl (.pair (.int .i64) (.pair (.int .i64) (.pair (.int .i64) (.pair .bool (.pair (.int .i64) (.pair (.int .i64) (.pair (.int .i64) (.pair (.int .i64) (.sl (.int .u8)))))))))) p)] [] k=Fg_law10_TextOrder fuel a b d e f g h i j l m n o p (fun r=>match r with | q=>k (.c (.bool q),[])):=by
  kernel_rfl
theorem hG6 (fuel:Nat):GOK Tryz.prog (G6 fuel):=
  gc (ok18 fuel) Tryz.func18 (by kernel_rfl) rfl <|
  gc (ok19 fuel) Tryz.func19 (by kernel_rfl) rfl <|
  gc (ok20 fuel) Tryz.func20 (by kernel_rfl) rfl <|
  gc (ok21 fuel) Tryz.func21 (by kernel_rfl) rfl <|
  gc (ok22 fuel) Tryz.func22 (by kernel_rfl) rfl <|
  gok_nil
def spg6 (F:YF6):Ev.Spec:=fun args objs k=>match args,objs with | [.agg [i6 a,i6 b,.bool d,i6 e,i6 f,i6 g,.bool h,i6 i],.c (.sl (.pair (.int .i64) (.pair (.int .i64) (.pair (.int .i64) (.pair .bool (.pair (.int .i64) (.pair (.int .i64) (.pair (.int .i64) (.pair (.int .i64) (.sl (.int .u8)))))))))) j)],[]=>F a b d e f g h i j (fun r=>match r with | l=>k (.c (.bool l),[])) | _,_=>none
def spec6 (fuel:Nat):Ev.Spec:=spg6 (F_law10_TextOrder fuel)
theorem ok6 (fuel:Nat):FnOK Tryz.prog 6 (spec6 fuel):=by
  intro args objs kk r h
  unfold spec6 spg6 at h
  split at h
  · skip
    exact fo0 (hG6 fuel) Tryz.func6 rfl (by kernel_rfl) _ _ kk r ((F6_eqg fuel (F_law10_long fuel) (F_law10_Awake fuel) (F_text_Order fuel) (F_ref10_Order fuel) (F_ref10_SameItems fuel) _ _ _ _ _ _ _ _ _ kk).trans h)
  · cases h
end
end Go.Proofs.YtmjeeaemmbkioaaGreat

